import Derived.Test.YtcjkamnpkmkapaaDoorSplitMath
namespace Go.Proofs.YtcjkamnpkmkapaaDoor
def lineOf (l : List UInt8) : List UInt8 := l.takeWhile (· != 10)
theorem pieces_line (l : List UInt8) : ∀ (p : Nat) (cur : List UInt8), pieces p cur l = (p, cur ++ lineOf l) :: (if (lineOf l).length < l.length then pieces (p + cur.length + (lineOf l).length + 1) [] (l.drop ((lineOf l).length + 1)) else []) := by
  induction l with
  | nil => intro p cur; simp [pieces, lineOf]
  | cons c cs ih =>
    intro p cur
    by_cases hc : c = 10
    · subst hc
      simp [pieces, lineOf]
    · have e : lineOf (c :: cs) = c :: lineOf cs := by
        unfold lineOf
        rw [List.takeWhile_cons, if_pos (by simpa using hc)]
      rw [pieces, if_neg hc, ih, e]
      simp only [List.append_assoc, List.singleton_append, List.length_append, List.length_cons, List.length_nil, List.drop_succ_cons, Nat.add_lt_add_iff_right]
      rw [show p + (cur.length + (0 + 1)) + (lineOf cs).length + 1 = p + cur.length + ((lineOf cs).length + 1) + 1 by omega]
def remP (l : List UInt8) (p : Nat) : List (Nat × List UInt8) := if p ≤ l.length then pieces p [] (l.drop p) else []
theorem remP_step (l : List UInt8) (p : Nat) (h : p < l.length) : remP l p = (p, lineOf (l.drop p)) :: remP l (p + (lineOf (l.drop p)).length + 1) := by
  unfold remP
  rw [if_pos (by omega), pieces_line]
  simp only [List.nil_append, List.length_nil, Nat.add_zero, List.length_drop, List.drop_drop]
  congr 1
  by_cases hc : (lineOf (l.drop p)).length < l.length - p
  · rw [if_pos hc, if_pos (by omega)]
    congr 1
  · rw [if_neg hc, if_neg (by omega)]
theorem lineP_nil (p : Nat) (acc : List Off) : lineP p [] acc = .ok acc := by
  simp [lineP, splitP, uncomment, wordsF]
theorem remP_end (l : List UInt8) (p : Nat) (h : l.length ≤ p) (acc : List Off) : linesP (remP l p) acc = .ok acc := by
  unfold remP
  by_cases e : p ≤ l.length
  · rw [if_pos e, List.drop_of_length_le h]
    simp [pieces, linesP, lineP_nil]
  · rw [if_neg e]; rfl
theorem remP_zero (l : List UInt8) : linesP (remP l 0) [] = parseP l := by
  simp [remP, parseP]
theorem linesP_step (l : List UInt8) (p : Nat) (h : p < l.length) (acc : List Off) : linesP (remP l p) acc = match lineP p (lineOf (l.drop p)) acc with | .error e => .error e | .ok acc' => linesP (remP l (p + (lineOf (l.drop p)).length + 1)) acc' := by
  rw [remP_step l p h]; rfl
theorem wordsF_len (l : List UInt8) : ∀ (cur : List UInt8) (i : Nat), ∀ x ∈ wordsF cur i l, x.1.length ≤ cur.length + l.length ∧ x.2 ≤ i + l.length ∧ 1 ≤ x.1.length := by
  induction l with
  | nil =>
    intro cur i x hx
    rw [wordsF] at hx
    split at hx
    · cases hx
    · rename_i hc
      rw [List.mem_singleton] at hx
      subst hx
      have : cur.length ≠ 0 := fun h => hc (List.length_eq_zero_iff.1 h)
      simp; omega
  | cons c cs ih =>
    intro cur i x hx
    rw [wordsF] at hx
    simp only [List.length_cons]
    split at hx
    · split at hx
      · have := ih [] (i + 1) x hx
        simp at this; omega
      · rename_i hc
        have hc' : cur.length ≠ 0 := fun h => hc (List.length_eq_zero_iff.1 h)
        rcases List.mem_cons.1 hx with rfl | hx
        · simp; omega
        · have := ih [] (i + 1) x hx
          simp at this; omega
    · have := ih (cur ++ [c]) (i + 1) x hx
      rw [List.length_append, List.length_singleton] at this; omega
theorem uncomment_le (l : List UInt8) : (uncomment l).length ≤ l.length := (List.takeWhile_sublist _).length_le
theorem splitP_len (l : List UInt8) (i : Nat) : ∀ x ∈ splitP l i, x.1.length ≤ l.length ∧ x.2 ≤ i + l.length ∧ 1 ≤ x.1.length := by
  intro x hx
  have := wordsF_len (uncomment l) [] i x hx
  have h2 := uncomment_le l
  simp at this; omega
theorem wordsF_count (l : List UInt8) : ∀ (cur : List UInt8) (i : Nat), (wordsF cur i l).length ≤ l.length + 1 := by
  induction l with
  | nil => intro cur i; rw [wordsF]; split <;> simp
  | cons c cs ih =>
    intro cur i
    rw [wordsF]
    split
    · split
      · have := ih [] (i + 1); simp; omega
      · have := ih [] (i + 1); simp; omega
    · have := ih (cur ++ [c]) (i + 1); simp; omega
theorem splitP_count (l : List UInt8) (i : Nat) : (splitP l i).length ≤ l.length + 1 := by
  have := wordsF_count (uncomment l) [] i
  have h2 := uncomment_le l
  unfold splitP; omega
theorem lineOf_le (l : List UInt8) : (lineOf l).length ≤ l.length := (List.takeWhile_sublist _).length_le
/-- the cases of a line -/
theorem lineP_none {p : Nat} {l : List UInt8} {acc : List Off} (h : splitP l p = []) : lineP p l acc = .ok acc := by unfold lineP; rw [h]
theorem lineP_name {p : Nat} {l : List UInt8} {acc : List Off} {x : Wd} {r : List Wd} (h : splitP l p = x :: r) (hn : nameB (nats (str x.1)) = false) : lineP p l acc = .error (2, x.2) := by
  unfold lineP; rw [h]; simp only; rw [if_pos hn]
theorem lineP_twice {p : Nat} {l : List UInt8} {acc : List Off} {x : Wd} {r : List Wd} (h : splitP l p = x :: r) (hn : nameB (nats (str x.1)) = true) (ht : x.1 ∈ acc.map (fun o => o.name.data.toList)) : lineP p l acc = .error (4, x.2) := by
  unfold lineP; rw [h]; simp only; rw [if_neg (by rw [hn]; decide), if_pos ht]
theorem lineP_full {p : Nat} {l : List UInt8} {acc : List Off} {x : Wd} {r : List Wd} (h : splitP l p = x :: r) (hn : nameB (nats (str x.1)) = true) (ht : x.1 ∉ acc.map (fun o => o.name.data.toList)) (hf : acc.length = 256) : lineP p l acc = .error (3, x.2) := by
  unfold lineP; rw [h]; simp only; rw [if_neg (by rw [hn]; decide), if_neg ht, if_pos hf]
theorem lineP_bad {p : Nat} {l : List UInt8} {acc : List Off} {x : Wd} {r : List Wd} (h : splitP l p = x :: r) (hn : nameB (nats (str x.1)) = true) (ht : x.1 ∉ acc.map (fun o => o.name.data.toList)) (hf : acc.length ≠ 256) {i : Nat} (he : entryF r 1 [] (initO x.1) = .error i) : lineP p l acc = .error (2, ((x :: r).getD i ([], 0)).2) := by
  unfold lineP; rw [h]; simp only; rw [if_neg (by rw [hn]; decide), if_neg ht, if_neg hf, he]
theorem lineP_good {p : Nat} {l : List UInt8} {acc : List Off} {x : Wd} {r : List Wd} (h : splitP l p = x :: r) (hn : nameB (nats (str x.1)) = true) (ht : x.1 ∉ acc.map (fun o => o.name.data.toList)) (hf : acc.length ≠ 256) {o : Off} (he : entryF r 1 [] (initO x.1) = .ok o) : lineP p l acc = .ok (acc ++ [o]) := by
  unfold lineP; rw [h]; simp only; rw [if_neg (by rw [hn]; decide), if_neg ht, if_neg hf, he]
theorem setKey_name {k v : List UInt8} {o o' : Off} (h : setKey k v o = some o') : o'.name = o.name := by
  unfold setKey at h
  repeat' split at h
  all_goals (obtain ⟨n, _, rfl⟩ := Option.map_eq_some_iff.1 h; rfl)
theorem entryF_facts (ws : List Wd) : ∀ (i : Nat) (used : List (List UInt8)) (o : Off), match entryF ws i used o with | .ok o' => o'.name = o.name | .error j => i ≤ j ∧ j < i + ws.length := by
  match ws with
  | [] => intro i used o; rfl
  | [x] => intro i used o; simp [entryF]
  | x :: y :: r =>
    intro i used o
    rw [entryF]
    by_cases hb : keyB x.1 = false ∨ x.1 ∈ used
    · rw [if_pos hb]; simp
    · rw [if_neg hb]
      cases hs : setKey x.1 y.1 o with
      | none => simp
      | some o' =>
        have := entryF_facts r (i + 2) (x.1 :: used) o'
        simp only
        split at this
        · rw [this, setKey_name hs]
        · simp only [List.length_cons]; omega
end Go.Proofs.YtcjkamnpkmkapaaDoor
