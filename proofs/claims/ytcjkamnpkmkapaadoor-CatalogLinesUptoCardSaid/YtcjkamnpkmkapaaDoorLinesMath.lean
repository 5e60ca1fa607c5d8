import Derived.Test.YtcjkamnpkmkapaaDoorBackMath
namespace Go.Proofs.YtcjkamnpkmkapaaDoor
theorem pieces_cat (s t : List UInt8) : ∀ (st : Nat) (cur : List UInt8), ∃ A x p, pieces st cur s = A ++ [(p, x)] ∧ ∀ e : List UInt8, (∀ c ∈ e, c ≠ 10) → pieces st cur (s ++ (e ++ 10 :: t)) = A ++ (p, x ++ e) :: pieces (st + cur.length + s.length + e.length + 1) [] t := by
  induction s with
  | nil =>
    intro st cur
    refine ⟨[], cur, st, by simp [pieces], fun e he => ?_⟩
    rw [List.nil_append, pieces_app e t he]; simp
  | cons c s ih =>
    intro st cur
    by_cases hc : c = 10
    · subst hc
      obtain ⟨A, x, p, h1, h2⟩ := ih (st + cur.length + 1) []
      refine ⟨(st, cur) :: A, x, p, by rw [pieces, if_pos rfl, h1]; rfl, fun e he => ?_⟩
      rw [List.cons_append, pieces, if_pos rfl, h2 e he]
      simp only [List.length_nil, List.length_cons, Nat.add_zero, List.cons_append]
      rw [show st + cur.length + 1 + s.length + e.length + 1 = st + cur.length + (s.length + 1) + e.length + 1 by omega]
    · obtain ⟨A, x, p, h1, h2⟩ := ih st (cur ++ [c])
      refine ⟨A, x, p, by rw [pieces, if_neg hc, h1], fun e he => ?_⟩
      rw [List.cons_append, pieces, if_neg hc, h2 e he]
      simp only [List.length_append, List.length_cons, List.length_nil]
      rw [show st + (cur.length + (0 + 1)) + s.length + e.length + 1 = st + cur.length + (s.length + 1) + e.length + 1 by omega]
theorem linesP_app (ps qs : List (Nat × List UInt8)) : ∀ (acc : List Off), linesP (ps ++ qs) acc = match linesP ps acc with | .error e => .error e | .ok acc' => linesP qs acc' := by
  induction ps with
  | nil => intro acc; rfl
  | cons x ps ih =>
    intro acc
    simp only [List.cons_append, linesP]
    cases lineP x.1 x.2 acc with
    | error e => rfl
    | ok a => exact ih a
/-! ### the same lines further on -/
def shW (k : Nat) (w : Wd) : Wd := (w.1, w.2 + k)
def shP (k : Nat) (x : Nat × List UInt8) : Nat × List UInt8 := (x.1 + k, x.2)
def shR {α : Type} (k : Nat) : Except (Int × Nat) α → Except (Int × Nat) α | .ok l => .ok l | .error e => .error (e.1, e.2 + k)
theorem pieces_sh (k : Nat) (t : List UInt8) : ∀ (st : Nat) (cur : List UInt8), pieces (st + k) cur t = (pieces st cur t).map (shP k) := by
  induction t with
  | nil => intro st cur; rfl
  | cons c t ih =>
    intro st cur
    rw [pieces, pieces]
    by_cases hc : c = 10
    · rw [if_pos hc, if_pos hc, show st + k + cur.length + 1 = st + cur.length + 1 + k by omega, ih]; rfl
    · rw [if_neg hc, if_neg hc, ih]
theorem words_sh (k : Nat) (t : List UInt8) : ∀ (cur : List UInt8) (i : Nat), cur.length ≤ i → wordsF cur (i + k) t = (wordsF cur i t).map (shW k) := by
  induction t with
  | nil =>
    intro cur i hi
    rw [wordsF, wordsF]
    by_cases hc : cur = []
    · rw [if_pos hc, if_pos hc]; rfl
    · rw [if_neg hc, if_neg hc]
      simp only [List.map_cons, List.map_nil, shW]
      rw [show i + k - cur.length = i - cur.length + k by omega]
  | cons c t ih =>
    intro cur i hi
    rw [wordsF, wordsF]
    by_cases hb : blankC c = true
    · rw [if_pos hb, if_pos hb]
      by_cases hc : cur = []
      · rw [if_pos hc, if_pos hc, show i + k + 1 = i + 1 + k by omega, ih [] (i + 1) (by simp)]
      · rw [if_neg hc, if_neg hc, show i + k + 1 = i + 1 + k by omega, ih [] (i + 1) (by simp)]
        simp only [List.map_cons, shW]
        rw [show i + k - cur.length = i - cur.length + k by omega]
    · rw [if_neg hb, if_neg hb, show i + k + 1 = i + 1 + k by omega, ih (cur ++ [c]) (i + 1) (by simp; omega)]
theorem split_sh (k : Nat) (t : List UInt8) (i : Nat) : splitP t (i + k) = (splitP t i).map (shW k) := words_sh k _ [] i (by simp)
theorem entry_sh (k : Nat) (ws : List Wd) : ∀ (i : Nat) (used : List (List UInt8)) (o : Off), entryF (ws.map (shW k)) i used o = entryF ws i used o := by
  match ws with
  | [] => intro i used o; rfl
  | [x] => intro i used o; rfl
  | x :: y :: r =>
    intro i used o
    rw [List.map_cons, List.map_cons, entryF, entryF]
    have e1 : (shW k x).1 = x.1 := rfl
    have e2 : (shW k y).1 = y.1 := rfl
    rw [e1, e2]
    split
    · rfl
    · cases setKey x.1 y.1 o with
      | none => rfl
      | some o' => exact entry_sh k r _ _ _
theorem line_sh (k st : Nat) (l : List UInt8) (acc : List Off) : lineP (st + k) l acc = shR k (lineP st l acc) := by
  unfold lineP
  rw [split_sh]
  cases hs : splitP l st with
  | nil => rfl
  | cons w ws =>
    simp only [List.map_cons, entry_sh]
    have e1 : (shW k w).1 = w.1 := rfl
    have e2 : (shW k w).2 = w.2 + k := rfl
    rw [e1, e2]
    split
    · rfl
    split
    · rfl
    split
    · rfl
    have hf := entryF_facts ws 1 [] (initO w.1)
    cases he : entryF ws 1 [] (initO w.1) with
    | ok o => rfl
    | error i =>
      rw [he] at hf
      simp only [shR]
      have hi : i < (w :: ws).length := by simp only [List.length_cons] at hf ⊢; omega
      have e3 : (shW k w :: List.map (shW k) ws) = (w :: ws).map (shW k) := rfl
      rw [e3]
      simp only [List.getD, List.getElem?_map, List.getElem?_eq_getElem hi, Option.map_some, Option.getD_some]
      rfl
theorem lines_sh (k : Nat) (ps : List (Nat × List UInt8)) : ∀ acc, linesP (ps.map (shP k)) acc = shR k (linesP ps acc) := by
  induction ps with
  | nil => intro acc; rfl
  | cons x ps ih =>
    intro acc
    simp only [List.map_cons, linesP]
    have e : lineP (shP k x).1 (shP k x).2 acc = shR k (lineP x.1 x.2 acc) := line_sh k x.1 x.2 acc
    rw [e]
    cases lineP x.1 x.2 acc with
    | error e => rfl
    | ok a => exact ih a
/-! ### blanks and comments at a line's end -/
theorem words_blank (t : List UInt8) : ∀ (cur : List UInt8) (i : Nat), wordsF cur i (t ++ [32]) = wordsF cur i t := by
  induction t with
  | nil =>
    intro cur i
    have hb : blankC 32 = true := by decide
    simp [wordsF, hb]
  | cons c t ih =>
    intro cur i
    rw [List.cons_append, wordsF, wordsF, ih, ih]
theorem uncomment_end (x r : List UInt8) : uncomment (x ++ 32 :: 35 :: r) = uncomment x ∨ uncomment (x ++ 32 :: 35 :: r) = uncomment x ++ [32] := by
  unfold uncomment
  induction x with
  | nil => right; rfl
  | cons c x ih =>
    rw [List.cons_append, List.takeWhile_cons, List.takeWhile_cons]
    by_cases hc : (c != 35) = true
    · rw [if_pos hc, if_pos hc]
      rcases ih with h | h
      · left; rw [h]
      · right; rw [h]; rfl
    · rw [if_neg hc, if_neg hc]; left; rfl
theorem split_end (x r : List UInt8) (i : Nat) : splitP (x ++ 32 :: 35 :: r) i = splitP x i := by
  unfold splitP
  rcases uncomment_end x r with h | h
  · rw [h]
  · rw [h, words_blank]
theorem line_end (x r : List UInt8) (i : Nat) (acc : List Off) : lineP i (x ++ 32 :: 35 :: r) acc = lineP i x acc := by
  unfold lineP; rw [split_end]
theorem line_mid (i : Nat) (acc : List Off) : lineP i [9, 13] acc = .ok acc := lineP_none (by simp [splitP, uncomment, wordsF, blankC])
/-- two texts as separate lines -/
theorem parse_two (s t : List UInt8) (l : List Off) (hs : parseP s = .ok l) : parseP (s ++ (10 :: t)) = shR (s.length + 1) (linesP (pieces 0 [] t) l) ∧ parseP (s ++ ([32, 35, 32, 100, 111, 10, 9, 13, 10] ++ t)) = shR (s.length + 9) (linesP (pieces 0 [] t) l) := by
  obtain ⟨A, x, p, h1, h2⟩ := pieces_cat s t 0 []
  obtain ⟨A', x', p', h1', h2'⟩ := pieces_cat s ([9, 13, 10] ++ t) 0 []
  have hs1 : linesP (A ++ [(p, x)]) [] = .ok l := by rw [← h1]; exact hs
  have hs2 : linesP (A' ++ [(p', x')]) [] = .ok l := by rw [← h1']; exact hs
  constructor
  · unfold parseP
    have e := h2 [] (by simp)
    rw [List.nil_append, List.append_nil] at e
    rw [e, show A ++ (p, x) :: pieces (0 + ([] : List UInt8).length + s.length + ([] : List UInt8).length + 1) [] t = (A ++ [(p, x)]) ++ pieces (0 + ([] : List UInt8).length + s.length + ([] : List UInt8).length + 1) [] t by simp, linesP_app, hs1]
    simp only [List.length_nil, Nat.add_zero, Nat.zero_add]
    rw [← lines_sh, ← pieces_sh, Nat.zero_add]
  · unfold parseP
    have e := h2' [32, 35, 32, 100, 111] (by decide)
    have e0 : s ++ ([32, 35, 32, 100, 111, 10, 9, 13, 10] ++ t) = s ++ ([32, 35, 32, 100, 111] ++ 10 :: ([9, 13, 10] ++ t)) := by simp
    have e1 : linesP (A' ++ [(p', x' ++ [32, 35, 32, 100, 111])]) [] = .ok l := by
      rw [linesP_app] at hs2 ⊢
      cases hA : linesP A' [] with
      | error er => rw [hA] at hs2; cases hs2
      | ok a =>
        rw [hA] at hs2
        simp only [linesP] at hs2 ⊢
        rw [show x' ++ [32, 35, 32, 100, 111] = x' ++ 32 :: 35 :: [32, 100, 111] from rfl, line_end]
        exact hs2
    have e2 : pieces (0 + ([] : List UInt8).length + s.length + ([32, 35, 32, 100, 111] : List UInt8).length + 1) [] ([9, 13, 10] ++ t) = (s.length + 6, [9, 13]) :: pieces (s.length + 9) [] t := by
      have := pieces_app [9, 13] t (by decide) (0 + ([] : List UInt8).length + s.length + ([32, 35, 32, 100, 111] : List UInt8).length + 1) []
      rw [show ([9, 13, 10] ++ t : List UInt8) = [9, 13] ++ 10 :: t from rfl, this]
      simp only [List.length_nil, List.length_cons, List.nil_append]
      rw [show 0 + 0 + s.length + (0 + 1 + 1 + 1 + 1 + 1) + 1 = s.length + 6 by omega, show s.length + 6 + 0 + (0 + 1 + 1) + 1 = s.length + 9 by omega]
    rw [e0, e, e2, show A' ++ (p', x' ++ [32, 35, 32, 100, 111]) :: (s.length + 6, [9, 13]) :: pieces (s.length + 9) [] t = (A' ++ [(p', x' ++ [32, 35, 32, 100, 111])]) ++ ((s.length + 6, [9, 13]) :: pieces (s.length + 9) [] t) by simp, linesP_app, e1]
    simp only [linesP, line_mid]
    have := pieces_sh (s.length + 9) t 0 []
    rw [Nat.zero_add] at this
    rw [this, lines_sh]
/-! ### on top of other entries -/
theorem lineP_next {st : Nat} {l : List UInt8} {c c' : List Off} (hy : lineP st l c = .ok c') : c' = c ∨ ∃ o, c' = c ++ [o] := by
  unfold lineP at hy
  cases hsy : splitP l st with
  | nil => rw [hsy] at hy; injection hy with hy; exact .inl hy.symm
  | cons w2 ws2 =>
    rw [hsy] at hy
    simp only at hy
    split at hy
    · cases hy
    split at hy
    · cases hy
    split at hy
    · cases hy
    split at hy
    · cases hy
    · injection hy with hy; exact .inr ⟨_, hy.symm⟩
theorem linesP_prefix (qs : List (Nat × List UInt8)) : ∀ (c n : List Off), linesP qs c = .ok n → ∃ new, n = c ++ new := by
  induction qs with
  | nil => intro c n hq; rw [linesP] at hq; injection hq with hq; subst hq; exact ⟨[], by simp⟩
  | cons y qs ihq =>
    intro c n hq
    rw [linesP] at hq
    cases hy : lineP y.1 y.2 c with
    | error e => rw [hy] at hq; cases hq
    | ok c' =>
      rw [hy] at hq
      obtain ⟨nw, rfl⟩ := ihq c' n hq
      rcases lineP_next hy with rfl | ⟨o2, rfl⟩
      · exact ⟨nw, rfl⟩
      · exact ⟨o2 :: nw, by simp⟩
def bad (a new : List Off) (m : Nat) : Prop := (∃ o ∈ new, o.name.data.toList ∈ nmL a) ∨ 256 < a.length + m
theorem merge (a : List Off) (ps : List (Nat × List UInt8)) : ∀ (b m : List Off), linesP ps b = .ok m → a.length + b.length ≤ 256 → ∃ new, m = b ++ new ∧ (¬ bad a new m.length → linesP ps (a ++ b) = .ok (a ++ m)) ∧ (bad a new m.length → ∃ e : Int × Nat, linesP ps (a ++ b) = .error e) := by
  induction ps with
  | nil =>
    intro b m h hl
    rw [linesP] at h
    injection h with h
    subst h
    refine ⟨[], by simp, fun _ => rfl, fun hb => ?_⟩
    rcases hb with ⟨o, ho, _⟩ | hb
    · cases ho
    · omega
  | cons x ps ih =>
    intro b m h hl
    rw [linesP] at h
    cases hx : lineP x.1 x.2 b with
    | error e => rw [hx] at h; cases h
    | ok b' =>
      rw [hx] at h
      simp only at h
      cases hs : splitP x.2 x.1 with
      | nil =>
        have : b' = b := by rw [lineP_none hs] at hx; injection hx with hx; exact hx.symm
        subst this
        obtain ⟨new, h1, h2, h3⟩ := ih b' m h hl
        have e : linesP (x :: ps) (a ++ b') = linesP ps (a ++ b') := by rw [linesP, lineP_none hs]
        exact ⟨new, h1, by rw [e]; exact h2, by rw [e]; exact h3⟩
      | cons w ws =>
        have hnm : nameB (nats (str w.1)) = true := by
          cases hn : nameB (nats (str w.1)) with
          | true => rfl
          | false => rw [lineP_name hs hn] at hx; cases hx
        have htw : w.1 ∉ nmL b := fun ht => by rw [lineP_twice hs hnm ht] at hx; cases hx
        have hfu : b.length ≠ 256 := fun hf => by rw [lineP_full hs hnm htw hf] at hx; cases hx
        cases he : entryF ws 1 [] (initO w.1) with
        | error i => rw [lineP_bad hs hnm htw hfu he] at hx; cases hx
        | ok o =>
          rw [lineP_good hs hnm htw hfu he] at hx
          injection hx with hx
          subst hx
          have hf := entryF_facts ws 1 [] (initO w.1)
          rw [he] at hf
          have hon : o.name.data.toList = w.1 := by
            have h2 : o.name = str w.1 := hf
            rw [h2, data_str]
          by_cases hta : w.1 ∈ nmL a
          · obtain ⟨new, h1⟩ : ∃ new, m = (b ++ [o]) ++ new := linesP_prefix ps _ _ h
            have hb : bad a (o :: new) m.length := .inl ⟨o, List.mem_cons_self .., by rw [hon]; exact hta⟩
            refine ⟨o :: new, by rw [h1]; simp, fun hn => absurd hb hn, fun _ => ⟨(4, w.2), ?_⟩⟩
            rw [linesP, lineP_twice hs hnm (by
              show w.1 ∈ nmL (a ++ b)
              unfold nmL at hta ⊢; rw [List.map_append]; exact List.mem_append_left _ hta)]
          · have htab : w.1 ∉ (a ++ b).map (fun o => o.name.data.toList) := by
              rw [List.map_append]
              intro hm
              exact (List.mem_append.1 hm).elim hta htw
            by_cases hla : (a ++ b).length = 256
            · have hlm : b.length + 1 ≤ m.length := by
                obtain ⟨nw, hnw⟩ := linesP_prefix ps _ _ h
                rw [hnw, List.length_append, List.length_append, List.length_singleton]; omega
              obtain ⟨new, h1⟩ : ∃ new, m = (b ++ [o]) ++ new := linesP_prefix ps _ _ h
              have hb : bad a (o :: new) m.length := .inr (by rw [List.length_append] at hla; omega)
              refine ⟨o :: new, by rw [h1]; simp, fun hn => absurd hb hn, fun _ => ⟨(3, w.2), ?_⟩⟩
              rw [linesP, lineP_full hs hnm htab hla]
            · rw [List.length_append] at hla
              obtain ⟨new, h1, h2, h3⟩ := ih (b ++ [o]) m h (by simp; omega)
              have e : linesP (x :: ps) (a ++ b) = linesP ps (a ++ (b ++ [o])) := by
                rw [linesP, lineP_good hs hnm htab (by rw [List.length_append]; exact hla) he, List.append_assoc]
              have hbi : bad a (o :: new) m.length ↔ bad a new m.length := by
                unfold bad
                constructor
                · rintro (⟨q, hq, hq2⟩ | hq)
                  · rcases List.mem_cons.1 hq with rfl | hq
                    · rw [hon] at hq2; exact absurd hq2 hta
                    · exact .inl ⟨q, hq, hq2⟩
                  · exact .inr hq
                · rintro (⟨q, hq, hq2⟩ | hq)
                  · exact .inl ⟨q, List.mem_cons_of_mem _ hq, hq2⟩
                  · exact .inr hq
              refine ⟨o :: new, by rw [h1]; simp, fun hn => ?_, fun hb => ?_⟩
              · rw [e]; exact h2 (fun hb => hn (hbi.2 hb))
              · rw [e]; exact h3 (hbi.1 hb)
/-- the law of CatalogLines -/
theorem lines_law (s t : List UInt8) (l m : List Off) (hs : parseP s = .ok l) (ht : parseP t = .ok m) :
    (¬ bad l m m.length → parseP (s ++ (10 :: t)) = .ok (l ++ m) ∧ parseP (s ++ ([32, 35, 32, 100, 111, 10, 9, 13, 10] ++ t)) = .ok (l ++ m)) ∧
    (bad l m m.length → ∃ (c : Int) (p : Nat), c ≠ 0 ∧ parseP (s ++ (10 :: t)) = .error (c, p + (s.length + 1)) ∧ parseP (s ++ ([32, 35, 32, 100, 111, 10, 9, 13, 10] ++ t)) = .error (c, p + (s.length + 9))) := by
  obtain ⟨h1, h2⟩ := parse_two s t l hs
  have hl := (parse_vd hs).len
  obtain ⟨new, e1, e2, e3⟩ := merge l (pieces 0 [] t) [] m ht (by simp; omega)
  rw [List.nil_append] at e1
  subst e1
  rw [List.append_nil] at e2 e3
  constructor
  · intro hb
    rw [h1, h2, e2 hb]; exact ⟨rfl, rfl⟩
  · intro hb
    obtain ⟨⟨c, p⟩, he⟩ := e3 hb
    refine ⟨c, p, ?_, by rw [h1, he]; rfl, by rw [h2, he]; rfl⟩
    have := linesP_code _ he
    simp only at this; omega
end Go.Proofs.YtcjkamnpkmkapaaDoor
