import Derived.Test.YtbmknjfgjphfbaaGreatDoorCa
import Derived.Deep.QuietTactic
import Derived.BigQuiet
import Derived.Laws.CopyOwn
namespace Go.Proofs.YtbmknjfgjphfbaaGreatDoor.C
def lineOf (l : List UInt8) : List UInt8 := l.takeWhile (· != 10)
theorem pieces_line (l : List UInt8) : ∀ (p : Nat) (cur : List UInt8), pieces p cur l = (p, cur ++ lineOf l) :: (if (lineOf l).length < l.length then pieces (p + cur.length + (lineOf l).length + 1) [] (l.drop ((lineOf l).length + 1)) else []) := by
  induction l with
  | nil => intro p cur; simp [pieces, lineOf]
  | cons c cs ih =>
    intro p cur
    by_cases hc : c = 10
    · subst hc
      simp [pieces, lineOf]
    · have e : lineOf (c :: cs) = c :: lineOf cs := by
        unfold lineOf
        rw [List.takeWhile_cons, if_pos (by simpa using hc)]
      rw [pieces, if_neg hc, ih, e]
      simp only [List.append_assoc, List.singleton_append, List.length_append, List.length_cons, List.length_nil, List.drop_succ_cons, Nat.add_lt_add_iff_right]
      rw [show p + (cur.length + (0 + 1)) + (lineOf cs).length + 1 = p + cur.length + ((lineOf cs).length + 1) + 1 by omega]
def remP (l : List UInt8) (p : Nat) : List (Nat × List UInt8) := if p ≤ l.length then pieces p [] (l.drop p) else []
theorem remP_step (l : List UInt8) (p : Nat) (h : p < l.length) : remP l p = (p, lineOf (l.drop p)) :: remP l (p + (lineOf (l.drop p)).length + 1) := by
  unfold remP
  rw [if_pos (by omega), pieces_line]
  simp only [List.nil_append, List.length_nil, Nat.add_zero, List.length_drop, List.drop_drop]
  congr 1
  by_cases hc : (lineOf (l.drop p)).length < l.length - p
  · rw [if_pos hc, if_pos (by omega)]
    congr 1
  · rw [if_neg hc, if_neg (by omega)]
theorem lineP_nil (p : Nat) (acc : List Off) : lineP p [] acc = .ok acc := by
  simp [lineP, splitP, uncomment, wordsF]
theorem remP_end (l : List UInt8) (p : Nat) (h : l.length ≤ p) (acc : List Off) : linesP (remP l p) acc = .ok acc := by
  unfold remP
  by_cases e : p ≤ l.length
  · rw [if_pos e, List.drop_of_length_le h]
    simp [pieces, linesP, lineP_nil]
  · rw [if_neg e]; rfl
theorem remP_zero (l : List UInt8) : linesP (remP l 0) [] = parseP l := by
  simp [remP, parseP]
theorem linesP_step (l : List UInt8) (p : Nat) (h : p < l.length) (acc : List Off) : linesP (remP l p) acc = match lineP p (lineOf (l.drop p)) acc with | .error e => .error e | .ok acc' => linesP (remP l (p + (lineOf (l.drop p)).length + 1)) acc' := by
  rw [remP_step l p h]; rfl
theorem wordsF_len (l : List UInt8) : ∀ (cur : List UInt8) (i : Nat), ∀ x ∈ wordsF cur i l, x.1.length ≤ cur.length + l.length ∧ x.2 ≤ i + l.length ∧ 1 ≤ x.1.length := by
  induction l with
  | nil =>
    intro cur i x hx
    rw [wordsF] at hx
    split at hx
    · cases hx
    · rename_i hc
      rw [List.mem_singleton] at hx
      subst hx
      have : cur.length ≠ 0 := fun h => hc (List.length_eq_zero_iff.1 h)
      simp; omega
  | cons c cs ih =>
    intro cur i x hx
    rw [wordsF] at hx
    simp only [List.length_cons]
    split at hx
    · split at hx
      · have := ih [] (i + 1) x hx
        simp at this; omega
      · rename_i hc
        have hc' : cur.length ≠ 0 := fun h => hc (List.length_eq_zero_iff.1 h)
        rcases List.mem_cons.1 hx with rfl | hx
        · simp; omega
        · have := ih [] (i + 1) x hx
          simp at this; omega
    · have := ih (cur ++ [c]) (i + 1) x hx
      rw [List.length_append, List.length_singleton] at this; omega
theorem uncomment_le (l : List UInt8) : (uncomment l).length ≤ l.length := (List.takeWhile_sublist _).length_le
theorem splitP_len (l : List UInt8) (i : Nat) : ∀ x ∈ splitP l i, x.1.length ≤ l.length ∧ x.2 ≤ i + l.length ∧ 1 ≤ x.1.length := by
  intro x hx
  have := wordsF_len (uncomment l) [] i x hx
  have h2 := uncomment_le l
  simp at this; omega
theorem wordsF_count (l : List UInt8) : ∀ (cur : List UInt8) (i : Nat), (wordsF cur i l).length ≤ l.length + 1 := by
  induction l with
  | nil => intro cur i; rw [wordsF]; split <;> simp
  | cons c cs ih =>
    intro cur i
    rw [wordsF]
    split
    · split
      · have := ih [] (i + 1); simp; omega
      · have := ih [] (i + 1); simp; omega
    · have := ih (cur ++ [c]) (i + 1); simp; omega
theorem splitP_count (l : List UInt8) (i : Nat) : (splitP l i).length ≤ l.length + 1 := by
  have := wordsF_count (uncomment l) [] i
  have h2 := uncomment_le l
  unfold splitP; omega
theorem lineOf_le (l : List UInt8) : (lineOf l).length ≤ l.length := (List.takeWhile_sublist _).length_le
/-- the cases of a line -/
theorem lineP_none {p : Nat} {l : List UInt8} {acc : List Off} (h : splitP l p = []) : lineP p l acc = .ok acc := by unfold lineP; rw [h]
theorem lineP_name {p : Nat} {l : List UInt8} {acc : List Off} {x : Wd} {r : List Wd} (h : splitP l p = x :: r) (hn : nameB (nats (str x.1)) = false) : lineP p l acc = .error (2, x.2) := by
  unfold lineP; rw [h]; simp only; rw [if_pos hn]
theorem lineP_twice {p : Nat} {l : List UInt8} {acc : List Off} {x : Wd} {r : List Wd} (h : splitP l p = x :: r) (hn : nameB (nats (str x.1)) = true) (ht : x.1 ∈ acc.map (fun o => o.name.data.toList)) : lineP p l acc = .error (4, x.2) := by
  unfold lineP; rw [h]; simp only; rw [if_neg (by rw [hn]; decide), if_pos ht]
theorem lineP_full {p : Nat} {l : List UInt8} {acc : List Off} {x : Wd} {r : List Wd} (h : splitP l p = x :: r) (hn : nameB (nats (str x.1)) = true) (ht : x.1 ∉ acc.map (fun o => o.name.data.toList)) (hf : acc.length = 256) : lineP p l acc = .error (3, x.2) := by
  unfold lineP; rw [h]; simp only; rw [if_neg (by rw [hn]; decide), if_neg ht, if_pos hf]
theorem lineP_bad {p : Nat} {l : List UInt8} {acc : List Off} {x : Wd} {r : List Wd} (h : splitP l p = x :: r) (hn : nameB (nats (str x.1)) = true) (ht : x.1 ∉ acc.map (fun o => o.name.data.toList)) (hf : acc.length ≠ 256) {i : Nat} (he : entryF r 1 [] (initO x.1) = .error i) : lineP p l acc = .error (2, ((x :: r).getD i ([], 0)).2) := by
  unfold lineP; rw [h]; simp only; rw [if_neg (by rw [hn]; decide), if_neg ht, if_neg hf, he]
theorem lineP_good {p : Nat} {l : List UInt8} {acc : List Off} {x : Wd} {r : List Wd} (h : splitP l p = x :: r) (hn : nameB (nats (str x.1)) = true) (ht : x.1 ∉ acc.map (fun o => o.name.data.toList)) (hf : acc.length ≠ 256) {o : Off} (he : entryF r 1 [] (initO x.1) = .ok o) : lineP p l acc = .ok (acc ++ [o]) := by
  unfold lineP; rw [h]; simp only; rw [if_neg (by rw [hn]; decide), if_neg ht, if_neg hf, he]
theorem setKey_name {k v : List UInt8} {o o' : Off} (h : setKey k v o = some o') : o'.name = o.name := by
  unfold setKey at h
  repeat' split at h
  all_goals (obtain ⟨n, _, rfl⟩ := Option.map_eq_some_iff.1 h; rfl)
theorem entryF_facts (ws : List Wd) : ∀ (i : Nat) (used : List (List UInt8)) (o : Off), match entryF ws i used o with | .ok o' => o'.name = o.name | .error j => i ≤ j ∧ j < i + ws.length := by
  match ws with
  | [] => intro i used o; rfl
  | [x] => intro i used o; simp [entryF]
  | x :: y :: r =>
    intro i used o
    rw [entryF]
    by_cases hb : keyB x.1 = false ∨ x.1 ∈ used
    · rw [if_pos hb]; simp
    · rw [if_neg hb]
      cases hs : setKey x.1 y.1 o with
      | none => simp
      | some o' =>
        have := entryF_facts r (i + 2) (x.1 :: used) o'
        simp only
        split at this
        · rw [this, setKey_name hs]
        · simp only [List.length_cons]; omega
end Go.Proofs.YtbmknjfgjphfbaaGreatDoor.C
namespace Go.Proofs.YtbmknjfgjphfbaaGreatDoor.C
open Go.RowKit
def ocells (l : List Off) : List Value := l.flatMap fun o => o.cells.toList
theorem ocells_snoc (l : List Off) (o : Off) : ocells (l ++ [o]) = ocells l ++ [.string o.name, .int .i64 o.do_, .int .i64 o.undo, .int .i64 o.due, .int .i64 o.part, .int .i64 o.amend] := by simp [ocells, Off.cells]
def resL : Except (Int × Nat) (List Off) → List Off | .ok l => l | .error _ => []
def resE : Except (Int × Nat) (List Off) → Int | .ok _ => 0 | .error e => e.1
def resP : Except (Int × Nat) (List Off) → Int | .ok _ => 0 | .error e => (e.2 : Int)
/-- what Parse hands back -/
def ParseRet (w : World) (r : Except (Int × Nat) (List Off)) (e : Ending) (w' : World) : Prop :=
  ∃ v, e = .returned (.tuple #[v, .int .i64 (resE r), .int .i64 (resP r)]) ∧ w'.ownsRow w.heap.size 40 6 v (resL r).length (ocells (resL r)) ∧ Below w.heap.size w w'
theorem parseRet_err {w w' : World} {r : Except (Int × Nat) (List Off)} {c : Int} {p : Nat} (h : r = .error (c, p)) (hb : Below w.heap.size w w') : ParseRet w r (.returned (.tuple #[.slice none 0 0, .int .i64 c, .int .i64 (p : Int)])) w' := by
  subst h; exact ⟨_, rfl, World.ownsRow_nil _ _ _ _, hb⟩
def nmL (l : List Off) : List (List UInt8) := l.map fun o => o.name.data.toList
def nameF (l : List Off) (k : List UInt8) : Option Value := if k ∈ nmL l then some (.bool true) else none
theorem nameF_snoc (l : List Off) (o : Off) (k : List UInt8) : upd (nameF l) o.name.data.toList (some (.bool true)) k = nameF (l ++ [o]) k := by
  unfold upd nameF nmL
  by_cases e : k = o.name.data.toList
  · rw [if_pos e, if_pos (by rw [List.map_append]; exact List.mem_append_right _ (by simp [e]))]
  · rw [if_neg e]
    by_cases m : k ∈ l.map (fun o => o.name.data.toList)
    · rw [if_pos m, if_pos (by rw [List.map_append]; exact List.mem_append_left _ m)]
    · rw [if_neg m, if_neg (by rw [List.map_append, List.mem_append]; intro h; rcases h with h | h; exact m h; exact e (by simpa using h))]
theorem zeroBool (w : World) : (zeroValue 4).run Tryz.prog w = .ok (.bool false) w := by kernel_rfl
theorem Tryz.info40 : (Tryz.prog.info? 40).map (fun i => (i.zero, i.size, i.bytes)) = some (some (.agg zeroO.cells), 6, 56) := by kernel_rfl
/-- what the loop of Parse keeps -/
structure PSt (w wr : World) (v : Value) (acc : List Off) (n : Nat) : Prop where
  bel : Below w.heap.size w wr
  own : wr.ownsRow w.heap.size 40 6 v acc.length (ocells acc)
  nle : n ≤ acc.length
  cnt : acc.length ≤ 256
  map : MapIs Tryz.prog 9 wr w.heap.size n (nameF acc)
theorem PSt.below {w wr w1 : World} {v : Value} {acc : List Off} {n : Nat} (h : PSt w wr v acc n) (hb : Below wr.heap.size wr w1) : PSt w w1 v acc n := by
  refine ⟨h.bel.trans (hb.mono h.bel.size), ⟨h.own.1, ?_⟩, h.nle, h.cnt, h.map.below hb h.map.lt⟩
  rcases h.own.2 with hn | ⟨g, cap, cur, rfl, hbg, hgg, rest⟩
  · exact .inl hn
  · exact .inr ⟨g, cap, cur, rfl, hbg, (hb.block g (Array.getElem?_eq_some_iff.1 hgg).1).trans hgg, rest⟩
theorem own_form {w : World} {base E size n : Nat} {v : Value} {xs : List Value} (h : w.ownsRow base E size v n xs) (hn : 0 < n) : ∃ g cap, v = .slice (some ⟨g, 0, none⟩) n cap ∧ g < w.heap.size ∧ ∀ j u, xs[j]? = some u → w.cell? ⟨g, j, none⟩ = some u := by
  rcases h.2 with ⟨_, h0⟩ | ⟨g, cap, cur, rfl, _, hg, _⟩
  · omega
  · refine ⟨g, cap, rfl, (Array.getElem?_eq_some_iff.1 hg).1, fun j u hu => ?_⟩
    have := h.cells (g := g) rfl j u hu
    have e : (⟨g, 0, none⟩ : Addr).add j = ⟨g, j, none⟩ := by unfold Addr.add; split <;> simp_all
    rwa [e] at this
theorem wcells_text (ws : List Wd) : ∀ (j : Nat) (h : j < ws.length), (wcells ws)[j * 2]? = some (.string (str ws[j].1)) ∧ (wcells ws)[j * 2 + 1]? = some (.int .i64 (ws[j].2 : Int)) := by
  induction ws with
  | nil => intro j h; simp at h
  | cons x r ih =>
    intro j h
    have e : wcells (x :: r) = .string (str x.1) :: .int .i64 (x.2 : Int) :: wcells r := by simp [wcells]
    rw [e]
    cases j with
    | zero => exact ⟨rfl, rfl⟩
    | succ j =>
      have := ih j (by simpa using h)
      rw [show (j + 1) * 2 = j * 2 + 1 + 1 by omega]
      simpa using this
theorem cell_six_new (w : World) (o : Off) (t : TypeId) : ∀ j u, [.string o.name, .int .i64 o.do_, .int .i64 o.undo, .int .i64 o.due, .int .i64 o.part, .int .i64 o.amend][j]? = some u → (w.alloc (.cells #[.string o.name, .int .i64 o.do_, .int .i64 o.undo, .int .i64 o.due, .int .i64 o.part, .int .i64 o.amend] t)).cell? ((⟨w.heap.size, 0, none⟩ : Addr).add j) = some u := by
  intro j u hj
  match j, hj with
  | 0, hj => simp at hj; subst hj; simp [Addr.add]
  | 1, hj => simp at hj; subst hj; simp [Addr.add]
  | 2, hj => simp at hj; subst hj; simp [Addr.add]
  | 3, hj => simp at hj; subst hj; simp [Addr.add]
  | 4, hj => simp at hj; subst hj; simp [Addr.add]
  | 5, hj => simp at hj; subst hj; simp [Addr.add]
  | (j + 6), hj => simp at hj
theorem row_map_ne {w : World} {base E size n m b : Nat} {v : Value} {xs : List Value} {P : Program} {K : TypeId} {f : List UInt8 → Option Value} (h : w.ownsRow base E size v n xs) (hm : MapIs P K w b m f) : v.ownBlock ≠ some b := by
  rcases h.2 with ⟨rfl, _⟩ | ⟨g, cap, cur, rfl, _, hg, _⟩
  · simp [Value.ownBlock]
  · intro e
    have : g = b := by simpa [Value.ownBlock] using e
    subst this
    obtain ⟨D, ⟨es, clock, hb, _⟩, _⟩ := hm
    rw [hg] at hb
    cases hb
end Go.Proofs.YtbmknjfgjphfbaaGreatDoor.C
namespace Go.Proofs.YtbmknjfgjphfbaaGreatDoor.C
open Go.RowKit
theorem ret_cell_tmp {fn : Func} {p u : Tmp} (h : fn.results = #[.cell p 40, .tmp u]) (tmps : Array Value) (w : World) (g : Nat) (o : Off) (hp : tmps.getD p undef = .pointer (some ⟨g, 0, none⟩)) (hg : Hs w g 40 o.cells) :
    (results fn tmps).run Tryz.prog w = .ok (.tuple #[.agg o.cells, tmps.getD u undef]) w := by
  rw [results_cell_tmp h, hp]
  have := run_loadVar_row (P := Tryz.prog) w g 40 40 o.cells (0, 0) _ hg Tryz.underlying40 rfl (by show _ = some 6; kernel_rfl)
  simp [asAddr, this, Result.andThen]
theorem zeroFn (w : World) : (zeroValue 64).run Tryz.prog w = .ok .nilFunc w := by kernel_rfl
def entV : Except Nat Off → Value
  | .ok o => .tuple #[.agg o.cells, .int .i64 (-1)]
  | .error i => .tuple #[.agg zeroO.cells, .int .i64 (i : Int)]
def EntRet (w : World) (r : Except Nat Off) (e : Ending) (w' : World) : Prop := e = .returned (entV r) ∧ Below w.heap.size w w'
def entryP (ws : List Wd) : Except Nat Off := match ws with | [] => .error 0 | x :: r => entryF r 1 [] (initO x.1)
theorem wpList_put_le {P : Program} {K : TypeId} (w : World) {ops : Array Oper} {rest : List Oper} {o : Oper} {a : Act} {Q : Exit → Act → World → Prop} (hg : o.guard = none) (m x v : Operand) (t : TypeId) (hop : o.op = Op.insert t m x v)
    (e : TypeId) (hK : P.underlying K = some .string) (ht : P.underlying t = some (.map K e)) (b n : Nat) (f : List UInt8 → Option Value)
    (hm : a.eval m = .map (some b)) (his : MapIs P K w b n f) (hn : n ≤ 8) (s : ByteArray) (val : Value) (hx : a.eval x = .string s) (hv : a.eval v = val) (hs : s.size ≤ maxLen)
    (hk : ∀ w' n', n' ≤ n + 1 → MapIs P K w' b n' (upd f s.data.toList (some val)) → w.grownBy w' (some b) → wpList P ops Q rest (a.put o.dst undef) w') :
    wpList P ops Q (o :: rest) a w :=
  wpList_put_is w hg m x v t (.inr hop) e hK ht b n f hm his (by unfold maxLen; omega) s val hx hv hs fun w' h1 h2 => hk w' _ (by split <;> omega) h1 h2
theorem keyF_none {h b1 b2 b3 b4 : Nat} {used : List (List UInt8)} {k : List UInt8} (e : keyF h b1 b2 b3 b4 used k = none) : keyB k = false ∨ k ∈ used := by
  unfold keyF at e
  by_cases m : k ∈ used
  · exact .inr m
  rw [if_neg m] at e
  by_cases h1 : k = kDo
  · rw [if_pos h1] at e; cases e
  rw [if_neg h1] at e
  by_cases h2 : k = kUndo
  · rw [if_pos h2] at e; cases e
  rw [if_neg h2] at e
  by_cases h3 : k = kPart
  · rw [if_pos h3] at e; cases e
  rw [if_neg h3] at e
  by_cases h4 : k = kAmend
  · rw [if_pos h4] at e; cases e
  rw [if_neg h4] at e
  by_cases h5 : k = kDue
  · rw [if_pos h5] at e; cases e
  left
  unfold keyB
  simp [h1, h2, h3, h4, h5]
theorem keyF_some {h b1 b2 b3 b4 : Nat} {used : List (List UInt8)} {k : List UInt8} {fv : Value} (e : keyF h b1 b2 b3 b4 used k = some fv) : (k ∉ used ∧ keyB k = true) ∧ ((k = kDo ∧ fv = clo b1) ∨ (k = kUndo ∧ fv = clo b2) ∨ (k = kPart ∧ fv = clo b3) ∨ (k = kAmend ∧ fv = clo b4) ∨ (k = kDue ∧ fv = .func (.func 35) #[] #[.pointer (some ⟨h + 1, 0, none⟩)])) := by
  unfold keyF at e
  by_cases m : k ∈ used
  · rw [if_pos m] at e; cases e
  rw [if_neg m] at e
  by_cases h1 : k = kDo
  · rw [if_pos h1] at e; injection e with e; subst h1; exact ⟨⟨m, rfl⟩, .inl ⟨rfl, e.symm⟩⟩
  rw [if_neg h1] at e
  by_cases h2 : k = kUndo
  · rw [if_pos h2] at e; injection e with e; subst h2; exact ⟨⟨m, rfl⟩, .inr (.inl ⟨rfl, e.symm⟩)⟩
  rw [if_neg h2] at e
  by_cases h3 : k = kPart
  · rw [if_pos h3] at e; injection e with e; subst h3; exact ⟨⟨m, rfl⟩, .inr (.inr (.inl ⟨rfl, e.symm⟩))⟩
  rw [if_neg h3] at e
  by_cases h4 : k = kAmend
  · rw [if_pos h4] at e; injection e with e; subst h4; exact ⟨⟨m, rfl⟩, .inr (.inr (.inr (.inl ⟨rfl, e.symm⟩)))⟩
  rw [if_neg h4] at e
  by_cases h5 : k = kDue
  · rw [if_pos h5] at e; injection e with e; subst h5; exact ⟨⟨m, rfl⟩, .inr (.inr (.inr (.inr ⟨rfl, e.symm⟩)))⟩
  rw [if_neg h5] at e; cases e
theorem ent_last {ws : List Wd} {k : Nat} {used : List (List UInt8)} {o : Off} (h : k + 1 = ws.length) : entryF (ws.drop k) k used o = .error k := by
  rw [List.drop_eq_getElem_cons (by omega), List.drop_of_length_le (by omega)]; rfl
theorem ent_bad {ws : List Wd} {k : Nat} {used : List (List UInt8)} {o : Off} (h : k < ws.length) (hb : keyB ws[k].1 = false ∨ ws[k].1 ∈ used) : entryF (ws.drop k) k used o = .error k := by
  by_cases h1 : k + 1 = ws.length
  · exact ent_last h1
  · rw [List.drop_eq_getElem_cons h, List.drop_eq_getElem_cons (show k + 1 < ws.length by omega), entryF, if_pos hb]
theorem ent_go {ws : List Wd} {k : Nat} {used : List (List UInt8)} {o : Off} (h : k + 1 < ws.length) (h1 : ws[k].1 ∉ used) (h2 : keyB ws[k].1 = true) : entryF (ws.drop k) k used o = match setKey ws[k].1 ws[k + 1].1 o with | none => .error (k + 1) | some o' => entryF (ws.drop (k + 2)) (k + 2) (ws[k].1 :: used) o' := by
  rw [List.drop_eq_getElem_cons (show k < ws.length by omega), List.drop_eq_getElem_cons h, entryF, if_neg (fun a => a.elim (fun b => by rw [h2] at b; cases b) h1)]
  rfl
theorem ent_done {ws : List Wd} {k : Nat} {used : List (List UInt8)} {o : Off} (h : ws.length ≤ k) : entryF (ws.drop k) k used o = .ok o := by
  rw [List.drop_of_length_le h]; rfl
theorem off_one (o : Off) : o.cells.all (·.oneCell') = true := by simp [Off.cells, Value.oneCell']
theorem zeroO_one : zeroO.cells.all (·.oneCell') = true := off_one _
theorem info40 : (Tryz.prog.info? 40).map (·.size) = some 6 := by kernel_rfl
theorem after_drop {w wr w6 : World} (hg : wr.grownBy w6 (some (w.heap.size + 2))) {g j : Nat} {v : Value} (hgl : g < w.heap.size) (hc : wr.cell? ⟨g, j, none⟩ = some v) : w6.cell? ⟨g, j, none⟩ = some v :=
  hg.cell hc (by simp; omega)
set_option maxRecDepth 100000 in
set_option maxHeartbeats 8000000 in
theorem entry_any (ws : List Wd) (x0 : Wd) (r : List Wd) (w : World) (g cap : Nat) (hws : ws = x0 :: r) (hgl : g < w.heap.size) (hn : 1 ≤ ws.length)
    (hcw : ∀ j, (h : j < ws.length) → w.cell? ⟨g, j * 2, none⟩ = some (.string (str ws[j].1)))
    (hsz : ∀ x ∈ ws, x.1.length ≤ 9223372036854775807) (hnl : ws.length ≤ 4294967296) :
    Calls Tryz.prog 17 #[.slice (some ⟨g, 0, none⟩) ws.length cap] w (EntRet w (entryP ws)) := by
  have hmm := @run_makeMap Tryz.prog
  have hc0 : w.cell? ⟨g, 0, none⟩ = some (.string (str x0.1)) := by
    have := hcw 0 (by omega)
    subst hws
    exact this
  have HCW := Lib.hid hcw
  have HSZ := Lib.hid hsz
  clear hcw hsz
  have HE := Lib.hid (ent_start w (initO x0.1))
  have hM0 : MapIs Tryz.prog 9 (((w.alloc (.cells zeroO.cells 40)).alloc (.cells (initO x0.1).cells 40)).alloc (.map #[] 0)) (w.heap.size + 2) 0 (fun _ => none) := by
    have := MapIs.made Tryz.prog 9 ((w.alloc (.cells zeroO.cells 40)).alloc (.cells (initO x0.1).cells 40))
    rw [asz, asz] at this
    exact this
  have HM0 := Lib.hid hM0
  clear hM0
  have tok1 : True := trivial
  have tok2 : True := trivial
  have tok3 : True := trivial
  have tok4 : True := trivial
  have tok5 : True := trivial
  have HW := Lib.hid hws
  clear hws
  go_enter Tryz.func17, Tryz.ntmps17
  go_upto_region 4 with (first
    | (go_at_call 32; refine (mk_any _ _).mono ?_; rintro e w' ⟨rfl, rfl⟩)
    | (have _t := tok1; refine wpList_put_le _ rfl _ _ _ 98 rfl 64 Tryz.underlying9 Tryz.underlying98 (w.heap.size + 2) 0 _ rfl (HM0.out.alloc _) (by omega) ⟨#[100, 111]⟩ _ rfl rfl (by decide) ?_; intro w1 n1 hn1 hM1 hg1; have E1 := HE.out.step hg1; clear tok1 hg1)
    | (have _t := tok2; refine wpList_put_le _ rfl _ _ _ 98 rfl 64 Tryz.underlying9 Tryz.underlying98 (w.heap.size + 2) _ _ rfl (hM1.alloc _) (by omega) ⟨#[117, 110, 100, 111]⟩ _ rfl rfl (by decide) ?_; intro w2 n2 hn2 hM2 hg2; have E2 := E1.step hg2; clear tok2 hg2)
    | (have _t := tok3; refine wpList_put_le _ rfl _ _ _ 98 rfl 64 Tryz.underlying9 Tryz.underlying98 (w.heap.size + 2) _ _ rfl (hM2.alloc _) (by omega) ⟨#[112, 97, 114, 116]⟩ _ rfl rfl (by decide) ?_; intro w3 n3 hn3 hM3 hg3; have E3 := E2.step hg3; clear tok3 hg3)
    | (have _t := tok4; refine wpList_put_le _ rfl _ _ _ 98 rfl 64 Tryz.underlying9 Tryz.underlying98 (w.heap.size + 2) _ _ rfl (hM3.alloc _) (by omega) ⟨#[97, 109, 101, 110, 100]⟩ _ rfl rfl (by decide) ?_; intro w4 n4 hn4 hM4 hg4; have E4 := E3.step hg4; clear tok4 hg4)
    | (have _t := tok5; refine wpList_put_le _ rfl _ _ _ 98 rfl 64 Tryz.underlying9 Tryz.underlying98 (w.heap.size + 2) _ _ rfl hM4 (by omega) ⟨#[100, 117, 101]⟩ _ rfl rfl (by decide) ?_; intro w5 n5 hn5 hM5 hg5; have E5 := E4.last hg5; clear tok5 hg5)
    )
  have S0 : Hid (EntSt w w5 n5 (w.heap.size + 1 + 1 + 1) w1.heap.size w2.heap.size w3.heap.size (initO x0.1) []) :=
    ⟨E5.bel, E5.big, E5.res, E5.off, by have := E5.box (w.heap.size + 1 + 1 + 1, 1) (by simp); exact this, E5.box (w1.heap.size, 2) (by simp), E5.box (w2.heap.size, 4) (by simp), E5.box (w3.heap.size, 5) (by simp), hM5.congr (fun k => keyF_start w.heap.size (w.heap.size + 1 + 1 + 1) _ _ _ k)⟩
  clear E1 E2 E3 E4 E5 hM1 hM2 hM3 hM4 hM5 hn1 hn2 hn3 hn4 hn5 HM0 HE hc0 hmm
  have HP : Hid (entryF (ws.drop 1) 1 [] (initO x0.1) = entryP ws) := by rw [HW.out]; rfl
  generalize w.heap.size + 1 + 1 + 1 = c1 at *
  generalize w1.heap.size = c2 at *
  generalize w2.heap.size = c3 at *
  generalize w3.heap.size = c4 at *
  go_wp2_with fail
  go_loopw [7] (fun i wr => ∃ (k n : Nat) (o : Off) (used : List (List UInt8)), i = .int .i64 k ∧ 1 ≤ k ∧ k ≤ ws.length + 1 ∧ Hid (entryF (ws.drop k) k used o = entryP ws) ∧ Hid (EntSt w wr n c1 c2 c3 c4 o used)) (fun i _ => ws.length + 1 - (intOf i).toNat)
  case atStart => exact ⟨1, _, _, [], rfl, by omega, by omega, HP, S0⟩
  case round =>
    clear S0 HP HW
    obtain ⟨k, n, o, used, rfl, hk1, hk2, HR, HS⟩ := hrel
    have hck : Hid (∀ j, (h : j < ws.length) → wr.cell? ⟨g, j * 2, none⟩ = some (.string (str ws[j].1))) := fun j h => (HS.out.bel.cell (p := ⟨g, j * 2, none⟩) hgl).trans (HCW.out j h)
    by_cases hlt : k < ws.length
    · obtain ⟨t, ht⟩ : ∃ t, t = str ws[k].1 := ⟨_, rfl⟩
      have hc1 := hck.out k hlt
      rw [← ht] at hc1
      have htl : t.data.toList = ws[k].1 := by rw [ht, data_str]
      have hts : t.size ≤ maxLen := by
        have := HSZ.out ws[k] (List.getElem_mem hlt)
        rw [← htl, data_length] at this
        unfold maxLen; omega
      have hlk := HS.out.map.lookOk Tryz.underlying9 Tryz.underlying98 (zeroFn wr) hts
      have HT := Lib.hid htl
      have HTS := Lib.hid hts
      clear ht htl hts
      cases hkf : keyF w.heap.size c1 c2 c3 c4 used t.data.toList with
      | none =>
        rw [hkf] at hlk
        have HV : Hid (entryP ws = .error k) := by
          rw [← HR.out]; exact ent_bad hlt (by rw [← HT.out]; exact keyF_none hkf)
        clear hkf
        go_wp2_with (refine wpList_store_row rfl 40 _ _ rfl w.heap.size zeroO.cells rfl rfl 40 zeroO.cells HS.out.res info40 rfl zeroO_one ?_)
        refine bodyPost_ret (ret_cell_tmp Tryz.results17 _ _ w.heap.size zeroO rfl (setRow_heap _ _ _ _ _ _ HS.out.res)) rfl ⟨?_, below_setRow HS.out.bel (Nat.le_refl _) _⟩
        rw [HV.out]; rfl
      | some fv =>
        rw [hkf] at hlk
        obtain ⟨⟨hu1, hu2⟩, hfv⟩ := keyF_some hkf
        have HU : Hid (t.data.toList ∉ used ∧ keyB t.data.toList = true) := ⟨hu1, hu2⟩
        clear hkf hu1 hu2
        by_cases hl2 : k + 1 = ws.length
        · have tl : ((k : Int) + 1 == (ws.length : Int)) = true := beq_iff_eq.2 (by omega)
          have HV : Hid (entryP ws = .error k) := by rw [← HR.out]; exact ent_last hl2
          have HL := Lib.hid hl2
          clear hl2 hfv
          go_wp2_with (refine wpList_store_row rfl 40 _ _ rfl w.heap.size zeroO.cells rfl rfl 40 zeroO.cells HS.out.res info40 rfl zeroO_one ?_)
          refine bodyPost_ret (ret_cell_tmp Tryz.results17 _ _ w.heap.size zeroO rfl (setRow_heap _ _ _ _ _ _ HS.out.res)) rfl ⟨?_, below_setRow HS.out.bel (Nat.le_refl _) _⟩
          rw [HV.out]; rfl
        · have tl : ((k : Int) + 1 == (ws.length : Int)) = false := beq_eq_false_iff_ne.2 (by omega)
          have hl3 : k + 1 < ws.length := by omega
          have HV : Hid (entryP ws = match setKey t.data.toList ws[k + 1].1 o with | none => .error (k + 1) | some o' => entryF (ws.drop (k + 2)) (k + 2) (t.data.toList :: used) o') := by
            have e := ent_go hl3 (used := used) (o := o) (by rw [← HT.out]; exact HU.out.1) (by rw [← HT.out]; exact HU.out.2)
            rw [← HT.out] at e
            rw [← HR.out]; exact e
          obtain ⟨y, hy⟩ : ∃ y, y = str ws[k + 1].1 := ⟨_, rfl⟩
          have HY : Hid (ws[k + 1].1 = y.data.toList) := by rw [hy, data_str]; rfl
          have hys : y.size ≤ 9223372036854775807 := by
            have := HSZ.out ws[k + 1] (List.getElem_mem hl3)
            rw [HY.out, data_length] at this
            exact this
          have hyc : Hid (wr.cell? ⟨g, (k + 1) * 2, none⟩ = some (.string y)) := by rw [hy]; exact hck.out (k + 1) hl3
          clear hy hl2
          rcases hfv with ⟨hkey, rfl⟩ | ⟨hkey, rfl⟩ | ⟨hkey, rfl⟩ | ⟨hkey, rfl⟩ | ⟨hkey, rfl⟩
          · have HV2 : Hid (setKey t.data.toList ws[k + 1].1 o = (costP y.data.toList).map fun n => { o with do_ := n }) := by rw [hkey, HY.out]; rfl
            clear hkey
            cases hcv : costP y.data.toList with
            | none =>
              have HV3 : Hid (entryP ws = .error (k + 1)) := by rw [HV.out, HV2.out, hcv]; rfl
              have HC := Lib.hid hcv
              clear hcv HV HV2
              have tok : True := trivial
              go_wp2_with (first | (have _t := tok; (refine wpList_drop_is _ rfl _ _ 98 rfl 64 Tryz.underlying9 Tryz.underlying98 (w.heap.size + 2) _ _ rfl HS.out.map t rfl HTS.out ?_; intro w6 n6 hn6 hM6 hg6; have S6 := Lib.hid (HS.out.drop hg6 hM6); have hy6 := after_drop hg6 hgl hyc.out; clear hn6 hM6 hg6); clear tok) | ((go_at_call 33; refine (cost_any _ _ _ _ (S6.out.c1.2.cell 0) _ (S6.out.off.cell 1) (S6.out.off.free 1) hys).mono ?_; rintro e w7 ⟨rfl, w8, hb8, rfl⟩); have S7 := Lib.hid (S6.out.set (o' := { o with do_ := ((costP y.data.toList).getD 0) }) hb8 1 _ rfl); rw [HC.out] at S7; rw [HC.out]) | (refine wpList_store_row rfl 40 _ _ rfl w.heap.size zeroO.cells rfl rfl 40 zeroO.cells S7.out.res info40 rfl zeroO_one ?_))
              refine bodyPost_ret (ret_cell_tmp Tryz.results17 _ _ w.heap.size zeroO rfl (setRow_heap _ _ _ _ _ _ S7.out.res)) rfl ⟨?_, below_setRow S7.out.bel (Nat.le_refl _) _⟩
              rw [HV3.out]; rfl
            | some m =>
              have HV3 : Hid (entryP ws = entryF (ws.drop (k + 2)) (k + 2) (t.data.toList :: used) { o with do_ := m }) := by rw [HV.out, HV2.out, hcv]; rfl
              have HC := Lib.hid hcv
              clear hcv HV HV2
              have tok : True := trivial
              go_wp2_with (first | (have _t := tok; (refine wpList_drop_is _ rfl _ _ 98 rfl 64 Tryz.underlying9 Tryz.underlying98 (w.heap.size + 2) _ _ rfl HS.out.map t rfl HTS.out ?_; intro w6 n6 hn6 hM6 hg6; have S6 := Lib.hid (HS.out.drop hg6 hM6); have hy6 := after_drop hg6 hgl hyc.out; clear hn6 hM6 hg6); clear tok) | ((go_at_call 33; refine (cost_any _ _ _ _ (S6.out.c1.2.cell 0) _ (S6.out.off.cell 1) (S6.out.off.free 1) hys).mono ?_; rintro e w7 ⟨rfl, w8, hb8, rfl⟩); have S7 := Lib.hid (S6.out.set (o' := { o with do_ := ((costP y.data.toList).getD 0) }) hb8 1 _ rfl); rw [HC.out] at S7; rw [HC.out]))
              go_roundw
              case rel => exact ⟨k + 2, _, _, _, by go_num, by omega, by omega, HV3.out.symm, S7⟩
              case measure => simp [intOf]; omega
          · have HV2 : Hid (setKey t.data.toList ws[k + 1].1 o = (costP y.data.toList).map fun n => { o with undo := n }) := by rw [hkey, HY.out]; rfl
            clear hkey
            cases hcv : costP y.data.toList with
            | none =>
              have HV3 : Hid (entryP ws = .error (k + 1)) := by rw [HV.out, HV2.out, hcv]; rfl
              have HC := Lib.hid hcv
              clear hcv HV HV2
              have tok : True := trivial
              go_wp2_with (first | (have _t := tok; (refine wpList_drop_is _ rfl _ _ 98 rfl 64 Tryz.underlying9 Tryz.underlying98 (w.heap.size + 2) _ _ rfl HS.out.map t rfl HTS.out ?_; intro w6 n6 hn6 hM6 hg6; have S6 := Lib.hid (HS.out.drop hg6 hM6); have hy6 := after_drop hg6 hgl hyc.out; clear hn6 hM6 hg6); clear tok) | ((go_at_call 33; refine (cost_any _ _ _ _ (S6.out.c2.2.cell 0) _ (S6.out.off.cell 2) (S6.out.off.free 2) hys).mono ?_; rintro e w7 ⟨rfl, w8, hb8, rfl⟩); have S7 := Lib.hid (S6.out.set (o' := { o with undo := ((costP y.data.toList).getD 0) }) hb8 2 _ rfl); rw [HC.out] at S7; rw [HC.out]) | (refine wpList_store_row rfl 40 _ _ rfl w.heap.size zeroO.cells rfl rfl 40 zeroO.cells S7.out.res info40 rfl zeroO_one ?_))
              refine bodyPost_ret (ret_cell_tmp Tryz.results17 _ _ w.heap.size zeroO rfl (setRow_heap _ _ _ _ _ _ S7.out.res)) rfl ⟨?_, below_setRow S7.out.bel (Nat.le_refl _) _⟩
              rw [HV3.out]; rfl
            | some m =>
              have HV3 : Hid (entryP ws = entryF (ws.drop (k + 2)) (k + 2) (t.data.toList :: used) { o with undo := m }) := by rw [HV.out, HV2.out, hcv]; rfl
              have HC := Lib.hid hcv
              clear hcv HV HV2
              have tok : True := trivial
              go_wp2_with (first | (have _t := tok; (refine wpList_drop_is _ rfl _ _ 98 rfl 64 Tryz.underlying9 Tryz.underlying98 (w.heap.size + 2) _ _ rfl HS.out.map t rfl HTS.out ?_; intro w6 n6 hn6 hM6 hg6; have S6 := Lib.hid (HS.out.drop hg6 hM6); have hy6 := after_drop hg6 hgl hyc.out; clear hn6 hM6 hg6); clear tok) | ((go_at_call 33; refine (cost_any _ _ _ _ (S6.out.c2.2.cell 0) _ (S6.out.off.cell 2) (S6.out.off.free 2) hys).mono ?_; rintro e w7 ⟨rfl, w8, hb8, rfl⟩); have S7 := Lib.hid (S6.out.set (o' := { o with undo := ((costP y.data.toList).getD 0) }) hb8 2 _ rfl); rw [HC.out] at S7; rw [HC.out]))
              go_roundw
              case rel => exact ⟨k + 2, _, _, _, by go_num, by omega, by omega, HV3.out.symm, S7⟩
              case measure => simp [intOf]; omega
          · have HV2 : Hid (setKey t.data.toList ws[k + 1].1 o = (costP y.data.toList).map fun n => { o with part := n }) := by rw [hkey, HY.out]; rfl
            clear hkey
            cases hcv : costP y.data.toList with
            | none =>
              have HV3 : Hid (entryP ws = .error (k + 1)) := by rw [HV.out, HV2.out, hcv]; rfl
              have HC := Lib.hid hcv
              clear hcv HV HV2
              have tok : True := trivial
              go_wp2_with (first | (have _t := tok; (refine wpList_drop_is _ rfl _ _ 98 rfl 64 Tryz.underlying9 Tryz.underlying98 (w.heap.size + 2) _ _ rfl HS.out.map t rfl HTS.out ?_; intro w6 n6 hn6 hM6 hg6; have S6 := Lib.hid (HS.out.drop hg6 hM6); have hy6 := after_drop hg6 hgl hyc.out; clear hn6 hM6 hg6); clear tok) | ((go_at_call 33; refine (cost_any _ _ _ _ (S6.out.c3.2.cell 0) _ (S6.out.off.cell 4) (S6.out.off.free 4) hys).mono ?_; rintro e w7 ⟨rfl, w8, hb8, rfl⟩); have S7 := Lib.hid (S6.out.set (o' := { o with part := ((costP y.data.toList).getD 0) }) hb8 4 _ rfl); rw [HC.out] at S7; rw [HC.out]) | (refine wpList_store_row rfl 40 _ _ rfl w.heap.size zeroO.cells rfl rfl 40 zeroO.cells S7.out.res info40 rfl zeroO_one ?_))
              refine bodyPost_ret (ret_cell_tmp Tryz.results17 _ _ w.heap.size zeroO rfl (setRow_heap _ _ _ _ _ _ S7.out.res)) rfl ⟨?_, below_setRow S7.out.bel (Nat.le_refl _) _⟩
              rw [HV3.out]; rfl
            | some m =>
              have HV3 : Hid (entryP ws = entryF (ws.drop (k + 2)) (k + 2) (t.data.toList :: used) { o with part := m }) := by rw [HV.out, HV2.out, hcv]; rfl
              have HC := Lib.hid hcv
              clear hcv HV HV2
              have tok : True := trivial
              go_wp2_with (first | (have _t := tok; (refine wpList_drop_is _ rfl _ _ 98 rfl 64 Tryz.underlying9 Tryz.underlying98 (w.heap.size + 2) _ _ rfl HS.out.map t rfl HTS.out ?_; intro w6 n6 hn6 hM6 hg6; have S6 := Lib.hid (HS.out.drop hg6 hM6); have hy6 := after_drop hg6 hgl hyc.out; clear hn6 hM6 hg6); clear tok) | ((go_at_call 33; refine (cost_any _ _ _ _ (S6.out.c3.2.cell 0) _ (S6.out.off.cell 4) (S6.out.off.free 4) hys).mono ?_; rintro e w7 ⟨rfl, w8, hb8, rfl⟩); have S7 := Lib.hid (S6.out.set (o' := { o with part := ((costP y.data.toList).getD 0) }) hb8 4 _ rfl); rw [HC.out] at S7; rw [HC.out]))
              go_roundw
              case rel => exact ⟨k + 2, _, _, _, by go_num, by omega, by omega, HV3.out.symm, S7⟩
              case measure => simp [intOf]; omega
          · have HV2 : Hid (setKey t.data.toList ws[k + 1].1 o = (costP y.data.toList).map fun n => { o with amend := n }) := by rw [hkey, HY.out]; rfl
            clear hkey
            cases hcv : costP y.data.toList with
            | none =>
              have HV3 : Hid (entryP ws = .error (k + 1)) := by rw [HV.out, HV2.out, hcv]; rfl
              have HC := Lib.hid hcv
              clear hcv HV HV2
              have tok : True := trivial
              go_wp2_with (first | (have _t := tok; (refine wpList_drop_is _ rfl _ _ 98 rfl 64 Tryz.underlying9 Tryz.underlying98 (w.heap.size + 2) _ _ rfl HS.out.map t rfl HTS.out ?_; intro w6 n6 hn6 hM6 hg6; have S6 := Lib.hid (HS.out.drop hg6 hM6); have hy6 := after_drop hg6 hgl hyc.out; clear hn6 hM6 hg6); clear tok) | ((go_at_call 33; refine (cost_any _ _ _ _ (S6.out.c4.2.cell 0) _ (S6.out.off.cell 5) (S6.out.off.free 5) hys).mono ?_; rintro e w7 ⟨rfl, w8, hb8, rfl⟩); have S7 := Lib.hid (S6.out.set (o' := { o with amend := ((costP y.data.toList).getD 0) }) hb8 5 _ rfl); rw [HC.out] at S7; rw [HC.out]) | (refine wpList_store_row rfl 40 _ _ rfl w.heap.size zeroO.cells rfl rfl 40 zeroO.cells S7.out.res info40 rfl zeroO_one ?_))
              refine bodyPost_ret (ret_cell_tmp Tryz.results17 _ _ w.heap.size zeroO rfl (setRow_heap _ _ _ _ _ _ S7.out.res)) rfl ⟨?_, below_setRow S7.out.bel (Nat.le_refl _) _⟩
              rw [HV3.out]; rfl
            | some m =>
              have HV3 : Hid (entryP ws = entryF (ws.drop (k + 2)) (k + 2) (t.data.toList :: used) { o with amend := m }) := by rw [HV.out, HV2.out, hcv]; rfl
              have HC := Lib.hid hcv
              clear hcv HV HV2
              have tok : True := trivial
              go_wp2_with (first | (have _t := tok; (refine wpList_drop_is _ rfl _ _ 98 rfl 64 Tryz.underlying9 Tryz.underlying98 (w.heap.size + 2) _ _ rfl HS.out.map t rfl HTS.out ?_; intro w6 n6 hn6 hM6 hg6; have S6 := Lib.hid (HS.out.drop hg6 hM6); have hy6 := after_drop hg6 hgl hyc.out; clear hn6 hM6 hg6); clear tok) | ((go_at_call 33; refine (cost_any _ _ _ _ (S6.out.c4.2.cell 0) _ (S6.out.off.cell 5) (S6.out.off.free 5) hys).mono ?_; rintro e w7 ⟨rfl, w8, hb8, rfl⟩); have S7 := Lib.hid (S6.out.set (o' := { o with amend := ((costP y.data.toList).getD 0) }) hb8 5 _ rfl); rw [HC.out] at S7; rw [HC.out]))
              go_roundw
              case rel => exact ⟨k + 2, _, _, _, by go_num, by omega, by omega, HV3.out.symm, S7⟩
              case measure => simp [intOf]; omega
          · have HV2 : Hid (setKey t.data.toList ws[k + 1].1 o = (numP y.data.toList 0 1073741824).map fun n => { o with due := n }) := by rw [hkey, HY.out]; rfl
            clear hkey
            cases hcv : numP y.data.toList 0 1073741824 with
            | none =>
              have HV3 : Hid (entryP ws = .error (k + 1)) := by rw [HV.out, HV2.out, hcv]; rfl
              have HC := Lib.hid hcv
              clear hcv HV HV2
              have tok : True := trivial
              go_wp2_with (first | (have _t := tok; (refine wpList_drop_is _ rfl _ _ 98 rfl 64 Tryz.underlying9 Tryz.underlying98 (w.heap.size + 2) _ _ rfl HS.out.map t rfl HTS.out ?_; intro w6 n6 hn6 hM6 hg6; have S6 := Lib.hid (HS.out.drop hg6 hM6); have hy6 := after_drop hg6 hgl hyc.out; clear hn6 hM6 hg6); clear tok) | ((go_at_call 35; refine (due_any _ _ _ _ (S6.out.off.cell 3) (S6.out.off.free 3) hys).mono ?_; rintro e w7 ⟨rfl, w8, hb8, rfl⟩); have S7 := Lib.hid (S6.out.set (o' := { o with due := ((numP y.data.toList 0 1073741824).getD 0) }) hb8 3 _ rfl); rw [HC.out] at S7; rw [HC.out]) | (refine wpList_store_row rfl 40 _ _ rfl w.heap.size zeroO.cells rfl rfl 40 zeroO.cells S7.out.res info40 rfl zeroO_one ?_))
              refine bodyPost_ret (ret_cell_tmp Tryz.results17 _ _ w.heap.size zeroO rfl (setRow_heap _ _ _ _ _ _ S7.out.res)) rfl ⟨?_, below_setRow S7.out.bel (Nat.le_refl _) _⟩
              rw [HV3.out]; rfl
            | some m =>
              have HV3 : Hid (entryP ws = entryF (ws.drop (k + 2)) (k + 2) (t.data.toList :: used) { o with due := m }) := by rw [HV.out, HV2.out, hcv]; rfl
              have HC := Lib.hid hcv
              clear hcv HV HV2
              have tok : True := trivial
              go_wp2_with (first | (have _t := tok; (refine wpList_drop_is _ rfl _ _ 98 rfl 64 Tryz.underlying9 Tryz.underlying98 (w.heap.size + 2) _ _ rfl HS.out.map t rfl HTS.out ?_; intro w6 n6 hn6 hM6 hg6; have S6 := Lib.hid (HS.out.drop hg6 hM6); have hy6 := after_drop hg6 hgl hyc.out; clear hn6 hM6 hg6); clear tok) | ((go_at_call 35; refine (due_any _ _ _ _ (S6.out.off.cell 3) (S6.out.off.free 3) hys).mono ?_; rintro e w7 ⟨rfl, w8, hb8, rfl⟩); have S7 := Lib.hid (S6.out.set (o' := { o with due := ((numP y.data.toList 0 1073741824).getD 0) }) hb8 3 _ rfl); rw [HC.out] at S7; rw [HC.out]))
              go_roundw
              case rel => exact ⟨k + 2, _, _, _, by go_num, by omega, by omega, HV3.out.symm, S7⟩
              case measure => simp [intOf]; omega
    · have HV : Hid (entryP ws = .ok o) := by rw [← HR.out]; exact ent_done (by omega)
      have tl : decide ((k : Int) < (ws.length : Int)) = false := decide_eq_false (by omega)
      go_wp2_with (first | (refine wpList_load_row rfl 40 _ rfl (w.heap.size + 1) rfl 40 _ _ _ HS.out.off Tryz.underlying40 rfl info40 ?_) | (refine wpList_store_row rfl 40 _ _ rfl w.heap.size o.cells rfl rfl 40 zeroO.cells HS.out.res info40 rfl (off_one o) ?_))
      refine bodyPost_ret (ret_cell_tmp Tryz.results17 _ _ w.heap.size o rfl (setRow_heap _ _ _ _ _ _ HS.out.res)) rfl ⟨?_, below_setRow HS.out.bel (Nat.le_refl _) _⟩
      rw [HV.out]; rfl
end Go.Proofs.YtbmknjfgjphfbaaGreatDoor.C
namespace Go.Proofs.YtbmknjfgjphfbaaGreatDoor.C
open Go.RowKit
theorem line_bytes (s : ByteArray) (p : Nat) : ∃ d : ByteArray, d.data.toList = lineOf (s.data.toList.drop p) ∧ d.size ≤ s.size - p ∧
    ((Lib.indexByte (s.extract p s.size).data.toList 10 = -1 ∧ s.extract p s.size = d) ∨ (∃ n : Nat, n ≤ (s.extract p s.size).size ∧ Lib.indexByte (s.extract p s.size).data.toList 10 = n ∧ (s.extract p s.size).extract 0 n = d)) := by
  have e : (s.extract p s.size).data.toList = s.data.toList.drop p := by
    rw [extract_str, data_str, List.take_of_length_le (by rw [data_length]; exact Nat.le_refl _)]
  refine ⟨str (lineOf (s.data.toList.drop p)), data_str _, ?_, ?_⟩
  · rw [← data_length, data_str, ← data_length s, ← List.length_drop]; exact lineOf_le _
  · rw [e]
    rcases indexByte_cases (s.data.toList.drop p) 10 with ⟨h1, h2⟩ | ⟨h1, h2⟩
    · refine .inl ⟨h1, ?_⟩
      unfold lineOf; rw [h2, ← e, str_data]
    · refine .inr ⟨_, by rw [← data_length, e]; exact Nat.le_of_lt h2, h1, ?_⟩
      rw [extract_str, e, List.drop_zero, ← List.prefix_iff_eq_take.1 (List.takeWhile_prefix _)]
      rfl
theorem own_slice {w : World} {base E size n : Nat} {v : Value} {xs : List Value} (h : w.ownsRow base E size v n xs) : ∃ A cap, v = .slice A n cap := by
  rcases h.2 with ⟨rfl, rfl⟩ | ⟨g, cap, cur, rfl, _⟩
  · exact ⟨none, 0, rfl⟩
  · exact ⟨_, _, rfl⟩
theorem below_dn {B : Nat} {a w : World} (h : Below B a w) (n : Nat) : Below B a (w.drewN n) := ⟨h.os, h.tape, h.output, h.size, h.block⟩
theorem parseRet_ok {w w' : World} {r : Except (Int × Nat) (List Off)} {l : List Off} {v : Value} (h : r = .ok l) (ho : w'.ownsRow w.heap.size 40 6 v l.length (ocells l)) (hb : Below w.heap.size w w') : ParseRet w r (.returned (.tuple #[v, .int .i64 0, .int .i64 0])) w' := by
  subst h; exact ⟨_, rfl, ho, hb⟩
theorem entry_err (ws : List Wd) (x0 : Wd) (r : List Wd) (w : World) (g cap i : Nat) (hws : ws = x0 :: r) (hgl : g < w.heap.size) (hn : 1 ≤ ws.length) (hcw : ∀ j, (h : j < ws.length) → w.cell? ⟨g, j * 2, none⟩ = some (.string (str ws[j].1))) (hsz : ∀ x ∈ ws, x.1.length ≤ 9223372036854775807) (hnl : ws.length ≤ 4294967296) (he : entryP ws = .error i) :
    Calls Tryz.prog 17 #[.slice (some ⟨g, 0, none⟩) ws.length cap] w fun e w' => e = .returned (.tuple #[.agg #[.string ⟨#[]⟩, .int .i64 0, .int .i64 0, .int .i64 0, .int .i64 0, .int .i64 0], .int .i64 (i : Int)]) ∧ Below w.heap.size w w' :=
  (entry_any ws x0 r w g cap hws hgl hn hcw hsz hnl).mono fun e w' h => by unfold EntRet at h; rw [he] at h; exact h
theorem entry_ok (ws : List Wd) (x0 : Wd) (r : List Wd) (w : World) (g cap : Nat) (o : Off) (hws : ws = x0 :: r) (hgl : g < w.heap.size) (hn : 1 ≤ ws.length) (hcw : ∀ j, (h : j < ws.length) → w.cell? ⟨g, j * 2, none⟩ = some (.string (str ws[j].1))) (hsz : ∀ x ∈ ws, x.1.length ≤ 9223372036854775807) (hnl : ws.length ≤ 4294967296) (he : entryP ws = .ok o) :
    Calls Tryz.prog 17 #[.slice (some ⟨g, 0, none⟩) ws.length cap] w fun e w' => e = .returned (.tuple #[.agg #[.string o.name, .int .i64 o.do_, .int .i64 o.undo, .int .i64 o.due, .int .i64 o.part, .int .i64 o.amend], .int .i64 (-1)]) ∧ Below w.heap.size w w' :=
  (entry_any ws x0 r w g cap hws hgl hn hcw hsz hnl).mono fun e w' h => by unfold EntRet at h; rw [he] at h; exact h
theorem after_put {w1 w2 : World} {ob : Obj} {b g : Nat} {ws : List Wd} (hg : (w1.alloc ob).grownBy w2 (some b)) (hgl : g < w1.heap.size) (hne : g ≠ b) (hc : ∀ (j : Nat) (h : j < ws.length), w1.cell? ⟨g, j * 2, none⟩ = some (.string (str ws[j].1)) ∧ w1.cell? ⟨g, j * 2 + 1, none⟩ = some (.int .i64 (ws[j].2 : Int))) :
    g < w2.heap.size ∧ ∀ (j : Nat) (h : j < ws.length), w2.cell? ⟨g, j * 2, none⟩ = some (.string (str ws[j].1)) ∧ w2.cell? ⟨g, j * 2 + 1, none⟩ = some (.int .i64 (ws[j].2 : Int)) := by
  have hs := hg.size
  rw [asz] at hs
  refine ⟨by omega, fun j h => ⟨?_, ?_⟩⟩
  · exact hg.cell ((World.cell?_alloc_lt w1 ob _ hgl).trans (hc j h).1) (by simpa using hne)
  · exact hg.cell ((World.cell?_alloc_lt w1 ob _ hgl).trans (hc j h).2) (by simpa using hne)
/-- the state once the new name is in the map -/
structure PSu (w wr : World) (v : Value) (acc : List Off) (o : Off) : Prop where
  bel : Below w.heap.size w wr
  own : wr.ownsRow w.heap.size 40 6 v acc.length (ocells acc)
  map : ∃ n, n ≤ acc.length + 1 ∧ MapIs Tryz.prog 9 wr w.heap.size n (nameF (acc ++ [o]))
theorem pst_put {w w1 w2 : World} {v : Value} {acc : List Off} {n : Nat} {o : Off} {ob : Obj} {x : List UInt8} (h : PSt w w1 v acc n) (hg : (w1.alloc ob).grownBy w2 (some w.heap.size)) (hm : MapIs Tryz.prog 9 w2 w.heap.size (if (nameF acc (str x).data.toList).isSome then n else n + 1) (upd (nameF acc) (str x).data.toList (some (.bool true)))) (hx : o.name.data.toList = x) : PSu w w2 v acc o := by
  refine ⟨below_grown (h.bel.alloc h.bel.size _) hg (by have := h.bel.size; rw [asz]; omega) (Nat.le_refl _), (h.own.alloc _).kept hg (.inr (row_map_ne h.own h.map)), _, ?_, hm.congr fun k => ?_⟩
  · have := h.nle; split <;> omega
  · rw [data_str, ← hx]; exact nameF_snoc acc o k
theorem PSu.step {w w2 w3 : World} {v : Value} {acc : List Off} {o : Off} (h : PSu w w2 v acc o) (hb : Below w2.heap.size w2 w3) (ob : Obj) : PSu w (w3.alloc ob) v acc o := by
  have hbel := h.bel.trans (hb.mono h.bel.size)
  obtain ⟨n, hn, hm⟩ := h.map
  refine ⟨hbel.alloc hbel.size _, World.ownsRow.alloc ⟨h.own.1, ?_⟩ _, n, hn, (hm.below hb hm.lt).alloc _⟩
  rcases h.own.2 with hn | ⟨g, cap, cur, rfl, hbg, hgg, rest⟩
  · exact .inl hn
  · exact .inr ⟨g, cap, cur, rfl, hbg, (hb.block g (Array.getElem?_eq_some_iff.1 hgg).1).trans hgg, rest⟩
theorem PSu.app {w w3 w4 : World} {v v4 : Value} {acc : List Off} {o : Off} {ob : Obj} (h : PSu w w3 v acc o) (hown : w4.ownsRow w.heap.size 40 6 v4 (acc.length + 1) (ocells acc ++ [.string o.name, .int .i64 o.do_, .int .i64 o.undo, .int .i64 o.due, .int .i64 o.part, .int .i64 o.amend])) (hg : (w3.alloc ob).grownBy w4 v.ownBlock) (hac : acc.length ≤ 255) : ∃ n, PSt w w4 v4 (acc ++ [o]) n := by
  obtain ⟨n, hn, hm⟩ := h.map
  refine ⟨n, Below.grown (h.bel.alloc h.bel.size _) hg (by have := h.bel.size; rw [asz]; omega) (fun j hj => (h.own.lt _ hj).1), by rw [List.length_append, List.length_singleton, ocells_snoc]; exact hown, by rw [List.length_append, List.length_singleton]; exact hn, by rw [List.length_append, List.length_singleton]; omega, (hm.alloc _).kept hg (row_map_ne h.own hm).symm⟩
theorem cell_six_new' (w : World) (o : Off) (t : TypeId) (b : Nat) (hb : b = w.heap.size) : ∀ j u, [.string o.name, .int .i64 o.do_, .int .i64 o.undo, .int .i64 o.due, .int .i64 o.part, .int .i64 o.amend][j]? = some u → (w.alloc (.cells #[.string o.name, .int .i64 o.do_, .int .i64 o.undo, .int .i64 o.due, .int .i64 o.part, .int .i64 o.amend] t)).cell? ((⟨b, 0, none⟩ : Addr).add j) = some u := by
  subst hb; exact cell_six_new w o t
set_option maxHeartbeats 8000000 in
set_option maxRecDepth 100000 in
theorem parse_any (s : ByteArray) (w : World) (hs : s.size ≤ 4294967200) : Calls Tryz.prog 7 #[.string s] w (ParseRet w (parseP s.data.toList)) := by
  obtain ⟨i0, hi, hz0, hz1, hz2⟩ := info_parts Tryz.info40
  have hmm := @run_makeMap Tryz.prog
  have S0 : Hid (PSt w (w.alloc (.map #[] 0)) (.slice none 0 0) [] 0) := ⟨(Below.refl _ _).alloc (Nat.le_refl _) _, World.ownsRow_nil _ _ _ _, Nat.le_refl _, by simp, (MapIs.made Tryz.prog 9 w).congr (fun s => rfl)⟩
  have HL : Hid (s.data.toList.length = s.size) := data_length s
  go_enter Tryz.func7, Tryz.ntmps7
  go_wp2_with fail
  clear hmm
  go_loopw [5, 7] (fun v a wr => ∃ (p : Nat) (acc : List Off), a = .int .i64 p ∧ p ≤ s.size + 1 ∧ Hid (linesP (remP s.data.toList p) acc = parseP s.data.toList) ∧ Hid (∃ n, PSt w wr v acc n)) (fun _ a _ => s.size + 1 - (intOf a).toNat)
  case atStart => exact ⟨0, [], rfl, by omega, remP_zero _, 0, S0⟩
  case round =>
    clear S0
    obtain ⟨p, acc, rfl, hp1, HR, HSE⟩ := hrel
    obtain ⟨n, HS'⟩ := HSE.out
    have HS := Lib.hid HS'
    clear HSE HS'
    by_cases hp : p < s.size
    · obtain ⟨d, hd, hds, hcase⟩ := line_bytes s p
      have t0 : decide ((p : Int) < (s.size : Int)) = true := decide_eq_true (by omega)
      have HD := Lib.hid hd
      have HC := Lib.hid hcase
      have HST := Lib.hid (HR.out.symm.trans (linesP_step s.data.toList p (by rw [data_length]; exact hp) acc))
      clear hd hcase
      go_upto_region 6 with (fail)
      generalize s.extract p s.size = ex at *
      go_upto_if 25 with (go_at_call 14; refine (idx_any _ _ _).mono ?_; rintro e w' ⟨rfl, rfl⟩)
      generalize hix : Lib.indexByte ex.data.toList 10 = ix at *
      clear hix
      go_cut [8, 25] (fun vv _ wx => ∃ dd : ByteArray, vv = .string dd ∧ Hid (d = dd ∧ wr = wx))
      case first =>
        rcases HC.out with ⟨h1, h2⟩ | ⟨m, hm, h1, h2⟩
        · have t : decide (0 ≤ ix) = false := decide_eq_false (by omega)
          have g1 : ix < 0 := by omega
          have H2 := Lib.hid h2
          clear h1 h2
          go_wp2_with fail
          go_meet
          exact ⟨_, rfl, H2.out.symm, rfl⟩
        · have t : decide (0 ≤ ix) = true := decide_eq_true (by omega)
          have g1 : 0 ≤ ix := by omega
          have g2 : ix ≤ ex.size := by omega
          have H2 : Hid (ex.extract 0 ix.toNat = d) := by rw [h1, Int.toNat_natCast]; exact h2
          clear h1 h2
          go_wp2_with fail
          go_meet
          exact ⟨_, rfl, H2.out.symm, rfl⟩
      case rest =>
      obtain ⟨dd, rfl, hh⟩ := hcut
      obtain ⟨rfl, rfl⟩ := hh.out
      clear hh HC
      go_upto_region 10 with (go_at_call 15; refine (split_any _ _ _ (by omega) (by omega)).mono ?_; rintro e w1 ⟨v1, rfl, hown1, hb1⟩)
      have S1 := Lib.hid (HS.out.below hb1)
      have HB1 := Lib.hid hb1
      have HD2 := Lib.hid (splitP_len d.data.toList p)
      have hcnt := splitP_count d.data.toList p
      rw [data_length] at hcnt
      have hline : Hid ((lineOf (s.data.toList.drop p)).length = d.size) := by rw [← HD.out, data_length]; rfl
      have HST2 : Hid (parseP s.data.toList = match lineP p d.data.toList acc with | .error e => .error e | .ok acc' => linesP (remP s.data.toList (p + d.size + 1)) acc') := by
        have := HST.out
        rw [hline.out, ← HD.out] at this
        exact this
      clear HST hb1 HS HR
      generalize hws : splitP d.data.toList p = ws at *
      have HWS := Lib.hid hws
      clear hws
      obtain ⟨A5, cap5, rfl⟩ := own_slice S1.out.own
      have hsl := S1.out.bel.size
      have hb1s := HB1.out.size
      have hcn := S1.out.cnt
      have hnn := S1.out.nle
      cases ws with
      | nil =>
        have HN : Hid (linesP (remP s.data.toList (p + d.size + 1)) acc = parseP s.data.toList) := by
          rw [HST2.out, lineP_none HWS.out]; rfl
        obtain ⟨A1, cap1, rfl⟩ := own_slice hown1
        clear hown1 HST2 HD2
        simp only [List.length_nil]
        go_wp2_with fail
        go_roundw
        case rel => exact ⟨p + d.size + 1, _, by go_num, by omega, HN, _, S1⟩
        case measure => simp [intOf]; omega
      | cons x r =>
        obtain ⟨g, cap1, rfl, hgl, hcells⟩ := own_form hown1 (by simp)
        have hct : Hid (∀ (j : Nat) (h : j < (x :: r).length), w1.cell? ⟨g, j * 2, none⟩ = some (.string (str (x :: r)[j].1)) ∧ w1.cell? ⟨g, j * 2 + 1, none⟩ = some (.int .i64 ((x :: r)[j].2 : Int))) := fun j h => ⟨hcells _ _ (wcells_text _ j h).1, hcells _ _ (wcells_text _ j h).2⟩
        have hc0 : w1.cell? ⟨g, 0, none⟩ = some (.string (str x.1)) := (hct.out 0 (by simp)).1
        have hc1 : w1.cell? ⟨g, 1, none⟩ = some (.int .i64 (x.2 : Int)) := (hct.out 0 (by simp)).2
        have hgm : g ≠ w.heap.size := by
          intro e
          exact row_map_ne hown1 (e ▸ S1.out.map) (by simp [Value.ownBlock])
        have hxs : (str x.1).size ≤ maxLen := by
          have := HD2.out x (List.mem_cons_self ..)
          rw [← data_length, data_str]; rw [data_length] at this; unfold maxLen; omega
        clear hcells hown1
        cases hnm : nameB (nats (str x.1)) with
        | false =>
          have HV : Hid (parseP s.data.toList = .error (2, x.2)) := by rw [HST2.out, lineP_name HWS.out hnm]; rfl
          have HB := Lib.hid (S1.out.bel.alloc S1.out.bel.size (.cells #[.string (str x.1), .int .i64 (x.2 : Int)] 63))
          clear HST2 HD2
          go_wp2_with (go_at_call 16; refine (isName_any _ _).mono ?_; rintro e w' ⟨rfl, rfl⟩)
          go_quiet (fail)
          go_wp2_with fail
          go_ret3
          exact parseRet_err HV.out (below_dn HB.out _)
        | true =>
        have HXS := Lib.hid hxs
        by_cases htw : x.1 ∈ nmL acc
        · have HV : Hid (parseP s.data.toList = .error (4, x.2)) := by rw [HST2.out, lineP_twice HWS.out hnm htw]; rfl
          have HB := Lib.hid (S1.out.bel.alloc S1.out.bel.size (.cells #[.string (str x.1), .int .i64 (x.2 : Int)] 63))
          have hlk := (S1.out.map.alloc (.cells #[.string (str x.1), .int .i64 (x.2 : Int)] 63)).look Tryz.underlying9 Tryz.underlying58 (zeroBool _) HXS.out
          rw [show nameF acc (str x.1).data.toList = some (.bool true) by unfold nameF; rw [data_str, if_pos htw], Option.getD_some] at hlk
          clear HST2 HD2 htw hxs
          go_wp2_with (go_at_call 16; refine (isName_any _ _).mono ?_; rintro e w' ⟨rfl, rfl⟩)
          go_quiet (fail)
          go_wp2_with fail
          go_ret3
          exact parseRet_err HV.out (below_dn HB.out _)
        · have HTW := Lib.hid htw
          have hlk := (S1.out.map.alloc (.cells #[.string (str x.1), .int .i64 (x.2 : Int)] 63)).look Tryz.underlying9 Tryz.underlying58 (zeroBool _) HXS.out
          rw [show nameF acc (str x.1).data.toList = none by unfold nameF; rw [data_str, if_neg htw], Option.getD_none] at hlk
          clear htw hxs
          by_cases hfu : acc.length = 256
          · have HV : Hid (parseP s.data.toList = .error (3, x.2)) := by rw [HST2.out, lineP_full HWS.out hnm HTW.out hfu]; rfl
            have HB := Lib.hid (S1.out.bel.alloc S1.out.bel.size (.cells #[.string (str x.1), .int .i64 (x.2 : Int)] 63))
            have t3 : ((acc.length : Int) == 256) = true := beq_iff_eq.2 (by omega)
            clear HST2 HD2 hfu
            go_wp2_with (go_at_call 16; refine (isName_any _ _).mono ?_; rintro e w' ⟨rfl, rfl⟩)
            go_quiet (fail)
            go_wp2_with fail
            go_ret3
            exact parseRet_err HV.out (below_dn HB.out _)
          · have t3 : ((acc.length : Int) == 256) = false := beq_eq_false_iff_ne.2 (by omega)
            have hac : acc.length ≤ 255 := by omega
            have HFU := Lib.hid hfu
            have HSZ : Hid (∀ y ∈ x :: r, y.1.length ≤ 9223372036854775807) := fun y hy => by
              have := HD2.out y hy
              rw [data_length] at this; omega
            have hnl : (x :: r).length ≤ 4294967296 := by omega
            clear HD2 hfu
            have hfacts := entryF_facts r 1 [] (initO x.1)
            cases hen : entryF r 1 [] (initO x.1) with
            | error i =>
              rw [hen] at hfacts
              have hi2 : i < (x :: r).length := by simp only at hfacts; rw [List.length_cons]; omega
              have hgD : ((x :: r).getD i ([], 0)) = (x :: r)[i] := by rw [List.getD, List.getElem?_eq_getElem hi2, Option.getD_some]
              have HV : Hid (parseP s.data.toList = .error (2, (x :: r)[i].2)) := by
                rw [HST2.out, lineP_bad HWS.out hnm HTW.out HFU.out hen, hgD]; rfl
              have HI2 := Lib.hid hi2
              have hi3 : (i : Int) < (r.length : Int) + 1 := by rw [List.length_cons] at hi2; omega
              have hi4 : i < r.length + 1 := by rw [List.length_cons] at hi2; omega
              have hi5 : (0 : Int) ≤ i := by omega
              have t4 : decide ((0 : Int) ≤ i) = true := decide_eq_true hi5
              clear hgD
              have HEN : Hid (entryP (x :: r) = .error i) := hen
              clear hen HST2 hfacts
              go_wp2_with (first | (go_at_call 16; refine (isName_any _ _).mono ?_; rintro e w' ⟨rfl, rfl⟩) | (refine wpList_put_is _ rfl _ _ _ 58 (.inl rfl) 4 Tryz.underlying9 Tryz.underlying58 w.heap.size _ _ rfl (S1.out.map.alloc _) (by unfold maxLen; omega) (str x.1) _ rfl rfl HXS.out ?_; intro w2 hM2 hg2; have G2 := Lib.hid (after_put hg2 hgl hgm hct.out); have B2 := Lib.hid (below_grown (S1.out.bel.alloc hsl _) hg2 (by simp; omega) (Nat.le_refl _)); clear hM2 hg2) | (go_at_call 17; refine (entry_err (x :: r) x r _ g cap1 i rfl G2.out.1 (by simp) (fun j h => (G2.out.2 j h).1) HSZ.out hnl HEN.out).mono ?_; rintro e w3 ⟨rfl, hb3⟩; have hcx := (hb3.cell (p := ⟨g, i * 2 + 1, none⟩) G2.out.1).trans (G2.out.2 i hi2).2; have hg3 := Nat.lt_of_lt_of_le G2.out.1 hb3.size; have B3 := Lib.hid ((B2.out.trans (hb3.mono B2.out.size)).alloc (B2.out.trans (hb3.mono B2.out.size)).size (.cells #[.string ⟨#[]⟩, .int .i64 0, .int .i64 0, .int .i64 0, .int .i64 0, .int .i64 0] 40)); clear hb3))
              go_quiet (fail)
              go_wp2_with fail
              go_ret3
              exact parseRet_err HV.out (below_dn B3.out _)
            | ok o =>
              rw [hen] at hfacts
              have hon : o.name.data.toList = x.1 := by
                have h2 : o.name = str x.1 := hfacts
                rw [h2, data_str]
              have HV : Hid (linesP (remP s.data.toList (p + d.size + 1)) (acc ++ [o]) = parseP s.data.toList) := by
                rw [HST2.out, lineP_good HWS.out hnm HTW.out HFU.out hen]; rfl
              have HEN : Hid (entryP (x :: r) = .ok o) := hen
              have HON := Lib.hid hon
              clear hen HST2 hfacts hon
              go_wp2_with (first | (go_at_call 16; refine (isName_any _ _).mono ?_; rintro e w' ⟨rfl, rfl⟩) | (refine wpList_put_is _ rfl _ _ _ 58 (.inl rfl) 4 Tryz.underlying9 Tryz.underlying58 w.heap.size _ _ rfl (S1.out.map.alloc _) (by unfold maxLen; omega) (str x.1) _ rfl rfl HXS.out ?_; intro w2 hM2 hg2; have G2 := Lib.hid (after_put hg2 hgl hgm hct.out); have T2 := Lib.hid (pst_put (o := o) S1.out hg2 hM2 HON.out); clear hM2 hg2) | (go_at_call 17; refine (entry_ok (x :: r) x r _ g cap1 o rfl G2.out.1 (by simp) (fun j h => (G2.out.2 j h).1) HSZ.out hnl HEN.out).mono ?_; rintro e w3 ⟨rfl, hb3⟩; have T3 := Lib.hid (T2.out.step hb3 (.cells #[.string o.name, .int .i64 o.do_, .int .i64 o.undo, .int .i64 o.due, .int .i64 o.part, .int .i64 o.amend] 40)); have hw3 := T3.out.bel.size; clear hb3) | (at_builtin; refine wpList_append_own _ rfl _ _ 34 rfl w.heap.size 40 i0 (.agg zeroO.cells) 6 56 Tryz.underlying34 hi hz0 hz1 hz2 rfl (by decide) _ _ _ rfl (T3.out.own.alloc _) ⟨w3.heap.size + 1, 0, none⟩ 1 1 [.string o.name, .int .i64 o.do_, .int .i64 o.undo, .int .i64 o.due, .int .i64 o.part, .int .i64 o.amend] rfl rfl (cell_six_new' _ _ _ _ (by simp)) (by simp [Value.oneCell']) (by unfold maxLen; omega) (by omega) (by simp at hw3 ⊢; omega) ?_; intro v4 w4 hown4 hgrow4 hnil4; have T4 := Lib.hid (T3.out.app hown4 hgrow4); clear hown4 hgrow4 hnil4))
              go_roundw
              case rel => exact ⟨p + d.size + 1, _, by go_num, by omega, HV, T4.out hac⟩
              case measure => simp [intOf]; omega
    · have HV : Hid (parseP s.data.toList = .ok acc) := by
        rw [← HR.out]; exact remP_end _ _ (by rw [data_length]; omega) _
      have t0 : decide ((p : Int) < (s.size : Int)) = false := decide_eq_false (by omega)
      go_wp2_with fail
      go_ret3
      exact parseRet_ok HV.out HS.out.own HS.out.bel
end Go.Proofs.YtbmknjfgjphfbaaGreatDoor.C
namespace Go.Proofs.YtbmknjfgjphfbaaGreatDoor.C
open Go.RowKit
def cst (o : Off) (k : Nat) : Int := match k with | 0 => o.do_ | 1 => o.undo | 2 => o.part | _ => o.amend
theorem right_bad (o : Off) (k : Nat) (hk : k < 4) (h : costB (cst o k) = false) : rightB o = false := by
  have : k = 0 ∨ k = 1 ∨ k = 2 ∨ k = 3 := by omega
  unfold rightB
  rcases this with rfl | rfl | rfl | rfl <;> simp only [cst] at h <;> rw [h] <;> simp
theorem right_good (o : Off) (h : ∀ k, k < 4 → costB (cst o k) = true) : rightB o = (nameB (nats o.name) && decide (0 ≤ o.due) && decide (o.due ≤ 1073741824)) := by
  have h0 : costB o.do_ = true := h 0 (by omega)
  have h1 : costB o.undo = true := h 1 (by omega)
  have h2 : costB o.part = true := h 2 (by omega)
  have h3 : costB o.amend = true := h 3 (by omega)
  unfold rightB
  rw [h0, h1, h2, h3]; simp
theorem ix0 (a b c d : Int) (w : World) : (Instr.index 100 (.agg #[.int .i64 a, .int .i64 b, .int .i64 c, .int .i64 d]) (.int .i64 0)).run Tryz.prog w = .ok (.int .i64 a) w := by kernel_rfl
theorem ix1 (a b c d : Int) (w : World) : (Instr.index 100 (.agg #[.int .i64 a, .int .i64 b, .int .i64 c, .int .i64 d]) (.int .i64 1)).run Tryz.prog w = .ok (.int .i64 b) w := by kernel_rfl
theorem ix2 (a b c d : Int) (w : World) : (Instr.index 100 (.agg #[.int .i64 a, .int .i64 b, .int .i64 c, .int .i64 d]) (.int .i64 2)).run Tryz.prog w = .ok (.int .i64 c) w := by kernel_rfl
theorem ix3 (a b c d : Int) (w : World) : (Instr.index 100 (.agg #[.int .i64 a, .int .i64 b, .int .i64 c, .int .i64 d]) (.int .i64 3)).run Tryz.prog w = .ok (.int .i64 d) w := by kernel_rfl
set_option maxHeartbeats 2000000 in
theorem right_any (o : Off) (w : World) : Calls Tryz.prog 18 #[.agg o.cells] w fun e w' => e = .returned (.bool (rightB o)) ∧ Below w.heap.size w w' := by
  have hb : ∀ ob, Below w.heap.size w (w.alloc ob) := fun ob => (Below.refl _ _).alloc (Nat.le_refl _) _
  unfold Off.cells
  go_enter Tryz.func18, Tryz.ntmps18
  go_wp2_with fail
  go_loopw [14] (fun i wr => ∃ k : Nat, k ≤ 4 ∧ i = .int .i64 k ∧ Hid (∀ j, j < k → costB (cst o j) = true) ∧ wr = w.alloc (.cells #[.string o.name, .int .i64 o.do_, .int .i64 o.undo, .int .i64 o.due, .int .i64 o.part, .int .i64 o.amend] 40)) (fun i _ => 4 - (intOf i).toNat)
  case atStart => exact ⟨0, by omega, rfl, fun j hj => by omega, rfl⟩
  case round =>
    obtain ⟨k, hk, rfl, hall, rfl⟩ := hrel
    by_cases hlt : k < 4
    · obtain ⟨c, hc⟩ : ∃ c, c = cst o k := ⟨_, rfl⟩
      have hix : ∀ w, (Instr.index 100 (.agg #[.int .i64 o.do_, .int .i64 o.undo, .int .i64 o.part, .int .i64 o.amend]) (.int .i64 (k : Int))).run Tryz.prog w = .ok (.int .i64 c) w := by
        intro w
        have : k = 0 ∨ k = 1 ∨ k = 2 ∨ k = 3 := by omega
        rw [hc]
        rcases this with e | e | e | e <;> rw [e]
        · exact ix0 ..
        · exact ix1 ..
        · exact ix2 ..
        · exact ix3 ..
      have t0 : decide ((k : Int) < 4) = true := decide_eq_true (by omega)
      have HC := Lib.hid hc
      clear hc
      by_cases h1 : c < -1
      · have t1 : decide (c < -1) = true := decide_eq_true h1
        have HN := Lib.hid (right_bad o k hlt (by rw [← HC.out]; simp [costB]; omega))
        go_wp2_with fail
        go_ret
        exact ⟨by rw [HN.out]; rfl, hb _⟩
      · have t1 : decide (c < -1) = false := decide_eq_false h1
        by_cases h2 : 1048576 < c
        · have t2 : decide (1048576 < c) = true := decide_eq_true h2
          have HN := Lib.hid (right_bad o k hlt (by rw [← HC.out]; simp [costB]; omega))
          go_wp2_with fail
          go_ret
          exact ⟨by rw [HN.out]; rfl, hb _⟩
        · have t2 : decide (1048576 < c) = false := decide_eq_false h2
          have HN : Hid (∀ j, j < k + 1 → costB (cst o j) = true) := fun j hj => by
            by_cases e : j = k
            · rw [e, ← HC.out]; simp [costB]; omega
            · exact hall.out j (by omega)
          go_wp2_with fail
          go_roundw
          case rel => exact ⟨k + 1, by omega, by go_num, HN, trivial⟩
          case measure => simp [intOf]; omega
    · obtain rfl : k = 4 := by omega
      have HN := Lib.hid (right_good o hall.out)
      have t0 : decide (((4 : Nat) : Int) < 4) = false := rfl
      cases hnm : nameB (nats o.name) with
      | false =>
        go_wp2_with (go_at_call 16; refine (isName_any _ _).mono ?_; rintro e w' ⟨rfl, rfl⟩)
        go_ret
        exact ⟨by rw [HN.out, hnm]; rfl, hb _⟩
      | true =>
        by_cases hd : 0 ≤ o.due
        · have t5 : decide (0 ≤ o.due) = true := decide_eq_true hd
          go_wp2_with (go_at_call 16; refine (isName_any _ _).mono ?_; rintro e w' ⟨rfl, rfl⟩)
          go_ret
          exact ⟨by rw [HN.out, hnm, t5]; simp, hb _⟩
        · have t5 : decide (0 ≤ o.due) = false := decide_eq_false hd
          go_wp2_with (go_at_call 16; refine (isName_any _ _).mono ?_; rintro e w' ⟨rfl, rfl⟩)
          go_ret
          exact ⟨by rw [HN.out, hnm, t5]; simp, hb _⟩
end Go.Proofs.YtbmknjfgjphfbaaGreatDoor.C
namespace Go.Proofs.YtbmknjfgjphfbaaGreatDoor.C
open Go.RowKit
/-- the slice v reads as the entries l, below block B -/
def OReads (w : World) (B : Nat) (v : Value) (l : List Off) : Prop :=
  ∃ A cap, v = .slice A l.length cap ∧ (0 < l.length → ∃ g off, A = some ⟨g, off, none⟩ ∧ g < B ∧ ∀ (i : Nat) (h : i < l.length) (j : Nat) (u : Value), l[i].cells[j]? = some u → w.cell? ⟨g, off + i * 6 + j, none⟩ = some u)
theorem OReads.below {w w' : World} {B : Nat} {v : Value} {l : List Off} (h : OReads w B v l) (hb : Below B w w') : OReads w' B v l := by
  obtain ⟨A, cap, rfl, h⟩ := h
  refine ⟨A, cap, rfl, fun h0 => ?_⟩
  obtain ⟨g, off, rfl, hg, hc⟩ := h h0
  exact ⟨g, off, rfl, hg, fun i hi j u hu => (hb.cell (p := ⟨g, off + i * 6 + j, none⟩) hg).trans (hc i hi j u hu)⟩
theorem OReads.mono {w : World} {B B' : Nat} {v : Value} {l : List Off} (h : OReads w B v l) (hB : B ≤ B') : OReads w B' v l := by
  obtain ⟨A, cap, rfl, h⟩ := h
  refine ⟨A, cap, rfl, fun h0 => ?_⟩
  obtain ⟨g, off, rfl, hg, hc⟩ := h h0
  exact ⟨g, off, rfl, by omega, hc⟩
theorem ocells_at (l : List Off) : ∀ (i : Nat) (h : i < l.length) (j : Nat) (u : Value), l[i].cells[j]? = some u → (ocells l)[i * 6 + j]? = some u := by
  induction l with
  | nil => intro i h; simp at h
  | cons o r ih =>
    intro i h j u hu
    have e : ocells (o :: r) = o.cells.toList ++ ocells r := by simp [ocells]
    have hl : o.cells.toList.length = 6 := rfl
    rw [e]
    cases i with
    | zero =>
      have hj : j < 6 := by
        rcases Nat.lt_or_ge j 6 with h | h
        · exact h
        · simp only [List.getElem_cons_zero] at hu
          rw [Array.getElem?_eq_none (by show 6 ≤ j; exact h)] at hu; cases hu
      rw [List.getElem?_append_left (by rw [hl]; omega), Nat.zero_mul, Nat.zero_add]
      simpa using hu
    | succ i =>
      rw [List.getElem?_append_right (by rw [hl]; omega), hl, show (i + 1) * 6 + j - 6 = i * 6 + j by omega]
      exact ih i (by simpa using h) j u (by simpa using hu)
theorem OReads.of_own {w : World} {base : Nat} {v : Value} {l : List Off} (h : w.ownsRow base 40 6 v l.length (ocells l)) : OReads w w.heap.size v l := by
  by_cases h0 : 0 < l.length
  · obtain ⟨g, cap, rfl, hg, hc⟩ := own_form h h0
    exact ⟨_, cap, rfl, fun _ => ⟨g, 0, rfl, hg, fun i hi j u hu => by rw [Nat.zero_add]; exact hc _ _ (ocells_at l i hi j u hu)⟩⟩
  · rcases h.2 with ⟨rfl, hn⟩ | ⟨g, cap, cur, rfl, _⟩
    · exact ⟨none, 0, by rw [hn], fun h => absurd h h0⟩
    · exact ⟨_, cap, rfl, fun h => absurd h h0⟩
def findP (l : List Off) (nm : List UInt8) : Option Off := l.find? fun o => decide (o.name.data.toList = nm)
def FindRet (w : World) (r : Option Off) (e : Ending) (w' : World) : Prop := e = .returned (.tuple #[.agg (r.getD zeroO).cells, .bool r.isSome]) ∧ Below w.heap.size w w'
theorem find_no (l : List Off) (nm : List UInt8) (h : ∀ j (hj : j < l.length), l[j].name.data.toList ≠ nm) : findP l nm = none := by
  unfold findP
  rw [List.find?_eq_none]
  intro o ho
  obtain ⟨j, hj, rfl⟩ := List.getElem_of_mem ho
  simpa using h j hj
theorem find_yes (l : List Off) (nm : List UInt8) (k : Nat) (hk : k < l.length) (h : ∀ j (hj : j < l.length), j < k → l[j].name.data.toList ≠ nm) (he : l[k].name.data.toList = nm) : findP l nm = some l[k] := by
  unfold findP
  rw [List.find?_eq_some_iff_getElem]
  exact ⟨by simpa using he, k, hk, rfl, fun j hj => by simpa using h j (by omega) hj⟩
set_option maxHeartbeats 2000000 in
theorem find_any (v : Value) (l : List Off) (nm : ByteArray) (w : World) (hr : OReads w w.heap.size v l) (hl : l.length ≤ 4294967296) : Calls Tryz.prog 9 #[v, .string nm] w (FindRet w (findP l nm.data.toList)) := by
  obtain ⟨A, cap, rfl, hr⟩ := hr
  have HR := Lib.hid hr
  clear hr
  go_enter Tryz.func9, Tryz.ntmps9
  go_wp2_with fail
  go_loopw [10] (fun i wr => ∃ k : Nat, k ≤ l.length ∧ i = .int .i64 k ∧ Hid (∀ j (hj : j < l.length), j < k → l[j].name.data.toList ≠ nm.data.toList) ∧ Hid (Hs wr w.heap.size 40 zeroO.cells ∧ Below w.heap.size w wr)) (fun i _ => l.length - (intOf i).toNat)
  case atStart => exact ⟨0, by omega, rfl, fun j _ hj => by omega, Hs.new w 40 _, (Below.refl _ _).alloc (Nat.le_refl _) _⟩
  case round =>
    obtain ⟨k, hk, rfl, hall, HS⟩ := hrel
    have hws := HS.out.1.lt
    by_cases hlt : k < l.length
    · obtain ⟨g, off, rfl, hg, hc⟩ := HR.out (by omega)
      have t0 : decide ((k : Int) < (l.length : Int)) = true := decide_eq_true (by omega)
      have hcw : ∀ (j : Nat) (u : Value), l[k].cells[j]? = some u → wr.cell? ⟨g, off + k * 6 + j, none⟩ = some u := fun j u hu => (HS.out.2.cell (p := ⟨g, off + k * 6 + j, none⟩) hg).trans (hc k hlt j u hu)
      obtain ⟨o, ho⟩ : ∃ o, o = l[k] := ⟨_, rfl⟩
      rw [← ho] at hcw
      have c0 : wr.cell? ⟨g, off + k * 6, none⟩ = some (.string o.name) := hcw 0 _ rfl
      have c1 : wr.cell? ⟨g, off + k * 6 + 1, none⟩ = some (.int .i64 o.do_) := hcw 1 _ rfl
      have c2 : wr.cell? ⟨g, off + k * 6 + 2, none⟩ = some (.int .i64 o.undo) := hcw 2 _ rfl
      have c3 : wr.cell? ⟨g, off + k * 6 + 3, none⟩ = some (.int .i64 o.due) := hcw 3 _ rfl
      have c4 : wr.cell? ⟨g, off + k * 6 + 4, none⟩ = some (.int .i64 o.part) := hcw 4 _ rfl
      have c5 : wr.cell? ⟨g, off + k * 6 + 5, none⟩ = some (.int .i64 o.amend) := hcw 5 _ rfl
      have HO := Lib.hid ho
      clear ho hcw hc
      by_cases he : o.name.data.toList = nm.data.toList
      · have t1 : (o.name.toList == nm.toList) = true := by rw [ByteArray.toList_eq, ByteArray.toList_eq, beq_iff_eq]; exact he
        have HF : Hid (findP l nm.data.toList = some o) := by rw [HO.out]; exact find_yes l _ k hlt hall.out (by rw [← HO.out]; exact he)
        have HE := Lib.hid he
        clear he
        go_wp2_with (refine wpList_store_row rfl 40 _ _ rfl w.heap.size o.cells rfl rfl 40 zeroO.cells (HS.out.1.alloc _) info40 rfl (off_one o) ?_)
        refine bodyPost_ret (ret_cell_tmp Tryz.results9 _ _ w.heap.size o rfl (setRow_heap _ _ _ _ _ _ (HS.out.1.alloc _))) rfl ⟨?_, below_setRow (HS.out.2.alloc (by omega) _) (Nat.le_refl _) _⟩
        rw [HF.out]; rfl
      · have t1 : (o.name.toList == nm.toList) = false := by rw [ByteArray.toList_eq, ByteArray.toList_eq, beq_eq_false_iff_ne]; exact he
        have HN : Hid (∀ j (hj : j < l.length), j < k + 1 → l[j].name.data.toList ≠ nm.data.toList) := fun j hj hjk => by
          by_cases e : j = k
          · subst e; rw [← HO.out]; exact he
          · exact hall.out j hj (by omega)
        clear he
        go_wp2_with fail
        go_roundw
        case rel => exact ⟨k + 1, by omega, by go_num, HN, HS.out.1.alloc _, HS.out.2.alloc (by omega) _⟩
        case measure => simp [intOf]; omega
    · have HF : Hid (findP l nm.data.toList = none) := find_no l _ fun j hj => hall.out j hj (by omega)
      have t0 : decide ((k : Int) < (l.length : Int)) = false := decide_eq_false (by omega)
      go_wp2_with (refine wpList_store_row rfl 40 _ _ rfl w.heap.size zeroO.cells rfl rfl 40 zeroO.cells HS.out.1 info40 rfl zeroO_one ?_)
      refine bodyPost_ret (ret_cell_tmp Tryz.results9 _ _ w.heap.size zeroO rfl (setRow_heap _ _ _ _ _ _ HS.out.1)) rfl ⟨?_, below_setRow HS.out.2 (Nat.le_refl _) _⟩
      rw [HF.out]; rfl
end Go.Proofs.YtbmknjfgjphfbaaGreatDoor.C
namespace Go.Proofs.YtbmknjfgjphfbaaGreatDoor.C
open Go.RowKit
def setF (es : List (List UInt8)) (k : List UInt8) : Option Value := if k ∈ es then some (.bool true) else none
theorem setF_snoc (es : List (List UInt8)) (e k : List UInt8) : upd (setF es) e (some (.bool true)) k = setF (es ++ [e]) k := by
  unfold upd setF
  by_cases h : k = e
  · rw [if_pos h, if_pos (List.mem_append_right _ (by simp [h]))]
  · rw [if_neg h]
    by_cases m : k ∈ es
    · rw [if_pos m, if_pos (List.mem_append_left _ m)]
    · rw [if_neg m, if_neg (fun a => (List.mem_append.1 a).elim m (fun b => h (by simpa using b)))]
def rightG : List Off → List (List UInt8) → List (List UInt8) → Bool
  | [], _, _ => true
  | o :: r, es, seen => rightB o && decide (o.name.data.toList ∈ es) && !decide (o.name.data.toList ∈ seen) && rightG r es (seen ++ [o.name.data.toList])
def rightP (l : List Off) (es : List (List UInt8)) : Bool := rightG l es [] && decide (l.length = es.length)
theorem rightG_step (l : List Off) (es : List (List UInt8)) (k : Nat) (h : k < l.length) : rightG (l.drop k) es (nmL (l.take k)) = (rightB l[k] && decide (l[k].name.data.toList ∈ es) && !decide (l[k].name.data.toList ∈ nmL (l.take k)) && rightG (l.drop (k + 1)) es (nmL (l.take (k + 1)))) := by
  rw [List.drop_eq_getElem_cons h, rightG, List.take_succ_eq_append_getElem h]
  unfold nmL
  rw [List.map_append]; rfl
/-- the effects lie in block g -/
def EReads (w : World) (g : Nat) (es : List (List UInt8)) : Prop :=
  ∀ (i : Nat) (h : i < es.length), w.cell? ⟨g, i * 5, none⟩ = some (.string (str es[i])) ∧ w.cell? ⟨g, i * 5 + 1, none⟩ = some (.slice none 0 0) ∧ w.cell? ⟨g, i * 5 + 2, none⟩ = some (.int .i64 0) ∧ w.cell? ⟨g, i * 5 + 3, none⟩ = some (.string ⟨#[]⟩) ∧ w.cell? ⟨g, i * 5 + 4, none⟩ = some (.slice none 0 0)
theorem bool_look {w : World} {b n : Nat} {es : List (List UInt8)} {nm : ByteArray} (h : MapIs Tryz.prog 9 w b n (setF es)) (hs : nm.size ≤ maxLen) : (Instr.lookup 58 (.map (some b)) (.string nm) false).run Tryz.prog w = .ok (.bool (decide (nm.data.toList ∈ es))) w := by
  rw [h.look Tryz.underlying9 Tryz.underlying58 (zeroBool _) hs]
  unfold setF
  by_cases m : nm.data.toList ∈ es
  · rw [if_pos m, decide_eq_true m]; rfl
  · rw [if_neg m, decide_eq_false m]; rfl
structure RSt (w wr : World) (es : List (List UInt8)) (l : List Off) (b2 : Nat) : Prop where
  bel : Below w.heap.size w wr
  m1 : MapIs Tryz.prog 9 wr (w.heap.size + 1) es.length (setF es)
  m2 : MapIs Tryz.prog 9 wr b2 l.length (setF (nmL l))
  ne : w.heap.size + 1 ≠ b2
  b2w : w.heap.size ≤ b2
theorem RSt.below {w wr w1 : World} {es : List (List UInt8)} {l : List Off} {b2 : Nat} (h : RSt w wr es l b2) (hb : Below wr.heap.size wr w1) : RSt w w1 es l b2 :=
  ⟨h.bel.trans (hb.mono h.bel.size), h.m1.below hb h.m1.lt, h.m2.below hb h.m2.lt, h.ne, h.b2w⟩
theorem RSt.put {w wr w1 : World} {es : List (List UInt8)} {l : List Off} {b2 : Nat} {o : Off} (h : RSt w wr es l b2) (hn : o.name.data.toList ∉ nmL l) (hg : wr.grownBy w1 (some b2)) (hm : MapIs Tryz.prog 9 w1 b2 (if (setF (nmL l) o.name.data.toList).isSome then l.length else l.length + 1) (upd (setF (nmL l)) o.name.data.toList (some (.bool true)))) : RSt w w1 es (l ++ [o]) b2 := by
  have e : setF (nmL l) o.name.data.toList = none := by unfold setF; rw [if_neg hn]
  rw [e] at hm
  refine ⟨below_grown h.bel hg h.bel.size h.b2w, h.m1.kept hg (by simpa using h.ne), ?_, h.ne, h.b2w⟩
  have e2 : nmL (l ++ [o]) = nmL l ++ [o.name.data.toList] := by unfold nmL; rw [List.map_append]; rfl
  rw [List.length_append, List.length_singleton, e2]
  exact hm.congr (setF_snoc _ _)
theorem right_lit' (o : Off) (w : World) : Calls Tryz.prog 18 #[.agg #[.string o.name, .int .i64 o.do_, .int .i64 o.undo, .int .i64 o.due, .int .i64 o.part, .int .i64 o.amend]] w fun e w' => e = .returned (.bool (rightB o)) ∧ Below w.heap.size w w' := right_any o w
theorem name_size' {o : Off} (h : rightB o = true) : o.name.size ≤ 100 := by
  simp only [rightB, nameB, Bool.and_eq_true, decide_eq_true_eq, nats_length] at h
  exact h.1.1.2.1.1.1.2
theorem take_len (l : List Off) (k : Nat) (h : k ≤ l.length) : (l.take k).length ≤ l.length := by rw [List.length_take]; omega
set_option maxHeartbeats 8000000 in
set_option maxRecDepth 100000 in
theorem rightAll_any (v : Value) (l : List Off) (g cap : Nat) (es : List (List UInt8)) (w : World) (hv : OReads w w.heap.size v l) (hl : l.length ≤ 4294967296) (hg : g < w.heap.size) (he : EReads w g es) (hel : es.length ≤ 100) (hes : ∀ e ∈ es, e.length ≤ 100) (hnd : es.Nodup) :
    Calls Tryz.prog 8 #[v, .agg #[.slice none 0 0, .slice (some ⟨g, 0, none⟩) es.length cap, .slice none 0 0, .slice none 0 0]] w fun e w' => e = .returned (.bool (rightP l es)) ∧ Below w.heap.size w w' := by
  obtain ⟨A, cap2, rfl, hr⟩ := hv
  have HR := Lib.hid hr
  have HE := Lib.hid he
  have HES := Lib.hid hes
  have HND := Lib.hid hnd
  clear hr he hes hnd
  have hmm := @run_makeMap Tryz.prog
  have S0 : Hid (MapIs Tryz.prog 9 ((w.alloc (.cells #[.slice none 0 0, .slice (some ⟨g, 0, none⟩) es.length cap, .slice none 0 0, .slice none 0 0] 30)).alloc (.map #[] 0)) (w.heap.size + 1) 0 (setF [])) := by
    have := MapIs.made Tryz.prog 9 (w.alloc (.cells #[.slice none 0 0, .slice (some ⟨g, 0, none⟩) es.length cap, .slice none 0 0, .slice none 0 0] 30))
    rw [asz] at this
    exact this.congr (fun s => rfl)
  go_enter Tryz.func8, Tryz.ntmps8
  go_wp2_with fail
  go_loopw [15] (fun i wr => ∃ k : Nat, k ≤ es.length ∧ i = .int .i64 k ∧ Hid (Below w.heap.size w wr) ∧ Hid (MapIs Tryz.prog 9 wr (w.heap.size + 1) k (setF (es.take k)))) (fun i _ => es.length - (intOf i).toNat)
  case atStart => exact ⟨0, by omega, rfl, ((Below.refl _ _).alloc (Nat.le_refl _) _).alloc (by simp) _, S0⟩
  case round =>
    clear S0
    obtain ⟨k, hk, rfl, HB, HM⟩ := hrel
    by_cases hlt : k < es.length
    · have t1 : decide ((k : Int) < (es.length : Int)) = true := decide_eq_true (by omega)
      obtain ⟨e0, e1, e2, e3, e4⟩ := HE.out k hlt
      obtain ⟨x, hx⟩ : ∃ x, x = str es[k] := ⟨_, rfl⟩
      rw [← hx] at e0
      have c0 := (HB.out.cell (p := ⟨g, k * 5, none⟩) hg).trans e0
      have c1 := (HB.out.cell (p := ⟨g, k * 5 + 1, none⟩) hg).trans e1
      have c2 := (HB.out.cell (p := ⟨g, k * 5 + 2, none⟩) hg).trans e2
      have c3 := (HB.out.cell (p := ⟨g, k * 5 + 3, none⟩) hg).trans e3
      have c4 := (HB.out.cell (p := ⟨g, k * 5 + 4, none⟩) hg).trans e4
      have HXL : Hid (x.data.toList = es[k]) := by rw [hx, data_str]; rfl
      have hxs : x.size ≤ 100 := by
        have := HES.out es[k] (List.getElem_mem hlt)
        rw [← HXL.out, data_length] at this; exact this
      have HN : Hid (setF (es.take k) x.data.toList = none) := by
        unfold Hid setF
        rw [if_neg]
        rw [HXL.out]
        intro hm
        have h2 := HND.out
        rw [← List.take_append_drop k es, List.drop_eq_getElem_cons hlt] at h2
        exact (List.nodup_append.1 h2).2.2 _ hm _ (List.mem_cons_self ..) rfl
      have HK : Hid (es.take k ++ [x.data.toList] = es.take (k + 1)) := by rw [HXL.out, List.take_succ_eq_append_getElem hlt]; rfl
      have hbs := HB.out.size
      clear hx e0 e1 e2 e3 e4
      go_wp2_with (refine wpList_put_is _ rfl _ _ _ 58 (.inl rfl) 4 Tryz.underlying9 Tryz.underlying58 (w.heap.size + 1) k _ rfl (HM.out.alloc _) (by unfold maxLen; omega) x _ rfl rfl (by unfold maxLen; omega) ?_; intro w3 hM3 hg3; have B3 := Lib.hid (below_grown (HB.out.alloc hbs _) hg3 (by simp; omega) (by omega)); have M3 := Lib.hid hM3; clear hM3 hg3)
      go_roundw
      case rel =>
        refine ⟨k + 1, by omega, by go_num, B3, ?_⟩
        have h3 := M3.out
        rw [HN.out] at h3
        rw [← HK.out]
        exact h3.congr (setF_snoc _ _)
      case measure => simp [intOf]; omega
    · obtain rfl : k = es.length := by omega
      have t1 : decide ((es.length : Int) < (es.length : Int)) = false := decide_eq_false (by omega)
      have S1 : Hid (RSt w (wr.alloc (.map #[] 0)) es [] wr.heap.size) := by
        refine ⟨HB.out.alloc HB.out.size _, ?_, (MapIs.made Tryz.prog 9 wr).congr (fun s => rfl), by have := HM.out.lt; omega, HB.out.size⟩
        have := HM.out.alloc (.map #[] 0)
        rw [List.take_length] at this
        exact this
      obtain ⟨b2, hb2⟩ : ∃ b2, b2 = wr.heap.size := ⟨_, rfl⟩
      clear HB HM
      go_wp2_with fail
      rw [← hb2] at S1 ⊢
      obtain ⟨W0, rfl⟩ : ∃ W0 : World, W0 = wr := ⟨_, rfl⟩
      have HB2 := Lib.hid hb2
      clear hb2 hmm
      go_loopw [26] (fun i wq => ∃ k : Nat, k ≤ l.length ∧ i = .int .i64 k ∧ Hid (rightG l es [] = rightG (l.drop k) es (nmL (l.take k))) ∧ Hid (RSt w wq es (l.take k) b2)) (fun i _ => l.length - (intOf i).toNat)
      case atStart => exact ⟨0, by omega, rfl, rfl, S1⟩
      case round =>
        clear S1
        obtain ⟨k, hk, rfl, HG, HS⟩ := hrel
        obtain ⟨W, rfl⟩ : ∃ W : World, W = wr := ⟨_, rfl⟩
        by_cases hlt : k < l.length
        · have t2 : decide ((k : Int) < (l.length : Int)) = true := decide_eq_true (by omega)
          obtain ⟨g2, off, rfl, hg2, hc⟩ := HR.out (by omega)
          have hcw : ∀ (j : Nat) (u : Value), l[k].cells[j]? = some u → W.cell? ⟨g2, off + k * 6 + j, none⟩ = some u := fun j u hu => (HS.out.bel.cell (p := ⟨g2, off + k * 6 + j, none⟩) hg2).trans (hc k hlt j u hu)
          obtain ⟨o, ho⟩ : ∃ o, o = l[k] := ⟨_, rfl⟩
          rw [← ho] at hcw
          have c0 : W.cell? ⟨g2, off + k * 6, none⟩ = some (.string o.name) := hcw 0 _ rfl
          have c1 : W.cell? ⟨g2, off + k * 6 + 1, none⟩ = some (.int .i64 o.do_) := hcw 1 _ rfl
          have c2 : W.cell? ⟨g2, off + k * 6 + 2, none⟩ = some (.int .i64 o.undo) := hcw 2 _ rfl
          have c3 : W.cell? ⟨g2, off + k * 6 + 3, none⟩ = some (.int .i64 o.due) := hcw 3 _ rfl
          have c4 : W.cell? ⟨g2, off + k * 6 + 4, none⟩ = some (.int .i64 o.part) := hcw 4 _ rfl
          have c5 : W.cell? ⟨g2, off + k * 6 + 5, none⟩ = some (.int .i64 o.amend) := hcw 5 _ rfl
          have HST := Lib.hid (HG.out.trans (rightG_step l es k hlt))
          rw [← ho] at HST
          have HTK : Hid (l.take k ++ [o] = l.take (k + 1)) := by rw [ho, List.take_succ_eq_append_getElem hlt]; rfl
          clear ho hcw hc
          have HBX : Hid (Hs (W.alloc (.cells #[.string o.name, .int .i64 o.do_, .int .i64 o.undo, .int .i64 o.due, .int .i64 o.part, .int .i64 o.amend] 40)) W.heap.size 40 o.cells) := Hs.new W 40 o.cells
          have HS1 := Lib.hid (HS.out.below ((Below.refl W.heap.size W).alloc (Nat.le_refl _) (.cells #[.string o.name, .int .i64 o.do_, .int .i64 o.undo, .int .i64 o.due, .int .i64 o.part, .int .i64 o.amend] 40)))
          have hlk := (take_len l k hk)
          cases hro : rightB o with
          | false =>
            have HB : Hid (rightP l es = false) := by unfold Hid rightP; rw [HST.out, hro]; rfl
            go_wp2_with (go_at_call 18; refine (right_lit' _ _).mono ?_; rintro e w2 ⟨rfl, hb2⟩; have S2 := Lib.hid (HS1.out.below hb2))
            go_ret
            exact ⟨by rw [HB.out]; rfl, S2.out.bel⟩
          | true =>
            have hns := (name_size' hro)
            have hns2 : o.name.size ≤ maxLen := by unfold maxLen; omega
            have HNS := Lib.hid hns2
            clear hns2
            cases hme : decide (o.name.data.toList ∈ es) with
            | false =>
              have HB : Hid (rightP l es = false) := by unfold Hid rightP; rw [HST.out, hro, hme]; rfl
              have HME := Lib.hid hme
              clear hme
              go_wp2_with (go_at_call 18; refine (right_lit' _ _).mono ?_; rintro e w2 ⟨rfl, hb2⟩; have S2 := Lib.hid (HS1.out.below hb2); have q0 : w2.cell? ⟨W.heap.size, 0, none⟩ = some (.string o.name) := (HBX.out.below hb2 (by simp)).cell 0; have hl1 := bool_look S2.out.m1 HNS.out; rw [HME.out] at hl1)
              go_ret
              exact ⟨by rw [HB.out]; rfl, S2.out.bel⟩
            | true =>
              have HME := Lib.hid hme
              clear hme
              cases hms : decide (o.name.data.toList ∈ nmL (l.take k)) with
              | true =>
                have HB : Hid (rightP l es = false) := by unfold Hid rightP; rw [HST.out, hro, HME.out, hms]; rfl
                have HMS := Lib.hid hms
                clear hms
                go_wp2_with (go_at_call 18; refine (right_lit' _ _).mono ?_; rintro e w2 ⟨rfl, hb2⟩; have S2 := Lib.hid (HS1.out.below hb2); have q0 : w2.cell? ⟨W.heap.size, 0, none⟩ = some (.string o.name) := (HBX.out.below hb2 (by simp)).cell 0; have hl1 := bool_look S2.out.m1 HNS.out; rw [HME.out] at hl1; have hl2 := bool_look S2.out.m2 HNS.out; rw [HMS.out] at hl2)
                go_ret
                exact ⟨by rw [HB.out]; rfl, S2.out.bel⟩
              | false =>
                have HMS := Lib.hid hms
                have HN : Hid (rightG l es [] = rightG (l.drop (k + 1)) es (nmL (l.take (k + 1)))) := by rw [HST.out, hro, HME.out, hms]; simp [Hid]
                clear hms
                go_wp2_with (first | (go_at_call 18; refine (right_lit' _ _).mono ?_; rintro e w2 ⟨rfl, hb2⟩; have S2 := Lib.hid (HS1.out.below hb2); have q0 : w2.cell? ⟨W.heap.size, 0, none⟩ = some (.string o.name) := (HBX.out.below hb2 (by simp)).cell 0; have hl1 := bool_look S2.out.m1 HNS.out; rw [HME.out] at hl1; have hl2 := bool_look S2.out.m2 HNS.out; rw [HMS.out] at hl2) | (refine wpList_put_is _ rfl _ _ _ 58 (.inl rfl) 4 Tryz.underlying9 Tryz.underlying58 b2 _ _ rfl S2.out.m2 (by unfold maxLen; omega) o.name _ rfl rfl HNS.out ?_; intro w3 hM3 hg3; have S3 := Lib.hid (S2.out.put (of_decide_eq_false HMS.out) hg3 hM3); clear hM3 hg3))
                go_roundw
                case rel => exact ⟨k + 1, by omega, by go_num, HN, by have := S3.out; rw [HTK.out] at this; exact this⟩
                case measure => simp [intOf]; omega
        · obtain rfl : k = l.length := by omega
          have t2 : decide ((l.length : Int) < (l.length : Int)) = false := decide_eq_false (by omega)
          have e1 : rightP l es = decide (l.length = es.length) := by
            unfold rightP; rw [HG.out, List.drop_length]; rfl
          have hlen1 := fun ty => HS.out.m1.len Tryz.underlying58 ty
          have hlen2 : ∀ ty, (Builtin.len_ #[58] ty #[.map (some b2)]).run Tryz.prog W = .ok (.int .i64 (l.length : Int)) W := fun ty => by
            have := HS.out.m2.len Tryz.underlying58 ty
            rw [List.take_length] at this; exact this
          by_cases hq : l.length = es.length
          · have t3 : ((l.length : Int) == (es.length : Int)) = true := beq_iff_eq.2 (by omega)
            have HF : Hid (rightP l es = true) := by rw [e1, decide_eq_true hq]; rfl
            clear e1 hq
            go_wp2_with fail
            go_ret
            exact ⟨by rw [HF.out]; rfl, HS.out.bel⟩
          · have t3 : ((l.length : Int) == (es.length : Int)) = false := beq_eq_false_iff_ne.2 (by omega)
            have HF : Hid (rightP l es = false) := by rw [e1, decide_eq_false hq]; rfl
            clear e1 hq
            go_wp2_with fail
            go_ret
            exact ⟨by rw [HF.out]; rfl, HS.out.bel⟩
end Go.Proofs.YtbmknjfgjphfbaaGreatDoor.C
namespace Go.Proofs.YtbmknjfgjphfbaaGreatDoor.C
open Go.RowKit
def EReads5 (w : World) (g : Nat) (es : List (List UInt8)) : Prop :=
  ∀ (i : Nat) (h : i < es.length), ∃ (B : Option Addr) (m c : Nat), w.cell? ⟨g, i * 5, none⟩ = some (.string (str es[i])) ∧ w.cell? ⟨g, i * 5 + 1, none⟩ = some (.slice B m c) ∧ w.cell? ⟨g, i * 5 + 2, none⟩ = some (.int .i64 2) ∧ w.cell? ⟨g, i * 5 + 3, none⟩ = some (.string ⟨#[]⟩) ∧ w.cell? ⟨g, i * 5 + 4, none⟩ = some (.slice none 0 0)
set_option maxHeartbeats 8000000 in
set_option maxRecDepth 100000 in
theorem rightAll5_any (AA : Option Addr) (aN aC : Nat) (v : Value) (l : List Off) (g cap : Nat) (es : List (List UInt8)) (w : World) (hv : OReads w w.heap.size v l) (hl : l.length ≤ 4294967296) (hg : g < w.heap.size) (he : EReads5 w g es) (hel : es.length ≤ 100) (hes : ∀ e ∈ es, e.length ≤ 100) (hnd : es.Nodup) :
    Calls Tryz.prog 8 #[v, .agg #[.slice none 0 0, .slice (some ⟨g, 0, none⟩) es.length cap, .slice none 0 0, .slice AA aN aC]] w fun e w' => e = .returned (.bool (rightP l es)) ∧ Below w.heap.size w w' := by
  obtain ⟨A, cap2, rfl, hr⟩ := hv
  have HR := Lib.hid hr
  have HE := Lib.hid he
  have HES := Lib.hid hes
  have HND := Lib.hid hnd
  clear hr he hes hnd
  have hmm := @run_makeMap Tryz.prog
  have S0 : Hid (MapIs Tryz.prog 9 ((w.alloc (.cells #[.slice none 0 0, .slice (some ⟨g, 0, none⟩) es.length cap, .slice none 0 0, .slice AA aN aC] 30)).alloc (.map #[] 0)) (w.heap.size + 1) 0 (setF [])) := by
    have := MapIs.made Tryz.prog 9 (w.alloc (.cells #[.slice none 0 0, .slice (some ⟨g, 0, none⟩) es.length cap, .slice none 0 0, .slice AA aN aC] 30))
    rw [asz] at this
    exact this.congr (fun s => rfl)
  go_enter Tryz.func8, Tryz.ntmps8
  go_wp2_with fail
  go_loopw [15] (fun i wr => ∃ k : Nat, k ≤ es.length ∧ i = .int .i64 k ∧ Hid (Below w.heap.size w wr) ∧ Hid (MapIs Tryz.prog 9 wr (w.heap.size + 1) k (setF (es.take k)))) (fun i _ => es.length - (intOf i).toNat)
  case atStart => exact ⟨0, by omega, rfl, ((Below.refl _ _).alloc (Nat.le_refl _) _).alloc (by simp) _, S0⟩
  case round =>
    clear S0
    obtain ⟨k, hk, rfl, HB, HM⟩ := hrel
    by_cases hlt : k < es.length
    · have t1 : decide ((k : Int) < (es.length : Int)) = true := decide_eq_true (by omega)
      obtain ⟨Bk, bm, bc, e0, e1, e2, e3, e4⟩ := HE.out k hlt
      obtain ⟨x, hx⟩ : ∃ x, x = str es[k] := ⟨_, rfl⟩
      rw [← hx] at e0
      have c0 := (HB.out.cell (p := ⟨g, k * 5, none⟩) hg).trans e0
      have c1 := (HB.out.cell (p := ⟨g, k * 5 + 1, none⟩) hg).trans e1
      have c2 := (HB.out.cell (p := ⟨g, k * 5 + 2, none⟩) hg).trans e2
      have c3 := (HB.out.cell (p := ⟨g, k * 5 + 3, none⟩) hg).trans e3
      have c4 := (HB.out.cell (p := ⟨g, k * 5 + 4, none⟩) hg).trans e4
      have HXL : Hid (x.data.toList = es[k]) := by rw [hx, data_str]; rfl
      have hxs : x.size ≤ 100 := by
        have := HES.out es[k] (List.getElem_mem hlt)
        rw [← HXL.out, data_length] at this; exact this
      have HN : Hid (setF (es.take k) x.data.toList = none) := by
        unfold Hid setF
        rw [if_neg]
        rw [HXL.out]
        intro hm
        have h2 := HND.out
        rw [← List.take_append_drop k es, List.drop_eq_getElem_cons hlt] at h2
        exact (List.nodup_append.1 h2).2.2 _ hm _ (List.mem_cons_self ..) rfl
      have HK : Hid (es.take k ++ [x.data.toList] = es.take (k + 1)) := by rw [HXL.out, List.take_succ_eq_append_getElem hlt]; rfl
      have hbs := HB.out.size
      clear hx e0 e1 e2 e3 e4
      go_wp2_with (refine wpList_put_is _ rfl _ _ _ 58 (.inl rfl) 4 Tryz.underlying9 Tryz.underlying58 (w.heap.size + 1) k _ rfl (HM.out.alloc _) (by unfold maxLen; omega) x _ rfl rfl (by unfold maxLen; omega) ?_; intro w3 hM3 hg3; have B3 := Lib.hid (below_grown (HB.out.alloc hbs _) hg3 (by simp; omega) (by omega)); have M3 := Lib.hid hM3; clear hM3 hg3)
      go_roundw
      case rel =>
        refine ⟨k + 1, by omega, by go_num, B3, ?_⟩
        have h3 := M3.out
        rw [HN.out] at h3
        rw [← HK.out]
        exact h3.congr (setF_snoc _ _)
      case measure => simp [intOf]; omega
    · obtain rfl : k = es.length := by omega
      have t1 : decide ((es.length : Int) < (es.length : Int)) = false := decide_eq_false (by omega)
      have S1 : Hid (RSt w (wr.alloc (.map #[] 0)) es [] wr.heap.size) := by
        refine ⟨HB.out.alloc HB.out.size _, ?_, (MapIs.made Tryz.prog 9 wr).congr (fun s => rfl), by have := HM.out.lt; omega, HB.out.size⟩
        have := HM.out.alloc (.map #[] 0)
        rw [List.take_length] at this
        exact this
      obtain ⟨b2, hb2⟩ : ∃ b2, b2 = wr.heap.size := ⟨_, rfl⟩
      clear HB HM
      go_wp2_with fail
      rw [← hb2] at S1 ⊢
      obtain ⟨W0, rfl⟩ : ∃ W0 : World, W0 = wr := ⟨_, rfl⟩
      have HB2 := Lib.hid hb2
      clear hb2 hmm
      go_loopw [26] (fun i wq => ∃ k : Nat, k ≤ l.length ∧ i = .int .i64 k ∧ Hid (rightG l es [] = rightG (l.drop k) es (nmL (l.take k))) ∧ Hid (RSt w wq es (l.take k) b2)) (fun i _ => l.length - (intOf i).toNat)
      case atStart => exact ⟨0, by omega, rfl, rfl, S1⟩
      case round =>
        clear S1
        obtain ⟨k, hk, rfl, HG, HS⟩ := hrel
        obtain ⟨W, rfl⟩ : ∃ W : World, W = wr := ⟨_, rfl⟩
        by_cases hlt : k < l.length
        · have t2 : decide ((k : Int) < (l.length : Int)) = true := decide_eq_true (by omega)
          obtain ⟨g2, off, rfl, hg2, hc⟩ := HR.out (by omega)
          have hcw : ∀ (j : Nat) (u : Value), l[k].cells[j]? = some u → W.cell? ⟨g2, off + k * 6 + j, none⟩ = some u := fun j u hu => (HS.out.bel.cell (p := ⟨g2, off + k * 6 + j, none⟩) hg2).trans (hc k hlt j u hu)
          obtain ⟨o, ho⟩ : ∃ o, o = l[k] := ⟨_, rfl⟩
          rw [← ho] at hcw
          have c0 : W.cell? ⟨g2, off + k * 6, none⟩ = some (.string o.name) := hcw 0 _ rfl
          have c1 : W.cell? ⟨g2, off + k * 6 + 1, none⟩ = some (.int .i64 o.do_) := hcw 1 _ rfl
          have c2 : W.cell? ⟨g2, off + k * 6 + 2, none⟩ = some (.int .i64 o.undo) := hcw 2 _ rfl
          have c3 : W.cell? ⟨g2, off + k * 6 + 3, none⟩ = some (.int .i64 o.due) := hcw 3 _ rfl
          have c4 : W.cell? ⟨g2, off + k * 6 + 4, none⟩ = some (.int .i64 o.part) := hcw 4 _ rfl
          have c5 : W.cell? ⟨g2, off + k * 6 + 5, none⟩ = some (.int .i64 o.amend) := hcw 5 _ rfl
          have HST := Lib.hid (HG.out.trans (rightG_step l es k hlt))
          rw [← ho] at HST
          have HTK : Hid (l.take k ++ [o] = l.take (k + 1)) := by rw [ho, List.take_succ_eq_append_getElem hlt]; rfl
          clear ho hcw hc
          have HBX : Hid (Hs (W.alloc (.cells #[.string o.name, .int .i64 o.do_, .int .i64 o.undo, .int .i64 o.due, .int .i64 o.part, .int .i64 o.amend] 40)) W.heap.size 40 o.cells) := Hs.new W 40 o.cells
          have HS1 := Lib.hid (HS.out.below ((Below.refl W.heap.size W).alloc (Nat.le_refl _) (.cells #[.string o.name, .int .i64 o.do_, .int .i64 o.undo, .int .i64 o.due, .int .i64 o.part, .int .i64 o.amend] 40)))
          have hlk := (take_len l k hk)
          cases hro : rightB o with
          | false =>
            have HB : Hid (rightP l es = false) := by unfold Hid rightP; rw [HST.out, hro]; rfl
            go_wp2_with (go_at_call 18; refine (right_lit' _ _).mono ?_; rintro e w2 ⟨rfl, hb2⟩; have S2 := Lib.hid (HS1.out.below hb2))
            go_ret
            exact ⟨by rw [HB.out]; rfl, S2.out.bel⟩
          | true =>
            have hns := (name_size' hro)
            have hns2 : o.name.size ≤ maxLen := by unfold maxLen; omega
            have HNS := Lib.hid hns2
            clear hns2
            cases hme : decide (o.name.data.toList ∈ es) with
            | false =>
              have HB : Hid (rightP l es = false) := by unfold Hid rightP; rw [HST.out, hro, hme]; rfl
              have HME := Lib.hid hme
              clear hme
              go_wp2_with (go_at_call 18; refine (right_lit' _ _).mono ?_; rintro e w2 ⟨rfl, hb2⟩; have S2 := Lib.hid (HS1.out.below hb2); have q0 : w2.cell? ⟨W.heap.size, 0, none⟩ = some (.string o.name) := (HBX.out.below hb2 (by simp)).cell 0; have hl1 := bool_look S2.out.m1 HNS.out; rw [HME.out] at hl1)
              go_ret
              exact ⟨by rw [HB.out]; rfl, S2.out.bel⟩
            | true =>
              have HME := Lib.hid hme
              clear hme
              cases hms : decide (o.name.data.toList ∈ nmL (l.take k)) with
              | true =>
                have HB : Hid (rightP l es = false) := by unfold Hid rightP; rw [HST.out, hro, HME.out, hms]; rfl
                have HMS := Lib.hid hms
                clear hms
                go_wp2_with (go_at_call 18; refine (right_lit' _ _).mono ?_; rintro e w2 ⟨rfl, hb2⟩; have S2 := Lib.hid (HS1.out.below hb2); have q0 : w2.cell? ⟨W.heap.size, 0, none⟩ = some (.string o.name) := (HBX.out.below hb2 (by simp)).cell 0; have hl1 := bool_look S2.out.m1 HNS.out; rw [HME.out] at hl1; have hl2 := bool_look S2.out.m2 HNS.out; rw [HMS.out] at hl2)
                go_ret
                exact ⟨by rw [HB.out]; rfl, S2.out.bel⟩
              | false =>
                have HMS := Lib.hid hms
                have HN : Hid (rightG l es [] = rightG (l.drop (k + 1)) es (nmL (l.take (k + 1)))) := by rw [HST.out, hro, HME.out, hms]; simp [Hid]
                clear hms
                go_wp2_with (first | (go_at_call 18; refine (right_lit' _ _).mono ?_; rintro e w2 ⟨rfl, hb2⟩; have S2 := Lib.hid (HS1.out.below hb2); have q0 : w2.cell? ⟨W.heap.size, 0, none⟩ = some (.string o.name) := (HBX.out.below hb2 (by simp)).cell 0; have hl1 := bool_look S2.out.m1 HNS.out; rw [HME.out] at hl1; have hl2 := bool_look S2.out.m2 HNS.out; rw [HMS.out] at hl2) | (refine wpList_put_is _ rfl _ _ _ 58 (.inl rfl) 4 Tryz.underlying9 Tryz.underlying58 b2 _ _ rfl S2.out.m2 (by unfold maxLen; omega) o.name _ rfl rfl HNS.out ?_; intro w3 hM3 hg3; have S3 := Lib.hid (S2.out.put (of_decide_eq_false HMS.out) hg3 hM3); clear hM3 hg3))
                go_roundw
                case rel => exact ⟨k + 1, by omega, by go_num, HN, by have := S3.out; rw [HTK.out] at this; exact this⟩
                case measure => simp [intOf]; omega
        · obtain rfl : k = l.length := by omega
          have t2 : decide ((l.length : Int) < (l.length : Int)) = false := decide_eq_false (by omega)
          have e1 : rightP l es = decide (l.length = es.length) := by
            unfold rightP; rw [HG.out, List.drop_length]; rfl
          have hlen1 := fun ty => HS.out.m1.len Tryz.underlying58 ty
          have hlen2 : ∀ ty, (Builtin.len_ #[58] ty #[.map (some b2)]).run Tryz.prog W = .ok (.int .i64 (l.length : Int)) W := fun ty => by
            have := HS.out.m2.len Tryz.underlying58 ty
            rw [List.take_length] at this; exact this
          by_cases hq : l.length = es.length
          · have t3 : ((l.length : Int) == (es.length : Int)) = true := beq_iff_eq.2 (by omega)
            have HF : Hid (rightP l es = true) := by rw [e1, decide_eq_true hq]; rfl
            clear e1 hq
            go_wp2_with fail
            go_ret
            exact ⟨by rw [HF.out]; rfl, HS.out.bel⟩
          · have t3 : ((l.length : Int) == (es.length : Int)) = false := beq_eq_false_iff_ne.2 (by omega)
            have HF : Hid (rightP l es = false) := by rw [e1, decide_eq_false hq]; rfl
            clear e1 hq
            go_wp2_with fail
            go_ret
            exact ⟨by rw [HF.out]; rfl, HS.out.bel⟩
end Go.Proofs.YtbmknjfgjphfbaaGreatDoor.C
