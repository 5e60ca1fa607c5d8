import Derived.Test.YtcjkamnpkmkapaaDoorLines0
namespace Go.Proofs.YtcjkamnpkmkapaaDoor
open Go.RowKit
theorem row_zero {w : World} {base E size n : Nat} {v : Value} {xs : List Value} (h : w.ownsRow base E size v n xs) : w.ownsRow 0 E size v n xs := by
  refine ⟨h.1, ?_⟩
  rcases h.2 with hn | ⟨g, cap, cur, rfl, _, rest⟩
  · exact .inl hn
  · exact .inr ⟨g, cap, cur, rfl, Nat.zero_le _, rest⟩
theorem ocells_one (l : List Off) : ∀ u ∈ ocells l, u.oneCell' = true := by
  intro u hu
  unfold ocells at hu
  obtain ⟨o, _, h⟩ := List.mem_flatMap.1 hu
  simp [Off.cells] at h
  rcases h with rfl | rfl | rfl | rfl | rfl | rfl <;> rfl
theorem ocells_app (l m : List Off) : ocells (l ++ m) = ocells l ++ ocells m := by simp [ocells]
theorem row_lt {w : World} {base E size n : Nat} {v : Value} {xs : List Value} (h : w.ownsRow base E size v n xs) : ∀ g, v.ownBlock = some g → g < w.heap.size := fun g hg => (h.lt g hg).2
theorem row_kept {w w' : World} {B base E size n : Nat} {v : Value} {xs : List Value} (h : w.ownsRow base E size v n xs) (hb : Below B w w') (hl : ∀ g, v.ownBlock = some g → g < B) : w'.ownsRow base E size v n xs := by
  refine ⟨h.1, ?_⟩
  rcases h.2 with hn | ⟨g, cap, cur, rfl, hbg, hgg, rest⟩
  · exact .inl hn
  · exact .inr ⟨g, cap, cur, rfl, hbg, (hb.block g (hl g rfl)).trans hgg, rest⟩
/-- append of a whole row of entries onto a row of the call's own -/
theorem wpList_app_row {w : World} {ops : Array Oper} {rest : List Oper} {o : Oper} {a : Act} {Q : Exit → Act → World → Prop} (hgd : o.guard = none) (s x : Operand)
    (ho : o.op = .call { callee := .builtin .append, args := #[s, x], argTypes := #[22, 22] }) (base : Nat) (v : Value) (n : Nat) (xs : List Value) (hs : a.eval s = v) (hown : w.ownsRow base 32 6 v n xs)
    (sv : Value) (k : Nat) (ys : List Value) (hx : a.eval x = sv) (hsrc : w.ownsRow 0 32 6 sv k ys) (hone : ∀ u ∈ ys, u.oneCell' = true) (hsm : n + k ≤ 100000) (hbase : base ≤ w.heap.size)
    (h : ∀ v' w', w'.ownsRow base 32 6 v' (n + k) (xs ++ ys) → Below base w w' → wpList Tryd.prog ops Q rest (a.put o.dst v') w') : wpList Tryd.prog ops Q (o :: rest) a w := by
  obtain ⟨i0, hi, hz0, hz1, hz2⟩ := info_parts Tryd.info32
  rcases hsrc.2 with ⟨rfl, hk⟩ | ⟨g, cap, cur, rfl, _⟩
  · subst hk
    have hy : ys = [] := List.length_eq_zero_iff.1 (by have := hsrc.1; simpa using this)
    subst hy
    refine wpList_append_own_none hgd s x 22 ho base 32 i0 6 Tryd.underlying22 hi v n xs hs hown hx ?_
    have := h v w (by simpa using hown) (Below.refl _ _)
    exact this
  · refine wpList_append_own w hgd s x 22 ho base 32 i0 (.agg zeroO.cells) 6 56 Tryd.underlying22 hi hz0 hz1 hz2 rfl (by decide) v n xs hs hown ⟨g, 0, none⟩ k cap ys hx hsrc.1 (hsrc.cells rfl) hone (by unfold maxLen; omega) (by omega) hbase ?_
    intro v' w' h1 h2 _
    exact h v' w' h1 (Below.grown (Below.refl _ _) h2 hbase (fun j hj => (hown.lt _ hj).1))
theorem pieces_le (t : List UInt8) : ∀ (st : Nat) (cur : List UInt8), ∀ x ∈ pieces st cur t, x.1 + x.2.length ≤ st + cur.length + t.length := by
  induction t with
  | nil => intro st cur x hx; rw [pieces, List.mem_singleton] at hx; subst hx; simp
  | cons c t ih =>
    intro st cur x hx
    rw [pieces] at hx
    split at hx
    · rcases List.mem_cons.1 hx with rfl | hx
      · simp only [List.length_cons]; omega
      · have := ih _ _ x hx; simp only [List.length_cons, List.length_nil] at *; omega
    · have := ih _ _ x hx; simp only [List.length_append, List.length_cons, List.length_nil] at *; omega
theorem lineP_pos {st : Nat} {l : List UInt8} {acc : List Off} {e : Int × Nat} (h : lineP st l acc = .error e) : e.2 ≤ st + l.length := by
  unfold lineP at h
  have hw := splitP_len l st
  cases hs : splitP l st with
  | nil => rw [hs] at h; cases h
  | cons w ws =>
    rw [hs] at h hw
    have h0 := (hw w (List.mem_cons_self ..)).2.1
    simp only at h
    split at h
    · injection h with h; subst h; exact h0
    split at h
    · injection h with h; subst h; exact h0
    split at h
    · injection h with h; subst h; exact h0
    have hf := entryF_facts ws 1 [] (initO w.1)
    cases he : entryF ws 1 [] (initO w.1) with
    | ok o => rw [he] at h; cases h
    | error i =>
      rw [he] at h hf
      injection h with h
      subst h
      have hi : i < (w :: ws).length := by simp only [List.length_cons] at hf ⊢; omega
      simp only [List.getD, List.getElem?_eq_getElem hi, Option.getD_some]
      exact (hw _ (List.getElem_mem hi)).2.1
theorem linesP_pos (N : Nat) (ps : List (Nat × List UInt8)) (hp : ∀ x ∈ ps, x.1 + x.2.length ≤ N) : ∀ {acc : List Off} {e : Int × Nat}, linesP ps acc = .error e → e.2 ≤ N := by
  induction ps with
  | nil => intro acc e h; rw [linesP] at h; cases h
  | cons x ps ih =>
    intro acc e h
    rw [linesP] at h
    cases hl : lineP x.1 x.2 acc with
    | error e2 =>
      rw [hl] at h
      injection h with h
      subst h
      have := lineP_pos hl
      have := hp x (List.mem_cons_self ..)
      omega
    | ok acc' => rw [hl] at h; exact ih (fun y hy => hp y (List.mem_cons_of_mem _ hy)) h
theorem parse_pos {l : List UInt8} {c : Int} {p : Nat} (h : parseP l = .error (c, p)) : p ≤ l.length := by
  have := linesP_pos l.length (pieces 0 [] l) (fun x hx => by have := pieces_le l 0 [] x hx; simpa using this) h
  exact this
set_option maxHeartbeats 8000000 in
set_option maxRecDepth 100000 in
theorem lines_tw (s t : ByteArray) (l m : List Off) (w : World) (hs : s.size ≤ 1000) (ht : t.size ≤ 1000) (hT : Tab w) (hps : parseP s.data.toList = .ok l) (hpt : parseP t.data.toList = .ok m) (htw : twB l m m.length = true) (c : Int) (q : Nat) (hc : c ≠ 0) (hq : s.size < q) (hq2 : q ≤ 4294967296) (hA : parseP (s ++ ⟨#[10]⟩ ++ t).data.toList = .error (c, q)) (hB : parseP (s ++ ⟨#[32, 35, 32, 100, 111, 10, 9, 13, 10]⟩ ++ t).data.toList = .error (c, q + 8)) :
    Calls Tryd.prog 4 #[.string s, .string t] w fun e w' => e = .returned (.bool true) ∧ Below w.heap.size w w' := by
  have hll := (parse_vd hps).len
  have hml := (parse_vd hpt).len
  have HT := Lib.hid hT
  have HPS := Lib.hid hps
  have HPT := Lib.hid hpt
  have HPA := Lib.hid hA
  have HPB := Lib.hid hB
  have HTW := Lib.hid htw
  have t1 : decide ((1000 : Int) < (s.size : Int)) = false := decide_eq_false (by omega)
  have t2 : decide ((1000 : Int) < (t.size : Int)) = false := decide_eq_false (by omega)
  have f1 : ¬ (9223372036854775807 < s.size + 1) := by omega
  have f2 : ¬ (9223372036854775807 < s.size + 1 + t.size) := by omega
  have f3 : ¬ (9223372036854775807 < s.size + 9) := by omega
  have f4 : ¬ (9223372036854775807 < s.size + 9 + t.size) := by omega
  have t3 : (c != 0) = true := by simpa using hc
  have t4 : decide ((s.size : Int) < (q : Int)) = true := decide_eq_true (by omega)
  clear hc
  clear hT hps hpt hA hB htw
  go_enter Tryd.func4, Tryd.ntmps4
  go_upto_region 2 with (go_at_call 6; refine (small_any _ HT.out).mono ?_; rintro e w1 ⟨rfl, b1⟩)
  go_upto_region 3 with (go_at_call 9; refine (parse_own _ _ _ (by omega) HPS.out).mono ?_; rintro e w2 ⟨A2, cap2, rfl, O2, b2⟩; have d2 := below_then b1 b2)
  go_upto_region 4 with (go_at_call 9; refine (parse_own _ _ _ (by omega) HPT.out).mono ?_; rintro e w3 ⟨A3, cap3, rfl, O3, b3⟩; have d3 := Lib.hid (below_then d2 b3); have L3 := Lib.hid (row_below O2 b3); have M3 := Lib.hid O3; clear O2 O3 b3)
  clear d2 b1 b2
  go_upto_region 6 with (fail)
  go_upto_region 7 with (go_at_call 9; refine (parse_er _ _ _ _ (by simp [ByteArray.size_append, ByteArray.size_mk']; omega) HPA.out).mono ?_; rintro e w4 ⟨A4, cap4, rfl, O4, b4⟩; have d4 := Lib.hid (below_then d3.out b4); have L4 := Lib.hid (row_below L3.out b4); have M4 := Lib.hid (row_below M3.out b4); have P4 := Lib.hid O4; clear O4 b4)
  go_upto_region 8 with (go_at_call 9; refine (parse_er _ _ _ _ (by simp [ByteArray.size_append, ByteArray.size_mk']; omega) HPB.out).mono ?_; rintro e w5 ⟨A5, cap5, rfl, O5, b5⟩; have d5 := Lib.hid (below_then d4.out b5); have L5 := Lib.hid (row_below L4.out b5); have M5 := Lib.hid (row_below M4.out b5); have P5 := Lib.hid O5; have Q5 := Lib.hid O5; clear O5 b5)
  clear d3 d4 L3 L4 M3 M4 P4
  have RL := Lib.hid (OReads.of_own L5.out)
  have RM := Lib.hid (OReads.of_own M5.out)
  go_wp2_with fail
  go_loopw [18, 19] (fun tw i wr => ∃ (k : Nat) (b : Bool), k ≤ m.length ∧ i = .int .i64 k ∧ tw = .bool b ∧ Hid (b = twB l m k) ∧ Hid (Below w5.heap.size w5 wr)) (fun _ i _ => m.length - (intOf i).toNat)
  case atStart => exact ⟨0, false, by omega, rfl, rfl, rfl, Below.refl _ _⟩
  case round =>
    obtain ⟨k, b, hk, rfl, rfl, HB, HD⟩ := hrel
    by_cases hlt : k < m.length
    · have u1 : decide ((k : Int) < (m.length : Int)) = true := decide_eq_true (by omega)
      obtain ⟨A3', cap3', e3, hr3⟩ := RM.out
      injection e3 with e3a e3b e3c
      subst e3a e3c
      obtain ⟨g, off, rfl, hg, hc⟩ := hr3 (by omega)
      obtain ⟨nm, hnm⟩ : ∃ nm, nm = m[k].name := ⟨_, rfl⟩
      have c0 : wr.cell? ⟨g, off + k * 6, none⟩ = some (.string nm) := by
        rw [hnm]
        exact (HD.out.cell (p := ⟨g, off + k * 6 + 0, none⟩) hg).trans (hc k hlt 0 _ rfl)
      have HST : Hid (twB l m (k + 1) = (b || decide (nm.data.toList ∈ nmL l))) := by rw [twB_step l m k hlt, ← HB.out, hnm]; rfl
      clear hnm hc hr3
      have hds := HD.out.size
      cases hd : decide (nm.data.toList ∈ nmL l) with
      | false =>
        have HDD := Lib.hid hd
        have HN : Hid (b = twB l m (k + 1)) := by rw [HST.out, hd, Bool.or_false]; rfl
        clear hd
        cases b with
        | false =>
          go_wp2_with (go_at_call 11; refine (find_lit _ _ _ _ (RL.out.at_ HD.out) (by omega)).mono ?_; rintro e wf ⟨o, rfl, bf⟩; have DF := Lib.hid (below_then HD.out bf); rw [HDD.out])
          go_roundw
          case rel => exact ⟨k + 1, false, by omega, by go_num, rfl, HN, DF.out.alloc DF.out.size _⟩
          case measure => simp [intOf]; omega
        | true =>
          go_wp2_with (go_at_call 11; refine (find_lit _ _ _ _ (RL.out.at_ HD.out) (by omega)).mono ?_; rintro e wf ⟨o, rfl, bf⟩; have DF := Lib.hid (below_then HD.out bf); rw [HDD.out])
          go_roundw
          case rel => exact ⟨k + 1, true, by omega, by go_num, rfl, HN, DF.out.alloc DF.out.size _⟩
          case measure => simp [intOf]; omega
      | true =>
        have HDD := Lib.hid hd
        have HN : Hid (true = twB l m (k + 1)) := by rw [HST.out, hd, Bool.or_true]; rfl
        clear hd
        cases b with
        | false =>
          go_wp2_with (go_at_call 11; refine (find_lit _ _ _ _ (RL.out.at_ HD.out) (by omega)).mono ?_; rintro e wf ⟨o, rfl, bf⟩; have DF := Lib.hid (below_then HD.out bf); rw [HDD.out])
          go_roundw
          case rel => exact ⟨k + 1, true, by omega, by go_num, rfl, HN, DF.out.alloc DF.out.size _⟩
          case measure => simp [intOf]; omega
        | true =>
          go_wp2_with (go_at_call 11; refine (find_lit _ _ _ _ (RL.out.at_ HD.out) (by omega)).mono ?_; rintro e wf ⟨o, rfl, bf⟩; have DF := Lib.hid (below_then HD.out bf); rw [HDD.out])
          go_roundw
          case rel => exact ⟨k + 1, true, by omega, by go_num, rfl, HN, DF.out.alloc DF.out.size _⟩
          case measure => simp [intOf]; omega
    · obtain rfl : k = m.length := by omega
      have u1 : decide ((m.length : Int) < (m.length : Int)) = false := decide_eq_false (by omega)
      obtain rfl : b = true := by rw [HB.out, HTW.out]
      clear HB
      go_wp2_with fail
      go_ret
      exact ⟨by first | rfl | simp, below_then d5.out HD.out⟩
set_option maxHeartbeats 8000000 in
set_option maxRecDepth 100000 in
theorem lines_long (s t : ByteArray) (l m : List Off) (w : World) (hs : s.size ≤ 1000) (ht : t.size ≤ 1000) (hT : Tab w) (hps : parseP s.data.toList = .ok l) (hpt : parseP t.data.toList = .ok m) (htw : twB l m m.length = false) (hlm : 256 < l.length + m.length) (c : Int) (q : Nat) (hc : c ≠ 0) (hq : s.size < q) (hq2 : q ≤ 4294967296) (hA : parseP (s ++ ⟨#[10]⟩ ++ t).data.toList = .error (c, q)) (hB : parseP (s ++ ⟨#[32, 35, 32, 100, 111, 10, 9, 13, 10]⟩ ++ t).data.toList = .error (c, q + 8)) :
    Calls Tryd.prog 4 #[.string s, .string t] w fun e w' => e = .returned (.bool true) ∧ Below w.heap.size w w' := by
  have hll := (parse_vd hps).len
  have hml := (parse_vd hpt).len
  have HT := Lib.hid hT
  have HPS := Lib.hid hps
  have HPT := Lib.hid hpt
  have HPA := Lib.hid hA
  have HPB := Lib.hid hB
  have HTW := Lib.hid htw
  have t1 : decide ((1000 : Int) < (s.size : Int)) = false := decide_eq_false (by omega)
  have t2 : decide ((1000 : Int) < (t.size : Int)) = false := decide_eq_false (by omega)
  have f1 : ¬ (9223372036854775807 < s.size + 1) := by omega
  have f2 : ¬ (9223372036854775807 < s.size + 1 + t.size) := by omega
  have f3 : ¬ (9223372036854775807 < s.size + 9) := by omega
  have f4 : ¬ (9223372036854775807 < s.size + 9 + t.size) := by omega
  have t3 : (c != 0) = true := by simpa using hc
  have t4 : decide ((s.size : Int) < (q : Int)) = true := decide_eq_true (by omega)
  clear hc
  clear hT hps hpt hA hB htw
  go_enter Tryd.func4, Tryd.ntmps4
  go_upto_region 2 with (go_at_call 6; refine (small_any _ HT.out).mono ?_; rintro e w1 ⟨rfl, b1⟩)
  go_upto_region 3 with (go_at_call 9; refine (parse_own _ _ _ (by omega) HPS.out).mono ?_; rintro e w2 ⟨A2, cap2, rfl, O2, b2⟩; have d2 := below_then b1 b2)
  go_upto_region 4 with (go_at_call 9; refine (parse_own _ _ _ (by omega) HPT.out).mono ?_; rintro e w3 ⟨A3, cap3, rfl, O3, b3⟩; have d3 := Lib.hid (below_then d2 b3); have L3 := Lib.hid (row_below O2 b3); have M3 := Lib.hid O3; clear O2 O3 b3)
  clear d2 b1 b2
  go_upto_region 6 with (fail)
  go_upto_region 7 with (go_at_call 9; refine (parse_er _ _ _ _ (by simp [ByteArray.size_append, ByteArray.size_mk']; omega) HPA.out).mono ?_; rintro e w4 ⟨A4, cap4, rfl, O4, b4⟩; have d4 := Lib.hid (below_then d3.out b4); have L4 := Lib.hid (row_below L3.out b4); have M4 := Lib.hid (row_below M3.out b4); have P4 := Lib.hid O4; clear O4 b4)
  go_upto_region 8 with (go_at_call 9; refine (parse_er _ _ _ _ (by simp [ByteArray.size_append, ByteArray.size_mk']; omega) HPB.out).mono ?_; rintro e w5 ⟨A5, cap5, rfl, O5, b5⟩; have d5 := Lib.hid (below_then d4.out b5); have L5 := Lib.hid (row_below L4.out b5); have M5 := Lib.hid (row_below M4.out b5); have P5 := Lib.hid O5; have Q5 := Lib.hid O5; clear O5 b5)
  clear d3 d4 L3 L4 M3 M4 P4
  have RL := Lib.hid (OReads.of_own L5.out)
  have RM := Lib.hid (OReads.of_own M5.out)
  go_wp2_with fail
  go_loopw [18, 19] (fun tw i wr => ∃ (k : Nat) (b : Bool), k ≤ m.length ∧ i = .int .i64 k ∧ tw = .bool b ∧ Hid (b = twB l m k) ∧ Hid (Below w5.heap.size w5 wr)) (fun _ i _ => m.length - (intOf i).toNat)
  case atStart => exact ⟨0, false, by omega, rfl, rfl, rfl, Below.refl _ _⟩
  case round =>
    obtain ⟨k, b, hk, rfl, rfl, HB, HD⟩ := hrel
    by_cases hlt : k < m.length
    · have u1 : decide ((k : Int) < (m.length : Int)) = true := decide_eq_true (by omega)
      obtain ⟨A3', cap3', e3, hr3⟩ := RM.out
      injection e3 with e3a e3b e3c
      subst e3a e3c
      obtain ⟨g, off, rfl, hg, hc⟩ := hr3 (by omega)
      obtain ⟨nm, hnm⟩ : ∃ nm, nm = m[k].name := ⟨_, rfl⟩
      have c0 : wr.cell? ⟨g, off + k * 6, none⟩ = some (.string nm) := by
        rw [hnm]
        exact (HD.out.cell (p := ⟨g, off + k * 6 + 0, none⟩) hg).trans (hc k hlt 0 _ rfl)
      have HST : Hid (twB l m (k + 1) = (b || decide (nm.data.toList ∈ nmL l))) := by rw [twB_step l m k hlt, ← HB.out, hnm]; rfl
      clear hnm hc hr3
      have hds := HD.out.size
      cases hd : decide (nm.data.toList ∈ nmL l) with
      | false =>
        have HDD := Lib.hid hd
        have HN : Hid (b = twB l m (k + 1)) := by rw [HST.out, hd, Bool.or_false]; rfl
        clear hd
        cases b with
        | false =>
          go_wp2_with (go_at_call 11; refine (find_lit _ _ _ _ (RL.out.at_ HD.out) (by omega)).mono ?_; rintro e wf ⟨o, rfl, bf⟩; have DF := Lib.hid (below_then HD.out bf); rw [HDD.out])
          go_roundw
          case rel => exact ⟨k + 1, false, by omega, by go_num, rfl, HN, DF.out.alloc DF.out.size _⟩
          case measure => simp [intOf]; omega
        | true =>
          go_wp2_with (go_at_call 11; refine (find_lit _ _ _ _ (RL.out.at_ HD.out) (by omega)).mono ?_; rintro e wf ⟨o, rfl, bf⟩; have DF := Lib.hid (below_then HD.out bf); rw [HDD.out])
          go_roundw
          case rel => exact ⟨k + 1, true, by omega, by go_num, rfl, HN, DF.out.alloc DF.out.size _⟩
          case measure => simp [intOf]; omega
      | true =>
        have HDD := Lib.hid hd
        have HN : Hid (true = twB l m (k + 1)) := by rw [HST.out, hd, Bool.or_true]; rfl
        clear hd
        cases b with
        | false =>
          go_wp2_with (go_at_call 11; refine (find_lit _ _ _ _ (RL.out.at_ HD.out) (by omega)).mono ?_; rintro e wf ⟨o, rfl, bf⟩; have DF := Lib.hid (below_then HD.out bf); rw [HDD.out])
          go_roundw
          case rel => exact ⟨k + 1, true, by omega, by go_num, rfl, HN, DF.out.alloc DF.out.size _⟩
          case measure => simp [intOf]; omega
        | true =>
          go_wp2_with (go_at_call 11; refine (find_lit _ _ _ _ (RL.out.at_ HD.out) (by omega)).mono ?_; rintro e wf ⟨o, rfl, bf⟩; have DF := Lib.hid (below_then HD.out bf); rw [HDD.out])
          go_roundw
          case rel => exact ⟨k + 1, true, by omega, by go_num, rfl, HN, DF.out.alloc DF.out.size _⟩
          case measure => simp [intOf]; omega
    · obtain rfl : k = m.length := by omega
      have u1 : decide ((m.length : Int) < (m.length : Int)) = false := decide_eq_false (by omega)
      obtain rfl : b = false := by rw [HB.out, HTW.out]
      clear HB
      have u2 : decide ((256 : Int) < (l.length : Int) + (m.length : Int)) = true := decide_eq_true (by omega)
      go_wp2_with fail
      go_ret
      exact ⟨by first | rfl | simp, below_then d5.out HD.out⟩
set_option maxHeartbeats 8000000 in
set_option maxRecDepth 100000 in
theorem lines_good (s t : ByteArray) (l m : List Off) (w : World) (hs : s.size ≤ 1000) (ht : t.size ≤ 1000) (hT : Tab w) (hps : parseP s.data.toList = .ok l) (hpt : parseP t.data.toList = .ok m) (htw : twB l m m.length = false) (hlm : l.length + m.length ≤ 256) (hA : parseP (s ++ ⟨#[10]⟩ ++ t).data.toList = .ok (l ++ m)) (hB : parseP (s ++ ⟨#[32, 35, 32, 100, 111, 10, 9, 13, 10]⟩ ++ t).data.toList = .ok (l ++ m)) :
    Calls Tryd.prog 4 #[.string s, .string t] w fun e w' => e = .returned (.bool true) ∧ Below w.heap.size w w' := by
  have hll := (parse_vd hps).len
  have hml := (parse_vd hpt).len
  have HT := Lib.hid hT
  have HPS := Lib.hid hps
  have HPT := Lib.hid hpt
  have HPA := Lib.hid hA
  have HPB := Lib.hid hB
  have HTW := Lib.hid htw
  have t1 : decide ((1000 : Int) < (s.size : Int)) = false := decide_eq_false (by omega)
  have t2 : decide ((1000 : Int) < (t.size : Int)) = false := decide_eq_false (by omega)
  have f1 : ¬ (9223372036854775807 < s.size + 1) := by omega
  have f2 : ¬ (9223372036854775807 < s.size + 1 + t.size) := by omega
  have f3 : ¬ (9223372036854775807 < s.size + 9) := by omega
  have f4 : ¬ (9223372036854775807 < s.size + 9 + t.size) := by omega
  clear hT hps hpt hA hB htw
  go_enter Tryd.func4, Tryd.ntmps4
  go_upto_region 2 with (go_at_call 6; refine (small_any _ HT.out).mono ?_; rintro e w1 ⟨rfl, b1⟩)
  go_upto_region 3 with (go_at_call 9; refine (parse_own _ _ _ (by omega) HPS.out).mono ?_; rintro e w2 ⟨A2, cap2, rfl, O2, b2⟩; have d2 := below_then b1 b2)
  go_upto_region 4 with (go_at_call 9; refine (parse_own _ _ _ (by omega) HPT.out).mono ?_; rintro e w3 ⟨A3, cap3, rfl, O3, b3⟩; have d3 := Lib.hid (below_then d2 b3); have L3 := Lib.hid (row_below O2 b3); have M3 := Lib.hid O3; clear O2 O3 b3)
  clear d2 b1 b2
  go_upto_region 6 with (fail)
  go_upto_region 7 with (go_at_call 9; refine (parse_own _ _ _ (by simp [ByteArray.size_append, ByteArray.size_mk']; omega) HPA.out).mono ?_; rintro e w4 ⟨A4, cap4, rfl, O4, b4⟩; have d4 := Lib.hid (below_then d3.out b4); have L4 := Lib.hid (row_below L3.out b4); have M4 := Lib.hid (row_below M3.out b4); have P4 := Lib.hid O4; clear O4 b4)
  go_upto_region 8 with (go_at_call 9; refine (parse_own _ _ _ (by simp [ByteArray.size_append, ByteArray.size_mk']; omega) HPB.out).mono ?_; rintro e w5 ⟨A5, cap5, rfl, O5, b5⟩; have d5 := Lib.hid (below_then d4.out b5); have L5 := Lib.hid (row_below L4.out b5); have M5 := Lib.hid (row_below M4.out b5); have P5 := Lib.hid (row_below P4.out b5); have Q5 := Lib.hid O5; clear O5 b5)
  clear d3 d4 L3 L4 M3 M4 P4
  have RL := Lib.hid (OReads.of_own L5.out)
  have RM := Lib.hid (OReads.of_own M5.out)
  go_wp2_with fail
  go_loopw [18, 19] (fun tw i wr => ∃ (k : Nat) (b : Bool), k ≤ m.length ∧ i = .int .i64 k ∧ tw = .bool b ∧ Hid (b = twB l m k) ∧ Hid (Below w5.heap.size w5 wr)) (fun _ i _ => m.length - (intOf i).toNat)
  case atStart => exact ⟨0, false, by omega, rfl, rfl, rfl, Below.refl _ _⟩
  case round =>
    obtain ⟨k, b, hk, rfl, rfl, HB, HD⟩ := hrel
    by_cases hlt : k < m.length
    · have u1 : decide ((k : Int) < (m.length : Int)) = true := decide_eq_true (by omega)
      obtain ⟨A3', cap3', e3, hr3⟩ := RM.out
      injection e3 with e3a e3b e3c
      subst e3a e3c
      obtain ⟨g, off, rfl, hg, hc⟩ := hr3 (by omega)
      obtain ⟨nm, hnm⟩ : ∃ nm, nm = m[k].name := ⟨_, rfl⟩
      have c0 : wr.cell? ⟨g, off + k * 6, none⟩ = some (.string nm) := by
        rw [hnm]
        exact (HD.out.cell (p := ⟨g, off + k * 6 + 0, none⟩) hg).trans (hc k hlt 0 _ rfl)
      have HST : Hid (twB l m (k + 1) = (b || decide (nm.data.toList ∈ nmL l))) := by rw [twB_step l m k hlt, ← HB.out, hnm]; rfl
      clear hnm hc hr3
      have hds := HD.out.size
      cases hd : decide (nm.data.toList ∈ nmL l) with
      | false =>
        have HDD := Lib.hid hd
        have HN : Hid (b = twB l m (k + 1)) := by rw [HST.out, hd, Bool.or_false]; rfl
        clear hd
        cases b with
        | false =>
          go_wp2_with (go_at_call 11; refine (find_lit _ _ _ _ (RL.out.at_ HD.out) (by omega)).mono ?_; rintro e wf ⟨o, rfl, bf⟩; have DF := Lib.hid (below_then HD.out bf); rw [HDD.out])
          go_roundw
          case rel => exact ⟨k + 1, false, by omega, by go_num, rfl, HN, DF.out.alloc DF.out.size _⟩
          case measure => simp [intOf]; omega
        | true =>
          go_wp2_with (go_at_call 11; refine (find_lit _ _ _ _ (RL.out.at_ HD.out) (by omega)).mono ?_; rintro e wf ⟨o, rfl, bf⟩; have DF := Lib.hid (below_then HD.out bf); rw [HDD.out])
          go_roundw
          case rel => exact ⟨k + 1, true, by omega, by go_num, rfl, HN, DF.out.alloc DF.out.size _⟩
          case measure => simp [intOf]; omega
      | true =>
        have HDD := Lib.hid hd
        have HN : Hid (true = twB l m (k + 1)) := by rw [HST.out, hd, Bool.or_true]; rfl
        clear hd
        cases b with
        | false =>
          go_wp2_with (go_at_call 11; refine (find_lit _ _ _ _ (RL.out.at_ HD.out) (by omega)).mono ?_; rintro e wf ⟨o, rfl, bf⟩; have DF := Lib.hid (below_then HD.out bf); rw [HDD.out])
          go_roundw
          case rel => exact ⟨k + 1, true, by omega, by go_num, rfl, HN, DF.out.alloc DF.out.size _⟩
          case measure => simp [intOf]; omega
        | true =>
          go_wp2_with (go_at_call 11; refine (find_lit _ _ _ _ (RL.out.at_ HD.out) (by omega)).mono ?_; rintro e wf ⟨o, rfl, bf⟩; have DF := Lib.hid (below_then HD.out bf); rw [HDD.out])
          go_roundw
          case rel => exact ⟨k + 1, true, by omega, by go_num, rfl, HN, DF.out.alloc DF.out.size _⟩
          case measure => simp [intOf]; omega
    · obtain rfl : k = m.length := by omega
      have u1 : decide ((m.length : Int) < (m.length : Int)) = false := decide_eq_false (by omega)
      obtain rfl : b = false := by rw [HB.out, HTW.out]
      clear HB
      have u2 : decide ((256 : Int) < (l.length : Int) + (m.length : Int)) = false := decide_eq_false (by omega)
      go_upto_region 16 with (fail)
      obtain ⟨L6, M6, P6, Q6⟩ : Hid (wr.ownsRow 0 32 6 (.slice A2 l.length cap2) l.length (ocells l)) ∧ Hid (wr.ownsRow 0 32 6 (.slice A3 m.length cap3) m.length (ocells m)) ∧ Hid (OReads wr wr.heap.size (.slice A4 (l.length + m.length) cap4) (l ++ m)) ∧ Hid (OReads wr wr.heap.size (.slice A5 (l.length + m.length) cap5) (l ++ m)) :=
        ⟨row_zero (row_below L5.out HD.out), row_zero (row_below M5.out HD.out), by have := (OReads.of_own P5.out).at_ HD.out; rw [List.length_append] at this; exact this, by have := (OReads.of_own Q5.out).at_ HD.out; rw [List.length_append] at this; exact this⟩
      have D6 := Lib.hid (below_then d5.out HD.out)
      clear L5 M5 P5 Q5 RL RM HD d5
      have O0 : Hid ((wr.alloc (.cells #[] 32)).ownsRow wr.heap.size 32 6 (.slice (some ⟨wr.heap.size, 0, none⟩) 0 0) 0 []) := World.ownsRow_made wr #[] 0 (Nat.le_refl _) (by unfold maxLen; omega) rfl
      have tk1 : True := trivial
      have tk2 : True := trivial
      go_upto_region 17 with (first | (at_builtin; have _t := tk1; refine wpList_app_row rfl _ _ rfl wr.heap.size _ 0 [] rfl O0.out _ l.length (ocells l) rfl (L6.out.alloc _) (ocells_one l) (by omega) (by simp) ?_; intro v7 w7 O7 B7; have R7 := Lib.hid O7; have M7 := Lib.hid (row_kept (M6.out.alloc (.cells #[] 32)) B7 (row_lt M6.out)); have D7 := Lib.hid (((Below.refl wr.heap.size wr).alloc (Nat.le_refl _) (.cells #[] 32)).trans B7); clear tk1 O7 B7) | (at_builtin; have _t := tk2; refine wpList_app_row rfl _ _ rfl wr.heap.size _ _ _ rfl R7.out _ m.length (ocells m) rfl M7.out (ocells_one m) (by omega) D7.out.size ?_; intro v8 w8 O8 B8; have R8 := Lib.hid O8; have D8 := Lib.hid (D7.out.trans B8); clear tk2 O8 B8))
      have RB : Hid (OReads w8 w8.heap.size v8 (l ++ m)) := by
        have h8 := R8.out
        rw [Nat.zero_add, List.nil_append, ← List.length_append, ← ocells_app] at h8
        exact OReads.of_own h8
      have P8 := Lib.hid (P6.out.at_ D8.out)
      have Q8 := Lib.hid (Q6.out.at_ D8.out)
      have D9 := Lib.hid (below_then D6.out D8.out)
      clear R8 R7 M7 M6 L6 P6 Q6 O0 D7
      have hlm2 : (l ++ m).length ≤ 4294967296 := by rw [List.length_append]; omega
      go_wp2_with (first | (go_at_call 10; (with_reducible refine (same_self _ _ (l ++ m) _ P8.out RB.out hlm2).mono ?_); rintro e w9 ⟨rfl, b9⟩; have DA := Lib.hid (below_then D9.out b9); have Q9 := Lib.hid (Q8.out.at_ b9); have RB9 := Lib.hid (RB.out.at_ b9); clear b9) | (go_at_call 10; (with_reducible refine (same_self _ _ (l ++ m) _ Q9.out RB9.out hlm2).mono ?_); rintro e wx ⟨rfl, bx⟩; have DX := Lib.hid (below_then DA.out bx); clear bx))
      go_ret
      exact ⟨rfl, DX.out⟩
/-- CatalogLines returns true -/
theorem lines_walk (s t : ByteArray) (w : World) (hs : s.size ≤ 4294967200) (ht : t.size ≤ 4294967200) (hT : Tab w) :
    Calls Tryd.prog 4 #[.string s, .string t] w fun e w' => e = .returned (.bool true) ∧ Below w.heap.size w w' := by
  by_cases h1 : 1000 < s.size
  · exact lines_early s t w hs ht hT (.inl h1)
  by_cases h2 : 1000 < t.size
  · exact lines_early s t w hs ht hT (.inr (.inl h2))
  cases hps : parseP s.data.toList with
  | error e =>
    refine lines_early s t w hs ht hT (.inr (.inr (.inl ?_)))
    have := linesP_code _ hps
    rw [hps]
    simp only [resE]; omega
  | ok l =>
    cases hpt : parseP t.data.toList with
    | error e =>
      refine lines_early s t w hs ht hT (.inr (.inr (.inr ?_)))
      have := linesP_code _ hpt
      rw [hpt]
      simp only [resE]; omega
    | ok m =>
      obtain ⟨g1, g2⟩ := lines_law s.data.toList t.data.toList l m hps hpt
      have hsl := data_length s
      have htl := data_length t
      by_cases hb : bad l m m.length
      · obtain ⟨c, p, hc, hA, hB⟩ := g2 hb
        rw [hsl, ← catA] at hA
        rw [hsl, ← catB] at hB
        have hq := parse_pos hA
        rw [catA, List.length_append, List.length_cons, hsl, htl] at hq
        have hB' : parseP (s ++ ⟨#[32, 35, 32, 100, 111, 10, 9, 13, 10]⟩ ++ t).data.toList = .error (c, p + (s.size + 1) + 8) := by rw [hB, show p + (s.size + 9) = p + (s.size + 1) + 8 by omega]
        rcases (bad_iff l m).1 hb with htw | hlm
        · exact lines_tw s t l m w (by omega) (by omega) hT hps hpt htw c _ hc (by omega) (by omega) hA hB'
        · cases htw : twB l m m.length with
          | true => exact lines_tw s t l m w (by omega) (by omega) hT hps hpt htw c _ hc (by omega) (by omega) hA hB'
          | false => exact lines_long s t l m w (by omega) (by omega) hT hps hpt htw hlm c _ hc (by omega) (by omega) hA hB'
      · obtain ⟨hA, hB⟩ := g1 hb
        have hn : ¬ (twB l m m.length = true ∨ 256 < l.length + m.length) := fun h => hb ((bad_iff l m).2 h)
        have htw : twB l m m.length = false := by
          cases e : twB l m m.length with
          | false => rfl
          | true => exact absurd (.inl e) hn
        exact lines_good s t l m w (by omega) (by omega) hT hps hpt htw (by omega) (by rw [catA]; exact hA) (by rw [catB]; exact hB)
end Go.Proofs.YtcjkamnpkmkapaaDoor
