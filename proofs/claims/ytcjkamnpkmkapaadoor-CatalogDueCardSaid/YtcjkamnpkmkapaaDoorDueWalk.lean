import Derived.Test.YtcjkamnpkmkapaaDoorSmall
namespace Go.Proofs.YtcjkamnpkmkapaaDoor
open Go.RowKit
theorem clamp_mono (a b : Int) (h : a ≤ b) : clampZ a 0 1073741824 ≤ clampZ b 0 1073741824 := by
  unfold clampZ; split <;> (try split) <;> (try split) <;> (try split) <;> omega
theorem can_clock (o : Off) (tick clock later : Int) (h : clock ≤ later) (hA : canZ o tick later = true) : canZ o tick clock = true := by
  have := clamp_mono clock later h
  unfold canZ at *
  simp only [Bool.and_eq_true, Bool.or_eq_true, decide_eq_true_eq, beq_iff_eq] at *
  exact ⟨hA.1, hA.2.elim .inl (fun x => .inr (by omega))⟩
theorem can_later (o : Off) (tick clock later : Int) (h : tick ≤ later) (hA : canZ o tick clock = true) : canZ o later clock = true := by
  have := clamp_mono tick later h
  unfold canZ at *
  simp only [Bool.and_eq_true, Bool.or_eq_true, decide_eq_true_eq, beq_iff_eq] at *
  exact ⟨hA.1, hA.2.elim .inl (fun x => .inr (by omega))⟩
theorem can_undo (o : Off) (tick clock : Int) (h : o.undo = -1) : canZ o tick clock = false := by
  unfold canZ; rw [h]; rfl
theorem can_free (o : Off) (tick clock : Int) (h : o.undo ≠ -1) (hd : ¬ 0 < o.due) : canZ o tick clock = true := by
  unfold canZ
  have e : clampZ o.due 0 1073741824 = 0 := by
    unfold clampZ; split
    · rfl
    · split <;> omega
  rw [e]
  simpa using h
set_option maxHeartbeats 8000000 in
theorem due_walk (o : Off) (tick clock later : Int) (w : World) (ht : Tab w) : Calls Tryd.prog 5 #[.agg o.cells, .int .i64 tick, .int .i64 clock, .int .i64 later] w fun e w' => e = .returned (.bool true) ∧ Below w.heap.size w w' := by
  have HT := Lib.hid ht
  clear ht
  have X0 : Hid (Hs (w.alloc (.cells #[.string o.name, .int .i64 o.do_, .int .i64 o.undo, .int .i64 o.due, .int .i64 o.part, .int .i64 o.amend] 32)) w.heap.size 32 o.cells) := Hs.new w 32 o.cells
  unfold Off.cells
  by_cases h1 : later < clock
  · have t1 : decide (later < clock) = true := decide_eq_true h1
    go_enter Tryd.func5, Tryd.ntmps5
    go_wp2_with (first | (go_at_call 6; refine (small_any _ (HT.out.keep ((Below.refl _ _).alloc (Nat.le_refl _) _))).mono ?_; rintro e wz ⟨rfl, hb⟩; have X := Lib.hid (X0.out.below hb X0.out.lt); have D := Lib.hid (below_then ((Below.refl w.heap.size w).alloc (Nat.le_refl _) _) hb); have c0 : wz.cell? ⟨w.heap.size, 0, none⟩ = some (.string o.name) := X.out.cell 0; have c1 : wz.cell? ⟨w.heap.size, 1, none⟩ = some (.int .i64 o.do_) := X.out.cell 1; have c2 : wz.cell? ⟨w.heap.size, 2, none⟩ = some (.int .i64 o.undo) := X.out.cell 2; have c3 : wz.cell? ⟨w.heap.size, 3, none⟩ = some (.int .i64 o.due) := X.out.cell 3; have c4 : wz.cell? ⟨w.heap.size, 4, none⟩ = some (.int .i64 o.part) := X.out.cell 4; have c5 : wz.cell? ⟨w.heap.size, 5, none⟩ = some (.int .i64 o.amend) := X.out.cell 5; clear hb) | (go_at_call 12; (with_reducible refine (can_lit o _ _ _).mono ?_); rintro e wz ⟨rfl, hb⟩; have X := Lib.hid (X.out.below hb X.out.lt); have D := Lib.hid (below_then D.out hb); have c0 : wz.cell? ⟨w.heap.size, 0, none⟩ = some (.string o.name) := X.out.cell 0; have c1 : wz.cell? ⟨w.heap.size, 1, none⟩ = some (.int .i64 o.do_) := X.out.cell 1; have c2 : wz.cell? ⟨w.heap.size, 2, none⟩ = some (.int .i64 o.undo) := X.out.cell 2; have c3 : wz.cell? ⟨w.heap.size, 3, none⟩ = some (.int .i64 o.due) := X.out.cell 3; have c4 : wz.cell? ⟨w.heap.size, 4, none⟩ = some (.int .i64 o.part) := X.out.cell 4; have c5 : wz.cell? ⟨w.heap.size, 5, none⟩ = some (.int .i64 o.amend) := X.out.cell 5; clear hb))
    go_ret
    exact ⟨rfl, D.out⟩
  have t1 : decide (later < clock) = false := decide_eq_false h1
  have HM := Lib.hid (can_clock o tick clock later (by omega))
  have HL := Lib.hid (can_later o tick clock later)
  have HU := Lib.hid (can_undo o)
  have HF := Lib.hid (can_free o)
  by_cases h2 : tick ≤ later
  · have t2 : decide (tick ≤ later) = true := decide_eq_true h2
    by_cases h3 : o.undo = -1
    · have a1 := HU.out tick later h3
      have a2 := HU.out tick clock h3
      have a3 := HU.out later clock h3
      have t3 : (o.undo != -1) = false := by simp [h3]
      have t4 : (o.undo == -1) = true := by simp [h3]
      clear h3
      go_enter Tryd.func5, Tryd.ntmps5
      go_wp2_with (first | (go_at_call 6; refine (small_any _ (HT.out.keep ((Below.refl _ _).alloc (Nat.le_refl _) _))).mono ?_; rintro e wz ⟨rfl, hb⟩; have X := Lib.hid (X0.out.below hb X0.out.lt); have D := Lib.hid (below_then ((Below.refl w.heap.size w).alloc (Nat.le_refl _) _) hb); have c0 : wz.cell? ⟨w.heap.size, 0, none⟩ = some (.string o.name) := X.out.cell 0; have c1 : wz.cell? ⟨w.heap.size, 1, none⟩ = some (.int .i64 o.do_) := X.out.cell 1; have c2 : wz.cell? ⟨w.heap.size, 2, none⟩ = some (.int .i64 o.undo) := X.out.cell 2; have c3 : wz.cell? ⟨w.heap.size, 3, none⟩ = some (.int .i64 o.due) := X.out.cell 3; have c4 : wz.cell? ⟨w.heap.size, 4, none⟩ = some (.int .i64 o.part) := X.out.cell 4; have c5 : wz.cell? ⟨w.heap.size, 5, none⟩ = some (.int .i64 o.amend) := X.out.cell 5; clear hb) | (go_at_call 12; (with_reducible refine (can_lit o _ _ _).mono ?_); rintro e wz ⟨rfl, hb⟩; have X := Lib.hid (X.out.below hb X.out.lt); have D := Lib.hid (below_then D.out hb); have c0 : wz.cell? ⟨w.heap.size, 0, none⟩ = some (.string o.name) := X.out.cell 0; have c1 : wz.cell? ⟨w.heap.size, 1, none⟩ = some (.int .i64 o.do_) := X.out.cell 1; have c2 : wz.cell? ⟨w.heap.size, 2, none⟩ = some (.int .i64 o.undo) := X.out.cell 2; have c3 : wz.cell? ⟨w.heap.size, 3, none⟩ = some (.int .i64 o.due) := X.out.cell 3; have c4 : wz.cell? ⟨w.heap.size, 4, none⟩ = some (.int .i64 o.part) := X.out.cell 4; have c5 : wz.cell? ⟨w.heap.size, 5, none⟩ = some (.int .i64 o.amend) := X.out.cell 5; clear hb))
      go_ret
      exact ⟨rfl, D.out⟩
    · have t3 : (o.undo != -1) = true := by simp [h3]
      have t4 : (o.undo == -1) = false := by simp [h3]
      cases a2 : canZ o tick clock with
      | false =>
        have a1 : canZ o tick later = false := by
          cases e : canZ o tick later with
          | false => rfl
          | true => have := HM.out e; rw [a2] at this; cases this
        by_cases h4 : 0 < o.due
        · have t5 : decide (0 < o.due) = true := decide_eq_true h4
          clear h3
          go_enter Tryd.func5, Tryd.ntmps5
          go_wp2_with (first | (go_at_call 6; refine (small_any _ (HT.out.keep ((Below.refl _ _).alloc (Nat.le_refl _) _))).mono ?_; rintro e wz ⟨rfl, hb⟩; have X := Lib.hid (X0.out.below hb X0.out.lt); have D := Lib.hid (below_then ((Below.refl w.heap.size w).alloc (Nat.le_refl _) _) hb); have c0 : wz.cell? ⟨w.heap.size, 0, none⟩ = some (.string o.name) := X.out.cell 0; have c1 : wz.cell? ⟨w.heap.size, 1, none⟩ = some (.int .i64 o.do_) := X.out.cell 1; have c2 : wz.cell? ⟨w.heap.size, 2, none⟩ = some (.int .i64 o.undo) := X.out.cell 2; have c3 : wz.cell? ⟨w.heap.size, 3, none⟩ = some (.int .i64 o.due) := X.out.cell 3; have c4 : wz.cell? ⟨w.heap.size, 4, none⟩ = some (.int .i64 o.part) := X.out.cell 4; have c5 : wz.cell? ⟨w.heap.size, 5, none⟩ = some (.int .i64 o.amend) := X.out.cell 5; clear hb) | (go_at_call 12; (with_reducible refine (can_lit o _ _ _).mono ?_); rintro e wz ⟨rfl, hb⟩; have X := Lib.hid (X.out.below hb X.out.lt); have D := Lib.hid (below_then D.out hb); have c0 : wz.cell? ⟨w.heap.size, 0, none⟩ = some (.string o.name) := X.out.cell 0; have c1 : wz.cell? ⟨w.heap.size, 1, none⟩ = some (.int .i64 o.do_) := X.out.cell 1; have c2 : wz.cell? ⟨w.heap.size, 2, none⟩ = some (.int .i64 o.undo) := X.out.cell 2; have c3 : wz.cell? ⟨w.heap.size, 3, none⟩ = some (.int .i64 o.due) := X.out.cell 3; have c4 : wz.cell? ⟨w.heap.size, 4, none⟩ = some (.int .i64 o.part) := X.out.cell 4; have c5 : wz.cell? ⟨w.heap.size, 5, none⟩ = some (.int .i64 o.amend) := X.out.cell 5; clear hb))
          go_ret
          exact ⟨rfl, D.out⟩
        · have := HF.out tick clock h3 h4
          rw [a2] at this; cases this
      | true =>
        have a3 := HL.out h2 a2
        clear h3
        cases a1 : canZ o tick later with
        | false =>
          by_cases h4 : 0 < o.due
          · have t5 : decide (0 < o.due) = true := decide_eq_true h4
            go_enter Tryd.func5, Tryd.ntmps5
            go_wp2_with (first | (go_at_call 6; refine (small_any _ (HT.out.keep ((Below.refl _ _).alloc (Nat.le_refl _) _))).mono ?_; rintro e wz ⟨rfl, hb⟩; have X := Lib.hid (X0.out.below hb X0.out.lt); have D := Lib.hid (below_then ((Below.refl w.heap.size w).alloc (Nat.le_refl _) _) hb); have c0 : wz.cell? ⟨w.heap.size, 0, none⟩ = some (.string o.name) := X.out.cell 0; have c1 : wz.cell? ⟨w.heap.size, 1, none⟩ = some (.int .i64 o.do_) := X.out.cell 1; have c2 : wz.cell? ⟨w.heap.size, 2, none⟩ = some (.int .i64 o.undo) := X.out.cell 2; have c3 : wz.cell? ⟨w.heap.size, 3, none⟩ = some (.int .i64 o.due) := X.out.cell 3; have c4 : wz.cell? ⟨w.heap.size, 4, none⟩ = some (.int .i64 o.part) := X.out.cell 4; have c5 : wz.cell? ⟨w.heap.size, 5, none⟩ = some (.int .i64 o.amend) := X.out.cell 5; clear hb) | (go_at_call 12; (with_reducible refine (can_lit o _ _ _).mono ?_); rintro e wz ⟨rfl, hb⟩; have X := Lib.hid (X.out.below hb X.out.lt); have D := Lib.hid (below_then D.out hb); have c0 : wz.cell? ⟨w.heap.size, 0, none⟩ = some (.string o.name) := X.out.cell 0; have c1 : wz.cell? ⟨w.heap.size, 1, none⟩ = some (.int .i64 o.do_) := X.out.cell 1; have c2 : wz.cell? ⟨w.heap.size, 2, none⟩ = some (.int .i64 o.undo) := X.out.cell 2; have c3 : wz.cell? ⟨w.heap.size, 3, none⟩ = some (.int .i64 o.due) := X.out.cell 3; have c4 : wz.cell? ⟨w.heap.size, 4, none⟩ = some (.int .i64 o.part) := X.out.cell 4; have c5 : wz.cell? ⟨w.heap.size, 5, none⟩ = some (.int .i64 o.amend) := X.out.cell 5; clear hb))
            go_ret
            exact ⟨rfl, D.out⟩
          · have t5 : decide (0 < o.due) = false := decide_eq_false h4
            go_enter Tryd.func5, Tryd.ntmps5
            go_wp2_with (first | (go_at_call 6; refine (small_any _ (HT.out.keep ((Below.refl _ _).alloc (Nat.le_refl _) _))).mono ?_; rintro e wz ⟨rfl, hb⟩; have X := Lib.hid (X0.out.below hb X0.out.lt); have D := Lib.hid (below_then ((Below.refl w.heap.size w).alloc (Nat.le_refl _) _) hb); have c0 : wz.cell? ⟨w.heap.size, 0, none⟩ = some (.string o.name) := X.out.cell 0; have c1 : wz.cell? ⟨w.heap.size, 1, none⟩ = some (.int .i64 o.do_) := X.out.cell 1; have c2 : wz.cell? ⟨w.heap.size, 2, none⟩ = some (.int .i64 o.undo) := X.out.cell 2; have c3 : wz.cell? ⟨w.heap.size, 3, none⟩ = some (.int .i64 o.due) := X.out.cell 3; have c4 : wz.cell? ⟨w.heap.size, 4, none⟩ = some (.int .i64 o.part) := X.out.cell 4; have c5 : wz.cell? ⟨w.heap.size, 5, none⟩ = some (.int .i64 o.amend) := X.out.cell 5; clear hb) | (go_at_call 12; (with_reducible refine (can_lit o _ _ _).mono ?_); rintro e wz ⟨rfl, hb⟩; have X := Lib.hid (X.out.below hb X.out.lt); have D := Lib.hid (below_then D.out hb); have c0 : wz.cell? ⟨w.heap.size, 0, none⟩ = some (.string o.name) := X.out.cell 0; have c1 : wz.cell? ⟨w.heap.size, 1, none⟩ = some (.int .i64 o.do_) := X.out.cell 1; have c2 : wz.cell? ⟨w.heap.size, 2, none⟩ = some (.int .i64 o.undo) := X.out.cell 2; have c3 : wz.cell? ⟨w.heap.size, 3, none⟩ = some (.int .i64 o.due) := X.out.cell 3; have c4 : wz.cell? ⟨w.heap.size, 4, none⟩ = some (.int .i64 o.part) := X.out.cell 4; have c5 : wz.cell? ⟨w.heap.size, 5, none⟩ = some (.int .i64 o.amend) := X.out.cell 5; clear hb))
            go_ret
            exact ⟨rfl, D.out⟩
        | true =>
          by_cases h4 : 0 < o.due
          · have t5 : decide (0 < o.due) = true := decide_eq_true h4
            go_enter Tryd.func5, Tryd.ntmps5
            go_wp2_with (first | (go_at_call 6; refine (small_any _ (HT.out.keep ((Below.refl _ _).alloc (Nat.le_refl _) _))).mono ?_; rintro e wz ⟨rfl, hb⟩; have X := Lib.hid (X0.out.below hb X0.out.lt); have D := Lib.hid (below_then ((Below.refl w.heap.size w).alloc (Nat.le_refl _) _) hb); have c0 : wz.cell? ⟨w.heap.size, 0, none⟩ = some (.string o.name) := X.out.cell 0; have c1 : wz.cell? ⟨w.heap.size, 1, none⟩ = some (.int .i64 o.do_) := X.out.cell 1; have c2 : wz.cell? ⟨w.heap.size, 2, none⟩ = some (.int .i64 o.undo) := X.out.cell 2; have c3 : wz.cell? ⟨w.heap.size, 3, none⟩ = some (.int .i64 o.due) := X.out.cell 3; have c4 : wz.cell? ⟨w.heap.size, 4, none⟩ = some (.int .i64 o.part) := X.out.cell 4; have c5 : wz.cell? ⟨w.heap.size, 5, none⟩ = some (.int .i64 o.amend) := X.out.cell 5; clear hb) | (go_at_call 12; (with_reducible refine (can_lit o _ _ _).mono ?_); rintro e wz ⟨rfl, hb⟩; have X := Lib.hid (X.out.below hb X.out.lt); have D := Lib.hid (below_then D.out hb); have c0 : wz.cell? ⟨w.heap.size, 0, none⟩ = some (.string o.name) := X.out.cell 0; have c1 : wz.cell? ⟨w.heap.size, 1, none⟩ = some (.int .i64 o.do_) := X.out.cell 1; have c2 : wz.cell? ⟨w.heap.size, 2, none⟩ = some (.int .i64 o.undo) := X.out.cell 2; have c3 : wz.cell? ⟨w.heap.size, 3, none⟩ = some (.int .i64 o.due) := X.out.cell 3; have c4 : wz.cell? ⟨w.heap.size, 4, none⟩ = some (.int .i64 o.part) := X.out.cell 4; have c5 : wz.cell? ⟨w.heap.size, 5, none⟩ = some (.int .i64 o.amend) := X.out.cell 5; clear hb))
            go_ret
            exact ⟨rfl, D.out⟩
          · have t5 : decide (0 < o.due) = false := decide_eq_false h4
            go_enter Tryd.func5, Tryd.ntmps5
            go_wp2_with (first | (go_at_call 6; refine (small_any _ (HT.out.keep ((Below.refl _ _).alloc (Nat.le_refl _) _))).mono ?_; rintro e wz ⟨rfl, hb⟩; have X := Lib.hid (X0.out.below hb X0.out.lt); have D := Lib.hid (below_then ((Below.refl w.heap.size w).alloc (Nat.le_refl _) _) hb); have c0 : wz.cell? ⟨w.heap.size, 0, none⟩ = some (.string o.name) := X.out.cell 0; have c1 : wz.cell? ⟨w.heap.size, 1, none⟩ = some (.int .i64 o.do_) := X.out.cell 1; have c2 : wz.cell? ⟨w.heap.size, 2, none⟩ = some (.int .i64 o.undo) := X.out.cell 2; have c3 : wz.cell? ⟨w.heap.size, 3, none⟩ = some (.int .i64 o.due) := X.out.cell 3; have c4 : wz.cell? ⟨w.heap.size, 4, none⟩ = some (.int .i64 o.part) := X.out.cell 4; have c5 : wz.cell? ⟨w.heap.size, 5, none⟩ = some (.int .i64 o.amend) := X.out.cell 5; clear hb) | (go_at_call 12; (with_reducible refine (can_lit o _ _ _).mono ?_); rintro e wz ⟨rfl, hb⟩; have X := Lib.hid (X.out.below hb X.out.lt); have D := Lib.hid (below_then D.out hb); have c0 : wz.cell? ⟨w.heap.size, 0, none⟩ = some (.string o.name) := X.out.cell 0; have c1 : wz.cell? ⟨w.heap.size, 1, none⟩ = some (.int .i64 o.do_) := X.out.cell 1; have c2 : wz.cell? ⟨w.heap.size, 2, none⟩ = some (.int .i64 o.undo) := X.out.cell 2; have c3 : wz.cell? ⟨w.heap.size, 3, none⟩ = some (.int .i64 o.due) := X.out.cell 3; have c4 : wz.cell? ⟨w.heap.size, 4, none⟩ = some (.int .i64 o.part) := X.out.cell 4; have c5 : wz.cell? ⟨w.heap.size, 5, none⟩ = some (.int .i64 o.amend) := X.out.cell 5; clear hb))
            go_ret
            exact ⟨rfl, D.out⟩
  · have t2 : decide (tick ≤ later) = false := decide_eq_false h2
    by_cases h3 : o.undo = -1
    · have a1 := HU.out tick later h3
      have a2 := HU.out tick clock h3
      have a3 := HU.out later clock h3
      have t3 : (o.undo != -1) = false := by simp [h3]
      have t4 : (o.undo == -1) = true := by simp [h3]
      clear h3
      go_enter Tryd.func5, Tryd.ntmps5
      go_wp2_with (first | (go_at_call 6; refine (small_any _ (HT.out.keep ((Below.refl _ _).alloc (Nat.le_refl _) _))).mono ?_; rintro e wz ⟨rfl, hb⟩; have X := Lib.hid (X0.out.below hb X0.out.lt); have D := Lib.hid (below_then ((Below.refl w.heap.size w).alloc (Nat.le_refl _) _) hb); have c0 : wz.cell? ⟨w.heap.size, 0, none⟩ = some (.string o.name) := X.out.cell 0; have c1 : wz.cell? ⟨w.heap.size, 1, none⟩ = some (.int .i64 o.do_) := X.out.cell 1; have c2 : wz.cell? ⟨w.heap.size, 2, none⟩ = some (.int .i64 o.undo) := X.out.cell 2; have c3 : wz.cell? ⟨w.heap.size, 3, none⟩ = some (.int .i64 o.due) := X.out.cell 3; have c4 : wz.cell? ⟨w.heap.size, 4, none⟩ = some (.int .i64 o.part) := X.out.cell 4; have c5 : wz.cell? ⟨w.heap.size, 5, none⟩ = some (.int .i64 o.amend) := X.out.cell 5; clear hb) | (go_at_call 12; (with_reducible refine (can_lit o _ _ _).mono ?_); rintro e wz ⟨rfl, hb⟩; have X := Lib.hid (X.out.below hb X.out.lt); have D := Lib.hid (below_then D.out hb); have c0 : wz.cell? ⟨w.heap.size, 0, none⟩ = some (.string o.name) := X.out.cell 0; have c1 : wz.cell? ⟨w.heap.size, 1, none⟩ = some (.int .i64 o.do_) := X.out.cell 1; have c2 : wz.cell? ⟨w.heap.size, 2, none⟩ = some (.int .i64 o.undo) := X.out.cell 2; have c3 : wz.cell? ⟨w.heap.size, 3, none⟩ = some (.int .i64 o.due) := X.out.cell 3; have c4 : wz.cell? ⟨w.heap.size, 4, none⟩ = some (.int .i64 o.part) := X.out.cell 4; have c5 : wz.cell? ⟨w.heap.size, 5, none⟩ = some (.int .i64 o.amend) := X.out.cell 5; clear hb))
      go_ret
      exact ⟨rfl, D.out⟩
    · have t3 : (o.undo != -1) = true := by simp [h3]
      have t4 : (o.undo == -1) = false := by simp [h3]
      cases a2 : canZ o tick clock with
      | false =>
        have a1 : canZ o tick later = false := by
          cases e : canZ o tick later with
          | false => rfl
          | true => have := HM.out e; rw [a2] at this; cases this
        by_cases h4 : 0 < o.due
        · have t5 : decide (0 < o.due) = true := decide_eq_true h4
          clear h3
          go_enter Tryd.func5, Tryd.ntmps5
          go_wp2_with (first | (go_at_call 6; refine (small_any _ (HT.out.keep ((Below.refl _ _).alloc (Nat.le_refl _) _))).mono ?_; rintro e wz ⟨rfl, hb⟩; have X := Lib.hid (X0.out.below hb X0.out.lt); have D := Lib.hid (below_then ((Below.refl w.heap.size w).alloc (Nat.le_refl _) _) hb); have c0 : wz.cell? ⟨w.heap.size, 0, none⟩ = some (.string o.name) := X.out.cell 0; have c1 : wz.cell? ⟨w.heap.size, 1, none⟩ = some (.int .i64 o.do_) := X.out.cell 1; have c2 : wz.cell? ⟨w.heap.size, 2, none⟩ = some (.int .i64 o.undo) := X.out.cell 2; have c3 : wz.cell? ⟨w.heap.size, 3, none⟩ = some (.int .i64 o.due) := X.out.cell 3; have c4 : wz.cell? ⟨w.heap.size, 4, none⟩ = some (.int .i64 o.part) := X.out.cell 4; have c5 : wz.cell? ⟨w.heap.size, 5, none⟩ = some (.int .i64 o.amend) := X.out.cell 5; clear hb) | (go_at_call 12; (with_reducible refine (can_lit o _ _ _).mono ?_); rintro e wz ⟨rfl, hb⟩; have X := Lib.hid (X.out.below hb X.out.lt); have D := Lib.hid (below_then D.out hb); have c0 : wz.cell? ⟨w.heap.size, 0, none⟩ = some (.string o.name) := X.out.cell 0; have c1 : wz.cell? ⟨w.heap.size, 1, none⟩ = some (.int .i64 o.do_) := X.out.cell 1; have c2 : wz.cell? ⟨w.heap.size, 2, none⟩ = some (.int .i64 o.undo) := X.out.cell 2; have c3 : wz.cell? ⟨w.heap.size, 3, none⟩ = some (.int .i64 o.due) := X.out.cell 3; have c4 : wz.cell? ⟨w.heap.size, 4, none⟩ = some (.int .i64 o.part) := X.out.cell 4; have c5 : wz.cell? ⟨w.heap.size, 5, none⟩ = some (.int .i64 o.amend) := X.out.cell 5; clear hb))
          go_ret
          exact ⟨rfl, D.out⟩
        · have := HF.out tick clock h3 h4
          rw [a2] at this; cases this
      | true =>
        clear h3
        cases a1 : canZ o tick later with
        | false =>
          by_cases h4 : 0 < o.due
          · have t5 : decide (0 < o.due) = true := decide_eq_true h4
            go_enter Tryd.func5, Tryd.ntmps5
            go_wp2_with (first | (go_at_call 6; refine (small_any _ (HT.out.keep ((Below.refl _ _).alloc (Nat.le_refl _) _))).mono ?_; rintro e wz ⟨rfl, hb⟩; have X := Lib.hid (X0.out.below hb X0.out.lt); have D := Lib.hid (below_then ((Below.refl w.heap.size w).alloc (Nat.le_refl _) _) hb); have c0 : wz.cell? ⟨w.heap.size, 0, none⟩ = some (.string o.name) := X.out.cell 0; have c1 : wz.cell? ⟨w.heap.size, 1, none⟩ = some (.int .i64 o.do_) := X.out.cell 1; have c2 : wz.cell? ⟨w.heap.size, 2, none⟩ = some (.int .i64 o.undo) := X.out.cell 2; have c3 : wz.cell? ⟨w.heap.size, 3, none⟩ = some (.int .i64 o.due) := X.out.cell 3; have c4 : wz.cell? ⟨w.heap.size, 4, none⟩ = some (.int .i64 o.part) := X.out.cell 4; have c5 : wz.cell? ⟨w.heap.size, 5, none⟩ = some (.int .i64 o.amend) := X.out.cell 5; clear hb) | (go_at_call 12; (with_reducible refine (can_lit o _ _ _).mono ?_); rintro e wz ⟨rfl, hb⟩; have X := Lib.hid (X.out.below hb X.out.lt); have D := Lib.hid (below_then D.out hb); have c0 : wz.cell? ⟨w.heap.size, 0, none⟩ = some (.string o.name) := X.out.cell 0; have c1 : wz.cell? ⟨w.heap.size, 1, none⟩ = some (.int .i64 o.do_) := X.out.cell 1; have c2 : wz.cell? ⟨w.heap.size, 2, none⟩ = some (.int .i64 o.undo) := X.out.cell 2; have c3 : wz.cell? ⟨w.heap.size, 3, none⟩ = some (.int .i64 o.due) := X.out.cell 3; have c4 : wz.cell? ⟨w.heap.size, 4, none⟩ = some (.int .i64 o.part) := X.out.cell 4; have c5 : wz.cell? ⟨w.heap.size, 5, none⟩ = some (.int .i64 o.amend) := X.out.cell 5; clear hb))
            go_ret
            exact ⟨rfl, D.out⟩
          · have t5 : decide (0 < o.due) = false := decide_eq_false h4
            go_enter Tryd.func5, Tryd.ntmps5
            go_wp2_with (first | (go_at_call 6; refine (small_any _ (HT.out.keep ((Below.refl _ _).alloc (Nat.le_refl _) _))).mono ?_; rintro e wz ⟨rfl, hb⟩; have X := Lib.hid (X0.out.below hb X0.out.lt); have D := Lib.hid (below_then ((Below.refl w.heap.size w).alloc (Nat.le_refl _) _) hb); have c0 : wz.cell? ⟨w.heap.size, 0, none⟩ = some (.string o.name) := X.out.cell 0; have c1 : wz.cell? ⟨w.heap.size, 1, none⟩ = some (.int .i64 o.do_) := X.out.cell 1; have c2 : wz.cell? ⟨w.heap.size, 2, none⟩ = some (.int .i64 o.undo) := X.out.cell 2; have c3 : wz.cell? ⟨w.heap.size, 3, none⟩ = some (.int .i64 o.due) := X.out.cell 3; have c4 : wz.cell? ⟨w.heap.size, 4, none⟩ = some (.int .i64 o.part) := X.out.cell 4; have c5 : wz.cell? ⟨w.heap.size, 5, none⟩ = some (.int .i64 o.amend) := X.out.cell 5; clear hb) | (go_at_call 12; (with_reducible refine (can_lit o _ _ _).mono ?_); rintro e wz ⟨rfl, hb⟩; have X := Lib.hid (X.out.below hb X.out.lt); have D := Lib.hid (below_then D.out hb); have c0 : wz.cell? ⟨w.heap.size, 0, none⟩ = some (.string o.name) := X.out.cell 0; have c1 : wz.cell? ⟨w.heap.size, 1, none⟩ = some (.int .i64 o.do_) := X.out.cell 1; have c2 : wz.cell? ⟨w.heap.size, 2, none⟩ = some (.int .i64 o.undo) := X.out.cell 2; have c3 : wz.cell? ⟨w.heap.size, 3, none⟩ = some (.int .i64 o.due) := X.out.cell 3; have c4 : wz.cell? ⟨w.heap.size, 4, none⟩ = some (.int .i64 o.part) := X.out.cell 4; have c5 : wz.cell? ⟨w.heap.size, 5, none⟩ = some (.int .i64 o.amend) := X.out.cell 5; clear hb))
            go_ret
            exact ⟨rfl, D.out⟩
        | true =>
          by_cases h4 : 0 < o.due
          · have t5 : decide (0 < o.due) = true := decide_eq_true h4
            go_enter Tryd.func5, Tryd.ntmps5
            go_wp2_with (first | (go_at_call 6; refine (small_any _ (HT.out.keep ((Below.refl _ _).alloc (Nat.le_refl _) _))).mono ?_; rintro e wz ⟨rfl, hb⟩; have X := Lib.hid (X0.out.below hb X0.out.lt); have D := Lib.hid (below_then ((Below.refl w.heap.size w).alloc (Nat.le_refl _) _) hb); have c0 : wz.cell? ⟨w.heap.size, 0, none⟩ = some (.string o.name) := X.out.cell 0; have c1 : wz.cell? ⟨w.heap.size, 1, none⟩ = some (.int .i64 o.do_) := X.out.cell 1; have c2 : wz.cell? ⟨w.heap.size, 2, none⟩ = some (.int .i64 o.undo) := X.out.cell 2; have c3 : wz.cell? ⟨w.heap.size, 3, none⟩ = some (.int .i64 o.due) := X.out.cell 3; have c4 : wz.cell? ⟨w.heap.size, 4, none⟩ = some (.int .i64 o.part) := X.out.cell 4; have c5 : wz.cell? ⟨w.heap.size, 5, none⟩ = some (.int .i64 o.amend) := X.out.cell 5; clear hb) | (go_at_call 12; (with_reducible refine (can_lit o _ _ _).mono ?_); rintro e wz ⟨rfl, hb⟩; have X := Lib.hid (X.out.below hb X.out.lt); have D := Lib.hid (below_then D.out hb); have c0 : wz.cell? ⟨w.heap.size, 0, none⟩ = some (.string o.name) := X.out.cell 0; have c1 : wz.cell? ⟨w.heap.size, 1, none⟩ = some (.int .i64 o.do_) := X.out.cell 1; have c2 : wz.cell? ⟨w.heap.size, 2, none⟩ = some (.int .i64 o.undo) := X.out.cell 2; have c3 : wz.cell? ⟨w.heap.size, 3, none⟩ = some (.int .i64 o.due) := X.out.cell 3; have c4 : wz.cell? ⟨w.heap.size, 4, none⟩ = some (.int .i64 o.part) := X.out.cell 4; have c5 : wz.cell? ⟨w.heap.size, 5, none⟩ = some (.int .i64 o.amend) := X.out.cell 5; clear hb))
            go_ret
            exact ⟨rfl, D.out⟩
          · have t5 : decide (0 < o.due) = false := decide_eq_false h4
            go_enter Tryd.func5, Tryd.ntmps5
            go_wp2_with (first | (go_at_call 6; refine (small_any _ (HT.out.keep ((Below.refl _ _).alloc (Nat.le_refl _) _))).mono ?_; rintro e wz ⟨rfl, hb⟩; have X := Lib.hid (X0.out.below hb X0.out.lt); have D := Lib.hid (below_then ((Below.refl w.heap.size w).alloc (Nat.le_refl _) _) hb); have c0 : wz.cell? ⟨w.heap.size, 0, none⟩ = some (.string o.name) := X.out.cell 0; have c1 : wz.cell? ⟨w.heap.size, 1, none⟩ = some (.int .i64 o.do_) := X.out.cell 1; have c2 : wz.cell? ⟨w.heap.size, 2, none⟩ = some (.int .i64 o.undo) := X.out.cell 2; have c3 : wz.cell? ⟨w.heap.size, 3, none⟩ = some (.int .i64 o.due) := X.out.cell 3; have c4 : wz.cell? ⟨w.heap.size, 4, none⟩ = some (.int .i64 o.part) := X.out.cell 4; have c5 : wz.cell? ⟨w.heap.size, 5, none⟩ = some (.int .i64 o.amend) := X.out.cell 5; clear hb) | (go_at_call 12; (with_reducible refine (can_lit o _ _ _).mono ?_); rintro e wz ⟨rfl, hb⟩; have X := Lib.hid (X.out.below hb X.out.lt); have D := Lib.hid (below_then D.out hb); have c0 : wz.cell? ⟨w.heap.size, 0, none⟩ = some (.string o.name) := X.out.cell 0; have c1 : wz.cell? ⟨w.heap.size, 1, none⟩ = some (.int .i64 o.do_) := X.out.cell 1; have c2 : wz.cell? ⟨w.heap.size, 2, none⟩ = some (.int .i64 o.undo) := X.out.cell 2; have c3 : wz.cell? ⟨w.heap.size, 3, none⟩ = some (.int .i64 o.due) := X.out.cell 3; have c4 : wz.cell? ⟨w.heap.size, 4, none⟩ = some (.int .i64 o.part) := X.out.cell 4; have c5 : wz.cell? ⟨w.heap.size, 5, none⟩ = some (.int .i64 o.amend) := X.out.cell 5; clear hb))
            go_ret
            exact ⟨rfl, D.out⟩
end Go.Proofs.YtcjkamnpkmkapaaDoor
