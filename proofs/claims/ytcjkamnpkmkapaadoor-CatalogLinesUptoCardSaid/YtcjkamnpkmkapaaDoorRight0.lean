import Derived.Test.YtcjkamnpkmkapaaDoorIsName
namespace Go.Proofs.YtcjkamnpkmkapaaDoor
open Go.RowKit
def cst (o : Off) (k : Nat) : Int := match k with | 0 => o.do_ | 1 => o.undo | 2 => o.part | _ => o.amend
theorem right_bad (o : Off) (k : Nat) (hk : k < 4) (h : costB (cst o k) = false) : rightB o = false := by
  have : k = 0 ∨ k = 1 ∨ k = 2 ∨ k = 3 := by omega
  unfold rightB
  rcases this with rfl | rfl | rfl | rfl <;> simp only [cst] at h <;> rw [h] <;> simp
theorem right_good (o : Off) (h : ∀ k, k < 4 → costB (cst o k) = true) : rightB o = (nameB (nats o.name) && decide (0 ≤ o.due) && decide (o.due ≤ 1073741824)) := by
  have h0 : costB o.do_ = true := h 0 (by omega)
  have h1 : costB o.undo = true := h 1 (by omega)
  have h2 : costB o.part = true := h 2 (by omega)
  have h3 : costB o.amend = true := h 3 (by omega)
  unfold rightB
  rw [h0, h1, h2, h3]; simp
theorem ix0 (a b c d : Int) (w : World) : (Instr.index 72 (.agg #[.int .i64 a, .int .i64 b, .int .i64 c, .int .i64 d]) (.int .i64 0)).run Tryd.prog w = .ok (.int .i64 a) w := by kernel_rfl
theorem ix1 (a b c d : Int) (w : World) : (Instr.index 72 (.agg #[.int .i64 a, .int .i64 b, .int .i64 c, .int .i64 d]) (.int .i64 1)).run Tryd.prog w = .ok (.int .i64 b) w := by kernel_rfl
theorem ix2 (a b c d : Int) (w : World) : (Instr.index 72 (.agg #[.int .i64 a, .int .i64 b, .int .i64 c, .int .i64 d]) (.int .i64 2)).run Tryd.prog w = .ok (.int .i64 c) w := by kernel_rfl
theorem ix3 (a b c d : Int) (w : World) : (Instr.index 72 (.agg #[.int .i64 a, .int .i64 b, .int .i64 c, .int .i64 d]) (.int .i64 3)).run Tryd.prog w = .ok (.int .i64 d) w := by kernel_rfl
set_option maxHeartbeats 2000000 in
theorem right_any (o : Off) (w : World) : Calls Tryd.prog 14 #[.agg o.cells] w fun e w' => e = .returned (.bool (rightB o)) ∧ Below w.heap.size w w' := by
  have hb : ∀ ob, Below w.heap.size w (w.alloc ob) := fun ob => (Below.refl _ _).alloc (Nat.le_refl _) _
  unfold Off.cells
  go_enter Tryd.func14, Tryd.ntmps14
  go_wp2_with fail
  go_loopw [14] (fun i wr => ∃ k : Nat, k ≤ 4 ∧ i = .int .i64 k ∧ Hid (∀ j, j < k → costB (cst o j) = true) ∧ wr = w.alloc (.cells #[.string o.name, .int .i64 o.do_, .int .i64 o.undo, .int .i64 o.due, .int .i64 o.part, .int .i64 o.amend] 32)) (fun i _ => 4 - (intOf i).toNat)
  case atStart => exact ⟨0, by omega, rfl, fun j hj => by omega, rfl⟩
  case round =>
    obtain ⟨k, hk, rfl, hall, rfl⟩ := hrel
    by_cases hlt : k < 4
    · obtain ⟨c, hc⟩ : ∃ c, c = cst o k := ⟨_, rfl⟩
      have hix : ∀ w, (Instr.index 72 (.agg #[.int .i64 o.do_, .int .i64 o.undo, .int .i64 o.part, .int .i64 o.amend]) (.int .i64 (k : Int))).run Tryd.prog w = .ok (.int .i64 c) w := by
        intro w
        have : k = 0 ∨ k = 1 ∨ k = 2 ∨ k = 3 := by omega
        rw [hc]
        rcases this with e | e | e | e <;> rw [e]
        · exact ix0 ..
        · exact ix1 ..
        · exact ix2 ..
        · exact ix3 ..
      have t0 : decide ((k : Int) < 4) = true := decide_eq_true (by omega)
      have HC := Lib.hid hc
      clear hc
      by_cases h1 : c < -1
      · have t1 : decide (c < -1) = true := decide_eq_true h1
        have HN := Lib.hid (right_bad o k hlt (by rw [← HC.out]; simp [costB]; omega))
        go_wp2_with fail
        go_ret
        exact ⟨by rw [HN.out]; rfl, hb _⟩
      · have t1 : decide (c < -1) = false := decide_eq_false h1
        by_cases h2 : 1048576 < c
        · have t2 : decide (1048576 < c) = true := decide_eq_true h2
          have HN := Lib.hid (right_bad o k hlt (by rw [← HC.out]; simp [costB]; omega))
          go_wp2_with fail
          go_ret
          exact ⟨by rw [HN.out]; rfl, hb _⟩
        · have t2 : decide (1048576 < c) = false := decide_eq_false h2
          have HN : Hid (∀ j, j < k + 1 → costB (cst o j) = true) := fun j hj => by
            by_cases e : j = k
            · rw [e, ← HC.out]; simp [costB]; omega
            · exact hall.out j (by omega)
          go_wp2_with fail
          go_roundw
          case rel => exact ⟨k + 1, by omega, by go_num, HN, trivial⟩
          case measure => simp [intOf]; omega
    · obtain rfl : k = 4 := by omega
      have HN := Lib.hid (right_good o hall.out)
      have t0 : decide (((4 : Nat) : Int) < 4) = false := rfl
      cases hnm : nameB (nats o.name) with
      | false =>
        go_wp2_with (go_at_call 21; refine (isName_any _ _).mono ?_; rintro e w' ⟨rfl, rfl⟩)
        go_ret
        exact ⟨by rw [HN.out, hnm]; rfl, hb _⟩
      | true =>
        by_cases hd : 0 ≤ o.due
        · have t5 : decide (0 ≤ o.due) = true := decide_eq_true hd
          go_wp2_with (go_at_call 21; refine (isName_any _ _).mono ?_; rintro e w' ⟨rfl, rfl⟩)
          go_ret
          exact ⟨by rw [HN.out, hnm, t5]; simp, hb _⟩
        · have t5 : decide (0 ≤ o.due) = false := decide_eq_false hd
          go_wp2_with (go_at_call 21; refine (isName_any _ _).mono ?_; rintro e w' ⟨rfl, rfl⟩)
          go_ret
          exact ⟨by rw [HN.out, hnm, t5]; simp, hb _⟩
end Go.Proofs.YtcjkamnpkmkapaaDoor
