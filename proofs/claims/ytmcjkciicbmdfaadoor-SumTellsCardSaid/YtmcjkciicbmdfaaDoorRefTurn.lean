import Derived.Test.YtmcjkciicbmdfaaDoorRefHex
namespace Go.Proofs.YtmcjkciicbmdfaaDoor
open Go.RowKit SumMath
theorem or_comm32 (a b : Int) : bits .or .u32 a b = bits .or .u32 b a := by
  simp only [bits]
  rw [BitVec.or_comm]
set_option maxHeartbeats 400000 in
theorem turn7 (x : Int) (w : World) : Calls Tryd.prog 30 #[.int .u32 x, .int .i64 7] w fun e w' => e = .returned (.int .u32 (rr 7 x)) ∧ ∃ n, w' = w.drewN n := by
  go_enter Tryd.func30, Tryd.ntmps30
  go_wp2
  go_quiet (fail)
  go_wp2
  go_ret
  exact ⟨ret_int (by rw [rr, or_comm32]; rfl), nq, rfl⟩
set_option maxHeartbeats 400000 in
theorem turn18 (x : Int) (w : World) : Calls Tryd.prog 30 #[.int .u32 x, .int .i64 18] w fun e w' => e = .returned (.int .u32 (rr 18 x)) ∧ ∃ n, w' = w.drewN n := by
  go_enter Tryd.func30, Tryd.ntmps30
  go_wp2
  go_quiet (fail)
  go_wp2
  go_ret
  exact ⟨ret_int (by rw [rr, or_comm32]; rfl), nq, rfl⟩
set_option maxHeartbeats 400000 in
theorem turn17 (x : Int) (w : World) : Calls Tryd.prog 30 #[.int .u32 x, .int .i64 17] w fun e w' => e = .returned (.int .u32 (rr 17 x)) ∧ ∃ n, w' = w.drewN n := by
  go_enter Tryd.func30, Tryd.ntmps30
  go_wp2
  go_quiet (fail)
  go_wp2
  go_ret
  exact ⟨ret_int (by rw [rr, or_comm32]; rfl), nq, rfl⟩
set_option maxHeartbeats 400000 in
theorem turn19 (x : Int) (w : World) : Calls Tryd.prog 30 #[.int .u32 x, .int .i64 19] w fun e w' => e = .returned (.int .u32 (rr 19 x)) ∧ ∃ n, w' = w.drewN n := by
  go_enter Tryd.func30, Tryd.ntmps30
  go_wp2
  go_quiet (fail)
  go_wp2
  go_ret
  exact ⟨ret_int (by rw [rr, or_comm32]; rfl), nq, rfl⟩
set_option maxHeartbeats 400000 in
theorem turn6 (x : Int) (w : World) : Calls Tryd.prog 30 #[.int .u32 x, .int .i64 6] w fun e w' => e = .returned (.int .u32 (rr 6 x)) ∧ ∃ n, w' = w.drewN n := by
  go_enter Tryd.func30, Tryd.ntmps30
  go_wp2
  go_quiet (fail)
  go_wp2
  go_ret
  exact ⟨ret_int (by rw [rr, or_comm32]; rfl), nq, rfl⟩
set_option maxHeartbeats 400000 in
theorem turn11 (x : Int) (w : World) : Calls Tryd.prog 30 #[.int .u32 x, .int .i64 11] w fun e w' => e = .returned (.int .u32 (rr 11 x)) ∧ ∃ n, w' = w.drewN n := by
  go_enter Tryd.func30, Tryd.ntmps30
  go_wp2
  go_quiet (fail)
  go_wp2
  go_ret
  exact ⟨ret_int (by rw [rr, or_comm32]; rfl), nq, rfl⟩
set_option maxHeartbeats 400000 in
theorem turn25 (x : Int) (w : World) : Calls Tryd.prog 30 #[.int .u32 x, .int .i64 25] w fun e w' => e = .returned (.int .u32 (rr 25 x)) ∧ ∃ n, w' = w.drewN n := by
  go_enter Tryd.func30, Tryd.ntmps30
  go_wp2
  go_quiet (fail)
  go_wp2
  go_ret
  exact ⟨ret_int (by rw [rr, or_comm32]; rfl), nq, rfl⟩
set_option maxHeartbeats 400000 in
theorem turn2 (x : Int) (w : World) : Calls Tryd.prog 30 #[.int .u32 x, .int .i64 2] w fun e w' => e = .returned (.int .u32 (rr 2 x)) ∧ ∃ n, w' = w.drewN n := by
  go_enter Tryd.func30, Tryd.ntmps30
  go_wp2
  go_quiet (fail)
  go_wp2
  go_ret
  exact ⟨ret_int (by rw [rr, or_comm32]; rfl), nq, rfl⟩
set_option maxHeartbeats 400000 in
theorem turn13 (x : Int) (w : World) : Calls Tryd.prog 30 #[.int .u32 x, .int .i64 13] w fun e w' => e = .returned (.int .u32 (rr 13 x)) ∧ ∃ n, w' = w.drewN n := by
  go_enter Tryd.func30, Tryd.ntmps30
  go_wp2
  go_quiet (fail)
  go_wp2
  go_ret
  exact ⟨ret_int (by rw [rr, or_comm32]; rfl), nq, rfl⟩
set_option maxHeartbeats 400000 in
theorem turn22 (x : Int) (w : World) : Calls Tryd.prog 30 #[.int .u32 x, .int .i64 22] w fun e w' => e = .returned (.int .u32 (rr 22 x)) ∧ ∃ n, w' = w.drewN n := by
  go_enter Tryd.func30, Tryd.ntmps30
  go_wp2
  go_quiet (fail)
  go_wp2
  go_ret
  exact ⟨ret_int (by rw [rr, or_comm32]; rfl), nq, rfl⟩
theorem turn_any (x m : Int) (h : m = 7 ∨ m = 18 ∨ m = 17 ∨ m = 19 ∨ m = 6 ∨ m = 11 ∨ m = 25 ∨ m = 2 ∨ m = 13 ∨ m = 22) (w : World) : Calls Tryd.prog 30 #[.int .u32 x, .int .i64 m] w fun e w' => e = .returned (.int .u32 (rr m.toNat x)) ∧ ∃ n, w' = w.drewN n := by
  rcases h with rfl | rfl | rfl | rfl | rfl | rfl | rfl | rfl | rfl | rfl
  · exact turn7 x w
  · exact turn18 x w
  · exact turn17 x w
  · exact turn19 x w
  · exact turn6 x w
  · exact turn11 x w
  · exact turn25 x w
  · exact turn2 x w
  · exact turn13 x w
  · exact turn22 x w
end Go.Proofs.YtmcjkciicbmdfaaDoor
