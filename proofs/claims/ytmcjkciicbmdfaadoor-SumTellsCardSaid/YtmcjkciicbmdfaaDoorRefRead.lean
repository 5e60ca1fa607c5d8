import Derived.Test.YtmcjkciicbmdfaaDoorSmall
import Derived.Deep.RegionHeld3
import Derived.Deep.AppendLies
namespace Go.Proofs.YtmcjkciicbmdfaaDoor
open Go.RowKit SumMath
set_option maxHeartbeats 400000 in
theorem digit_any (c : Nat) (hc : c < 256) (w : World) : Calls Tryd.prog 20 #[.int .u8 c] w fun e w' => e = .returned (.int .i64 (hv c)) ∧ w = w' := by
  by_cases h1 : 48 ≤ c ∧ c ≤ 57
  · have d1 : decide ((48 : Int) ≤ c) = true := by simp; omega
    have d2 : decide ((c : Int) ≤ 57) = true := by simp; omega
    have hv1 : Hid (hv c = c - 48) := by unfold hv; rw [if_pos h1]; rfl
    go_enter Tryd.func20, Tryd.ntmps20
    go_wp2_with fail
    go_ret
    exact ⟨ret_int (by rw [hv1.out]; omega), rfl⟩
  · by_cases h2 : 97 ≤ c ∧ c ≤ 102
    · have d1 : decide ((48 : Int) ≤ c) = true := by simp; omega
      have d2 : decide ((c : Int) ≤ 57) = false := by simp; omega
      have d3 : decide ((97 : Int) ≤ c) = true := by simp; omega
      have d4 : decide ((c : Int) ≤ 102) = true := by simp; omega
      have hv1 : Hid (hv c = c - 87) := by unfold hv; rw [if_neg h1, if_pos h2]; rfl
      have hr : 97 ≤ c ∧ c ≤ 102 := h2
      clear h1 h2
      go_enter Tryd.func20, Tryd.ntmps20
      go_wp2_with fail
      go_ret
      exact ⟨ret_int (by rw [hv1.out]; omega), rfl⟩
    · have hv1 : Hid (hv c = 16) := by unfold hv; rw [if_neg h1, if_neg h2]; rfl
      by_cases c1 : 48 ≤ c
      · have d1 : decide ((48 : Int) ≤ c) = true := by simp; omega
        have d2 : decide ((c : Int) ≤ 57) = false := by simp; omega
        by_cases c2 : 97 ≤ c
        · have d3 : decide ((97 : Int) ≤ c) = true := by simp; omega
          have d4 : decide ((c : Int) ≤ 102) = false := by simp; omega
          clear h1 h2 c1 c2
          go_enter Tryd.func20, Tryd.ntmps20
          go_wp2_with fail
          go_ret
          exact ⟨ret_int (by rw [hv1.out]; rfl), rfl⟩
        · have d3 : decide ((97 : Int) ≤ c) = false := by simp; omega
          clear h1 h2 c1 c2
          go_enter Tryd.func20, Tryd.ntmps20
          go_wp2_with fail
          go_ret
          exact ⟨ret_int (by rw [hv1.out]; rfl), rfl⟩
      · have d1 : decide ((48 : Int) ≤ c) = false := by simp; omega
        have d3 : decide ((97 : Int) ≤ c) = false := by simp; omega
        clear h1 h2 c1
        go_enter Tryd.func20, Tryd.ntmps20
        go_wp2_with fail
        go_ret
        exact ⟨ret_int (by rw [hv1.out]; rfl), rfl⟩
set_option maxHeartbeats 400000 in
theorem refread_short (s : ByteArray) (_hs : s.size ≤ maxLen) (h64 : s.size ≠ 64) (w : World) :
    Calls Tryd.prog 10 #[.string s] w fun e w' => e = .returned (.tuple #[.agg z32, .bool false]) ∧ Below w.heap.size w w' := by
  unfold maxLen at _hs
  have hn : ((s.size : Int) != 64) = true := by simp; omega
  go_enter Tryd.func10, Tryd.ntmps10
  go_upto_region 3 with (fail)
  rw [z32_lit]
  go_wp2_with (refine wpList_store_row rfl 23 _ _ rfl w.heap.size z32 rfl rfl 23 z32 (heap_alloc2_old _ _ _) info23 rfl (u8s_one _) ?_)
  rw [setRow_alloc2]
  exact bodyPost_ret (results_cell_tmp_row Tryd.results10 _ _ w.heap.size 23 z32 _ _ _ rfl rfl (heap_alloc2_old _ _ _) Tryd.underlying23 rfl info23) rfl ⟨rfl, ((Below.refl _ _).alloc (Nat.le_refl _) _).alloc (by simp) _⟩
set_option maxHeartbeats 400000 in
theorem refread_long (s : ByteArray) (h64 : s.size = 64) (w : World) :
    Calls Tryd.prog 10 #[.string s] w fun e w' => e = .returned (.tuple #[.agg (readV (nats s)), .bool (readOk (nats s))]) ∧ Below w.heap.size w w' := by
  have hn : ((s.size : Int) != 64) = false := by simp; omega
  have H64 := Lib.hid h64
  have hl : s.size ≤ 64 := by omega
  have hl' : 64 ≤ s.size := by omega
  clear h64
  go_enter Tryd.func10, Tryd.ntmps10
  go_upto_region 4 with (fail)
  rw [z32_lit]
  go_wp2_with fail
  go_loopw [5] (fun i wr => ∃ k : Nat, k ≤ 64 ∧ i = .int .i64 k ∧ Hid (∀ j, j < k → hv ((nats s).getD j 0) < 16) ∧ wr = (w.alloc (.cells z32 23)).alloc (.cells (u8s (rd (nats s) k)) 23)) (fun i _ => 64 - (intOf i).toNat)
  case atStart => exact ⟨0, by omega, rfl, fun j hj => by omega, by rw [rd_zero]⟩
  case round =>
    obtain ⟨k, hk, rfl, hall, rfl⟩ := hrel
    by_cases hlt : k < s.size
    · have hd : decide ((k : Int) < 64) = true := by simp; omega
      have hb := s[k].toNat_lt
      have hge := Lib.hid (nats_getD s k hlt)
      by_cases hv16 : hv s[k].toNat < 16
      · have h16 : ((hv s[k].toNat : Int) == 16) = false := by simp; omega
        have hc := rd_cell (nats s) k (by omega)
        have hp := prev_lt (nats s) k hall.out
        have hst := Lib.hid (rd_step (nats s) k (by omega))
        generalize (if k % 2 = 1 then hv ((nats s).getD (k - 1) 0) else 0) = p at *
        rw [hge.out] at hst
        have hv0 : 0 ≤ (hv s[k].toNat : Int) := by omega
        have hv1 : (hv s[k].toNat : Int) < 16 := by omega
        go_wp2_with (go_at_call 20; refine (digit_any _ hb _).mono ?_; rintro e w' ⟨rfl, rfl⟩)
        go_roundw
        case rel =>
          refine ⟨k + 1, by omega, by go_num, fun j hj => ?_, ?_⟩
          · by_cases e : j = k
            · subst e; rw [hge.out]; exact hv16
            · exact hall.out j (by omega)
          · rw [← hst.out]; first | done | rfl | simp
        case measure => simp [intOf]; omega
      · have h16 : ((hv s[k].toNat : Int) == 16) = true := by have := hv_le s[k].toNat; simp; omega
        have hno := Lib.hid (readOk_no (nats s) k (by rw [nats_length]; exact hlt) (by rw [hge.out]; exact hv16))
        go_upto_if 20 with (go_at_call 20; refine (digit_any _ hb _).mono ?_; rintro e w' ⟨rfl, rfl⟩)
        go_wp2_with (refine wpList_store_row rfl 23 _ _ rfl w.heap.size z32 rfl rfl 23 z32 (heap_alloc2_old _ _ _) info23 rfl (u8s_one _) ?_)
        rw [setRow_alloc2]
        refine bodyPost_ret (results_cell_tmp_row Tryd.results10 _ _ w.heap.size 23 z32 _ _ _ rfl rfl (heap_alloc2_old _ _ _) Tryd.underlying23 rfl info23) rfl ⟨?_, ((Below.refl _ _).alloc (Nat.le_refl _) _).alloc (by simp) _⟩
        rw [readV, hno.out]; rfl
    · obtain rfl : k = 64 := by omega
      have hyes := Lib.hid (readOk_yes (nats s) (by rw [nats_length]; exact H64.out) hall.out)
      go_wp2_with (first | (refine wpList_load_row rfl 23 _ rfl (w.heap.size + 1) rfl 23 _ _ _ (heap_alloc2_new _ _ _) Tryd.underlying23 rfl (by rw [u8s_size, rd_length]; exact info23) ?_) | (refine wpList_store_row rfl 23 _ _ rfl w.heap.size (u8s (rd (nats s) 64)) rfl rfl 23 z32 (heap_alloc2_old _ _ _) (by rw [u8s_size, rd_length]; exact info23) (by rw [u8s_size, rd_length]; rfl) (u8s_one _) ?_))
      rw [setRow_alloc2]
      refine bodyPost_ret (results_cell_tmp_row Tryd.results10 _ _ w.heap.size 23 (u8s (rd (nats s) 64)) _ _ _ rfl rfl (heap_alloc2_old _ _ _) Tryd.underlying23 rfl (by rw [u8s_size, rd_length]; exact info23)) rfl ⟨?_, ((Below.refl _ _).alloc (Nat.le_refl _) _).alloc (by simp) _⟩
      rw [readV, hyes.out]; rfl
theorem refread_any (s : ByteArray) (hs : s.size ≤ maxLen) (w : World) :
    Calls Tryd.prog 10 #[.string s] w fun e w' => e = .returned (.tuple #[.agg (readV (nats s)), .bool (readOk (nats s))]) ∧ Below w.heap.size w w' := by
  by_cases h : s.size = 64
  · exact refread_long s h w
  · have hr := readOk_short (nats s) (by rw [nats_length]; exact h)
    rw [readV, hr]
    exact refread_short s hs h w
end Go.Proofs.YtmcjkciicbmdfaaDoor
