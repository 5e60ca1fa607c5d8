import Derived.Test.YtmcjkciicbmdfaaDoorSmall
import Derived.Deep.RegionHeld3
import Derived.Deep.AppendLies
namespace Go.Proofs.YtmcjkciicbmdfaaDoor
open Go.RowKit SumMath
set_option maxHeartbeats 400000 in
/-- the reference's Crc is the same function -/
theorem refcrc_any (s : ByteArray) (hs : s.size ≤ maxLen) (w : World) :
    Calls Tryd.prog 12 #[.string s] w fun e w' => e = .returned (.int .u32 (crc (nats s))) ∧ w = w' := by
  unfold maxLen at hs
  go_enter Tryd.func12, Tryd.ntmps12
  go_wp2_with fail
  go_loop [3, 4] (fun c i => ∃ k : Nat, k ≤ s.size ∧ i = .int .i64 k ∧ c = .int .u32 (crcTo 4294967295 ((nats s).take k))) (fun _ i => s.size - (intOf i).toNat)
  case atStart => exact ⟨0, by omega, rfl, rfl⟩
  case round =>
    obtain ⟨k, hk, rfl, rfl⟩ := hrel
    by_cases hlt : k < s.size
    · have hd : decide ((k : Int) < s.size) = true := by simp; omega
      have hsn : Hid (crcTo 4294967295 ((nats s).take (k + 1)) = byt (crcTo 4294967295 ((nats s).take k)) s[k].toNat) := by
        have h := crc_snoc s k hlt
        rw [List.map_take, List.map_take] at h
        exact h
      have hc0 := crcTo_lt ((nats s).take k) 4294967295 (by decide) (fun b hb => bytes_lt _ b (List.mem_of_mem_take hb))
      generalize crcTo 4294967295 ((nats s).take k) = c at *
      have hb := s[k].toNat_lt
      have hx0 : c ^^^ s[k].toNat < 4294967296 := Nat.xor_lt_two_pow (n := 32) hc0 (by omega)
      have hx := u32_xor_nat c s[k].toNat hc0 (by omega)
      rw [byt_eq] at hsn
      generalize c ^^^ s[k].toNat = x at *
      go_wp2_with fail
      go_loop [3, 5] (fun c j => ∃ n : Nat, n ≤ 8 ∧ j = .int .i64 n ∧ c = .int .u32 (stps n x)) (fun _ j => 8 - (intOf j).toNat)
      case atStart => exact ⟨0, by omega, rfl, rfl⟩
      case round =>
        obtain ⟨n, hn, rfl, rfl⟩ := hrel
        have hy := stps_lt n x 32 (by decide) hx0
        have hnx := Lib.hid (stps_succ n x)
        generalize hye : stps n x = y at *
        have Hye := Lib.hid hye
        clear hye
        by_cases hl8 : n < 8
        · have hd8 : decide ((n : Int) < 8) = true := by simp; omega
          by_cases hodd : y % 2 = 1
          · have ho : ((y : Int) % 2 == 1) = true := by simp; omega
            have hxx := u32_xor_nat (y / 2) 2197175160 (by omega) (by omega)
            have hxx : bits .xor .u32 ((y : Int) / 2) 2197175160 = ((y / 2 ^^^ 2197175160 : Nat) : Int) := by simpa using hxx
            rw [stp, if_pos hodd] at hnx
            clear hodd
            go_wp2_with fail
            go_round
            case rel => exact ⟨n + 1, by omega, by go_num, by rw [hnx.out]⟩
            case measure => simp [intOf]; omega
          · have ho : ((y : Int) % 2 == 1) = false := by simp; omega
            rw [stp, if_neg hodd] at hnx
            clear hodd
            go_wp2_with fail
            go_round
            case rel => exact ⟨n + 1, by omega, by go_num, by rw [hnx.out]; simp⟩
            case measure => simp [intOf]; omega
        · obtain rfl : n = 8 := by omega
          have hd8 : decide ((8 : Int) < 8) = false := by decide
          go_wp2_with fail
          go_round
          case rel => exact ⟨k + 1, by omega, by go_num, by rw [hsn.out, Hye.out]⟩
          case measure => simp [intOf]; omega
    · obtain rfl : k = s.size := by omega
      have hd : decide ((s.size : Int) < s.size) = false := by simp
      have hc0 := crcTo_lt ((nats s).take s.size) 4294967295 (by decide) (fun b hb => bytes_lt _ b (List.mem_of_mem_take hb))
      have hx := u32_xor_nat _ 4294967295 hc0 (by decide)
      have hx : bits .xor .u32 ((crcTo 4294967295 ((nats s).take s.size) : Nat) : Int) 4294967295 = ((crcTo 4294967295 ((nats s).take s.size) ^^^ 4294967295 : Nat) : Int) := by simpa using hx
      have hfin : Hid (crc (nats s) = crcTo 4294967295 ((nats s).take s.size) ^^^ 4294967295) := by
        rw [List.take_of_length_le (by rw [nats_length]; omega), crc, Nat.xor_comm]; rfl
      go_wp2_with fail
      go_ret
      exact ⟨ret_int (by rw [hfin.out]), rfl⟩
set_option maxHeartbeats 400000 in
theorem refless_any (a b : List Nat) (ha : a.length = 32) (hb : b.length = 32) (w : World) :
    Calls Tryd.prog 18 #[.agg (u8s a), .agg (u8s b)] w fun e w' => e = .returned (.bool (lessL a b)) ∧ Below w.heap.size w w' := by
  have Ha := Lib.hid ha
  have Hb := Lib.hid hb
  clear ha hb
  go_enter Tryd.func18, Tryd.ntmps18
  go_wp2_with fail
  go_loopw [5] (fun i wr => ∃ k : Nat, k ≤ 32 ∧ i = .int .i64 k ∧ Hid (∀ j, j < k → a.getD j 0 = b.getD j 0) ∧ Hid (wr.heap[w.heap.size]? = some (.cells (u8s a) 23)) ∧ Hid (wr.heap[w.heap.size + 1]? = some (.cells (u8s b) 23)) ∧ Below w.heap.size w wr) (fun i _ => 32 - (intOf i).toNat)
  case atStart => exact ⟨0, by omega, rfl, fun j hj => by omega, heap_alloc2_old _ _ _, heap_alloc2_new _ _ _, ((Below.refl _ _).alloc (Nat.le_refl _) _).alloc (by simp) _⟩
  case round =>
    obtain ⟨k, hk, rfl, hall, g1, g2, hbel⟩ := hrel
    by_cases hlt : k < 32
    · have hdk : decide ((k : Int) < 32) = true := by simp; omega
      have c1 := (cell_of_row wr w.heap.size k _ _ _ g1.out).trans (u8s_at a k (by rw [Ha.out]; exact hlt))
      have c2 := (cell_of_row wr (w.heap.size + 1) k _ _ _ g2.out).trans (u8s_at b k (by rw [Hb.out]; exact hlt))
      by_cases hne : a.getD k 0 = b.getD k 0
      · have hall' := Lib.hid (lt_succ_all k hall.out hne)
        generalize a.getD k 0 = x at *
        generalize b.getD k 0 = y at *
        subst hne
        have hq : ((x : Int) != (x : Int)) = false := by simp
        clear hall
        go_wp2_with fail
        go_quiet (fail)
        go_wp2_with fail
        go_roundw
        case rel => exact ⟨k + 1, by omega, by go_num, hall', g1, g2, below_drewN hbel _⟩
        case measure => simp [intOf]; omega
      · have hat := Lib.hid (lessL_at k a b (by rw [Ha.out, Hb.out]) hall.out (by rw [Ha.out]; exact hlt) hne)
        generalize a.getD k 0 = x at *
        generalize b.getD k 0 = y at *
        have hq : ((x : Int) != (y : Int)) = true := by simp; omega
        clear hall
        go_wp2_with fail
        go_quiet (fail)
        go_wp2_with fail
        go_quiet (fail)
        go_wp2_with fail
        go_ret
        exact ⟨by rw [hat.out]; rfl, below_drewN (below_drewN hbel _) _⟩
    · obtain rfl : k = 32 := by omega
      have he := Lib.hid (lessL_end a b (by rw [Ha.out, Hb.out]) (by rw [Ha.out]; exact hall.out))
      clear hall
      go_wp2_with fail
      go_ret
      exact ⟨by rw [he.out]; rfl, hbel⟩
end Go.Proofs.YtmcjkciicbmdfaaDoor
