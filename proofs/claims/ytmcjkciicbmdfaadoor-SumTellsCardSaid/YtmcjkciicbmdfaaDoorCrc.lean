import Derived.Test.YtmcjkciicbmdfaaDoorRows
import Derived.Test.YtmcjkciicbmdfaaDoorMath
import Derived.WalkKit
import Derived.WalkSpells
import Derived.WalkLawsBesides
import Derived.Lib.Hide
namespace Go.Proofs.YtmcjkciicbmdfaaDoor
open Go.RowKit SumMath
theorem ret_int {k : IntKind} {a b : Int} (h : a = b) : Ending.returned (.int k a) = .returned (.int k b) := by rw [h]
set_option maxHeartbeats 400000 in
theorem step_any (c : Nat) (hc : c < 4294967296) (w : World) :
    Calls Tryd.prog 21 #[.int .u32 c] w fun e w' => e = .returned (.int .u32 (stp c)) ∧ w = w' := by
  go_enter Tryd.func21, Tryd.ntmps21
  go_wp2
  all_goals go_ret
  · rename_i h
    have h1 : c % 2 = 1 := by simp at h; omega
    refine ⟨ret_int ?_, rfl⟩
    rw [stp, if_pos h1]
    have := u32_xor_nat (c / 2) 2197175160 (by omega) (by omega)
    simpa using this
  · rename_i h
    have h1 : ¬ c % 2 = 1 := by simp at h; omega
    refine ⟨ret_int ?_, rfl⟩
    rw [stp, if_neg h1]
    simp

def u32s (l : List Nat) : Array Value := (l.map fun (n : Nat) => Value.int .u32 n).toArray
/-- the table after k rounds -/
def fourTo (k : Nat) : List Nat := (List.range 16).map fun j => if j < k then four j else 0
theorem four_step (k : Nat) (h : k < 16) : (u32s (fourTo k)).setIfInBounds k (.int .u32 (four k)) = u32s (fourTo (k + 1)) := by
  apply Array.ext_getElem?
  intro i
  simp only [u32s, fourTo, Array.getElem?_setIfInBounds, List.getElem?_toArray, List.getElem?_map, List.size_toArray, List.length_map, List.length_range]
  by_cases hi : i < 16
  · simp only [List.getElem?_range hi, Option.map_some]
    by_cases e : k = i
    · subst e; simp [h]
    · simp [e, show (i < k + 1) ↔ i < k by omega]
  · simp [hi, show k ≠ i by omega]
theorem four_start : #[Value.int IntKind.u32 0, Value.int IntKind.u32 0, Value.int IntKind.u32 0, Value.int IntKind.u32 0,
      Value.int IntKind.u32 0, Value.int IntKind.u32 0, Value.int IntKind.u32 0, Value.int IntKind.u32 0,
      Value.int IntKind.u32 0, Value.int IntKind.u32 0, Value.int IntKind.u32 0, Value.int IntKind.u32 0,
      Value.int IntKind.u32 0, Value.int IntKind.u32 0, Value.int IntKind.u32 0, Value.int IntKind.u32 0] = u32s (fourTo 0) := rfl
theorem four_cell (k : Nat) (h : k < 16) : ∃ v, (u32s (fourTo k))[k]? = some v := by simp [u32s, fourTo, h]
theorem four_end (j : Nat) (h : j < 16) : (u32s (fourTo 16))[j]? = some (.int .u32 (four j)) := by simp [u32s, fourTo, h]
theorem stps_succ (n c : Nat) : stps (n + 1) c = stp (stps n c) := by rw [stps_add]; rfl

theorem bytes_lt (l : List UInt8) : ∀ b ∈ l.map UInt8.toNat, b < 256 := by
  intro b hb
  obtain ⟨x, _, rfl⟩ := List.mem_map.1 hb
  exact x.toNat_lt
theorem take_snoc (s : ByteArray) (k : Nat) (h : k < s.size) : s.data.toList.take (k + 1) = s.data.toList.take k ++ [s[k]] := by
  rw [List.take_succ_eq_append_getElem (by simpa using h)]; rfl
theorem crc_snoc (s : ByteArray) (k : Nat) (h : k < s.size) : crcTo 4294967295 ((s.data.toList.take (k + 1)).map UInt8.toNat) = byt (crcTo 4294967295 ((s.data.toList.take k).map UInt8.toNat)) s[k].toNat := by
  rw [take_snoc s k h, List.map_append, crcTo_append]; rfl
theorem nib_parts (x : Nat) (hx : x < 4294967296) : ∃ m f y : Nat, m < 16 ∧ f < 4294967296 ∧ y < 4294967296 ∧ bits .and .u32 (x : Int) 15 = (m : Int) ∧ (u32s (fourTo 16))[m]? = some (.int .u32 f) ∧ bits .xor .u32 ((x : Int) / 16) (f : Int) = (y : Int) ∧ Hid (y = nib x) := by
  have hf : four (x % 16) < 4294967296 := stps_lt 4 (x % 16) 32 (by decide) (by omega)
  refine ⟨x % 16, four (x % 16), nib x, by omega, hf, ?_, ?_, four_end _ (by omega), ?_, rfl⟩
  · exact Nat.xor_lt_two_pow (n := 32) (by omega) hf
  · have := u32_and_nat x 15 hx (by decide)
    rw [nat_mask4] at this
    simpa using this
  · have := u32_xor_nat (x / 16) (four (x % 16)) (by omega) hf
    simpa [nib] using this
set_option maxHeartbeats 400000 in
theorem crc_any (s : ByteArray) (hs : s.size ≤ maxLen) (w : World) :
    Calls Tryd.prog 11 #[.string s] w fun e w' => e = .returned (.int .u32 (crc (s.data.toList.map UInt8.toNat))) ∧ Below w.heap.size w w' := by
  unfold maxLen at hs
  go_enter Tryd.func11, Tryd.ntmps11
  go_wp2
  rw [four_start]
  go_loopw [8] (fun i wr => ∃ k : Nat, k ≤ 16 ∧ i = .int .i64 k ∧ wr = w.alloc (.cells (u32s (fourTo k)) 42)) (fun i _ => 16 - (intOf i).toNat)
  case atStart => exact ⟨0, by omega, rfl, rfl⟩
  case round =>
    obtain ⟨k, hk, rfl, rfl⟩ := hrel
    by_cases hlt : k < 16
    · have hd : decide ((k : Int) < 16) = true := by simp; omega
      go_wp2
      go_loop [5, 13] (fun c j => ∃ n : Nat, n ≤ 4 ∧ j = .int .i64 n ∧ c = .int .u32 (stps n k)) (fun _ j => 4 - (intOf j).toNat)
      case atStart => exact ⟨0, by omega, rfl, rfl⟩
      case round =>
        obtain ⟨n, hn, rfl, rfl⟩ := hrel
        have hb := stps_lt n k 32 (by decide) (by omega)
        by_cases hlt4 : n < 4
        · go_wp2_with (go_at_call 21; refine (step_any _ (by assumption) _).mono ?_; rintro e w' ⟨rfl, rfl⟩)
          go_round
          case rel => exact ⟨n + 1, by omega, by go_num, by rw [stps_succ]⟩
          case measure => simp [intOf]; omega
        · obtain rfl : n = 4 := by omega
          obtain ⟨v, hv⟩ := four_cell k hlt
          have hstep := Lib.hid (four_step k hlt)
          have hc : (w.alloc (.cells (u32s (fourTo k)) 42)).cell? ⟨w.heap.size, k, none⟩ = some v := by simp [hv]
          clear hv
          go_wp2
          go_roundw
          case rel => exact ⟨k + 1, by omega, by go_num, by rw [← hstep.out]; rfl⟩
          case measure => simp [intOf]; omega
    · obtain rfl : k = 16 := by omega
      clear hlt
      go_wp2
      go_loop [6, 24] (fun c i => ∃ k : Nat, k ≤ s.size ∧ i = .int .i64 k ∧ c = .int .u32 (crcTo 4294967295 ((s.data.toList.take k).map UInt8.toNat))) (fun _ i => s.size - (intOf i).toNat)
      case atStart => exact ⟨0, by omega, rfl, rfl⟩
      case round =>
        obtain ⟨k, hk, rfl, rfl⟩ := hrel
        by_cases hlt : k < s.size
        · have hd : decide ((k : Int) < s.size) = true := by simp; omega
          have hsn := Lib.hid (crc_snoc s k hlt)
          have hc0 := crcTo_lt ((s.data.toList.take k).map UInt8.toNat) 4294967295 (by decide) (bytes_lt _)
          generalize crcTo 4294967295 ((s.data.toList.take k).map UInt8.toNat) = c at *
          have hb := s[k].toNat_lt
          have hx0 : c ^^^ s[k].toNat < 4294967296 := Nat.xor_lt_two_pow (n := 32) hc0 (by omega)
          have hx := u32_xor_nat c s[k].toNat hc0 (by omega)
          generalize hxe : c ^^^ s[k].toNat = x at *
          have Hxe := Lib.hid hxe
          clear hxe
          obtain ⟨m, f, y, m1, f1, y1, a1, c1, b1, hy⟩ := nib_parts x hx0
          obtain ⟨m', f', z, m2, f2, z2, a2, c2, b2, hz⟩ := nib_parts y y1
          go_wp2
          go_round
          case rel => exact ⟨k + 1, by omega, by go_num, by rw [hsn.out, byt, Hxe.out, ← hy.out, ← hz.out]⟩
          case measure => simp [intOf]; omega
        · obtain rfl : k = s.size := by omega
          have hc0 := crcTo_lt ((s.data.toList.take s.size).map UInt8.toNat) 4294967295 (by decide) (bytes_lt _)
          have hx := u32_xor_nat 4294967295 _ (by decide) hc0
          go_wp2
          go_ret
          refine ⟨ret_int ?_, (Below.refl _ _).alloc (Nat.le_refl _) _⟩
          rw [List.map_take, List.take_of_length_le (by simp)] at hx
          rw [List.take_of_length_le (by simp)]
          exact hx
end Go.Proofs.YtmcjkciicbmdfaaDoor
