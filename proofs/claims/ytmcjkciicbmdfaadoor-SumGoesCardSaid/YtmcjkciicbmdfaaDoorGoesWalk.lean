import Derived.Test.YtmcjkciicbmdfaaDoorSmall
namespace Go.Proofs.YtmcjkciicbmdfaaDoor
open Go.RowKit SumMath
theorem nats_append (a b : ByteArray) : nats (a ++ b) = nats a ++ nats b := by simp [nats]
theorem nats_bytes (a : ByteArray) : ∀ x ∈ nats a, x < 256 := bytes_lt _
theorem goes_bool (a b c : ByteArray) : ((((crc (nats a) : Nat) : Int) == ((crc (nats b) : Nat) : Int)) == (((crc (nats a ++ nats c) : Nat) : Int) == ((crc (nats b ++ nats c) : Nat) : Int))) = true := by
  have h := goes (nats a) (nats b) (nats c) (nats_bytes a) (nats_bytes b) (nats_bytes c)
  by_cases e : crc (nats a) = crc (nats b)
  · have e2 := h.1 e; simp [e, e2]
  · have e2 : ¬ crc (nats a ++ nats c) = crc (nats b ++ nats c) := fun q => e (h.2 q)
    have i1 : ¬ ((crc (nats a) : Nat) : Int) = (crc (nats b) : Nat) := by omega
    have i2 : ¬ ((crc (nats a ++ nats c) : Nat) : Int) = (crc (nats b ++ nats c) : Nat) := by omega
    rw [beq_eq_false_iff_ne.2 i1, beq_eq_false_iff_ne.2 i2]; rfl
set_option maxRecDepth 100000 in
set_option maxHeartbeats 1000000 in
theorem goes_long (a b c : ByteArray) (h : 1000 < a.size ∨ 1000 < b.size ∨ 1000 < c.size) (w : World) (hR : Rounds w) :
    Calls Tryd.prog 5 #[.string a, .string b, .string c] w fun e w' => e = .returned (.bool true) ∧ Below w.heap.size w w' := by
  by_cases ha : 1000 < a.size
  · have d1 : decide ((1000 : Int) < a.size) = true := by simp; omega
    go_enter Tryd.func5, Tryd.ntmps5
    go_wp2_with (go_at_call 8; refine (small_any _ hR).mono ?_; rintro e w1 ⟨rfl, b1⟩)
    go_ret
    exact ⟨rfl, b1⟩
  · have d1 : decide ((1000 : Int) < a.size) = false := by simp; omega
    by_cases hb : 1000 < b.size
    · have d2 : decide ((1000 : Int) < b.size) = true := by simp; omega
      go_enter Tryd.func5, Tryd.ntmps5
      go_wp2_with (go_at_call 8; refine (small_any _ hR).mono ?_; rintro e w1 ⟨rfl, b1⟩)
      go_ret
      exact ⟨rfl, b1⟩
    · have d2 : decide ((1000 : Int) < b.size) = false := by simp; omega
      have d3 : decide ((1000 : Int) < c.size) = true := by simp; omega
      go_enter Tryd.func5, Tryd.ntmps5
      go_wp2_with (go_at_call 8; refine (small_any _ hR).mono ?_; rintro e w1 ⟨rfl, b1⟩)
      go_ret
      exact ⟨rfl, b1⟩
set_option maxRecDepth 100000 in
set_option maxHeartbeats 1000000 in
theorem goes_short (a b c : ByteArray) (ha : a.size ≤ 1000) (hb : b.size ≤ 1000) (hc : c.size ≤ 1000) (w : World) (hR : Rounds w) :
    Calls Tryd.prog 5 #[.string a, .string b, .string c] w fun e w' => e = .returned (.bool true) ∧ Below w.heap.size w w' := by
  have d1 : decide ((1000 : Int) < a.size) = false := by simp; omega
  have d2 : decide ((1000 : Int) < b.size) = false := by simp; omega
  have d3 : decide ((1000 : Int) < c.size) = false := by simp; omega
  have hfin := Lib.hid (goes_bool a b c)
  have m1 : (a ++ c).size ≤ maxLen := by rw [ByteArray.size_append]; unfold maxLen; omega
  have m2 : (b ++ c).size ≤ maxLen := by rw [ByteArray.size_append]; unfold maxLen; omega
  have M1 := Lib.hid m1
  have M2 := Lib.hid m2
  clear m1 m2
  go_enter Tryd.func5, Tryd.ntmps5
  go_wp2_with (go_at_call 8; refine (small_any _ hR).mono ?_; rintro e w1 ⟨rfl, b1⟩)
  refine (crc_any a (by unfold maxLen; omega) _).mono ?_
  rintro e w2 ⟨rfl, b2⟩
  go_wp2_with fail
  refine (crc_any b (by unfold maxLen; omega) _).mono ?_
  rintro e w3 ⟨rfl, b3⟩
  go_wp2_with fail
  refine (crc_any (a ++ c) M1.out _).mono ?_
  rintro e w4 ⟨rfl, b4⟩
  go_wp2_with fail
  refine (crc_any (b ++ c) M2.out _).mono ?_
  rintro e w5 ⟨rfl, b5⟩
  go_wp2_with fail
  go_ret
  exact ⟨congrArg (fun x => Ending.returned (.bool x)) hfin.out, below_then b1 (below_then b2 (below_then b3 (below_then b4 b5)))⟩
end Go.Proofs.YtmcjkciicbmdfaaDoor
