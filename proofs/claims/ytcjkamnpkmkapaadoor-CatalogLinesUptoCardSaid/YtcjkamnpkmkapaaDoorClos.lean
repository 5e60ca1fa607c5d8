import Derived.Test.YtcjkamnpkmkapaaDoorSplit
import Derived.Test.YtcjkamnpkmkapaaDoorMaps
namespace Go.Proofs.YtcjkamnpkmkapaaDoor
open Go.RowKit
theorem numParse_t (s : ByteArray) (lo hi : Int) (w : World) (h0 : s.size ≤ 9223372036854775807) :
    Calls Tryd.prog 29 #[.string s, .int .i64 lo, .int .i64 hi] w fun e w' => e = .returned (.tuple #[.int .i64 ((numP s.data.toList lo hi).getD 0), .bool (numP s.data.toList lo hi).isSome]) ∧ Below w.heap.size w w' := numParse_any s lo hi w h0
theorem mk_any (a : Addr) (w : World) : Calls Tryd.prog 27 #[.pointer (some a)] w fun e w' => e = .returned (.func (.func 28) #[] #[.pointer (some ⟨w.heap.size, 0, none⟩)]) ∧ w' = w.alloc (.cells #[.pointer (some a)] 74) := by
  go_enter Tryd.func27, Tryd.ntmps27
  go_wp2_with fail
  go_ret
  exact ⟨rfl, rfl⟩
/-- a cell is set; what was there is else as it was, and the rest is new -/
def SetRet (w : World) (a : Addr) (r : Option Int) (e : Ending) (w' : World) : Prop :=
  e = .returned (.bool r.isSome) ∧ ∃ w1, Below w.heap.size w w1 ∧ w' = w1.setCell a (.int .i64 (r.getD 0))
theorem cost_no (s : ByteArray) (a p : Addr) (w : World) (hp : w.cell? p = some (.pointer (some a))) (u : Value) (ha : w.cell? a = some u) (hf : w.frozen? a = false) (hs : s.size ≤ 9223372036854775807) (he : s.data.toList ≠ [45]) :
    Calls Tryd.prog 28 #[.string s, .pointer (some p)] w (SetRet w a (costP s.data.toList)) := by
  have e1 : (s.toList == [45]) = false := by rw [ByteArray.toList_eq, beq_eq_false_iff_ne]; exact he
  have HC : Hid (costP s.data.toList = numP s.data.toList 0 1048576) := by unfold costP; rw [if_neg he]; rfl
  have hpl := World.block_lt_of_cell? w p hp
  have hal := World.block_lt_of_cell? w a ha
  clear he
  go_enter Tryd.func28, Tryd.ntmps28
  go_wp2_with (first | (go_at_call 29; refine (numParse_t _ _ _ _ hs).mono ?_; rintro e w1 ⟨rfl, hb⟩; have hp1 := (hb.cell hpl).trans hp; have ha1 := (hb.cell hal).trans ha; have hf1 := (hb.frozen hal).trans hf))
  go_ret
  exact ⟨by rw [HC.out]; rfl, w1, hb, by rw [HC.out]⟩
theorem cost_dash (s : ByteArray) (a p : Addr) (w : World) (hp : w.cell? p = some (.pointer (some a))) (u : Value) (ha : w.cell? a = some u) (hf : w.frozen? a = false) (he : s.data.toList = [45]) :
    Calls Tryd.prog 28 #[.string s, .pointer (some p)] w (SetRet w a (costP s.data.toList)) := by
  have e1 : (s.toList == [45]) = true := by rw [ByteArray.toList_eq, beq_iff_eq]; exact he
  have HC : Hid (costP s.data.toList = some (-1)) := by unfold costP; rw [if_pos he]; rfl
  clear he
  go_enter Tryd.func28, Tryd.ntmps28
  go_wp2_with fail
  go_ret
  exact ⟨by rw [HC.out]; rfl, w, Below.refl _ _, by rw [HC.out]; rfl⟩
theorem cost_any (s : ByteArray) (a p : Addr) (w : World) (hp : w.cell? p = some (.pointer (some a))) (u : Value) (ha : w.cell? a = some u) (hf : w.frozen? a = false) (hs : s.size ≤ 9223372036854775807) :
    Calls Tryd.prog 28 #[.string s, .pointer (some p)] w (SetRet w a (costP s.data.toList)) := by
  by_cases he : s.data.toList = [45]
  · exact cost_dash s a p w hp u ha hf he
  · exact cost_no s a p w hp u ha hf hs he
theorem due_any (s : ByteArray) (b : Nat) (w : World) (u : Value) (ha : w.cell? ⟨b, 3, none⟩ = some u) (hf : w.frozen? ⟨b, 3, none⟩ = false) (hs : s.size ≤ 9223372036854775807) :
    Calls Tryd.prog 30 #[.string s, .pointer (some ⟨b, 0, none⟩)] w (SetRet w ⟨b, 3, none⟩ (numP s.data.toList 0 1073741824)) := by
  have hal := World.block_lt_of_cell? w _ ha
  go_enter Tryd.func30, Tryd.ntmps30
  go_wp2_with (first | (go_at_call 29; refine (numParse_t _ _ _ _ hs).mono ?_; rintro e w1 ⟨rfl, hb⟩; have ha1 := (hb.cell hal).trans ha; have hf1 := (hb.frozen hal).trans hf))
  go_ret
  exact ⟨rfl, w1, hb, rfl⟩
end Go.Proofs.YtcjkamnpkmkapaaDoor
