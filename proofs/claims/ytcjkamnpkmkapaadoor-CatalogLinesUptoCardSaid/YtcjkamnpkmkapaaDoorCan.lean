import Derived.Test.YtcjkamnpkmkapaaDoorRows
import Derived.Test.YtcjkamnpkmkapaaDoorShelf
import Derived.Test.YtcjkamnpkmkapaaDoorPlain
import Derived.WalkKit
import Derived.WalkSpells
import Derived.WalkLawsBesides
import Derived.Lib.Hide
import Derived.Deep.DeepCutAuto
namespace Go.Proofs.YtcjkamnpkmkapaaDoor
open Go.RowKit
def clampZ (x lo hi : Int) : Int := if x < lo then lo else if x > hi then hi else x
theorem clamp_any (x lo hi : Int) (w : World) :
    Calls Tryd.prog 23 #[.int .i64 x, .int .i64 lo, .int .i64 hi] w fun e w' => e = .returned (.int .i64 (clampZ x lo hi)) ∧ w = w' := by
  go_enter Tryd.func23, Tryd.ntmps23
  go_wp2
  all_goals go_ret
  all_goals (refine ⟨?_, rfl⟩; unfold clampZ; repeat' split) <;> first | rfl | omega
def Off.cells (o : Off) : Array Value := #[.string o.name, .int .i64 o.do_, .int .i64 o.undo, .int .i64 o.due, .int .i64 o.part, .int .i64 o.amend]
def canZ (o : Off) (tick clock : Int) : Bool := o.undo != -1 && (clampZ o.due 0 1073741824 == 0 || decide (clampZ clock 0 1073741824 ≤ clampZ tick 0 1073741824 + clampZ o.due 0 1073741824))
theorem clampZ_le (x : Int) : 0 ≤ clampZ x 0 1073741824 ∧ clampZ x 0 1073741824 ≤ 1073741824 := by unfold clampZ; split <;> (try split) <;> omega
theorem can_any (o : Off) (tick clock : Int) (w : World) :
    Calls Tryd.prog 12 #[.agg o.cells, .int .i64 tick, .int .i64 clock] w fun e w' => e = .returned (.bool (canZ o tick clock)) ∧ Below w.heap.size w w' := by
  unfold Off.cells
  have hb : ∀ ob, Below w.heap.size w (w.alloc ob) := fun ob => (Below.refl _ _).alloc (Nat.le_refl _) _
  have h1 := clampZ_le tick
  have h2 := clampZ_le clock
  have h3 := clampZ_le o.due
  have hR : canZ o tick clock = (o.undo != -1 && (clampZ o.due 0 1073741824 == 0 || decide (clampZ clock 0 1073741824 ≤ clampZ tick 0 1073741824 + clampZ o.due 0 1073741824))) := rfl
  have HR := Lib.hid hR
  clear hR
  go_enter Tryd.func12, Tryd.ntmps12
  go_wp2_with (first
    | (go_at_call 23; refine (clamp_any _ _ _ _).mono ?_; rintro e w' ⟨rfl, rfl⟩))
  all_goals go_ret
  all_goals refine ⟨?_, hb _⟩
  all_goals rw [HR.out]
  all_goals first | rfl | (simp_all; done) | (rename_i h; simp [h])
theorem nats_length (s : ByteArray) : (nats s).length = s.size := by simp [nats]
theorem nats_getD (s : ByteArray) (k : Nat) (h : k < s.size) : (nats s).getD k 0 = s[k].toNat := by
  have h' : k < s.data.toList.length := by simpa using h
  simp only [nats, List.getD, List.getElem?_map, List.getElem?_eq_getElem h', Option.map_some, Option.getD_some]
  rfl
end Go.Proofs.YtcjkamnpkmkapaaDoor
