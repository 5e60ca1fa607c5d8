import Derived.Test.YtcjkamnpkmkapaaDoorBuild
import Derived.Test.YtcjkamnpkmkapaaDoorCards
import Derived.Test.YtcjkamnpkmkapaaDoorTie
import Derived.ProofKit
import Derived.OpenShut
import Derived.ShutString
import Derived.Carry
import Derived.Deep.DeepHandedRow
import Derived.Deep.Fields
import Derived.Deep.Slices
import Derived.Lib.LaidTab
import Derived.LaidSub
namespace Go.Proofs.YtcjkamnpkmkapaaDoor
open Go.ChangeShapes Go.WideShapes Go.ChangeAt Go.RowKit Go.Deep
theorem own : ownKnob Tryd.prog.godebug = none := by kernel_rfl
theorem laidOut : laidOutB Tryd.prog = true := by kernel_rfl
theorem gTab : Tryd.prog.globalNamed "internal/strconv.uint64pow10" = some 1 := by kernel_rfl
theorem gTab32 : Tryd.prog.globalNamed "math/bits.deBruijn32tab" = some 2 := by kernel_rfl
theorem gTab64 : Tryd.prog.globalNamed "math/bits.deBruijn64tab" = some 3 := by kernel_rfl
theorem gTabType : (Tryd.prog.globals[1]?).map (·.type) = some 91 := by kernel_rfl
theorem cells91 : Tryd.prog.cellsOf 91 = 20 := by kernel_rfl
theorem cells84 : Tryd.prog.cellsOf 84 = 1 := by kernel_rfl
def twenty (x : String × DataW Unit) : Bool := match x.2 with | .agg l => l.length == 20 | _ => false
theorem tab_of {W : World} (h : laidMetH Tryd.prog Rows.catalogDueRow.laid W) : Tab W :=
  Lib.tabIs_of_head (rest := []) gTab gTabType Tryd.underlying91 Tryd.underlying84 cells84 cells91 (h.filter twenty)
def layT (g : Nat) (cs : Array Value) (h : Array Obj) : Array Obj := h.modify g fun
  | .cells _ t frozen => .cells cs t frozen
  | o => o
/-- A world for the witness: the settled one, the tables holding what their initialisers lay. -/
noncomputable def laidWorld (os : Os) : World :=
  { World.holding Tryd.prog os ⟨#[], #[], []⟩ with heap := layT 1 #[.int .u64 1, .int .u64 10, .int .u64 100, .int .u64 1000, .int .u64 10000, .int .u64 100000, .int .u64 1000000, .int .u64 10000000, .int .u64 100000000, .int .u64 1000000000, .int .u64 10000000000, .int .u64 100000000000, .int .u64 1000000000000, .int .u64 10000000000000, .int .u64 100000000000000, .int .u64 1000000000000000, .int .u64 10000000000000000, .int .u64 100000000000000000, .int .u64 1000000000000000000, .int .u64 10000000000000000000] (layT 2 #[.int .u8 0, .int .u8 1, .int .u8 28, .int .u8 2, .int .u8 29, .int .u8 14, .int .u8 24, .int .u8 3, .int .u8 30, .int .u8 22, .int .u8 20, .int .u8 15, .int .u8 25, .int .u8 17, .int .u8 4, .int .u8 8, .int .u8 31, .int .u8 27, .int .u8 13, .int .u8 23, .int .u8 21, .int .u8 19, .int .u8 16, .int .u8 7, .int .u8 26, .int .u8 12, .int .u8 18, .int .u8 6, .int .u8 11, .int .u8 5, .int .u8 10, .int .u8 9] (layT 3 #[.int .u8 0, .int .u8 1, .int .u8 56, .int .u8 2, .int .u8 57, .int .u8 49, .int .u8 28, .int .u8 3, .int .u8 61, .int .u8 58, .int .u8 42, .int .u8 50, .int .u8 38, .int .u8 29, .int .u8 17, .int .u8 4, .int .u8 62, .int .u8 47, .int .u8 59, .int .u8 36, .int .u8 45, .int .u8 43, .int .u8 51, .int .u8 22, .int .u8 53, .int .u8 39, .int .u8 33, .int .u8 30, .int .u8 24, .int .u8 18, .int .u8 12, .int .u8 5, .int .u8 63, .int .u8 55, .int .u8 48, .int .u8 27, .int .u8 60, .int .u8 41, .int .u8 37, .int .u8 16, .int .u8 46, .int .u8 35, .int .u8 44, .int .u8 21, .int .u8 52, .int .u8 32, .int .u8 23, .int .u8 11, .int .u8 54, .int .u8 26, .int .u8 40, .int .u8 15, .int .u8 34, .int .u8 20, .int .u8 31, .int .u8 10, .int .u8 25, .int .u8 14, .int .u8 19, .int .u8 9, .int .u8 13, .int .u8 8, .int .u8 7, .int .u8 6] (World.holding Tryd.prog os ⟨#[], #[], []⟩).heap)) }
section
variable {H : Type} {enc : TypeId × Value → H} {w : World} {base : Nat} {spare : Nat → Bool} {held : Bool}
theorem one32 : oneCellFields Tryd.prog #[{ name := "Name", type := 9, offset := 0, embedded := false, tag := "", pkgPath := "", byteOffset := 0 }, { name := "Do", type := 3, offset := 1, embedded := false, tag := "", pkgPath := "", byteOffset := 16 }, { name := "Undo", type := 3, offset := 2, embedded := false, tag := "", pkgPath := "", byteOffset := 24 }, { name := "Due", type := 3, offset := 3, embedded := false, tag := "", pkgPath := "", byteOffset := 32 }, { name := "Part", type := 3, offset := 4, embedded := false, tag := "", pkgPath := "", byteOffset := 40 }, { name := "Amend", type := 3, offset := 5, embedded := false, tag := "", pkgPath := "", byteOffset := 48 }] = true := by kernel_rfl
theorem cells32 : Tryd.prog.cellsOf 32 = 6 := by kernel_rfl
set_option maxRecDepth 100000 in
/-- six cells that read as an entry are an entry's, and lead to no place -/
theorem cells_off {fuel : Nat} {cs : List Value} {x : DataW H × List MemPlace} (hl : cs.length = 6) (h : DataW.trod enc Tryd.prog w base spare held fuel 32 cs = some x) :
    ∃ o : Off, cs = o.cells.toList ∧ x.2 = [] ∧ o.name.size ≤ maxLen := by
  obtain ⟨xs, n, _, hx, _, hlen, hg⟩ := DataW.trod_struct Tryd.underlying32 h
  match cs, hl with
  | [c0, c1, c2, c3, c4, c5], _ =>
    match xs, hlen with
    | [y0, y1, y2, y3, y4, y5], _ =>
      obtain ⟨o0, k0⟩ := hone_of one32 0 _ rfl
      obtain ⟨o1, k1⟩ := hone_of one32 1 _ rfl
      obtain ⟨o2, k2⟩ := hone_of one32 2 _ rfl
      obtain ⟨o3, k3⟩ := hone_of one32 3 _ rfl
      obtain ⟨o4, k4⟩ := hone_of one32 4 _ rfl
      obtain ⟨o5, k5⟩ := hone_of one32 5 _ rfl
      have g0 := hg 0 _ rfl
      have g1 := hg 1 _ rfl
      have g2 := hg 2 _ rfl
      have g3 := hg 3 _ rfl
      have g4 := hg 4 _ rfl
      have g5 := hg 5 _ rfl
      rw [o0, k0] at g0
      rw [o1, k1] at g1
      rw [o2, k2] at g2
      rw [o3, k3] at g3
      rw [o4, k4] at g4
      rw [o5, k5] at g5
      obtain ⟨s, e0, z0, hs⟩ := DataW.trod_string Tryd.underlying9 g0
      obtain ⟨a1, e1, z1, _⟩ := DataW.trod_int Tryd.underlying3 g1
      obtain ⟨a2, e2, z2, _⟩ := DataW.trod_int Tryd.underlying3 g2
      obtain ⟨a3, e3, z3, _⟩ := DataW.trod_int Tryd.underlying3 g3
      obtain ⟨a4, e4, z4, _⟩ := DataW.trod_int Tryd.underlying3 g4
      obtain ⟨a5, e5, z5, _⟩ := DataW.trod_int Tryd.underlying3 g5
      simp at e0 e1 e2 e3 e4 e5 z0 z1 z2 z3 z4 z5
      subst e0 e1 e2 e3 e4 e5
      refine ⟨⟨s, a1, a2, a3, a4, a5⟩, rfl, ?_, hs⟩
      rw [hx]
      simp [z0, z1, z2, z3, z4, z5]
set_option maxRecDepth 100000 in
theorem open_off {r : Reach} {b0 : Nat} {v : Value} {d : DataW H} {p : List MemPlace} (hv : Value.okWide Tryd.prog w r b0 32 v) (h : DataW.Trod enc Tryd.prog w base spare held 32 v d p) : ∃ o : Off, v = .agg o.cells ∧ p = [] := by
  obtain ⟨cs, rfl, hsz⟩ := okWide_struct Tryd.underlying32 hv
  obtain ⟨fuel, hf⟩ := h
  obtain ⟨o, ho, hp, _⟩ := cells_off (by rw [cells32] at hsz; simpa [Value.cells] using hsz) hf
  refine ⟨o, ?_, hp⟩
  have : cs.toList = o.cells.toList := by simpa [Value.cells] using ho
  rw [Array.toList_inj.1 this]
end
end Go.Proofs.YtcjkamnpkmkapaaDoor
