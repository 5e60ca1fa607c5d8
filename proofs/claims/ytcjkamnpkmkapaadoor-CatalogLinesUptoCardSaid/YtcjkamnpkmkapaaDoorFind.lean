import Derived.Test.YtcjkamnpkmkapaaDoorParse0
import Derived.Test.YtcjkamnpkmkapaaDoorEntry
namespace Go.Proofs.YtcjkamnpkmkapaaDoor
open Go.RowKit
/-- the slice v reads as the entries l, below block B -/
def OReads (w : World) (B : Nat) (v : Value) (l : List Off) : Prop :=
  ∃ A cap, v = .slice A l.length cap ∧ (0 < l.length → ∃ g off, A = some ⟨g, off, none⟩ ∧ g < B ∧ ∀ (i : Nat) (h : i < l.length) (j : Nat) (u : Value), l[i].cells[j]? = some u → w.cell? ⟨g, off + i * 6 + j, none⟩ = some u)
theorem OReads.below {w w' : World} {B : Nat} {v : Value} {l : List Off} (h : OReads w B v l) (hb : Below B w w') : OReads w' B v l := by
  obtain ⟨A, cap, rfl, h⟩ := h
  refine ⟨A, cap, rfl, fun h0 => ?_⟩
  obtain ⟨g, off, rfl, hg, hc⟩ := h h0
  exact ⟨g, off, rfl, hg, fun i hi j u hu => (hb.cell (p := ⟨g, off + i * 6 + j, none⟩) hg).trans (hc i hi j u hu)⟩
theorem OReads.mono {w : World} {B B' : Nat} {v : Value} {l : List Off} (h : OReads w B v l) (hB : B ≤ B') : OReads w B' v l := by
  obtain ⟨A, cap, rfl, h⟩ := h
  refine ⟨A, cap, rfl, fun h0 => ?_⟩
  obtain ⟨g, off, rfl, hg, hc⟩ := h h0
  exact ⟨g, off, rfl, by omega, hc⟩
theorem ocells_at (l : List Off) : ∀ (i : Nat) (h : i < l.length) (j : Nat) (u : Value), l[i].cells[j]? = some u → (ocells l)[i * 6 + j]? = some u := by
  induction l with
  | nil => intro i h; simp at h
  | cons o r ih =>
    intro i h j u hu
    have e : ocells (o :: r) = o.cells.toList ++ ocells r := by simp [ocells]
    have hl : o.cells.toList.length = 6 := rfl
    rw [e]
    cases i with
    | zero =>
      have hj : j < 6 := by
        rcases Nat.lt_or_ge j 6 with h | h
        · exact h
        · simp only [List.getElem_cons_zero] at hu
          rw [Array.getElem?_eq_none (by show 6 ≤ j; exact h)] at hu; cases hu
      rw [List.getElem?_append_left (by rw [hl]; omega), Nat.zero_mul, Nat.zero_add]
      simpa using hu
    | succ i =>
      rw [List.getElem?_append_right (by rw [hl]; omega), hl, show (i + 1) * 6 + j - 6 = i * 6 + j by omega]
      exact ih i (by simpa using h) j u (by simpa using hu)
theorem OReads.of_own {w : World} {base : Nat} {v : Value} {l : List Off} (h : w.ownsRow base 32 6 v l.length (ocells l)) : OReads w w.heap.size v l := by
  by_cases h0 : 0 < l.length
  · obtain ⟨g, cap, rfl, hg, hc⟩ := own_form h h0
    exact ⟨_, cap, rfl, fun _ => ⟨g, 0, rfl, hg, fun i hi j u hu => by rw [Nat.zero_add]; exact hc _ _ (ocells_at l i hi j u hu)⟩⟩
  · rcases h.2 with ⟨rfl, hn⟩ | ⟨g, cap, cur, rfl, _⟩
    · exact ⟨none, 0, by rw [hn], fun h => absurd h h0⟩
    · exact ⟨_, cap, rfl, fun h => absurd h h0⟩
def findP (l : List Off) (nm : List UInt8) : Option Off := l.find? fun o => decide (o.name.data.toList = nm)
def FindRet (w : World) (r : Option Off) (e : Ending) (w' : World) : Prop := e = .returned (.tuple #[.agg (r.getD zeroO).cells, .bool r.isSome]) ∧ Below w.heap.size w w'
theorem find_no (l : List Off) (nm : List UInt8) (h : ∀ j (hj : j < l.length), l[j].name.data.toList ≠ nm) : findP l nm = none := by
  unfold findP
  rw [List.find?_eq_none]
  intro o ho
  obtain ⟨j, hj, rfl⟩ := List.getElem_of_mem ho
  simpa using h j hj
theorem find_yes (l : List Off) (nm : List UInt8) (k : Nat) (hk : k < l.length) (h : ∀ j (hj : j < l.length), j < k → l[j].name.data.toList ≠ nm) (he : l[k].name.data.toList = nm) : findP l nm = some l[k] := by
  unfold findP
  rw [List.find?_eq_some_iff_getElem]
  exact ⟨by simpa using he, k, hk, rfl, fun j hj => by simpa using h j (by omega) hj⟩
set_option maxHeartbeats 2000000 in
theorem find_any (v : Value) (l : List Off) (nm : ByteArray) (w : World) (hr : OReads w w.heap.size v l) (hl : l.length ≤ 4294967296) : Calls Tryd.prog 11 #[v, .string nm] w (FindRet w (findP l nm.data.toList)) := by
  obtain ⟨A, cap, rfl, hr⟩ := hr
  have HR := Lib.hid hr
  clear hr
  go_enter Tryd.func11, Tryd.ntmps11
  go_wp2_with fail
  go_loopw [10] (fun i wr => ∃ k : Nat, k ≤ l.length ∧ i = .int .i64 k ∧ Hid (∀ j (hj : j < l.length), j < k → l[j].name.data.toList ≠ nm.data.toList) ∧ Hid (Hs wr w.heap.size 32 zeroO.cells ∧ Below w.heap.size w wr)) (fun i _ => l.length - (intOf i).toNat)
  case atStart => exact ⟨0, by omega, rfl, fun j _ hj => by omega, Hs.new w 32 _, (Below.refl _ _).alloc (Nat.le_refl _) _⟩
  case round =>
    obtain ⟨k, hk, rfl, hall, HS⟩ := hrel
    have hws := HS.out.1.lt
    by_cases hlt : k < l.length
    · obtain ⟨g, off, rfl, hg, hc⟩ := HR.out (by omega)
      have t0 : decide ((k : Int) < (l.length : Int)) = true := decide_eq_true (by omega)
      have hcw : ∀ (j : Nat) (u : Value), l[k].cells[j]? = some u → wr.cell? ⟨g, off + k * 6 + j, none⟩ = some u := fun j u hu => (HS.out.2.cell (p := ⟨g, off + k * 6 + j, none⟩) hg).trans (hc k hlt j u hu)
      obtain ⟨o, ho⟩ : ∃ o, o = l[k] := ⟨_, rfl⟩
      rw [← ho] at hcw
      have c0 : wr.cell? ⟨g, off + k * 6, none⟩ = some (.string o.name) := hcw 0 _ rfl
      have c1 : wr.cell? ⟨g, off + k * 6 + 1, none⟩ = some (.int .i64 o.do_) := hcw 1 _ rfl
      have c2 : wr.cell? ⟨g, off + k * 6 + 2, none⟩ = some (.int .i64 o.undo) := hcw 2 _ rfl
      have c3 : wr.cell? ⟨g, off + k * 6 + 3, none⟩ = some (.int .i64 o.due) := hcw 3 _ rfl
      have c4 : wr.cell? ⟨g, off + k * 6 + 4, none⟩ = some (.int .i64 o.part) := hcw 4 _ rfl
      have c5 : wr.cell? ⟨g, off + k * 6 + 5, none⟩ = some (.int .i64 o.amend) := hcw 5 _ rfl
      have HO := Lib.hid ho
      clear ho hcw hc
      by_cases he : o.name.data.toList = nm.data.toList
      · have t1 : (o.name.toList == nm.toList) = true := by rw [ByteArray.toList_eq, ByteArray.toList_eq, beq_iff_eq]; exact he
        have HF : Hid (findP l nm.data.toList = some o) := by rw [HO.out]; exact find_yes l _ k hlt hall.out (by rw [← HO.out]; exact he)
        have HE := Lib.hid he
        clear he
        go_wp2_with (refine wpList_store_row rfl 32 _ _ rfl w.heap.size o.cells rfl rfl 32 zeroO.cells (HS.out.1.alloc _) info32 rfl (off_one o) ?_)
        refine bodyPost_ret (ret_cell_tmp Tryd.results11 _ _ w.heap.size o rfl (setRow_heap _ _ _ _ _ _ (HS.out.1.alloc _))) rfl ⟨?_, below_setRow (HS.out.2.alloc (by omega) _) (Nat.le_refl _) _⟩
        rw [HF.out]; rfl
      · have t1 : (o.name.toList == nm.toList) = false := by rw [ByteArray.toList_eq, ByteArray.toList_eq, beq_eq_false_iff_ne]; exact he
        have HN : Hid (∀ j (hj : j < l.length), j < k + 1 → l[j].name.data.toList ≠ nm.data.toList) := fun j hj hjk => by
          by_cases e : j = k
          · subst e; rw [← HO.out]; exact he
          · exact hall.out j hj (by omega)
        clear he
        go_wp2_with fail
        go_roundw
        case rel => exact ⟨k + 1, by omega, by go_num, HN, HS.out.1.alloc _, HS.out.2.alloc (by omega) _⟩
        case measure => simp [intOf]; omega
    · have HF : Hid (findP l nm.data.toList = none) := find_no l _ fun j hj => hall.out j hj (by omega)
      have t0 : decide ((k : Int) < (l.length : Int)) = false := decide_eq_false (by omega)
      go_wp2_with (refine wpList_store_row rfl 32 _ _ rfl w.heap.size zeroO.cells rfl rfl 32 zeroO.cells HS.out.1 info32 rfl zeroO_one ?_)
      refine bodyPost_ret (ret_cell_tmp Tryd.results11 _ _ w.heap.size zeroO rfl (setRow_heap _ _ _ _ _ _ HS.out.1)) rfl ⟨?_, below_setRow HS.out.2 (Nat.le_refl _) _⟩
      rw [HF.out]; rfl
end Go.Proofs.YtcjkamnpkmkapaaDoor
