import Derived.Test.YtcjkamnpkmkapaaDoorClos
namespace Go.Proofs.YtcjkamnpkmkapaaDoor
open Go.RowKit
/-- block g is the cells cs of type t -/
def Hs (w : World) (g : Nat) (t : TypeId) (cs : Array Value) : Prop := w.heap[g]? = some (.cells cs t (0, 0))
section
variable {w w' : World} {g : Nat} {t : TypeId} {cs : Array Value}
theorem Hs.lt (h : Hs w g t cs) : g < w.heap.size := (Array.getElem?_eq_some_iff.1 h).1
theorem Hs.cell (h : Hs w g t cs) (i : Nat) : w.cell? ⟨g, i, none⟩ = cs[i]? := cell_of_row w g i cs t (0, 0) h
theorem Hs.free (h : Hs w g t cs) (i : Nat) : w.frozen? ⟨g, i, none⟩ = false := by unfold Hs at h; simp [World.frozen?, h]
theorem Hs.new (w : World) (t : TypeId) (cs : Array Value) : Hs (w.alloc (.cells cs t)) w.heap.size t cs := heap_alloc_new w _
theorem Hs.alloc (h : Hs w g t cs) (o : Obj) : Hs (w.alloc o) g t cs := (Below.heap_alloc w o g h.lt).trans h
theorem Hs.below {B : Nat} (h : Hs w g t cs) (hb : Below B w w') (hg : g < B) : Hs w' g t cs := (hb.block g hg).trans h
theorem Hs.grown {row : Option Nat} (h : Hs w g t cs) (hb : w.grownBy w' row) (hg : some g ≠ row) : Hs w' g t cs := (hb.block g h.lt hg).trans h
theorem Hs.put (h : Hs w g t cs) (i : Nat) (u : Value) : Hs (w.setCell ⟨g, i, none⟩ u) g t (cs.setIfInBounds i u) := by
  unfold Hs at h ⊢
  simp [World.setCell, Array.getElem?_modify, h]
theorem Hs.far (h : Hs w g t cs) {p : Addr} (hp : g ≠ p.block) (u : Value) : Hs (w.setCell p u) g t cs := (Below.heap_setCell w p u g hp).trans h
end
theorem below_grown {B : Nat} {w wr w1 : World} {b : Nat} (h : Below B w wr) (hg : wr.grownBy w1 (some b)) (hB : B ≤ wr.heap.size) (hb : B ≤ b) : Below B w w1 :=
  Below.grown h hg hB (fun j hj => by injection hj with hj; omega)
theorem asz (w : World) (o : Obj) : (w.alloc o).heap.size = w.heap.size + 1 := by simp
def zeroO : Off := ⟨⟨#[]⟩, 0, 0, 0, 0, 0⟩
/-- while the map of keywords is filled -/
structure Ent0 (w wr : World) (o : Off) (L : List (Nat × Nat)) : Prop where
  bel : Below w.heap.size w wr
  big : w.heap.size + 2 < wr.heap.size
  res : Hs wr w.heap.size 32 zeroO.cells
  off : Hs wr (w.heap.size + 1) 32 o.cells
  box : ∀ x ∈ L, w.heap.size + 2 < x.1 ∧ Hs wr x.1 74 #[.pointer (some ⟨w.heap.size + 1, x.2, none⟩)]
theorem Ent0.step {w wr w1 : World} {o : Off} {L : List (Nat × Nat)} (h : Ent0 w wr o L) {j : Nat} (hg : (wr.alloc (.cells #[.pointer (some ⟨w.heap.size + 1, j, none⟩)] 74)).grownBy w1 (some (w.heap.size + 2))) : Ent0 w w1 o ((wr.heap.size, j) :: L) := by
  have hs := hg.size
  have hb := h.big
  rw [asz] at hs
  refine ⟨below_grown (h.bel.alloc h.bel.size _) hg (by rw [asz]; omega) (by omega), by omega, (h.res.alloc _).grown hg (by simp), (h.off.alloc _).grown hg (by simp), ?_⟩
  intro x hx
  rcases List.mem_cons.1 hx with rfl | hx
  · exact ⟨hb, (Hs.new wr _ _).grown hg (by simp; omega)⟩
  · obtain ⟨h0, h1⟩ := h.box x hx
    exact ⟨h0, (h1.alloc _).grown hg (by simp; omega)⟩
theorem Ent0.last {w wr w1 : World} {o : Off} {L : List (Nat × Nat)} (h : Ent0 w wr o L) (hg : wr.grownBy w1 (some (w.heap.size + 2))) : Ent0 w w1 o L := by
  have hs := hg.size
  have hb := h.big
  refine ⟨below_grown h.bel hg (by omega) (by omega), by omega, h.res.grown hg (by simp), h.off.grown hg (by simp), ?_⟩
  intro x hx
  obtain ⟨h0, h1⟩ := h.box x hx
  exact ⟨h0, h1.grown hg (by simp; omega)⟩
theorem ent_start (w : World) (o : Off) : Ent0 w (((w.alloc (.cells zeroO.cells 32)).alloc (.cells o.cells 32)).alloc (.map #[] 0)) o [] := by
  refine ⟨(((Below.refl _ _).alloc (Nat.le_refl _) _).alloc (by simp) _).alloc (by simp; omega) _, by simp, ((Hs.new w _ _).alloc _).alloc _, ?_, by simp⟩
  have := (Hs.new (w.alloc (.cells zeroO.cells 32)) 32 o.cells).alloc (.map #[] 0)
  rw [asz] at this
  exact this
abbrev clo (b : Nat) : Value := .func (.func 28) #[] #[.pointer (some ⟨b, 0, none⟩)]
/-- the map of keywords: which closure a keyword has, once the used ones are struck -/
def keyF (h b1 b2 b3 b4 : Nat) (used : List (List UInt8)) (k : List UInt8) : Option Value :=
  if k ∈ used then none else if k = kDo then some (clo b1) else if k = kUndo then some (clo b2) else if k = kPart then some (clo b3) else if k = kAmend then some (clo b4)
  else if k = kDue then some (.func (.func 30) #[] #[.pointer (some ⟨h + 1, 0, none⟩)]) else none
theorem keyF_upd (h b1 b2 b3 b4 : Nat) (used : List (List UInt8)) (s k : List UInt8) : upd (keyF h b1 b2 b3 b4 used) s none k = keyF h b1 b2 b3 b4 (s :: used) k := by
  unfold upd keyF
  by_cases e : k = s
  · rw [if_pos e, if_pos (List.mem_cons.2 (.inl e))]
  · rw [if_neg e]
    by_cases m : k ∈ used
    · rw [if_pos m, if_pos (List.mem_cons_of_mem _ m)]
    · have m2 : ¬ k ∈ s :: used := fun a => (List.mem_cons.1 a).elim e m
      rw [if_neg m, if_neg m2]
theorem keyF_start (h b1 b2 b3 b4 : Nat) (k : List UInt8) : upd (upd (upd (upd (upd (fun _ => none) kDo (some (clo b1))) kUndo (some (clo b2))) kPart (some (clo b3))) kAmend (some (clo b4))) kDue (some (.func (.func 30) #[] #[.pointer (some ⟨h + 1, 0, none⟩)])) k = keyF h b1 b2 b3 b4 [] k := by
  unfold upd keyF
  rw [if_neg (List.not_mem_nil)]
  by_cases h1 : k = kDo
  · subst h1; rfl
  by_cases h2 : k = kUndo
  · subst h2; rfl
  by_cases h3 : k = kPart
  · subst h3; rfl
  by_cases h4 : k = kAmend
  · subst h4; rfl
  by_cases h5 : k = kDue
  · subst h5; rfl
  simp only [h1, h2, h3, h4, h5, if_false]
structure EntSt (w wr : World) (n b1 b2 b3 b4 : Nat) (o : Off) (used : List (List UInt8)) : Prop where
  bel : Below w.heap.size w wr
  big : w.heap.size + 2 < wr.heap.size
  res : Hs wr w.heap.size 32 zeroO.cells
  off : Hs wr (w.heap.size + 1) 32 o.cells
  c1 : w.heap.size + 2 < b1 ∧ Hs wr b1 74 #[.pointer (some ⟨w.heap.size + 1, 1, none⟩)]
  c2 : w.heap.size + 2 < b2 ∧ Hs wr b2 74 #[.pointer (some ⟨w.heap.size + 1, 2, none⟩)]
  c3 : w.heap.size + 2 < b3 ∧ Hs wr b3 74 #[.pointer (some ⟨w.heap.size + 1, 4, none⟩)]
  c4 : w.heap.size + 2 < b4 ∧ Hs wr b4 74 #[.pointer (some ⟨w.heap.size + 1, 5, none⟩)]
  map : MapIs Tryd.prog 9 wr (w.heap.size + 2) n (keyF w.heap.size b1 b2 b3 b4 used)
theorem EntSt.drop {w wr w1 : World} {n n' b1 b2 b3 b4 : Nat} {o : Off} {used : List (List UInt8)} {s : List UInt8} (h : EntSt w wr n b1 b2 b3 b4 o used) (hg : wr.grownBy w1 (some (w.heap.size + 2))) (hm : MapIs Tryd.prog 9 w1 (w.heap.size + 2) n' (upd (keyF w.heap.size b1 b2 b3 b4 used) s none)) : EntSt w w1 n' b1 b2 b3 b4 o (s :: used) := by
  have hs := hg.size
  have hb := h.big
  exact ⟨below_grown h.bel hg (by omega) (by omega), by omega, h.res.grown hg (by simp), h.off.grown hg (by simp), ⟨h.c1.1, h.c1.2.grown hg (by have := h.c1.1; simp; omega)⟩, ⟨h.c2.1, h.c2.2.grown hg (by have := h.c2.1; simp; omega)⟩, ⟨h.c3.1, h.c3.2.grown hg (by have := h.c3.1; simp; omega)⟩, ⟨h.c4.1, h.c4.2.grown hg (by have := h.c4.1; simp; omega)⟩, hm.congr (keyF_upd _ _ _ _ _ _ _)⟩
theorem EntSt.set {w wr w1 : World} {n b1 b2 b3 b4 : Nat} {o o' : Off} {used : List (List UInt8)} (h : EntSt w wr n b1 b2 b3 b4 o used) (hb : Below wr.heap.size wr w1) (j : Nat) (u : Value) (ho : o.cells.setIfInBounds j u = o'.cells) : EntSt w (w1.setCell ⟨w.heap.size + 1, j, none⟩ u) n b1 b2 b3 b4 o' used := by
  have hs := hb.size
  have hg := h.big
  have f1 := h.c1.1
  have f2 := h.c2.1
  have f3 := h.c3.1
  have f4 := h.c4.1
  have e1 := h.c1.2.lt
  have e2 := h.c2.2.lt
  have e3 := h.c3.2.lt
  have e4 := h.c4.2.lt
  refine ⟨((h.bel.trans (hb.mono (by omega))).setCell (by simp) _), by simpa [World.setCell] using (show w.heap.size + 2 < w1.heap.size by omega), (h.res.below hb (by omega)).far (by simp) _, ?_, ⟨f1, (h.c1.2.below hb e1).far (by simp; omega) _⟩, ⟨f2, (h.c2.2.below hb e2).far (by simp; omega) _⟩, ⟨f3, (h.c3.2.below hb e3).far (by simp; omega) _⟩, ⟨f4, (h.c4.2.below hb e4).far (by simp; omega) _⟩, (h.map.below hb (by omega)).setCell (by simp) _⟩
  rw [← ho]
  exact (h.off.below hb (by omega)).put j u
end Go.Proofs.YtcjkamnpkmkapaaDoor
