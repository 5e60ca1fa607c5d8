import Derived.Test.YtcjkamnpkmkapaaDoorBase
import Derived.Test.YtcjkamnpkmkapaaDoorFind
namespace Go.Proofs.YtcjkamnpkmkapaaDoor
open Go.ChangeShapes Go.WideShapes Go.ChangeAt Go.RowKit Go.Deep
theorem spot_none {w : World} {a : Addr} {v : Value} (h : w.cell? a = some v) : a.spot = none := by
  unfold World.cell? at h
  split at h
  · split at h
    · cases h
    · rename_i hn; simpa using hn
  · cases h
set_option maxRecDepth 100000 in
theorem open_offs {H : Type} {enc : TypeId × Value → H} {w : World} {r : Reach} {b0 : Nat} {v : Value} {d : DataW H} {p : List MemPlace} (hv : Value.okWide Tryd.prog w r b0 22 v) (h : DataW.Trod enc Tryd.prog w 0 (fun _ => true) true 22 v d p) :
    ∃ l : List Off, OReads w w.heap.size v l ∧ l.length ≤ maxLen := by
  obtain ⟨A, n, c, rfl⟩ := okWide_slice Tryd.underlying22 hv
  obtain ⟨fuel, hf⟩ := h
  rcases open_slice Tryd.underlying22 hf with ⟨hcs, _⟩ | ⟨a, len, cap, m, k, D, Pl, hcs, _, hlc, hcm, hmm, _, hi⟩
  · have e : Value.slice A n c = .slice none 0 0 := by simpa [Value.cells] using hcs
    injection e with e1 e2 e3
    subst e1 e2 e3
    exact ⟨[], ⟨none, 0, rfl, fun h => absurd h (by simp)⟩, by simp⟩
  · have e : Value.slice A n c = .slice (some a) len cap := by simpa [Value.cells] using hcs
    injection e with e1 e2 e3
    subst e1 e2 e3
    have hm : m = c := by rw [hmm]; rfl
    subst hm
    rw [cells32] at hi
    have H1 : ∀ i, i < m → ∃ o : Off, ∀ (j : Nat) (u : Value), o.cells[j]? = some u → w.cell? ((a.add (i * 6)).add j) = some u := by
      intro i him
      obtain ⟨cs', hc, ht⟩ := hi i him
      obtain ⟨_, hl, hat⟩ := World.cells?_some hc
      obtain ⟨o, ho, _, _⟩ := cells_off hl ht
      refine ⟨o, fun j u hu => ?_⟩
      have hj : j < 6 := by
        rcases Nat.lt_or_ge j 6 with h | h
        · exact h
        · rw [Array.getElem?_eq_none (by show 6 ≤ j; exact h)] at hu; cases hu
      rw [hat j hj, ho]
      simpa using hu
    obtain ⟨f, hfn⟩ : ∃ f : Nat → Off, ∀ i, i < m → ∀ (j : Nat) (u : Value), (f i).cells[j]? = some u → w.cell? ((a.add (i * 6)).add j) = some u :=
      ⟨fun i => if h : i < m then (H1 i h).choose else zeroO, fun i him => by
        simp only [dif_pos him]; exact (H1 i him).choose_spec⟩
    refine ⟨(List.range n).map f, ⟨some a, m, by simp, fun h0 => ?_⟩, by simp; omega⟩
    have h0' : 0 < n := by simpa using h0
    have hc0 := hfn 0 (by omega) 0 _ rfl
    have hs : a.spot = none := by
      have := spot_none hc0
      simpa [Addr.add] using this
    obtain ⟨g, off, sp⟩ := a
    simp only at hs
    subst hs
    refine ⟨g, off, rfl, ?_, fun i hi j u hu => ?_⟩
    · have := World.block_lt_of_cell? w _ hc0
      simpa [Addr.add] using this
    · have hin : i < n := by simpa using hi
      have hu' : (f i).cells[j]? = some u := by simpa using hu
      have := hfn i (by omega) j u hu'
      rw [Addr.add_lit, Addr.add_lit] at this
      exact this
end Go.Proofs.YtcjkamnpkmkapaaDoor
