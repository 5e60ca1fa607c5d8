import Derived.Test.YtcjkamnpkmkapaaDoorEnt0
import Derived.Test.YtcjkamnpkmkapaaDoorIsName
import Derived.Test.YtcjkamnpkmkapaaDoorParseMath
import Derived.Deep.QuietTactic
import Derived.BigQuiet
namespace Go.Proofs.YtcjkamnpkmkapaaDoor
open Go.RowKit
def ocells (l : List Off) : List Value := l.flatMap fun o => o.cells.toList
theorem ocells_snoc (l : List Off) (o : Off) : ocells (l ++ [o]) = ocells l ++ [.string o.name, .int .i64 o.do_, .int .i64 o.undo, .int .i64 o.due, .int .i64 o.part, .int .i64 o.amend] := by simp [ocells, Off.cells]
def resL : Except (Int × Nat) (List Off) → List Off | .ok l => l | .error _ => []
def resE : Except (Int × Nat) (List Off) → Int | .ok _ => 0 | .error e => e.1
def resP : Except (Int × Nat) (List Off) → Int | .ok _ => 0 | .error e => (e.2 : Int)
/-- what Parse hands back -/
def ParseRet (w : World) (r : Except (Int × Nat) (List Off)) (e : Ending) (w' : World) : Prop :=
  ∃ v, e = .returned (.tuple #[v, .int .i64 (resE r), .int .i64 (resP r)]) ∧ w'.ownsRow w.heap.size 32 6 v (resL r).length (ocells (resL r)) ∧ Below w.heap.size w w'
theorem parseRet_err {w w' : World} {r : Except (Int × Nat) (List Off)} {c : Int} {p : Nat} (h : r = .error (c, p)) (hb : Below w.heap.size w w') : ParseRet w r (.returned (.tuple #[.slice none 0 0, .int .i64 c, .int .i64 (p : Int)])) w' := by
  subst h; exact ⟨_, rfl, World.ownsRow_nil _ _ _ _, hb⟩
def nmL (l : List Off) : List (List UInt8) := l.map fun o => o.name.data.toList
def nameF (l : List Off) (k : List UInt8) : Option Value := if k ∈ nmL l then some (.bool true) else none
theorem nameF_snoc (l : List Off) (o : Off) (k : List UInt8) : upd (nameF l) o.name.data.toList (some (.bool true)) k = nameF (l ++ [o]) k := by
  unfold upd nameF nmL
  by_cases e : k = o.name.data.toList
  · rw [if_pos e, if_pos (by rw [List.map_append]; exact List.mem_append_right _ (by simp [e]))]
  · rw [if_neg e]
    by_cases m : k ∈ l.map (fun o => o.name.data.toList)
    · rw [if_pos m, if_pos (by rw [List.map_append]; exact List.mem_append_left _ m)]
    · rw [if_neg m, if_neg (by rw [List.map_append, List.mem_append]; intro h; rcases h with h | h; exact m h; exact e (by simpa using h))]
theorem zeroBool (w : World) : (zeroValue 4).run Tryd.prog w = .ok (.bool false) w := by kernel_rfl
theorem Tryd.info32 : (Tryd.prog.info? 32).map (fun i => (i.zero, i.size, i.bytes)) = some (some (.agg zeroO.cells), 6, 56) := by kernel_rfl
/-- what the loop of Parse keeps -/
structure PSt (w wr : World) (v : Value) (acc : List Off) (n : Nat) : Prop where
  bel : Below w.heap.size w wr
  own : wr.ownsRow w.heap.size 32 6 v acc.length (ocells acc)
  nle : n ≤ acc.length
  cnt : acc.length ≤ 256
  map : MapIs Tryd.prog 9 wr w.heap.size n (nameF acc)
theorem PSt.below {w wr w1 : World} {v : Value} {acc : List Off} {n : Nat} (h : PSt w wr v acc n) (hb : Below wr.heap.size wr w1) : PSt w w1 v acc n := by
  refine ⟨h.bel.trans (hb.mono h.bel.size), ⟨h.own.1, ?_⟩, h.nle, h.cnt, h.map.below hb h.map.lt⟩
  rcases h.own.2 with hn | ⟨g, cap, cur, rfl, hbg, hgg, rest⟩
  · exact .inl hn
  · exact .inr ⟨g, cap, cur, rfl, hbg, (hb.block g (Array.getElem?_eq_some_iff.1 hgg).1).trans hgg, rest⟩
theorem own_form {w : World} {base E size n : Nat} {v : Value} {xs : List Value} (h : w.ownsRow base E size v n xs) (hn : 0 < n) : ∃ g cap, v = .slice (some ⟨g, 0, none⟩) n cap ∧ g < w.heap.size ∧ ∀ j u, xs[j]? = some u → w.cell? ⟨g, j, none⟩ = some u := by
  rcases h.2 with ⟨_, h0⟩ | ⟨g, cap, cur, rfl, _, hg, _⟩
  · omega
  · refine ⟨g, cap, rfl, (Array.getElem?_eq_some_iff.1 hg).1, fun j u hu => ?_⟩
    have := h.cells (g := g) rfl j u hu
    have e : (⟨g, 0, none⟩ : Addr).add j = ⟨g, j, none⟩ := by unfold Addr.add; split <;> simp_all
    rwa [e] at this
theorem wcells_text (ws : List Wd) : ∀ (j : Nat) (h : j < ws.length), (wcells ws)[j * 2]? = some (.string (str ws[j].1)) ∧ (wcells ws)[j * 2 + 1]? = some (.int .i64 (ws[j].2 : Int)) := by
  induction ws with
  | nil => intro j h; simp at h
  | cons x r ih =>
    intro j h
    have e : wcells (x :: r) = .string (str x.1) :: .int .i64 (x.2 : Int) :: wcells r := by simp [wcells]
    rw [e]
    cases j with
    | zero => exact ⟨rfl, rfl⟩
    | succ j =>
      have := ih j (by simpa using h)
      rw [show (j + 1) * 2 = j * 2 + 1 + 1 by omega]
      simpa using this
theorem cell_six_new (w : World) (o : Off) (t : TypeId) : ∀ j u, [.string o.name, .int .i64 o.do_, .int .i64 o.undo, .int .i64 o.due, .int .i64 o.part, .int .i64 o.amend][j]? = some u → (w.alloc (.cells #[.string o.name, .int .i64 o.do_, .int .i64 o.undo, .int .i64 o.due, .int .i64 o.part, .int .i64 o.amend] t)).cell? ((⟨w.heap.size, 0, none⟩ : Addr).add j) = some u := by
  intro j u hj
  match j, hj with
  | 0, hj => simp at hj; subst hj; simp [Addr.add]
  | 1, hj => simp at hj; subst hj; simp [Addr.add]
  | 2, hj => simp at hj; subst hj; simp [Addr.add]
  | 3, hj => simp at hj; subst hj; simp [Addr.add]
  | 4, hj => simp at hj; subst hj; simp [Addr.add]
  | 5, hj => simp at hj; subst hj; simp [Addr.add]
  | (j + 6), hj => simp at hj
theorem row_map_ne {w : World} {base E size n m b : Nat} {v : Value} {xs : List Value} {P : Program} {K : TypeId} {f : List UInt8 → Option Value} (h : w.ownsRow base E size v n xs) (hm : MapIs P K w b m f) : v.ownBlock ≠ some b := by
  rcases h.2 with ⟨rfl, _⟩ | ⟨g, cap, cur, rfl, _, hg, _⟩
  · simp [Value.ownBlock]
  · intro e
    have : g = b := by simpa [Value.ownBlock] using e
    subst this
    obtain ⟨D, ⟨es, clock, hb, _⟩, _⟩ := hm
    rw [hg] at hb
    cases hb
end Go.Proofs.YtcjkamnpkmkapaaDoor
