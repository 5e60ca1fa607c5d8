import Derived.Maps.OwnSet
import Derived.Maps.OwnOps
import Derived.StringKeys
namespace Go.Proofs.YtcjkamnpkmkapaaDoor
open Go.RowKit Go.Maps Go.WideMaps Go.ChangeMaps
/-- how an element of a map is held: as the value itself -/
def heldV (v : Value) : Option (DataW Value × List MemPlace) := some (.held v, [])
/-- block b is a map from strings with n entries, whose entry at s is f s -/
def MapIs (P : Program) (K : TypeId) (w : World) (b n : Nat) (f : List UInt8 → Option Value) : Prop :=
  ∃ D : DataW Value, w.ownsMap P K heldV b n D ∧ Maps.size D = n ∧ ∀ s : List UInt8, Maps.has D (.string s) = (f s).isSome ∧ ∀ v, f s = some v → ∀ z, D.atKey (.string s) z = .held v
theorem ownsMap_exact {P : Program} {k : TypeId} {R : Value → Option (DataW Value × List MemPlace)} {w : World} {b n : Nat} {D : DataW Value} (h : w.ownsMap P k R b n D) : w.ownsMap P k R b (Maps.size D) D := by
  obtain ⟨es, clock, hb, F, hs, rfl⟩ := h
  exact ⟨es, clock, hb, F, by simp [Maps.size, length_sorted], rfl⟩
section
variable {P : Program} {K : TypeId} {w w' : World} {b n : Nat} {f : List UInt8 → Option Value}
theorem MapIs.made (P : Program) (K : TypeId) (w : World) : MapIs P K (w.alloc (.map #[] 0)) w.heap.size 0 (fun _ => none) :=
  ⟨.map [], World.ownsMap_made w P K heldV, rfl, fun s => ⟨rfl, fun v h => by cases h⟩⟩
theorem MapIs.lt (h : MapIs P K w b n f) : b < w.heap.size := by obtain ⟨D, h, _⟩ := h; exact h.lt
theorem MapIs.kept {row : Option Nat} (h : MapIs P K w b n f) (hg : w.grownBy w' row) (hne : some b ≠ row) : MapIs P K w' b n f := by
  obtain ⟨D, h, r⟩ := h; exact ⟨D, h.kept hg hne, r⟩
theorem MapIs.below {B : Nat} (h : MapIs P K w b n f) (hb : Below B w w') (hB : b < B) : MapIs P K w' b n f := by
  obtain ⟨D, ⟨es, clock, h1, r1⟩, r⟩ := h
  exact ⟨D, ⟨es, clock, (hb.block b hB).trans h1, r1⟩, r⟩
theorem MapIs.alloc (h : MapIs P K w b n f) (o : Obj) : MapIs P K (w.alloc o) b n f := by
  obtain ⟨D, h, r⟩ := h; exact ⟨D, h.alloc o, r⟩
theorem MapIs.setCell (h : MapIs P K w b n f) {a : Addr} (ha : b ≠ a.block) (u : Value) : MapIs P K (w.setCell a u) b n f := by
  obtain ⟨D, h, r⟩ := h; exact ⟨D, h.setCell ha u, r⟩
theorem MapIs.congr {g : List UInt8 → Option Value} (h : MapIs P K w b n f) (e : ∀ s, f s = g s) : MapIs P K w b n g := by
  obtain rfl : f = g := funext e
  exact h
theorem MapIs.look (h : MapIs P K w b n f) (hK : P.underlying K = some .string) {t e : TypeId} (ht : P.underlying t = some (.map K e)) {z : Value} (hz : (zeroValue e).run P w = .ok z w) {s : ByteArray} (hs : s.size ≤ maxLen) :
    (Instr.lookup t (.map (some b)) (.string s) false).run P w = .ok ((f s.data.toList).getD z) w := by
  obtain ⟨D, h, _, hf⟩ := h
  obtain ⟨v, ps, hrun, hv⟩ := h.lookup (string_keyed hK) ht hz (zd := .held z) (zp := []) rfl (keyOf_string_mk hK hs)
  rw [hrun]
  obtain ⟨h1, h2⟩ := hf s.data.toList
  have hv' : (DataW.held v : DataW Value) = D.atKey (.string s.data.toList) (.held z) := by
    unfold heldV at hv
    injection hv with hv
    exact congrArg Prod.fst hv
  cases hc : f s.data.toList with
  | none =>
    rw [hc] at h1
    rw [atKey_of_not_has h1] at hv'
    injection hv' with hv'
    rw [hv']; rfl
  | some u =>
    rw [h2 u hc] at hv'
    injection hv' with hv'
    rw [hv']; rfl
theorem MapIs.lookOk (h : MapIs P K w b n f) (hK : P.underlying K = some .string) {t e : TypeId} (ht : P.underlying t = some (.map K e)) {z : Value} (hz : (zeroValue e).run P w = .ok z w) {s : ByteArray} (hs : s.size ≤ maxLen) :
    (Instr.lookup t (.map (some b)) (.string s) true).run P w = .ok (.tuple #[(f s.data.toList).getD z, .bool (f s.data.toList).isSome]) w := by
  obtain ⟨D, h, _, hf⟩ := h
  obtain ⟨v, ps, hrun, hv⟩ := h.look_ok (string_keyed hK) ht hz (zd := .held z) (zp := []) rfl (keyOf_string_mk hK hs)
  obtain ⟨h1, h2⟩ := hf s.data.toList
  rw [hrun, h1]
  have hv' : (DataW.held v : DataW Value) = D.atKey (.string s.data.toList) (.held z) := by
    unfold heldV at hv
    injection hv with hv
    exact congrArg Prod.fst hv
  cases hc : f s.data.toList with
  | none =>
    rw [hc] at h1
    rw [atKey_of_not_has h1] at hv'
    injection hv' with hv'
    rw [hv']; rfl
  | some u =>
    rw [h2 u hc] at hv'
    injection hv' with hv'
    rw [hv']; rfl
theorem str_isKey (hK : P.underlying K = some .string) {s : ByteArray} (hs : s.size ≤ maxLen) : WideAt.IsKeyLit (.string s.data.toList) := (string_keyed hK).key (keyOf_string_mk hK hs)
def upd (f : List UInt8 → Option Value) (s : List UInt8) (v : Option Value) : List UInt8 → Option Value := fun t => if t = s then v else f t
theorem MapIs.put (h : MapIs P K w b n f) (hK : P.underlying K = some .string) {t e : TypeId} (ht : P.underlying t = some (.map K e)) (hn : n < maxLen) {s : ByteArray} (hs : s.size ≤ maxLen) (v : Value) :
    ∃ w', (Instr.mapUpdate t (.map (some b)) (.string s) v).run P w = .ok () w' ∧ MapIs P K w' b (if (f s.data.toList).isSome then n else n + 1) (upd f s.data.toList (some v)) ∧ w.grownBy w' (some b) := by
  obtain ⟨D, h, hsz, hf⟩ := h
  obtain ⟨w', hrun, h', hg⟩ := h.update (string_keyed hK) ht hn (keyOf_string_mk hK hs) (val := v) (d := .held v) (ps := []) rfl
  have hsz' : Maps.size (D.put (.string s.data.toList) (.held v)) = if (f s.data.toList).isSome then n else n + 1 := by
    rw [size_put (h.tidy (string_keyed hK)), (hf s.data.toList).1, hsz]
  refine ⟨w', hrun, ⟨_, ?_, hsz', fun x => ?_⟩, hg⟩
  · rw [← hsz']; exact ownsMap_exact h'
  · have hkl := str_isKey hK hs
    unfold upd
    by_cases hx : x = s.data.toList
    · subst hx
      rw [if_pos rfl]
      exact ⟨has_put_same h.isMap hkl _, fun u hu z => by injection hu with hu; subst hu; exact atKey_put_same h.isMap hkl _ _⟩
    · rw [if_neg hx]
      have hne : (Lit.string x) ≠ Lit.string s.data.toList := fun e => hx (by injection e)
      exact ⟨(has_put_other hne _).trans (hf x).1, fun u hu z => (atKey_put_other hne _ _).trans ((hf x).2 u hu z)⟩
theorem MapIs.drop (h : MapIs P K w b n f) (hK : P.underlying K = some .string) {t e : TypeId} (ht : P.underlying t = some (.map K e)) {s : ByteArray} (hs : s.size ≤ maxLen) (ty : TypeId) :
    ∃ w' n', (Builtin.delete_ #[t, K] ty #[.map (some b), .string s]).run P w = .ok (.tuple #[]) w' ∧ n' ≤ n ∧ MapIs P K w' b n' (upd f s.data.toList none) ∧ w.grownBy w' (some b) := by
  obtain ⟨D, h, hsz, hf⟩ := h
  obtain ⟨w', hrun, h', hg⟩ := h.drop (string_keyed hK) ht (keyOf_string_mk hK hs) ty
  refine ⟨w', _, hrun, ?_, ⟨_, ownsMap_exact h', rfl, fun x => ?_⟩, hg.grown⟩
  · have := size_del (h.tidy (string_keyed hK)) (k := .string s.data.toList); omega
  · unfold upd
    by_cases hx : x = s.data.toList
    · subst hx
      rw [if_pos rfl]
      exact ⟨has_del_same, fun u hu => by cases hu⟩
    · rw [if_neg hx]
      have hne : (Lit.string x) ≠ Lit.string s.data.toList := fun e => hx (by injection e)
      exact ⟨(has_del_other hne).trans (hf x).1, fun u hu z => (atKey_del_other hne _).trans ((hf x).2 u hu z)⟩
theorem MapIs.len (h : MapIs P K w b n f) {t e : TypeId} (ht : P.underlying t = some (.map K e)) (ty : TypeId) : (Builtin.len_ #[t] ty #[.map (some b)]).run P w = .ok (.int .i64 (n : Int)) w := by
  obtain ⟨D, h, hsz, _⟩ := h
  rw [h.len ht ty, hsz]
end
section
variable {P : Program} {K : TypeId} (w : World) {ops : Array Oper} {rest : List Oper} {o : Oper} {a : Act} {Q : Exit → Act → World → Prop}
theorem wpList_put_is (hg : o.guard = none) (m x v : Operand) (t : TypeId) (hop : o.op = Op.mapUpdate t m x v ∨ o.op = Op.insert t m x v)
    (e : TypeId) (hK : P.underlying K = some .string) (ht : P.underlying t = some (.map K e)) (b n : Nat) (f : List UInt8 → Option Value)
    (hm : a.eval m = .map (some b)) (his : MapIs P K w b n f) (hn : n < maxLen) (s : ByteArray) (val : Value) (hx : a.eval x = .string s) (hv : a.eval v = val) (hs : s.size ≤ maxLen)
    (hk : ∀ w', MapIs P K w' b (if (f s.data.toList).isSome then n else n + 1) (upd f s.data.toList (some val)) → w.grownBy w' (some b) → wpList P ops Q rest (a.put o.dst undef) w') :
    wpList P ops Q (o :: rest) a w := by
  refine wpList_plain hg fun K' hK' => ?_
  obtain ⟨w', hrun, r1, r2⟩ := his.put hK ht hn hs val
  unfold Oper.wp
  rcases hop with hop | hop
  all_goals
    simp [execOp, hop, hm, hx, hv, hrun, Result.andThen]
    exact hK' _ _ (hk w' r1 r2)
theorem wpList_drop_is (hg : o.guard = none) (m x : Operand) (t : TypeId) (hop : o.op = Op.call { callee := Callee.builtin Builtin.delete, args := #[m, x], argTypes := #[t, K] })
    (e : TypeId) (hK : P.underlying K = some .string) (ht : P.underlying t = some (.map K e)) (b n : Nat) (f : List UInt8 → Option Value)
    (hm : a.eval m = .map (some b)) (his : MapIs P K w b n f) (s : ByteArray) (hx : a.eval x = .string s) (hs : s.size ≤ maxLen)
    (hk : ∀ w' n', n' ≤ n → MapIs P K w' b n' (upd f s.data.toList none) → w.grownBy w' (some b) → wpList P ops Q rest (a.put o.dst (.tuple #[])) w') :
    wpList P ops Q (o :: rest) a w := by
  refine wpList_plain hg fun K' hK' => ?_
  obtain ⟨w', n', hrun, r0, r1, r2⟩ := his.drop hK ht hs o.type
  unfold Oper.wp
  simp [execOp, hop, resolve, invoke, builtin, hm, hx, hrun, Result.andThen]
  exact hK' _ _ (hk w' n' r0 r1 r2)
end
end Go.Proofs.YtcjkamnpkmkapaaDoor
