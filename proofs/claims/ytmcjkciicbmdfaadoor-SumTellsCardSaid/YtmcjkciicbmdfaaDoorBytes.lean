import Derived.Test.YtmcjkciicbmdfaaDoorBase
namespace Go.Proofs.YtmcjkciicbmdfaaDoor
open Go.ChangeShapes Go.WideShapes Go.ChangeAt Go.RowKit
section
variable {H : Type} {enc : TypeId × Value → H} {w : World} {base : Nat} {sp : Nat → Bool} {held : Bool}
theorem cells5' : Tryd.prog.cellsOf 5 = 1 := by kernel_rfl
def bytesData (l : List Nat) : DataW H := .agg (l.map fun n : Nat => .lit (.int .u8 n))
theorem wf_u8 {z : Int} (h : (Lit.int .u8 z).wf = true) : 0 ≤ z ∧ z < 256 := by
  simp [Lit.wf, IntKind.min, IntKind.max, IntKind.signed, IntKind.bits] at h
  omega
theorem mapM_some_of {α β : Type} (f : α → Option β) (g : α → β) : ∀ (l : List α), (∀ x ∈ l, f x = some (g x)) → l.mapM f = some (l.map g)
  | [], _ => rfl
  | x :: l, h => by
    rw [List.mapM_cons, h x (by simp), mapM_some_of f g l (fun y hy => h y (by simp [hy]))]
    rfl
theorem shut_bytes {t n : Nat} (ht : Tryd.prog.underlying t = some (.array n 5)) (hct : Tryd.prog.cellsOf t = n) {l : List Nat} (hl : l.length = n) (hb : ∀ x ∈ l, x < 256) :
    DataW.Trod enc Tryd.prog w base sp held t (.agg (u8s l)) (bytesData l) [] := by
  refine ⟨2, ?_⟩
  have hc : (Value.agg (u8s l)).cells.toList = l.map fun n : Nat => Value.int .u8 n := by simp [Value.cells, u8s]
  rw [hc]
  unfold DataW.trod
  rw [ht]
  simp only [List.length_map, hl, hct, if_true, cells5', Nat.mul_one]
  have hm : ((List.range n).mapM fun i => DataW.trod enc Tryd.prog w base sp held 1 5 (((l.map fun n : Nat => Value.int .u8 n).drop i).take 1)) = some ((List.range n).map fun i => ((.lit (.int .u8 (l.getD i 0 : Nat)), []) : DataW H × List MemPlace)) := by
    apply mapM_some_of
    intro i hi
    have hi : i < l.length := by rw [hl]; simpa using hi
    have e : ((l.map fun n : Nat => Value.int .u8 n).drop i).take 1 = [.int .u8 (l.getD i 0 : Nat)] := by
      rw [List.drop_eq_getElem_cons (by simpa using hi)]
      simp [List.getD, hi]
    have hlt : l.getD i 0 < 256 := getD_lt l hb i
    have hwf : (Lit.int .u8 ((l.getD i 0 : Nat) : Int)).wf = true := by simp [Lit.wf, IntKind.min, IntKind.max, IntKind.signed, IntKind.bits]; simp [List.getD] at hlt; omega
    rw [e]
    generalize l.getD i 0 = z at *
    simp [DataW.trod, Tryd.underlying5, hwf]
  rw [hm]
  simp only [Option.map_some, bytesData, List.map_map]
  congr 2
  · congr 1
    subst hl
    apply List.ext_getElem?
    intro i
    by_cases hi : i < l.length
    · simp [hi, List.getD]
    · simp [hi]
  · simp
theorem open_bytes {t n : Nat} (ht : Tryd.prog.underlying t = some (.array n 5)) (hct : Tryd.prog.cellsOf t = n) {r : Reach} {b0 : Nat} {v : Value} {d : DataW H} {p : List MemPlace}
    (hv : Value.okWide Tryd.prog w r b0 t v) (h : DataW.Trod enc Tryd.prog w base sp held t v d p) :
    ∃ l : List Nat, v = .agg (u8s l) ∧ d = bytesData l ∧ p = [] ∧ l.length = n ∧ ∀ x ∈ l, x < 256 := by
  have hv' := hv
  unfold Value.okWide at hv'
  rw [ht] at hv'
  obtain ⟨cs, rfl, hsz, _⟩ := hv'
  rw [hct] at hsz
  obtain ⟨fuel, hf⟩ := h
  obtain ⟨xs, m, _, hx, hl, hxl, hi⟩ := DataW.trod_array ht hf
  have hc : (Value.agg cs).cells.toList = cs.toList := rfl
  rw [hc, cells5'] at hi
  have key : ∀ i, i < n → ∃ z : Nat, cs.toList[i]? = some (.int .u8 z) ∧ xs[i]? = some (.lit (.int .u8 z), []) ∧ z < 256 := by
    intro i hin
    have e := hi i hin
    have hlt : i < cs.toList.length := by simpa [hsz] using hin
    rw [Nat.mul_one, List.drop_eq_getElem_cons hlt] at e
    have hex : ∃ y, xs[i]? = some y := ⟨xs[i], by simp [hxl, hin]⟩
    obtain ⟨y, hy⟩ := hex
    rw [hy] at e
    obtain ⟨z, hz1, rfl, hwf⟩ := DataW.trod_int Tryd.underlying5 e
    have hb := wf_u8 hwf
    obtain ⟨k, rfl⟩ := Int.eq_ofNat_of_zero_le hb.1
    refine ⟨k, ?_, hy, by omega⟩
    rw [List.getElem?_eq_getElem hlt]
    simpa using hz1
  refine ⟨cs.toList.map fun v => (intOf v).toNat, ?_, ?_, ?_, by simp [hsz], ?_⟩
  · congr 1
    apply Array.ext'
    simp only [u8s]
    apply List.ext_getElem?
    intro i
    by_cases hin : i < n
    · obtain ⟨z, h1, _, _⟩ := key i hin
      simp only [List.map_map, List.getElem?_map, h1, Option.map_some]
      rfl
    · rw [List.getElem?_eq_none (by simp; omega), List.getElem?_eq_none (by simp; omega)]
  · have := congrArg Prod.fst hx
    simp only at this
    rw [this, bytesData]
    congr 1
    apply List.ext_getElem?
    intro i
    by_cases hin : i < n
    · obtain ⟨z, h1, h2, _⟩ := key i hin
      simp only [List.map_map, List.getElem?_map, h1, h2, Option.map_some]
      rfl
    · rw [List.getElem?_eq_none (by simp; omega), List.getElem?_eq_none (by simp; omega)]
  · have := congrArg Prod.snd hx
    simp only at this
    rw [this]
    apply List.flatMap_eq_nil_iff.2
    intro y hy
    obtain ⟨i, hin, rfl⟩ := List.getElem_of_mem hy
    obtain ⟨z, _, h2, _⟩ := key i (by omega)
    rw [List.getElem?_eq_getElem hin] at h2
    simp only [Option.some.injEq] at h2
    rw [h2]
  · intro x hx
    obtain ⟨v, hv, rfl⟩ := List.mem_map.1 hx
    obtain ⟨i, hin, rfl⟩ := List.getElem_of_mem hv
    obtain ⟨z, h1, _, hz⟩ := key i (by simp [hsz] at hin; omega)
    rw [List.getElem?_eq_getElem hin] at h1
    simp only [Option.some.injEq] at h1
    rw [h1]
    exact hz
theorem cellsOf33 : Tryd.prog.cellsOf 33 = 5 := by kernel_rfl
theorem cellsOf23 : Tryd.prog.cellsOf 23 = 32 := by kernel_rfl
theorem open_bytes5 {r : Reach} {b0 : Nat} {v : Value} {d : DataW H} {p : List MemPlace} (hv : Value.okWide Tryd.prog w r b0 33 v) (h : DataW.Trod enc Tryd.prog w base sp held 33 v d p) :
    ∃ l : List Nat, v = .agg (u8s l) ∧ d = bytesData l ∧ p = [] ∧ l.length = 5 ∧ ∀ x ∈ l, x < 256 := open_bytes Tryd.underlying33 cellsOf33 hv h
theorem open_bytes32 {r : Reach} {b0 : Nat} {v : Value} {d : DataW H} {p : List MemPlace} (hv : Value.okWide Tryd.prog w r b0 23 v) (h : DataW.Trod enc Tryd.prog w base sp held 23 v d p) :
    ∃ l : List Nat, v = .agg (u8s l) ∧ d = bytesData l ∧ p = [] ∧ l.length = 32 ∧ ∀ x ∈ l, x < 256 := open_bytes Tryd.underlying23 cellsOf23 hv h
theorem shut_bytes5 {l : List Nat} (hl : l.length = 5) (hb : ∀ x ∈ l, x < 256) : DataW.Trod enc Tryd.prog w base sp held 33 (.agg (u8s l)) (bytesData l) [] := shut_bytes Tryd.underlying33 cellsOf33 hl hb
theorem shut_bytes32 {l : List Nat} (hl : l.length = 32) (hb : ∀ x ∈ l, x < 256) : DataW.Trod enc Tryd.prog w base sp held 23 (.agg (u8s l)) (bytesData l) [] := shut_bytes Tryd.underlying23 cellsOf23 hl hb
end
end Go.Proofs.YtmcjkciicbmdfaaDoor
