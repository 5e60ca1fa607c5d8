import Derived.Test.YtmcjkciicbmdfaaDoorRead
namespace Go.Proofs.YtmcjkciicbmdfaaDoor
open Go.RowKit SumMath
def z64 : Array Value := u8s (List.replicate 64 0)
theorem z64_lit : #[Value.int IntKind.u8 0, Value.int IntKind.u8 0, Value.int IntKind.u8 0, Value.int IntKind.u8 0, Value.int IntKind.u8 0, Value.int IntKind.u8 0, Value.int IntKind.u8 0, Value.int IntKind.u8 0, Value.int IntKind.u8 0, Value.int IntKind.u8 0, Value.int IntKind.u8 0, Value.int IntKind.u8 0, Value.int IntKind.u8 0, Value.int IntKind.u8 0, Value.int IntKind.u8 0, Value.int IntKind.u8 0, Value.int IntKind.u8 0, Value.int IntKind.u8 0, Value.int IntKind.u8 0, Value.int IntKind.u8 0, Value.int IntKind.u8 0, Value.int IntKind.u8 0, Value.int IntKind.u8 0, Value.int IntKind.u8 0, Value.int IntKind.u8 0, Value.int IntKind.u8 0, Value.int IntKind.u8 0, Value.int IntKind.u8 0, Value.int IntKind.u8 0, Value.int IntKind.u8 0, Value.int IntKind.u8 0, Value.int IntKind.u8 0, Value.int IntKind.u8 0, Value.int IntKind.u8 0, Value.int IntKind.u8 0, Value.int IntKind.u8 0, Value.int IntKind.u8 0, Value.int IntKind.u8 0, Value.int IntKind.u8 0, Value.int IntKind.u8 0, Value.int IntKind.u8 0, Value.int IntKind.u8 0, Value.int IntKind.u8 0, Value.int IntKind.u8 0, Value.int IntKind.u8 0, Value.int IntKind.u8 0, Value.int IntKind.u8 0, Value.int IntKind.u8 0, Value.int IntKind.u8 0, Value.int IntKind.u8 0, Value.int IntKind.u8 0, Value.int IntKind.u8 0, Value.int IntKind.u8 0, Value.int IntKind.u8 0, Value.int IntKind.u8 0, Value.int IntKind.u8 0, Value.int IntKind.u8 0, Value.int IntKind.u8 0, Value.int IntKind.u8 0, Value.int IntKind.u8 0, Value.int IntKind.u8 0, Value.int IntKind.u8 0, Value.int IntKind.u8 0, Value.int IntKind.u8 0] = z64 := rfl
def hx (n : Nat) : Nat := if n < 10 then 48 + n else 87 + n
def hexB : ByteArray := ⟨#[48, 49, 50, 51, 52, 53, 54, 55, 56, 57, 97, 98, 99, 100, 101, 102]⟩
theorem hx_at : ∀ n : Nat, (h : n < 16) → (hexB[n]'h).toNat = hx n := by decide +kernel
theorem run_hexdigit (k : IntKind) (i : Int) (n : Nat) (h : n < 16) (e : i = n) (w : World) : (Instr.index 9 (.string hexB) (.int k i)).run Tryd.prog w = .ok (.int .u8 (hx n)) w := by
  subst e
  rw [run_index_string w 9 hexB k n Tryd.underlying9, dif_pos ⟨by omega, by show (n : Int) < 16; omega⟩]
  congr 3
  exact hx_at n h
theorem run_index_u8s (t e : TypeId) (ht : Tryd.prog.underlying t = some (.array 32 e)) (l : List Nat) (k : Nat) (h : k < l.length) (hl : l.length = 32) (w : World) (he : (part e (u8s l) k).run Tryd.prog w = .ok (.int .u8 (l.getD k 0)) w) (hs : (sizeOf e).run Tryd.prog w = .ok 1 w) : (Instr.index t (.agg (u8s l)) (.int .i64 k)).run Tryd.prog w = .ok (.int .u8 (l.getD k 0)) w := by
  have hk : (0 : Int) ≤ k ∧ (k : Int) < (32 : Nat) := by omega
  simp only [Instr.index, asIntOf, run_underlying ht, Sem.run_bind, Sem.run_pure, Result.andThen_ok]
  rw [if_pos hk]
  simp [hs, he]
theorem part5 (l : List Nat) (k : Nat) (h : k < l.length) (w : World) : (part 5 (u8s l) k).run Tryd.prog w = .ok (.int .u8 (l.getD k 0)) w := by
  simp [part, Tryd.isAgg5, Tryd.sizeOf5, u8s, h]
def ho (d : List Nat) (k : Nat) : List Nat := (List.range 64).map fun j => if j < 2 * k then hx (if j % 2 = 0 then d.getD (j / 2) 0 / 16 else d.getD (j / 2) 0 % 16) else 0
theorem ho_zero (d : List Nat) : u8s (ho d 0) = z64 := by unfold ho z64; congr 1
theorem ho_length (d : List Nat) (k : Nat) : (ho d k).length = 64 := by simp [ho]
theorem ho_cell (d : List Nat) (k : Nat) (h : k < 32) : ∃ v, (u8s (ho d k))[2 * k]? = some v := by
  have : 2 * k < (u8s (ho d k)).size := by rw [u8s_size, ho_length]; omega
  exact ⟨_, Array.getElem?_eq_getElem this⟩
theorem ho_cell1 (d : List Nat) (k : Nat) (h : k < 32) : ∃ v, (u8s (ho d k))[2 * k + 1]? = some v := by
  have : 2 * k + 1 < (u8s (ho d k)).size := by rw [u8s_size, ho_length]; omega
  exact ⟨_, Array.getElem?_eq_getElem this⟩
theorem ho_step (d : List Nat) (k : Nat) (h : k < 32) : ((u8s (ho d k)).setIfInBounds (2 * k) (.int .u8 (hx (d.getD k 0 / 16)))).setIfInBounds (2 * k + 1) (.int .u8 (hx (d.getD k 0 % 16))) = u8s (ho d (k + 1)) := by
  apply Array.ext_getElem?
  intro i
  simp only [u8s, ho, List.map_map, Array.getElem?_setIfInBounds, List.getElem?_toArray, List.getElem?_map, Array.size_setIfInBounds, List.size_toArray, List.length_map, List.length_range]
  by_cases hi : i < 64
  · simp only [List.getElem?_range hi, Option.map_some, Function.comp]
    by_cases e : 2 * k + 1 = i
    · subst e
      simp [show ¬ 64 ≤ 2 * k + 1 by omega, show 2 * k + 1 < 2 * (k + 1) by omega, show (2 * k + 1) / 2 = k by omega]
    · rw [if_neg e]
      by_cases e2 : 2 * k = i
      · subst e2
        simp [show 2 * k < 2 * (k + 1) by omega]; omega
      · rw [if_neg e2]
        by_cases c : i < 2 * k
        · simp [c, show i < 2 * (k + 1) by omega]
        · simp [c, show ¬ i < 2 * (k + 1) by omega]
  · rw [if_neg (by omega), if_neg (by omega)]
    simp [hi]
theorem and15_u8 (x : Nat) (h : x < 256) : bits .and .u8 (x : Int) 15 = ((x % 16 : Nat) : Int) := by
  have := u8_and_nat x 15 h (by decide)
  rw [nat_mask4] at this
  exact this
/-- the string of these bytes -/
def strOf (l : List Nat) : ByteArray := ⟨(l.map UInt8.ofNat).toArray⟩
theorem foldl_push (l : List Nat) : ∀ s : ByteArray, (l.map fun n : Nat => (n : Int)).foldl (fun r n => r.push (UInt8.ofNat n.toNat)) s = ⟨s.data ++ (l.map UInt8.ofNat).toArray⟩ := by
  induction l with
  | nil => intro s; simp
  | cons x l ih => intro s; rw [List.map_cons, List.foldl_cons, ih]; simp [ByteArray.push]
theorem run_bytes_row (w : World) (g : Nat) (l : List Nat) (t : TypeId) (fr : Nat × Nat) (hg : w.heap[g]? = some (.cells (u8s l) t fr)) (off len cap : Nat) (h : off + len ≤ l.length) :
    (convert 36 9 (.slice (some ⟨g, off, none⟩) len cap)).run Tryd.prog w = .ok (.string (strOf ((l.drop off).take len))) w := by
  rw [run_convert_bytes_string w 36 9 5 _ _ _ Tryd.underlying36 Tryd.underlying5 Tryd.underlying9]
  have hn : ((l.drop off).take len).length = len := by simp; omega
  have hl := run_loadCells_list (P := Tryd.prog) w ⟨g, off, none⟩ ((((l.drop off).take len).map fun n : Nat => (n : Int)).map (Value.int .u8)) (fun j v hv => by
    have hadd : (⟨g, off, none⟩ : Addr).add j = ⟨g, off + j, none⟩ := by unfold Addr.add; split <;> simp_all
    rw [hadd, cell_of_row w g _ _ t fr hg]
    simp only [u8s, List.getElem?_toArray, List.getElem?_map] at hv ⊢
    rw [List.getElem?_take] at hv
    split at hv
    · rw [List.getElem?_drop] at hv
      rw [← hv, Option.map_map]; rfl
    · simp at hv)
  rw [List.length_map, List.length_map, hn] at hl
  rw [run_bytesToString w _ len cap _ hl, foldl_push]
  simp [strOf]
set_option maxHeartbeats 400000 in
theorem hex_any (d : List Nat) (h32 : d.length = 32) (hd : ∀ k, d.getD k 0 < 256) (w : World) :
    Calls Tryd.prog 15 #[.agg (u8s d)] w fun e w' => e = .returned (.string (strOf (ho d 32))) ∧ Below w.heap.size w w' := by
  have Hd := Lib.hid hd
  have H32 := Lib.hid h32
  clear h32 hd
  go_enter Tryd.func15, Tryd.ntmps15
  go_upto_region 2 with (fail)
  rw [z64_lit]
  go_wp2_with (refine wpList_load_row rfl 23 _ rfl w.heap.size rfl 23 _ _ _ (heap_alloc2_old _ _ _) Tryd.underlying23 rfl (by rw [u8s_size, H32.out]; exact info23) ?_)
  go_loopw [7] (fun i wr => ∃ k : Nat, k ≤ 32 ∧ i = .int .i64 k ∧ wr = (w.alloc (.cells (u8s d) 23)).alloc (.cells (u8s (ho d k)) 51)) (fun i _ => 32 - (intOf i).toNat)
  case atStart => exact ⟨0, by omega, rfl, by rw [ho_zero]⟩
  case round =>
    obtain ⟨k, hk, rfl, rfl⟩ := hrel
    by_cases hlt : k < 32
    · have hdk : decide ((k : Int) < 32) = true := by simp; omega
      have hix := fun w => run_index_u8s 23 5 Tryd.underlying23 d k (by rw [H32.out]; exact hlt) H32.out w (part5 d k (by rw [H32.out]; exact hlt) w) (Tryd.sizeOf5 w)
      have hx1 := Hd.out k
      have hst := Lib.hid (ho_step d k hlt)
      generalize d.getD k 0 = x at *
      have ha := and15_u8 x hx1
      obtain ⟨v1, c1⟩ := ho_cell d k hlt
      obtain ⟨v2, c2⟩ := ho_cell1 d k hlt
      go_wp2
      go_roundw
      case rel =>
        refine ⟨k + 1, by omega, by go_num, ?_⟩
        rw [← hst.out, ← hx_at (x / 16) (by omega), ← hx_at (x % 16) (by omega)]
        rfl
      case measure => simp [intOf]; omega
    · obtain rfl : k = 32 := by omega
      have hcv := run_bytes_row _ (w.heap.size + 1) (ho d 32) 51 _ (heap_alloc2_new w (.cells (u8s d) 23) (.cells (u8s (ho d 32)) 51)) 0 64 64 (by rw [ho_length]; omega)
      rw [List.drop_zero, List.take_of_length_le (by rw [ho_length]; omega)] at hcv
      go_wp2
      go_ret
      exact ⟨rfl, ((Below.refl _ _).alloc (Nat.le_refl _) _).alloc (by simp) _⟩
end Go.Proofs.YtmcjkciicbmdfaaDoor
