import Derived.Test.YtmcjkciicbmdfaaDoorOrderMath
import Derived.Test.YtmcjkciicbmdfaaDoorAffineWalk
import Derived.Deep.RegionHeld3
import Derived.Deep.AppendLies
namespace Go.Proofs.YtmcjkciicbmdfaaDoor
open Go.RowKit SumMath
theorem hexl_snoc (l : List Nat) (x : Nat) : hexl (l ++ [x]) = hexl l ++ [hx (x / 16), hx (x % 16)] := by
  induction l with
  | nil => rfl
  | cons y l ih => simp [hexl, ih]
theorem take_snoc_nat (d : List Nat) (k : Nat) (h : k < d.length) : d.take (k + 1) = d.take k ++ [d.getD k 0] := by
  rw [List.take_succ_eq_append_getElem h]; simp [List.getD, h]
def vb (l : List Nat) : List Value := l.map fun n : Nat => Value.int .u8 n
set_option maxRecDepth 100000 in
set_option maxHeartbeats 1000000 in
theorem refhex_any (d : List Nat) (h32 : d.length = 32) (hd : ∀ x ∈ d, x < 256) (w : World) :
    Calls Tryd.prog 16 #[.agg (u8s d)] w fun e w' => e = .returned (.string (strOf (ho d 32))) ∧ Below w.heap.size w w' := by
  have Hd := Lib.hid hd
  have H32 := Lib.hid h32
  have hfin := Lib.hid (ho_hexl d h32)
  clear h32 hd
  obtain ⟨i0, hi, hz0, hz1, hz2⟩ := info_parts info5z
  go_enter Tryd.func16, Tryd.ntmps16
  go_wp2_with fail
  go_loopw [3, 4] (fun v i wr => ∃ k : Nat, k ≤ 32 ∧ i = .int .i64 k ∧ wr.ownsRow (w.heap.size + 1) 5 1 v (2 * k) (vb (hexl (d.take k))) ∧ Hid (wr.heap[w.heap.size]? = some (.cells (u8s d) 23)) ∧ Below w.heap.size w wr ∧ w.heap.size + 1 ≤ wr.heap.size) (fun _ i _ => 32 - (intOf i).toNat)
  case atStart => exact ⟨0, by omega, rfl, ⟨rfl, .inl ⟨rfl, rfl⟩⟩, heap_alloc_new _ _, (Below.refl _ _).alloc (Nat.le_refl _) _, by simp⟩
  case round =>
    obtain ⟨k, hk, rfl, own, g1, bel, hsz⟩ := hrel
    by_cases hlt : k < 32
    · have hdk : decide ((k : Int) < 32) = true := by simp; omega
      have c1 := (cell_of_row wr w.heap.size k _ _ _ g1.out).trans (u8s_at d k (by rw [H32.out]; exact hlt))
      have hx1 := getD_lt d Hd.out k
      have hsn : Hid (hexl (d.take (k + 1)) = hexl (d.take k) ++ [hx (d.getD k 0 / 16), hx (d.getD k 0 % 16)]) := by rw [take_snoc_nat d k (by rw [H32.out]; exact hlt), hexl_snoc]; rfl
      generalize d.getD k 0 = x at *
      have y1 : (0 : Int) ≤ (x : Int) / 16 := by omega
      have y2 : (x : Int) / 16 < 16 := by omega
      have y3 : (0 : Int) ≤ (x : Int) % 16 := by omega
      have y4 : (x : Int) % 16 < 16 := by omega
      have f1 : (x : Int).tdiv 16 = (x : Int) / 16 := by rw [Int.tdiv_eq_ediv_of_nonneg (by omega)]
      have f2 : (x : Int).tmod 16 = (x : Int) % 16 := by rw [Int.tmod_eq_emod_of_nonneg (by omega)]
      have f3 := IntWalk.u8_in ((x : Int) / 16) (by omega)
      have f4 := IntWalk.u8_in ((x : Int) % 16) (by omega)
      have f5 : ((x : Int) / 16).toNat = x / 16 := by omega
      have f6 : ((x : Int) % 16).toNat = x % 16 := by omega
      have z1 : x / 16 < 16 := by omega
      have z2 : x % 16 < 16 := by omega
      have x0 : (0 : Int) ≤ (k : Int) := by omega
      have x1 : (k : Int) < 32 := by omega
      have ag : some w.heap.size ≠ u3.ownBlock := by
        intro e
        have := own_block own _ e.symm
        omega
      have s2 : 2 * k + 2 ≤ maxLen := by unfold maxLen; omega
      go_wp2_with fail
      go_region_held3 (fun w' => w'.cell? ⟨w.heap.size, k, none⟩ = some (.int .u8 x)) (first | go_keep | (rw [grow3.cell_far _ (by simp; omega) ag]; assumption))
        ((refine step_append_lies _ (by rfl) _ _ _ (by rfl) (w.heap.size + 1) 5 i0 _ 1 1 Tryd.underlying36 hi hz0 hz1 hz2 rfl (by omega) u3 (2 * k) _ (by rfl) ((own.alloc _).drew) ⟨wr.heap.size, 0, none⟩ 2 2 [.int .u8 (hexB[x / 16]'z1).toNat, .int .u8 (hexB[x % 16]'z2).toNat] (by rfl) (by rfl) (World.news_of_block (cs := #[.int .u8 (hexB[x / 16]'z1).toNat, .int .u8 (hexB[x % 16]'z2).toNat]) (t := 5) (fr := (0, 0)) (heap_alloc_new wr _)) (by simp [Value.oneCell']) (by omega) s2 (by omega) (by simp; omega) (wr.heap.size + 1) (by simp) ?_; intro gg cap w3 own3 grow3 hat hlt3))
      all_goals
        go_wp2_with fail
        go_roundw
        case rel =>
          refine ⟨k + 1, by omega, by go_num, ?_, ?_, ?_, ?_⟩
          · rw [hsn.out, vb, List.map_append]
            rw [hx_at (x / 16) z1, hx_at (x % 16) z2] at own3
            exact own3
          · rw [grow3.block _ (by simp; omega) ag]
            show Hid ((wr.alloc _).heap[w.heap.size]? = _)
            rw [heap_alloc_old _ _ (by omega)]; exact g1
          · exact ((bel.alloc (by omega) _).drew).grown grow3 (by simp; omega) (fun q hq => by have := own_block own q hq; omega)
          · have := grow3.size; simp at this; omega
        case measure => simp [intOf]; omega
    · obtain rfl : k = 32 := by omega
      rw [List.take_of_length_le (by rw [H32.out]; decide), ← hfin.out] at own
      have hcv := run_bytes_own wr _ _ _ _ own
      clear own
      go_wp2_with fail
      go_ret
      exact ⟨rfl, bel⟩
end Go.Proofs.YtmcjkciicbmdfaaDoor
