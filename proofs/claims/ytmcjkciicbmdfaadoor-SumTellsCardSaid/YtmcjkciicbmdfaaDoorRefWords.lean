import Derived.Test.YtmcjkciicbmdfaaDoorRefTurn
import Derived.Deep.RegionLaw
namespace Go.Proofs.YtmcjkciicbmdfaaDoor
open Go.RowKit SumMath
theorem info27z : (Tryd.prog.info? 27).map (fun i => (i.zero, i.size, i.bytes)) = some (some (.int .u32 0), 1, 4) := by kernel_rfl
def vi (l : List Int) : List Value := l.map (Value.int .u32)
theorem own_cell {w : World} {base : Nat} {e : TypeId} {g : Nat} {n cap : Nat} {xs : List Value} (h : w.ownsRow base e 1 (.slice (some ⟨g, 0, none⟩) n cap) n xs) (k : Nat) (v : Value) (hk : xs[k]? = some v) : w.cell? ⟨g, k, none⟩ = some v := by
  obtain ⟨h1, h2⟩ := h
  rcases h2 with ⟨h, _⟩ | ⟨g', cap', cur, hv, hb, hg, hn, hc, hs, ht⟩
  · cases h
  · injection hv with e1 e2 e3
    injection e1 with e1
    injection e1 with e1
    subst e1
    rw [cell_of_row w g k cur _ _ hg]
    rw [← ht, List.getElem?_take] at hk
    split at hk
    · simpa using hk
    · cases hk
theorem vi_at (l : List Int) (k : Nat) (h : k < l.length) : (vi l)[k]? = some (.int .u32 (l.getD k 0)) := by simp [vi, h, List.getD]
theorem own_some {w : World} {base : Nat} {e : TypeId} {v : Value} {n : Nat} {xs : List Value} (h : w.ownsRow base e 1 v n xs) (hn : 0 < n) : ∃ g cap, v = .slice (some ⟨g, 0, none⟩) n cap ∧ base ≤ g ∧ n ≤ cap := by
  rcases h.2 with ⟨_, h0⟩ | ⟨g, cap, cur, rfl, hb, _, hc, _⟩
  · omega
  · exact ⟨g, cap, rfl, hb, hc⟩
set_option maxRecDepth 100000 in
set_option maxHeartbeats 2000000 in
theorem words_any (s : List Nat) (g off cap : Nat) (w : World) (hcells : ∀ j, j < 64 → w.cell? ⟨g, off + j, none⟩ = some (.int .u8 (s.getD j 0))) :
    Calls Tryd.prog 28 #[.slice (some ⟨g, off, none⟩) 64 cap] w fun e w' => ∃ v, e = .returned v ∧ w'.ownsRow w.heap.size 27 1 v 64 (vi (wl s 64)) ∧ Below w.heap.size w w' := by
  have hg : g < w.heap.size := block_lt_of_cell (hcells 0 (by decide))
  have HC := Lib.hid hcells
  clear hcells
  obtain ⟨i0, hi, hz0, hz1, hz2⟩ := info_parts info27z
  go_enter Tryd.func28, Tryd.ntmps28
  go_wp2_with fail
  go_loopw [3, 4] (fun v i wr => ∃ k : Nat, k ≤ 16 ∧ i = .int .i64 k ∧ wr.ownsRow w.heap.size 27 1 v k (vi (wl s k)) ∧ Below w.heap.size w wr) (fun _ i _ => 16 - (intOf i).toNat)
  case atStart => exact ⟨0, by omega, rfl, ⟨rfl, .inl ⟨rfl, rfl⟩⟩, Below.refl _ _⟩
  case round =>
    obtain ⟨k, hk, rfl, own, bel⟩ := hrel
    by_cases hlt : k < 16
    · have hdk : decide ((k : Int) < 16) = true := by simp; omega
      have c0 := (bel.cell (p := ⟨g, off + 4 * k, none⟩) hg).trans (HC.out (4 * k) (by omega))
      have c1 := (bel.cell (p := ⟨g, off + (4 * k + 1), none⟩) hg).trans (HC.out (4 * k + 1) (by omega))
      have c2 := (bel.cell (p := ⟨g, off + (4 * k + 2), none⟩) hg).trans (HC.out (4 * k + 2) (by omega))
      have c3 := (bel.cell (p := ⟨g, off + (4 * k + 3), none⟩) hg).trans (HC.out (4 * k + 3) (by omega))
      have hsn := Lib.hid (wl_word s k hlt)
      rw [word] at hsn
      generalize s.getD (4 * k) 0 = x0 at *
      generalize s.getD (4 * k + 1) 0 = x1 at *
      generalize s.getD (4 * k + 2) 0 = x2 at *
      generalize s.getD (4 * k + 3) 0 = x3 at *
      have a0 : (0 : Int) ≤ 4 * (k : Int) := by omega
      have a1 : (0 : Int) ≤ 4 * (k : Int) + 1 := by omega
      have a2 : (0 : Int) ≤ 4 * (k : Int) + 2 := by omega
      have a3 : (0 : Int) ≤ 4 * (k : Int) + 3 := by omega
      have b0 : 4 * (k : Int) < 64 := by omega
      have b1 : 4 * (k : Int) + 1 < 64 := by omega
      have b2 : 4 * (k : Int) + 2 < 64 := by omega
      have b3 : 4 * (k : Int) + 3 < 64 := by omega
      have ag : some g ≠ u3.ownBlock := by
        intro e
        have := own_block own _ e.symm
        omega
      have s1 := bel.size
      have s2 : k + 1 ≤ maxLen := by unfold maxLen; omega
      have e0 := IntWalk.i64_in (4 * (k : Int)) (by omega)
      have e1 := IntWalk.i64_in (4 * (k : Int) + 1) (by omega)
      have e2 := IntWalk.i64_in (4 * (k : Int) + 2) (by omega)
      have e3 := IntWalk.i64_in (4 * (k : Int) + 3) (by omega)
      have f0 : (4 * (k : Int)).toNat = 4 * k := by omega
      have f1 : (4 * (k : Int) + 1).toNat = 4 * k + 1 := by omega
      have f2 : (4 * (k : Int) + 2).toNat = 4 * k + 2 := by omega
      have f3 : (4 * (k : Int) + 3).toNat = 4 * k + 3 := by omega
      go_wp2_with fail
      go_region_held3 (fun w' => w'.cell? ⟨g, off + 4 * k, none⟩ = some (.int .u8 x0) ∧ w'.cell? ⟨g, off + (4 * k + 1), none⟩ = some (.int .u8 x1) ∧ w'.cell? ⟨g, off + (4 * k + 2), none⟩ = some (.int .u8 x2) ∧ w'.cell? ⟨g, off + (4 * k + 3), none⟩ = some (.int .u8 x3))
        (first
          | go_keep
          | (go_split_ands
             refine ⟨?_, ?_, ?_, ?_⟩ <;> (rw [grow3.cell_far _ (by simp; omega) ag]; assumption)))
        ((refine step_append_lies _ (by rfl) _ _ _ (by rfl) w.heap.size 27 i0 _ 1 4 Tryd.underlying48 hi hz0 hz1 hz2 rfl (by omega) u3 k _ (by rfl) ((own.alloc _).drew) ⟨wr.heap.size, 0, none⟩ 1 1 [.int .u32 (bits .or .u32 (bits .or .u32 (bits .or .u32 (IntKind.u32.wrap (IntKind.u32.wrap (x0 : Int) * 16777216)) (IntKind.u32.wrap (IntKind.u32.wrap (x1 : Int) * 65536))) (IntKind.u32.wrap (IntKind.u32.wrap (x2 : Int) * 256))) (IntKind.u32.wrap (x3 : Int)))] (by rfl) (by rfl) (World.news_of_block (cs := #[.int .u32 (bits .or .u32 (bits .or .u32 (bits .or .u32 (IntKind.u32.wrap (IntKind.u32.wrap (x0 : Int) * 16777216)) (IntKind.u32.wrap (IntKind.u32.wrap (x1 : Int) * 65536))) (IntKind.u32.wrap (IntKind.u32.wrap (x2 : Int) * 256))) (IntKind.u32.wrap (x3 : Int)))]) (t := 27) (fr := (0, 0)) (heap_alloc_new wr _)) (by simp [Value.oneCell']) (by omega) s2 (by omega) (by simp; omega) (wr.heap.size + 1) (by simp) ?_; intro gg gcap w3 own3 grow3 hat hlt3))
      clear e0 e1 e2 e3
      all_goals
        go_wp2_with fail
        go_roundw
        case rel =>
          refine ⟨k + 1, by omega, by go_num, ?_, ?_⟩
          · rw [hsn.out, vi, List.map_append]
            simp only [IntKind.wrap_u32'] at own3
            exact own3
          · exact ((bel.alloc (by omega) _).drew).grown grow3 (by simp; omega) (own_block own)
        case measure => simp [intOf]; omega
    · obtain rfl : k = 16 := by omega
      clear hlt hk
      rw [show ((16 : Nat) : Int) = 16 from rfl]
      go_wp2_with fail
      go_loopw [3, 5] (fun v i wr => ∃ k : Nat, 16 ≤ k ∧ k ≤ 64 ∧ i = .int .i64 k ∧ wr.ownsRow w.heap.size 27 1 v k (vi (wl s k)) ∧ Below w.heap.size w wr) (fun _ i _ => 64 - (intOf i).toNat)
      case atStart => exact ⟨16, by omega, by omega, rfl, own, bel⟩
      case round =>
        clear own bel
        obtain ⟨k, hk, hk2, rfl, own, bel⟩ := hrel
        by_cases hlt : k < 64
        · have hdk : decide ((k : Int) < 64) = true := by simp; omega
          obtain ⟨gw, gwcap, hv, hgw, hgwc⟩ := own_some own (by omega)
          subst hv
          have hle := wl_length s k
          have g16 := own_cell own (k - 16) _ (vi_at _ _ (by omega))
          have g15 := own_cell own (k - 15) _ (vi_at _ _ (by omega))
          have g7 := own_cell own (k - 7) _ (vi_at _ _ (by omega))
          have g2 := own_cell own (k - 2) _ (vi_at _ _ (by omega))
          have hnx := Lib.hid (wl_next s k (by omega))
          rw [next, sig0, sig1] at hnx
          generalize (wl s k).getD (k - 16) 0 = x16 at *
          generalize (wl s k).getD (k - 15) 0 = x15 at *
          generalize (wl s k).getD (k - 7) 0 = x7 at *
          generalize (wl s k).getD (k - 2) 0 = x2 at *
          clear hle
          have n1 : k ≤ maxLen := by unfold maxLen; omega
          go_wp2_with (first | (go_at_call 30; (with_reducible refine (turn7 _ _).mono ?_); rintro e w' ⟨rfl, nt, rfl⟩) | (go_at_call 30; (with_reducible refine (turn18 _ _).mono ?_); rintro e w' ⟨rfl, nt, rfl⟩) | (go_at_call 30; (with_reducible refine (turn17 _ _).mono ?_); rintro e w' ⟨rfl, nt, rfl⟩) | (go_at_call 30; (with_reducible refine (turn19 _ _).mono ?_); rintro e w' ⟨rfl, nt, rfl⟩))
          generalize hW : wr.drewN _ = w1
          have own1 : w1.ownsRow w.heap.size 27 1 (.slice (some ⟨gw, 0, none⟩) k gwcap) k (vi (wl s k)) := by rw [← hW]; exact own
          have bel1 : Below w.heap.size w w1 := by rw [← hW]; exact below_drewN bel _
          have g16 : w1.cell? ⟨gw, k - 16, none⟩ = some (.int .u32 x16) := by rw [← hW]; exact g16
          have g7 : w1.cell? ⟨gw, k - 7, none⟩ = some (.int .u32 x7) := by rw [← hW]; exact g7
          clear hW own bel g15 g2
          have s1 := bel1.size
          have s2 : k + 1 ≤ maxLen := by unfold maxLen; omega
          have gl : gw < w1.heap.size := block_lt_of_cell g7
          have j0 : (0 : Int) ≤ (k : Int) - 16 := by omega
          have j1 : (k : Int) - 16 < (k : Int) := by omega
          have j2 : (0 : Int) ≤ (k : Int) - 7 := by omega
          have j3 : (k : Int) - 7 < (k : Int) := by omega
          have i0' : (16 : Int) ≤ (k : Int) := by omega
          have i1' : (7 : Int) ≤ (k : Int) := by omega
          have j4 := IntWalk.i64_in ((k : Int) - 16) (by omega)
          have j5 := IntWalk.i64_in ((k : Int) - 7) (by omega)
          have j6 : ((k : Int) - 16).toNat = k - 16 := by omega
          have j7 : ((k : Int) - 7).toNat = k - 7 := by omega
          go_region_law ((refine step_append_lies _ (by rfl) _ _ _ (by rfl) w.heap.size 27 i0 _ 1 4 Tryd.underlying48 hi hz0 hz1 hz2 rfl (by omega) _ k _ (by rfl) ((own1.alloc _).drew) ⟨w1.heap.size, 0, none⟩ 1 1 [.int .u32 (IntKind.u32.wrap (IntKind.u32.wrap (IntKind.u32.wrap (x16 + bits .xor .u32 (bits .xor .u32 (rr 7 x15) (rr 18 x15)) (x15 / 8)) + x7) + bits .xor .u32 (bits .xor .u32 (rr 17 x2) (rr 19 x2)) (x2 / 1024)))] (by rfl) (by rfl) (World.news_of_block (cs := #[.int .u32 (IntKind.u32.wrap (IntKind.u32.wrap (IntKind.u32.wrap (x16 + bits .xor .u32 (bits .xor .u32 (rr 7 x15) (rr 18 x15)) (x15 / 8)) + x7) + bits .xor .u32 (bits .xor .u32 (rr 17 x2) (rr 19 x2)) (x2 / 1024)))]) (t := 27) (fr := (0, 0)) (heap_alloc_new w1 _)) (by simp [Value.oneCell']) (by omega) s2 (by omega) (by simp; omega) (w1.heap.size + 1) (by simp) ?_; intro gg gcap w3 own3 grow3 hat hlt3))
          clear j4 j5
          all_goals
            go_wp2_with fail
            go_roundw
            case rel =>
              refine ⟨k + 1, by omega, by omega, by go_num, ?_, ?_⟩
              · rw [hnx.out, vi, List.map_append]
                simp only [IntKind.wrap_u32', Int.emod_add_emod] at own3
                exact own3
              · exact ((bel1.alloc (by omega) _).drew).grown grow3 (by simp; omega) (own_block own1)
            case measure => simp [intOf]; omega
        · obtain rfl : k = 64 := by omega
          have hdk : decide ((64 : Int) < 64) = false := by decide
          go_wp2_with fail
          go_ret
          exact ⟨_, rfl, own, bel⟩
end Go.Proofs.YtmcjkciicbmdfaaDoor
