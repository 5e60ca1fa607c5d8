import Derived.Test.YtmcjkciicbmdfaaDoorRefWords
namespace Go.Proofs.YtmcjkciicbmdfaaDoor
open Go.RowKit SumMath
theorem own_new (w : World) (l : List Int) (base : Nat) (hb : base ≤ w.heap.size) (hl : l.length ≤ maxLen) : (w.alloc (.cells (i32s l) 27)).ownsRow base 27 1 (.slice (some ⟨w.heap.size, 0, none⟩) l.length l.length) l.length (vi l) :=
  ⟨by simp [vi], .inr ⟨w.heap.size, l.length, i32s l, rfl, hb, heap_alloc_new _ _, Nat.le_refl _, hl, by rw [i32s_size]; omega, by simp only [i32s, vi, Nat.mul_one]; exact List.take_of_length_le (by simp)⟩⟩
set_option maxRecDepth 100000 in
set_option maxHeartbeats 1000000 in
theorem firsts_any (w : World) : Calls Tryd.prog 24 #[] w fun e w' => ∃ v, e = .returned v ∧ w'.ownsRow w.heap.size 27 1 v 8 (vi H0) ∧ Below w.heap.size w w' := by
  go_enter Tryd.func24, Tryd.ntmps24
  go_wp2_with fail
  go_ret
  exact ⟨_, rfl, own_new w H0 w.heap.size (Nat.le_refl _) (by decide), (Below.refl _ _).alloc (Nat.le_refl _) _⟩
set_option maxRecDepth 100000 in
set_option maxHeartbeats 1000000 in
theorem adds_any (w : World) : Calls Tryd.prog 29 #[] w fun e w' => ∃ v, e = .returned v ∧ w'.ownsRow w.heap.size 27 1 v 64 (vi kcs) ∧ Below w.heap.size w w' := by
  go_enter Tryd.func29, Tryd.ntmps29
  go_wp2_with fail
  go_ret
  exact ⟨_, rfl, own_new w kcs w.heap.size (Nat.le_refl _) (by decide), (Below.refl _ _).alloc (Nat.le_refl _) _⟩
theorem own_grow {w w' : World} {base : Nat} {v : Value} {n : Nat} {xs : List Value} (h : w.ownsRow base 27 1 v n xs) (b : Below w.heap.size w w') : w'.ownsRow base 27 1 v n xs := by
  refine ⟨h.1, ?_⟩
  rcases h.2 with h0 | ⟨g, cap, cur, hv, hb, hg, r⟩
  · exact .inl h0
  · exact .inr ⟨g, cap, cur, hv, hb, below_keeps b hg, r⟩
theorem own_low {w : World} {base base' : Nat} {v : Value} {n : Nat} {xs : List Value} (h : w.ownsRow base 27 1 v n xs) (hb : base' ≤ base) : w.ownsRow base' 27 1 v n xs := by
  refine ⟨h.1, ?_⟩
  rcases h.2 with h0 | ⟨g, cap, cur, hv, hb2, r⟩
  · exact .inl h0
  · exact .inr ⟨g, cap, cur, hv, by omega, r⟩
theorem own_lt {w : World} {base : Nat} {g n cap : Nat} {xs : List Value} (h : w.ownsRow base 27 1 (.slice (some ⟨g, 0, none⟩) n cap) n xs) : g < w.heap.size := by
  rcases h.2 with ⟨h0, _⟩ | ⟨g', cap', cur, hv, hb, hg, r⟩
  · cases h0
  · injection hv with e1 e2 e3
    injection e1 with e1
    injection e1 with e1
    subst e1
    exact (Array.getElem?_eq_some_iff.1 hg).1
theorem own_free {w : World} {base : Nat} {g n cap : Nat} {xs : List Value} (h : w.ownsRow base 27 1 (.slice (some ⟨g, 0, none⟩) n cap) n xs) (k : Nat) : w.frozen? ⟨g, k, none⟩ = false := by
  rcases h.2 with ⟨h0, _⟩ | ⟨g', cap', cur, hv, hb, hg, r⟩
  · cases h0
  · injection hv with e1 e2 e3
    injection e1 with e1
    injection e1 with e1
    subst e1
    exact frozen_of_row w g k cur 27 hg
theorem own_set {w : World} {base : Nat} {g n cap : Nat} {xs : List Value} (h : w.ownsRow base 27 1 (.slice (some ⟨g, 0, none⟩) n cap) n xs) (k : Nat) (u : Value) : (w.setCell ⟨g, k, none⟩ u).ownsRow base 27 1 (.slice (some ⟨g, 0, none⟩) n cap) n (xs.set k u) := by
  refine ⟨by rw [List.length_set]; exact h.1, ?_⟩
  rcases h.2 with ⟨h0, _⟩ | ⟨g', cap', cur, hv, hb, hg, hn, hc, hs, ht⟩
  · cases h0
  · injection hv with e1 e2 e3
    injection e1 with e1
    injection e1 with e1
    subst e1 e3
    refine .inr ⟨g, cap, cur.setIfInBounds k u, rfl, hb, heap_setCell_same w g k cur 27 u hg, hn, hc, by simpa using hs, ?_⟩
    rw [Array.toList_setIfInBounds, ← ht, List.take_set]
theorem mixAdd_comm (h v : List Int) : mixAdd h v = mixAdd v h := by
  unfold mixAdd
  rw [List.zipWith_comm]
  congr 1
  funext a b
  rw [Int.add_comm]
theorem vi_set (l : List Int) (k : Nat) (x : Int) : (vi l).set k (.int .u32 x) = vi (l.set k x) := by simp [vi, List.map_set]
theorem mixTo_setL (h v : List Int) (hl : h.length = 8) (vl : v.length = 8) (k : Nat) (hk : k < 8) : (vi (mixTo h v k)).set k (.int .u32 ((h.getD k 0 + v.getD k 0) % 4294967296)) = vi (mixTo h v (k + 1)) := by
  have := mixTo_set h v hl vl k hk
  have e := congrArg Array.toList this
  simpa [i32s, vi] using e
theorem gen_world {P : Program} {code : Code} {Q : Exit → Act → World → Prop} {a : Act} {W : World} {I : World → Prop} (hI : I W) (h : ∀ w', I w' → Code.wp P code Q a w') : Code.wp P code Q a W := h W hI
set_option maxRecDepth 100000 in
set_option maxHeartbeats 4000000 in
theorem block_any (h : List Int) (h8 : h.length = 8) (gh hc : Nat) (s : List Nat) (g off cap : Nat) (w : World) (hh : ∀ j, j < 8 → w.cell? ⟨gh, j, none⟩ = some (.int .u32 (h.getD j 0))) (hcells : ∀ j, j < 64 → w.cell? ⟨g, off + j, none⟩ = some (.int .u8 (s.getD j 0))) :
    Calls Tryd.prog 25 #[.slice (some ⟨gh, 0, none⟩) 8 hc, .slice (some ⟨g, off, none⟩) 64 cap] w fun e w' => ∃ v, e = .returned v ∧ w'.ownsRow w.heap.size 27 1 v 8 (vi (compressS h s)) ∧ Below w.heap.size w w' := by
  have hgl : gh < w.heap.size := block_lt_of_cell (hh 0 (by decide))
  have HC := Lib.hid hcells
  have HH := Lib.hid hh
  have H8 := Lib.hid h8
  clear hcells hh h8
  obtain ⟨i0, hi, hz0, hz1, hz2⟩ := info_parts info27z
  go_enter Tryd.func25, Tryd.ntmps25
  go_wp2_with fail
  refine (words_any s g off cap w HC.out).mono ?_
  rintro e w1 ⟨vw, rfl, ow, b1⟩
  go_wp2_with fail
  refine (adds_any w1).mono ?_
  rintro e w2 ⟨vk, rfl, ok, b2⟩
  have d2 := below_then b1 b2
  have ow := own_grow ow b2
  have ok := own_low ok b1.size
  obtain ⟨gw, wcap, hvw, hgw, hwc⟩ := own_some ow (by decide)
  subst hvw
  obtain ⟨gk, kcap, hvk, hgk, hkc⟩ := own_some ok (by decide)
  subst hvk
  clear b1 b2
  have hb2 := d2.size
  have hcg : Hid (∀ j u, (vi h)[j]? = some u → w2.cell? ⟨gh, 0 + j, none⟩ = some u) := by
    intro j u hu
    have hj : j < h.length := by
      have := (List.getElem?_eq_some_iff.1 hu).1
      simpa [vi] using this
    rw [vi_at h j hj] at hu
    rw [Nat.zero_add, d2.cell (p := ⟨gh, j, none⟩) hgl]
    rw [← hu]
    exact HH.out j (by rw [← H8.out]; exact hj)
  have oe : (w2.alloc (.cells #[] 27)).ownsRow w2.heap.size 27 1 (.slice (some ⟨w2.heap.size, 0, none⟩) 0 0) 0 [] :=
    ⟨rfl, .inr ⟨w2.heap.size, 0, #[], rfl, Nat.le_refl _, heap_alloc_new _ _, Nat.le_refl _, by decide, rfl, rfl⟩⟩
  have hnews : ∀ j u, (vi h)[j]? = some u → (w2.alloc (.cells #[] 27)).cell? ((⟨gh, 0, none⟩ : Addr).add j) = some u := by
    intro j u hu
    have hadd : (⟨gh, 0, none⟩ : Addr).add j = ⟨gh, 0 + j, none⟩ := by unfold Addr.add; split <;> simp_all
    rw [hadd, ((Below.refl _ _).alloc (Nat.le_refl _) _ : Below w2.heap.size w2 _).cell (p := ⟨gh, 0 + j, none⟩) (by show gh < w2.heap.size; omega)]
    exact hcg.out j u hu
  have hl8 : (vi h).length = 8 * 1 := by simp [vi, H8.out]
  have h1c : ∀ u ∈ vi h, u.oneCell' = true := by intro u hu; simp only [vi, List.mem_map] at hu; obtain ⟨z, _, rfl⟩ := hu; rfl
  have N1 := Lib.hid hnews
  have N2 := Lib.hid hl8
  have N3 := Lib.hid h1c
  clear hnews hl8 h1c hcg
  go_upto_region 4 with (at_builtin; refine wpList_append_own _ rfl _ _ 48 rfl w2.heap.size 27 i0 (.int .u32 0) 1 4 Tryd.underlying48 hi hz0 hz1 hz2 rfl (by decide) _ 0 [] rfl oe ⟨gh, 0, none⟩ 8 hc (vi h) rfl N2.out N1.out N3.out (by decide) (by decide) (by simp) ?_; intro v3 w3 ov g3 _)
  have d3 : Below w2.heap.size w2 w3 := ((Below.refl _ _).alloc (Nat.le_refl _) _ : Below w2.heap.size w2 (w2.alloc (.cells #[] 27))).grown g3 (by simp) (own_block oe)
  have d3' := below_then d2 d3
  have ow := own_grow ow d3
  have ok := own_grow ok d3
  have ov := own_low ov hb2
  simp only [Nat.zero_add, List.nil_append] at ov
  have hh3 : Hid (∀ j, j < 8 → w3.cell? ⟨gh, j, none⟩ = some (.int .u32 (h.getD j 0))) := fun j hj => (d3'.cell (p := ⟨gh, j, none⟩) hgl).trans (HH.out j hj)
  have hsz3 := d3'.size
  have lw := own_lt ow
  have lk := own_lt ok
  clear oe N1 N2 N3 g3 d3 d2 hb2
  go_wp2_with fail
  go_loopw [7, 8] (fun v i wr => ∃ k : Nat, k ≤ 64 ∧ i = .int .i64 k ∧ wr.ownsRow w.heap.size 27 1 v 8 (vi (vs h (wl s 64) k)) ∧ Below w3.heap.size w3 wr) (fun _ i _ => 64 - (intOf i).toNat)
  case atStart => exact ⟨0, by omega, rfl, ov, Below.refl _ _⟩
  case round =>
    clear ov
    obtain ⟨k, hk, rfl, ov, bel⟩ := hrel
    by_cases hlt : k < 64
    · have hdk : decide ((k : Int) < 64) = true := by simp; omega
      have hl8 := vs_length h (wl s 64) H8.out k
      obtain ⟨v0, v1, v2, v3, v4, v5, v6, v7, hv⟩ := eight _ hl8
      have hnx : Hid (vs h (wl s 64) (k + 1) = rnd (vs h (wl s 64) k) (kcs.getD k 0) ((wl s 64).getD k 0)) := rfl
      have gkc := (bel.cell (p := ⟨gk, k, none⟩) lk).trans (own_cell ok k _ (vi_at kcs k (by rw [kcs_length]; exact hlt)))
      have gwc := (bel.cell (p := ⟨gw, k, none⟩) lw).trans (own_cell ow k _ (vi_at (wl s 64) k (by rw [wl_length]; exact hlt)))
      generalize kcs.getD k 0 = kc at *
      generalize (wl s 64).getD k 0 = wi at *
      rw [hv] at ov hnx
      obtain ⟨gv, vcap, hvv, hgv, hvc⟩ := own_some ov (by decide)
      subst hvv
      have c0 := own_cell ov 0 _ (vi_at [v0, v1, v2, v3, v4, v5, v6, v7] 0 (by simp))
      have c1 := own_cell ov 1 _ (vi_at [v0, v1, v2, v3, v4, v5, v6, v7] 1 (by simp))
      have c2 := own_cell ov 2 _ (vi_at [v0, v1, v2, v3, v4, v5, v6, v7] 2 (by simp))
      have c3 := own_cell ov 3 _ (vi_at [v0, v1, v2, v3, v4, v5, v6, v7] 3 (by simp))
      have c4 := own_cell ov 4 _ (vi_at [v0, v1, v2, v3, v4, v5, v6, v7] 4 (by simp))
      have c5 := own_cell ov 5 _ (vi_at [v0, v1, v2, v3, v4, v5, v6, v7] 5 (by simp))
      have c6 := own_cell ov 6 _ (vi_at [v0, v1, v2, v3, v4, v5, v6, v7] 6 (by simp))
      have c7 := own_cell ov 7 _ (vi_at [v0, v1, v2, v3, v4, v5, v6, v7] 7 (by simp))
      simp only [List.getD_cons_zero, List.getD_cons_succ] at c0 c1 c2 c3 c4 c5 c6 c7
      clear hl8 hv
      have k0 : (0 : Int) ≤ (k : Int) := by omega
      have k1 : (k : Int) < 64 := by omega
      go_wp2_with fail
      go_quiet ((go_at_call 30; exact Calls.quiet_of (turn_any _ _ (by decide) _)))
      go_wp2_with fail
      go_quiet (fail)
      go_wp2_with fail
      go_quiet (fail)
      go_wp2_with fail
      refine gen_world (I := fun wx => wx.ownsRow w.heap.size 27 1 (.slice (some ⟨gv, 0, none⟩) 8 vcap) 8 (vi [v0, v1, v2, v3, v4, v5, v6, v7]) ∧ Below w3.heap.size w3 wx) ⟨ov, ⟨bel.os, bel.tape, bel.output, bel.size, bel.block⟩⟩ ?_
      clear ov bel c0 c1 c2 c3 c4 c5 c6 c7
      rintro wA ⟨ov, bel⟩
      clear gkc gwc
      have c0 := own_cell ov 0 _ (vi_at [v0, v1, v2, v3, v4, v5, v6, v7] 0 (by simp))
      have c1 := own_cell ov 1 _ (vi_at [v0, v1, v2, v3, v4, v5, v6, v7] 1 (by simp))
      have c2 := own_cell ov 2 _ (vi_at [v0, v1, v2, v3, v4, v5, v6, v7] 2 (by simp))
      have c3 := own_cell ov 3 _ (vi_at [v0, v1, v2, v3, v4, v5, v6, v7] 3 (by simp))
      have c4 := own_cell ov 4 _ (vi_at [v0, v1, v2, v3, v4, v5, v6, v7] 4 (by simp))
      have c5 := own_cell ov 5 _ (vi_at [v0, v1, v2, v3, v4, v5, v6, v7] 5 (by simp))
      have c6 := own_cell ov 6 _ (vi_at [v0, v1, v2, v3, v4, v5, v6, v7] 6 (by simp))
      have c7 := own_cell ov 7 _ (vi_at [v0, v1, v2, v3, v4, v5, v6, v7] 7 (by simp))
      simp only [List.getD_cons_zero, List.getD_cons_succ] at c0 c1 c2 c3 c4 c5 c6 c7
      go_quiet ((go_at_call 30; exact Calls.quiet_of (turn_any _ _ (by decide) _)))
      go_wp2_with fail
      go_quiet (fail)
      go_wp2_with fail
      refine gen_world (I := fun wx => wx.ownsRow w.heap.size 27 1 (.slice (some ⟨gv, 0, none⟩) 8 vcap) 8 (vi [v0, v1, v2, v3, v4, v5, v6, v7]) ∧ Below w3.heap.size w3 wx) ⟨ov, ⟨bel.os, bel.tape, bel.output, bel.size, bel.block⟩⟩ ?_
      clear ov bel c0 c1 c2 c3 c4 c5 c6 c7
      rintro wB ⟨ov, bel⟩
      refine wp_region_still_tail 28 (by kernel_rfl) (by kernel_rfl) ?_
      have ov2 : wB.drew.ownsRow w.heap.size 27 1 (.slice (some ⟨gv, 0, none⟩) 8 vcap) 8 (vi [v0, v1, v2, v3, v4, v5, v6, v7]) := ov
      have bel2 := bel.drew
      change wpStill _ _ wB.drew (fun a' => wpList _ _ _ _ a' wB.drew) _ _
      generalize wB.drew = wC at *
      have c0 := own_cell ov2 0 _ (vi_at [v0, v1, v2, v3, v4, v5, v6, v7] 0 (by simp))
      have c1 := own_cell ov2 1 _ (vi_at [v0, v1, v2, v3, v4, v5, v6, v7] 1 (by simp))
      have c2 := own_cell ov2 2 _ (vi_at [v0, v1, v2, v3, v4, v5, v6, v7] 2 (by simp))
      have c3 := own_cell ov2 3 _ (vi_at [v0, v1, v2, v3, v4, v5, v6, v7] 3 (by simp))
      have c4 := own_cell ov2 4 _ (vi_at [v0, v1, v2, v3, v4, v5, v6, v7] 4 (by simp))
      have c5 := own_cell ov2 5 _ (vi_at [v0, v1, v2, v3, v4, v5, v6, v7] 5 (by simp))
      have c6 := own_cell ov2 6 _ (vi_at [v0, v1, v2, v3, v4, v5, v6, v7] 6 (by simp))
      have c7 := own_cell ov2 7 _ (vi_at [v0, v1, v2, v3, v4, v5, v6, v7] 7 (by simp))
      simp only [List.getD_cons_zero, List.getD_cons_succ] at c0 c1 c2 c3 c4 c5 c6 c7
      simp only [List.take_succ_cons, List.take_zero, List.drop_succ_cons, List.drop_zero]
      repeat still_step
      refine wpStill_nil ?_
      go_wp2_with fail
      go_roundw
      case rel =>
        refine ⟨k + 1, by omega, by go_num, ?_, ?_⟩
        · rw [hnx.out]
          have hz : w.heap.size ≤ wC.heap.size := by have := bel2.size; omega
          exact own_new wC (rnd [v0, v1, v2, v3, v4, v5, v6, v7] kc wi) w.heap.size hz (by show 8 ≤ maxLen; decide)
        · exact bel2.alloc (by have := bel2.size; omega) _
      case measure => simp [intOf]; omega
    · obtain rfl : k = 64 := by omega
      clear hlt hk
      rw [show ((64 : Nat) : Int) = 64 from rfl]
      have vl := vs_length h (wl s 64) H8.out 64
      have hfin : Hid (compressS h s = mixAdd (vs h (wl s 64) 64) h) := by rw [compressS, mixAdd_comm]; rfl
      generalize vs h (wl s 64) 64 = V at *
      have Vl := Lib.hid vl
      clear vl
      obtain ⟨gv, vcap, hvv, hgv, hvc⟩ := own_some ov (by decide)
      subst hvv
      have bel := below_then d3' bel
      clear ow ok lw lk hh3 d3'
      have hdk : decide ((64 : Int) < 64) = false := by decide
      go_wp2_with fail
      go_loopw [14] (fun i wr => ∃ k : Nat, k ≤ 8 ∧ i = .int .i64 k ∧ wr.ownsRow w.heap.size 27 1 (.slice (some ⟨gv, 0, none⟩) 8 vcap) 8 (vi (mixTo V h k)) ∧ Below w.heap.size w wr) (fun i _ => 8 - (intOf i).toNat)
      case atStart => exact ⟨0, by omega, rfl, by rw [mixTo_zero]; exact ov, bel⟩
      case round =>
        clear ov bel
        obtain ⟨k, hk, rfl, ov, bel⟩ := hrel
        by_cases hlt : k < 8
        · have hd8 : decide ((k : Int) < 8) = true := by simp; omega
          have q1 : k < (mixTo V h k).length := by rw [mixTo_length V h Vl.out H8.out]; exact hlt
          have q3 := Lib.hid (mixTo_at V h Vl.out H8.out k hlt)
          have q4 := Lib.hid (mixTo_setL V h Vl.out H8.out k hlt)
          go_wp2_with fail
          have k0 : (0 : Int) ≤ (k : Int) := by omega
          have k1 : (k : Int) < 8 := by omega
          refine wp_region_still_tail 12 (by kernel_rfl) (by kernel_rfl) ?_
          have ov2 : wr.drew.ownsRow w.heap.size 27 1 (.slice (some ⟨gv, 0, none⟩) 8 vcap) 8 (vi (mixTo V h k)) := ov
          have bel2 := bel.drew
          change wpStill _ _ wr.drew (fun a' => wpList _ _ _ _ a' wr.drew) _ _
          generalize wr.drew = wC at *
          have gv0 := own_cell ov2 k _ (vi_at _ k q1)
          have gh0 := (bel2.cell (p := ⟨gh, k, none⟩) hgl).trans (HH.out k hlt)
          have hf := own_free ov2 k
          rw [q3.out] at gv0
          clear q1
          generalize h.getD k 0 = x at *
          generalize V.getD k 0 = y at *
          simp only [List.take_succ_cons, List.take_zero, List.drop_succ_cons, List.drop_zero]
          repeat still_step
          refine wpStill_nil ?_
          clear k0 k1
          go_wp2_with fail
          go_roundw
          case rel =>
            refine ⟨k + 1, by omega, by go_num, ?_, bel2.setCell hgv _⟩
            have := own_set ov2 k (.int .u32 ((y + x) % 4294967296))
            rw [← q4.out]
            exact this
          case measure => simp [intOf]; omega
        · obtain rfl : k = 8 := by omega
          rw [mixTo_all V h Vl.out H8.out, ← hfin.out] at ov
          go_wp2_with fail
          go_ret
          exact ⟨_, rfl, ov, bel⟩
end Go.Proofs.YtmcjkciicbmdfaaDoor
