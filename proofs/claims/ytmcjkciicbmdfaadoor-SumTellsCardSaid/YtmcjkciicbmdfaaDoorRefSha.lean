import Derived.Test.YtmcjkciicbmdfaaDoorRefPad
namespace Go.Proofs.YtmcjkciicbmdfaaDoor
open Go.RowKit SumMath
theorem absorb_congr (n : Nat) (H : List Int) (a b : List Nat) (h : a.take (64 * n) = b.take (64 * n)) : absorb n H a = absorb n H b := by
  induction n with
  | zero => rfl
  | succ n ih =>
    have h1 : a.take (64 * n) = b.take (64 * n) := by
      have := congrArg (List.take (64 * n)) h
      rwa [List.take_take, List.take_take, show min (64 * n) (64 * (n + 1)) = 64 * n by omega] at this
    have h2 : (a.drop (64 * n)).take 64 = (b.drop (64 * n)).take 64 := by
      have := congrArg (List.drop (64 * n)) h
      rwa [List.drop_take, List.drop_take, show 64 * (n + 1) - 64 * n = 64 by omega] at this
    simp only [absorb]
    rw [ih h1, h2]
theorem absorb_add (j m : Nat) (H : List Int) (a b : List Nat) (h : a.length = 64 * j) : absorb (j + m) H (a ++ b) = absorb m (absorb j H (a ++ b)) b := by
  induction m with
  | zero => rfl
  | succ m ih =>
    rw [← Nat.add_assoc]
    simp only [absorb]
    rw [ih, List.drop_append, List.drop_of_length_le (by omega), List.nil_append, h, show 64 * (j + m) - 64 * j = 64 * m by omega]
theorem zN_tail (l : List Nat) : zN l.length = (if (l.drop (64 * (l.length / 64))).length ≤ 55 then 64 else 128) - 9 - (l.drop (64 * (l.length / 64))).length := by
  rw [List.length_drop]
  unfold zN
  split <;> omega
theorem padS_split (l : List Nat) (sz : Nat) (hsz : sz = if (l.drop (64 * (l.length / 64))).length ≤ 55 then 64 else 128) :
    padS l ++ List.replicate (128 - sz) 0 = l.take (64 * (l.length / 64)) ++ tailTo (l.drop (64 * (l.length / 64))) (l.length * 8) sz 8 := by
  have hz := zN_tail l
  rw [← hsz] at hz
  rw [padS, hz, tailTo, Nat.mul_comm 8 l.length]
  rw [show sz - 1 - (l.drop (64 * (l.length / 64))).length - 8 = sz - 9 - (l.drop (64 * (l.length / 64))).length by omega]
  simp only [← List.append_assoc, List.take_append_drop]
theorem padS_length (l : List Nat) (sz : Nat) (hsz : sz = if (l.drop (64 * (l.length / 64))).length ≤ 55 then 64 else 128) : (padS l).length = 64 * (l.length / 64 + sz / 64) := by
  have hz := zN_tail l
  rw [← hsz] at hz
  simp only [padS, List.length_append, List.length_replicate, beTo_length, List.length_singleton, hz]
  rw [List.length_drop] at hsz ⊢
  split at hsz <;> omega
/-- the reference's blocks give the same state -/
theorem sha_pad (l : List Nat) (M : Nat) (hM : (padS l).length = 64 * M) : absorb M H0 (padS l) = shaState l := by
  have hsp := padS_split l _ rfl
  have hpl := padS_length l _ rfl
  have hM' : M = l.length / 64 + (if (l.drop (64 * (l.length / 64))).length ≤ 55 then 64 else 128) / 64 := by omega
  have htl : (l.take (64 * (l.length / 64))).length = 64 * (l.length / 64) := by rw [List.length_take]; omega
  unfold shaState
  simp only
  generalize hsz : (if (l.drop (64 * (l.length / 64))).length ≤ 55 then 64 else 128) = sz at *
  rw [absorb_congr M H0 (padS l) (padS l ++ List.replicate (128 - sz) 0) (by rw [List.take_append_of_le_length (by omega)]), hsp, hM', absorb_add _ _ _ _ _ htl]
  congr 1
  apply absorb_congr
  rw [List.take_append_of_le_length (by omega), List.take_take, Nat.min_self]
theorem padS_bytes (l : List Nat) (h : ∀ x ∈ l, x < 256) : ∀ x ∈ padS l, x < 256 := by
  intro x hx
  simp only [padS, List.mem_append, List.mem_singleton, List.mem_replicate, beTo, List.mem_map] at hx
  rcases hx with ((hx | rfl) | hx) | ⟨i, _, rfl⟩
  · exact h x hx
  · decide
  · omega
  · exact Nat.mod_lt _ (by decide)
structure Rh (w wr : World) (g : Nat) (D : List Nat) : Prop where
  a : wr.heap[w.heap.size]? = some (.cells z32 23)
  c : wr.heap[g]? = some (.cells (u8s D) 23)
  hb : w.heap.size + 1 ≤ g
  below : Below w.heap.size w wr
theorem Rh.put {w wr : World} {b : Nat} {T : List Nat} (s : Rh w wr b T) (k x : Nat) : Rh w (wr.setCell ⟨b, k, none⟩ (.int .u8 x)) b (T.set k x) := by
  have := s.hb
  refine ⟨?_, ?_, s.hb, s.below.setCell (by show w.heap.size ≤ b; omega) _⟩
  · rw [heap_setCell_other _ _ _ _ (by show w.heap.size ≠ b; omega)]; exact s.a
  · rw [heap_setCell_same _ _ _ _ _ _ s.c, u8s_set]
theorem Rh.room {w wr : World} {b : Nat} {T : List Nat} (s : Rh w wr b T) (k : Nat) (hk : k < T.length) : ∃ v, wr.cell? ⟨b, k, none⟩ = some v :=
  ⟨_, (cell_of_row wr b k _ _ _ s.c).trans (u8s_at T k hk)⟩
theorem Rh.free {w wr : World} {b : Nat} {T : List Nat} (s : Rh w wr b T) (k : Nat) : wr.frozen? ⟨b, k, none⟩ = false := frozen_of_row wr b k _ _ s.c
theorem own_grow5 {w w' : World} {base : Nat} {v : Value} {n : Nat} {xs : List Value} (h : w.ownsRow base 5 1 v n xs) (b : Below w.heap.size w w') : w'.ownsRow base 5 1 v n xs := by
  refine ⟨h.1, ?_⟩
  rcases h.2 with h0 | ⟨g, cap, cur, hv, hb, hg, r⟩
  · exact .inl h0
  · exact .inr ⟨g, cap, cur, hv, hb, below_keeps b hg, r⟩
theorem own_lt5 {w : World} {base : Nat} {g n cap : Nat} {xs : List Value} (h : w.ownsRow base 5 1 (.slice (some ⟨g, 0, none⟩) n cap) n xs) : g < w.heap.size := by
  rcases h.2 with ⟨h0, _⟩ | ⟨g', cap', cur, hv, hb, hg, r⟩
  · cases h0
  · injection hv with e1 e2 e3
    injection e1 with e1
    injection e1 with e1
    subst e1
    exact (Array.getElem?_eq_some_iff.1 hg).1
theorem bytesRow_at (s : ByteArray) (c j : Nat) (h : j < s.size) : (bytesRow s c)[j]? = some (.int .u8 s[j].toNat) := by
  have h' : j < s.data.size := h
  rw [bytesRow, Array.getElem?_append_left (by simpa using h'), Array.getElem?_map, Array.getElem?_eq_getElem h']
  rfl
set_option maxRecDepth 100000 in
set_option maxHeartbeats 2000000 in
theorem refsha_any (s : ByteArray) (hs : s.size ≤ 100000) (w : World) :
    Calls Tryd.prog 14 #[.string s] w fun e w' => e = .returned (.agg (u8s (shaS (nats s)))) ∧ Below w.heap.size w w' := by
  go_enter Tryd.func14, Tryd.ntmps14
  go_upto_region 1 with (fail)
  rw [z32_lit]
  have hcv := fun W => run_bytes_of_string (P := Tryd.prog) W 9 36 5 s Tryd.underlying9 Tryd.underlying36 Tryd.underlying5
  go_wp2_with fail
  have hst : ∃ (cap : Nat) (W : World), W = ((w.alloc (Obj.cells z32 23)).alloc (Obj.cells (bytesRow s (grownCap (w.alloc (Obj.cells z32 23)) s.size 0 5)) 5 ((bytesRow s (grownCap (w.alloc (Obj.cells z32 23)) s.size 0 5)).size, (bytesRow s (grownCap (w.alloc (Obj.cells z32 23)) s.size 0 5)).size + 1))).drew ∧ cap = grownCap (w.alloc (Obj.cells z32 23)) s.size 0 5 := ⟨_, _, rfl, rfl⟩
  obtain ⟨cap, W, hW, hcap⟩ := hst
  rw [← hW]
  have ga : W.heap[w.heap.size]? = some (.cells z32 23) := by rw [hW]; exact heap_alloc2_old w _ _
  have gb : ∃ fr, W.heap[w.heap.size + 1]? = some (.cells (bytesRow s cap) 5 fr) := ⟨_, by rw [hW, hcap]; exact heap_alloc2_new w _ _⟩
  have hbel : Below w.heap.size w W := by rw [hW]; exact ((((Below.refl _ _).alloc (Nat.le_refl _) _).alloc (by simp) _).drew)
  have hszW : w.heap.size + 2 = W.heap.size := by rw [hW]; show w.heap.size + 2 = (((w.heap.push _).push _)).size; simp
  rw [← hcap]
  clear hW hcap hcv
  obtain ⟨fr, gb⟩ := gb
  have hpc := padded_any (nats s) (by rw [nats_length]; exact hs) (w.heap.size + 1) cap W (by omega) (fun j u hu => by
    have hj : j < s.size := by
      have := (List.getElem?_eq_some_iff.1 hu).1
      rwa [vb_length, nats_length] at this
    rw [cell_of_row W _ j _ _ _ gb, bytesRow_at s cap j hj]
    rw [← hu]
    have := nats_getD s j hj
    simp only [vb, List.getElem?_map]
    rw [List.getElem?_eq_getElem (by rw [nats_length]; exact hj)]
    simp only [Option.map_some]
    congr 3
    simpa [List.getD, nats_length, hj] using this.symm)
  rw [nats_length] at hpc
  refine hpc.mono ?_
  rintro e w1 ⟨vp, rfl, op, b1⟩
  clear hpc
  obtain ⟨M, hM⟩ : ∃ M, (padS (nats s)).length = 64 * M := ⟨_, padS_length (nats s) _ rfl⟩
  have hst := Lib.hid (sha_pad (nats s) M hM)
  have hplb : (padS (nats s)).length ≤ 100200 := by
    simp only [padS, List.length_append, List.length_replicate, beTo_length, List.length_singleton, nats_length]
    have := zN_lt s.size; omega
  have hM0 : 0 < M := by
    simp only [padS, List.length_append, List.length_replicate, beTo_length, List.length_singleton] at hM
    omega
  generalize padS (nats s) = P at *
  obtain ⟨gp, pcap, hvp, hgp, hpcap⟩ := own_some op (by omega)
  subst hvp
  rw [hM] at op hpcap ⊢
  have HM := Lib.hid hM
  have hMb : 64 * M ≤ 100200 := by omega
  clear hM hplb
  go_wp2_with fail
  refine (firsts_any w1).mono ?_
  rintro e w2 ⟨vh, rfl, oh, b2⟩
  have dA := below_then hbel (below_then b1 b2)
  have ga := Lib.hid (below_keeps (below_then b1 b2) ga)
  have op := own_grow5 op b2
  have oh := own_low oh (show w.heap.size ≤ w1.heap.size by have := b1.size; omega)
  have lp := own_lt5 op
  have hz2 : w.heap.size + 2 ≤ w2.heap.size := by have := (below_then b1 b2).size; omega
  clear b1 b2 gb hbel hszW
  go_wp2_with fail
  go_loopw [4, 5] (fun v i wr => ∃ m : Nat, m ≤ M ∧ i = .int .i64 (64 * (m : Int)) ∧ wr.ownsRow w.heap.size 27 1 v 8 (vi (absorb m H0 P)) ∧ Below w2.heap.size w2 wr) (fun _ i _ => 64 * M - (intOf i).toNat)
  case atStart => exact ⟨0, by omega, rfl, oh, Below.refl _ _⟩
  case round =>
    clear oh
    obtain ⟨m, hm, rfl, oh, bel⟩ := hrel
    have Hl8 := Lib.hid (absorb_length m H0 P rfl)
    by_cases hlt : m < M
    · have hdk : decide (64 * (m : Int) < 64 * (M : Int)) = true := by simp; omega
      have hnx : Hid (absorb (m + 1) H0 P = compressS (absorb m H0 P) ((P.drop (64 * m)).take 64)) := rfl
      obtain ⟨gh, hcap, hvh, hgh, _⟩ := own_some oh (by decide)
      subst hvh
      have hcc : ∀ j, j < 64 → wr.cell? ⟨gp, 64 * m + j, none⟩ = some (.int .u8 (((P.drop (64 * m)).take 64).getD j 0)) := by
        intro j hj
        have hjP : 64 * m + j < P.length := by rw [HM.out]; omega
        rw [bel.cell (p := ⟨gp, 64 * m + j, none⟩) lp]
        refine own_cell op (64 * m + j) _ ?_
        simp [vb, List.getD, hj, hjP]
      have hhh : ∀ j, j < 8 → wr.cell? ⟨gh, j, none⟩ = some (.int .u32 ((absorb m H0 P).getD j 0)) := fun j hj => own_cell oh j _ (vi_at _ j (by rw [Hl8.out]; exact hj))
      have HCC := Lib.hid hcc
      have HHH := Lib.hid hhh
      clear hcc hhh
      have x1 : (0 : Int) ≤ 64 * (m : Int) := by omega
      have x2 : 64 * (m : Int) ≤ 64 * (m : Int) + 64 := by omega
      have x3 : 64 * (m : Int) + 64 ≤ (pcap : Int) := by omega
      have x5 : (64 * (m : Int)).toNat = 64 * m := by omega
      have x6 : (64 * (m : Int) + 64).toNat = 64 * m + 64 := by omega
      have x8 : 64 * m + 64 - 64 * m = 64 := by omega
      have x9 : ¬ (pcap = 64 * m) := by omega
      generalize absorb m H0 P = A at *
      go_wp2_with fail
      refine (block_any A Hl8.out gh hcap ((P.drop (64 * m)).take 64) gp (64 * m) _ wr HHH.out HCC.out).mono ?_
      rintro e w5 ⟨v5, rfl, o5, b5⟩
      have hz5 := bel.size
      have o5 := own_low o5 (show w.heap.size ≤ wr.heap.size by omega)
      clear x1 x2 x3 x5 x6 x8 x9 HHH HCC
      go_wp2_with fail
      go_roundw
      case rel => exact ⟨m + 1, by omega, by go_num, by rw [hnx.out]; exact o5, below_then bel b5⟩
      case measure => simp [intOf]; omega
    · obtain rfl : m = M := by omega
      have hdk : decide (64 * (m : Int) < 64 * (m : Int)) = false := by simp
      rw [hst.out] at oh Hl8
      have hfin : Hid (shaS (nats s) = dgTo (shaState (nats s)) 32) := rfl
      generalize shaState (nats s) = R at *
      obtain ⟨gh, hcap, hvh, hgh, _⟩ := own_some oh (by decide)
      subst hvh
      have ga := Lib.hid (below_keeps bel ga.out)
      have dA := below_then dA bel
      have hzr := bel.size
      have hgl := own_lt oh
      have hhh : Hid (∀ j, j < 8 → wr.cell? ⟨gh, j, none⟩ = some (.int .u32 (R.getD j 0))) := fun j hj => own_cell oh j _ (vi_at _ j (by rw [Hl8.out]; exact hj))
      clear hst op lp oh hlt hm
      go_upto_region 8 with (fail)
      rw [z32_lit]
      have st : Rh w (wr.alloc (.cells z32 23)) wr.heap.size (dgTo R 0) := by
        refine ⟨?_, ?_, by omega, dA.alloc (by omega) _⟩
        · rw [heap_alloc_old _ _ (by omega)]; exact ga.out
        · rw [dgTo_zero]; exact heap_alloc_new _ _
      have hhh : Hid (∀ j, j < 8 → (wr.alloc (.cells z32 23)).cell? ⟨gh, j, none⟩ = some (.int .u32 (R.getD j 0))) := fun j hj => by
        rw [((Below.refl _ _).alloc (Nat.le_refl _) _ : Below wr.heap.size wr _).cell (p := ⟨gh, j, none⟩) hgl]; exact hhh.out j hj
      generalize wr.alloc (.cells z32 23) = w7 at *
      have hgb : gh < wr.heap.size := hgl
      generalize wr.heap.size = b9 at *
      clear ga dA bel hzr
      go_wp2_with fail
      go_loopw [7] (fun i wx => ∃ k : Nat, k ≤ 32 ∧ i = .int .i64 k ∧ Rh w wx b9 (dgTo R k) ∧ Hid (∀ j, j < 8 → wx.cell? ⟨gh, j, none⟩ = some (.int .u32 (R.getD j 0)))) (fun i _ => 32 - (intOf i).toNat)
      case atStart => exact ⟨0, by omega, rfl, st, hhh⟩
      case round =>
        clear st hhh
        obtain ⟨k, hk, rfl, st, hhh⟩ := hrel
        by_cases hlt : k < 32
        · have hdk : decide ((k : Int) < 32) = true := by simp; omega
          have gc := hhh.out (k / 4) (by omega)
          obtain ⟨v, hc⟩ := st.room k (by rw [dgTo_length]; exact hlt)
          have hf := st.free k
          have dp := st.put k (byteAt R k)
          rw [dgTo_set _ _ hlt] at dp
          have eb : ((byteAt R k : Nat) : Int) = R.getD (k / 4) 0 / 2 ^ (24 - 8 * (k % 4)) % 256 := by
            rw [byteAt]
            exact Int.toNat_of_nonneg (Int.emod_nonneg _ (by decide))
          rw [eb] at dp
          clear eb st
          generalize R.getD (k / 4) 0 = x at *
          have i1 : ((k : Int) / 4).toNat = k / 4 := by omega
          have i2 : (0 : Int) ≤ (k : Int) / 4 := by omega
          have i3 : (k : Int) / 4 < 8 := by omega
          have i4 : (24 - 8 * ((k : Int) % 4)).toNat = 24 - 8 * (k % 4) := by omega
          have i5 : (0 : Int) ≤ 24 - 8 * ((k : Int) % 4) := by omega
          go_wp2_with fail
          go_roundw
          case rel =>
            refine ⟨k + 1, by omega, by go_num, dp, fun j hj => ?_⟩
            rw [World.cell?_of_block (heap_setCell_other _ _ _ _ (by show gh ≠ b9; omega))]
            exact hhh.out j hj
          case measure => simp [intOf]; omega
        · obtain rfl : k = 32 := by omega
          have hln := Lib.hid (dgTo_length R 32)
          generalize dgTo R 32 = D at *
          have hout : Hid (∀ hh : True, (wr.setRow w.heap.size (u8s D)).heap[w.heap.size]? = some (.cells (u8s D) 23) ∧ Below w.heap.size w (wr.setRow w.heap.size (u8s D))) := fun _ => ⟨setRow_heap _ _ _ _ _ _ st.a, st.below.trans ⟨rfl, rfl, rfl, by simp, fun k hk => setRow_other _ _ _ _ (by omega)⟩⟩
          go_wp2_with (first | (refine wpList_load_row rfl 23 _ rfl b9 rfl 23 _ _ _ st.c Tryd.underlying23 rfl (by rw [u8s_size, hln.out]; exact info23) ?_) | (refine wpList_store_row rfl 23 _ _ rfl w.heap.size (u8s D) rfl rfl 23 z32 st.a (by rw [u8s_size, hln.out]; exact info23) (by rw [u8s_size, hln.out]; rfl) (u8s_one _) ?_))
          exact bodyPost_ret (results_cell_row Tryd.results14 _ _ w.heap.size 23 (u8s D) _ _ rfl (hout.out trivial).1 Tryd.underlying23 rfl (by rw [u8s_size, hln.out]; exact info23)) rfl ⟨by rw [hfin.out], (hout.out trivial).2⟩
end Go.Proofs.YtmcjkciicbmdfaaDoor
