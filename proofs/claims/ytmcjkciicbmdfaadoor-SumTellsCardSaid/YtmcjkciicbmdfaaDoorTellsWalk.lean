import Derived.Test.YtmcjkciicbmdfaaDoorRefSha
import Derived.Test.YtmcjkciicbmdfaaDoorRefRead
import Derived.Test.YtmcjkciicbmdfaaDoorRefCrc
import Derived.Test.YtmcjkciicbmdfaaDoorRefHex
import Derived.Test.YtmcjkciicbmdfaaDoorOrderWalk
namespace Go.Proofs.YtmcjkciicbmdfaaDoor
open Go.RowKit SumMath
theorem readV_two (l : List Nat) : ∃ Z : List Nat, Z.length = 32 ∧ readV l = u8s Z := by
  rw [readV]
  split
  · exact ⟨_, rd_length _ _, rfl⟩
  · exact ⟨List.replicate 32 0, rfl, rfl⟩
/-- Read and its reference give the same -/
theorem reads_alike (t : ByteArray) (ht : t.size ≤ maxLen) : ∃ (Z : List Nat) (k : Bool), Z.length = 32 ∧
    (∀ w, Calls Tryd.prog 9 #[.string t] w fun e w' => e = .returned (.tuple #[.agg (u8s Z), .bool k]) ∧ Below w.heap.size w w') ∧
    (∀ w, Calls Tryd.prog 10 #[.string t] w fun e w' => e = .returned (.tuple #[.agg (u8s Z), .bool k]) ∧ Below w.heap.size w w') := by
  obtain ⟨Z, hl, hz⟩ := readV_two (nats t)
  exact ⟨Z, readOk (nats t), hl, fun w => hz ▸ read_any t ht w, fun w => hz ▸ refread_any t ht w⟩
theorem shas_alike (s : ByteArray) (hs : s.size ≤ 100000) : ∃ Z : List Nat, Z.length = 32 ∧
    (∀ w, Rounds w → Calls Tryd.prog 13 #[.string s] w fun e w' => e = .returned (.agg (u8s Z)) ∧ Below w.heap.size w w') ∧
    (∀ w, Calls Tryd.prog 14 #[.string s] w fun e w' => e = .returned (.agg (u8s Z)) ∧ Below w.heap.size w w') :=
  ⟨shaS (nats s), dgTo_length _ _, fun w h => sha_any s hs w h, fun w => refsha_any s hs w⟩
theorem crcs_alike (s : ByteArray) (hs : s.size ≤ maxLen) : ∃ c : Int,
    (∀ w, Calls Tryd.prog 11 #[.string s] w fun e w' => e = .returned (.int .u32 c) ∧ Below w.heap.size w w') ∧
    (∀ w, Calls Tryd.prog 12 #[.string s] w fun e w' => e = .returned (.int .u32 c) ∧ Below w.heap.size w w') :=
  ⟨crc (nats s), fun w => crc_any s hs w, fun w => (refcrc_any s hs w).mono fun _ _ ⟨he, hw⟩ => ⟨he, hw ▸ Below.refl _ _⟩⟩
theorem hexes_alike (d : List Nat) (h32 : d.length = 32) (hd : ∀ x ∈ d, x < 256) : ∃ r : ByteArray,
    (∀ w, Calls Tryd.prog 15 #[.agg (u8s d)] w fun e w' => e = .returned (.string r) ∧ Below w.heap.size w w') ∧
    (∀ w, Calls Tryd.prog 16 #[.agg (u8s d)] w fun e w' => e = .returned (.string r) ∧ Below w.heap.size w w') :=
  ⟨strOf (ho d 32), hex_b d h32 hd, refhex_any d h32 hd⟩
theorem lesses_alike (a b : List Nat) (ha : a.length = 32) (hb : b.length = 32) : ∃ k : Bool,
    (∀ w, Calls Tryd.prog 17 #[.agg (u8s a), .agg (u8s b)] w fun e w' => e = .returned (.bool k) ∧ Below w.heap.size w w') ∧
    (∀ w, Calls Tryd.prog 18 #[.agg (u8s a), .agg (u8s b)] w fun e w' => e = .returned (.bool k) ∧ Below w.heap.size w w') :=
  ⟨lessL a b, less_any a b ha hb, refless_any a b ha hb⟩
theorem heap2 (w : World) (A B : Obj) : ((w.alloc A).alloc B).heap[w.heap.size]? = some A ∧ ((w.alloc A).alloc B).heap[w.heap.size + 1]? = some B := by
  have e : ((w.alloc A).alloc B).heap = (w.heap.push A).push B := rfl
  rw [e]
  refine ⟨?_, ?_⟩
  · rw [Array.getElem?_push, Array.size_push, if_neg (by omega), Array.getElem?_push, if_pos rfl]
  · rw [Array.getElem?_push, Array.size_push, if_pos rfl]
set_option maxRecDepth 100000 in
set_option maxHeartbeats 2000000 in
theorem tells_any (s : ByteArray) (ws : s.size ≤ maxLen) (t : ByteArray) (wt : t.size ≤ maxLen) (a : List Nat) (la : a.length = 32) (wa : ∀ x ∈ a, x < 256) (b : List Nat) (lb : b.length = 32) (_wb : ∀ x ∈ b, x < 256) (w : World) (hR : Rounds w) :
    Calls Tryd.prog 3 #[.string s, .string t, .agg (u8s a), .agg (u8s b)] w fun e w' => e = .returned (.bool true) ∧ Below w.heap.size w w' := by
  have La := Lib.hid la
  have Lb := Lib.hid lb
  have h3 := heap2 w (.cells (u8s a) 23) (.cells (u8s b) 23)
  have hb3 : Below w.heap.size w ((w.alloc (.cells (u8s a) 23)).alloc (.cells (u8s b) 23)) := (((Below.refl _ _).alloc (Nat.le_refl _) _).alloc (by simp) _)
  have ga := Lib.hid h3.1
  have gb := Lib.hid h3.2
  clear h3
  have hread := Lib.hid (reads_alike t wt)
  have hcrc := Lib.hid (crcs_alike s ws)
  have hhex := Lib.hid (hexes_alike a la wa)
  have hless := Lib.hid (lesses_alike a b la lb)
  clear la lb wa _wb wt
  unfold maxLen at ws
  go_enter Tryd.func3, Tryd.ntmps3
  go_wp2_with fail
  refine (small_any _ (hR.mono hb3)).mono ?_
  rintro e w1 ⟨rfl, b1⟩
  have d1 := below_then hb3 b1
  have ga := Lib.hid (below_keeps b1 ga.out)
  have gb := Lib.hid (below_keeps b1 gb.out)
  clear b1 hb3
  by_cases hlong : 100000 < s.size
  · go_wp2_with fail
    go_ret
    exact ⟨rfl, d1⟩
  · obtain ⟨X, hXl, hs1, hs2⟩ := shas_alike s (by omega)
    obtain ⟨Z, k, hZl, hr1, hr2⟩ := hread.out
    obtain ⟨c, hc1, hc2⟩ := hcrc.out
    obtain ⟨r, hx1, hx2⟩ := hhex.out
    obtain ⟨l, hl1, hl2⟩ := hless.out
    have XL := Lib.hid hXl
    have ZL := Lib.hid hZl
    have S1 := Lib.hid hs1
    have S2 := Lib.hid hs2
    have R1 := Lib.hid hr1
    have R2 := Lib.hid hr2
    have C1 := Lib.hid hc1
    have C2 := Lib.hid hc2
    have X1 := Lib.hid hx1
    have X2 := Lib.hid hx2
    have L1 := Lib.hid hl1
    have L2 := Lib.hid hl2
    clear hXl hs1 hs2 hZl hr1 hr2 hc1 hc2 hx1 hx2 hl1 hl2 hread hcrc hhex hless
    go_wp2_with fail
    refine (R1.out _).mono ?_
    rintro e w2 ⟨rfl, b2⟩
    go_upto_region 5 with (refine wpList_store_row rfl 23 _ _ rfl w2.heap.size (u8s Z) rfl rfl 23 z32 (heap_alloc_new _ _) (by rw [u8s_size, ZL.out]; exact info23) (by rw [u8s_size, ZL.out]; rfl) (u8s_one _) ?_)
    rw [z32_lit]
    obtain ⟨gd, c4⟩ := lay_row w2 z32 (u8s Z) 23
    have d4 := below_then d1 (below_then b2 c4)
    have ga := Lib.hid (below_keeps (below_then b2 c4) ga.out)
    have gb := Lib.hid (below_keeps (below_then b2 c4) gb.out)
    have Gd := Lib.hid gd
    clear c4 d1 gd b2
    generalize (w2.alloc (.cells z32 23)).setRow w2.heap.size (u8s Z) = w4 at *
    generalize w2.heap.size = B1 at *
    go_wp2_with fail
    refine (R2.out _).mono ?_
    rintro e w5 ⟨rfl, b5⟩
    go_upto_region 6 with (refine wpList_store_row rfl 23 _ _ rfl w5.heap.size (u8s Z) rfl rfl 23 z32 (heap_alloc_new _ _) (by rw [u8s_size, ZL.out]; exact info23) (by rw [u8s_size, ZL.out]; rfl) (u8s_one _) ?_)
    rw [z32_lit]
    obtain ⟨ge, c5⟩ := lay_row w5 z32 (u8s Z) 23
    have d6 := below_then d4 (below_then b5 c5)
    have ga := Lib.hid (below_keeps (below_then b5 c5) ga.out)
    have gb := Lib.hid (below_keeps (below_then b5 c5) gb.out)
    have Gd := Lib.hid (below_keeps (below_then b5 c5) Gd.out)
    have Ge := Lib.hid ge
    clear c5 b5 d4 ge
    generalize (w5.alloc (.cells z32 23)).setRow w5.heap.size (u8s Z) = w6 at *
    generalize w5.heap.size = B2 at *
    have hR6 := hR.mono d6
    have hg := noGuard23
    have e1 := eq32 X XL.out
    have e2 := eq32 Z ZL.out
    have e3 : (c == c) = true := by simp
    have e4 : (r.toList == r.toList) = true := by simp
    have e5 : (k == k) = true := by simp
    have e6 : (l == l) = true := by simp
    try simp only [Act.put]
    refine wp_region_quiet_below (by kernel_rfl) (by kernel_rfl) ?_
    repeat (first
        | (go_big_quiet_want; refine quiet_load_row 23 _ rfl w.heap.size rfl 23 (u8s a) _ _ (grown_block ga.out) Tryd.underlying23 rfl (by rw [u8s_size, La.out]; exact info23) ?_; go_frame; go_big_quiet_on)
        | (go_big_quiet_want; refine quiet_load_row 23 _ rfl (w.heap.size + 1) rfl 23 (u8s b) _ _ (grown_block gb.out) Tryd.underlying23 rfl (by rw [u8s_size, Lb.out]; exact info23) ?_; go_frame; go_big_quiet_on)
        | (go_big_quiet_want; refine quiet_load_row 23 _ rfl B1 rfl 23 (u8s Z) _ _ (grown_block Gd.out) Tryd.underlying23 rfl (by rw [u8s_size, ZL.out]; exact info23) ?_; go_frame; go_big_quiet_on)
        | (go_big_quiet_want; refine quiet_load_row 23 _ rfl B2 rfl 23 (u8s Z) _ _ (grown_block Ge.out) Tryd.underlying23 rfl (by rw [u8s_size, ZL.out]; exact info23) ?_; go_frame; go_big_quiet_on)
        | go_big_quiet_step (first
          | (go_at_call 11; with_reducible exact Calls.regrown_of (C1.out _))
          | (go_at_call 12; with_reducible exact Calls.regrown_of (C2.out _))
          | (go_at_call 13; with_reducible exact Calls.regrown_of (S1.out _ (hR6.mono (below_regrown _ _ _))))
          | (go_at_call 14; with_reducible exact Calls.regrown_of (S2.out _))
          | (go_at_call 15; with_reducible exact Calls.regrown_of (X1.out _))
          | (go_at_call 16; with_reducible exact Calls.regrown_of (X2.out _))
          | (go_at_call 17; with_reducible exact Calls.regrown_of (L1.out _))
          | (go_at_call 18; with_reducible exact Calls.regrown_of (L2.out _))))
    refine wpQuiet_nil ?_
    intro _ hw'
    obtain ⟨⟨dq, osq⟩, hw''⟩ := hw'
    subst hw''
    go_wp2_with fail
    go_ret
    exact ⟨rfl, below_then d6 (below_regrown _ _ _)⟩
end Go.Proofs.YtmcjkciicbmdfaaDoor
