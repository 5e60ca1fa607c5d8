import Derived.Test.YtmcjkciicbmdfaaDoorSmall
import Derived.StillTailTactics
namespace Go.Proofs.YtmcjkciicbmdfaaDoor
open Go.RowKit SumMath
theorem info33 : (Tryd.prog.info? 33).map (·.size) = some 5 := by kernel_rfl
def z5 : Array Value := u8s (List.replicate 5 0)
theorem z5_lit : #[Value.int IntKind.u8 0, Value.int IntKind.u8 0, Value.int IntKind.u8 0, Value.int IntKind.u8 0, Value.int IntKind.u8 0] = z5 := rfl
/-- the five bytes after the change, the first k of them -/
def oth (five : List Nat) (x k : Nat) : List Nat := (List.range 5).map fun i => if i < k then five.getD i 0 ^^^ (x / 2 ^ (8 * i) % 256) else 0
theorem oth_zero (five : List Nat) (x : Nat) : u8s (oth five x 0) = z5 := by unfold oth z5; congr 1
theorem oth_length (five : List Nat) (x k : Nat) : (oth five x k).length = 5 := by simp [oth]
theorem oth_set (five : List Nat) (x k : Nat) (h : k < 5) : (oth five x k).set k (five.getD k 0 ^^^ (x / 2 ^ (8 * k) % 256)) = oth five x (k + 1) := by
  apply List.ext_getElem?
  intro i
  simp only [oth, List.getElem?_set, List.getElem?_map, List.length_map, List.length_range]
  by_cases hi : i < 5
  · simp only [List.getElem?_range hi, Option.map_some]
    by_cases e : k = i
    · subst e; simp [h]
    · simp [e, show (i < k + 1) ↔ i < k by omega]
  · simp [hi, show k ≠ i by omega]
theorem oth_bytes (five : List Nat) (hf : ∀ x ∈ five, x < 256) (x k : Nat) : ∀ y ∈ oth five x k, y < 256 := by
  intro y hy
  simp only [oth, List.mem_map] at hy
  obtain ⟨i, _, rfl⟩ := hy
  split
  · exact Nat.xor_lt_two_pow (n := 8) (getD_lt five hf i) (Nat.mod_lt _ (by decide))
  · decide
theorem oth_five (five : List Nat) (h5 : five.length = 5) (x : Nat) : oth five x 5 = xor2 five [x % 256, x / 256 % 256, x / 65536 % 256, x / 16777216 % 256, x / 4294967296 % 256] := by
  match five, h5 with
  | [f0, f1, f2, f3, f4], _ => simp [oth, xor2, List.range, List.range.loop]
theorem wrapX (bn sh : Nat) (hb : bn < 4294967296) (hs : sh ≤ 8) : IntKind.u64.wrap ((bn : Int) * 2 ^ sh) = ((bn * 2 ^ sh : Nat) : Int) ∧ bn * 2 ^ sh < 18446744073709551616 := by
  have hp : 2 ^ sh ≤ 2 ^ 8 := Nat.pow_le_pow_right (by decide) hs
  have hl : bn * 2 ^ sh ≤ 4294967295 * 256 := Nat.mul_le_mul (by omega) hp
  refine ⟨?_, by omega⟩
  rw [IntKind.wrap_u64]
  have : ((bn : Int) * 2 ^ sh) = ((bn * 2 ^ sh : Nat) : Int) := by simp
  rw [this]
  omega
theorem burst_ne (bef aft : ByteArray) (five : List Nat) (bn sh : Nat) (h5 : five.length = 5) (hf : ∀ x ∈ five, x < 256) (hb0 : bn ≠ 0) (hb : bn < 4294967296) (hs : sh ≤ 8) :
    (((crc (nats (bef ++ strOf five ++ aft)) : Nat) : Int) != ((crc (nats (bef ++ strOf (oth five (bn * 2 ^ sh) 5) ++ aft)) : Nat) : Int)) = true := by
  have e1 : nats (bef ++ strOf five ++ aft) = nats bef ++ five ++ nats aft := by simp only [nats, ByteArray.data_append, Array.toList_append, List.map_append]; congr 2; exact nats_strOf five hf
  have e2 : nats (bef ++ strOf (oth five (bn * 2 ^ sh) 5) ++ aft) = nats bef ++ oth five (bn * 2 ^ sh) 5 ++ nats aft := by simp only [nats, ByteArray.data_append, Array.toList_append, List.map_append]; congr 2; exact nats_strOf _ (oth_bytes five hf _ _)
  have h := burst (nats bef) (nats aft) five (oth five (bn * 2 ^ sh) 5) (bn * 2 ^ sh) bn sh h5 hb hb0 hs rfl (oth_five five h5 _) (bytes_lt _) hf (bytes_lt _)
  rw [e1, e2]
  simp only [bne_iff_ne, ne_eq]
  omega
/-- memory: the five bytes in block g, the others in block b -/
structure Bu (w wr : World) (b : Nat) (F O : List Nat) : Prop where
  a : wr.heap[w.heap.size]? = some (.cells (u8s F) 33)
  c : wr.heap[b]? = some (.cells (u8s O) 33)
  hb : w.heap.size + 1 ≤ b
  below : Below w.heap.size w wr
theorem Bu.drew {w wr : World} {b : Nat} {F O : List Nat} (s : Bu w wr b F O) : Bu w wr.drew b F O := ⟨s.a, s.c, s.hb, s.below.drew⟩
theorem Bu.put {w wr : World} {b : Nat} {F O : List Nat} (s : Bu w wr b F O) (k x : Nat) : Bu w (wr.setCell ⟨b, k, none⟩ (.int .u8 x)) b F (O.set k x) := by
  have := s.hb
  refine ⟨?_, ?_, s.hb, s.below.setCell (by show w.heap.size ≤ b; omega) _⟩
  · rw [heap_setCell_other _ _ _ _ (by show w.heap.size ≠ b; omega)]; exact s.a
  · rw [heap_setCell_same _ _ _ _ _ _ s.c, u8s_set]
theorem Bu.gf {w wr : World} {b : Nat} {F O : List Nat} (s : Bu w wr b F O) (k : Nat) (hk : k < F.length) : wr.cell? ⟨w.heap.size, k, none⟩ = some (.int .u8 (F.getD k 0)) := (cell_of_row wr _ k _ _ _ s.a).trans (u8s_at F k hk)
theorem Bu.room {w wr : World} {b : Nat} {F O : List Nat} (s : Bu w wr b F O) (k : Nat) (hk : k < O.length) : ∃ v, wr.cell? ⟨b, k, none⟩ = some v := ⟨_, (cell_of_row wr b k _ _ _ s.c).trans (u8s_at O k hk)⟩
theorem Bu.free {w wr : World} {b : Nat} {F O : List Nat} (s : Bu w wr b F O) (k : Nat) : wr.frozen? ⟨b, k, none⟩ = false := frozen_of_row wr b k _ _ s.c
set_option maxRecDepth 100000 in
set_option maxHeartbeats 1000000 in
theorem burst_short (bef aft : ByteArray) (five : List Nat) (bn sh : Nat) (h1 : bef.size ≤ 1000) (h2 : aft.size ≤ 1000) (h5 : five.length = 5) (hf : ∀ x ∈ five, x < 256) (hb0 : bn ≠ 0) (hb : bn < 4294967296) (hs : sh ≤ 8) (w : World) (hR : Rounds w) :
    Calls Tryd.prog 4 #[.string bef, .string aft, .agg (u8s five), .int .u32 bn, .int .i64 sh] w fun e w' => e = .returned (.bool true) ∧ Below w.heap.size w w' := by
  have d1 : decide ((1000 : Int) < bef.size) = false := by simp; omega
  have d2 : decide ((1000 : Int) < aft.size) = false := by simp; omega
  have d3 : ((bn : Int) == 0) = false := by simp; omega
  have d4 : decide ((sh : Int) < 0) = false := by simp
  have d5 : decide ((8 : Int) < (sh : Int)) = false := by simp; omega
  have H5 := Lib.hid h5
  have Hf := Lib.hid hf
  have Hb0 := Lib.hid hb0
  clear h5 hf hb0
  have hR1 : Rounds (w.alloc (.cells (u8s five) 33)) := hR.mono ((Below.refl _ _).alloc (Nat.le_refl _) _)
  go_enter Tryd.func4, Tryd.ntmps4
  go_wp2_with fail
  refine (small_any _ hR1).mono ?_
  rintro e w1 ⟨rfl, b1⟩
  obtain ⟨hX, hX2⟩ := wrapX bn sh hb hs
  have hne := Lib.hid (burst_ne bef aft five bn sh H5.out Hf.out Hb0.out hb hs)
  generalize bn * 2 ^ sh = X at *
  go_upto_region 6 with (fail)
  rw [z5_lit]
  have st : Bu w (w1.alloc (.cells z5 33)) w1.heap.size five (oth five X 0) := by
    have hz := b1.size
    simp at hz
    refine ⟨?_, ?_, by omega, ((((Below.refl _ _).alloc (Nat.le_refl _) _).trans (b1.mono (by simp))).alloc (by omega) _)⟩
    · rw [heap_alloc_old _ _ (by omega), b1.block _ (by simp)]; exact heap_alloc_new _ _
    · rw [oth_zero]; exact heap_alloc_new _ _
  generalize w1.alloc (.cells z5 33) = w6 at *
  clear b1 hX
  generalize w1.heap.size = b at *
  go_wp2_with fail
  go_loopw [14] (fun i wr => ∃ k : Nat, k ≤ 5 ∧ i = .int .i64 k ∧ Bu w wr b five (oth five X k)) (fun i _ => 5 - (intOf i).toNat)
  case atStart => exact ⟨0, by omega, rfl, st⟩
  case round =>
    clear st
    obtain ⟨k, hk, rfl, st⟩ := hrel
    by_cases hlt : k < 5
    · have hdk : decide ((k : Int) < 5) = true := by simp; omega
      go_wp2_with fail
      have x0 : (0 : Int) ≤ (k : Int) := by omega
      have x1 : (k : Int) < 5 := by omega
      have x2 := IntWalk.i64_in (8 * (k : Int)) (by omega)
      have x3 : (0 : Int) ≤ 8 * (k : Int) := by omega
      refine wp_region_still_tail 11 (by kernel_rfl) (by kernel_rfl) ?_
      have st2 := st.drew
      change wpStill _ _ wr.drew (fun a' => wpList _ _ _ _ a' wr.drew) _ _
      generalize wr.drew = w2 at *
      have gf := st2.gf k (by rw [H5.out]; exact hlt)
      have hff := getD_lt five Hf.out k
      have hos := Lib.hid (oth_set five X k hlt)
      generalize five.getD k 0 = f at *
      simp only [List.take_succ_cons, List.take_zero, List.drop_succ_cons, List.drop_zero]
      repeat still_step
      refine wpStill_nil ?_
      obtain ⟨v, hc⟩ := st2.room k (by rw [oth_length]; exact hlt)
      have hf := st2.free k
      clear x2
      go_wp2_with fail
      go_roundw
      case rel =>
        refine ⟨k + 1, by omega, by go_num, ?_⟩
        have ex := u8_xor_nat f (X / 2 ^ (8 * k) % 256) hff (Nat.mod_lt _ (by decide))
        have ec : ((X / 2 ^ (8 * k) % 256 : Nat) : Int) = (X : Int) / 2 ^ (8 * k) % 256 := by simp
        rw [ec] at ex
        rw [ex, ← hos.out]
        exact st2.put k _
      case measure => simp [intOf]; omega
    · obtain rfl : k = 5 := by omega
      rw [show ((5 : Nat) : Int) = 5 from rfl]
      have hln := oth_length five X 5
      have s1 := strOf_size five
      rw [H5.out] at s1
      have s2 := strOf_size (oth five X 5)
      rw [hln] at s2
      have cv1 : ∀ (d : Nat) (os : Array Obj), (convert 36 9 (.slice (some ⟨w.heap.size, 0, none⟩) 5 5)).run Tryd.prog (Sort.grow (redrawn wr d) os) = .ok (.string (strOf five)) (Sort.grow (redrawn wr d) os) := fun d os => by
        have := run_bytes_row (Sort.grow (redrawn wr d) os) w.heap.size five 33 _ (grown_block st.a _ ⟨⟨d, os⟩, rfl⟩) 0 5 5 (by rw [H5.out]; decide)
        rwa [List.drop_zero, List.take_of_length_le (by rw [H5.out]; decide)] at this
      have cv2 : ∀ (d : Nat) (os : Array Obj), (convert 36 9 (.slice (some ⟨b, 0, none⟩) 5 5)).run Tryd.prog (Sort.grow (redrawn wr d) os) = .ok (.string (strOf (oth five X 5))) (Sort.grow (redrawn wr d) os) := fun d os => by
        have := run_bytes_row (Sort.grow (redrawn wr d) os) b (oth five X 5) 33 _ (grown_block st.c _ ⟨⟨d, os⟩, rfl⟩) 0 5 5 (by rw [hln]; decide)
        rwa [List.drop_zero, List.take_of_length_le (by rw [hln]; decide)] at this
      clear hln
      generalize strOf five = S1 at *
      generalize strOf (oth five X 5) = S2 at *
      have m1 := Lib.hid (show (bef ++ S1 ++ aft).size ≤ maxLen by rw [ByteArray.size_append, ByteArray.size_append]; unfold maxLen; omega)
      have m2 := Lib.hid (show (bef ++ S2 ++ aft).size ≤ maxLen by rw [ByteArray.size_append, ByteArray.size_append]; unfold maxLen; omega)
      go_wp2_with fail
      refine wp_region_quiet_below (by kernel_rfl) (by kernel_rfl) ?_
      repeat (first
        | go_big_quiet_step (first
          | (go_at_call 11; with_reducible exact Calls.regrown_of (crc_any _ m1.out _))
          | (go_at_call 11; with_reducible exact Calls.regrown_of (crc_any _ m2.out _))))
      refine wpQuiet_nil ?_
      intro _ hw'
      obtain ⟨⟨dq, osq⟩, hw''⟩ := hw'
      subst hw''
      go_wp2_with fail
      go_ret
      refine ⟨congrArg (fun x => Ending.returned (.bool x)) ?_, below_then st.below (below_regrown _ _ _)⟩
      have hq := hne.out
      simp only [nats, ByteArray.data_append, Array.toList_append, List.map_append, List.append_assoc] at hq
      exact hq
set_option maxRecDepth 100000 in
set_option maxHeartbeats 1000000 in
theorem burst_long (bef aft : ByteArray) (five : List Nat) (bn sh : Int) (h : 1000 < bef.size ∨ 1000 < aft.size ∨ bn = 0 ∨ sh < 0 ∨ 8 < sh) (w : World) (hR : Rounds w) :
    Calls Tryd.prog 4 #[.string bef, .string aft, .agg (u8s five), .int .u32 bn, .int .i64 sh] w fun e w' => e = .returned (.bool true) ∧ Below w.heap.size w w' := by
  have hR1 : Rounds (w.alloc (.cells (u8s five) 33)) := hR.mono ((Below.refl _ _).alloc (Nat.le_refl _) _)
  have hfin : ∀ w1, Below (w.alloc (.cells (u8s five) 33)).heap.size (w.alloc (.cells (u8s five) 33)) w1 → Below w.heap.size w w1 := fun w1 b1 => below_then ((Below.refl _ _).alloc (Nat.le_refl _) _) b1
  have Hfin := Lib.hid hfin
  clear hfin
  by_cases c1 : 1000 < bef.size
  · have d1 : decide ((1000 : Int) < bef.size) = true := by simp; omega
    clear h c1
    go_enter Tryd.func4, Tryd.ntmps4
    go_wp2_with fail
    refine (small_any _ hR1).mono ?_
    rintro e w1 ⟨rfl, b1⟩
    go_wp2_with fail
    go_ret
    exact ⟨rfl, Hfin.out _ b1⟩
  · have d1 : decide ((1000 : Int) < bef.size) = false := by simp; omega
    by_cases c2 : 1000 < aft.size
    · have d2 : decide ((1000 : Int) < aft.size) = true := by simp; omega
      clear h c1 c2
      go_enter Tryd.func4, Tryd.ntmps4
      go_wp2_with fail
      refine (small_any _ hR1).mono ?_
      rintro e w1 ⟨rfl, b1⟩
      go_wp2_with fail
      go_ret
      exact ⟨rfl, Hfin.out _ b1⟩
    · have d2 : decide ((1000 : Int) < aft.size) = false := by simp; omega
      by_cases c3 : bn = 0
      · have d3 : (bn == 0) = true := by simp [c3]
        have C3 := Lib.hid c3
        clear h c1 c2 c3
        go_enter Tryd.func4, Tryd.ntmps4
        go_wp2_with fail
        refine (small_any _ hR1).mono ?_
        rintro e w1 ⟨rfl, b1⟩
        go_wp2_with fail
        go_ret
        exact ⟨rfl, Hfin.out _ b1⟩
      · have d3 : (bn == 0) = false := by simp [c3]
        by_cases c4 : sh < 0
        · have d4 : decide (sh < 0) = true := by simp; omega
          clear h c1 c2 c3
          go_enter Tryd.func4, Tryd.ntmps4
          go_wp2_with fail
          refine (small_any _ hR1).mono ?_
          rintro e w1 ⟨rfl, b1⟩
          go_wp2_with fail
          go_ret
          exact ⟨rfl, Hfin.out _ b1⟩
        · have d4 : decide (sh < 0) = false := by simp; omega
          have c5 : 8 < sh := by omega
          have d5 : decide ((8 : Int) < sh) = true := by simp; omega
          clear h c1 c2 c3
          go_enter Tryd.func4, Tryd.ntmps4
          go_wp2_with fail
          refine (small_any _ hR1).mono ?_
          rintro e w1 ⟨rfl, b1⟩
          go_wp2_with fail
          go_ret
          exact ⟨rfl, Hfin.out _ b1⟩
theorem burst_any (bef aft : ByteArray) (five : List Nat) (h5 : five.length = 5) (hf : ∀ x ∈ five, x < 256) (bn : Int) (w3 : (Lit.int .u32 bn).wf = true) (sh : Int) (_w4 : (Lit.int .i64 sh).wf = true) (w : World) (hR : Rounds w) :
    Calls Tryd.prog 4 #[.string bef, .string aft, .agg (u8s five), .int .u32 bn, .int .i64 sh] w fun e w' => e = .returned (.bool true) ∧ Below w.heap.size w w' := by
  have hbd : 0 ≤ bn ∧ bn < 4294967296 := by
    simp [Lit.wf, IntKind.min, IntKind.max, IntKind.signed, IntKind.bits] at w3
    omega
  by_cases h : 1000 < bef.size ∨ 1000 < aft.size ∨ bn = 0 ∨ sh < 0 ∨ 8 < sh
  · exact burst_long bef aft five bn sh h w hR
  · obtain ⟨n, rfl⟩ := Int.eq_ofNat_of_zero_le hbd.1
    obtain ⟨m, rfl⟩ := Int.eq_ofNat_of_zero_le (show 0 ≤ sh by omega)
    exact burst_short bef aft five n m (by omega) (by omega) h5 hf (by omega) (by omega) (by omega) w hR
end Go.Proofs.YtmcjkciicbmdfaaDoor
