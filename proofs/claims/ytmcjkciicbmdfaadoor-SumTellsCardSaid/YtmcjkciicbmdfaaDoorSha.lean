import Derived.Test.YtmcjkciicbmdfaaDoorCompress
namespace Go.Proofs.YtmcjkciicbmdfaaDoor
open Go.RowKit SumMath
theorem wpStill_load_row {P : Program} {ops : Array Oper} {w : World} {Q : Act → Prop} {a : Act} {o : Oper} {rest : List Oper} (hgd : o.guard = none) (ty : TypeId) (x : Operand) (ho : o.op = .load ty x)
    (g : Nat) (hx : a.eval x = .pointer (some ⟨g, 0, none⟩)) (t : TypeId) (cs : Array Value) (fr : Nat × Nat) (d : TypeDesc) (hg : w.heap[g]? = some (.cells cs t fr))
    (hu : P.underlying ty = some d) (hd : (match d with | .struct _ | .array _ _ => true | _ => false) = true) (hi : (P.info? ty).map (·.size) = some cs.size)
    (h : wpStill P ops w Q rest (a.put o.dst (.agg cs))) : wpStill P ops w Q (o :: rest) a := by
  refine wpStill_step fun K hK => ?_
  have hw : Region.wanted o (yielded ops a.tmps) = true := by simp [Region.wanted, hgd]
  rw [if_pos hw]
  unfold Oper.still execOp
  simp only [ho, hx, Instr.loadAt, Instr.sureAddr, Sem.run_bind, Sem.run_pure, Result.andThen_ok, run_loadVar_row w g t ty cs fr d hg hu hd hi]
  exact ⟨rfl, hK _ h⟩
theorem strOf_size (l : List Nat) : (strOf l).size = l.length := by simp [strOf, ByteArray.size]
theorem nats_strOf (l : List Nat) (h : ∀ x ∈ l, x < 256) : nats (strOf l) = l := by
  simp only [nats, strOf, List.map_map]
  conv => rhs; rw [← List.map_id l]
  apply List.map_congr_left
  intro x hx
  simpa using Nat.mod_eq_of_lt (h x hx)
theorem nats_extract (s : ByteArray) (a b : Nat) : nats (s.extract a b) = ((nats s).drop a).take (b - a) := by
  simp [nats, ByteArray.extract, ByteArray.copySlice]
theorem info5 : (Tryd.prog.info? 5).map (·.size) = some 1 := by kernel_rfl
theorem run_copy_string (w : World) (g dLen dCap : Nat) (s : ByteArray) (cur : List Nat) (t : TypeId) (hg : w.heap[g]? = some (.cells (u8s cur) t (0, 0))) (h1 : s.size ≤ dLen) (h2 : s.size ≤ cur.length) (ty : TypeId) :
    (Builtin.copy_ #[36, 9] ty #[.slice (some ⟨g, 0, none⟩) dLen dCap, .string s]).run Tryd.prog w = .ok (goInt s.size) (w.setRow g (u8s (nats s ++ cur.drop s.size))) := by
  have hst := run_storeCells_at Tryd.prog g 0 t (s.data.toList.map fun b => Value.int .u8 b.toNat) 0 (u8s cur) w hg (by simp [u8s_size]; exact h2) (fun v hv => by simp at hv; obtain ⟨b, _, rfl⟩ := hv; rfl)
  have hd : (s.extract 0 (Nat.min s.size dLen)).data = s.data := by
    rw [show Nat.min s.size dLen = s.size from Nat.min_eq_left h1]
    simp
  have hm : (Nat.min s.size dLen : Nat) = s.size := Nat.min_eq_left h1
  have ht : (s.data.map fun b => Value.int .u8 b.toNat).toList = s.data.toList.map fun b => Value.int .u8 b.toNat := by simp
  have e : (List.take (0 + 0) (u8s cur).toList ++ (s.data.toList.map fun b => Value.int .u8 b.toNat) ++ List.drop (0 + 0 + (s.data.toList.map fun b => Value.int .u8 b.toNat).length) (u8s cur).toList).toArray = u8s (nats s ++ cur.drop s.size) := by
    simp [u8s, nats, Function.comp_def]
  rw [e] at hst
  cases hq : Tryd.prog.info? 5 with
  | none => have := info5; rw [hq] at this; cases this
  | some i =>
    have hi : i.size = 1 := by have := info5; rw [hq] at this; simpa using this
    simp [Builtin.copy_, run_underlying Tryd.underlying36, Builtin.lenOf, Builtin.firstCells, sizeOf, typeInfo, hq, hm]
    rw [List.take_of_length_le (by simp), hst]
    rfl

def zl128 : List Nat := List.replicate 128 0
def z128 : Array Value := u8s zl128
theorem zero46 (w : World) : (zeroValue 46).run Tryd.prog w = .ok (.agg z128) w := by kernel_rfl
/-- the tail: rest, a one bit, zeros, k bytes of the length, zeros -/
def beTo (L k : Nat) : List Nat := (List.range k).reverse.map fun i => L / 2 ^ (8 * i) % 256
def tailTo (r : List Nat) (L size k : Nat) : List Nat := r ++ [128] ++ List.replicate (size - 1 - r.length - k) 0 ++ beTo L k ++ List.replicate (128 - size) 0
theorem beTo_length (L k : Nat) : (beTo L k).length = k := by simp [beTo]
theorem beTo_succ (L k : Nat) : beTo L (k + 1) = (L / 2 ^ (8 * k) % 256) :: beTo L k := by simp [beTo, List.range_succ]
theorem tailTo_length (r : List Nat) (L size k : Nat) (h1 : r.length + 1 + k ≤ size) (h2 : size ≤ 128) : (tailTo r L size k).length = 128 := by simp [tailTo, beTo_length]; omega
theorem u8s_set (l : List Nat) (k x : Nat) : (u8s l).setIfInBounds k (.int .u8 x) = u8s (l.set k x) := by simp [u8s, List.map_set]
theorem set_mid (a b : List Nat) (x y k : Nat) (h : k = a.length) : (a ++ x :: b).set k y = a ++ y :: b := by subst h; simp
theorem tail_start (r : List Nat) (h : r.length < 128) : (r ++ zl128.drop r.length).set r.length 128 = r ++ [128] ++ List.replicate (127 - r.length) 0 := by
  have e : zl128.drop r.length = 0 :: List.replicate (127 - r.length) (0 : Nat) := by
    rw [zl128, List.drop_replicate, show 128 - r.length = (127 - r.length) + 1 by omega, List.replicate_succ]
  rw [e, set_mid _ _ _ _ _ rfl]
  simp
theorem tailTo_zero (r : List Nat) (L size : Nat) (h1 : r.length + 1 ≤ size) (h2 : size ≤ 128) : r ++ [128] ++ List.replicate (127 - r.length) 0 = tailTo r L size 0 := by
  simp only [tailTo, beTo, List.range_zero, List.reverse_nil, List.map_nil, List.append_nil, Nat.sub_zero]
  rw [List.append_assoc (r ++ [128]), List.replicate_append_replicate]
  congr 2
  omega
theorem tailTo_set (r : List Nat) (L size k : Nat) (h1 : r.length + 1 + k < size) : (tailTo r L size k).set (size - 1 - k) (L / 2 ^ (8 * k) % 256) = tailTo r L size (k + 1) := by
  have e : List.replicate (size - 1 - r.length - k) (0 : Nat) = List.replicate (size - 1 - r.length - (k + 1)) 0 ++ [0] := by
    rw [← List.replicate_succ', show size - 1 - r.length - k = size - 1 - r.length - (k + 1) + 1 by omega]
  rw [tailTo, tailTo, e, beTo_succ]
  have := set_mid (r ++ [128] ++ List.replicate (size - 1 - r.length - (k + 1)) 0) (beTo L k ++ List.replicate (128 - size) 0) 0 (L / 2 ^ (8 * k) % 256) (size - 1 - k) (by simp; omega)
  simpa [List.append_assoc] using this
theorem tailTo_bytes (r : ByteArray) (L size k : Nat) : ∀ x ∈ tailTo (nats r) L size k, x < 256 := by
  intro x hx
  simp only [tailTo, List.mem_append, List.mem_replicate, List.mem_singleton, beTo, List.mem_map] at hx
  rcases hx with (((hx | hx) | hx) | ⟨i, _, rfl⟩) | hx
  · exact bytes_lt _ x hx
  · omega
  · omega
  · exact Nat.mod_lt _ (by decide)
  · omega
def strLen : Value → Nat
  | .string s => s.size
  | _ => 0
def H0 : List Int := [1779033703, 3144134277, 1013904242, 2773480762, 1359893119, 2600822924, 528734635, 1541459225]
/-- n blocks of l, mixed into H -/
def absorb : Nat → List Int → List Nat → List Int
  | 0, H, _ => H
  | n + 1, H, l => compressS (absorb n H l) ((l.drop (64 * n)).take 64)
theorem absorb_length (n : Nat) (H : List Int) (l : List Nat) (h : H.length = 8) : (absorb n H l).length = 8 := by
  induction n with
  | zero => exact h
  | succ n ih => exact compressS_length _ _ ih
/-- the memory of Sha: the result, the state -/
structure Sh (w wr : World) (H : List Int) : Prop where
  a : wr.heap[w.heap.size]? = some (.cells z32 23)
  b : wr.heap[w.heap.size + 1]? = some (.cells (i32s H) 44)
  size : w.heap.size + 2 ≤ wr.heap.size
  below : Below w.heap.size w wr
theorem Sh.start (w : World) (z : Array Value) (H : List Int) : Sh w (((w.alloc (.cells z32 23)).alloc (.cells z 44)).setRow (w.heap.size + 1) (i32s H)) H := by
  refine ⟨?_, ?_, by simp, ?_⟩
  · rw [setRow_other _ _ _ _ (by omega)]; exact heap_alloc2_old _ _ _
  · exact setRow_heap _ _ _ _ _ _ (heap_alloc2_new _ _ _)
  · exact (((Below.refl _ _).alloc (Nat.le_refl _) _).alloc (by simp) _).trans ⟨rfl, rfl, rfl, by simp, fun k hk => setRow_other _ _ _ _ (by omega)⟩
theorem Sh.drew {w wr : World} {H : List Int} (s : Sh w wr H) : Sh w wr.drew H := ⟨s.a, s.b, s.size, s.below.drew⟩
theorem Sh.mono {w wr w1 : World} {H : List Int} (s : Sh w wr H) (hb : Below wr.heap.size wr w1) : Sh w w1 H := by
  have := s.size
  exact ⟨(hb.block _ (by omega)).trans s.a, (hb.block _ (by omega)).trans s.b, Nat.le_trans s.size hb.size, s.below.trans (hb.mono (by omega))⟩
theorem Sh.set {w wr : World} {H : List Int} (s : Sh w wr H) (K : List Int) : Sh w (wr.setRow (w.heap.size + 1) (i32s K)) K :=
  ⟨by rw [setRow_other _ _ _ _ (by omega)]; exact s.a, setRow_heap _ _ _ _ _ _ s.b, by simpa using s.size, s.below.trans ⟨rfl, rfl, rfl, by simp, fun k hk => setRow_other _ _ _ _ (by omega)⟩⟩
/-- the same with the tail in block b -/
structure Tl (w wr : World) (b : Nat) (H : List Int) (T : List Nat) : Prop where
  sh : Sh w wr H
  c : wr.heap[b]? = some (.cells (u8s T) 46)
  hb : w.heap.size + 2 ≤ b
theorem Tl.lt {w wr : World} {b : Nat} {H : List Int} {T : List Nat} (s : Tl w wr b H T) : b < wr.heap.size := (Array.getElem?_eq_some_iff.1 s.c).1
theorem Tl.start {w wr : World} {H : List Int} (s : Sh w wr H) (z : Array Value) (T : List Nat) : Tl w ((wr.alloc (.cells z 46)).setRow wr.heap.size (u8s T)) wr.heap.size H T := by
  have := s.size
  refine ⟨⟨?_, ?_, by simp; omega, ?_⟩, setRow_heap _ _ _ _ _ _ (heap_alloc_new _ _), s.size⟩
  · rw [setRow_other _ _ _ _ (by omega), heap_alloc_old _ _ (by omega)]; exact s.a
  · rw [setRow_other _ _ _ _ (by omega), heap_alloc_old _ _ (by omega)]; exact s.b
  · exact (s.below.alloc (by omega) _).trans ⟨rfl, rfl, rfl, by simp, fun k hk => setRow_other _ _ _ _ (by omega)⟩
theorem Tl.drew {w wr : World} {b : Nat} {H : List Int} {T : List Nat} (s : Tl w wr b H T) : Tl w wr.drew b H T := ⟨s.sh.drew, s.c, s.hb⟩
theorem Tl.put {w wr : World} {b : Nat} {H : List Int} {T : List Nat} (s : Tl w wr b H T) (k x : Nat) : Tl w (wr.setCell ⟨b, k, none⟩ (.int .u8 x)) b H (T.set k x) := by
  have := s.hb
  refine ⟨⟨?_, ?_, ?_, s.sh.below.setCell (by show w.heap.size ≤ b; omega) _⟩, ?_, s.hb⟩
  · rw [heap_setCell_other _ _ _ _ (by show w.heap.size ≠ b; omega)]; exact s.sh.a
  · rw [heap_setCell_other _ _ _ _ (by show w.heap.size + 1 ≠ b; omega)]; exact s.sh.b
  · have := s.sh.size; simpa [World.setCell] using this
  · rw [heap_setCell_same _ _ _ _ _ _ s.c, u8s_set]
theorem Tl.room {w wr : World} {b : Nat} {H : List Int} {T : List Nat} (s : Tl w wr b H T) (k : Nat) (hk : k < T.length) : ∃ v, wr.cell? ⟨b, k, none⟩ = some v :=
  ⟨_, (cell_of_row wr b k _ _ _ s.c).trans (u8s_at T k hk)⟩
theorem Tl.free {w wr : World} {b : Nat} {H : List Int} {T : List Nat} (s : Tl w wr b H T) (k : Nat) : wr.frozen? ⟨b, k, none⟩ = false := frozen_of_row wr b k _ _ s.c
theorem Tl.mono {w wr w1 : World} {b : Nat} {H : List Int} {T : List Nat} (s : Tl w wr b H T) (h : Below wr.heap.size wr w1) : Tl w w1 b H T := ⟨s.sh.mono h, (h.block b s.lt).trans s.c, s.hb⟩
theorem Tl.set {w wr : World} {b : Nat} {H : List Int} {T : List Nat} (s : Tl w wr b H T) (K : List Int) : Tl w (wr.setRow (w.heap.size + 1) (i32s K)) b K T := by
  have := s.hb
  exact ⟨s.sh.set K, by rw [setRow_other _ _ _ _ (by omega)]; exact s.c, s.hb⟩
/-- a byte of the digest -/
def byteAt (H : List Int) (q : Nat) : Nat := (H.getD (q / 4) 0 / 2 ^ (24 - 8 * (q % 4)) % 256).toNat
def dgTo (H : List Int) (n : Nat) : List Nat := (List.range 32).map fun q => if q < n then byteAt H q else 0
theorem dgTo_zero (H : List Int) : u8s (dgTo H 0) = z32 := by unfold dgTo z32; congr 1
theorem dgTo_length (H : List Int) (n : Nat) : (dgTo H n).length = 32 := by simp [dgTo]
theorem dgTo_set (H : List Int) (n : Nat) (h : n < 32) : (dgTo H n).set n (byteAt H n) = dgTo H (n + 1) := by
  apply List.ext_getElem?
  intro i
  simp only [dgTo, List.getElem?_set, List.getElem?_map, List.length_map, List.length_range]
  by_cases hi : i < 32
  · simp only [List.getElem?_range hi, Option.map_some]
    by_cases e : n = i
    · subst e; simp [h]
    · simp [e, show (i < n + 1) ↔ i < n by omega]
  · simp [hi, show n ≠ i by omega]
structure Dg (w wr : World) (g : Nat) (H : List Int) (D : List Nat) : Prop where
  a : wr.heap[w.heap.size]? = some (.cells z32 23)
  b : wr.heap[w.heap.size + 1]? = some (.cells (i32s H) 44)
  c : wr.heap[g]? = some (.cells (u8s D) 23)
  hb : w.heap.size + 2 ≤ g
  below : Below w.heap.size w wr
theorem Dg.start {w wr : World} {H : List Int} (s : Sh w wr H) : Dg w (wr.alloc (.cells z32 23)) wr.heap.size H (dgTo H (4 * 0)) := by
  have := s.size
  refine ⟨?_, ?_, ?_, s.size, s.below.alloc (by omega) _⟩
  · rw [heap_alloc_old _ _ (by omega)]; exact s.a
  · rw [heap_alloc_old _ _ (by omega)]; exact s.b
  · rw [dgTo_zero]; exact heap_alloc_new _ _
theorem Dg.put {w wr : World} {b : Nat} {H : List Int} {T : List Nat} (s : Dg w wr b H T) (k x : Nat) : Dg w (wr.setCell ⟨b, k, none⟩ (.int .u8 x)) b H (T.set k x) := by
  have := s.hb
  refine ⟨?_, ?_, ?_, s.hb, s.below.setCell (by show w.heap.size ≤ b; omega) _⟩
  · rw [heap_setCell_other _ _ _ _ (by show w.heap.size ≠ b; omega)]; exact s.a
  · rw [heap_setCell_other _ _ _ _ (by show w.heap.size + 1 ≠ b; omega)]; exact s.b
  · rw [heap_setCell_same _ _ _ _ _ _ s.c, u8s_set]
theorem Dg.room {w wr : World} {b : Nat} {H : List Int} {T : List Nat} (s : Dg w wr b H T) (k : Nat) (hk : k < T.length) : ∃ v, wr.cell? ⟨b, k, none⟩ = some v :=
  ⟨_, (cell_of_row wr b k _ _ _ s.c).trans (u8s_at T k hk)⟩
theorem Dg.free {w wr : World} {b : Nat} {H : List Int} {T : List Nat} (s : Dg w wr b H T) (k : Nat) : wr.frozen? ⟨b, k, none⟩ = false := frozen_of_row wr b k _ _ s.c
theorem run_index_i32s (l : List Int) (k : Nat) (h : k < 8) (hl : l.length = 8) (w : World) : (Instr.index 44 (.agg (i32s l)) (.int .i64 k)).run Tryd.prog w = .ok (.int .u32 (l.getD k 0)) w := by
  have hk : (0 : Int) ≤ k ∧ (k : Int) < (8 : Nat) := by omega
  simp only [Instr.index, asIntOf, run_underlying Tryd.underlying44, Sem.run_bind, Sem.run_pure, Result.andThen_ok]
  rw [if_pos hk]
  simp [Tryd.sizeOf27, part, Tryd.isAgg27, i32s, show k < l.length by omega, List.getD]
/-- the state behind the whole padded message -/
def shaState (l : List Nat) : List Int :=
  let j := l.length / 64
  let r := l.drop (64 * j)
  let sz := if r.length ≤ 55 then 64 else 128
  absorb (sz / 64) (absorb j H0 l) (tailTo r (l.length * 8) sz 8)
theorem sha_state (l : List Nat) (j m : Nat) (r : List Nat) (h : 64 * j + r.length = l.length) (h2 : r.length < 64) (hr : r = l.drop (64 * j)) (A : List Int) (hA : absorb j H0 l = A) (T : List Nat) (hT : tailTo r (l.length * 8) (64 * m) 8 = T) (hm : 64 * m = if r.length ≤ 55 then 64 else 128) : absorb m A T = shaState l := by
  have e : l.length / 64 = j := by omega
  unfold shaState
  simp only [e, ← hr, ← hm]
  rw [hA, hT, Nat.mul_div_cancel_left m (by decide)]
def shaS (l : List Nat) : List Nat := dgTo (shaState l) 32
set_option maxRecDepth 100000 in
set_option maxHeartbeats 1000000 in
theorem sha_any (s : ByteArray) (hs : s.size ≤ 100000) (w : World) (hR : Rounds w) :
    Calls Tryd.prog 13 #[.string s] w fun e w' => e = .returned (.agg (u8s (shaS (nats s)))) ∧ Below w.heap.size w w' := by
  go_enter Tryd.func13, Tryd.ntmps13
  go_upto_region 2 with (refine wpList_store_row rfl 44 _ _ rfl (w.heap.size + 1) (i32s H0) rfl rfl 44 (i32s (List.replicate 8 0)) (heap_alloc2_new _ _ _) info44 rfl (i32s_one _) ?_)
  rw [z32_lit]
  rw [z8_lit]
  have st := Sh.start w (i32s (List.replicate 8 0)) H0
  generalize (((w.alloc (.cells z32 23)).alloc (.cells (i32s (List.replicate 8 0)) 44)).setRow (w.heap.size + 1) (i32s H0)) = w0 at *
  go_wp2_with fail
  go_loopw [0] (fun v wr => ∃ (j : Nat) (r : ByteArray), v = .string r ∧ 64 * j + r.size = s.size ∧ Hid (nats r = (nats s).drop (64 * j)) ∧ Sh w wr (absorb j H0 (nats s))) (fun v _ => strLen v)
  case atStart => exact ⟨0, s, rfl, by omega, by simp [Hid], st⟩
  case round =>
    clear st
    obtain ⟨j, r, rfl, hrs, hnr, st⟩ := hrel
    have Hrs := Lib.hid hrs
    have hr1 : r.size ≤ 100000 := by omega
    clear hrs
    by_cases hge : 64 ≤ r.size
    · have hd : decide ((64 : Int) ≤ r.size) = true := by simp; omega
      go_wp2_with fail
      refine wp_region_still_tail 3 (by kernel_rfl) (by kernel_rfl) ?_
      have st2 := st.drew
      change wpStill _ _ wr.drew (fun a' => wpList _ _ _ _ a' wr.drew) _ _
      generalize wr.drew = w2 at *
      have hAl := absorb_length j H0 (nats s) rfl
      have hnx : Hid (absorb (j + 1) H0 (nats s) = compressS (absorb j H0 (nats s)) (((nats s).drop (64 * j)).take 64)) := rfl
      generalize absorb j H0 (nats s) = A at *
      have HAl := Lib.hid hAl
      clear hAl st
      simp only [List.take_succ_cons, List.take_zero, List.drop_succ_cons, List.drop_zero]
      refine wpStill_load_row rfl 44 _ rfl (w.heap.size + 1) rfl 44 _ _ _ st2.b Tryd.underlying44 rfl (by rw [i32s_size, HAl.out]; exact info44) ?_
      have x1 : (0 : Int) ≤ 64 := by decide
      have x2 : (64 : Int) ≤ r.size := by omega
      repeat still_step
      refine wpStill_nil ?_
      go_wp2_with fail
      refine (compress_any A _ HAl.out (by rw [ByteArray.size_extract]; omega) _ (hR.mono st2.below)).mono ?_
      rintro e w1 ⟨rfl, hb⟩
      have st3 := st2.mono hb
      have hcl := compressS_length A (nats (r.extract 0 64)) HAl.out
      have HB : Hid (nats (r.extract 0 64) = ((nats s).drop (64 * j)).take 64) := by rw [nats_extract, hnr.out]; rfl
      rw [← HB.out] at hnx
      generalize compressS A (nats (r.extract 0 64)) = R at *
      have HR := Lib.hid hcl
      clear hcl st2 hb
      go_wp2_with (refine wpList_store_row rfl 44 _ _ rfl (w.heap.size + 1) (i32s R) rfl rfl 44 (i32s A) st3.b (by rw [i32s_size, HR.out]; exact info44) (by rw [i32s_size, i32s_size, HR.out, HAl.out]) (i32s_one _) ?_)
      go_roundw
      case rel =>
        refine ⟨j + 1, r.extract 64 r.size, rfl, ?_, ?_, ?_⟩
        · have := Hrs.out; rw [ByteArray.size_extract]; omega
        · show nats (r.extract 64 r.size) = _
          rw [nats_extract, hnr.out, List.drop_drop, List.take_of_length_le (by have := Hrs.out; simp [nats_length]; omega)]; congr 1
        · rw [hnx.out]; exact st3.set R
      case measure => simp [strLen]; omega
    · have hd : decide ((64 : Int) ≤ r.size) = false := by simp; omega
      have HAl := Lib.hid (absorb_length j H0 (nats s) rfl)
      have hz := zero46
      have hcp := run_copy_string (wr.alloc (.cells z128 46)) wr.heap.size 128 128 r zl128 46 (heap_alloc_new _ _) (by omega) (by simp [zl128]; omega)
      go_upto_region 8 with (fail)
      have tl := Tl.start st z128 (nats r ++ zl128.drop r.size)
      have hb0 := tl.hb
      have ht1 := tail_start (nats r) (by rw [nats_length]; omega)
      rw [nats_length] at ht1
      have hr0 : r.size < (nats r ++ zl128.drop r.size).length := by simp [zl128, nats_length]; omega
      generalize (wr.alloc (.cells z128 46)).setRow wr.heap.size (u8s (nats r ++ zl128.drop r.size)) = w8 at *
      generalize nats r ++ zl128.drop r.size = T0 at *
      clear hcp hz st
      generalize wr.heap.size = b at *
      have HT1 := Lib.hid ht1
      obtain ⟨v, hc⟩ := tl.room r.size hr0
      have hf := tl.free r.size
      have tl2 := tl.put r.size 128
      rw [ht1] at tl2
      clear tl ht1 hb0 HT1
      generalize hS : absorb j H0 (nats s) = A at *
      have HS := Lib.hid hS
      clear hS
      have e9 := IntWalk.i64_in ((r.size : Int) + 9) (by omega)
      go_upto_if 36 with (fail)
      clear e9
      clear hc hf hr0
      rw [show ((128 : Nat) : Int) = 128 from rfl] at tl2
      generalize w8.setCell ⟨b, r.size, none⟩ (Value.int .u8 128) = w9 at *
      go_cut [6] (fun s6 wx => ∃ sz : Nat, s6 = .int .i64 sz ∧ Hid (sz = if r.size ≤ 55 then 64 else 128) ∧ Tl w wx b A (nats r ++ [128] ++ List.replicate (127 - r.size) 0))
      case first =>
        by_cases h55 : r.size ≤ 55
        · have h1 : decide ((64 : Int) < (r.size : Int) + 9) = false := by simp; omega
          go_wp2_with fail
          go_meet
          exact ⟨64, rfl, by rw [if_pos h55]; rfl, tl2⟩
        · have h1 : decide ((64 : Int) < (r.size : Int) + 9) = true := by simp; omega
          go_wp2_with fail
          go_meet
          exact ⟨128, rfl, by rw [if_neg h55]; rfl, tl2⟩
      case rest =>
        obtain ⟨sz, rfl, Hsz, tl⟩ := hcut
        have z1 : r.size + 9 ≤ sz := by rw [Hsz.out]; split <;> omega
        have z2 : sz ≤ 128 := by rw [Hsz.out]; split <;> omega
        have htz := tailTo_zero (nats r) (s.size * 8) sz (by rw [nats_length]; omega) z2
        rw [nats_length] at htz
        rw [htz] at tl
        clear htz tl2
        go_wp2_with fail
        go_loopw [37] (fun i wr => ∃ k : Nat, k ≤ 8 ∧ i = .int .i64 k ∧ Tl w wr b A (tailTo (nats r) (s.size * 8) sz k)) (fun i _ => 8 - (intOf i).toNat)
        case atStart => exact ⟨0, by omega, rfl, tl⟩
        case round =>
          clear tl
          obtain ⟨k, hk, rfl, tl⟩ := hrel
          by_cases hlt : k < 8
          · have hdk : decide ((k : Int) < 8) = true := by simp; omega
            have tlen := tailTo_length (nats r) (s.size * 8) sz k (by rw [nats_length]; omega) z2
            obtain ⟨v, hc⟩ := tl.room (sz - 1 - k) (by omega)
            have hf := tl.free (sz - 1 - k)
            have hst := Lib.hid (tailTo_set (nats r) (s.size * 8) sz k (by rw [nats_length]; omega))
            have tp := tl.put (sz - 1 - k) (s.size * 8 / 2 ^ (8 * k) % 256)
            rw [hst.out] at tp
            have e1 : ((sz : Int) - 1 - k).toNat = sz - 1 - k := by omega
            have ev : ((s.size * 8 / 2 ^ (8 * k) % 256 : Nat) : Int) = (s.size : Int) * 8 / 2 ^ (8 * k) % 256 := by simp
            rw [ev] at tp
            clear hst tlen tl ev
            go_wp2_with fail
            go_roundw
            case rel => exact ⟨k + 1, by omega, by go_num, tp⟩
            case measure => simp [intOf]; omega
          · obtain rfl : k = 8 := by omega
            clear hlt hk
            rw [show ((8 : Nat) : Int) = 8 from rfl]
            have tlen := Lib.hid (tailTo_length (nats r) (s.size * 8) sz 8 (by rw [nats_length]; omega) z2)
            have tby := Lib.hid (tailTo_bytes r (s.size * 8) sz 8)
            generalize hT : tailTo (nats r) (s.size * 8) sz 8 = T at *
            have HT := Lib.hid hT
            clear hT
            go_wp2_with fail
            go_loopw [8] (fun i wr => ∃ m : Nat, 64 * m ≤ sz ∧ i = .int .i64 (64 * (m : Int)) ∧ Tl w wr b (absorb m A T) T) (fun i _ => 128 - (intOf i).toNat)
            case atStart => exact ⟨0, by omega, rfl, tl⟩
            case round =>
              clear tl
              obtain ⟨m, hm, rfl, tl⟩ := hrel
              have HAm := Lib.hid (absorb_length m A T HAl.out)
              by_cases hlt : 64 * m < sz
              · have hm64 : 64 * m + 64 ≤ sz := by
                  have := Hsz.out
                  split at this <;> omega
                have hdk : decide (64 * (m : Int) < (sz : Int)) = true := by simp; omega
                have hnx : Hid (absorb (m + 1) A T = compressS (absorb m A T) ((T.drop (64 * m)).take 64)) := rfl
                generalize absorb m A T = B at *
                go_wp2_with fail
                have x1 : (0 : Int) ≤ 64 * (m : Int) := by omega
                have x2 : 64 * (m : Int) ≤ 64 * (m : Int) + 64 := by omega
                have x3 : 64 * (m : Int) + 64 ≤ 128 := by omega
                have x4 := IntWalk.i64_in (64 * (m : Int) + 64) (by omega)
                have x5 : (64 * (m : Int)).toNat = 64 * m := by omega
                have x6 : (64 * (m : Int) + 64).toNat = 64 * m + 64 := by omega
                have x7 : 64 * m + 64 ≤ T.length := by rw [tlen.out]; omega
                have x8 : 64 * m + 64 - 64 * m = 64 := by omega
                have x9 : ¬ (128 = 64 * m) := by omega
                refine wp_region_still_tail 6 (by kernel_rfl) (by kernel_rfl) ?_
                have tl2 := tl.drew
                change wpStill _ _ wr.drew (fun a' => wpList _ _ _ _ a' wr.drew) _ _
                generalize wr.drew = w2 at *
                have hcv := fun cap => run_bytes_row w2 b T 46 (0, 0) tl2.c (64 * m) 64 cap x7
                clear x7
                simp only [List.take_succ_cons, List.take_zero, List.drop_succ_cons, List.drop_zero]
                refine wpStill_load_row rfl 44 _ rfl (w.heap.size + 1) rfl 44 _ _ _ tl2.sh.b Tryd.underlying44 rfl (by rw [i32s_size, HAm.out]; exact info44) ?_
                repeat still_step
                refine wpStill_nil ?_
                clear x1 x2 x3 x4 x5 x6 x8 x9 hcv tl
                go_wp2_with fail
                have hsz := strOf_size ((T.drop (64 * m)).take 64)
                have hns : nats (strOf ((T.drop (64 * m)).take 64)) = (T.drop (64 * m)).take 64 := nats_strOf _ (fun x hx => tby.out x (List.mem_of_mem_drop (List.mem_of_mem_take hx)))
                rw [List.length_take, List.length_drop, tlen.out] at hsz
                refine (compress_any B _ HAm.out (by rw [hsz]; omega) _ (hR.mono tl2.sh.below)).mono ?_
                rintro e w1 ⟨rfl, hb⟩
                have st3 := tl2.mono hb
                have hcl := compressS_length B (nats (strOf ((T.drop (64 * m)).take 64))) HAm.out
                rw [← hns] at hnx
                clear hsz hns tl2 hb
                generalize compressS B (nats (strOf ((T.drop (64 * m)).take 64))) = R at *
                have HR := Lib.hid hcl
                clear hcl
                go_wp2_with (refine wpList_store_row rfl 44 _ _ rfl (w.heap.size + 1) (i32s R) rfl rfl 44 (i32s B) st3.sh.b (by rw [i32s_size, HR.out]; exact info44) (by rw [i32s_size, i32s_size, HR.out, HAm.out]) (i32s_one _) ?_)
                go_roundw
                case rel => exact ⟨m + 1, by omega, by go_num, by rw [hnx.out]; exact st3.set R⟩
                case measure => simp [intOf]; omega
              · obtain rfl : sz = 64 * m := by omega
                have hdk : decide (64 * (m : Int) < ((64 * m : Nat) : Int)) = false := by simp
                have hsha : Hid (absorb m A T = shaState (nats s)) := sha_state (nats s) j m (nats r) (by rw [nats_length, nats_length]; exact Hrs.out) (by rw [nats_length]; omega) hnr.out A HS.out T (by rw [nats_length]; exact HT.out) (by rw [nats_length]; exact Hsz.out)
                clear HT
                generalize absorb m A T = R at *
                have st := tl.sh
                clear tl
                go_upto_region 22 with (fail)
                rw [z32_lit]
                have dg := Dg.start st
                generalize wr.alloc (.cells z32 23) = w21 at *
                generalize wr.heap.size = b9 at *
                clear st
                go_wp2_with (refine wpList_load_row rfl 44 _ rfl (w.heap.size + 1) rfl 44 _ _ _ dg.b Tryd.underlying44 rfl (by rw [i32s_size, HAm.out]; exact info44) ?_)
                go_loopw [64] (fun i wr => ∃ k : Nat, k ≤ 8 ∧ i = .int .i64 k ∧ Dg w wr b9 R (dgTo R (4 * k))) (fun i _ => 8 - (intOf i).toNat)
                case atStart => exact ⟨0, by omega, rfl, dg⟩
                case round =>
                  clear dg
                  obtain ⟨k, hk, rfl, dg⟩ := hrel
                  by_cases hlt : k < 8
                  · have hdk : decide ((k : Int) < 8) = true := by simp; omega
                    have hix := fun w => run_index_i32s R k hlt HAm.out w
                    generalize hx : R.getD k 0 = x at *
                    have Hx := Lib.hid hx
                    clear hx
                    go_wp2_with fail
                    go_loopw [68] (fun i wr => ∃ n : Nat, n ≤ 4 ∧ i = .int .i64 n ∧ Dg w wr b9 R (dgTo R (4 * k + n))) (fun i _ => 4 - (intOf i).toNat)
                    case atStart => exact ⟨0, by omega, rfl, dg⟩
                    case round =>
                      clear dg
                      obtain ⟨n, hn, rfl, dg⟩ := hrel
                      by_cases hl4 : n < 4
                      · have hdn : decide ((n : Int) < 4) = true := by simp; omega
                        obtain ⟨v, hc⟩ := dg.room (4 * k + n) (by rw [dgTo_length]; omega)
                        have hf := dg.free (4 * k + n)
                        have dp := dg.put (4 * k + n) (byteAt R (4 * k + n))
                        rw [dgTo_set _ _ (by omega)] at dp
                        have eb : ((byteAt R (4 * k + n) : Nat) : Int) = x / 2 ^ (24 - 8 * n) % 256 := by
                          rw [byteAt, show (4 * k + n) / 4 = k by omega, show (4 * k + n) % 4 = n by omega, Hx.out]
                          exact Int.toNat_of_nonneg (Int.emod_nonneg _ (by decide))
                        rw [eb] at dp
                        clear eb dg
                        go_wp2_with fail
                        go_roundw
                        case rel => exact ⟨n + 1, by omega, by go_num, dp⟩
                        case measure => simp [intOf]; omega
                      · obtain rfl : n = 4 := by omega
                        go_wp2_with fail
                        go_roundw
                        case rel => exact ⟨k + 1, by omega, by go_num, dg⟩
                        case measure => simp [intOf]; omega
                  · obtain rfl : k = 8 := by omega
                    have hln := Lib.hid (dgTo_length R 32)
                    have hfin : Hid (shaS (nats s) = dgTo R 32) := by rw [shaS, ← hsha.out]; rfl
                    have dg : Dg w wr b9 R (dgTo R 32) := dg
                    generalize dgTo R 32 = D at *
                    have hout : Hid (∀ hh : True, (wr.setRow w.heap.size (u8s D)).heap[w.heap.size]? = some (.cells (u8s D) 23) ∧ Below w.heap.size w (wr.setRow w.heap.size (u8s D))) := fun _ => ⟨setRow_heap _ _ _ _ _ _ dg.a, dg.below.trans ⟨rfl, rfl, rfl, by simp, fun k hk => setRow_other _ _ _ _ (by omega)⟩⟩
                    go_wp2_with (first | (refine wpList_load_row rfl 23 _ rfl b9 rfl 23 _ _ _ dg.c Tryd.underlying23 rfl (by rw [u8s_size, hln.out]; exact info23) ?_) | (refine wpList_store_row rfl 23 _ _ rfl w.heap.size (u8s D) rfl rfl 23 z32 dg.a (by rw [u8s_size, hln.out]; exact info23) (by rw [u8s_size, hln.out]; rfl) (u8s_one _) ?_))
                    exact bodyPost_ret (results_cell_row Tryd.results13 _ _ w.heap.size 23 (u8s D) _ _ rfl (hout.out trivial).1 Tryd.underlying23 rfl (by rw [u8s_size, hln.out]; exact info23)) rfl ⟨by rw [hfin.out], (hout.out trivial).2⟩
end Go.Proofs.YtmcjkciicbmdfaaDoor
