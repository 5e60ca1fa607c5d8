import Derived.Test.YtmcjkciicbmdfaaDoorLess
import Derived.StillTailTactics
namespace Go.Proofs.YtmcjkciicbmdfaaDoor
open Go.RowKit SumMath
/-- a word rotated to the right by n -/
def rr (n : Nat) (x : Int) : Int := bits .or .u32 (x * 2 ^ (32 - n) % 4294967296) (x / 2 ^ n)
set_option maxHeartbeats 400000 in
theorem rot7 (x : Int) (w : World) : Calls Tryd.prog 27 #[.int .u32 x, .int .i64 (-7)] w fun e w' => e = .returned (.int .u32 (rr 7 x)) ∧ w = w' := by
  have hk : bits .and .u64 (IntKind.u64.wrap (-7)) 31 = 25 := by decide +kernel
  go_enter Tryd.func27, Tryd.ntmps27
  go_wp2
  go_ret
  exact ⟨rfl, rfl⟩
set_option maxHeartbeats 400000 in
theorem rot18 (x : Int) (w : World) : Calls Tryd.prog 27 #[.int .u32 x, .int .i64 (-18)] w fun e w' => e = .returned (.int .u32 (rr 18 x)) ∧ w = w' := by
  have hk : bits .and .u64 (IntKind.u64.wrap (-18)) 31 = 14 := by decide +kernel
  go_enter Tryd.func27, Tryd.ntmps27
  go_wp2
  go_ret
  exact ⟨rfl, rfl⟩
set_option maxHeartbeats 400000 in
theorem rot17 (x : Int) (w : World) : Calls Tryd.prog 27 #[.int .u32 x, .int .i64 (-17)] w fun e w' => e = .returned (.int .u32 (rr 17 x)) ∧ w = w' := by
  have hk : bits .and .u64 (IntKind.u64.wrap (-17)) 31 = 15 := by decide +kernel
  go_enter Tryd.func27, Tryd.ntmps27
  go_wp2
  go_ret
  exact ⟨rfl, rfl⟩
set_option maxHeartbeats 400000 in
theorem rot19 (x : Int) (w : World) : Calls Tryd.prog 27 #[.int .u32 x, .int .i64 (-19)] w fun e w' => e = .returned (.int .u32 (rr 19 x)) ∧ w = w' := by
  have hk : bits .and .u64 (IntKind.u64.wrap (-19)) 31 = 13 := by decide +kernel
  go_enter Tryd.func27, Tryd.ntmps27
  go_wp2
  go_ret
  exact ⟨rfl, rfl⟩
set_option maxHeartbeats 400000 in
theorem rot6 (x : Int) (w : World) : Calls Tryd.prog 27 #[.int .u32 x, .int .i64 (-6)] w fun e w' => e = .returned (.int .u32 (rr 6 x)) ∧ w = w' := by
  have hk : bits .and .u64 (IntKind.u64.wrap (-6)) 31 = 26 := by decide +kernel
  go_enter Tryd.func27, Tryd.ntmps27
  go_wp2
  go_ret
  exact ⟨rfl, rfl⟩
set_option maxHeartbeats 400000 in
theorem rot11 (x : Int) (w : World) : Calls Tryd.prog 27 #[.int .u32 x, .int .i64 (-11)] w fun e w' => e = .returned (.int .u32 (rr 11 x)) ∧ w = w' := by
  have hk : bits .and .u64 (IntKind.u64.wrap (-11)) 31 = 21 := by decide +kernel
  go_enter Tryd.func27, Tryd.ntmps27
  go_wp2
  go_ret
  exact ⟨rfl, rfl⟩
set_option maxHeartbeats 400000 in
theorem rot25 (x : Int) (w : World) : Calls Tryd.prog 27 #[.int .u32 x, .int .i64 (-25)] w fun e w' => e = .returned (.int .u32 (rr 25 x)) ∧ w = w' := by
  have hk : bits .and .u64 (IntKind.u64.wrap (-25)) 31 = 7 := by decide +kernel
  go_enter Tryd.func27, Tryd.ntmps27
  go_wp2
  go_ret
  exact ⟨rfl, rfl⟩
set_option maxHeartbeats 400000 in
theorem rot2 (x : Int) (w : World) : Calls Tryd.prog 27 #[.int .u32 x, .int .i64 (-2)] w fun e w' => e = .returned (.int .u32 (rr 2 x)) ∧ w = w' := by
  have hk : bits .and .u64 (IntKind.u64.wrap (-2)) 31 = 30 := by decide +kernel
  go_enter Tryd.func27, Tryd.ntmps27
  go_wp2
  go_ret
  exact ⟨rfl, rfl⟩
set_option maxHeartbeats 400000 in
theorem rot13 (x : Int) (w : World) : Calls Tryd.prog 27 #[.int .u32 x, .int .i64 (-13)] w fun e w' => e = .returned (.int .u32 (rr 13 x)) ∧ w = w' := by
  have hk : bits .and .u64 (IntKind.u64.wrap (-13)) 31 = 19 := by decide +kernel
  go_enter Tryd.func27, Tryd.ntmps27
  go_wp2
  go_ret
  exact ⟨rfl, rfl⟩
set_option maxHeartbeats 400000 in
theorem rot22 (x : Int) (w : World) : Calls Tryd.prog 27 #[.int .u32 x, .int .i64 (-22)] w fun e w' => e = .returned (.int .u32 (rr 22 x)) ∧ w = w' := by
  have hk : bits .and .u64 (IntKind.u64.wrap (-22)) 31 = 10 := by decide +kernel
  go_enter Tryd.func27, Tryd.ntmps27
  go_wp2
  go_ret
  exact ⟨rfl, rfl⟩

def i32s (l : List Int) : Array Value := (l.map (Value.int .u32)).toArray
theorem i32s_size (l : List Int) : (i32s l).size = l.length := by simp [i32s]
theorem i32s_one (l : List Int) : (i32s l).all (·.oneCell') = true := by simp [i32s, Value.oneCell']
theorem i32s_at (l : List Int) (k : Nat) (h : k < l.length) : (i32s l)[k]? = some (.int .u32 (l.getD k 0)) := by simp [i32s, h, List.getD]
def zw (l : List Int) : List Int := l ++ List.replicate (64 - l.length) 0
theorem zw_lit : #[Value.int IntKind.u32 0, Value.int IntKind.u32 0, Value.int IntKind.u32 0, Value.int IntKind.u32 0, Value.int IntKind.u32 0, Value.int IntKind.u32 0, Value.int IntKind.u32 0, Value.int IntKind.u32 0, Value.int IntKind.u32 0, Value.int IntKind.u32 0, Value.int IntKind.u32 0, Value.int IntKind.u32 0, Value.int IntKind.u32 0, Value.int IntKind.u32 0, Value.int IntKind.u32 0, Value.int IntKind.u32 0, Value.int IntKind.u32 0, Value.int IntKind.u32 0, Value.int IntKind.u32 0, Value.int IntKind.u32 0, Value.int IntKind.u32 0, Value.int IntKind.u32 0, Value.int IntKind.u32 0, Value.int IntKind.u32 0, Value.int IntKind.u32 0, Value.int IntKind.u32 0, Value.int IntKind.u32 0, Value.int IntKind.u32 0, Value.int IntKind.u32 0, Value.int IntKind.u32 0, Value.int IntKind.u32 0, Value.int IntKind.u32 0, Value.int IntKind.u32 0, Value.int IntKind.u32 0, Value.int IntKind.u32 0, Value.int IntKind.u32 0, Value.int IntKind.u32 0, Value.int IntKind.u32 0, Value.int IntKind.u32 0, Value.int IntKind.u32 0, Value.int IntKind.u32 0, Value.int IntKind.u32 0, Value.int IntKind.u32 0, Value.int IntKind.u32 0, Value.int IntKind.u32 0, Value.int IntKind.u32 0, Value.int IntKind.u32 0, Value.int IntKind.u32 0, Value.int IntKind.u32 0, Value.int IntKind.u32 0, Value.int IntKind.u32 0, Value.int IntKind.u32 0, Value.int IntKind.u32 0, Value.int IntKind.u32 0, Value.int IntKind.u32 0, Value.int IntKind.u32 0, Value.int IntKind.u32 0, Value.int IntKind.u32 0, Value.int IntKind.u32 0, Value.int IntKind.u32 0, Value.int IntKind.u32 0, Value.int IntKind.u32 0, Value.int IntKind.u32 0, Value.int IntKind.u32 0] = i32s (zw []) := rfl
theorem z8_lit : #[Value.int IntKind.u32 0, Value.int IntKind.u32 0, Value.int IntKind.u32 0, Value.int IntKind.u32 0, Value.int IntKind.u32 0, Value.int IntKind.u32 0, Value.int IntKind.u32 0, Value.int IntKind.u32 0] = i32s (List.replicate 8 0) := rfl
theorem info44 : (Tryd.prog.info? 44).map (·.size) = some 8 := by kernel_rfl
theorem info52 : (Tryd.prog.info? 52).map (·.size) = some 64 := by kernel_rfl
/-- a word of the message -/
def word (s : List Nat) (i : Nat) : Int := bits .or .u32 (bits .or .u32 (bits .or .u32 ((s.getD (4 * i) 0 : Int) % 4294967296 * 16777216 % 4294967296) ((s.getD (4 * i + 1) 0 : Int) % 4294967296 * 65536 % 4294967296)) ((s.getD (4 * i + 2) 0 : Int) % 4294967296 * 256 % 4294967296)) ((s.getD (4 * i + 3) 0 : Int) % 4294967296)
def sig0 (x : Int) : Int := bits .xor .u32 (bits .xor .u32 (rr 7 x) (rr 18 x)) (x / 8)
def sig1 (y : Int) : Int := bits .xor .u32 (bits .xor .u32 (rr 17 y) (rr 19 y)) (y / 1024)
def next (l : List Int) (k : Nat) : Int := (l.getD (k - 16) 0 + sig0 (l.getD (k - 15) 0) + l.getD (k - 7) 0 + sig1 (l.getD (k - 2) 0)) % 4294967296
def wl (s : List Nat) : Nat → List Int
  | 0 => []
  | k + 1 => wl s k ++ [if k < 16 then word s k else next (wl s k) k]
theorem wl_length (s : List Nat) (k : Nat) : (wl s k).length = k := by induction k with | zero => rfl | succ k ih => simp [wl, ih]
theorem zw_length (l : List Int) (h : l.length ≤ 64) : (zw l).length = 64 := by simp [zw]; omega
theorem zw_cell (l : List Int) (k : Nat) (h : k < 64) (hl : l.length ≤ 64) : ∃ v, (i32s (zw l))[k]? = some v := by
  have : k < (i32s (zw l)).size := by rw [i32s_size, zw_length l hl]; omega
  exact ⟨_, Array.getElem?_eq_getElem this⟩
theorem zw_at (l : List Int) (k : Nat) (h : k < l.length) : (i32s (zw l))[k]? = some (.int .u32 (l.getD k 0)) := by
  rw [i32s_at _ _ (by simp [zw]; omega)]
  congr 2
  simp only [zw, List.getD, List.getElem?_append_left h]
theorem zw_set (l : List Int) (h : l.length < 64) (x : Int) : (i32s (zw l)).setIfInBounds l.length (.int .u32 x) = i32s (zw (l ++ [x])) := by
  have e : 64 - l.length = (64 - (l ++ [x]).length) + 1 := by simp; omega
  simp only [i32s, zw]
  rw [e, List.replicate_succ]
  simp
def rnd (v : List Int) (kc wi : Int) : List Int :=
  match v with
  | [v0, v1, v2, v3, v4, v5, v6, v7] =>
    let s1 := bits .xor .u32 (bits .xor .u32 (rr 6 v4) (rr 11 v4)) (rr 25 v4)
    let ch := bits .xor .u32 (bits .and .u32 v4 v5) (bits .and .u32 (bits .xor .u32 IntKind.u32.max v4) v6)
    let t1 := v7 + s1 + ch + kc + wi
    let s0 := bits .xor .u32 (bits .xor .u32 (rr 2 v0) (rr 13 v0)) (rr 22 v0)
    let mj := bits .xor .u32 (bits .xor .u32 (bits .and .u32 v0 v1) (bits .and .u32 v0 v2)) (bits .and .u32 v1 v2)
    [(t1 + s0 + mj) % 4294967296, v0, v1, v2, (v3 + t1) % 4294967296, v4, v5, v6]
  | _ => []
def kcs : List Int := [1116352408, 1899447441, 3049323471, 3921009573, 961987163, 1508970993, 2453635748, 2870763221, 3624381080, 310598401, 607225278, 1426881987, 1925078388, 2162078206, 2614888103, 3248222580, 3835390401, 4022224774, 264347078, 604807628, 770255983, 1249150122, 1555081692, 1996064986, 2554220882, 2821834349, 2952996808, 3210313671, 3336571891, 3584528711, 113926993, 338241895, 666307205, 773529912, 1294757372, 1396182291, 1695183700, 1986661051, 2177026350, 2456956037, 2730485921, 2820302411, 3259730800, 3345764771, 3516065817, 3600352804, 4094571909, 275423344, 430227734, 506948616, 659060556, 883997877, 958139571, 1322822218, 1537002063, 1747873779, 1955562222, 2024104815, 2227730452, 2361852424, 2428436474, 2756734187, 3204031479, 3329325298]
theorem kcs_length : kcs.length = 64 := rfl
def vs (h w : List Int) : Nat → List Int
  | 0 => h
  | k + 1 => rnd (vs h w k) (kcs.getD k 0) (w.getD k 0)
theorem heap3 (w : World) (A B C : Obj) : (((w.alloc A).alloc B).alloc C).heap[w.heap.size]? = some A ∧ (((w.alloc A).alloc B).alloc C).heap[w.heap.size + 1]? = some B ∧ (((w.alloc A).alloc B).alloc C).heap[w.heap.size + 1 + 1]? = some C ∧ (((w.alloc A).alloc B).alloc C).heap.size = w.heap.size + 3 := by
  have e : (((w.alloc A).alloc B).alloc C).heap = ((w.heap.push A).push B).push C := rfl
  rw [e]
  refine ⟨?_, ?_, ?_, by simp⟩
  · rw [Array.getElem?_push, if_neg (by simp; omega), Array.getElem?_push, if_neg (by simp), Array.getElem?_push, if_pos rfl]
  · rw [Array.getElem?_push, if_neg (by simp), Array.getElem?_push, if_pos (by simp)]
  · rw [Array.getElem?_push, if_pos (by simp)]
/-- the memory of compress in its first two loops: h, the result, the schedule -/
structure St (w wr : World) (h l : List Int) : Prop where
  a : wr.heap[w.heap.size]? = some (.cells (i32s h) 44)
  b : wr.heap[w.heap.size + 1]? = some (.cells (i32s (List.replicate 8 0)) 44)
  c : wr.heap[w.heap.size + 1 + 1]? = some (.cells (i32s (zw l)) 52)
  size : wr.heap.size = w.heap.size + 3
  below : Below w.heap.size w wr
theorem St.start (w : World) (h : List Int) : St w (((w.alloc (.cells (i32s h) 44)).alloc (.cells (i32s (List.replicate 8 0)) 44)).alloc (.cells (i32s (zw [])) 52)) h [] := by
  have h3 := heap3 w (.cells (i32s h) 44) (.cells (i32s (List.replicate 8 0)) 44) (.cells (i32s (zw [])) 52)
  exact ⟨h3.1, h3.2.1, h3.2.2.1, h3.2.2.2, (((Below.refl _ _).alloc (Nat.le_refl _) _).alloc (by simp) _).alloc (by simp; omega) _⟩
theorem St.drew {w wr : World} {h l : List Int} (s : St w wr h l) : St w wr.drew h l := ⟨s.a, s.b, s.c, s.size, s.below.drew⟩
theorem St.drewN {w wr : World} {h l : List Int} (s : St w wr h l) (n : Nat) : St w (wr.drewN n) h l := ⟨s.a, s.b, s.c, s.size, below_drewN s.below n⟩
theorem St.set {w wr : World} {h l : List Int} (s : St w wr h l) (k : Nat) (hk : l.length = k) (h64 : k < 64) (x : Int) : St w (wr.setCell ⟨w.heap.size + 1 + 1, k, none⟩ (.int .u32 x)) h (l ++ [x]) := by
  subst hk
  refine ⟨?_, ?_, ?_, ?_, s.below.setCell (by show w.heap.size ≤ w.heap.size + 1 + 1; omega) _⟩
  · rw [heap_setCell_other _ _ _ _ (by show w.heap.size ≠ w.heap.size + 1 + 1; omega)]; exact s.a
  · rw [heap_setCell_other _ _ _ _ (by show w.heap.size + 1 ≠ w.heap.size + 1 + 1; omega)]; exact s.b
  · rw [heap_setCell_same _ _ _ _ _ _ s.c, zw_set l h64]
  · rw [← s.size]; simp [World.setCell]
theorem St.get {w wr : World} {h l : List Int} (s : St w wr h l) (k : Nat) (hk : k < l.length) : wr.cell? ⟨w.heap.size + 1 + 1, k, none⟩ = some (.int .u32 (l.getD k 0)) :=
  (cell_of_row wr _ k _ _ _ s.c).trans (zw_at l k hk)
theorem St.room {w wr : World} {h l : List Int} (s : St w wr h l) (k : Nat) (hk : k < 64) (hl : l.length ≤ 64) : ∃ v, wr.cell? ⟨w.heap.size + 1 + 1, k, none⟩ = some v := by
  obtain ⟨v, hv⟩ := zw_cell l k hk hl
  exact ⟨v, (cell_of_row wr _ k _ _ _ s.c).trans hv⟩
theorem St.free {w wr : World} {h l : List Int} (s : St w wr h l) (k : Nat) : wr.frozen? ⟨w.heap.size + 1 + 1, k, none⟩ = false := frozen_of_row wr _ k _ _ s.c
/-- the memory of compress in its last two loops: h, the result, the schedule, the state -/
structure St4 (w wr : World) (h l v : List Int) : Prop where
  a : wr.heap[w.heap.size]? = some (.cells (i32s h) 44)
  b : wr.heap[w.heap.size + 1]? = some (.cells (i32s (List.replicate 8 0)) 44)
  c : wr.heap[w.heap.size + 1 + 1]? = some (.cells (i32s (zw l)) 52)
  d : wr.heap[w.heap.size + 3]? = some (.cells (i32s v) 44)
  below : Below w.heap.size w wr
theorem St.four {w wr : World} {h l : List Int} (s : St w wr h l) (z v : List Int) (_hz : z.length = v.length) : St4 w ((wr.alloc (.cells (i32s z) 44)).setRow (w.heap.size + 3) (i32s v)) h l v := by
  have e := s.size
  refine ⟨?_, ?_, ?_, ?_, ?_⟩
  · rw [setRow_other _ _ _ _ (by omega), heap_alloc_old _ _ (by omega)]; exact s.a
  · rw [setRow_other _ _ _ _ (by omega), heap_alloc_old _ _ (by omega)]; exact s.b
  · rw [setRow_other _ _ _ _ (by omega), heap_alloc_old _ _ (by omega)]; exact s.c
  · rw [← e]; exact setRow_heap _ _ _ _ _ _ (heap_alloc_new wr _)
  · exact (s.below.alloc (by omega) _).trans ⟨rfl, rfl, rfl, by simp, fun k hk => setRow_other _ _ _ _ (by omega)⟩
theorem St4.drew {w wr : World} {h l v : List Int} (s : St4 w wr h l v) : St4 w wr.drew h l v := ⟨s.a, s.b, s.c, s.d, s.below.drew⟩
theorem St4.drewN {w wr : World} {h l v : List Int} (s : St4 w wr h l v) (n : Nat) : St4 w (wr.drewN n) h l v := ⟨s.a, s.b, s.c, s.d, below_drewN s.below n⟩
theorem St4.get {w wr : World} {h l v : List Int} (s : St4 w wr h l v) (k : Nat) (hk : k < l.length) : wr.cell? ⟨w.heap.size + 1 + 1, k, none⟩ = some (.int .u32 (l.getD k 0)) :=
  (cell_of_row wr _ k _ _ _ s.c).trans (zw_at l k hk)
theorem St4.gv {w wr : World} {h l v : List Int} (s : St4 w wr h l v) (k : Nat) (hk : k < v.length) : wr.cell? ⟨w.heap.size + 3, k, none⟩ = some (.int .u32 (v.getD k 0)) :=
  (cell_of_row wr _ k _ _ _ s.d).trans (i32s_at v k hk)
theorem St4.setv {w wr : World} {h l v : List Int} (s : St4 w wr h l v) (u : List Int) : St4 w (wr.setRow (w.heap.size + 3) (i32s u)) h l u := by
  refine ⟨?_, ?_, ?_, setRow_heap _ _ _ _ _ _ s.d, s.below.trans ⟨rfl, rfl, rfl, by simp, fun k hk => setRow_other _ _ _ _ (by omega)⟩⟩
  · rw [setRow_other _ _ _ _ (by omega)]; exact s.a
  · rw [setRow_other _ _ _ _ (by omega)]; exact s.b
  · rw [setRow_other _ _ _ _ (by omega)]; exact s.c
/-- the round constants lie in the program's table -/
def Rounds (w : World) : Prop := 0 < w.heap.size ∧ ∀ j, j < 64 → w.cell? ⟨0, j, none⟩ = some (.int .u32 (kcs.getD j 0))
theorem Rounds.mono {w wr : World} (h : Rounds w) (b : Below w.heap.size w wr) : Rounds wr := ⟨Nat.lt_of_lt_of_le h.1 b.size, fun j hj => (b.cell (p := ⟨0, j, none⟩) h.1).trans (h.2 j hj)⟩
theorem rnd_length (v : List Int) (h : v.length = 8) (a b : Int) : (rnd v a b).length = 8 := by
  match v, h with
  | [_, _, _, _, _, _, _, _], _ => rfl
theorem vs_length (h w : List Int) (h8 : h.length = 8) (k : Nat) : (vs h w k).length = 8 := by
  induction k with
  | zero => exact h8
  | succ k ih => exact rnd_length _ ih _ _
theorem eight (v : List Int) (h : v.length = 8) : ∃ v0 v1 v2 v3 v4 v5 v6 v7, v = [v0, v1, v2, v3, v4, v5, v6, v7] := by
  match v, h with
  | [v0, v1, v2, v3, v4, v5, v6, v7], _ => exact ⟨v0, v1, v2, v3, v4, v5, v6, v7, rfl⟩
def mixAdd (h v : List Int) : List Int := List.zipWith (fun a b => (a + b) % 4294967296) h v
def mixTo (h v : List Int) (k : Nat) : List Int := (mixAdd h v).take k ++ h.drop k
theorem mixTo_length (h v : List Int) (hl : h.length = 8) (vl : v.length = 8) (k : Nat) : (mixTo h v k).length = 8 := by simp [mixTo, mixAdd, hl, vl]; omega
theorem mixTo_zero (h v : List Int) : mixTo h v 0 = h := by simp [mixTo]
theorem mixTo_all (h v : List Int) (hl : h.length = 8) (vl : v.length = 8) : mixTo h v 8 = mixAdd h v := by
  rw [mixTo, List.take_of_length_le (by simp [mixAdd, hl, vl]), List.drop_of_length_le (by omega), List.append_nil]
theorem mixTo_at (h v : List Int) (hl : h.length = 8) (vl : v.length = 8) (k : Nat) (hk : k < 8) : (mixTo h v k).getD k 0 = h.getD k 0 := by
  have e : ((mixAdd h v).take k).length = k := by simp [mixAdd, hl, vl]; omega
  simp only [mixTo, List.getD]
  rw [List.getElem?_append_right (by omega), e, Nat.sub_self, List.getElem?_drop]
  rfl
theorem mixTo_set (h v : List Int) (hl : h.length = 8) (vl : v.length = 8) (k : Nat) (hk : k < 8) : (i32s (mixTo h v k)).setIfInBounds k (.int .u32 ((h.getD k 0 + v.getD k 0) % 4294967296)) = i32s (mixTo h v (k + 1)) := by
  have e : ((mixAdd h v).take k).length = k := by simp [mixAdd, hl, vl]; omega
  have hm : k < (mixAdd h v).length := by simp [mixAdd, hl, vl]; omega
  have e1 : h.drop k = h.getD k 0 :: h.drop (k + 1) := by
    rw [List.drop_eq_getElem_cons (by omega)]; simp [List.getD, show k < h.length by omega]
  have e2 : (mixAdd h v).take (k + 1) = (mixAdd h v).take k ++ [(h.getD k 0 + v.getD k 0) % 4294967296] := by
    rw [List.take_succ_eq_append_getElem hm]
    simp [mixAdd, List.getD, show k < h.length by omega, show k < v.length by omega]
  have key : ∀ (a b : List Int) (x y : Int), a.length = k → (i32s (a ++ x :: b)).setIfInBounds k (.int .u32 y) = i32s (a ++ [y] ++ b) := by
    intro a b x y ha
    subst ha
    simp [i32s]
  rw [mixTo, mixTo, e1, e2]
  exact key _ _ _ _ e
theorem St4.gh {w wr : World} {h l v : List Int} (s : St4 w wr h l v) (k : Nat) (hk : k < h.length) : wr.cell? ⟨w.heap.size, k, none⟩ = some (.int .u32 (h.getD k 0)) :=
  (cell_of_row wr _ k _ _ _ s.a).trans (i32s_at h k hk)
theorem St4.fh {w wr : World} {h l v : List Int} (s : St4 w wr h l v) (k : Nat) : wr.frozen? ⟨w.heap.size, k, none⟩ = false := frozen_of_row wr _ k _ _ s.a
theorem St4.seth {w wr : World} {h l v u : List Int} (s : St4 w wr h l v) (k : Nat) (x : Value) (hu : (i32s h).setIfInBounds k x = i32s u) : St4 w (wr.setCell ⟨w.heap.size, k, none⟩ x) u l v := by
  refine ⟨?_, ?_, ?_, ?_, s.below.setCell (Nat.le_refl _) _⟩
  · rw [heap_setCell_same _ _ _ _ _ _ s.a, hu]
  · rw [heap_setCell_other _ _ _ _ (by show w.heap.size + 1 ≠ w.heap.size; omega)]; exact s.b
  · rw [heap_setCell_other _ _ _ _ (by show w.heap.size + 1 + 1 ≠ w.heap.size; omega)]; exact s.c
  · rw [heap_setCell_other _ _ _ _ (by show w.heap.size + 3 ≠ w.heap.size; omega)]; exact s.d
theorem St4.out {w wr : World} {h l v : List Int} (s : St4 w wr h l v) (u : List Int) : (wr.setRow (w.heap.size + 1) (i32s u)).heap[w.heap.size + 1]? = some (.cells (i32s u) 44) ∧ Below w.heap.size w (wr.setRow (w.heap.size + 1) (i32s u)) :=
  ⟨setRow_heap _ _ _ _ _ _ s.b, s.below.trans ⟨rfl, rfl, rfl, by simp, fun k hk => setRow_other _ _ _ _ (by omega)⟩⟩
/-- what compress returns -/
def compressS (h : List Int) (s : List Nat) : List Int := mixAdd h (vs h (wl s 64) 64)
theorem compressS_length (h : List Int) (s : List Nat) (h8 : h.length = 8) : (compressS h s).length = 8 := by simp [compressS, mixAdd, h8, vs_length h _ h8]
theorem St.new {w wr : World} {h l : List Int} (s : St w wr h l) {o : Obj} : (wr.alloc o).heap[w.heap.size + 1 + 1 + 1]? = some o := by
  have := heap_alloc_new wr o
  rw [s.size] at this
  exact this
theorem wl_word (s : List Nat) (k : Nat) (h : k < 16) : wl s (k + 1) = wl s k ++ [word s k] := by rw [wl, if_pos h]
theorem wl_next (s : List Nat) (k : Nat) (h : ¬ k < 16) : wl s (k + 1) = wl s k ++ [next (wl s k) k] := by rw [wl, if_neg h]
theorem getD_nats (s : ByteArray) (k : Nat) (h : k < s.size) : ((nats s).getD k 0 : Int) = (s[k].toNat : Int) := by rw [nats_getD s k h]
set_option maxRecDepth 100000 in
set_option maxHeartbeats 1000000 in
theorem compress_any (h : List Int) (s : ByteArray) (h8 : h.length = 8) (hs : s.size = 64) (w : World) (hR : Rounds w) :
    Calls Tryd.prog 22 #[.agg (i32s h), .string s] w fun e w' => e = .returned (.agg (i32s (compressS h (nats s)))) ∧ Below w.heap.size w w' := by
  have Hs := Lib.hid hs
  have H8 := Lib.hid h8
  have l1 : s.size ≤ 64 := by omega
  have l2 : 64 ≤ s.size := by omega
  clear hs h8
  go_enter Tryd.func22, Tryd.ntmps22
  go_upto_region 2 with (fail)
  rw [zw_lit, z8_lit]
  go_wp2_with fail
  go_loopw [22] (fun i wr => ∃ k : Nat, k ≤ 16 ∧ i = .int .i64 k ∧ St w wr h (wl (nats s) k)) (fun i _ => 16 - (intOf i).toNat)
  case atStart => exact ⟨0, by omega, rfl, St.start w h⟩
  case round =>
    obtain ⟨k, hk, rfl, st⟩ := hrel
    by_cases hlt : k < 16
    · have hdk : decide ((k : Int) < 16) = true := by simp; omega
      have a0 : (0 : Int) ≤ 4 * (k : Int) := by omega
      have a1 : (0 : Int) ≤ 4 * (k : Int) + 1 := by omega
      have a2 : (0 : Int) ≤ 4 * (k : Int) + 2 := by omega
      have a3 : (0 : Int) ≤ 4 * (k : Int) + 3 := by omega
      have b0 : 4 * (k : Int) < s.size := by omega
      have b1 : 4 * (k : Int) + 1 < s.size := by omega
      have b2 : 4 * (k : Int) + 2 < s.size := by omega
      have b3 : 4 * (k : Int) + 3 < s.size := by omega
      have k0 : (k : Int) < 16 := by omega
      have k1 : (k : Int) < 64 := by omega
      have n0 := Lib.hid (getD_nats s (4 * k) (by omega))
      have n1 := Lib.hid (getD_nats s (4 * k + 1) (by omega))
      have n2 := Lib.hid (getD_nats s (4 * k + 2) (by omega))
      have n3 := Lib.hid (getD_nats s (4 * k + 3) (by omega))
      have e0 := IntWalk.i64_in (4 * (k : Int)) (by omega)
      have e1 := IntWalk.i64_in (4 * (k : Int) + 1) (by omega)
      have e2 := IntWalk.i64_in (4 * (k : Int) + 2) (by omega)
      have e3 := IntWalk.i64_in (4 * (k : Int) + 3) (by omega)
      have f0 : (4 * (k : Int)).toNat = 4 * k := by omega
      have f1 : (4 * (k : Int) + 1).toNat = 4 * k + 1 := by omega
      have f2 : (4 * (k : Int) + 2).toNat = 4 * k + 2 := by omega
      have f3 : (4 * (k : Int) + 3).toNat = 4 * k + 3 := by omega
      go_wp2_with fail
      go_still_tail 31, (by kernel_rfl)
      change wpList _ _ _ _ _ wr.drew
      generalize s[4 * k].toNat = c0 at *
      generalize s[4 * k + 1].toNat = c1 at *
      generalize s[4 * k + 2].toNat = c2 at *
      generalize s[4 * k + 3].toNat = c3 at *
      clear a0 a1 a2 a3 b0 b1 b2 b3 e0 e1 e2 e3 f0 f1 f2 f3 k0 k1
      have st2 := st.drew
      generalize wr.drew = w2 at *
      obtain ⟨v, hc⟩ := st2.room k (by omega) (by rw [wl_length]; omega)
      have hf := st2.free k
      go_wp2_with fail
      go_roundw
      case rel =>
        refine ⟨k + 1, by omega, by go_num, ?_⟩
        rw [wl_word _ _ hlt]
        have := st2.set k (wl_length _ _) (by omega) (word (nats s) k)
        rw [word, n0.out, n1.out, n2.out, n3.out] at this ⊢
        exact this
      case measure => simp [intOf]; omega
    · obtain rfl : k = 16 := by omega
      clear hlt hk
      rw [show ((16 : Nat) : Int) = 16 from rfl]
      go_wp2_with fail
      go_loopw [7] (fun i wr => ∃ k : Nat, 16 ≤ k ∧ k ≤ 64 ∧ i = .int .i64 k ∧ St w wr h (wl (nats s) k)) (fun i _ => 64 - (intOf i).toNat)
      case atStart => exact ⟨16, by omega, by omega, rfl, st⟩
      case round =>
        clear st
        obtain ⟨k, hk, hk2, rfl, st⟩ := hrel
        by_cases hlt : k < 64
        · have hdk : decide ((k : Int) < 64) = true := by simp; omega
          have hle := wl_length (nats s) k
          have g16 := st.get (k - 16) (by omega)
          have g15 := st.get (k - 15) (by omega)
          have g7 := st.get (k - 7) (by omega)
          have g2 := st.get (k - 2) (by omega)
          have hnx := Lib.hid (wl_next (nats s) k (by omega))
          rw [next] at hnx
          generalize hx16 : (wl (nats s) k).getD (k - 16) 0 = x16 at *
          have X16 := Lib.hid hx16
          clear hx16
          generalize (wl (nats s) k).getD (k - 15) 0 = x15 at *
          generalize hx7 : (wl (nats s) k).getD (k - 7) 0 = x7 at *
          have X7 := Lib.hid hx7
          clear hx7
          generalize (wl (nats s) k).getD (k - 2) 0 = x2 at *
          have Hle := Lib.hid hle
          clear hle
          go_wp2_with fail
          have j0 : (0 : Int) ≤ (k : Int) - 15 := by omega
          have j1 : (k : Int) - 15 < 64 := by omega
          have j2 : (0 : Int) ≤ (k : Int) - 2 := by omega
          have j3 : (k : Int) - 2 < 64 := by omega
          have j4 := IntWalk.i64_in ((k : Int) - 15) (by omega)
          have j5 := IntWalk.i64_in ((k : Int) - 2) (by omega)
          have j6 : ((k : Int) - 15).toNat = k - 15 := by omega
          have j7 : ((k : Int) - 2).toNat = k - 2 := by omega
          go_quiet (fail)
          clear j0 j1 j2 j3 j4 j5 j6 j7
          go_wp2_with (first | (go_at_call 27; (with_reducible refine (rot7 _ _).mono ?_); rintro e w' ⟨rfl, rfl⟩) | (go_at_call 27; (with_reducible refine (rot18 _ _).mono ?_); rintro e w' ⟨rfl, rfl⟩) | (go_at_call 27; (with_reducible refine (rot17 _ _).mono ?_); rintro e w' ⟨rfl, rfl⟩) | (go_at_call 27; (with_reducible refine (rot19 _ _).mono ?_); rintro e w' ⟨rfl, rfl⟩))
          have st1 := st.drewN nq
          clear st g16 g15 g7 g2
          generalize wr.drewN nq = w1 at *
          have j0 : (0 : Int) ≤ (k : Int) - 16 := by omega
          have j1 : (k : Int) - 16 < 64 := by omega
          have j2 : (0 : Int) ≤ (k : Int) - 7 := by omega
          have j3 : (k : Int) - 7 < 64 := by omega
          have j4 := IntWalk.i64_in ((k : Int) - 16) (by omega)
          have j5 := IntWalk.i64_in ((k : Int) - 7) (by omega)
          have j6 : ((k : Int) - 16).toNat = k - 16 := by omega
          have j7 : ((k : Int) - 7).toNat = k - 7 := by omega
          have j8 : (0 : Int) ≤ (k : Int) := by omega
          have j9 : (k : Int) < 64 := by omega
          have i0 : (16 : Int) ≤ (k : Int) := by omega
          have i1 : (7 : Int) ≤ (k : Int) := by omega
          have y0 : k - 16 < (wl (nats s) k).length := by rw [wl_length]; omega
          have y1 : k - 7 < (wl (nats s) k).length := by rw [wl_length]; omega
          refine wp_region_still_tail 15 (by kernel_rfl) (by kernel_rfl) ?_
          have st2 := st1.drew
          change wpStill _ _ w1.drew (fun a' => wpList _ _ _ _ a' w1.drew) _ _
          generalize w1.drew = w2 at *
          clear st1
          have g16 := st2.get (k - 16) y0
          have g7 := st2.get (k - 7) y1
          rw [X16.out] at g16
          rw [X7.out] at g7
          clear y0 y1
          simp only [List.take_succ_cons, List.take_zero, List.drop_succ_cons, List.drop_zero]
          repeat still_step
          refine wpStill_nil ?_
          clear j0 j1 j2 j3 j4 j5 j6 j7 j8 j9 g16 g7 i0 i1
          obtain ⟨v, hc⟩ := st2.room k (by omega) (by rw [wl_length]; omega)
          have hf := st2.free k
          go_wp2_with fail
          go_roundw
          case rel =>
            refine ⟨k + 1, by omega, by omega, by go_num, ?_⟩
            rw [hnx.out]
            exact st2.set k (wl_length _ _) (by omega) _
          case measure => simp [intOf]; omega
        · obtain rfl : k = 64 := by omega
          clear hlt hk hk2
          rw [show ((64 : Nat) : Int) = 64 from rfl]
          have gs := st.size
          go_wp2_with (first | (refine wpList_load_row rfl 44 _ rfl w.heap.size rfl 44 _ _ _ st.a Tryd.underlying44 rfl (by rw [i32s_size, H8.out]; exact info44) ?_) | (refine wpList_store_row rfl 44 _ _ rfl (w.heap.size + 1 + 1 + 1) (i32s h) rfl rfl 44 (i32s (List.replicate 8 0)) (St.new st) (by rw [i32s_size, H8.out]; exact info44) (by rw [i32s_size, i32s_size, H8.out]; rfl) (i32s_one _) ?_))
          rw [z8_lit]
          have st4 := st.four (List.replicate 8 0) h (by rw [H8.out]; rfl)
          clear gs st
          generalize ((wr.alloc (Obj.cells (i32s (List.replicate 8 0)) 44)).setRow (w.heap.size + 3) (i32s h)) = w4 at *
          go_loopw [101] (fun i wr => ∃ k : Nat, k ≤ 64 ∧ i = .int .i64 k ∧ St4 w wr h (wl (nats s) 64) (vs h (wl (nats s) 64) k)) (fun i _ => 64 - (intOf i).toNat)
          case atStart => exact ⟨0, by omega, rfl, st4⟩
          case round =>
            clear st4
            obtain ⟨k, hk, rfl, st⟩ := hrel
            by_cases hlt : k < 64
            · have hdk : decide ((k : Int) < 64) = true := by simp; omega
              have hl8 := vs_length h (wl (nats s) 64) H8.out k
              obtain ⟨v0, v1, v2, v3, v4, v5, v6, v7, hv⟩ := eight _ hl8
              have hnx : Hid (vs h (wl (nats s) 64) (k + 1) = rnd (vs h (wl (nats s) 64) k) (kcs.getD k 0) ((wl (nats s) 64).getD k 0)) := rfl
              have gk := (hR.mono st.below).2 k hlt
              have gw := st.get k (by rw [wl_length]; exact hlt)
              generalize kcs.getD k 0 = kc at *
              generalize (wl (nats s) 64).getD k 0 = wi at *
              rw [hv] at st hnx
              have c0 := st.gv 0 (by simp)
              have c1 := st.gv 1 (by simp)
              have c2 := st.gv 2 (by simp)
              have c3 := st.gv 3 (by simp)
              have c4 := st.gv 4 (by simp)
              have c5 := st.gv 5 (by simp)
              have c6 := st.gv 6 (by simp)
              have c7 := st.gv 7 (by simp)
              simp only [List.getD_cons_zero, List.getD_cons_succ] at c0 c1 c2 c3 c4 c5 c6 c7
              clear hl8 hv
              have k0 : (0 : Int) ≤ (k : Int) := by omega
              have k1 : (k : Int) < 64 := by omega
              go_wp2_with fail
              go_quiet (fail)
              rename Nat => nq1
              go_wp2_with (first | (go_at_call 27; (with_reducible refine (rot6 _ _).mono ?_); rintro e w' ⟨rfl, rfl⟩) | (go_at_call 27; (with_reducible refine (rot11 _ _).mono ?_); rintro e w' ⟨rfl, rfl⟩) | (go_at_call 27; (with_reducible refine (rot25 _ _).mono ?_); rintro e w' ⟨rfl, rfl⟩))
              go_quiet (fail)
              clear c0 c1 c2 c3 c4 c5 c6 c7 gk gw
              have st := (st.drewN nq1).drewN nq
              generalize (wr.drewN nq1).drewN nq = w1 at *
              have c0 := st.gv 0 (by simp)
              have c1 := st.gv 1 (by simp)
              have c2 := st.gv 2 (by simp)
              have c3 := st.gv 3 (by simp)
              have c4 := st.gv 4 (by simp)
              have c5 := st.gv 5 (by simp)
              have c6 := st.gv 6 (by simp)
              have c7 := st.gv 7 (by simp)
              simp only [List.getD_cons_zero, List.getD_cons_succ] at c0 c1 c2 c3 c4 c5 c6 c7
              go_wp2_with (first | (go_at_call 27; (with_reducible refine (rot2 _ _).mono ?_); rintro e w' ⟨rfl, rfl⟩) | (go_at_call 27; (with_reducible refine (rot13 _ _).mono ?_); rintro e w' ⟨rfl, rfl⟩) | (go_at_call 27; (with_reducible refine (rot22 _ _).mono ?_); rintro e w' ⟨rfl, rfl⟩) | (refine wpList_store_row rfl 44 _ _ rfl (w.heap.size + 3) (i32s [_, _, _, _, _, _, _, _]) rfl rfl 44 (i32s [v0, v1, v2, v3, v4, v5, v6, v7]) st.d info44 rfl (i32s_one _) ?_))
              go_roundw
              case rel =>
                refine ⟨k + 1, by omega, by go_num, ?_⟩
                rw [hnx.out]
                exact st.setv _
              case measure => simp [intOf]; omega
            · obtain rfl : k = 64 := by omega
              clear hlt hk
              rw [show ((64 : Nat) : Int) = 64 from rfl]
              have vl := vs_length h (wl (nats s) 64) H8.out 64
              have hfin : Hid (compressS h (nats s) = mixAdd h (vs h (wl (nats s) 64) 64)) := rfl
              generalize vs h (wl (nats s) 64) 64 = V at *
              generalize wl (nats s) 64 = L at *
              have Vl := Lib.hid vl
              clear vl
              go_wp2_with fail
              go_loopw [184] (fun i wr => ∃ k : Nat, k ≤ 8 ∧ i = .int .i64 k ∧ St4 w wr (mixTo h V k) L V) (fun i _ => 8 - (intOf i).toNat)
              case atStart => exact ⟨0, by omega, rfl, by rw [mixTo_zero]; exact st⟩
              case round =>
                clear st
                obtain ⟨k, hk, rfl, st⟩ := hrel
                by_cases hlt : k < 8
                · have hdk : decide ((k : Int) < 8) = true := by simp; omega
                  have q1 : k < (mixTo h V k).length := by rw [mixTo_length h V H8.out Vl.out]; exact hlt
                  have q2 : k < V.length := by rw [Vl.out]; exact hlt
                  have q3 := Lib.hid (mixTo_at h V H8.out Vl.out k hlt)
                  have q4 := Lib.hid (mixTo_set h V H8.out Vl.out k hlt)
                  go_wp2_with fail
                  have k0 : (0 : Int) ≤ (k : Int) := by omega
                  have k1 : (k : Int) < 8 := by omega
                  refine wp_region_still_tail 8 (by kernel_rfl) (by kernel_rfl) ?_
                  have st2 := st.drew
                  change wpStill _ _ wr.drew (fun a' => wpList _ _ _ _ a' wr.drew) _ _
                  generalize wr.drew = w2 at *
                  have gh := st2.gh k q1
                  have gv := st2.gv k q2
                  rw [q3.out] at gh
                  clear q1 q2
                  generalize h.getD k 0 = x at *
                  generalize V.getD k 0 = y at *
                  have hf := st2.fh k
                  simp only [List.take_succ_cons, List.take_zero, List.drop_succ_cons, List.drop_zero]
                  repeat still_step
                  refine wpStill_nil ?_
                  clear k0 k1
                  go_wp2_with fail
                  go_roundw
                  case rel => exact ⟨k + 1, by omega, by go_num, st2.seth k _ q4.out⟩
                  case measure => simp [intOf]; omega
                · obtain rfl : k = 8 := by omega
                  clear hlt hk
                  rw [mixTo_all h V H8.out Vl.out, ← hfin.out] at st
                  have hcl := Lib.hid (compressS_length h (nats s) H8.out)
                  clear hfin
                  generalize hRR : compressS h (nats s) = R at *
                  have HRR := Lib.hid hRR
                  clear hRR
                  go_wp2_with (first | (refine wpList_load_row rfl 44 _ rfl w.heap.size rfl 44 _ _ _ st.a Tryd.underlying44 rfl (by rw [i32s_size, hcl.out]; exact info44) ?_) | (refine wpList_store_row rfl 44 _ _ rfl (w.heap.size + 1) (i32s R) rfl rfl 44 (i32s (List.replicate 8 0)) st.b (by rw [i32s_size, hcl.out]; exact info44) (by rw [i32s_size, i32s_size, hcl.out]; rfl) (i32s_one _) ?_))
                  exact bodyPost_ret (results_cell_row Tryd.results22 _ _ (w.heap.size + 1) 44 (i32s R) _ _ rfl (st.out R).1 Tryd.underlying44 rfl (by rw [i32s_size, hcl.out]; exact info44)) rfl ⟨by rw [HRR.out], (st.out R).2⟩
end Go.Proofs.YtmcjkciicbmdfaaDoor
