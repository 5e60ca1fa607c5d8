import Derived.Test.YtmcjkciicbmdfaaDoorCrc
import Derived.Test.YtmcjkciicbmdfaaDoorShelf
import Derived.Deep.DeepCutAuto
namespace Go.Proofs.YtmcjkciicbmdfaaDoor
open Go.RowKit SumMath
def u8s (l : List Nat) : Array Value := (l.map fun (n : Nat) => Value.int .u8 n).toArray
def z32 : Array Value := u8s (List.replicate 32 0)
theorem z32_lit : #[Value.int IntKind.u8 0, Value.int IntKind.u8 0, Value.int IntKind.u8 0, Value.int IntKind.u8 0, Value.int IntKind.u8 0, Value.int IntKind.u8 0, Value.int IntKind.u8 0, Value.int IntKind.u8 0, Value.int IntKind.u8 0, Value.int IntKind.u8 0, Value.int IntKind.u8 0, Value.int IntKind.u8 0, Value.int IntKind.u8 0, Value.int IntKind.u8 0, Value.int IntKind.u8 0, Value.int IntKind.u8 0, Value.int IntKind.u8 0, Value.int IntKind.u8 0, Value.int IntKind.u8 0, Value.int IntKind.u8 0, Value.int IntKind.u8 0, Value.int IntKind.u8 0, Value.int IntKind.u8 0, Value.int IntKind.u8 0, Value.int IntKind.u8 0, Value.int IntKind.u8 0, Value.int IntKind.u8 0, Value.int IntKind.u8 0, Value.int IntKind.u8 0, Value.int IntKind.u8 0, Value.int IntKind.u8 0, Value.int IntKind.u8 0] = z32 := rfl
theorem z32_built : (Tryd.prog.built 23 []) = some z32 := by kernel_rfl
theorem info23 : (Tryd.prog.info? 23).map (·.size) = some 32 := by kernel_rfl
theorem u8s_size (l : List Nat) : (u8s l).size = l.length := by simp [u8s]
theorem u8s_one (l : List Nat) : (u8s l).all (·.oneCell') = true := by simp [u8s, Value.oneCell']
theorem z32_size : z32.size = 32 := rfl
theorem results_cell_tmp_row {P : Program} {fn : Func} {p u : Tmp} {ty : TypeId} (h : fn.results = #[.cell p ty, .tmp u]) (tmps : Array Value) (w : World) (g : Nat) (t : TypeId) (cs : Array Value) (fr : Nat × Nat) (d : TypeDesc) (v : Value)
    (hp : tmps.getD p undef = .pointer (some ⟨g, 0, none⟩)) (hv : tmps.getD u undef = v) (hg : w.heap[g]? = some (.cells cs t fr))
    (hu : P.underlying ty = some d) (hd : (match d with | .struct _ | .array _ _ => true | _ => false) = true) (hi : (P.info? ty).map (·.size) = some cs.size) :
    (results fn tmps).run P w = .ok (.tuple #[.agg cs, v]) w := by
  have hp' : tmps[p]?.getD undef = .pointer (some ⟨g, 0, none⟩) := by simpa using hp
  have hv' : tmps[u]?.getD undef = v := by simpa using hv
  simp [results, h, hp', hv', asAddr, run_loadVar_row w g t ty cs fr d hg hu hd hi]
theorem setRow_alloc2 (w : World) (A B : Array Value) (t u : TypeId) (C : Array Value) : ((w.alloc (.cells A t)).alloc (.cells B u)).setRow w.heap.size C = (w.alloc (.cells C t)).alloc (.cells B u) := by
  unfold World.setRow World.alloc
  congr 1
  apply Array.ext
  · simp
  · intro i h1 h2
    simp at h1
    simp only [Array.getElem_modify, Array.getElem_push]
    by_cases e1 : i < w.heap.size
    · simp [e1, show w.heap.size ≠ i by omega, show i < w.heap.size + 1 by omega]
    · by_cases e2 : i = w.heap.size
      · subst e2; simp
      · simp [show w.heap.size ≠ i by omega, show ¬ i < w.heap.size + 1 by omega]
def hv (c : Nat) : Nat := if 48 ≤ c ∧ c ≤ 57 then c - 48 else if 97 ≤ c ∧ c ≤ 102 then c - 87 else 16
def hexL : List UInt8 := [48, 49, 50, 51, 52, 53, 54, 55, 56, 57, 97, 98, 99, 100, 101, 102]
theorem ib_hex : ∀ n : Nat, n < 256 → Lib.indexByte hexL n.toUInt8 = if hv n < 16 then (hv n : Int) else -1 := by decide +kernel
theorem hv_le (c : Nat) : hv c ≤ 16 := by unfold hv; split <;> (try split) <;> omega
/-- the digest after k digits of l -/
def rd (l : List Nat) (k : Nat) : List Nat := (List.range 32).map fun j => if 2 * j + 1 < k then 16 * hv (l.getD (2 * j) 0) + hv (l.getD (2 * j + 1) 0) else if 2 * j < k then hv (l.getD (2 * j) 0) else 0
theorem rd_zero (l : List Nat) : u8s (rd l 0) = z32 := by unfold rd z32; congr 1
theorem rd_length (l : List Nat) (k : Nat) : (rd l k).length = 32 := by simp [rd]
theorem rd_cell (l : List Nat) (k : Nat) (h : k < 64) : (u8s (rd l k))[k / 2]? = some (.int .u8 ((if k % 2 = 1 then hv (l.getD (k - 1) 0) else 0 : Nat))) := by
  simp only [u8s, rd, List.map_map, List.getElem?_toArray, List.getElem?_map, List.getElem?_range (show k / 2 < 32 by omega), Option.map_some, Function.comp]
  rw [if_neg (by omega)]
  by_cases e : k % 2 = 1
  · rw [if_pos (by omega), if_pos e, show 2 * (k / 2) = k - 1 by omega]
  · rw [if_neg (by omega), if_neg e]
theorem rd_step (l : List Nat) (k : Nat) (h : k < 64) : (u8s (rd l k)).setIfInBounds (k / 2) (.int .u8 ((16 * (if k % 2 = 1 then hv (l.getD (k - 1) 0) else 0) + hv (l.getD k 0) : Nat))) = u8s (rd l (k + 1)) := by
  apply Array.ext_getElem?
  intro i
  simp only [u8s, rd, List.map_map, Array.getElem?_setIfInBounds, List.getElem?_toArray, List.getElem?_map, List.size_toArray, List.length_map, List.length_range]
  by_cases hi : i < 32
  · simp only [List.getElem?_range hi, Option.map_some, Function.comp]
    by_cases e : k / 2 = i
    · subst e
      simp only [if_pos hi, if_true]
      by_cases e2 : k % 2 = 1
      · rw [if_pos e2, if_pos (by omega), show 2 * (k / 2) = k - 1 by omega, show k - 1 + 1 = k by omega]
      · rw [if_neg e2, if_neg (by omega), if_pos (by omega), show 2 * (k / 2) = k by omega]; simp
    · rw [if_neg e]
      by_cases c1 : 2 * i + 1 < k
      · rw [if_pos c1, if_pos (by omega)]
      · by_cases c2 : 2 * i < k
        · rw [if_neg c1, if_pos c2, if_neg (by omega), if_pos (by omega)]
        · rw [if_neg c1, if_neg c2, if_neg (by omega), if_neg (by omega)]
  · rw [if_neg (by omega)]
    simp [hi]
/-- what Read returns -/
def readOk (l : List Nat) : Bool := l.length == 64 && l.all fun c => decide (hv c < 16)
def readV (l : List Nat) : Array Value := if readOk l then u8s (rd l 64) else z32
def nats (s : ByteArray) : List Nat := s.data.toList.map UInt8.toNat
theorem nats_getD (s : ByteArray) (k : Nat) (h : k < s.size) : (nats s).getD k 0 = s[k].toNat := by
  have h' : k < s.data.toList.length := by simpa using h
  simp only [nats, List.getD, List.getElem?_map, List.getElem?_eq_getElem h', Option.map_some, Option.getD_some]
  rfl
theorem or_digit (p v : Nat) (hp : p < 16) (hv : v < 16) : bits .or .u8 ((p : Int) * 16) (v : Int) = ((16 * p + v : Nat) : Int) := by
  have h := u8_or_nat (p * 16) v (by omega) (by omega)
  rw [nat_join 4 (p * 16) v (by omega) (by omega)] at h
  have e : ((p : Int) * 16) = ((p * 16 : Nat) : Int) := by omega
  rw [e, h]
  omega
theorem prev_lt (l : List Nat) (k : Nat) (h : ∀ j, j < k → hv (l.getD j 0) < 16) : (if k % 2 = 1 then hv (l.getD (k - 1) 0) else 0) < 16 := by
  split
  · exact h _ (by omega)
  · omega
theorem readOk_yes (l : List Nat) (hl : l.length = 64) (h : ∀ j, j < 64 → hv (l.getD j 0) < 16) : readOk l = true := by
  simp only [readOk, hl, beq_self_eq_true, Bool.true_and, List.all_eq_true, decide_eq_true_eq]
  intro x hx
  obtain ⟨i, hi, rfl⟩ := List.getElem_of_mem hx
  have := h i (by omega)
  simpa [List.getD, hi] using this
theorem readOk_no (l : List Nat) (k : Nat) (hk : k < l.length) (h : ¬ hv (l.getD k 0) < 16) : readOk l = false := by
  simp only [readOk, Bool.and_eq_false_iff, List.all_eq_false, decide_eq_true_eq]
  exact .inr ⟨l[k], List.getElem_mem hk, by simpa [List.getD, hk] using h⟩
theorem nats_length (s : ByteArray) : (nats s).length = s.size := by simp [nats]
set_option maxHeartbeats 400000 in
theorem read_short (s : ByteArray) (_hs : s.size ≤ maxLen) (h64 : s.size ≠ 64) (w : World) :
    Calls Tryd.prog 9 #[.string s] w fun e w' => e = .returned (.tuple #[.agg z32, .bool false]) ∧ Below w.heap.size w w' := by
  unfold maxLen at _hs
  have hn : ((s.size : Int) != 64) = true := by simp; omega
  go_enter Tryd.func9, Tryd.ntmps9
  go_upto_region 3 with (fail)
  rw [z32_lit]
  go_wp2_with (refine wpList_store_row rfl 23 _ _ rfl w.heap.size z32 rfl rfl 23 z32 (heap_alloc2_old _ _ _) info23 rfl (u8s_one _) ?_)
  rw [setRow_alloc2]
  exact bodyPost_ret (results_cell_tmp_row Tryd.results9 _ _ w.heap.size 23 z32 _ _ _ rfl rfl (heap_alloc2_old _ _ _) Tryd.underlying23 rfl info23) rfl ⟨rfl, ((Below.refl _ _).alloc (Nat.le_refl _) _).alloc (by simp) _⟩
set_option maxHeartbeats 400000 in
theorem read_long (s : ByteArray) (h64 : s.size = 64) (w : World) :
    Calls Tryd.prog 9 #[.string s] w fun e w' => e = .returned (.tuple #[.agg (readV (nats s)), .bool (readOk (nats s))]) ∧ Below w.heap.size w w' := by
  have hn : ((s.size : Int) != 64) = false := by simp; omega
  have H64 := Lib.hid h64
  have hl : s.size ≤ 64 := by omega
  have hl' : 64 ≤ s.size := by omega
  clear h64
  go_enter Tryd.func9, Tryd.ntmps9
  go_upto_region 4 with (fail)
  rw [z32_lit]
  go_wp2_with fail
  go_loopw [13] (fun i wr => ∃ k : Nat, k ≤ 64 ∧ i = .int .i64 k ∧ Hid (∀ j, j < k → hv ((nats s).getD j 0) < 16) ∧ wr = (w.alloc (.cells z32 23)).alloc (.cells (u8s (rd (nats s) k)) 23)) (fun i _ => 64 - (intOf i).toNat)
  case atStart => exact ⟨0, by omega, rfl, fun j hj => by omega, by rw [rd_zero]⟩
  case round =>
    obtain ⟨k, hk, rfl, hall, rfl⟩ := hrel
    by_cases hlt : k < s.size
    · have hd : decide ((k : Int) < s.size) = true := by simp; omega
      have hb := s[k].toNat_lt
      have hge := Lib.hid (nats_getD s k hlt)
      have hib := Lib.hid (ib_hex s[k].toNat hb)
      by_cases hv16 : hv s[k].toNat < 16
      · have hc := rd_cell (nats s) k (by omega)
        have hp := prev_lt (nats s) k hall.out
        have hst := Lib.hid (rd_step (nats s) k (by omega))
        generalize (if k % 2 = 1 then hv ((nats s).getD (k - 1) 0) else 0) = p at *
        have hor := or_digit p (hv s[k].toNat) hp hv16
        rw [hge.out] at hst
        go_wp2_with (go_at_call 19; refine (Tryd.strings_IndexByte _ _ _).mono ?_; rintro e w' ⟨rfl, rfl⟩; rw [show (⟨#[48, 49, 50, 51, 52, 53, 54, 55, 56, 57, 97, 98, 99, 100, 101, 102]⟩ : ByteArray).data.toList = hexL from rfl, Int.toNat_natCast, hib.out, if_pos hv16])
        go_roundw
        case rel =>
          refine ⟨k + 1, by omega, by go_num, fun j hj => ?_, ?_⟩
          · by_cases e : j = k
            · subst e; rw [hge.out]; exact hv16
            · exact hall.out j (by omega)
          · rw [← hst.out]; first | done | rfl | rw [hor]
        case measure => simp [intOf]; omega
      · have hno := Lib.hid (readOk_no (nats s) k (by rw [nats_length]; exact hlt) (by rw [hge.out]; exact hv16))
        go_upto_if 21 with (go_at_call 19; refine (Tryd.strings_IndexByte _ _ _).mono ?_; rintro e w' ⟨rfl, rfl⟩; rw [show (⟨#[48, 49, 50, 51, 52, 53, 54, 55, 56, 57, 97, 98, 99, 100, 101, 102]⟩ : ByteArray).data.toList = hexL from rfl, Int.toNat_natCast, hib.out, if_neg hv16])
        go_wp2_with (refine wpList_store_row rfl 23 _ _ rfl w.heap.size z32 rfl rfl 23 z32 (heap_alloc2_old _ _ _) info23 rfl (u8s_one _) ?_)
        rw [setRow_alloc2]
        refine bodyPost_ret (results_cell_tmp_row Tryd.results9 _ _ w.heap.size 23 z32 _ _ _ rfl rfl (heap_alloc2_old _ _ _) Tryd.underlying23 rfl info23) rfl ⟨?_, ((Below.refl _ _).alloc (Nat.le_refl _) _).alloc (by simp) _⟩
        rw [readV, hno.out]; rfl
    · obtain rfl : k = 64 := by omega
      have hyes := Lib.hid (readOk_yes (nats s) (by rw [nats_length]; exact H64.out) hall.out)
      have hd : decide ((64 : Int) < s.size) = false := by simp; omega
      go_wp2_with (first | (refine wpList_load_row rfl 23 _ rfl (w.heap.size + 1) rfl 23 _ _ _ (heap_alloc2_new _ _ _) Tryd.underlying23 rfl (by rw [u8s_size, rd_length]; exact info23) ?_) | (refine wpList_store_row rfl 23 _ _ rfl w.heap.size (u8s (rd (nats s) 64)) rfl rfl 23 z32 (heap_alloc2_old _ _ _) (by rw [u8s_size, rd_length]; exact info23) (by rw [u8s_size, rd_length]; rfl) (u8s_one _) ?_))
      rw [setRow_alloc2]
      refine bodyPost_ret (results_cell_tmp_row Tryd.results9 _ _ w.heap.size 23 (u8s (rd (nats s) 64)) _ _ _ rfl rfl (heap_alloc2_old _ _ _) Tryd.underlying23 rfl (by rw [u8s_size, rd_length]; exact info23)) rfl ⟨?_, ((Below.refl _ _).alloc (Nat.le_refl _) _).alloc (by simp) _⟩
      rw [readV, hyes.out]; rfl
theorem readOk_short (l : List Nat) (h : l.length ≠ 64) : readOk l = false := by simp [readOk, h]
/-- Read: what it returns, for every string. -/
theorem read_any (s : ByteArray) (hs : s.size ≤ maxLen) (w : World) :
    Calls Tryd.prog 9 #[.string s] w fun e w' => e = .returned (.tuple #[.agg (readV (nats s)), .bool (readOk (nats s))]) ∧ Below w.heap.size w w' := by
  by_cases h : s.size = 64
  · exact read_long s h w
  · have hr := readOk_short (nats s) (by rw [nats_length]; exact h)
    rw [readV, hr]
    exact read_short s hs h w
end Go.Proofs.YtmcjkciicbmdfaaDoor
