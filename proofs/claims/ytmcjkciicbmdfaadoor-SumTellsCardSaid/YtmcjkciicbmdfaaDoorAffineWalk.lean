import Derived.Test.YtmcjkciicbmdfaaDoorSmall
import Derived.Deep.RegionHeld3
import Derived.Deep.AppendLies
namespace Go.Proofs.YtmcjkciicbmdfaaDoor
open Go.RowKit SumMath
theorem info5z : (Tryd.prog.info? 5).map (fun i => (i.zero, i.size, i.bytes)) = some (some (.int .u8 0), 1, 1) := by kernel_rfl
/-- the bytewise xor of three strings, k bytes of it -/
def xs3 (a b c : ByteArray) (k : Nat) : List Nat := (xor2 (xor2 (nats a) (nats b)) (nats c)).take k
theorem xs3_snoc (a b c : ByteArray) (k : Nat) (h : k < a.size) (hb : b.size = a.size) (hc : c.size = a.size) : xs3 a b c (k + 1) = xs3 a b c k ++ [(a[k].toNat ^^^ b[k].toNat) ^^^ c[k].toNat] := by
  have hl : k < (xor2 (xor2 (nats a) (nats b)) (nats c)).length := by simp [xor2, nats_length]; omega
  rw [xs3, List.take_succ_eq_append_getElem hl]
  congr 2
  have e1 := nats_getD a k h
  have e2 := nats_getD b k (by omega)
  have e3 := nats_getD c k (by omega)
  simp [xor2, List.getD, nats_length, h, show k < b.size by omega, show k < c.size by omega] at e1 e2 e3 ⊢
  rw [e1, e2, e3]
theorem own_block {w : World} {base : Nat} {e : TypeId} {z : Nat} {v : Value} {n : Nat} {xs : List Value} (h : w.ownsRow base e z v n xs) : ∀ k, v.ownBlock = some k → base ≤ k := by
  intro k hk
  rcases h.2 with ⟨rfl, _⟩ | ⟨g, cap, cur, rfl, hb, _⟩
  · cases hk
  · cases hk; exact hb
theorem run_bytes_own (w : World) (base : Nat) (v : Value) (n : Nat) (l : List Nat) (h : w.ownsRow base 5 1 v n (l.map fun n : Nat => Value.int .u8 n)) : (convert 36 9 v).run Tryd.prog w = .ok (.string (strOf l)) w := by
  obtain ⟨h1, h2⟩ := h
  have hl : l.length = n := by simpa using h1
  rcases h2 with ⟨rfl, rfl⟩ | ⟨g, cap, cur, rfl, hb, hg, hn, hc, hs, ht⟩
  · rw [run_convert_bytes_string w 36 9 5 _ _ _ Tryd.underlying36 Tryd.underlying5 Tryd.underlying9]
    obtain rfl : l = [] := List.eq_nil_of_length_eq_zero hl
    rfl
  · rw [run_convert_bytes_string w 36 9 5 _ _ _ Tryd.underlying36 Tryd.underlying5 Tryd.underlying9]
    rw [Nat.mul_one] at ht
    have hld := run_loadCells_list (P := Tryd.prog) w ⟨g, 0, none⟩ ((l.map fun n : Nat => (n : Int)).map (Value.int .u8)) (fun j v hv => by
      have hadd : (⟨g, 0, none⟩ : Addr).add j = ⟨g, j, none⟩ := by unfold Addr.add; split <;> simp_all
      rw [hadd, cell_of_row w g j cur 5 _ hg]
      have e : (l.map fun n : Nat => (n : Int)).map (Value.int .u8) = cur.toList.take n := by rw [ht]; simp
      rw [e, List.getElem?_take] at hv
      split at hv
      · simpa using hv
      · cases hv)
    rw [List.length_map, List.length_map, hl] at hld
    rw [run_bytesToString w _ n cap _ hld, foldl_push]
    simp [strOf]
theorem nats_bytes (a : ByteArray) : ∀ x ∈ nats a, x < 256 := bytes_lt _
theorem xor2_bytes (a b : List Nat) (ha : ∀ x ∈ a, x < 256) (hb : ∀ x ∈ b, x < 256) : ∀ x ∈ xor2 a b, x < 256 := by
  induction a generalizing b with
  | nil => intro x hx; simp [xor2] at hx
  | cons y a ih => cases b with
    | nil => intro x hx; simp [xor2] at hx
    | cons z b =>
      intro x hx
      simp only [xor2, List.zipWith_cons_cons, List.mem_cons] at hx
      rcases hx with rfl | hx
      · exact Nat.xor_lt_two_pow (n := 8) (ha y (by simp)) (hb z (by simp))
      · exact ih b (fun x h => ha x (by simp [h])) (fun x h => hb x (by simp [h])) x hx
theorem xor3_bytes (a b c : List Nat) (ha : ∀ x ∈ a, x < 256) (hb : ∀ x ∈ b, x < 256) (hc : ∀ x ∈ c, x < 256) : ∀ x ∈ xor2 (xor2 a b) c, x < 256 := xor2_bytes _ _ (xor2_bytes _ _ ha hb) hc
theorem affine_bool (a b c : ByteArray) (hb : b.size = a.size) (hc : c.size = a.size) : (((crc (xor2 (xor2 (nats a) (nats b)) (nats c)) : Nat) : Int) == (((crc (nats a) ^^^ crc (nats b)) ^^^ crc (nats c) : Nat) : Int)) = true := by
  rw [affine (nats a) (nats b) (nats c) (by rw [nats_length, nats_length, hb]) (by rw [nats_length, nats_length, hc])]; simp
set_option maxRecDepth 100000 in
set_option maxHeartbeats 1000000 in
theorem affine_short (a b c : ByteArray) (ha : a.size ≤ 1000) (hb : b.size = a.size) (hc : c.size = a.size) (w : World) (hR : Rounds w) :
    Calls Tryd.prog 6 #[.string a, .string b, .string c] w fun e w' => e = .returned (.bool true) ∧ Below w.heap.size w w' := by
  have d1 : decide ((1000 : Int) < a.size) = false := by simp; omega
  have d2 : ((b.size : Int) != (a.size : Int)) = false := by simp; omega
  have d3 : ((c.size : Int) != (a.size : Int)) = false := by simp; omega
  have Hb := Lib.hid hb
  have Hc := Lib.hid hc
  have l1 : b.size ≤ a.size := by omega
  have l2 : a.size ≤ b.size := by omega
  have l3 : c.size ≤ a.size := by omega
  have l4 : a.size ≤ c.size := by omega
  clear hb hc
  go_enter Tryd.func6, Tryd.ntmps6
  go_wp2_with (go_at_call 8; refine (small_any _ hR).mono ?_; rintro e w1 ⟨rfl, b1⟩)
  go_loopw [8, 9] (fun v i wr => ∃ k : Nat, k ≤ a.size ∧ i = .int .i64 k ∧ wr.ownsRow w1.heap.size 5 1 v k ((xs3 a b c k).map fun n : Nat => Value.int .u8 n) ∧ Below w1.heap.size w1 wr) (fun _ i _ => a.size - (intOf i).toNat)
  case atStart => exact ⟨0, by omega, rfl, ⟨rfl, .inl ⟨rfl, rfl⟩⟩, Below.refl _ _⟩
  case round =>
    obtain ⟨k, hk, rfl, own, bel⟩ := hrel
    by_cases hlt : k < a.size
    · have hd : decide ((k : Int) < a.size) = true := by simp; omega
      go_wp2_with fail
      have x0 : (0 : Int) ≤ (k : Int) := by omega
      have x1 : (k : Int) < a.size := by omega
      have x2 : (k : Int) < b.size := by omega
      have x3 : (k : Int) < c.size := by omega
      have za := a[k].toNat_lt
      have zb := b[k].toNat_lt
      have zc := c[k].toNat_lt
      have z2 : a[k].toNat ^^^ b[k].toNat < 256 := Nat.xor_lt_two_pow (n := 8) za zb
      have q1 := u8_xor_nat a[k].toNat b[k].toNat za zb
      have q2 := u8_xor_nat (a[k].toNat ^^^ b[k].toNat) c[k].toNat z2 zc
      have hsn := Lib.hid (xs3_snoc a b c k hlt Hb.out Hc.out)
      generalize hy : (a[k].toNat ^^^ b[k].toNat) ^^^ c[k].toNat = y at *
      have Hy := Lib.hid hy
      clear hy
      have s1 : w1.heap.size ≤ wr.heap.size := bel.size
      have s2 : k + 1 ≤ maxLen := by unfold maxLen; omega
      obtain ⟨i0, hi, hz0, hz1, hz2⟩ := info_parts info5z
      go_region_held3 (fun _ => True) (trivial) ((refine step_append_lies _ (by rfl) _ _ _ (by rfl) w1.heap.size 5 i0 _ 1 1 Tryd.underlying36 hi hz0 hz1 hz2 rfl (by omega) u8 k _ (by rfl) ((own.alloc _).drew) ⟨wr.heap.size, 0, none⟩ 1 1 [.int .u8 y] (by rfl) (by rfl) (World.news_of_block (cs := #[.int .u8 y]) (t := 5) (fr := (0, 0)) (heap_alloc_new wr _)) (by simp [Value.oneCell']) (by omega) s2 (by omega) (by simp; omega) (wr.heap.size + 1) (by simp) ?_; intro gg cap w3 own3 grow3 hat hlt3))
      all_goals
        go_wp2_with fail
        go_roundw
        case rel =>
          refine ⟨k + 1, by omega, by go_num, ?_, ?_⟩
          · rw [hsn.out, List.map_append]; exact own3
          · exact ((bel.alloc s1 _).drew).grown grow3 (by simp; omega) (own_block own)
        case measure => simp [intOf]; omega
    · obtain rfl : k = a.size := by omega
      have hd : decide ((a.size : Int) < a.size) = false := by simp
      have hcv := run_bytes_own wr _ _ _ _ own
      have hall := Lib.hid (affine_bool a b c Hb.out Hc.out)
      have hx3 : xs3 a b c a.size = xor2 (xor2 (nats a) (nats b)) (nats c) := by rw [xs3, List.take_of_length_le (by simp [xor2, nats_length]; omega)]
      have hby : ∀ x ∈ xs3 a b c a.size, x < 256 := by rw [hx3]; exact xor3_bytes _ _ _ (nats_bytes a) (nats_bytes b) (nats_bytes c)
      have hst : (strOf (xs3 a b c a.size)).size ≤ maxLen := by rw [strOf_size, hx3]; unfold maxLen; simp [xor2, nats_length]; omega
      have hns := Lib.hid (nats_strOf _ hby)
      have Hx3 := Lib.hid hx3
      clear hx3 hby
      generalize xs3 a b c a.size = X at *
      have Hst := Lib.hid hst
      clear hst own
      have c1 := crc_lt _ (nats_bytes a)
      have c2 := crc_lt _ (nats_bytes b)
      have c3 := crc_lt _ (nats_bytes c)
      have e1 := u32_xor_nat _ _ c1 c2
      have e2 := u32_xor_nat _ _ (Nat.xor_lt_two_pow (n := 32) c1 c2) c3
      go_wp2_with fail
      refine (crc_any (strOf X) Hst.out _).mono ?_
      rintro e w2 ⟨rfl, b2⟩
      go_wp2_with fail
      refine (crc_any a (by unfold maxLen; omega) _).mono ?_
      rintro e w3 ⟨rfl, b3⟩
      go_wp2_with fail
      refine (crc_any b (by unfold maxLen; omega) _).mono ?_
      rintro e w4 ⟨rfl, b4⟩
      go_wp2_with fail
      refine (crc_any c (by unfold maxLen; omega) _).mono ?_
      rintro e w5 ⟨rfl, b5⟩
      go_wp2_with fail
      go_ret
      refine ⟨?_, below_then b1 (below_then bel (below_then b2 (below_then b3 (below_then b4 b5))))⟩
      show Ending.returned (.bool (((crc (nats (strOf X)) : Nat) : Int) == bits .xor .u32 (bits .xor .u32 ((crc (nats a) : Nat) : Int) ((crc (nats b) : Nat) : Int)) ((crc (nats c) : Nat) : Int))) = _
      rw [e1, e2, hns.out, Hx3.out, hall.out]
set_option maxRecDepth 100000 in
set_option maxHeartbeats 1000000 in
theorem affine_long (a b c : ByteArray) (h : ¬ (a.size ≤ 1000 ∧ b.size = a.size ∧ c.size = a.size)) (w : World) (hR : Rounds w) :
    Calls Tryd.prog 6 #[.string a, .string b, .string c] w fun e w' => e = .returned (.bool true) ∧ Below w.heap.size w w' := by
  by_cases ha : 1000 < a.size
  · have d1 : decide ((1000 : Int) < a.size) = true := by simp; omega
    go_enter Tryd.func6, Tryd.ntmps6
    go_wp2_with (go_at_call 8; refine (small_any _ hR).mono ?_; rintro e w1 ⟨rfl, b1⟩)
    go_ret
    exact ⟨rfl, b1⟩
  · have d1 : decide ((1000 : Int) < a.size) = false := by simp; omega
    by_cases hb : b.size = a.size
    · have d2 : ((b.size : Int) != (a.size : Int)) = false := by simp; omega
      have d3 : ((c.size : Int) != (a.size : Int)) = true := by simp; omega
      have Hb := Lib.hid hb
      clear hb
      go_enter Tryd.func6, Tryd.ntmps6
      go_wp2_with (go_at_call 8; refine (small_any _ hR).mono ?_; rintro e w1 ⟨rfl, b1⟩)
      go_ret
      exact ⟨rfl, b1⟩
    · have d2 : ((b.size : Int) != (a.size : Int)) = true := by simp; omega
      go_enter Tryd.func6, Tryd.ntmps6
      go_wp2_with (go_at_call 8; refine (small_any _ hR).mono ?_; rintro e w1 ⟨rfl, b1⟩)
      go_ret
      exact ⟨rfl, b1⟩
theorem affine_any (a b c : ByteArray) (w : World) (hR : Rounds w) :
    Calls Tryd.prog 6 #[.string a, .string b, .string c] w fun e w' => e = .returned (.bool true) ∧ Below w.heap.size w w' := by
  by_cases h : a.size ≤ 1000 ∧ b.size = a.size ∧ c.size = a.size
  · exact affine_short a b c h.1 h.2.1 h.2.2 w hR
  · exact affine_long a b c h w hR
end Go.Proofs.YtmcjkciicbmdfaaDoor
