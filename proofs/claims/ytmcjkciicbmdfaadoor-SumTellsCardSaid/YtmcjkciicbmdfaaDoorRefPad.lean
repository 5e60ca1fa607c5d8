import Derived.Test.YtmcjkciicbmdfaaDoorRefBlock
namespace Go.Proofs.YtmcjkciicbmdfaaDoor
open Go.RowKit SumMath
def slLen : Value → Nat
  | .slice _ n _ => n
  | _ => 0
/-- how many zeros the padding has -/
def zN (n : Nat) : Nat := (119 - n % 64) % 64
theorem zN_end (n : Nat) : (n + 1 + zN n) % 64 = 56 := by unfold zN; omega
theorem zN_not (n j : Nat) (h : j < zN n) : (n + 1 + j) % 64 ≠ 56 := by unfold zN at h; omega
theorem zN_lt (n : Nat) : zN n < 64 := by unfold zN; omega
def bePre (L j : Nat) : List Nat := (List.range j).map fun i => L / 2 ^ (56 - 8 * i) % 256
theorem bePre_succ (L j : Nat) : bePre L (j + 1) = bePre L j ++ [L / 2 ^ (56 - 8 * j) % 256] := by simp [bePre, List.range_succ]
theorem bePre_all (L : Nat) : bePre L 8 = beTo L 8 := by simp [bePre, beTo, List.range, List.range.loop]
theorem bePre_length (L j : Nat) : (bePre L j).length = j := by simp [bePre]
def padS (l : List Nat) : List Nat := l ++ [128] ++ List.replicate (zN l.length) 0 ++ beTo (8 * l.length) 8
theorem vb_length (l : List Nat) : (vb l).length = l.length := by simp [vb]
theorem vb_append (a b : List Nat) : vb (a ++ b) = vb a ++ vb b := by simp [vb]
theorem vb_one (l : List Nat) : ∀ u ∈ vb l, u.oneCell' = true := by intro u hu; simp only [vb, List.mem_map] at hu; obtain ⟨z, _, rfl⟩ := hu; rfl
set_option maxRecDepth 100000 in
set_option maxHeartbeats 2000000 in
theorem padded_any (l : List Nat) (hl : l.length ≤ 100000) (g cap : Nat) (w : World) (hgl : g < w.heap.size) (hcells : ∀ j u, (vb l)[j]? = some u → w.cell? ⟨g, j, none⟩ = some u) :
    Calls Tryd.prog 23 #[.slice (some ⟨g, 0, none⟩) l.length cap] w fun e w' => ∃ v, e = .returned v ∧ w'.ownsRow w.heap.size 5 1 v (padS l).length (vb (padS l)) ∧ Below w.heap.size w w' := by
  obtain ⟨i0, hi, hz0, hz1, hz2⟩ := info_parts info5z
  have oe : (w.alloc (.cells #[] 5)).ownsRow w.heap.size 5 1 (.slice (some ⟨w.heap.size, 0, none⟩) 0 0) 0 [] :=
    ⟨rfl, .inr ⟨w.heap.size, 0, #[], rfl, Nat.le_refl _, heap_alloc_new _ _, Nat.le_refl _, by decide, rfl, rfl⟩⟩
  have hnews : ∀ j u, (vb l)[j]? = some u → (w.alloc (.cells #[] 5)).cell? ((⟨g, 0, none⟩ : Addr).add j) = some u := by
    intro j u hu
    have hadd : (⟨g, 0, none⟩ : Addr).add j = ⟨g, j, none⟩ := by unfold Addr.add; split <;> simp_all
    rw [hadd, ((Below.refl _ _).alloc (Nat.le_refl _) _ : Below w.heap.size w _).cell (p := ⟨g, j, none⟩) hgl]
    exact hcells j u hu
  have N1 := Lib.hid hnews
  have N2 := Lib.hid (show (vb l).length = l.length * 1 by rw [vb_length]; omega)
  have N4 := Lib.hid (show 0 + l.length ≤ maxLen by unfold maxLen; omega)
  clear hnews hcells
  go_enter Tryd.func23, Tryd.ntmps23
  go_upto_region 2 with (at_builtin; refine wpList_append_own _ rfl _ _ 36 rfl w.heap.size 5 i0 (.int .u8 0) 1 1 Tryd.underlying36 hi hz0 hz1 hz2 rfl (by decide) _ 0 [] rfl oe ⟨g, 0, none⟩ l.length cap (vb l) rfl N2.out N1.out (vb_one l) N4.out (by omega) (by simp) ?_; intro v3 w3 ov g3 _)
  have d3 : Below w.heap.size w w3 := ((Below.refl _ _).alloc (Nat.le_refl _) _ : Below w.heap.size w (w.alloc (.cells #[] 5))).grown g3 (by simp) (own_block oe)
  simp only [Nat.zero_add, List.nil_append] at ov
  have s3 := d3.size
  clear oe N1 N2 N4 g3
  go_upto_region 3 with (at_builtin; refine wpList_append_own _ rfl _ _ 36 rfl w.heap.size 5 i0 (.int .u8 0) 1 1 Tryd.underlying36 hi hz0 hz1 hz2 rfl (by decide) _ l.length (vb l) rfl (ov.alloc _) ⟨w3.heap.size, 0, none⟩ 1 1 [.int .u8 128] rfl rfl (cell_one_new _ _ _) (by simp [Value.oneCell']) (by unfold maxLen; omega) (by omega) (by simp; omega) ?_; intro v4 w4 ov4 g4 _)
  have d4 : Below w.heap.size w w4 := (d3.alloc s3 _).grown g4 (by simp; omega) (own_block ov)
  have ov4 : w4.ownsRow w.heap.size 5 1 v4 (l.length + 1 + 0) (vb (l ++ [128] ++ List.replicate 0 0)) := by
    simp only [List.replicate_zero, List.append_nil, vb_append]; exact ov4
  clear ov g4 d3 s3
  have hzl := zN_lt l.length
  go_loopw [3] (fun v wr => ∃ j : Nat, j ≤ zN l.length ∧ wr.ownsRow w.heap.size 5 1 v (l.length + 1 + j) (vb (l ++ [128] ++ List.replicate j 0)) ∧ Below w.heap.size w wr) (fun v _ => l.length + 1 + zN l.length - slLen v)
  case atStart => exact ⟨0, by omega, ov4, d4⟩
  case round =>
    clear ov4 d4
    obtain ⟨j, hj, ov, d4⟩ := hrel
    obtain ⟨gv, vcap, hvv, hgv, hvc⟩ := own_some ov (by omega)
    subst hvv
    have s4 := d4.size
    have m1 : l.length + 1 + j + 1 ≤ maxLen := by unfold maxLen; omega
    by_cases hlt : j < zN l.length
    · have hne := zN_not l.length j hlt
      have hd : (((l.length + 1 + j : Nat) : Int) % 64 != 56) = true := by simp only [bne_iff_ne, ne_eq]; omega
      have Hne := Lib.hid hne
      clear hne
      generalize hn : l.length + 1 + j = n at *
      have Hn := Lib.hid hn
      clear hn
      go_wp2_with (at_builtin; refine wpList_append_own _ rfl _ _ 36 rfl w.heap.size 5 i0 (.int .u8 0) 1 1 Tryd.underlying36 hi hz0 hz1 hz2 rfl (by decide) _ n _ rfl (ov.alloc _) ⟨wr.heap.size, 0, none⟩ 1 1 [.int .u8 0] rfl rfl (cell_one_new _ _ _) (by simp [Value.oneCell']) m1 (by have := Hn.out; omega) (by simp; omega) ?_; intro v5 w5 ov5 g5 _)
      obtain ⟨gv5, vcap5, hvv5, _, _⟩ := own_some ov5 (by omega)
      subst hvv5
      go_roundw
      case rel =>
        refine ⟨j + 1, by omega, ?_, (d4.alloc s4 _).grown g5 (by simp; omega) (own_block ov)⟩
        have e : l ++ [128] ++ List.replicate (j + 1) 0 = (l ++ [128] ++ List.replicate j 0) ++ [0] := by rw [List.replicate_succ', List.append_assoc (l ++ [128])]
        rw [e, vb_append, show l.length + 1 + (j + 1) = n + 1 by have := Hn.out; omega]
        exact ov5
      case measure => have := Hn.out; simp [slLen]; omega
    · obtain rfl : j = zN l.length := by omega
      have he := zN_end l.length
      have hd : (((l.length + 1 + zN l.length : Nat) : Int) % 64 != 56) = false := by simp only [bne_eq_false_iff_eq]; omega
      clear hlt hj he
      generalize hn : l.length + 1 + zN l.length = n at *
      have Hn := Lib.hid hn
      have hn2 : n ≤ 100100 := by omega
      clear hn
      have hpad : Hid (padS l = (l ++ [128] ++ List.replicate (zN l.length) 0) ++ bePre (8 * l.length) 8) := by rw [bePre_all]; rfl
      have hBl : Hid ((l ++ [128] ++ List.replicate (zN l.length) 0).length = n) := by rw [← Hn.out]; simp [Hid]; omega
      generalize l ++ [128] ++ List.replicate (zN l.length) 0 = B at *
      go_wp2_with fail
      go_loopw [3, 5] (fun v i wr => ∃ j : Nat, j ≤ 8 ∧ i = .int .i64 (56 - 8 * (j : Int)) ∧ wr.ownsRow w.heap.size 5 1 v (n + j) (vb (B ++ bePre (8 * l.length) j)) ∧ Below w.heap.size w wr) (fun _ i _ => (intOf i + 8).toNat)
      case atStart => exact ⟨0, by omega, rfl, by simpa [bePre] using ov, d4⟩
      case round =>
        clear ov d4 s4 hgv hvc m1
        obtain ⟨j, hj, rfl, ov, d4⟩ := hrel
        have s4 := d4.size
        by_cases hlt : j < 8
        · have hd8 : decide ((0 : Int) ≤ 56 - 8 * (j : Int)) = true := by simp; omega
          have p0 : (0 : Int) ≤ 56 - 8 * (j : Int) := by omega
          have p1 : (56 - 8 * (j : Int)).toNat = 56 - 8 * j := by omega
          have m1 : n + j + 1 ≤ maxLen := by unfold maxLen; omega
          have ev : ((8 * l.length / 2 ^ (56 - 8 * j) % 256 : Nat) : Int) = 8 * (l.length : Int) / 2 ^ (56 - 8 * j) % 256 := by simp
          have EV := Lib.hid ev
          clear ev
          go_wp2_with (at_builtin; refine wpList_append_own _ rfl _ _ 36 rfl w.heap.size 5 i0 (.int .u8 0) 1 1 Tryd.underlying36 hi hz0 hz1 hz2 rfl (by decide) _ (n + j) _ rfl (ov.alloc _) ⟨wr.heap.size, 0, none⟩ 1 1 [.int .u8 (8 * (l.length : Int) / 2 ^ (56 - 8 * j) % 256)] rfl rfl (cell_one_new _ _ _) (by simp [Value.oneCell']) m1 (by omega) (by simp; omega) ?_; intro v5 w5 ov5 g5 _)
          go_roundw
          case rel =>
            refine ⟨j + 1, by omega, by go_num, ?_, (d4.alloc s4 _).grown g5 (by simp; omega) (own_block ov)⟩
            rw [← EV.out] at ov5
            rw [bePre_succ, ← List.append_assoc, vb_append]
            exact ov5
          case measure => simp [intOf]; omega
        · obtain rfl : j = 8 := by omega
          have hd8 : decide ((0 : Int) ≤ 56 - 8 * ((8 : Nat) : Int)) = false := by decide
          rw [← hpad.out] at ov
          have hlen : (padS l).length = n + 8 := by rw [hpad.out, List.length_append, hBl.out, bePre_length]
          rw [← hlen] at ov
          go_wp2_with fail
          go_ret
          exact ⟨_, rfl, ov, d4⟩
end Go.Proofs.YtmcjkciicbmdfaaDoor
