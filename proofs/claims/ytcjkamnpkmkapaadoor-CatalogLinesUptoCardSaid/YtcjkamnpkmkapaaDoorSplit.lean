import Derived.Test.YtcjkamnpkmkapaaDoorNum
import Derived.Test.YtcjkamnpkmkapaaDoorSplitMath
namespace Go.Proofs.YtcjkamnpkmkapaaDoor
open Go.RowKit
def wcells (ws : List Wd) : List Value := ws.flatMap fun x => [.string (str x.1), .int .i64 (x.2 : Int)]
theorem wcells_snoc (ws : List Wd) (x : Wd) : wcells (ws ++ [x]) = wcells ws ++ [.string (str x.1), .int .i64 (x.2 : Int)] := by simp [wcells]
theorem str_data (s : ByteArray) : str s.data.toList = s := by simp [str]
theorem data_str (l : List UInt8) : (str l).data.toList = l := by simp [str]
theorem extract_str (s : ByteArray) (a b : Nat) : s.extract a b = str ((s.data.toList.take b).drop a) := by
  apply ByteArray.ext
  apply Array.toList_inj.1
  rw [data_str, ByteArray.data_extract, Array.toList_extract, List.extract_eq_take_drop, List.drop_take]
theorem cell_two_new (w : World) (a b : Value) (t : TypeId) : ∀ j u, [a, b][j]? = some u → (w.alloc (.cells #[a, b] t)).cell? ((⟨w.heap.size, 0, none⟩ : Addr).add j) = some u := by
  intro j u hj
  match j, hj with
  | 0, hj => simp at hj; subst hj; simp [Addr.add]
  | 1, hj => simp at hj; subst hj; simp [Addr.add]
  | (j + 2), hj => simp at hj
theorem Tryd.info67 : (Tryd.prog.info? 67).map (fun i => (i.zero, i.size, i.bytes)) = some (some (.agg #[.string ByteArray.empty, .int .i64 0]), 2, 24) := by kernel_rfl
/-- a slice handed back, with its cells in new memory -/
def RowRet (w : World) (E size n : Nat) (cs : List Value) (e : Ending) (w' : World) : Prop :=
  ∃ v, e = .returned v ∧ w'.ownsRow w.heap.size E size v n cs ∧ Below w.heap.size w w'
theorem blank_cases (c : UInt8) : blankC c = (((c.toNat : Int) == 32) || ((c.toNat : Int) == 9) || ((c.toNat : Int) == 13)) := by
  unfold blankC
  have e : ∀ m : UInt8, (c == m) = ((c.toNat : Int) == (m.toNat : Int)) := by
    intro m
    rw [Bool.eq_iff_iff, beq_iff_eq, beq_iff_eq]
    constructor
    · rintro rfl; rfl
    · intro h; exact UInt8.toNat_inj.1 (by omega)
  rw [e 32, e 9, e 13]; rfl
theorem sinv_wordB {d : ByteArray} {at_ k : Nat} {q : Int} {R : List Wd} (h : SInv d.data.toList at_ k q R) (hk : k < d.size) (hb : blankC d[k] = true) (hq : 0 ≤ q) : SInv d.data.toList at_ (k + 1) (-1) (R ++ [((d.data.toList.take k).drop q.toNat, at_ + q.toNat)]) := sinv_word h (by rw [data_length]; exact hk) hb hq
theorem sinv_blankB {d : ByteArray} {at_ k : Nat} {q : Int} {R : List Wd} (h : SInv d.data.toList at_ k q R) (hk : k < d.size) (hb : blankC d[k] = true) (hq : q < 0) : SInv d.data.toList at_ (k + 1) (-1) R := sinv_blank h (by rw [data_length]; exact hk) hb hq
theorem sinv_stepB {d : ByteArray} {at_ k : Nat} {q : Int} {R : List Wd} (h : SInv d.data.toList at_ k q R) (hk : k < d.size) (hb : blankC d[k] = false) : SInv d.data.toList at_ (k + 1) (if q < 0 then k else q) R := sinv_step h (by rw [data_length]; exact hk) hb
/-- what a law leaves, kept out of the walk's sight -/
def Kept (p : Prop) : Prop := p
theorem Kept.out {p : Prop} (h : Kept p) : p := h
theorem split_keep {w wr w3 : World} {E size n n' : Nat} {v v' : Value} {xs ys : List Value} {o : Obj} (hown : wr.ownsRow w.heap.size E size v n xs) (hbel : Below w.heap.size w wr) (hg : (wr.alloc o).grownBy w3 v.ownBlock) (h' : w3.ownsRow w.heap.size E size v' n' ys) : Kept (w3.ownsRow w.heap.size E size v' n' ys ∧ Below w.heap.size w w3) :=
  ⟨h', Below.grown (hbel.alloc hbel.size _) hg (by have := hbel.size; simp; omega) (fun j hj => (hown.lt _ hj).1)⟩
theorem word_cells (R : List Wd) (d : ByteArray) (q : Int) (p k : Nat) (hq : 0 ≤ q) : wcells R ++ [.string (d.extract q.toNat k), .int .i64 ((p : Int) + q)] = wcells (R ++ [((d.data.toList.take k).drop q.toNat, p + q.toNat)]) := by
  rw [wcells_snoc, extract_str, show ((p + q.toNat : Nat) : Int) = (p : Int) + q by omega]
theorem idx_any (s : ByteArray) (c : Int) (w : World) : Calls Tryd.prog 19 #[.string s, .int .u8 c] w fun e w' => e = .returned (.int .i64 (Lib.indexByte s.data.toList c.toNat.toUInt8)) ∧ w = w' :=
  (Tryd.strings_IndexByte s c w).mono fun _ _ ⟨a, b⟩ => ⟨a, b.symm⟩
set_option maxHeartbeats 4000000 in
set_option maxRecDepth 100000 in
theorem split_any (s : ByteArray) (p : Nat) (w : World) (hs : s.size ≤ 4294967280) (hp : p ≤ 4294967280) :
    Calls Tryd.prog 20 #[.string s, .int .i64 (p : Int)] w (RowRet w 67 2 (splitP s.data.toList p).length (wcells (splitP s.data.toList p))) := by
  obtain ⟨i0, hi, hz0, hz1, hz2⟩ := info_parts Tryd.info67
  obtain ⟨d, hd, hdl⟩ : ∃ d : ByteArray, d.data.toList = uncomment s.data.toList ∧ d.size ≤ s.size := by
    refine ⟨str (uncomment s.data.toList), data_str _, ?_⟩
    rw [← data_length, ← data_length, data_str]
    exact (List.takeWhile_sublist _).length_le
  have HP : Hid (splitP s.data.toList p = wordsF [] p d.data.toList) := by rw [hd]; rfl
  have HD := Lib.hid hd
  have hcase : Hid ((Lib.indexByte s.data.toList 35 = -1 ∧ s = d) ∨ (∃ n : Nat, n ≤ s.size ∧ Lib.indexByte s.data.toList 35 = n ∧ s.extract 0 n = d)) := by
    have e : d = str (uncomment s.data.toList) := by rw [← hd, str_data]
    rcases indexByte_cases s.data.toList 35 with ⟨h1, h2⟩ | ⟨h1, h2⟩
    · exact .inl ⟨h1, by rw [e]; unfold uncomment; rw [h2, str_data]⟩
    · refine .inr ⟨_, by rw [← data_length]; exact Nat.le_of_lt h2, h1, ?_⟩
      rw [e, extract_str, List.drop_zero, ← List.prefix_iff_eq_take.1 (List.takeWhile_prefix _)]
      rfl
  clear hd
  go_enter Tryd.func20, Tryd.ntmps20
  go_upto_if 13 with (go_at_call 19; refine (idx_any _ _ _).mono ?_; rintro e w' ⟨rfl, rfl⟩)
  generalize hix : Lib.indexByte s.data.toList 35 = ix
  have HX := Lib.hid hix
  clear hix
  go_cut [0, 13] (fun v _ wx => ∃ dd : ByteArray, v = .string dd ∧ Hid (d = dd ∧ w = wx))
  case first =>
    have hc2 := hcase.out
    rw [HX.out] at hc2
    rcases hc2 with ⟨h1, h2⟩ | ⟨n, hn, h1, h2⟩
    · have t : decide (0 ≤ ix) = false := decide_eq_false (by omega)
      have g1 : ix < 0 := by omega
      have H2 := Lib.hid h2
      clear h1 h2
      go_wp2_with fail
      go_meet
      exact ⟨_, rfl, H2.out.symm, rfl⟩
    · have t : decide (0 ≤ ix) = true := decide_eq_true (by omega)
      have g1 : 0 ≤ ix := by omega
      have g2 : ix ≤ s.size := by omega
      have H2 : Hid (s.extract 0 ix.toNat = d) := by rw [h1, Int.toNat_natCast]; exact h2
      clear h1 h2
      go_wp2_with fail
      go_meet
      exact ⟨_, rfl, H2.out.symm, rfl⟩
  case rest =>
  clear hcase
  obtain ⟨dd, rfl, hh⟩ := hcut
  obtain ⟨rfl, rfl⟩ := hh.out
  clear hh
  go_wp2_with fail
  go_loopw [6, 7, 8] (fun v st i wr => ∃ (k : Nat) (q : Int) (R : List Wd), k ≤ d.size + 1 ∧ i = .int .i64 k ∧ st = .int .i64 q ∧ Hid (SInv d.data.toList p k q R) ∧ wr.ownsRow w.heap.size 67 2 v R.length (wcells R) ∧ Below w.heap.size w wr) (fun _ _ i _ => d.size + 1 - (intOf i).toNat)
  case atStart => exact ⟨0, -1, [], by omega, rfl, rfl, sinv_start _ _, World.ownsRow_nil _ _ _ _, Below.refl _ _⟩
  case round =>
    rename_i v _ _ _
    obtain ⟨k, q, R, hk, rfl, rfl, hinv, hown, hbel⟩ := hrel
    have hRk := hinv.out.1
    have hbs := hbel.size
    by_cases hlt : k < d.size
    · have hq := sinv_lt hinv.out (by rw [data_length]; omega)
      have t0 : decide ((k : Int) ≤ d.size) = true := decide_eq_true (by omega)
      have t1 : ((k : Int) == d.size) = false := beq_eq_false_iff_ne.2 (by omega)
      have hcl : d[k].toNat = 32 ∨ d[k].toNat = 9 ∨ d[k].toNat = 13 ∨ (d[k].toNat ≠ 32 ∧ d[k].toNat ≠ 9 ∧ d[k].toNat ≠ 13) := by omega
      rcases hcl with hcl | hcl | hcl | hcl
      · have hbl : blankC d[k] = true := by rw [blank_cases]; simp; omega
        have s32 : ((d[k].toNat : Int) == 32) = true := beq_iff_eq.2 (by omega)
        by_cases hq0 : 0 ≤ q
        · have t2 : decide (0 ≤ q) = true := decide_eq_true hq0
          have HL := Lib.hid (sinv_wordB hinv.out hlt hbl hq0)
          clear hbl hcl
          have HN := Lib.hid (HL.out)
          have HW := Lib.hid (word_cells R d q p k hq0)
          go_wp2_with (first | (at_builtin; refine wpList_append_own _ rfl _ _ 64 rfl w.heap.size 67 i0 (.agg #[.string ByteArray.empty, .int .i64 0]) 2 24 Tryd.underlying64 hi hz0 hz1 hz2 rfl (by decide) _ _ _ rfl (hown.alloc _) ⟨wr.heap.size, 0, none⟩ 1 1 [.string (d.extract q.toNat k), .int .i64 ((p : Int) + q)] rfl rfl (cell_two_new _ _ _ _) (fun x hx => by simp at hx; rcases hx with rfl | rfl <;> rfl) (by unfold maxLen; omega) (by omega) (by simp; omega) ?_; intro v' w3 hown' hgrow3 hnil3; have X := split_keep hown hbel hgrow3 hown'; clear hown' hgrow3 hnil3))
          go_roundw
          case rel => exact ⟨k + 1, -1, _, by omega, by go_num, rfl, HN.out, by rw [← HW.out]; simpa using X.out.1, X.out.2⟩
          case measure => simp [intOf]; try omega
        · have t2 : decide (0 ≤ q) = false := decide_eq_false hq0
          have HL := Lib.hid (sinv_blankB hinv.out hlt hbl (by omega))
          obtain rfl : q = -1 := by omega
          clear hbl hcl
          have HN := Lib.hid (HL.out)
          go_wp2_with fail
          go_roundw
          case rel => exact ⟨k + 1, -1, R, by omega, by go_num, rfl, HN.out, hown, hbel⟩
          case measure => simp [intOf]; try omega
      · have hbl : blankC d[k] = true := by rw [blank_cases]; simp; omega
        have s32 : ((d[k].toNat : Int) == 32) = false := beq_eq_false_iff_ne.2 (by omega)
        have s9 : ((d[k].toNat : Int) == 9) = true := beq_iff_eq.2 (by omega)
        by_cases hq0 : 0 ≤ q
        · have t2 : decide (0 ≤ q) = true := decide_eq_true hq0
          have HL := Lib.hid (sinv_wordB hinv.out hlt hbl hq0)
          clear hbl hcl
          have HN := Lib.hid (HL.out)
          have HW := Lib.hid (word_cells R d q p k hq0)
          go_wp2_with (first | (at_builtin; refine wpList_append_own _ rfl _ _ 64 rfl w.heap.size 67 i0 (.agg #[.string ByteArray.empty, .int .i64 0]) 2 24 Tryd.underlying64 hi hz0 hz1 hz2 rfl (by decide) _ _ _ rfl (hown.alloc _) ⟨wr.heap.size, 0, none⟩ 1 1 [.string (d.extract q.toNat k), .int .i64 ((p : Int) + q)] rfl rfl (cell_two_new _ _ _ _) (fun x hx => by simp at hx; rcases hx with rfl | rfl <;> rfl) (by unfold maxLen; omega) (by omega) (by simp; omega) ?_; intro v' w3 hown' hgrow3 hnil3; have X := split_keep hown hbel hgrow3 hown'; clear hown' hgrow3 hnil3))
          go_roundw
          case rel => exact ⟨k + 1, -1, _, by omega, by go_num, rfl, HN.out, by rw [← HW.out]; simpa using X.out.1, X.out.2⟩
          case measure => simp [intOf]; try omega
        · have t2 : decide (0 ≤ q) = false := decide_eq_false hq0
          have HL := Lib.hid (sinv_blankB hinv.out hlt hbl (by omega))
          obtain rfl : q = -1 := by omega
          clear hbl hcl
          have HN := Lib.hid (HL.out)
          go_wp2_with fail
          go_roundw
          case rel => exact ⟨k + 1, -1, R, by omega, by go_num, rfl, HN.out, hown, hbel⟩
          case measure => simp [intOf]; try omega
      · have hbl : blankC d[k] = true := by rw [blank_cases]; simp; omega
        have s32 : ((d[k].toNat : Int) == 32) = false := beq_eq_false_iff_ne.2 (by omega)
        have s9 : ((d[k].toNat : Int) == 9) = false := beq_eq_false_iff_ne.2 (by omega)
        have s13 : ((d[k].toNat : Int) == 13) = true := beq_iff_eq.2 (by omega)
        by_cases hq0 : 0 ≤ q
        · have t2 : decide (0 ≤ q) = true := decide_eq_true hq0
          have HL := Lib.hid (sinv_wordB hinv.out hlt hbl hq0)
          clear hbl hcl
          have HN := Lib.hid (HL.out)
          have HW := Lib.hid (word_cells R d q p k hq0)
          go_wp2_with (first | (at_builtin; refine wpList_append_own _ rfl _ _ 64 rfl w.heap.size 67 i0 (.agg #[.string ByteArray.empty, .int .i64 0]) 2 24 Tryd.underlying64 hi hz0 hz1 hz2 rfl (by decide) _ _ _ rfl (hown.alloc _) ⟨wr.heap.size, 0, none⟩ 1 1 [.string (d.extract q.toNat k), .int .i64 ((p : Int) + q)] rfl rfl (cell_two_new _ _ _ _) (fun x hx => by simp at hx; rcases hx with rfl | rfl <;> rfl) (by unfold maxLen; omega) (by omega) (by simp; omega) ?_; intro v' w3 hown' hgrow3 hnil3; have X := split_keep hown hbel hgrow3 hown'; clear hown' hgrow3 hnil3))
          go_roundw
          case rel => exact ⟨k + 1, -1, _, by omega, by go_num, rfl, HN.out, by rw [← HW.out]; simpa using X.out.1, X.out.2⟩
          case measure => simp [intOf]; try omega
        · have t2 : decide (0 ≤ q) = false := decide_eq_false hq0
          have HL := Lib.hid (sinv_blankB hinv.out hlt hbl (by omega))
          obtain rfl : q = -1 := by omega
          clear hbl hcl
          have HN := Lib.hid (HL.out)
          go_wp2_with fail
          go_roundw
          case rel => exact ⟨k + 1, -1, R, by omega, by go_num, rfl, HN.out, hown, hbel⟩
          case measure => simp [intOf]; try omega
      · have hbl : blankC d[k] = false := by rw [blank_cases]; simp; omega
        have s32 : ((d[k].toNat : Int) == 32) = false := beq_eq_false_iff_ne.2 (by omega)
        have s9 : ((d[k].toNat : Int) == 9) = false := beq_eq_false_iff_ne.2 (by omega)
        have s13 : ((d[k].toNat : Int) == 13) = false := beq_eq_false_iff_ne.2 (by omega)
        have HL := Lib.hid (sinv_stepB hinv.out hlt hbl)
        clear hbl hcl
        by_cases hq0 : q < 0
        · have t2 : decide (q < 0) = true := decide_eq_true hq0
          have HN := Lib.hid (by have := HL.out; rw [if_pos hq0] at this; exact this)
          go_wp2_with fail
          go_roundw
          case rel => exact ⟨k + 1, (k : Int), R, by omega, by go_num, rfl, HN.out, hown, hbel⟩
          case measure => simp [intOf]; try omega
        · have t2 : decide (q < 0) = false := decide_eq_false hq0
          have HN := Lib.hid (by have := HL.out; rw [if_neg hq0] at this; exact this)
          go_wp2_with fail
          go_roundw
          case rel => exact ⟨k + 1, q, R, by omega, by go_num, rfl, HN.out, hown, hbel⟩
          case measure => simp [intOf]; try omega
    · by_cases he : k = d.size
      · subst he
        have hdl' : Hid (d.data.toList.length = d.size) := data_length d
        have hq := sinv_lt hinv.out (by rw [data_length]; omega)
        have t0 : decide ((d.size : Int) ≤ d.size) = true := decide_eq_true (by omega)
        have t1 : ((d.size : Int) == d.size) = true := beq_iff_eq.2 rfl
        by_cases hq0 : 0 ≤ q
        · have t2 : decide (0 ≤ q) = true := decide_eq_true hq0
          have HL : Hid (SInv d.data.toList p (d.size + 1) (-1) (R ++ [((d.data.toList.take d.size).drop q.toNat, p + q.toNat)])) := by
            have := hinv.out
            have h2 := sinv_endw (l := d.data.toList) (by rw [hdl'.out]; exact this) hq0
            rw [hdl'.out] at h2; exact h2
          have HN := Lib.hid (HL.out)
          have HW := Lib.hid (word_cells R d q p d.size hq0)
          go_wp2_with (first | (at_builtin; refine wpList_append_own _ rfl _ _ 64 rfl w.heap.size 67 i0 (.agg #[.string ByteArray.empty, .int .i64 0]) 2 24 Tryd.underlying64 hi hz0 hz1 hz2 rfl (by decide) _ _ _ rfl (hown.alloc _) ⟨wr.heap.size, 0, none⟩ 1 1 [.string (d.extract q.toNat d.size), .int .i64 ((p : Int) + q)] rfl rfl (cell_two_new _ _ _ _) (fun x hx => by simp at hx; rcases hx with rfl | rfl <;> rfl) (by unfold maxLen; omega) (by omega) (by simp; omega) ?_; intro v' w3 hown' hgrow3 hnil3; have X := split_keep hown hbel hgrow3 hown'; clear hown' hgrow3 hnil3))
          go_roundw
          case rel => exact ⟨d.size + 1, -1, _, by omega, by go_num, rfl, HN.out, by rw [← HW.out]; simpa using X.out.1, X.out.2⟩
          case measure => simp [intOf]; try omega
        · have t2 : decide (0 ≤ q) = false := decide_eq_false hq0
          have HL : Hid (SInv d.data.toList p (d.size + 1) (-1) R) := by
            have := hinv.out
            have h2 := sinv_end (l := d.data.toList) (by rw [hdl'.out]; exact this) (by omega)
            rw [hdl'.out] at h2; exact h2
          obtain rfl : q = -1 := by omega
          have HN := Lib.hid (HL.out)
          go_wp2_with fail
          go_roundw
          case rel => exact ⟨d.size + 1, -1, R, by omega, by go_num, rfl, HN.out, hown, hbel⟩
          case measure => simp [intOf]; try omega
      · obtain rfl : k = d.size + 1 := by omega
        have HL : Hid (R = wordsF [] p d.data.toList) := by
          have := hinv.out
          rw [← data_length d] at this
          exact sinv_out this
        have t0 : decide (((d.size + 1 : Nat) : Int) ≤ d.size) = false := decide_eq_false (by omega)
        clear hinv
        go_wp2_with fail
        go_ret
        exact ⟨_, rfl, by rw [HP.out, ← HL.out]; exact hown, hbel⟩
end Go.Proofs.YtcjkamnpkmkapaaDoor
