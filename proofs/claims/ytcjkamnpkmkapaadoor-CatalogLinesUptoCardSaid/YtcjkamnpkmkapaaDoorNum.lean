import Derived.Test.YtcjkamnpkmkapaaDoorCan
import Derived.Laws.RangeAny
namespace Go.Proofs.YtcjkamnpkmkapaaDoor
open Go.RowKit
/-- what num.Parse hands back -/
def okP (v : Option Int) : Value := .tuple #[.int .i64 (v.getD 0), .bool v.isSome]
theorem okP_no {v : Option Int} (h : v = none) : Ending.returned (.tuple #[.int .i64 0, .bool false]) = .returned (okP v) := by rw [h]; rfl
theorem okP_yes {v : Option Int} {n : Int} (h : v = some n) : Ending.returned (.tuple #[.int .i64 n, .bool true]) = .returned (okP v) := by rw [h]; rfl
theorem data_length (s : ByteArray) : s.data.toList.length = s.size := Array.length_toList
theorem isEmpty_ne {s : ByteArray} (h : 1 ≤ s.size) : s.toList.isEmpty = false := by
  rw [ByteArray.toList_eq]
  cases hl : s.data.toList with
  | nil => have := data_length s; rw [hl] at this; simp at this; omega
  | cons => rfl
theorem data_at (d : ByteArray) (k : Nat) (h : k < d.size) : d.data.toList.drop k = d[k] :: d.data.toList.drop (k + 1) := by
  rw [List.drop_eq_getElem_cons (by rw [data_length]; exact h)]; rfl
theorem data_head (d : ByteArray) (h : 0 < d.size) : d.data.toList.head? = some d[0] := by
  have := data_at d 0 h
  rw [List.drop_zero] at this
  rw [this]; rfl
theorem data_extract1 (s : ByteArray) : (s.extract 1 s.size).data.toList = s.data.toList.tail := by
  simp only [ByteArray.data_extract, Array.toList_extract, List.extract_eq_take_drop]
  rw [show s.size - 1 = (s.data.toList.drop 1).length by rw [List.length_drop, data_length], List.take_length, List.drop_one]
theorem acc_step (d : ByteArray) (k : Nat) (h : k < d.size) (n : Int) : accN (d.data.toList.drop k) n = if d[k].toNat < 48 ∨ 57 < d[k].toNat then none else if n < (-9223372036854775808 + ((d[k].toNat : Int) - 48)).tdiv 10 then none else accN (d.data.toList.drop (k + 1)) (n * 10 - ((d[k].toNat : Int) - 48)) := by
  rw [data_at d k h]; rfl
theorem acc_end (d : ByteArray) (n : Int) : accN (d.data.toList.drop d.size) n = some n := by
  rw [List.drop_of_length_le (by rw [data_length]; exact Nat.le_refl _)]; rfl
theorem tdiv_mul (d n : Int) (h : 0 ≤ d) (h' : d ≤ 9) (hq : (-9223372036854775808 + d).tdiv 10 ≤ n) : -9223372036854775808 ≤ n * 10 - d := by
  have e : ∀ k : Int, (0 ≤ k ∧ k ≤ 8 → (-9223372036854775808 + k).tdiv 10 = -922337203685477580) ∧ (k = 9 → (-9223372036854775808 + k).tdiv 10 = -922337203685477579) := by
    intro k
    refine ⟨fun hk => ?_, fun hk => by subst hk; decide⟩
    have : k = 0 ∨ k = 1 ∨ k = 2 ∨ k = 3 ∨ k = 4 ∨ k = 5 ∨ k = 6 ∨ k = 7 ∨ k = 8 := by omega
    rcases this with rfl | rfl | rfl | rfl | rfl | rfl | rfl | rfl | rfl <;> decide
  by_cases h9 : d = 9
  · have := (e d).2 h9; omega
  · have := (e d).1 (by omega); omega
/-- what the whole comes to, once the digits' value is known -/
def Fin (s d : ByteArray) (neg : Bool) (lo hi : Int) : Prop := ∀ r, accN d.data.toList 0 = r → numP s.data.toList lo hi = r.bind fun n => finN neg n lo hi
theorem fin_neg (s : ByteArray) (lo hi : Int) (h : 1 ≤ s.size) (c : Nat) (hc : c = s[0].toNat) (h45 : c = 45) (d : ByteArray) (hd : s.extract 1 s.size = d) (hd1 : 1 ≤ d.size) (h48 : d[0].toNat ≠ 48) : Fin s d true lo hi := by
  intro r hr
  have e1 : d.data.toList = s.data.toList.tail := by rw [← hd, data_extract1]
  have e2 : s.data.toList.head? = some 45 := by
    rw [data_head s (by omega)]
    congr 1
    apply UInt8.toNat_inj.1
    rw [← hc, h45]; rfl
  unfold numP
  rw [if_pos e2, ← e1, if_neg, hr]
  rintro (he | he)
  · have := data_length d; rw [he] at this; simp at this; omega
  · rw [data_head d (by omega)] at he
    injection he with he
    exact h48 (by rw [he]; rfl)
theorem fin_pos (s : ByteArray) (lo hi : Int) (h : 1 ≤ s.size) (c : Nat) (hc : c = s[0].toNat) (h45 : c ≠ 45) (h48 : c ≠ 48 ∨ s.data.toList = [48]) : Fin s s false lo hi := by
  intro r hr
  have e2 : s.data.toList.head? ≠ some 45 := by
    rw [data_head s (by omega)]
    intro he
    injection he with he
    exact h45 (by rw [hc, he]; rfl)
  unfold numP
  rw [if_neg e2, if_neg, hr]
  rintro (he | ⟨he, h2⟩)
  · have := data_length s; rw [he] at this; simp at this; omega
  · rcases h48 with h48 | h48
    · rw [data_head s (by omega)] at he
      injection he with he
      exact h48 (by rw [hc, he]; rfl)
    · exact h2 h48
set_option maxHeartbeats 1000000 in
theorem numParse_neg (s : ByteArray) (lo hi : Int) (w : World) (h : 1 ≤ s.size) (h0 : s.size ≤ 9223372036854775807) (c : Nat) (hm : c = s[0].toNat) (hc : c = 45) :
    Calls Tryd.prog 29 #[.string s, .int .i64 lo, .int .i64 hi] w fun e w' => e = .returned (okP (numP s.data.toList lo hi)) ∧ Below w.heap.size w w' := by
  have e1 : s.toList.isEmpty = false := isEmpty_ne h
  have e2 : ¬ s.toList = [] := by simpa using e1
  have e3 : ((s[0].toNat : Int) == 45) = true := by rw [← hm, hc]; rfl
  have hfz := Lib.hid (fin_neg s lo hi h c hm hc)
  have hnone : Hid ((s.extract 1 s.size).size = 0 → numP s.data.toList lo hi = none) := fun hz => by
    unfold numP
    rw [if_pos (by rw [data_head s (by omega)]; congr 1; apply UInt8.toNat_inj.1; rw [← hm, hc]; rfl), if_pos]
    left; rw [← data_extract1]; have := data_length (s.extract 1 s.size); rw [hz] at this; exact List.length_eq_zero_iff.1 this
  have hzero : Hid (∀ d : ByteArray, s.extract 1 s.size = d → ∀ hz : 1 ≤ d.size, d[0].toNat = 48 → numP s.data.toList lo hi = none) := fun d hd hz h48 => by
    unfold numP
    rw [if_pos (by rw [data_head s (by omega)]; congr 1; apply UInt8.toNat_inj.1; rw [← hm, hc]; rfl), if_pos]
    right; rw [← data_extract1, hd, data_head d (by omega)]; congr 1; exact UInt8.toNat_inj.1 (by rw [h48]; rfl)
  have hne : (s.toList == [48]) = false := by
    rw [ByteArray.toList_eq, beq_eq_false_iff_ne]
    intro he
    have := data_head s (by omega)
    rw [he] at this
    injection this with this
    rw [hc, ← this] at hm
    exact absurd hm (by decide)
  have HM := Lib.hid hm
  have HC := Lib.hid hc
  clear hm hc
  go_enter Tryd.func29, Tryd.ntmps29
  go_upto_region 4 with (fail)
  have hds : (s.extract 1 s.size).size ≤ 9223372036854775807 := by rw [ByteArray.size_extract]; omega
  generalize hd : s.extract 1 s.size = d at hds
  have HD := Lib.hid hd; clear hd
  by_cases hd1 : d.size = 0
  · have HR := Lib.hid (hnone.out (by rw [HD.out]; exact hd1))
    have d1 : d.toList.isEmpty = true := by rw [ByteArray.toList_eq, List.isEmpty_iff, ← List.length_eq_zero_iff, data_length]; exact hd1
    have d2 : d.toList = [] := by simpa using d1
    clear hd1
    go_wp2_with fail
    go_ret2
    exact ⟨okP_no HR.out, Below.refl _ _⟩
  have hd2 : 1 ≤ d.size := by omega
  clear hd1
  have d1 : d.toList.isEmpty = false := isEmpty_ne hd2
  have d2 : ¬ d.toList = [] := by simpa using d1
  by_cases h48 : d[0].toNat = 48
  · have HR := Lib.hid (hzero.out d HD.out hd2 h48)
    have d3 : ((d[0].toNat : Int) == 48) = true := by rw [h48]; rfl
    clear h48
    go_wp2_with fail
    go_ret2
    exact ⟨okP_no HR.out, Below.refl _ _⟩
  have HF := Lib.hid (hfz.out d HD.out hd2 h48)
  have d3 : ((d[0].toNat : Int) == 48) = false := beq_eq_false_iff_ne.2 (by omega)
  clear h48 hfz hzero hnone
  go_wp2_with fail
  go_loopw [10] (fun v wr => ∃ (k : Nat) (n : Int), k ≤ d.size ∧ -9223372036854775808 ≤ n ∧ n ≤ 0 ∧ v = .int .i64 n ∧ Hid (accN (d.data.toList.drop k) n = accN d.data.toList 0) ∧ wr = w.iter d k) (fun _ wr => d.size - wr.iterPos w.heap.size)
  case atStart => exact ⟨0, 0, by omega, by omega, by omega, rfl, rfl, rfl⟩
  case round =>
    obtain ⟨k, n, hk, hn1, hn2, rfl, hacc, rfl⟩ := hrel
    have hbel : ∀ p, Below w.heap.size w (w.iter d p) := fun p => (Below.refl _ _).alloc (Nat.le_refl _) _
    by_cases hlt : k < d.size
    · have HS := Lib.hid (acc_step d k hlt n)
      by_cases ha : d[k].toNat < 128
      · have hnx := fun ty => run_next_ascii (P := Tryd.prog) w d k ty hlt ha
        by_cases h48 : d[k].toNat < 48
        · have t1 : decide ((d[k].toNat : Int) < 48) = true := decide_eq_true (by omega)
          have HN := Lib.hid (HF.out _ (hacc.out.symm.trans (HS.out.trans (if_pos (Or.inl h48)))))
          go_wp2_with fail
          go_ret2
          exact ⟨okP_no HN.out, hbel _⟩
        · by_cases h57 : 57 < d[k].toNat
          · have t1 : decide ((d[k].toNat : Int) < 48) = false := decide_eq_false (by omega)
            have t2 : decide (57 < (d[k].toNat : Int)) = true := decide_eq_true (by omega)
            have HN := Lib.hid (HF.out _ (hacc.out.symm.trans (HS.out.trans (if_pos (Or.inr h57)))))
            go_wp2_with fail
            go_ret2
            exact ⟨okP_no HN.out, hbel _⟩
          · have t1 : decide ((d[k].toNat : Int) < 48) = false := decide_eq_false (by omega)
            have t2 : decide (57 < (d[k].toNat : Int)) = false := decide_eq_false (by omega)
            have HS2 := Lib.hid (HS.out.trans (if_neg (by omega)))
            by_cases hq : n < (-9223372036854775808 + ((d[k].toNat : Int) - 48)).tdiv 10
            · have HN := Lib.hid (HF.out _ (hacc.out.symm.trans (HS2.out.trans (if_pos hq))))
              go_wp2_with fail
              go_ret2
              exact ⟨okP_no HN.out, hbel _⟩
            · have hb1 := tdiv_mul ((d[k].toNat : Int) - 48) n (by omega) (by omega) (by omega)
              have hb2 : -9223372036854775808 ≤ n * 10 := by omega
              have HN := Lib.hid ((HS2.out.trans (if_neg hq)).symm.trans hacc.out)
              go_wp2_with fail
              go_roundw
              case rel => exact ⟨k + 1, _, by omega, hb1, by omega, rfl, HN.out, rfl⟩
              case measure => simp; omega
      · have hnx := fun ty => run_next_any (P := Tryd.prog) w d k ty hlt
        have hhi := (decode_high d k hlt (by omega)).1
        have t1 : decide (((Utf8.decode d k).1 : Int) < 48) = false := decide_eq_false (by omega)
        have t2 : decide (57 < ((Utf8.decode d k).1 : Int)) = true := decide_eq_true (by omega)
        have HN := Lib.hid (HF.out _ (hacc.out.symm.trans (HS.out.trans (if_pos (Or.inr (by omega))))))
        go_wp2_with fail
        go_ret2
        exact ⟨okP_no HN.out, hbel _⟩
    · obtain rfl : k = d.size := by omega
      have hnx := fun ty => run_next_end (P := Tryd.prog) w d d.size ty hlt
      have HN := Lib.hid (HF.out _ (hacc.out.symm.trans (acc_end d n)))
      by_cases hl : n < lo
      · have hd4 : decide (n < lo) = true := decide_eq_true hl
        have HE : Hid (finN true n lo hi = none) := by simp [Hid, finN]; omega
        go_wp2_with fail
        go_ret2
        exact ⟨okP_no (HN.out.trans HE.out), hbel _⟩
      · by_cases hh : hi < n
        · have hd4 : decide (n < lo) = false := decide_eq_false hl
          have hd5 : decide (hi < n) = true := decide_eq_true hh
          have HE : Hid (finN true n lo hi = none) := by simp [Hid, finN]; omega
          go_wp2_with fail
          go_ret2
          exact ⟨okP_no (HN.out.trans HE.out), hbel _⟩
        · have hd4 : decide (n < lo) = false := decide_eq_false hl
          have hd5 : decide (hi < n) = false := decide_eq_false hh
          have HE : Hid (finN true n lo hi = some n) := by simp [Hid, finN]; omega
          go_wp2_with fail
          go_ret2
          exact ⟨okP_yes (HN.out.trans HE.out), hbel _⟩
set_option maxHeartbeats 1000000 in
theorem numParse_pos (s : ByteArray) (lo hi : Int) (w : World) (h : 1 ≤ s.size) (h0 : s.size ≤ 9223372036854775807) (c : Nat) (hm : c = s[0].toNat) (hc : c ≠ 45) (h48 : c ≠ 48) :
    Calls Tryd.prog 29 #[.string s, .int .i64 lo, .int .i64 hi] w fun e w' => e = .returned (okP (numP s.data.toList lo hi)) ∧ Below w.heap.size w w' := by
  have e1 : s.toList.isEmpty = false := isEmpty_ne h
  have e2 : ¬ s.toList = [] := by simpa using e1
  have e3 : ((s[0].toNat : Int) == 45) = false := beq_eq_false_iff_ne.2 (by omega)
  have HF := Lib.hid (fin_pos s lo hi h c hm hc (.inl h48))
  have e4 : ((s[0].toNat : Int) == 48) = false := beq_eq_false_iff_ne.2 (by omega)
  have HM := Lib.hid hm
  clear hm hc h48
  go_enter Tryd.func29, Tryd.ntmps29
  go_wp2_with fail
  go_loopw [10] (fun v wr => ∃ (k : Nat) (n : Int), k ≤ s.size ∧ -9223372036854775808 ≤ n ∧ n ≤ 0 ∧ v = .int .i64 n ∧ Hid (accN (s.data.toList.drop k) n = accN s.data.toList 0) ∧ wr = w.iter s k) (fun _ wr => s.size - wr.iterPos w.heap.size)
  case atStart => exact ⟨0, 0, by omega, by omega, by omega, rfl, rfl, rfl⟩
  case round =>
    obtain ⟨k, n, hk, hn1, hn2, rfl, hacc, rfl⟩ := hrel
    have hbel : ∀ p, Below w.heap.size w (w.iter s p) := fun p => (Below.refl _ _).alloc (Nat.le_refl _) _
    by_cases hlt : k < s.size
    · have HS := Lib.hid (acc_step s k hlt n)
      by_cases ha : s[k].toNat < 128
      · have hnx := fun ty => run_next_ascii (P := Tryd.prog) w s k ty hlt ha
        by_cases h48 : s[k].toNat < 48
        · have t1 : decide ((s[k].toNat : Int) < 48) = true := decide_eq_true (by omega)
          have HN := Lib.hid (HF.out _ (hacc.out.symm.trans (HS.out.trans (if_pos (Or.inl h48)))))
          go_wp2_with fail
          go_ret2
          exact ⟨okP_no HN.out, hbel _⟩
        · by_cases h57 : 57 < s[k].toNat
          · have t1 : decide ((s[k].toNat : Int) < 48) = false := decide_eq_false (by omega)
            have t2 : decide (57 < (s[k].toNat : Int)) = true := decide_eq_true (by omega)
            have HN := Lib.hid (HF.out _ (hacc.out.symm.trans (HS.out.trans (if_pos (Or.inr h57)))))
            go_wp2_with fail
            go_ret2
            exact ⟨okP_no HN.out, hbel _⟩
          · have t1 : decide ((s[k].toNat : Int) < 48) = false := decide_eq_false (by omega)
            have t2 : decide (57 < (s[k].toNat : Int)) = false := decide_eq_false (by omega)
            have HS2 := Lib.hid (HS.out.trans (if_neg (by omega)))
            by_cases hq : n < (-9223372036854775808 + ((s[k].toNat : Int) - 48)).tdiv 10
            · have HN := Lib.hid (HF.out _ (hacc.out.symm.trans (HS2.out.trans (if_pos hq))))
              go_wp2_with fail
              go_ret2
              exact ⟨okP_no HN.out, hbel _⟩
            · have hb1 := tdiv_mul ((s[k].toNat : Int) - 48) n (by omega) (by omega) (by omega)
              have hb2 : -9223372036854775808 ≤ n * 10 := by omega
              have HN := Lib.hid ((HS2.out.trans (if_neg hq)).symm.trans hacc.out)
              go_wp2_with fail
              go_roundw
              case rel => exact ⟨k + 1, _, by omega, hb1, by omega, rfl, HN.out, rfl⟩
              case measure => simp; omega
      · have hnx := fun ty => run_next_any (P := Tryd.prog) w s k ty hlt
        have hhi := (decode_high s k hlt (by omega)).1
        have t1 : decide (((Utf8.decode s k).1 : Int) < 48) = false := decide_eq_false (by omega)
        have t2 : decide (57 < ((Utf8.decode s k).1 : Int)) = true := decide_eq_true (by omega)
        have HN := Lib.hid (HF.out _ (hacc.out.symm.trans (HS.out.trans (if_pos (Or.inr (by omega))))))
        go_wp2_with fail
        go_ret2
        exact ⟨okP_no HN.out, hbel _⟩
    · obtain rfl : k = s.size := by omega
      have hnx := fun ty => run_next_end (P := Tryd.prog) w s s.size ty hlt
      have HN := Lib.hid (HF.out _ (hacc.out.symm.trans (acc_end s n)))
      by_cases hmin : n = -9223372036854775808
      · have hd3 : (n == -9223372036854775808) = true := beq_iff_eq.2 hmin
        have HE : Hid (finN false n lo hi = none) := by simp [Hid, finN, hmin]
        clear hmin
        go_wp2_with fail
        go_ret2
        exact ⟨okP_no (HN.out.trans HE.out), hbel _⟩
      · have hd3 : (n == -9223372036854775808) = false := beq_eq_false_iff_ne.2 hmin
        have hn3 : -9223372036854775808 < n := by omega
        have HM := Lib.hid hmin
        clear hmin
        by_cases hl : -n < lo
        · have hd4 : decide (-n < lo) = true := decide_eq_true hl
          have HE : Hid (finN false n lo hi = none) := by simp [Hid, finN]; omega
          go_wp2_with fail
          go_ret2
          exact ⟨okP_no (HN.out.trans HE.out), hbel _⟩
        · by_cases hh : hi < -n
          · have hd4 : decide (-n < lo) = false := decide_eq_false hl
            have hd5 : decide (hi < -n) = true := decide_eq_true hh
            have HE : Hid (finN false n lo hi = none) := by simp [Hid, finN]; omega
            go_wp2_with fail
            go_ret2
            exact ⟨okP_no (HN.out.trans HE.out), hbel _⟩
          · have hd4 : decide (-n < lo) = false := decide_eq_false hl
            have hd5 : decide (hi < -n) = false := decide_eq_false hh
            have HE : Hid (finN false n lo hi = some (-n)) := by simp [Hid, finN]; omega
            go_wp2_with fail
            go_ret2
            exact ⟨okP_yes (HN.out.trans HE.out), hbel _⟩
set_option maxHeartbeats 1000000 in
theorem numParse_zero (s : ByteArray) (lo hi : Int) (w : World) (h : 1 ≤ s.size) (h0 : s.size ≤ 9223372036854775807) (c : Nat) (hm : c = s[0].toNat) (hc : c ≠ 45) (h48 : c = 48 ∧ s.data.toList = [48]) :
    Calls Tryd.prog 29 #[.string s, .int .i64 lo, .int .i64 hi] w fun e w' => e = .returned (okP (numP s.data.toList lo hi)) ∧ Below w.heap.size w w' := by
  have e1 : s.toList.isEmpty = false := isEmpty_ne h
  have e2 : ¬ s.toList = [] := by simpa using e1
  have e3 : ((s[0].toNat : Int) == 45) = false := beq_eq_false_iff_ne.2 (by omega)
  have HF := Lib.hid (fin_pos s lo hi h c hm hc (.inr h48.2))
  have e4 : ((s[0].toNat : Int) == 48) = true := beq_iff_eq.2 (by omega)
  have e5 : (s.toList == [48]) = true := by rw [ByteArray.toList_eq, beq_iff_eq]; exact h48.2
  have HM := Lib.hid hm
  clear hm hc h48
  go_enter Tryd.func29, Tryd.ntmps29
  go_wp2_with fail
  go_loopw [10] (fun v wr => ∃ (k : Nat) (n : Int), k ≤ s.size ∧ -9223372036854775808 ≤ n ∧ n ≤ 0 ∧ v = .int .i64 n ∧ Hid (accN (s.data.toList.drop k) n = accN s.data.toList 0) ∧ wr = w.iter s k) (fun _ wr => s.size - wr.iterPos w.heap.size)
  case atStart => exact ⟨0, 0, by omega, by omega, by omega, rfl, rfl, rfl⟩
  case round =>
    obtain ⟨k, n, hk, hn1, hn2, rfl, hacc, rfl⟩ := hrel
    have hbel : ∀ p, Below w.heap.size w (w.iter s p) := fun p => (Below.refl _ _).alloc (Nat.le_refl _) _
    by_cases hlt : k < s.size
    · have HS := Lib.hid (acc_step s k hlt n)
      by_cases ha : s[k].toNat < 128
      · have hnx := fun ty => run_next_ascii (P := Tryd.prog) w s k ty hlt ha
        by_cases h48 : s[k].toNat < 48
        · have t1 : decide ((s[k].toNat : Int) < 48) = true := decide_eq_true (by omega)
          have HN := Lib.hid (HF.out _ (hacc.out.symm.trans (HS.out.trans (if_pos (Or.inl h48)))))
          go_wp2_with fail
          go_ret2
          exact ⟨okP_no HN.out, hbel _⟩
        · by_cases h57 : 57 < s[k].toNat
          · have t1 : decide ((s[k].toNat : Int) < 48) = false := decide_eq_false (by omega)
            have t2 : decide (57 < (s[k].toNat : Int)) = true := decide_eq_true (by omega)
            have HN := Lib.hid (HF.out _ (hacc.out.symm.trans (HS.out.trans (if_pos (Or.inr h57)))))
            go_wp2_with fail
            go_ret2
            exact ⟨okP_no HN.out, hbel _⟩
          · have t1 : decide ((s[k].toNat : Int) < 48) = false := decide_eq_false (by omega)
            have t2 : decide (57 < (s[k].toNat : Int)) = false := decide_eq_false (by omega)
            have HS2 := Lib.hid (HS.out.trans (if_neg (by omega)))
            by_cases hq : n < (-9223372036854775808 + ((s[k].toNat : Int) - 48)).tdiv 10
            · have HN := Lib.hid (HF.out _ (hacc.out.symm.trans (HS2.out.trans (if_pos hq))))
              go_wp2_with fail
              go_ret2
              exact ⟨okP_no HN.out, hbel _⟩
            · have hb1 := tdiv_mul ((s[k].toNat : Int) - 48) n (by omega) (by omega) (by omega)
              have hb2 : -9223372036854775808 ≤ n * 10 := by omega
              have HN := Lib.hid ((HS2.out.trans (if_neg hq)).symm.trans hacc.out)
              go_wp2_with fail
              go_roundw
              case rel => exact ⟨k + 1, _, by omega, hb1, by omega, rfl, HN.out, rfl⟩
              case measure => simp; omega
      · have hnx := fun ty => run_next_any (P := Tryd.prog) w s k ty hlt
        have hhi := (decode_high s k hlt (by omega)).1
        have t1 : decide (((Utf8.decode s k).1 : Int) < 48) = false := decide_eq_false (by omega)
        have t2 : decide (57 < ((Utf8.decode s k).1 : Int)) = true := decide_eq_true (by omega)
        have HN := Lib.hid (HF.out _ (hacc.out.symm.trans (HS.out.trans (if_pos (Or.inr (by omega))))))
        go_wp2_with fail
        go_ret2
        exact ⟨okP_no HN.out, hbel _⟩
    · obtain rfl : k = s.size := by omega
      have hnx := fun ty => run_next_end (P := Tryd.prog) w s s.size ty hlt
      have HN := Lib.hid (HF.out _ (hacc.out.symm.trans (acc_end s n)))
      by_cases hmin : n = -9223372036854775808
      · have hd3 : (n == -9223372036854775808) = true := beq_iff_eq.2 hmin
        have HE : Hid (finN false n lo hi = none) := by simp [Hid, finN, hmin]
        clear hmin
        go_wp2_with fail
        go_ret2
        exact ⟨okP_no (HN.out.trans HE.out), hbel _⟩
      · have hd3 : (n == -9223372036854775808) = false := beq_eq_false_iff_ne.2 hmin
        have hn3 : -9223372036854775808 < n := by omega
        have HM := Lib.hid hmin
        clear hmin
        by_cases hl : -n < lo
        · have hd4 : decide (-n < lo) = true := decide_eq_true hl
          have HE : Hid (finN false n lo hi = none) := by simp [Hid, finN]; omega
          go_wp2_with fail
          go_ret2
          exact ⟨okP_no (HN.out.trans HE.out), hbel _⟩
        · by_cases hh : hi < -n
          · have hd4 : decide (-n < lo) = false := decide_eq_false hl
            have hd5 : decide (hi < -n) = true := decide_eq_true hh
            have HE : Hid (finN false n lo hi = none) := by simp [Hid, finN]; omega
            go_wp2_with fail
            go_ret2
            exact ⟨okP_no (HN.out.trans HE.out), hbel _⟩
          · have hd4 : decide (-n < lo) = false := decide_eq_false hl
            have hd5 : decide (hi < -n) = false := decide_eq_false hh
            have HE : Hid (finN false n lo hi = some (-n)) := by simp [Hid, finN]; omega
            go_wp2_with fail
            go_ret2
            exact ⟨okP_yes (HN.out.trans HE.out), hbel _⟩
set_option maxHeartbeats 1000000 in
theorem numParse_lead (s : ByteArray) (lo hi : Int) (w : World) (h : 1 ≤ s.size) (h0 : s.size ≤ 9223372036854775807) (c : Nat) (hm : c = s[0].toNat) (hc : c = 48) (h48 : s.data.toList ≠ [48]) :
    Calls Tryd.prog 29 #[.string s, .int .i64 lo, .int .i64 hi] w fun e w' => e = .returned (okP (numP s.data.toList lo hi)) ∧ Below w.heap.size w w' := by
  have e1 : s.toList.isEmpty = false := isEmpty_ne h
  have e2 : ¬ s.toList = [] := by simpa using e1
  have e3 : ((s[0].toNat : Int) == 45) = false := beq_eq_false_iff_ne.2 (by omega)
  have e4 : ((s[0].toNat : Int) == 48) = true := beq_iff_eq.2 (by omega)
  have e5 : (s.toList == [48]) = false := by rw [ByteArray.toList_eq, beq_eq_false_iff_ne]; exact h48
  have HR : Hid (numP s.data.toList lo hi = none) := by
    unfold Hid numP
    have e : s.data.toList.head? = some 48 := by rw [data_head s (by omega)]; congr 1; apply UInt8.toNat_inj.1; rw [← hm, hc]; rfl
    rw [if_neg (by rw [e]; decide), if_pos (.inr ⟨e, h48⟩)]
  have HM := Lib.hid hm
  clear hm hc h48
  go_enter Tryd.func29, Tryd.ntmps29
  go_wp2_with fail
  go_ret2
  exact ⟨okP_no HR.out, Below.refl _ _⟩
theorem numParse_none (s : ByteArray) (lo hi : Int) (w : World) (h : s.size = 0) :
    Calls Tryd.prog 29 #[.string s, .int .i64 lo, .int .i64 hi] w fun e w' => e = .returned (okP (numP s.data.toList lo hi)) ∧ Below w.heap.size w w' := by
  have hl : s.data.toList = [] := by rw [← List.length_eq_zero_iff, data_length]; exact h
  have e1 : s.toList.isEmpty = true := by rw [ByteArray.toList_eq, hl]; rfl
  have e2 : s.toList = [] := by simpa using e1
  have HR : Hid (numP s.data.toList lo hi = none) := by
    unfold Hid numP; rw [hl]; rfl
  clear h hl
  go_enter Tryd.func29, Tryd.ntmps29
  go_wp2_with fail
  go_ret2
  exact ⟨okP_no HR.out, Below.refl _ _⟩
/-- num.Parse -/
theorem numParse_any (s : ByteArray) (lo hi : Int) (w : World) (h0 : s.size ≤ 9223372036854775807) :
    Calls Tryd.prog 29 #[.string s, .int .i64 lo, .int .i64 hi] w fun e w' => e = .returned (okP (numP s.data.toList lo hi)) ∧ Below w.heap.size w w' := by
  by_cases h : s.size = 0
  · exact numParse_none s lo hi w h
  · by_cases h45 : s[0].toNat = 45
    · exact numParse_neg s lo hi w (by omega) h0 _ rfl h45
    · by_cases h48 : s[0].toNat = 48
      · by_cases hz : s.data.toList = [48]
        · exact numParse_zero s lo hi w (by omega) h0 _ rfl h45 ⟨h48, hz⟩
        · exact numParse_lead s lo hi w (by omega) h0 _ rfl h48 hz
      · exact numParse_pos s lo hi w (by omega) h0 _ rfl h45 h48
end Go.Proofs.YtcjkamnpkmkapaaDoor
