import Derived.Test.YtcjkamnpkmkapaaDoorSmall
import Derived.Test.YtcjkamnpkmkapaaDoorBackMath
namespace Go.Proofs.YtcjkamnpkmkapaaDoor
open Go.RowKit
theorem OReads.at_ {w W : World} {v : Value} {l : List Off} (h : OReads w w.heap.size v l) (hb : Below w.heap.size w W) : OReads W W.heap.size v l := (h.below hb).mono hb.size
theorem write_all (v : Value) (l : List Off) (w : World) (hv : OReads w w.heap.size v l) (ht : Tab w) : Calls Tryd.prog 8 #[v] w fun e w' => e = .returned (.string (str (writeP l))) ∧ Below w.heap.size w w' := by
  by_cases h : 256 < l.length
  · exact write_long v l w hv h
  · exact write_any v l w hv (by omega) ht
theorem parse_ok (s : ByteArray) (w : World) (n : List Off) (hs : s.size ≤ 4294967200) (h : parseP s.data.toList = .ok n) : Calls Tryd.prog 9 #[.string s] w fun e w' => ∃ A cap, e = .returned (.tuple #[.slice A n.length cap, .int .i64 0, .int .i64 0]) ∧ OReads w' w'.heap.size (.slice A n.length cap) n ∧ Below w.heap.size w w' :=
  (parse_any s w hs).mono fun e w' hr => by
    have h2 : ParseRet w (parseP s.data.toList) e w' := hr
    rw [h] at h2
    obtain ⟨v, he, ho, hb⟩ := h2
    have ho' : w'.ownsRow w.heap.size 32 6 v n.length (ocells n) := ho
    obtain ⟨A, cap, rfl⟩ := own_slice ho'
    exact ⟨A, cap, he, OReads.of_own ho', hb⟩
theorem parse_er (s : ByteArray) (w : World) (c : Int) (p : Nat) (hs : s.size ≤ 4294967200) (h : parseP s.data.toList = .error (c, p)) : Calls Tryd.prog 9 #[.string s] w fun e w' => ∃ A cap, e = .returned (.tuple #[.slice A 0 cap, .int .i64 c, .int .i64 (p : Int)]) ∧ OReads w' w'.heap.size (.slice A 0 cap) [] ∧ Below w.heap.size w w' :=
  (parse_any s w hs).mono fun e w' hr => by
    have h2 : ParseRet w (parseP s.data.toList) e w' := hr
    rw [h] at h2
    obtain ⟨v, he, ho, hb⟩ := h2
    have ho' : w'.ownsRow w.heap.size 32 6 v 0 (ocells []) := ho
    obtain ⟨A, cap, rfl⟩ := own_slice ho'
    exact ⟨A, cap, he, OReads.of_own (l := []) ho', hb⟩
theorem same_self (v u : Value) (a : List Off) (w : World) (hv : OReads w w.heap.size v a) (hu : OReads w w.heap.size u a) (hl : a.length ≤ 4294967296) : Calls Tryd.prog 10 #[v, u] w fun e w' => e = .returned (.bool true) ∧ Below w.heap.size w w' :=
  (same_any v u a a w hv hu hl hl).mono fun e w' ⟨h1, h2⟩ => ⟨h1.trans (by rw [sameP_self]), h2⟩
theorem few_len {l : List Off} (h : fewP l = true) : l.length ≤ 300 := by
  unfold fewP at h
  rw [Bool.and_eq_true] at h
  exact of_decide_eq_true h.2
theorem strE {l : List UInt8} (h : l = []) : (str l).toList.isEmpty = true ∧ (str l).toList = [] := by subst h; rw [ByteArray.toList_eq]; exact ⟨rfl, rfl⟩
theorem strN {l : List UInt8} (h : l ≠ []) : (str l).toList.isEmpty = false ∧ ¬ (str l).toList = [] := by
  rw [ByteArray.toList_eq, data_str]
  exact ⟨by cases l with | nil => exact absurd rfl h | cons => rfl, h⟩
set_option maxHeartbeats 8000000 in
set_option maxRecDepth 100000 in
theorem back_few (s : ByteArray) (v : Value) (l : List Off) (w : World) (hv : OReads w w.heap.size v l) (hl : l.length ≤ 9223372036854775807) (hs : s.size ≤ 9223372036854775807) (ht : Tab w) (hf : fewP l = false ∨ 3000 < s.size) :
    Calls Tryd.prog 3 #[.string s, v] w fun e w' => e = .returned (.bool true) ∧ Below w.heap.size w w' := by
  have HV := Lib.hid hv
  have HT := Lib.hid ht
  clear hv ht
  cases hc : fewP l with
  | false =>
    clear hf
    go_enter Tryd.func3, Tryd.ntmps3
    go_wp2_with (first | (go_at_call 6; refine (small_any _ HT.out).mono ?_; rintro e w1 ⟨rfl, b1⟩; have R1 := Lib.hid (HV.out.at_ b1)) | (go_at_call 7; refine (few_any _ l _ R1.out hl).mono ?_; rintro e w2 ⟨rfl, rfl⟩))
    go_ret
    exact ⟨rfl, b1⟩
  | true =>
    have hs3 : 3000 < s.size := hf.resolve_left (by rw [hc]; decide)
    have t0 : decide ((3000 : Int) < (s.size : Int)) = true := decide_eq_true (by omega)
    clear hf
    go_enter Tryd.func3, Tryd.ntmps3
    go_wp2_with (first | (go_at_call 6; refine (small_any _ HT.out).mono ?_; rintro e w1 ⟨rfl, b1⟩; have R1 := Lib.hid (HV.out.at_ b1)) | (go_at_call 7; refine (few_any _ l _ R1.out hl).mono ?_; rintro e w2 ⟨rfl, rfl⟩))
    go_ret
    exact ⟨rfl, b1⟩
set_option maxHeartbeats 8000000 in
set_option maxRecDepth 100000 in
theorem back_w_err (s : ByteArray) (v : Value) (l : List Off) (w : World) (hv : OReads w w.heap.size v l) (hs : s.size ≤ 3000) (ht : Tab w) (hc : fewP l = true) (t : ByteArray) (htx : t = str (writeP l)) (hw : writeP l ≠ []) (m : List Off) (hm : parseP t.data.toList = .ok m) (hml : m = l) (c : Int) (p : Nat) (hp : parseP s.data.toList = .error (c, p)) (hcz : c ≠ 0) :
    Calls Tryd.prog 3 #[.string s, v] w fun e w' => e = .returned (.bool true) ∧ Below w.heap.size w w' := by
  have hl := few_len hc
  have HV := Lib.hid hv
  have HT := Lib.hid ht
  have HTX := Lib.hid htx
  have HM := Lib.hid hm
  have hts : t.size ≤ 256000 := by rw [htx, str_size]; exact (write_back l).1
  have t0 : decide ((3000 : Int) < (s.size : Int)) = false := decide_eq_false (by omega)
  obtain ⟨e1, e2⟩ := strN hw
  rw [← htx] at e1 e2
  clear hv ht htx hm hw
  subst hml
  have HP := Lib.hid hp
  have t1 : (c != 0) = true := by simpa using hcz
  clear hp hcz
  have tl : decide ((0 : Int) < (m.length : Int)) = decide ((0 : Int) < (m.length : Int)) := rfl
  clear tl
  go_enter Tryd.func3, Tryd.ntmps3
  go_upto_region 9 with (first | (go_at_call 6; refine (small_any _ HT.out).mono ?_; rintro e w1 ⟨rfl, b1⟩; have R1 := Lib.hid (HV.out.at_ b1)) | (go_at_call 7; refine (few_any _ _ _ R1.out (by omega)).mono ?_; rintro e w2 ⟨rfl, rfl⟩) | (go_at_call 8; refine (write_all _ _ _ R1.out (HT.out.keep b1)).mono ?_; rintro e w3 ⟨rfl, b3⟩; have d3 := Lib.hid (below_then b1 b3); rw [← HTX.out]) | (go_at_call 9; refine (parse_ok _ _ _ (by omega) HM.out).mono ?_; rintro e w4 ⟨A4, cap4, rfl, O4, b4⟩; have R4 := Lib.hid O4; have d4 := Lib.hid (below_then d3.out b4); clear b4 O4) | (go_at_call 10; refine (same_self _ _ _ _ (HV.out.at_ d4.out) R4.out (by omega)).mono ?_; rintro e w5 ⟨rfl, b5⟩; have d5 := Lib.hid (below_then d4.out b5); clear b5))
  go_wp2_with (go_at_call 9; refine (parse_er _ _ _ _ (by omega) HP.out).mono ?_; rintro e w6 ⟨A6, cap6, rfl, O6, b6⟩; have d6 := Lib.hid (below_then d5.out b6))
  go_ret
  exact ⟨rfl, d6.out⟩
set_option maxHeartbeats 8000000 in
set_option maxRecDepth 100000 in
theorem back_w_nil (s : ByteArray) (v : Value) (l : List Off) (w : World) (hv : OReads w w.heap.size v l) (hs : s.size ≤ 3000) (ht : Tab w) (hc : fewP l = true) (t : ByteArray) (htx : t = str (writeP l)) (hw : writeP l ≠ []) (m : List Off) (hm : parseP t.data.toList = .ok m) (hml : m = l) (n : List Off) (hp : parseP s.data.toList = .ok n) (hn : n = []) :
    Calls Tryd.prog 3 #[.string s, v] w fun e w' => e = .returned (.bool true) ∧ Below w.heap.size w w' := by
  have hl := few_len hc
  have HV := Lib.hid hv
  have HT := Lib.hid ht
  have HTX := Lib.hid htx
  have HM := Lib.hid hm
  have hts : t.size ≤ 256000 := by rw [htx, str_size]; exact (write_back l).1
  have t0 : decide ((3000 : Int) < (s.size : Int)) = false := decide_eq_false (by omega)
  obtain ⟨e1, e2⟩ := strN hw
  rw [← htx] at e1 e2
  clear hv ht htx hm hw
  subst hml
  have HP := Lib.hid hp
  obtain ⟨hnl, hxl, hxe, hxp⟩ := parse_back hp
  obtain ⟨x, hx⟩ : ∃ x, x = str (writeP n) := ⟨_, rfl⟩
  have HX := Lib.hid hx
  have hxs : x.size ≤ 256000 := by rw [hx, str_size]; exact hxl
  have HXP : Hid (parseP x.data.toList = .ok n) := by rw [hx, data_str]; exact hxp
  obtain ⟨f1, f2⟩ := strE (hxe.2 hn)
  rw [← hx] at f1 f2
  subst hn
  clear hp hxe hxp hx hxl
  have tl : decide ((0 : Int) < (m.length : Int)) = decide ((0 : Int) < (m.length : Int)) := rfl
  clear tl
  go_enter Tryd.func3, Tryd.ntmps3
  go_upto_region 9 with (first | (go_at_call 6; refine (small_any _ HT.out).mono ?_; rintro e w1 ⟨rfl, b1⟩; have R1 := Lib.hid (HV.out.at_ b1)) | (go_at_call 7; refine (few_any _ _ _ R1.out (by omega)).mono ?_; rintro e w2 ⟨rfl, rfl⟩) | (go_at_call 8; refine (write_all _ _ _ R1.out (HT.out.keep b1)).mono ?_; rintro e w3 ⟨rfl, b3⟩; have d3 := Lib.hid (below_then b1 b3); rw [← HTX.out]) | (go_at_call 9; refine (parse_ok _ _ _ (by omega) HM.out).mono ?_; rintro e w4 ⟨A4, cap4, rfl, O4, b4⟩; have R4 := Lib.hid O4; have d4 := Lib.hid (below_then d3.out b4); clear b4 O4) | (go_at_call 10; refine (same_self _ _ _ _ (HV.out.at_ d4.out) R4.out (by omega)).mono ?_; rintro e w5 ⟨rfl, b5⟩; have d5 := Lib.hid (below_then d4.out b5); clear b5))
  go_upto_region 12 with (go_at_call 9; refine (parse_ok _ _ _ (by omega) HP.out).mono ?_; rintro e w6 ⟨A6, cap6, rfl, O6, b6⟩; have R6 := Lib.hid O6; have d6 := Lib.hid (below_then d5.out b6); clear O6 b6)
  go_upto_region 13 with (go_at_call 8; refine (write_all _ _ _ R6.out (HT.out.keep d6.out)).mono ?_; rintro e w7 ⟨rfl, b7⟩; have d7 := Lib.hid (below_then d6.out b7); have R7 := Lib.hid (R6.out.at_ b7); clear b7; rw [← HX.out])
  go_upto_region 14 with (go_at_call 9; refine (parse_ok _ _ _ (by omega) HXP.out).mono ?_; rintro e w8 ⟨A8, cap8, rfl, O8, b8⟩; have Q8 := Lib.hid O8; have d8 := Lib.hid (below_then d7.out b8); have R8 := Lib.hid (R7.out.at_ b8); clear O8 b8)
  go_wp2_with (first | (go_at_call 10; refine (same_self _ _ _ _ R8.out Q8.out (by first | omega | simp)).mono ?_; rintro e w9 ⟨rfl, b9⟩; have d9 := Lib.hid (below_then d8.out b9); have Q9 := Lib.hid (Q8.out.at_ b9); clear b9) | (go_at_call 8; refine (write_all _ _ _ Q9.out (HT.out.keep d9.out)).mono ?_; rintro e wx ⟨rfl, bx⟩; have dx := Lib.hid (below_then d9.out bx); clear bx; rw [← HX.out]))
  go_ret
  exact ⟨by first | rfl | simp, dx.out⟩
set_option maxHeartbeats 8000000 in
set_option maxRecDepth 100000 in
theorem back_w_some (s : ByteArray) (v : Value) (l : List Off) (w : World) (hv : OReads w w.heap.size v l) (hs : s.size ≤ 3000) (ht : Tab w) (hc : fewP l = true) (t : ByteArray) (htx : t = str (writeP l)) (hw : writeP l ≠ []) (m : List Off) (hm : parseP t.data.toList = .ok m) (hml : m = l) (n : List Off) (hp : parseP s.data.toList = .ok n) (hn : n ≠ []) :
    Calls Tryd.prog 3 #[.string s, v] w fun e w' => e = .returned (.bool true) ∧ Below w.heap.size w w' := by
  have hl := few_len hc
  have HV := Lib.hid hv
  have HT := Lib.hid ht
  have HTX := Lib.hid htx
  have HM := Lib.hid hm
  have hts : t.size ≤ 256000 := by rw [htx, str_size]; exact (write_back l).1
  have t0 : decide ((3000 : Int) < (s.size : Int)) = false := decide_eq_false (by omega)
  obtain ⟨e1, e2⟩ := strN hw
  rw [← htx] at e1 e2
  clear hv ht htx hm hw
  subst hml
  have HP := Lib.hid hp
  obtain ⟨hnl, hxl, hxe, hxp⟩ := parse_back hp
  obtain ⟨x, hx⟩ : ∃ x, x = str (writeP n) := ⟨_, rfl⟩
  have HX := Lib.hid hx
  have hxs : x.size ≤ 256000 := by rw [hx, str_size]; exact hxl
  have HXP : Hid (parseP x.data.toList = .ok n) := by rw [hx, data_str]; exact hxp
  obtain ⟨f1, f2⟩ := strN (fun h => hn (hxe.1 h))
  rw [← hx] at f1 f2
  have hn1 : 1 ≤ n.length := by
    cases n with
    | nil => exact absurd rfl hn
    | cons => simp
  have t2 : ((n.length : Int) == 0) = false := beq_eq_false_iff_ne.2 (by omega)
  clear hp hxe hxp hx hxl hn
  have tl : decide ((0 : Int) < (m.length : Int)) = decide ((0 : Int) < (m.length : Int)) := rfl
  clear tl
  go_enter Tryd.func3, Tryd.ntmps3
  go_upto_region 9 with (first | (go_at_call 6; refine (small_any _ HT.out).mono ?_; rintro e w1 ⟨rfl, b1⟩; have R1 := Lib.hid (HV.out.at_ b1)) | (go_at_call 7; refine (few_any _ _ _ R1.out (by omega)).mono ?_; rintro e w2 ⟨rfl, rfl⟩) | (go_at_call 8; refine (write_all _ _ _ R1.out (HT.out.keep b1)).mono ?_; rintro e w3 ⟨rfl, b3⟩; have d3 := Lib.hid (below_then b1 b3); rw [← HTX.out]) | (go_at_call 9; refine (parse_ok _ _ _ (by omega) HM.out).mono ?_; rintro e w4 ⟨A4, cap4, rfl, O4, b4⟩; have R4 := Lib.hid O4; have d4 := Lib.hid (below_then d3.out b4); clear b4 O4) | (go_at_call 10; refine (same_self _ _ _ _ (HV.out.at_ d4.out) R4.out (by omega)).mono ?_; rintro e w5 ⟨rfl, b5⟩; have d5 := Lib.hid (below_then d4.out b5); clear b5))
  go_upto_region 12 with (go_at_call 9; refine (parse_ok _ _ _ (by omega) HP.out).mono ?_; rintro e w6 ⟨A6, cap6, rfl, O6, b6⟩; have R6 := Lib.hid O6; have d6 := Lib.hid (below_then d5.out b6); clear O6 b6)
  go_upto_region 13 with (go_at_call 8; refine (write_all _ _ _ R6.out (HT.out.keep d6.out)).mono ?_; rintro e w7 ⟨rfl, b7⟩; have d7 := Lib.hid (below_then d6.out b7); have R7 := Lib.hid (R6.out.at_ b7); clear b7; rw [← HX.out])
  go_upto_region 14 with (go_at_call 9; refine (parse_ok _ _ _ (by omega) HXP.out).mono ?_; rintro e w8 ⟨A8, cap8, rfl, O8, b8⟩; have Q8 := Lib.hid O8; have d8 := Lib.hid (below_then d7.out b8); have R8 := Lib.hid (R7.out.at_ b8); clear O8 b8)
  go_wp2_with (first | (go_at_call 10; refine (same_self _ _ _ _ R8.out Q8.out (by first | omega | simp)).mono ?_; rintro e w9 ⟨rfl, b9⟩; have d9 := Lib.hid (below_then d8.out b9); have Q9 := Lib.hid (Q8.out.at_ b9); clear b9) | (go_at_call 8; refine (write_all _ _ _ Q9.out (HT.out.keep d9.out)).mono ?_; rintro e wx ⟨rfl, bx⟩; have dx := Lib.hid (below_then d9.out bx); clear bx; rw [← HX.out]))
  go_ret
  exact ⟨by first | rfl | simp, dx.out⟩
set_option maxHeartbeats 8000000 in
set_option maxRecDepth 100000 in
theorem back_e_err (s : ByteArray) (v : Value) (l : List Off) (w : World) (hv : OReads w w.heap.size v l) (hs : s.size ≤ 3000) (ht : Tab w) (hc : fewP l = true) (t : ByteArray) (htx : t = str (writeP l)) (hw : writeP l = []) (m : List Off) (hm : parseP t.data.toList = .ok m) (hml : m = []) (c : Int) (p : Nat) (hp : parseP s.data.toList = .error (c, p)) (hcz : c ≠ 0) :
    Calls Tryd.prog 3 #[.string s, v] w fun e w' => e = .returned (.bool true) ∧ Below w.heap.size w w' := by
  have hl := few_len hc
  have HV := Lib.hid hv
  have HT := Lib.hid ht
  have HTX := Lib.hid htx
  have HM := Lib.hid hm
  have hts : t.size ≤ 256000 := by rw [htx, str_size]; exact (write_back l).1
  have t0 : decide ((3000 : Int) < (s.size : Int)) = false := decide_eq_false (by omega)
  obtain ⟨e1, e2⟩ := strE hw
  rw [← htx] at e1 e2
  clear hv ht htx hm hw
  subst hml
  have HP := Lib.hid hp
  have t1 : (c != 0) = true := by simpa using hcz
  clear hp hcz
  go_enter Tryd.func3, Tryd.ntmps3
  go_upto_region 9 with (first | (go_at_call 6; refine (small_any _ HT.out).mono ?_; rintro e w1 ⟨rfl, b1⟩; have R1 := Lib.hid (HV.out.at_ b1)) | (go_at_call 7; refine (few_any _ _ _ R1.out (by omega)).mono ?_; rintro e w2 ⟨rfl, rfl⟩) | (go_at_call 8; refine (write_all _ _ _ R1.out (HT.out.keep b1)).mono ?_; rintro e w3 ⟨rfl, b3⟩; have d3 := Lib.hid (below_then b1 b3); rw [← HTX.out]) | (go_at_call 9; refine (parse_ok _ _ _ (by omega) HM.out).mono ?_; rintro e w4 ⟨A4, cap4, rfl, O4, b4⟩; have R4 := Lib.hid O4; have d4 := Lib.hid (below_then d3.out b4); clear b4 O4))
  go_wp2_with (go_at_call 9; refine (parse_er _ _ _ _ (by omega) HP.out).mono ?_; rintro e w6 ⟨A6, cap6, rfl, O6, b6⟩; have d6 := Lib.hid (below_then d4.out b6))
  go_ret
  exact ⟨rfl, d6.out⟩
set_option maxHeartbeats 8000000 in
set_option maxRecDepth 100000 in
theorem back_e_nil (s : ByteArray) (v : Value) (l : List Off) (w : World) (hv : OReads w w.heap.size v l) (hs : s.size ≤ 3000) (ht : Tab w) (hc : fewP l = true) (t : ByteArray) (htx : t = str (writeP l)) (hw : writeP l = []) (m : List Off) (hm : parseP t.data.toList = .ok m) (hml : m = []) (n : List Off) (hp : parseP s.data.toList = .ok n) (hn : n = []) :
    Calls Tryd.prog 3 #[.string s, v] w fun e w' => e = .returned (.bool true) ∧ Below w.heap.size w w' := by
  have hl := few_len hc
  have HV := Lib.hid hv
  have HT := Lib.hid ht
  have HTX := Lib.hid htx
  have HM := Lib.hid hm
  have hts : t.size ≤ 256000 := by rw [htx, str_size]; exact (write_back l).1
  have t0 : decide ((3000 : Int) < (s.size : Int)) = false := decide_eq_false (by omega)
  obtain ⟨e1, e2⟩ := strE hw
  rw [← htx] at e1 e2
  clear hv ht htx hm hw
  subst hml
  have HP := Lib.hid hp
  obtain ⟨hnl, hxl, hxe, hxp⟩ := parse_back hp
  obtain ⟨x, hx⟩ : ∃ x, x = str (writeP n) := ⟨_, rfl⟩
  have HX := Lib.hid hx
  have hxs : x.size ≤ 256000 := by rw [hx, str_size]; exact hxl
  have HXP : Hid (parseP x.data.toList = .ok n) := by rw [hx, data_str]; exact hxp
  obtain ⟨f1, f2⟩ := strE (hxe.2 hn)
  rw [← hx] at f1 f2
  subst hn
  clear hp hxe hxp hx hxl
  go_enter Tryd.func3, Tryd.ntmps3
  go_upto_region 9 with (first | (go_at_call 6; refine (small_any _ HT.out).mono ?_; rintro e w1 ⟨rfl, b1⟩; have R1 := Lib.hid (HV.out.at_ b1)) | (go_at_call 7; refine (few_any _ _ _ R1.out (by omega)).mono ?_; rintro e w2 ⟨rfl, rfl⟩) | (go_at_call 8; refine (write_all _ _ _ R1.out (HT.out.keep b1)).mono ?_; rintro e w3 ⟨rfl, b3⟩; have d3 := Lib.hid (below_then b1 b3); rw [← HTX.out]) | (go_at_call 9; refine (parse_ok _ _ _ (by omega) HM.out).mono ?_; rintro e w4 ⟨A4, cap4, rfl, O4, b4⟩; have R4 := Lib.hid O4; have d4 := Lib.hid (below_then d3.out b4); clear b4 O4))
  go_upto_region 12 with (go_at_call 9; refine (parse_ok _ _ _ (by omega) HP.out).mono ?_; rintro e w6 ⟨A6, cap6, rfl, O6, b6⟩; have R6 := Lib.hid O6; have d6 := Lib.hid (below_then d4.out b6); clear O6 b6)
  go_upto_region 13 with (go_at_call 8; refine (write_all _ _ _ R6.out (HT.out.keep d6.out)).mono ?_; rintro e w7 ⟨rfl, b7⟩; have d7 := Lib.hid (below_then d6.out b7); have R7 := Lib.hid (R6.out.at_ b7); clear b7; rw [← HX.out])
  go_upto_region 14 with (go_at_call 9; refine (parse_ok _ _ _ (by omega) HXP.out).mono ?_; rintro e w8 ⟨A8, cap8, rfl, O8, b8⟩; have Q8 := Lib.hid O8; have d8 := Lib.hid (below_then d7.out b8); have R8 := Lib.hid (R7.out.at_ b8); clear O8 b8)
  go_wp2_with (first | (go_at_call 10; refine (same_self _ _ _ _ R8.out Q8.out (by first | omega | simp)).mono ?_; rintro e w9 ⟨rfl, b9⟩; have d9 := Lib.hid (below_then d8.out b9); have Q9 := Lib.hid (Q8.out.at_ b9); clear b9) | (go_at_call 8; refine (write_all _ _ _ Q9.out (HT.out.keep d9.out)).mono ?_; rintro e wx ⟨rfl, bx⟩; have dx := Lib.hid (below_then d9.out bx); clear bx; rw [← HX.out]))
  go_ret
  exact ⟨by first | rfl | simp, dx.out⟩
set_option maxHeartbeats 8000000 in
set_option maxRecDepth 100000 in
theorem back_e_some (s : ByteArray) (v : Value) (l : List Off) (w : World) (hv : OReads w w.heap.size v l) (hs : s.size ≤ 3000) (ht : Tab w) (hc : fewP l = true) (t : ByteArray) (htx : t = str (writeP l)) (hw : writeP l = []) (m : List Off) (hm : parseP t.data.toList = .ok m) (hml : m = []) (n : List Off) (hp : parseP s.data.toList = .ok n) (hn : n ≠ []) :
    Calls Tryd.prog 3 #[.string s, v] w fun e w' => e = .returned (.bool true) ∧ Below w.heap.size w w' := by
  have hl := few_len hc
  have HV := Lib.hid hv
  have HT := Lib.hid ht
  have HTX := Lib.hid htx
  have HM := Lib.hid hm
  have hts : t.size ≤ 256000 := by rw [htx, str_size]; exact (write_back l).1
  have t0 : decide ((3000 : Int) < (s.size : Int)) = false := decide_eq_false (by omega)
  obtain ⟨e1, e2⟩ := strE hw
  rw [← htx] at e1 e2
  clear hv ht htx hm hw
  subst hml
  have HP := Lib.hid hp
  obtain ⟨hnl, hxl, hxe, hxp⟩ := parse_back hp
  obtain ⟨x, hx⟩ : ∃ x, x = str (writeP n) := ⟨_, rfl⟩
  have HX := Lib.hid hx
  have hxs : x.size ≤ 256000 := by rw [hx, str_size]; exact hxl
  have HXP : Hid (parseP x.data.toList = .ok n) := by rw [hx, data_str]; exact hxp
  obtain ⟨f1, f2⟩ := strN (fun h => hn (hxe.1 h))
  rw [← hx] at f1 f2
  have hn1 : 1 ≤ n.length := by
    cases n with
    | nil => exact absurd rfl hn
    | cons => simp
  have t2 : ((n.length : Int) == 0) = false := beq_eq_false_iff_ne.2 (by omega)
  clear hp hxe hxp hx hxl hn
  go_enter Tryd.func3, Tryd.ntmps3
  go_upto_region 9 with (first | (go_at_call 6; refine (small_any _ HT.out).mono ?_; rintro e w1 ⟨rfl, b1⟩; have R1 := Lib.hid (HV.out.at_ b1)) | (go_at_call 7; refine (few_any _ _ _ R1.out (by omega)).mono ?_; rintro e w2 ⟨rfl, rfl⟩) | (go_at_call 8; refine (write_all _ _ _ R1.out (HT.out.keep b1)).mono ?_; rintro e w3 ⟨rfl, b3⟩; have d3 := Lib.hid (below_then b1 b3); rw [← HTX.out]) | (go_at_call 9; refine (parse_ok _ _ _ (by omega) HM.out).mono ?_; rintro e w4 ⟨A4, cap4, rfl, O4, b4⟩; have R4 := Lib.hid O4; have d4 := Lib.hid (below_then d3.out b4); clear b4 O4))
  go_upto_region 12 with (go_at_call 9; refine (parse_ok _ _ _ (by omega) HP.out).mono ?_; rintro e w6 ⟨A6, cap6, rfl, O6, b6⟩; have R6 := Lib.hid O6; have d6 := Lib.hid (below_then d4.out b6); clear O6 b6)
  go_upto_region 13 with (go_at_call 8; refine (write_all _ _ _ R6.out (HT.out.keep d6.out)).mono ?_; rintro e w7 ⟨rfl, b7⟩; have d7 := Lib.hid (below_then d6.out b7); have R7 := Lib.hid (R6.out.at_ b7); clear b7; rw [← HX.out])
  go_upto_region 14 with (go_at_call 9; refine (parse_ok _ _ _ (by omega) HXP.out).mono ?_; rintro e w8 ⟨A8, cap8, rfl, O8, b8⟩; have Q8 := Lib.hid O8; have d8 := Lib.hid (below_then d7.out b8); have R8 := Lib.hid (R7.out.at_ b8); clear O8 b8)
  go_wp2_with (first | (go_at_call 10; refine (same_self _ _ _ _ R8.out Q8.out (by first | omega | simp)).mono ?_; rintro e w9 ⟨rfl, b9⟩; have d9 := Lib.hid (below_then d8.out b9); have Q9 := Lib.hid (Q8.out.at_ b9); clear b9) | (go_at_call 8; refine (write_all _ _ _ Q9.out (HT.out.keep d9.out)).mono ?_; rintro e wx ⟨rfl, bx⟩; have dx := Lib.hid (below_then d9.out bx); clear bx; rw [← HX.out]))
  go_ret
  exact ⟨by first | rfl | simp, dx.out⟩
/-- CatalogBack returns true -/
theorem back_walk (s : ByteArray) (v : Value) (l : List Off) (w : World) (hv : OReads w w.heap.size v l) (hl : l.length ≤ 9223372036854775807) (hs : s.size ≤ 9223372036854775807) (ht : Tab w) :
    Calls Tryd.prog 3 #[.string s, v] w fun e w' => e = .returned (.bool true) ∧ Below w.heap.size w w' := by
  cases hf : fewP l with
  | false => exact back_few s v l w hv hl hs ht (.inl hf)
  | true =>
    by_cases h3 : 3000 < s.size
    · exact back_few s v l w hv hl hs ht (.inr h3)
    · have hs3 : s.size ≤ 3000 := by omega
      cases hp : parseP s.data.toList with
      | error e =>
        obtain ⟨c, p⟩ := e
        have hcz : c ≠ 0 := by have := linesP_code _ hp; simp only at this; omega
        rcases (write_back l).2 with ⟨h1, h2⟩ | ⟨h1, h2⟩
        · exact back_e_err s v l w hv hs3 ht hf _ rfl h1 [] (by rw [data_str]; exact h2) rfl c p hp hcz
        · exact back_w_err s v l w hv hs3 ht hf _ rfl h1 l (by rw [data_str]; exact h2) rfl c p hp hcz
      | ok n =>
        by_cases hn : n = []
        · rcases (write_back l).2 with ⟨h1, h2⟩ | ⟨h1, h2⟩
          · exact back_e_nil s v l w hv hs3 ht hf _ rfl h1 [] (by rw [data_str]; exact h2) rfl n hp hn
          · exact back_w_nil s v l w hv hs3 ht hf _ rfl h1 l (by rw [data_str]; exact h2) rfl n hp hn
        · rcases (write_back l).2 with ⟨h1, h2⟩ | ⟨h1, h2⟩
          · exact back_e_some s v l w hv hs3 ht hf _ rfl h1 [] (by rw [data_str]; exact h2) rfl n hp hn
          · exact back_w_some s v l w hv hs3 ht hf _ rfl h1 l (by rw [data_str]; exact h2) rfl n hp hn
end Go.Proofs.YtcjkamnpkmkapaaDoor
