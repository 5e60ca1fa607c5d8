import Derived.Test.YtcjkamnpkmkapaaDoorBackWalk
import Derived.Test.YtcjkamnpkmkapaaDoorLinesMath
import Derived.Laws.AppendOwnNone
namespace Go.Proofs.YtcjkamnpkmkapaaDoor
open Go.RowKit
theorem parse_gen (s : ByteArray) (w : World) (hs : s.size ≤ 4294967200) : Calls Tryd.prog 9 #[.string s] w fun e w' => ∃ A cap, e = .returned (.tuple #[.slice A (resL (parseP s.data.toList)).length cap, .int .i64 (resE (parseP s.data.toList)), .int .i64 (resP (parseP s.data.toList))]) ∧ Below w.heap.size w w' :=
  (parse_any s w hs).mono fun e w' hr => by
    obtain ⟨v, he, ho, hb⟩ := hr
    obtain ⟨A, cap, rfl⟩ := own_slice ho
    exact ⟨A, cap, he, hb⟩
theorem parse_own (s : ByteArray) (w : World) (n : List Off) (hs : s.size ≤ 4294967200) (h : parseP s.data.toList = .ok n) : Calls Tryd.prog 9 #[.string s] w fun e w' => ∃ A cap, e = .returned (.tuple #[.slice A n.length cap, .int .i64 0, .int .i64 0]) ∧ w'.ownsRow w.heap.size 32 6 (.slice A n.length cap) n.length (ocells n) ∧ Below w.heap.size w w' :=
  (parse_any s w hs).mono fun e w' hr => by
    have h2 : ParseRet w (parseP s.data.toList) e w' := hr
    rw [h] at h2
    obtain ⟨v, he, ho, hb⟩ := h2
    have ho' : w'.ownsRow w.heap.size 32 6 v n.length (ocells n) := ho
    obtain ⟨A, cap, rfl⟩ := own_slice ho'
    exact ⟨A, cap, he, ho', hb⟩
theorem row_below {w w' : World} {base E size n : Nat} {v : Value} {xs : List Value} (h : w.ownsRow base E size v n xs) (hb : Below w.heap.size w w') : w'.ownsRow base E size v n xs := by
  refine ⟨h.1, ?_⟩
  rcases h.2 with hn | ⟨g, cap, cur, rfl, hbg, hgg, rest⟩
  · exact .inl hn
  · exact .inr ⟨g, cap, cur, rfl, hbg, (hb.block g (Array.getElem?_eq_some_iff.1 hgg).1).trans hgg, rest⟩
theorem find_iff (l : List Off) (nm : List UInt8) : (findP l nm).isSome = decide (nm ∈ nmL l) := by
  unfold findP nmL
  rw [Bool.eq_iff_iff, List.find?_isSome, decide_eq_true_eq, List.mem_map]
  constructor
  · rintro ⟨o, ho, h⟩; exact ⟨o, ho, of_decide_eq_true h⟩
  · rintro ⟨o, ho, h⟩; exact ⟨o, ho, decide_eq_true h⟩
theorem find_lit (v : Value) (l : List Off) (nm : ByteArray) (w : World) (hr : OReads w w.heap.size v l) (hl : l.length ≤ 4294967296) : Calls Tryd.prog 11 #[v, .string nm] w fun e w' => ∃ o : Off, e = .returned (.tuple #[.agg #[.string o.name, .int .i64 o.do_, .int .i64 o.undo, .int .i64 o.due, .int .i64 o.part, .int .i64 o.amend], .bool (decide (nm.data.toList ∈ nmL l))]) ∧ Below w.heap.size w w' :=
  (find_any v l nm w hr hl).mono fun e w' h => by
    obtain ⟨h1, h2⟩ := h
    refine ⟨(findP l nm.data.toList).getD zeroO, ?_, h2⟩
    rw [h1, find_iff]; rfl
/-- a name of the first k entries of m is a name of l -/
def twB (l m : List Off) (k : Nat) : Bool := (m.take k).any fun o => decide (o.name.data.toList ∈ nmL l)
theorem twB_step (l m : List Off) (k : Nat) (h : k < m.length) : twB l m (k + 1) = (twB l m k || decide (m[k].name.data.toList ∈ nmL l)) := by
  unfold twB
  rw [List.take_succ_eq_append_getElem h, List.any_append]; simp
theorem bad_iff (l m : List Off) : bad l m m.length ↔ twB l m m.length = true ∨ 256 < l.length + m.length := by
  unfold bad twB
  rw [List.take_length, List.any_eq_true]
  constructor
  · rintro (⟨o, h1, h2⟩ | h)
    · exact .inl ⟨o, h1, decide_eq_true h2⟩
    · exact .inr h
  · rintro (⟨o, h1, h2⟩ | h)
    · exact .inl ⟨o, h1, of_decide_eq_true h2⟩
    · exact .inr h
theorem catA (s t : ByteArray) : (s ++ ⟨#[10]⟩ ++ t).data.toList = s.data.toList ++ (10 :: t.data.toList) := by simp
theorem catB (s t : ByteArray) : (s ++ ⟨#[32, 35, 32, 100, 111, 10, 9, 13, 10]⟩ ++ t).data.toList = s.data.toList ++ ([32, 35, 32, 100, 111, 10, 9, 13, 10] ++ t.data.toList) := by simp
set_option maxHeartbeats 8000000 in
set_option maxRecDepth 100000 in
theorem lines_early (s t : ByteArray) (w : World) (hs : s.size ≤ 4294967200) (ht : t.size ≤ 4294967200) (hT : Tab w) (h : 1000 < s.size ∨ 1000 < t.size ∨ resE (parseP s.data.toList) ≠ 0 ∨ resE (parseP t.data.toList) ≠ 0) :
    Calls Tryd.prog 4 #[.string s, .string t] w fun e w' => e = .returned (.bool true) ∧ Below w.heap.size w w' := by
  have HT := Lib.hid hT
  clear hT
  generalize hcs : resE (parseP s.data.toList) = cs at h
  generalize hct : resE (parseP t.data.toList) = ct at h
  have HCS := Lib.hid hcs
  have HCT := Lib.hid hct
  clear hcs hct
  by_cases h1 : 1000 < s.size
  · have t1 : decide ((1000 : Int) < (s.size : Int)) = true := decide_eq_true (by omega)
    clear h
    go_enter Tryd.func4, Tryd.ntmps4
    go_upto_region 2 with (go_at_call 6; refine (small_any _ HT.out).mono ?_; rintro e w1 ⟨rfl, b1⟩)
    go_upto_region 3 with (go_at_call 9; refine (parse_gen _ _ hs).mono ?_; rintro e w2 ⟨A2, cap2, rfl, b2⟩; have d2 := below_then b1 b2; rw [HCS.out])
    go_upto_region 4 with (go_at_call 9; refine (parse_gen _ _ ht).mono ?_; rintro e w3 ⟨A3, cap3, rfl, b3⟩; have d3 := below_then d2 b3; rw [HCT.out])
    go_wp2_with fail
    go_ret
    exact ⟨rfl, d3⟩
  have t1 : decide ((1000 : Int) < (s.size : Int)) = false := decide_eq_false (by omega)
  by_cases h2 : 1000 < t.size
  · have t2 : decide ((1000 : Int) < (t.size : Int)) = true := decide_eq_true (by omega)
    clear h
    go_enter Tryd.func4, Tryd.ntmps4
    go_upto_region 2 with (go_at_call 6; refine (small_any _ HT.out).mono ?_; rintro e w1 ⟨rfl, b1⟩)
    go_upto_region 3 with (go_at_call 9; refine (parse_gen _ _ hs).mono ?_; rintro e w2 ⟨A2, cap2, rfl, b2⟩; have d2 := below_then b1 b2; rw [HCS.out])
    go_upto_region 4 with (go_at_call 9; refine (parse_gen _ _ ht).mono ?_; rintro e w3 ⟨A3, cap3, rfl, b3⟩; have d3 := below_then d2 b3; rw [HCT.out])
    go_wp2_with fail
    go_ret
    exact ⟨rfl, d3⟩
  have t2 : decide ((1000 : Int) < (t.size : Int)) = false := decide_eq_false (by omega)
  by_cases h3 : cs = 0
  · have h4 : ct ≠ 0 := by
      rcases h with h | h | h | h
      · omega
      · omega
      · exact absurd h3 h
      · exact h
    have t3 : (cs != 0) = false := by simp [h3]
    have t4 : (ct != 0) = true := by simpa using h4
    clear h h3 h4
    go_enter Tryd.func4, Tryd.ntmps4
    go_upto_region 2 with (go_at_call 6; refine (small_any _ HT.out).mono ?_; rintro e w1 ⟨rfl, b1⟩)
    go_upto_region 3 with (go_at_call 9; refine (parse_gen _ _ hs).mono ?_; rintro e w2 ⟨A2, cap2, rfl, b2⟩; have d2 := below_then b1 b2; rw [HCS.out])
    go_upto_region 4 with (go_at_call 9; refine (parse_gen _ _ ht).mono ?_; rintro e w3 ⟨A3, cap3, rfl, b3⟩; have d3 := below_then d2 b3; rw [HCT.out])
    go_wp2_with fail
    go_ret
    exact ⟨rfl, d3⟩
  · have t3 : (cs != 0) = true := by simpa using h3
    clear h h3
    go_enter Tryd.func4, Tryd.ntmps4
    go_upto_region 2 with (go_at_call 6; refine (small_any _ HT.out).mono ?_; rintro e w1 ⟨rfl, b1⟩)
    go_upto_region 3 with (go_at_call 9; refine (parse_gen _ _ hs).mono ?_; rintro e w2 ⟨A2, cap2, rfl, b2⟩; have d2 := below_then b1 b2; rw [HCS.out])
    go_upto_region 4 with (go_at_call 9; refine (parse_gen _ _ ht).mono ?_; rintro e w3 ⟨A3, cap3, rfl, b3⟩; have d3 := below_then d2 b3; rw [HCT.out])
    go_wp2_with fail
    go_ret
    exact ⟨rfl, d3⟩
end Go.Proofs.YtcjkamnpkmkapaaDoor
