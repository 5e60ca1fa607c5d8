import Derived.Test.YtcjkamnpkmkapaaDoorFind
import Derived.Laws.StructEq
namespace Go.Proofs.YtcjkamnpkmkapaaDoor
open Go.RowKit
def offB (o p : Off) : Bool := (o.name.toList == p.name.toList) && (o.do_ == p.do_ && (o.undo == p.undo && (o.due == p.due && (o.part == p.part && o.amend == p.amend))))
theorem eq_off (o p : Off) (w : World) : (Op.equalIn 10000 32 (.agg #[.string o.name, .int .i64 o.do_, .int .i64 o.undo, .int .i64 o.due, .int .i64 o.part, .int .i64 o.amend]) (.agg #[.string p.name, .int .i64 p.do_, .int .i64 p.undo, .int .i64 p.due, .int .i64 p.part, .int .i64 p.amend])).run Tryd.prog w = .ok (offB o p) w := by
  rw [run_equalIn_agg w 9999 32 _ _ (by kernel_rfl) (by kernel_rfl)]
  have e : (Tryd.prog.fieldsOf 32).toList = [{ name := "Name", type := 9, offset := 0, embedded := false, tag := "", pkgPath := "", byteOffset := 0 },
        { name := "Do", type := 3, offset := 1, embedded := false, tag := "", pkgPath := "", byteOffset := 16 },
        { name := "Undo", type := 3, offset := 2, embedded := false, tag := "", pkgPath := "", byteOffset := 24 },
        { name := "Due", type := 3, offset := 3, embedded := false, tag := "", pkgPath := "", byteOffset := 32 },
        { name := "Part", type := 3, offset := 4, embedded := false, tag := "", pkgPath := "", byteOffset := 40 },
        { name := "Amend", type := 3, offset := 5, embedded := false, tag := "", pkgPath := "", byteOffset := 48 }] := by kernel_rfl
  rw [e]
  go_simp
  unfold offB
  repeat' split
  all_goals simp [*]
theorem neq_off (o p : Off) (w : World) : (binOp .neq 32 (.agg #[.string o.name, .int .i64 o.do_, .int .i64 o.undo, .int .i64 o.due, .int .i64 o.part, .int .i64 o.amend]) (.agg #[.string p.name, .int .i64 p.do_, .int .i64 p.undo, .int .i64 p.due, .int .i64 p.part, .int .i64 p.amend])).run Tryd.prog w = .ok (.bool (!offB o p)) w := by
  rw [run_neq_struct, eq_off]; rfl
theorem eql_off (o p : Off) (w : World) : (binOp .eql 32 (.agg #[.string o.name, .int .i64 o.do_, .int .i64 o.undo, .int .i64 o.due, .int .i64 o.part, .int .i64 o.amend]) (.agg #[.string p.name, .int .i64 p.do_, .int .i64 p.undo, .int .i64 p.due, .int .i64 p.part, .int .i64 p.amend])).run Tryd.prog w = .ok (.bool (offB o p)) w := by
  rw [run_eql_struct, eq_off]; rfl
theorem offB_iff (o p : Off) : offB o p = true ↔ o = p := by
  unfold offB
  simp only [Bool.and_eq_true, beq_iff_eq, ByteArray.toList_eq]
  constructor
  · rintro ⟨h1, h2, h3, h4, h5, h6⟩
    have : o.name = p.name := ByteArray.ext (Array.toList_inj.1 h1)
    cases o; cases p; simp_all
  · rintro rfl; simp
def sameP (a b : List Off) : Bool := decide (a.length = b.length) && (List.range a.length).all fun i => offB (a.getD i zeroO) (b.getD i zeroO)
theorem sameP_self (a : List Off) : sameP a a = true := by
  unfold sameP
  rw [decide_eq_true rfl, Bool.true_and, List.all_eq_true]
  intro i _
  exact (offB_iff _ _).2 rfl
theorem same_len {a b : List Off} (h : a.length ≠ b.length) : sameP a b = false := by unfold sameP; rw [decide_eq_false h]; rfl
theorem same_bad {a b : List Off} (k : Nat) (ha : k < a.length) (hb : k < b.length) (h : offB a[k] b[k] = false) : sameP a b = false := by
  unfold sameP
  have : (List.range a.length).all (fun i => offB (a.getD i zeroO) (b.getD i zeroO)) = false := by
    rw [List.all_eq_false]
    exact ⟨k, List.mem_range.2 ha, by simp [List.getD, ha, hb, h]⟩
  rw [this, Bool.and_false]
theorem same_good {a b : List Off} (hl : a.length = b.length) (h : ∀ k (ha : k < a.length) (hb : k < b.length), offB a[k] b[k] = true) : sameP a b = true := by
  unfold sameP
  rw [decide_eq_true hl, Bool.true_and, List.all_eq_true]
  intro i hi
  have hi' := List.mem_range.1 hi
  have hb : i < b.length := by omega
  simp [List.getD, hi', hb, h i hi' hb]
theorem below_dws {B : Nat} {a w : World} (h : Below B a w) (n : Nat) : Below B a (w.drewN n) := ⟨h.os, h.tape, h.output, h.size, h.block⟩
set_option maxHeartbeats 2000000 in
theorem same_any (v u : Value) (a b : List Off) (w : World) (hv : OReads w w.heap.size v a) (hu : OReads w w.heap.size u b) (hl : a.length ≤ 4294967296) (hl2 : b.length ≤ 4294967296) : Calls Tryd.prog 10 #[v, u] w fun e w' => e = .returned (.bool (sameP a b)) ∧ Below w.heap.size w w' := by
  obtain ⟨A, cap, rfl, hr⟩ := hv
  obtain ⟨A2, cap2, rfl, hr2⟩ := hu
  have HR := Lib.hid hr
  have HR2 := Lib.hid hr2
  clear hr hr2
  by_cases hll : a.length = b.length
  · have t0 : ((a.length : Int) != (b.length : Int)) = false := by simp; omega
    have HLL := Lib.hid hll
    have hle : a.length ≤ b.length := by omega
    clear hll
    go_enter Tryd.func10, Tryd.ntmps10
    go_wp2_with fail
    go_loopw [5] (fun i wr => ∃ k : Nat, k ≤ a.length ∧ i = .int .i64 k ∧ Hid (∀ j (ha : j < a.length) (hb : j < b.length), j < k → offB a[j] b[j] = true) ∧ ∃ m, wr = w.drewN m) (fun i _ => a.length - (intOf i).toNat)
    case atStart => exact ⟨0, by omega, rfl, fun j _ _ hj => by omega, 0, rfl⟩
    case round =>
      obtain ⟨k, hk, rfl, hall, m, rfl⟩ := hrel
      by_cases hlt : k < a.length
      · have hlt2 : k < b.length := by omega
        obtain ⟨g, off, rfl, hg, hc⟩ := HR.out (by omega)
        obtain ⟨g2, off2, rfl, hg2, hc2⟩ := HR2.out (by omega)
        have t1 : decide ((k : Int) < (a.length : Int)) = true := decide_eq_true (by omega)
        have hcw := hc k hlt
        have hcw2 := hc2 k hlt2
        obtain ⟨o, ho⟩ : ∃ o, o = a[k] := ⟨_, rfl⟩
        obtain ⟨o2, ho2⟩ : ∃ o, o = b[k] := ⟨_, rfl⟩
        rw [← ho] at hcw
        rw [← ho2] at hcw2
        have c0 : w.cell? ⟨g, off + k * 6, none⟩ = some (.string o.name) := hcw 0 _ rfl
        have c1 : w.cell? ⟨g, off + k * 6 + 1, none⟩ = some (.int .i64 o.do_) := hcw 1 _ rfl
        have c2 : w.cell? ⟨g, off + k * 6 + 2, none⟩ = some (.int .i64 o.undo) := hcw 2 _ rfl
        have c3 : w.cell? ⟨g, off + k * 6 + 3, none⟩ = some (.int .i64 o.due) := hcw 3 _ rfl
        have c4 : w.cell? ⟨g, off + k * 6 + 4, none⟩ = some (.int .i64 o.part) := hcw 4 _ rfl
        have c5 : w.cell? ⟨g, off + k * 6 + 5, none⟩ = some (.int .i64 o.amend) := hcw 5 _ rfl
        have d0 : w.cell? ⟨g2, off2 + k * 6, none⟩ = some (.string o2.name) := hcw2 0 _ rfl
        have d1 : w.cell? ⟨g2, off2 + k * 6 + 1, none⟩ = some (.int .i64 o2.do_) := hcw2 1 _ rfl
        have d2 : w.cell? ⟨g2, off2 + k * 6 + 2, none⟩ = some (.int .i64 o2.undo) := hcw2 2 _ rfl
        have d3 : w.cell? ⟨g2, off2 + k * 6 + 3, none⟩ = some (.int .i64 o2.due) := hcw2 3 _ rfl
        have d4 : w.cell? ⟨g2, off2 + k * 6 + 4, none⟩ = some (.int .i64 o2.part) := hcw2 4 _ rfl
        have d5 : w.cell? ⟨g2, off2 + k * 6 + 5, none⟩ = some (.int .i64 o2.amend) := hcw2 5 _ rfl
        have HO := Lib.hid ho
        have HO2 := Lib.hid ho2
        clear ho ho2 hcw hcw2 hc hc2
        cases hb : offB o o2 with
        | false =>
          have HF : Hid (sameP a b = false) := same_bad k hlt hlt2 (by rw [← HO.out, ← HO2.out]; exact hb)
          have hne : ∀ W, (binOp .neq 32 (.agg #[.string o.name, .int .i64 o.do_, .int .i64 o.undo, .int .i64 o.due, .int .i64 o.part, .int .i64 o.amend]) (.agg #[.string o2.name, .int .i64 o2.do_, .int .i64 o2.undo, .int .i64 o2.due, .int .i64 o2.part, .int .i64 o2.amend])).run Tryd.prog W = .ok (.bool true) W := fun W => by rw [neq_off, hb]; rfl
          clear hb
          go_wp2_with fail
          go_quiet (fail)
          go_wp2_with fail
          go_ret
          exact ⟨by rw [HF.out]; rfl, below_dws (below_dws (Below.refl _ _) _) _⟩
        | true =>
          have HN : Hid (∀ j (ha : j < a.length) (hb : j < b.length), j < k + 1 → offB a[j] b[j] = true) := fun j ha hb' hj => by
            by_cases e : j = k
            · subst e; rw [← HO.out, ← HO2.out]; exact hb
            · exact hall.out j ha hb' (by omega)
          have hne : ∀ W, (binOp .neq 32 (.agg #[.string o.name, .int .i64 o.do_, .int .i64 o.undo, .int .i64 o.due, .int .i64 o.part, .int .i64 o.amend]) (.agg #[.string o2.name, .int .i64 o2.do_, .int .i64 o2.undo, .int .i64 o2.due, .int .i64 o2.part, .int .i64 o2.amend])).run Tryd.prog W = .ok (.bool false) W := fun W => by rw [neq_off, hb]; rfl
          clear hb
          go_wp2_with fail
          go_quiet (fail)
          go_wp2_with fail
          go_roundw
          case rel => exact ⟨k + 1, by omega, by go_num, HN, _, rfl⟩
          case measure => simp [intOf]; omega
      · have HF : Hid (sameP a b = true) := same_good HLL.out fun j ha hb => hall.out j ha hb (by omega)
        have t1 : decide ((k : Int) < (a.length : Int)) = false := decide_eq_false (by omega)
        go_wp2_with fail
        go_ret
        exact ⟨by rw [HF.out]; rfl, below_dws (Below.refl _ _) _⟩
  · have t0 : ((a.length : Int) != (b.length : Int)) = true := by simp; omega
    have HF : Hid (sameP a b = false) := same_len hll
    clear hll
    go_enter Tryd.func10, Tryd.ntmps10
    go_wp2_with fail
    go_ret
    exact ⟨by rw [HF.out]; rfl, Below.refl _ _⟩
def fewP (l : List Off) : Bool := ((List.range (min l.length 400)).all fun i => decide ((l.getD i zeroO).name.size ≤ 200)) && decide (l.length ≤ 300)
set_option maxHeartbeats 2000000 in
theorem few_any (v : Value) (l : List Off) (w : World) (hv : OReads w w.heap.size v l) (hl : l.length ≤ 9223372036854775807) : Calls Tryd.prog 7 #[v] w fun e w' => e = .returned (.bool (fewP l)) ∧ w = w' := by
  obtain ⟨A, cap, rfl, hr⟩ := hv
  have HR := Lib.hid hr
  clear hr
  go_enter Tryd.func7, Tryd.ntmps7
  go_wp2_with fail
  go_loopw [3] (fun i wr => ∃ k : Nat, k ≤ l.length ∧ k ≤ 400 ∧ i = .int .i64 k ∧ Hid (∀ j, j < k → (l.getD j zeroO).name.size ≤ 200) ∧ wr = w) (fun i _ => l.length - (intOf i).toNat)
  case atStart => exact ⟨0, by omega, by omega, rfl, fun j hj => by omega, rfl⟩
  case round =>
    obtain ⟨k, hk, hk4, rfl, hall, rfl⟩ := hrel
    by_cases hlt : k < l.length
    · have t1 : decide ((k : Int) < (l.length : Int)) = true := decide_eq_true (by omega)
      by_cases h4 : k < 400
      · have t2 : decide ((k : Int) < 400) = true := decide_eq_true (by omega)
        obtain ⟨g, off, rfl, hg, hc⟩ := HR.out (by omega)
        obtain ⟨o, ho⟩ : ∃ o, o = l[k] := ⟨_, rfl⟩
        have c0 : wr.cell? ⟨g, off + k * 6, none⟩ = some (.string o.name) := by rw [ho]; exact hc k hlt 0 _ rfl
        have HO : Hid (l.getD k zeroO = o) := by rw [ho]; simp [List.getD, hlt, Hid]
        clear ho hc
        by_cases hs : 200 < o.name.size
        · have t3 : decide ((200 : Int) < (o.name.size : Int)) = true := decide_eq_true (by omega)
          have HF : Hid (fewP l = false) := by
            unfold Hid fewP
            have : (List.range (min l.length 400)).all (fun i => decide ((l.getD i zeroO).name.size ≤ 200)) = false := by
              rw [List.all_eq_false]
              exact ⟨k, List.mem_range.2 (by omega), by rw [HO.out]; simp; omega⟩
            rw [this, Bool.false_and]
          go_wp2_with fail
          go_ret
          exact ⟨by rw [HF.out]; rfl, rfl⟩
        · have t3 : decide ((200 : Int) < (o.name.size : Int)) = false := decide_eq_false (by omega)
          have HN : Hid (∀ j, j < k + 1 → (l.getD j zeroO).name.size ≤ 200) := fun j hj => by
            by_cases e : j = k
            · rw [e, HO.out]; omega
            · exact hall.out j (by omega)
          go_wp2_with fail
          go_roundw
          case rel => exact ⟨k + 1, by omega, by omega, by go_num, HN, trivial⟩
          case measure => simp [intOf]; omega
      · have t2 : decide ((k : Int) < 400) = false := decide_eq_false (by omega)
        have HF : Hid (fewP l = decide (l.length ≤ 300)) := by
          unfold Hid fewP
          rw [decide_eq_false (show ¬ l.length ≤ 300 by omega), Bool.and_false]
        have t4 : decide ((l.length : Int) ≤ 300) = false := decide_eq_false (by omega)
        have HG : Hid (decide (l.length ≤ 300) = false) := decide_eq_false (by omega)
        go_wp2_with fail
        go_ret
        exact ⟨by rw [HF.out, HG.out]; rfl, rfl⟩
    · have t1 : decide ((k : Int) < (l.length : Int)) = false := decide_eq_false (by omega)
      have HF : Hid (fewP l = decide (l.length ≤ 300)) := by
        unfold Hid fewP
        have : (List.range (min l.length 400)).all (fun i => decide ((l.getD i zeroO).name.size ≤ 200)) = true := by
          rw [List.all_eq_true]
          intro i hi
          have := List.mem_range.1 hi
          simpa using hall.out i (by omega)
        rw [this, Bool.true_and]
      by_cases h3 : l.length ≤ 300
      · have t4 : decide ((l.length : Int) ≤ 300) = true := decide_eq_true (by omega)
        have HG : Hid (decide (l.length ≤ 300) = true) := decide_eq_true h3
        go_wp2_with fail
        go_ret
        exact ⟨by rw [HF.out, HG.out]; rfl, rfl⟩
      · have t4 : decide ((l.length : Int) ≤ 300) = false := decide_eq_false (by omega)
        have HG : Hid (decide (l.length ≤ 300) = false) := decide_eq_false h3
        go_wp2_with fail
        go_ret
        exact ⟨by rw [HF.out, HG.out]; rfl, rfl⟩
end Go.Proofs.YtcjkamnpkmkapaaDoor
