import Derived.Test.YtbmknjfgjphfbaaGreatDoorCb
import Derived.Lib.AppendStr
import Derived.Lib.OthersKept
import Derived.Lib.AppendIntMem
import Derived.Laws.StructEq
import Derived.Deep.RegionHeld3
import Derived.Lib.QuietBelow
namespace Go.Proofs.YtbmknjfgjphfbaaGreatDoor.C
open Go.RowKit
set_option maxRecDepth 100000 in
theorem copyCheck_used (b : Nat) (w : World) (h0 : w.cell? ⟨b, 0, none⟩ = some (.pointer (some ⟨b, 0, none⟩))) :
    Calls Tryz.prog 36 #[.pointer (some ⟨b, 0, none⟩)] w fun e w' => e = .returned (.tuple #[]) ∧ w = w' := by
  obtain ⟨j, hj, _⟩ := Option.map_eq_some_iff.1 (show (Tryz.prog.info? 70).map (·.size) = some 2 by kernel_rfl)
  go_enter Tryz.func36, Tryz.ntmps36
  go_wp2
  rw [Lib.run_neq_ptr_same w _ Tryz.underlying68 hj]
  go_wp2
  go_end0
  exact ⟨rfl, rfl⟩
set_option maxHeartbeats 1000000 in
set_option maxRecDepth 100000 in
theorem copyCheck_fresh (b : Nat) (w : World) (h0 : w.cell? ⟨b, 0, none⟩ = some (.pointer none)) (hsh : w.shape? b = some (70, 2)) (hfz : w.frozen? ⟨b, 0, none⟩ = false) :
    Calls Tryz.prog 36 #[.pointer (some ⟨b, 0, none⟩)] w fun e w' => e = .returned (.tuple #[]) ∧ w' = w.setCell ⟨b, 0, none⟩ (.pointer (some ⟨b, 0, none⟩)) := by
  obtain ⟨j, hj, hjs⟩ := Option.map_eq_some_iff.1 (show (Tryz.prog.info? 70).map (·.size) = some 2 by kernel_rfl)
  go_enter Tryz.func36, Tryz.ntmps36
  go_wp2
  rw [Lib.run_to_unsafe w ⟨b, 0, none⟩ Tryz.underlying68 Tryz.underlying151 hj (by rw [hjs]; decide) hsh (Nat.zero_lt_succ 1)]
  simp only [Result.andThen]
  rw [Oper.upon_value]
  go_wp2
  rw [run_callFunc_extern Tryz.func60 (by kernel_rfl) (by kernel_rfl) (by kernel_rfl) (e := Extern.AbiNoEscape.same) (by kernel_rfl)]
  rw [Lib.run_noEscape]
  simp only [Result.andThen]
  rw [Oper.upon_value]
  go_wp2
  rw [Lib.run_from_unsafe w ⟨b, 0, none⟩ Tryz.underlying151 Tryz.underlying68 hj hsh (by kernel_rfl)]
  simp only [Result.andThen]
  rw [Oper.upon_value]
  go_wp2
  go_end0
  exact ⟨rfl, rfl⟩
theorem others_set (b : Nat) (w : World) (v : Value) (i : Nat) : Lib.OthersKept 5 (some b) w (w.setCell ⟨b, i, none⟩ v) := (Lib.OthersKept.refl 5 (some b) w).setCell ⟨b, i, none⟩ rfl v
/-- behind copyCheck the builder holds its own address, and its bytes as they were -/
theorem copyCheck_any (B b : Nat) (bs : List Value) (w : World) (h : Lib.IsBuilder 70 5 B b bs w) :
    Calls Tryz.prog 36 #[.pointer (some ⟨b, 0, none⟩)] w fun e w' => e = .returned (.tuple #[]) ∧ Lib.BuilderAt 70 5 B b (.pointer (some ⟨b, 0, none⟩)) bs w' ∧ Below B w w' ∧ Lib.OthersKept 5 (some b) w w' := by
  rcases h with h | h
  · obtain ⟨hB, v, hbk, hown, hne⟩ := h
    refine (copyCheck_fresh b w (by rw [Lib.cell_of_heap hbk]; rfl) (by simp [World.shape?, hbk]) (Lib.frozen_of_heap hbk 0)).mono ?_
    rintro e w' ⟨rfl, rfl⟩
    refine ⟨rfl, ⟨hB, v, ?_, ?_, hne⟩, (Below.refl _ _).setCell (p := ⟨b, 0, none⟩) hB _, others_set b w _ 0⟩
    · simp [World.setCell, Array.getElem?_modify, hbk]
    · refine ⟨hown.1, ?_⟩
      rcases hown.2 with hn | ⟨g, cap, cur, rfl, hbg, hgg, rest⟩
      · exact .inl hn
      · refine .inr ⟨g, cap, cur, rfl, hbg, ?_, rest⟩
        rw [Below.heap_setCell w _ _ g (fun e => hne (by rw [e]; rfl))]; exact hgg
  · refine (copyCheck_used b w ?_).mono ?_
    · obtain ⟨hB, v, hbk, _⟩ := h
      rw [Lib.cell_of_heap hbk]; rfl
    · rintro e w' ⟨rfl, rfl⟩
      exact ⟨rfl, h, Below.refl _ _, Lib.OthersKept.refl _ _ _⟩
theorem Tryz.info5 : (Tryz.prog.info? 5).map (fun i => (i.zero, i.size, i.bytes)) = some (some (.int .u8 0), 1, 1) := by kernel_rfl
theorem row_kind {w : World} {base E size n : Nat} {v : Value} {xs : List Value} (h : w.ownsRow base E size v n xs) : ∀ g, v.ownBlock = some g → ∃ c fz, w.heap[g]? = some (.cells c E fz) := by
  intro k hk
  rcases h.2 with ⟨rfl, _⟩ | ⟨g, cap, cur, rfl, _, hg, _⟩
  · simp [Value.ownBlock] at hk
  · simp [Value.ownBlock] at hk
    subst hk
    exact ⟨_, _, hg⟩
set_option maxHeartbeats 2000000 in
set_option maxRecDepth 100000 in
theorem writeString_any (B b : Nat) (l : List UInt8) (s : ByteArray) (w : World) (h : Lib.IsBuilder 70 5 B b (Lib.byteCells l) w) (hlen : l.length + s.size ≤ 140737488355328) (hBw : B ≤ w.heap.size) :
    Calls Tryz.prog 19 #[.pointer (some ⟨b, 0, none⟩), .string s] w fun e w' => e = .returned (.tuple #[.int .i64 s.size, .nilIface]) ∧ (Lib.IsBuilder 70 5 B b (Lib.byteCells (l ++ s.data.toList)) w' ∧ Below B w w' ∧ Lib.OthersKept 5 (some b) w w') := by
  obtain ⟨i0, hi, hz0, hz1, hz2⟩ := info_parts Tryz.info5
  have hcl : (Lib.byteCells l).length = l.length := Lib.byteCells_length l
  have HCL := Lib.hid hcl
  clear hcl
  go_enter Tryz.func19, Tryz.ntmps19
  go_wp2_with (go_at_call 36; refine (copyCheck_any B b _ _ h).mono ?_)
  rintro e w1 ⟨rfl, h1, hb1, hk1⟩
  obtain ⟨hB, v, hbk, hown, hne⟩ := h1
  have c0 : w1.cell? ⟨b, 0, none⟩ = some (.pointer (some ⟨b, 0, none⟩)) := by rw [Lib.cell_of_heap hbk]; rfl
  have c1 : w1.cell? ⟨b, 1, none⟩ = some v := by rw [Lib.cell_of_heap hbk]; rfl
  go_wp2_with (at_builtin; refine Lib.wpList_append_own_string _ rfl _ _ 51 9 rfl B 5 i0 Tryz.underlying51 Tryz.underlying9 hi hz0 hz1 hz2 _ _ _ rfl hown s rfl ?c3 ?c4 ?c5 ?_)
  case c3 => rw [HCL.out]; unfold maxLen; omega
  case c4 => rw [HCL.out]; omega
  case c5 => have := hb1.size; omega
  intro v' w2 hown' hgrow _
  have hlt : b < w1.heap.size := (Array.getElem?_eq_some_iff.1 hbk).1
  have hb2 : w2.heap[b]? = some (.cells #[.pointer (some ⟨b, 0, none⟩), v]  70 (0, 0)) := by
    rw [hgrow.block b hlt (fun e => hne e.symm)]
    exact hbk
  have d0 : w2.cell? ⟨b, 0, none⟩ = some (.pointer (some ⟨b, 0, none⟩)) := by rw [Lib.cell_of_heap hb2]; rfl
  have d1 : w2.cell? ⟨b, 1, none⟩ = some v := by rw [Lib.cell_of_heap hb2]; rfl
  have f1 : w2.frozen? ⟨b, 1, none⟩ = false := Lib.frozen_of_heap hb2 1
  obtain ⟨ao, n', cap, rfl⟩ : ∃ ao n' cap, v' = .slice ao n' cap := by
    rcases hown'.2 with ⟨hv, _⟩ | ⟨g, cap, cur, hv, _⟩
    · exact ⟨_, _, _, hv⟩
    · exact ⟨_, _, _, hv⟩
  go_wp2
  go_ret2
  refine ⟨rfl, .inr ?_, ?_, (hk1.grown hgrow (row_kind hown)).setCell ⟨b, 1, none⟩ rfl _⟩
  · exact Lib.BuilderAt.put (T:=70) (e := 5) hB hb2 (bs' := Lib.byteCells (l ++ s.data.toList)) (by rw [Lib.byteCells_append, List.length_append, ← Lib.strCells_eq, Lib.strCells_length]; exact hown') (by decide)
  · exact (hb1.grown hgrow (by have := hb1.size; omega) (fun k hk => (hown.lt k hk).1)).setCell (p := ⟨b, 1, none⟩) hB _
/-! ### numbers as text -/
def Tab (w : World) : Prop := Lib.TabIs Tryz.prog w "internal/strconv.uint64pow10" .u64 Lib.pow10Tab
theorem Tab.keep {w w' : World} (h : Tab w) (hb : Below w.heap.size w w') : Tab w' := by
  unfold Tab Lib.TabIs World.var? at *
  cases hg : Tryz.prog.globalNamed "internal/strconv.uint64pow10" with
  | none => simp [hg] at h
  | some g =>
    simp only [hg, Option.bind_some] at h ⊢
    have hlt : g < w.heap.size := by
      rcases Nat.lt_or_ge g w.heap.size with h' | h'
      · exact h'
      · rw [Array.getElem?_eq_none h'] at h; simp at h
    rw [hb.block g hlt]
    exact h
theorem text_any (n : Int) (h0 : -9223372036854775808 ≤ n) (h1 : n ≤ 9223372036854775807) (w : World) (ht : Tab w) :
    Calls Tryz.prog 21 #[.int .i64 n] w fun e w' => e = .returned (.string (str (Lib.itoa n))) ∧ Below w.heap.size w w' := by
  have HT := Lib.hid ht
  clear ht
  go_enter Tryz.func21, Tryz.ntmps21
  go_wp2_with (go_at_call 37; refine (Tryz.strconv_Itoa n h0 h1 _ HT.out).mono ?_; rintro e w' ⟨rfl, k, os, rfl⟩)
  go_ret
  exact ⟨rfl, Lib.below_grow _ w (Nat.le_refl _) _ _⟩
theorem showCost_any (n : Int) (h0 : -9223372036854775808 ≤ n) (h1 : n ≤ 9223372036854775807) (w : World) (ht : Tab w) :
    Calls Tryz.prog 20 #[.int .i64 n] w fun e w' => e = .returned (.string (str (costT n))) ∧ Below w.heap.size w w' := by
  have HT := Lib.hid ht
  clear ht
  by_cases hn : n = -1
  · subst hn
    go_enter Tryz.func20, Tryz.ntmps20
    go_wp2_with fail
    go_ret
    exact ⟨rfl, Below.refl _ _⟩
  · have e1 : (n == -1) = false := beq_eq_false_iff_ne.2 hn
    have HC : Hid (costT n = Lib.itoa n) := by unfold costT; rw [if_neg hn]; rfl
    clear hn
    go_enter Tryz.func20, Tryz.ntmps20
    go_wp2_with (go_at_call 21; refine (text_any n h0 h1 _ HT.out).mono ?_; rintro e w' ⟨rfl, hb⟩)
    go_ret
    exact ⟨by rw [HC.out]; rfl, hb⟩
end Go.Proofs.YtbmknjfgjphfbaaGreatDoor.C
namespace Go.Proofs.YtbmknjfgjphfbaaGreatDoor.C
open Go.RowKit
def offB (o p : Off) : Bool := (o.name.toList == p.name.toList) && (o.do_ == p.do_ && (o.undo == p.undo && (o.due == p.due && (o.part == p.part && o.amend == p.amend))))
theorem eq_off (o p : Off) (w : World) : (Op.equalIn 10000 40 (.agg #[.string o.name, .int .i64 o.do_, .int .i64 o.undo, .int .i64 o.due, .int .i64 o.part, .int .i64 o.amend]) (.agg #[.string p.name, .int .i64 p.do_, .int .i64 p.undo, .int .i64 p.due, .int .i64 p.part, .int .i64 p.amend])).run Tryz.prog w = .ok (offB o p) w := by
  rw [run_equalIn_agg w 9999 40 _ _ (by kernel_rfl) (by kernel_rfl)]
  have e : (Tryz.prog.fieldsOf 40).toList = [{ name := "Name", type := 9, offset := 0, embedded := false, tag := "", pkgPath := "", byteOffset := 0 },
        { name := "Do", type := 3, offset := 1, embedded := false, tag := "", pkgPath := "", byteOffset := 16 },
        { name := "Undo", type := 3, offset := 2, embedded := false, tag := "", pkgPath := "", byteOffset := 24 },
        { name := "Due", type := 3, offset := 3, embedded := false, tag := "", pkgPath := "", byteOffset := 32 },
        { name := "Part", type := 3, offset := 4, embedded := false, tag := "", pkgPath := "", byteOffset := 40 },
        { name := "Amend", type := 3, offset := 5, embedded := false, tag := "", pkgPath := "", byteOffset := 48 }] := by kernel_rfl
  rw [e]
  go_simp
  unfold offB
  repeat' split
  all_goals simp [*]
theorem neq_off (o p : Off) (w : World) : (binOp .neq 40 (.agg #[.string o.name, .int .i64 o.do_, .int .i64 o.undo, .int .i64 o.due, .int .i64 o.part, .int .i64 o.amend]) (.agg #[.string p.name, .int .i64 p.do_, .int .i64 p.undo, .int .i64 p.due, .int .i64 p.part, .int .i64 p.amend])).run Tryz.prog w = .ok (.bool (!offB o p)) w := by
  rw [run_neq_struct, eq_off]; rfl
theorem eql_off (o p : Off) (w : World) : (binOp .eql 40 (.agg #[.string o.name, .int .i64 o.do_, .int .i64 o.undo, .int .i64 o.due, .int .i64 o.part, .int .i64 o.amend]) (.agg #[.string p.name, .int .i64 p.do_, .int .i64 p.undo, .int .i64 p.due, .int .i64 p.part, .int .i64 p.amend])).run Tryz.prog w = .ok (.bool (offB o p)) w := by
  rw [run_eql_struct, eq_off]; rfl
theorem offB_iff (o p : Off) : offB o p = true ↔ o = p := by
  unfold offB
  simp only [Bool.and_eq_true, beq_iff_eq, ByteArray.toList_eq]
  constructor
  · rintro ⟨h1, h2, h3, h4, h5, h6⟩
    have : o.name = p.name := ByteArray.ext (Array.toList_inj.1 h1)
    cases o; cases p; simp_all
  · rintro rfl; simp
def sameP (a b : List Off) : Bool := decide (a.length = b.length) && (List.range a.length).all fun i => offB (a.getD i zeroO) (b.getD i zeroO)
theorem sameP_self (a : List Off) : sameP a a = true := by
  unfold sameP
  rw [decide_eq_true rfl, Bool.true_and, List.all_eq_true]
  intro i _
  exact (offB_iff _ _).2 rfl
theorem same_len {a b : List Off} (h : a.length ≠ b.length) : sameP a b = false := by unfold sameP; rw [decide_eq_false h]; rfl
theorem same_bad {a b : List Off} (k : Nat) (ha : k < a.length) (hb : k < b.length) (h : offB a[k] b[k] = false) : sameP a b = false := by
  unfold sameP
  have : (List.range a.length).all (fun i => offB (a.getD i zeroO) (b.getD i zeroO)) = false := by
    rw [List.all_eq_false]
    exact ⟨k, List.mem_range.2 ha, by simp [List.getD, ha, hb, h]⟩
  rw [this, Bool.and_false]
theorem same_good {a b : List Off} (hl : a.length = b.length) (h : ∀ k (ha : k < a.length) (hb : k < b.length), offB a[k] b[k] = true) : sameP a b = true := by
  unfold sameP
  rw [decide_eq_true hl, Bool.true_and, List.all_eq_true]
  intro i hi
  have hi' := List.mem_range.1 hi
  have hb : i < b.length := by omega
  simp [List.getD, hi', hb, h i hi' hb]
theorem below_dws {B : Nat} {a w : World} (h : Below B a w) (n : Nat) : Below B a (w.drewN n) := ⟨h.os, h.tape, h.output, h.size, h.block⟩
end Go.Proofs.YtbmknjfgjphfbaaGreatDoor.C
namespace Go.Proofs.YtbmknjfgjphfbaaGreatDoor.C
open Go.RowKit
theorem dec_len (u : Nat) : ∀ k, 0 < k → u < 10 ^ k → (Lib.decDigits u).length ≤ k := by
  induction u using Nat.strongRecOn with
  | _ u ih =>
    intro k hk hu
    rw [Lib.decDigits]
    split
    · simp; omega
    · rename_i h
      match k, hk with
      | 1, _ => omega
      | k + 2, _ =>
        have := ih (u / 10) (by omega) (k + 1) (by omega) (by rw [Nat.pow_succ] at hu; omega)
        simp; omega
theorem itoa_len (n : Int) (h0 : 0 ≤ n) (h1 : n ≤ 1073741824) : (Lib.itoa n).length ≤ 10 := by
  unfold Lib.itoa
  rw [if_neg (by omega)]
  exact dec_len _ 10 (by decide) (by omega)
theorem costT_len (n : Int) (h : costB n = true) : (costT n).length ≤ 10 := by
  simp [costB] at h
  unfold costT
  split
  · simp
  · exact itoa_len n (by omega) (by omega)
theorem bld_keep {B b : Nat} {bs : List Value} {w w' : World} (h : Lib.IsBuilder 70 5 B b bs w) (hb : Below w.heap.size w w') : Lib.IsBuilder 70 5 B b bs w' := by
  have one : ∀ p, Lib.BuilderAt 70 5 B b p bs w → Lib.BuilderAt 70 5 B b p bs w' := by
    rintro p ⟨hB, v, hbk, hown, hne⟩
    refine ⟨hB, v, (hb.block b (Array.getElem?_eq_some_iff.1 hbk).1).trans hbk, ⟨hown.1, ?_⟩, hne⟩
    rcases hown.2 with hn | ⟨g, cap, cur, rfl, hbg, hgg, rest⟩
    · exact .inl hn
    · exact .inr ⟨g, cap, cur, rfl, hbg, (hb.block g (Array.getElem?_eq_some_iff.1 hgg).1).trans hgg, rest⟩
  rcases h with h | h
  · exact .inl (one _ h)
  · exact .inr (one _ h)
theorem bld_grown {B b m : Nat} {bs : List Value} {w w' : World} {n : Nat} {f : List UInt8 → Option Value} (h : Lib.IsBuilder 70 5 B b bs w) (hm : MapIs Tryz.prog 9 w m n f) (hg : w.grownBy w' (some m)) : Lib.IsBuilder 70 5 B b bs w' := by
  have one : ∀ p, Lib.BuilderAt 70 5 B b p bs w → Lib.BuilderAt 70 5 B b p bs w' := by
    rintro p ⟨hB, v, hbk, hown, hne⟩
    have hbm : b ≠ m := by
      rintro rfl
      obtain ⟨D, ⟨es, clock, hb, _⟩, _⟩ := hm
      rw [hbk] at hb; cases hb
    exact ⟨hB, v, (hg.block b (Array.getElem?_eq_some_iff.1 hbk).1 (by simpa using hbm)).trans hbk, hown.kept hg (.inr (row_map_ne hown hm)), hne⟩
  rcases h with h | h
  · exact .inl (one _ h)
  · exact .inr (one _ h)
/-- what the loop of Write keeps -/
structure WSt (w wr : World) (out : List UInt8) (l : List Off) : Prop where
  bel : Below w.heap.size w wr
  bld : Lib.IsBuilder 70 5 w.heap.size w.heap.size (Lib.byteCells out) wr
  map : ∃ n, n ≤ l.length ∧ MapIs Tryz.prog 9 wr (w.heap.size + 1) n (nameF l)
theorem WSt.below {w wr w1 : World} {out : List UInt8} {l : List Off} (h : WSt w wr out l) (hb : Below wr.heap.size wr w1) : WSt w w1 out l := by
  obtain ⟨n, hn, hm⟩ := h.map
  exact ⟨h.bel.trans (hb.mono h.bel.size), bld_keep h.bld hb, n, hn, hm.below hb hm.lt⟩
theorem WSt.put {w w1 w2 : World} {out : List UInt8} {l : List Off} {o : Off} (h : WSt w w1 out l) {n : Nat} (hn : n ≤ l.length) (h1 : MapIs Tryz.prog 9 w1 (w.heap.size + 1) n (nameF l)) (hg : w1.grownBy w2 (some (w.heap.size + 1))) (hm : MapIs Tryz.prog 9 w2 (w.heap.size + 1) (if (nameF l o.name.data.toList).isSome then n else n + 1) (upd (nameF l) o.name.data.toList (some (.bool true)))) : WSt w w2 out (l ++ [o]) :=
  ⟨below_grown h.bel hg h.bel.size (by omega), bld_grown h.bld h1 hg, _, by rw [List.length_append, List.length_singleton]; split <;> omega, hm.congr fun k => nameF_snoc l o k⟩
theorem WSt.wrote {w w1 w2 : World} {out more : List UInt8} {l : List Off} (h : WSt w w1 out l) (hb : Lib.IsBuilder 70 5 w.heap.size w.heap.size (Lib.byteCells (out ++ more)) w2) (hbel : Below w.heap.size w1 w2) (hk : Lib.OthersKept 5 (some w.heap.size) w1 w2) : WSt w w2 (out ++ more) l := by
  obtain ⟨n, hn, D, ⟨es, clock, hbk, r1⟩, r2⟩ := h.map
  refine ⟨h.bel.trans hbel, hb, n, hn, D, ⟨es, clock, ?_, r1⟩, r2⟩
  exact hk _ _ hbk (by simp) (fun c fz e => by cases e)
theorem hs_others {w1 w2 : World} {b g : Nat} {cs : Array Value} (h : Hs w1 g 40 cs) (hk : Lib.OthersKept 5 (some b) w1 w2) (hne : g ≠ b) : Hs w2 g 40 cs :=
  hk _ _ h (by simpa using hne) (fun c fz e => by cases e)
theorem showCost_from (w3 : World) (n : Int) (W : World) (hn : costB n = true) (hb : Below w3.heap.size w3 W) (ht : Tab w3) :
    Calls Tryz.prog 20 #[.int .i64 n] W fun e w' => e = .returned (.string (str (costT n))) ∧ Below w3.heap.size w3 w' := by
  have : -1 ≤ n ∧ n ≤ 1048576 := by simpa [costB] using hn
  exact (showCost_any n (by omega) (by omega) W (ht.keep hb)).mono fun e w' ⟨h1, h2⟩ => ⟨h1, hb.trans (h2.mono hb.size)⟩
theorem text_from (w3 : World) (n : Int) (W : World) (h0 : 0 ≤ n) (h1 : n ≤ 1073741824) (hb : Below w3.heap.size w3 W) (ht : Tab w3) :
    Calls Tryz.prog 21 #[.int .i64 n] W fun e w' => e = .returned (.string (str (Lib.itoa n))) ∧ Below w3.heap.size w3 w' :=
  (text_any n (by omega) (by omega) W (ht.keep hb)).mono fun e w' ⟨h1, h2⟩ => ⟨h1, hb.trans (h2.mono hb.size)⟩
theorem write_from (w w3 : World) (out : List UInt8) (l : List Off) (s : ByteArray) (W : World) (h : WSt w w3 out l) (hb : Below w3.heap.size w3 W) (hs : out.length + s.size ≤ 140737488355328) :
    Calls Tryz.prog 19 #[.pointer (some ⟨w.heap.size, 0, none⟩), .string s] W fun e w' => e = .returned (.tuple #[.int .i64 s.size, .nilIface]) ∧ WSt w w' (out ++ s.data.toList) l ∧ Lib.OthersKept 5 (some w.heap.size) W w' := by
  have h2 := h.below hb
  exact (writeString_any w.heap.size w.heap.size out s W h2.bld hs h2.bel.size).mono fun e w' ⟨e1, e2, e3, e4⟩ => ⟨e1, h2.wrote e2 e3 e4, e4⟩
theorem writeF_step (l : List Off) (k : Nat) (h : k < l.length) (out : List UInt8) (hr : rightB l[k] = true) (hn : l[k].name.data.toList ∉ nmL (l.take k)) :
    (writeF (l.drop k) (nmL (l.take k))).map (out ++ ·) = (writeF (l.drop (k + 1)) (nmL (l.take (k + 1)))).map ((out ++ lineW l[k]) ++ ·) := by
  rw [List.drop_eq_getElem_cons h, writeF, if_neg (fun a => a.elim (fun b => by rw [hr] at b; cases b) hn), List.take_succ_eq_append_getElem h]
  unfold nmL
  rw [List.map_append]
  simp only [List.map_cons, List.map_nil]
  cases writeF (l.drop (k + 1)) (List.map (fun o => o.name.data.toList) (l.take k) ++ [l[k].name.data.toList]) with
  | none => rfl
  | some x => simp [List.append_assoc]
theorem writeF_bad (l : List Off) (k : Nat) (h : k < l.length) (out : List UInt8) (hr : rightB l[k] = false ∨ l[k].name.data.toList ∈ nmL (l.take k)) :
    (writeF (l.drop k) (nmL (l.take k))).map (out ++ ·) = none := by
  rw [List.drop_eq_getElem_cons h, writeF, if_pos hr]; rfl
end Go.Proofs.YtbmknjfgjphfbaaGreatDoor.C
namespace Go.Proofs.YtbmknjfgjphfbaaGreatDoor.C
open Go.RowKit
def WriteRet (w : World) (r : List UInt8) (e : Ending) (w' : World) : Prop := e = .returned (.string (str r)) ∧ Below w.heap.size w w'
theorem right_lit (o : Off) (w : World) : Calls Tryz.prog 18 #[.agg #[.string o.name, .int .i64 o.do_, .int .i64 o.undo, .int .i64 o.due, .int .i64 o.part, .int .i64 o.amend]] w fun e w' => e = .returned (.bool (rightB o)) ∧ Below w.heap.size w w' := right_any o w
theorem write_long (v : Value) (l : List Off) (w : World) (hv : OReads w w.heap.size v l) (h : 256 < l.length) : Calls Tryz.prog 10 #[v] w (WriteRet w (writeP l)) := by
  obtain ⟨A, cap, rfl, hr⟩ := hv
  have HR := Lib.hid hr
  clear hr
  have t0 : decide ((256 : Int) < (l.length : Int)) = true := decide_eq_true (by omega)
  have HV : Hid (writeP l = []) := by unfold writeP; rw [if_pos h]; rfl
  clear HR
  go_enter Tryz.func10, Tryz.ntmps10
  go_wp2_with fail
  go_ret
  exact ⟨by rw [HV.out]; rfl, Below.refl _ _⟩
theorem str_size (a : List UInt8) : (str a).size = a.length := by rw [← data_length, data_str]
theorem cost_size {n : Int} (h : costB n = true) : (str (costT n)).size ≤ 10 := by rw [str_size]; exact costT_len n h
theorem part1_eq (o : Off) : (o.name ++ ⟨#[32, 100, 111, 32]⟩ ++ str (costT o.do_) ++ ⟨#[32, 117, 110, 100, 111, 32]⟩ ++ str (costT o.undo)).data.toList = o.name.data.toList ++ [32, 100, 111, 32] ++ costT o.do_ ++ [32, 117, 110, 100, 111, 32] ++ costT o.undo := by simp [str]
theorem part1_len (o : Off) : (o.name.data.toList ++ [32, 100, 111, 32] ++ costT o.do_ ++ [32, 117, 110, 100, 111, 32] ++ costT o.undo).length = o.name.size + 10 + (costT o.do_).length + (costT o.undo).length := by
  have := data_length o.name
  simp only [List.length_append, this, List.length_cons, List.length_nil]; omega
theorem part2_eq (o : Off) : ((⟨#[32, 100, 117, 101, 32]⟩ : ByteArray) ++ str (Lib.itoa o.due) ++ ⟨#[32, 112, 97, 114, 116, 32]⟩ ++ str (costT o.part)).data.toList = [32, 100, 117, 101, 32] ++ Lib.itoa o.due ++ [32, 112, 97, 114, 116, 32] ++ costT o.part := by simp [str]
theorem part3_eq (o : Off) : ((⟨#[32, 97, 109, 101, 110, 100, 32]⟩ : ByteArray) ++ str (costT o.amend) ++ ⟨#[10]⟩).data.toList = [32, 97, 109, 101, 110, 100, 32] ++ costT o.amend ++ [10] := by simp [str]
theorem part2_len (o : Off) : ([32, 100, 117, 101, 32] ++ Lib.itoa o.due ++ [32, 112, 97, 114, 116, 32] ++ costT o.part).length = 11 + (Lib.itoa o.due).length + (costT o.part).length := by
  simp only [List.length_append, List.length_cons, List.length_nil]; omega
theorem lineW_len (o : Off) (z1 : (costT o.do_).length ≤ 10) (z2 : (costT o.undo).length ≤ 10) (z5 : (Lib.itoa o.due).length ≤ 10) (z3 : (costT o.part).length ≤ 10) (z4 : (costT o.amend).length ≤ 10) (hn : o.name.size ≤ 100) : (lineW o).length ≤ 1000 := by
  have := data_length o.name
  unfold lineW
  simp only [List.length_append, this, List.length_cons, List.length_nil]; omega
theorem map_lt {w wr : World} {out : List UInt8} {l : List Off} (h : WSt w wr out l) : w.heap.size + 1 < wr.heap.size := by
  obtain ⟨n, _, hM⟩ := h.map
  exact hM.lt
theorem WSt.lookT {w wr : World} {out : List UInt8} {l : List Off} {nm : ByteArray} (h : WSt w wr out l) (hs : nm.size ≤ 100) (hm : nm.data.toList ∈ nmL l) : (Instr.lookup 58 (.map (some (w.heap.size + 1))) (.string nm) false).run Tryz.prog wr = .ok (.bool true) wr := by
  obtain ⟨n, _, hM⟩ := h.map
  rw [hM.look Tryz.underlying9 Tryz.underlying58 (zeroBool _) (by unfold maxLen; omega)]
  unfold nameF
  rw [if_pos hm]; rfl
theorem WSt.lookF {w wr : World} {out : List UInt8} {l : List Off} {nm : ByteArray} (h : WSt w wr out l) (hs : nm.size ≤ 100) (hm : nm.data.toList ∉ nmL l) : (Instr.lookup 58 (.map (some (w.heap.size + 1))) (.string nm) false).run Tryz.prog wr = .ok (.bool false) wr := by
  obtain ⟨n, _, hM⟩ := h.map
  rw [hM.look Tryz.underlying9 Tryz.underlying58 (zeroBool _) (by unfold maxLen; omega)]
  unfold nameF
  rw [if_neg hm]; rfl
theorem name_size {o : Off} (h : rightB o = true) : (1 ≤ o.name.size ∧ o.name.size ≤ 100) ∧ (costB o.do_ = true ∧ costB o.undo = true ∧ costB o.part = true ∧ costB o.amend = true) ∧ 0 ≤ o.due ∧ o.due ≤ 1073741824 := by
  simp only [rightB, nameB, Bool.and_eq_true, decide_eq_true_eq, nats_length] at h
  obtain ⟨⟨⟨⟨⟨⟨a1, a2⟩, a3⟩, a4⟩, ⟨⟨⟨⟨b1, b2⟩, _⟩, _⟩, _⟩⟩, d0⟩, d1⟩ := h
  exact ⟨⟨b1, b2⟩, ⟨a1, a2, a3, a4⟩, d0, d1⟩
set_option maxHeartbeats 8000000 in
set_option maxRecDepth 100000 in
theorem write_any (v : Value) (l : List Off) (w : World) (hv : OReads w w.heap.size v l) (hl : l.length ≤ 256) (ht : Tab w) : Calls Tryz.prog 10 #[v] w (WriteRet w (writeP l)) := by
  obtain ⟨A, cap, rfl, hr⟩ := hv
  have HR := Lib.hid hr
  have HT := Lib.hid ht
  clear hr ht
  have t0 : decide ((256 : Int) < (l.length : Int)) = false := decide_eq_false (by omega)
  have HV : Hid (writeP l = (writeF l []).getD []) := by unfold writeP; rw [if_neg (by omega)]; rfl
  have hmm := @run_makeMap Tryz.prog
  have S0 : Hid (WSt w ((w.alloc (.cells #[.pointer none, .slice none 0 0] 70)).alloc (.map #[] 0)) [] []) := by
    refine ⟨((Below.refl _ _).alloc (Nat.le_refl _) _).alloc (by simp) _, .inl ⟨Nat.le_refl _, _, (Hs.new w 70 _).alloc _, World.ownsRow_nil _ _ _ _, by simp [Value.ownBlock]⟩, 0, Nat.le_refl _, ?_⟩
    have := MapIs.made Tryz.prog 9 (w.alloc (.cells #[.pointer none, .slice none 0 0] 70))
    rw [asz] at this
    exact this.congr (fun s => rfl)
  go_enter Tryz.func10, Tryz.ntmps10
  go_wp2_with fail
  clear hmm
  go_loopw [13] (fun i wr => ∃ (k : Nat) (out : List UInt8), k ≤ l.length ∧ out.length ≤ k * 1000 ∧ i = .int .i64 k ∧ Hid (writeF l [] = (writeF (l.drop k) (nmL (l.take k))).map (out ++ ·)) ∧ Hid (WSt w wr out (l.take k))) (fun i _ => l.length - (intOf i).toNat)
  case atStart => exact ⟨0, [], by omega, by simp, rfl, by simp [Hid, nmL], S0⟩
  case round =>
    clear S0
    obtain ⟨k, out, hk, hol, rfl, HW, HS⟩ := hrel
    by_cases hlt : k < l.length
    · have t1 : decide ((k : Int) < (l.length : Int)) = true := decide_eq_true (by omega)
      obtain ⟨g, off, rfl, hg, hc⟩ := HR.out (by omega)
      have hcw : ∀ (j : Nat) (u : Value), l[k].cells[j]? = some u → wr.cell? ⟨g, off + k * 6 + j, none⟩ = some u := fun j u hu => (HS.out.bel.cell (p := ⟨g, off + k * 6 + j, none⟩) hg).trans (hc k hlt j u hu)
      obtain ⟨o, ho⟩ : ∃ o, o = l[k] := ⟨_, rfl⟩
      rw [← ho] at hcw
      have c0 : wr.cell? ⟨g, off + k * 6, none⟩ = some (.string o.name) := hcw 0 _ rfl
      have c1 : wr.cell? ⟨g, off + k * 6 + 1, none⟩ = some (.int .i64 o.do_) := hcw 1 _ rfl
      have c2 : wr.cell? ⟨g, off + k * 6 + 2, none⟩ = some (.int .i64 o.undo) := hcw 2 _ rfl
      have c3 : wr.cell? ⟨g, off + k * 6 + 3, none⟩ = some (.int .i64 o.due) := hcw 3 _ rfl
      have c4 : wr.cell? ⟨g, off + k * 6 + 4, none⟩ = some (.int .i64 o.part) := hcw 4 _ rfl
      have c5 : wr.cell? ⟨g, off + k * 6 + 5, none⟩ = some (.int .i64 o.amend) := hcw 5 _ rfl
      have HO := Lib.hid ho
      have hws := HS.out.bel.size
      clear ho hcw hc
      have HBX : Hid (Hs (wr.alloc (.cells #[.string o.name, .int .i64 o.do_, .int .i64 o.undo, .int .i64 o.due, .int .i64 o.part, .int .i64 o.amend] 40)) wr.heap.size 40 o.cells) := Hs.new wr 40 o.cells
      have HS1 := Lib.hid (HS.out.below ((Below.refl wr.heap.size wr).alloc (Nat.le_refl _) (.cells #[.string o.name, .int .i64 o.do_, .int .i64 o.undo, .int .i64 o.due, .int .i64 o.part, .int .i64 o.amend] 40)))
      cases hro : rightB o with
      | false =>
        have HB : Hid (writeP l = []) := by rw [HV.out, HW.out, writeF_bad l k hlt out (.inl (by rw [← HO.out]; exact hro))]; rfl
        go_wp2_with (go_at_call 18; refine (right_lit _ _).mono ?_; rintro e w2 ⟨rfl, hb2⟩)
        go_ret
        exact ⟨by rw [HB.out]; rfl, HS1.out.bel.trans (hb2.mono (by rw [asz]; omega))⟩
      | true =>
        obtain ⟨⟨hn1, hn2⟩, hcs, hdu0, hdu1⟩ := name_size hro
        have HCS := Lib.hid hcs
        clear hcs
        by_cases htw : o.name.data.toList ∈ nmL (l.take k)
        · have HB : Hid (writeP l = []) := by rw [HV.out, HW.out, writeF_bad l k hlt out (.inr (by rw [← HO.out]; exact htw))]; rfl
          have HTW := Lib.hid htw
          clear htw
          go_wp2_with (go_at_call 18; refine (right_lit _ _).mono ?_; rintro e w2 ⟨rfl, hb2⟩; have S2 := Lib.hid (HS1.out.below hb2); have q0 : w2.cell? ⟨wr.heap.size, 0, none⟩ = some (.string o.name) := (HBX.out.below hb2 (by simp)).cell 0; have hlk := S2.out.lookT hn2 HTW.out)
          go_ret
          exact ⟨by rw [HB.out]; rfl, S2.out.bel⟩
        · have HTW := Lib.hid htw
          have HST : Hid (writeF l [] = (writeF (l.drop (k + 1)) (nmL (l.take (k + 1)))).map ((out ++ lineW o) ++ ·)) := by
            rw [HW.out, writeF_step l k hlt out (by rw [← HO.out]; exact hro) (by rw [← HO.out]; exact htw), ← HO.out]; rfl
          have HTK : Hid (l.take k ++ [o] = l.take (k + 1)) := by rw [HO.out, List.take_succ_eq_append_getElem hlt]; rfl
          clear htw
          go_upto_region 11 with (first | (go_at_call 18; refine (right_lit _ _).mono ?_; rintro e w2 ⟨rfl, hb2⟩; have S2 := Lib.hid (HS1.out.below hb2); have X2 := Lib.hid (HBX.out.below hb2 (by simp)); have q0 : w2.cell? ⟨wr.heap.size, 0, none⟩ = some (.string o.name) := X2.out.cell 0; have hlk := S2.out.lookF hn2 HTW.out; obtain ⟨m2, hm2, hM2'⟩ := S2.out.map; have HM2 := Lib.hid hM2'; clear hM2' hb2) | (refine wpList_put_is _ rfl _ _ _ 58 (.inl rfl) 4 Tryz.underlying9 Tryz.underlying58 (w.heap.size + 1) m2 _ rfl HM2.out (by rw [List.length_take] at hm2; unfold maxLen; omega) o.name _ rfl rfl (by unfold maxLen; omega) ?_; intro w3 hM3 hg3; have S3 := Lib.hid (S2.out.put (o := o) hm2 HM2.out hg3 hM3); have X3 := Lib.hid (X2.out.grown hg3 (by have := HS.out.map; simp; have := map_lt HS.out; omega)); clear hM3 hg3))
          clear q0 hlk S2 X2 HM2 HS1 HBX c0 c1 c2 c3 c4 c5
          have hx3 := X3.out.lt
          have q0 : w3.cell? ⟨wr.heap.size, 0, none⟩ = some (.string o.name) := X3.out.cell 0
          have q1 : w3.cell? ⟨wr.heap.size, 1, none⟩ = some (.int .i64 o.do_) := X3.out.cell 1
          have q2 : w3.cell? ⟨wr.heap.size, 2, none⟩ = some (.int .i64 o.undo) := X3.out.cell 2
          have HT3 := Lib.hid (HT.out.keep S3.out.bel)
          simp only [Act.put]
          go_cut [41] (fun _ wx => Hid (WSt w wx (out ++ (o.name.data.toList ++ [32, 100, 111, 32] ++ costT o.do_ ++ [32, 117, 110, 100, 111, 32] ++ costT o.undo)) (l.take k ++ [o]) ∧ Hs wx wr.heap.size 40 o.cells))
          case first =>
            have hne : wr.heap.size ≠ w.heap.size := by have := map_lt HS.out; omega
            have z1 := cost_size HCS.out.1
            have z2 := cost_size HCS.out.2.1
            have f1 : ¬ (9223372036854775807 < o.name.size + 4) := by omega
            have f2 : ¬ (9223372036854775807 < o.name.size + 4 + (str (costT o.do_)).size) := by omega
            have f3 : ¬ (9223372036854775807 < o.name.size + 4 + (str (costT o.do_)).size + 6) := by omega
            have f4 : ¬ (9223372036854775807 < o.name.size + 4 + (str (costT o.do_)).size + 6 + (str (costT o.undo)).size) := by omega
            go_region_held3 (fun W => W.cell? ⟨wr.heap.size, 0, none⟩ = some (.string o.name) ∧ W.cell? ⟨wr.heap.size, 1, none⟩ = some (.int .i64 o.do_) ∧ W.cell? ⟨wr.heap.size, 2, none⟩ = some (.int .i64 o.undo))
              (first | go_keep | exact ⟨(hb4.cell (p := ⟨wr.heap.size, 0, none⟩) hx3).trans q0, (hb4.cell (p := ⟨wr.heap.size, 1, none⟩) hx3).trans q1, (hb4.cell (p := ⟨wr.heap.size, 2, none⟩) hx3).trans q2⟩ | exact ⟨(hs_others (X3.out.below hb4 hx3) O5 hne).cell 0, (hs_others (X3.out.below hb4 hx3) O5 hne).cell 1, (hs_others (X3.out.below hb4 hx3) O5 hne).cell 2⟩)
              (first | (go_at_call 20; refine (showCost_from w3 _ _ (by first | exact HCS.out.1 | exact HCS.out.2.1) ?_ HT3.out).mono ?_; (first | exact hb4 | exact (Below.refl _ _).drew | exact Below.refl _ _); rintro e w4 ⟨rfl, hb4⟩) | (go_at_call 19; refine (write_from w w3 out (l.take k ++ [o]) _ _ S3.out (by exact hb4) (by simp [ByteArray.size_append, ByteArray.size_mk']; omega)).mono ?_; rintro e w5 ⟨rfl, S5, O5⟩))
            all_goals
              go_wp2_with fail
              go_meet
              exact ⟨by have := S5; rw [part1_eq] at this; exact this, hs_others (X3.out.below hb4 hx3) O5 hne⟩
          case rest =>
          clear q0 q1 q2 X3 HT3 hx3 S3
          have S6 := Lib.hid hcut.out.1
          have X6 := Lib.hid hcut.out.2
          clear hcut
          have hx6 := X6.out.lt
          have HT6 := Lib.hid (HT.out.keep S6.out.bel)
          have hne : wr.heap.size ≠ w.heap.size := by have := map_lt HS.out; omega
          have z1 := cost_size HCS.out.1
          have z2 := cost_size HCS.out.2.1
          have z3 := cost_size HCS.out.2.2.1
          have z4 := cost_size HCS.out.2.2.2
          have z5 : (str (Lib.itoa o.due)).size ≤ 10 := by rw [str_size]; exact itoa_len _ hdu0 hdu1
          rw [str_size] at z1 z2
          have hp1 := Lib.hid (part1_len o)
          go_upto_region 12 with (fail)
          have q3 : wc.cell? ⟨wr.heap.size, 3, none⟩ = some (.int .i64 o.due) := X6.out.cell 3
          have q4 : wc.cell? ⟨wr.heap.size, 4, none⟩ = some (.int .i64 o.part) := X6.out.cell 4
          go_cut [51] (fun _ wx => Hid (WSt w wx (out ++ (o.name.data.toList ++ [32, 100, 111, 32] ++ costT o.do_ ++ [32, 117, 110, 100, 111, 32] ++ costT o.undo) ++ ([32, 100, 117, 101, 32] ++ Lib.itoa o.due ++ [32, 112, 97, 114, 116, 32] ++ costT o.part)) (l.take k ++ [o]) ∧ Hs wx wr.heap.size 40 o.cells))
          case first =>
            have f1 : ¬ (9223372036854775807 < 5 + (str (Lib.itoa o.due)).size) := by omega
            have f2 : ¬ (9223372036854775807 < 5 + (str (Lib.itoa o.due)).size + 6) := by omega
            have f3 : ¬ (9223372036854775807 < 5 + (str (Lib.itoa o.due)).size + 6 + (str (costT o.part)).size) := by omega
            go_region_held3 (fun W => W.cell? ⟨wr.heap.size, 3, none⟩ = some (.int .i64 o.due) ∧ W.cell? ⟨wr.heap.size, 4, none⟩ = some (.int .i64 o.part))
              (first | go_keep | exact ⟨(hb4.cell (p := ⟨wr.heap.size, 3, none⟩) hx6).trans q3, (hb4.cell (p := ⟨wr.heap.size, 4, none⟩) hx6).trans q4⟩ | exact ⟨(hs_others (X6.out.below hb4 hx6) O5 hne).cell 3, (hs_others (X6.out.below hb4 hx6) O5 hne).cell 4⟩)
              (first | (go_at_call 20; refine (showCost_from wc _ _ HCS.out.2.2.1 ?_ HT6.out).mono ?_; (first | exact hb4 | exact (Below.refl _ _).drew | exact Below.refl _ _); rintro e w4 ⟨rfl, hb4⟩) | (go_at_call 21; refine (text_from wc _ _ hdu0 hdu1 ?_ HT6.out).mono ?_; (first | exact hb4 | exact (Below.refl _ _).drew | exact Below.refl _ _); rintro e w4 ⟨rfl, hb4⟩) | (go_at_call 19; refine (write_from w wc _ (l.take k ++ [o]) _ _ S6.out (by exact hb4) (by rw [List.length_append, hp1.out]; simp [ByteArray.size_append, ByteArray.size_mk']; omega)).mono ?_; rintro e w5 ⟨rfl, S5, O5⟩))
            all_goals
              go_wp2_with fail
              go_meet
              exact ⟨by have := S5; rw [part2_eq] at this; exact this, hs_others (X6.out.below hb4 hx6) O5 hne⟩
          case rest =>
          clear q3 q4 X6 HT6 hx6 S6
          have S7 := Lib.hid hcut.out.1
          have X7 := Lib.hid hcut.out.2
          clear hcut
          go_upto_region 13 with (fail)
          have hx7 := X7.out.lt
          have HT7 := Lib.hid (HT.out.keep S7.out.bel)
          have q5 : wc.cell? ⟨wr.heap.size, 5, none⟩ = some (.int .i64 o.amend) := X7.out.cell 5
          have f1 : ¬ (9223372036854775807 < 7 + (str (costT o.amend)).size) := by omega
          have f2 : ¬ (9223372036854775807 < 7 + (str (costT o.amend)).size + 1) := by omega
          have hp2 := Lib.hid (part2_len o)
          rw [str_size] at z3 z5
          go_wp2_with (first | (go_at_call 20; refine (showCost_from wc _ _ HCS.out.2.2.2 (Below.refl _ _) HT7.out).mono ?_; rintro e w4 ⟨rfl, hb4⟩) | (go_at_call 19; refine (write_from w wc _ (l.take k ++ [o]) _ _ S7.out (by exact hb4) (by rw [List.length_append, List.length_append, hp1.out, hp2.out]; simp [ByteArray.size_append, ByteArray.size_mk']; omega)).mono ?_; rintro e w5 ⟨rfl, S5, O5⟩))
          go_roundw
          case rel =>
            refine ⟨k + 1, out ++ lineW o, by omega, ?_, by go_num, HST, ?_⟩
            · have h3 := lineW_len o z1 z2 z5 z3 (by rw [← str_size]; exact z4) hn2
              rw [List.length_append]; omega
            · have h5 := S5
              rw [part3_eq, HTK.out] at h5
              have e : out ++ lineW o = out ++ (o.name.data.toList ++ [32, 100, 111, 32] ++ costT o.do_ ++ [32, 117, 110, 100, 111, 32] ++ costT o.undo) ++ ([32, 100, 117, 101, 32] ++ Lib.itoa o.due ++ [32, 112, 97, 114, 116, 32] ++ costT o.part) ++ ([32, 97, 109, 101, 110, 100, 32] ++ costT o.amend ++ [10]) := by unfold lineW; simp only [List.append_assoc]
              rw [e]
              exact h5
          case measure => simp [intOf]; omega
    · have t1 : decide ((k : Int) < (l.length : Int)) = false := decide_eq_false (by omega)
      have HB : Hid (writeP l = out) := by
        rw [HV.out, HW.out, List.drop_of_length_le (by omega)]
        simp [writeF, Hid]
      go_wp2_with (go_at_call 22; refine (Tryz.Builder_String_any w.heap.size w.heap.size out _ HS.out.bld HS.out.bel.size).mono ?_; rintro e w2 ⟨rfl, hb2⟩)
      go_ret
      exact ⟨by rw [HB.out]; rfl, HS.out.bel.trans hb2⟩
end Go.Proofs.YtbmknjfgjphfbaaGreatDoor.C
namespace Go.Proofs.YtbmknjfgjphfbaaGreatDoor.C
open Go.RowKit
def oPay : Off := ⟨⟨#[112, 97, 121]⟩, 1, 2, 50, -1, -1⟩
def oMail : Off := ⟨⟨#[109, 97, 105, 108]⟩, -1, -1, 0, 5, -1⟩
theorem parse_k0 : parseP [112, 97, 121, 32, 100, 111, 32, 49, 32, 117, 110, 100, 111, 32, 50, 32, 100, 117, 101, 32, 53, 48, 32, 35, 32, 120, 10, 10, 32, 109, 97, 105, 108, 9, 112, 97, 114, 116, 32, 53, 32, 100, 111, 32, 45, 13, 10] = .ok [oPay, oMail] := by kernel_rfl
theorem parse_c0 (w : World) : Calls Tryz.prog 7 #[.string ⟨#[112, 97, 121, 32, 100, 111, 32, 49, 32, 117, 110, 100, 111, 32, 50, 32, 100, 117, 101, 32, 53, 48, 32, 35, 32, 120, 10, 10, 32, 109, 97, 105, 108, 9, 112, 97, 114, 116, 32, 53, 32, 100, 111, 32, 45, 13, 10]⟩] w fun e w' => ∃ v, e = .returned (.tuple #[v, .int .i64 0, .int .i64 0]) ∧ w'.ownsRow w.heap.size 40 6 v 2 (ocells [oPay, oMail]) ∧ Below w.heap.size w w' :=
  (parse_any ⟨#[112, 97, 121, 32, 100, 111, 32, 49, 32, 117, 110, 100, 111, 32, 50, 32, 100, 117, 101, 32, 53, 48, 32, 35, 32, 120, 10, 10, 32, 109, 97, 105, 108, 9, 112, 97, 114, 116, 32, 53, 32, 100, 111, 32, 45, 13, 10]⟩ w (by decide)).mono fun e w' h => by
    have h2 : ParseRet w (parseP [112, 97, 121, 32, 100, 111, 32, 49, 32, 117, 110, 100, 111, 32, 50, 32, 100, 117, 101, 32, 53, 48, 32, 35, 32, 120, 10, 10, 32, 109, 97, 105, 108, 9, 112, 97, 114, 116, 32, 53, 32, 100, 111, 32, 45, 13, 10]) e w' := h
    rw [parse_k0] at h2
    exact h2
theorem parse_k1 : parseP [112, 97, 121, 10, 112, 97, 121] = .error (4, 4) := by kernel_rfl
theorem parse_c1 (w : World) : Calls Tryz.prog 7 #[.string ⟨#[112, 97, 121, 10, 112, 97, 121]⟩] w fun e w' => ∃ v, e = .returned (.tuple #[v, .int .i64 4, .int .i64 4]) ∧ Below w.heap.size w w' :=
  (parse_any ⟨#[112, 97, 121, 10, 112, 97, 121]⟩ w (by decide)).mono fun e w' h => by
    have h2 : ParseRet w (parseP [112, 97, 121, 10, 112, 97, 121]) e w' := h
    rw [parse_k1] at h2
    obtain ⟨v, h3, _, h4⟩ := h2
    exact ⟨v, h3, h4⟩
theorem parse_k2 : parseP [112, 97, 121, 32, 100, 111, 32, 49, 32, 100, 111, 32, 50] = .error (2, 9) := by kernel_rfl
theorem parse_c2 (w : World) : Calls Tryz.prog 7 #[.string ⟨#[112, 97, 121, 32, 100, 111, 32, 49, 32, 100, 111, 32, 50]⟩] w fun e w' => ∃ v, e = .returned (.tuple #[v, .int .i64 2, .int .i64 9]) ∧ Below w.heap.size w w' :=
  (parse_any ⟨#[112, 97, 121, 32, 100, 111, 32, 49, 32, 100, 111, 32, 50]⟩ w (by decide)).mono fun e w' h => by
    have h2 : ParseRet w (parseP [112, 97, 121, 32, 100, 111, 32, 49, 32, 100, 111, 32, 50]) e w' := h
    rw [parse_k2] at h2
    obtain ⟨v, h3, _, h4⟩ := h2
    exact ⟨v, h3, h4⟩
theorem parse_k3 : parseP [97, 32, 100, 111] = .error (2, 2) := by kernel_rfl
theorem parse_c3 (w : World) : Calls Tryz.prog 7 #[.string ⟨#[97, 32, 100, 111]⟩] w fun e w' => ∃ v, e = .returned (.tuple #[v, .int .i64 2, .int .i64 2]) ∧ Below w.heap.size w w' :=
  (parse_any ⟨#[97, 32, 100, 111]⟩ w (by decide)).mono fun e w' h => by
    have h2 : ParseRet w (parseP [97, 32, 100, 111]) e w' := h
    rw [parse_k3] at h2
    obtain ⟨v, h3, _, h4⟩ := h2
    exact ⟨v, h3, h4⟩
def payText : ByteArray := ⟨#[112, 97, 121, 32, 100, 111, 32, 49, 32, 117, 110, 100, 111, 32, 50, 32, 100, 117, 101, 32, 53, 48, 32, 112, 97, 114, 116, 32, 45, 32, 97, 109, 101, 110, 100, 32, 45, 10]⟩
theorem itoa_small1 : Lib.itoa 1 = [49] := by rw [Lib.itoa, if_neg (by decide), Lib.decDigits, dif_pos (by decide)]; rfl
theorem itoa_small2 : Lib.itoa 2 = [50] := by rw [Lib.itoa, if_neg (by decide), Lib.decDigits, dif_pos (by decide)]; rfl
theorem itoa_small50 : Lib.itoa 50 = [53, 48] := by rw [Lib.itoa, if_neg (by decide), Lib.decDigits, dif_neg (by decide), Lib.decDigits, dif_pos (by decide)]; rfl
theorem write_k : writeP [oPay] = [112, 97, 121, 32, 100, 111, 32, 49, 32, 117, 110, 100, 111, 32, 50, 32, 100, 117, 101, 32, 53, 48, 32, 112, 97, 114, 116, 32, 45, 32, 97, 109, 101, 110, 100, 32, 45, 10] := by
  have h1 : rightB oPay = true := by decide +kernel
  have h2 : lineW oPay = [112, 97, 121, 32, 100, 111, 32, 49, 32, 117, 110, 100, 111, 32, 50, 32, 100, 117, 101, 32, 53, 48, 32, 112, 97, 114, 116, 32, 45, 32, 97, 109, 101, 110, 100, 32, 45, 10] := by
    unfold lineW costT oPay
    simp only [itoa_small1, itoa_small2, itoa_small50]; rfl
  unfold writeP
  rw [if_neg (by decide), writeF, if_neg (fun a => a.elim (fun b => by rw [h1] at b; cases b) (by simp)), writeF, h2]; rfl
theorem write_c (v : Value) (w : World) (hv : OReads w w.heap.size v [oPay]) (ht : Tab w) : Calls Tryz.prog 10 #[v] w fun e w' => e = .returned (.string payText) ∧ Below w.heap.size w w' :=
  (write_any v [oPay] w hv (by decide) ht).mono fun e w' h => by
    have h2 : WriteRet w (writeP [oPay]) e w' := h
    rw [write_k] at h2
    exact h2
theorem find_c (v : Value) (w : World) (hv : OReads w w.heap.size v [oPay, oMail]) : Calls Tryz.prog 9 #[v, .string ⟨#[109, 97, 105, 108]⟩] w fun e w' => e = .returned (.tuple #[.agg #[.string ⟨#[109, 97, 105, 108]⟩, .int .i64 (-1), .int .i64 (-1), .int .i64 0, .int .i64 5, .int .i64 (-1)], .bool true]) ∧ Below w.heap.size w w' :=
  (find_any v [oPay, oMail] ⟨#[109, 97, 105, 108]⟩ w hv (by decide)).mono fun e w' h => by
    have h2 : FindRet w (findP [oPay, oMail] [109, 97, 105, 108]) e w' := h
    rw [show findP [oPay, oMail] [109, 97, 105, 108] = some oMail by kernel_rfl] at h2
    exact h2
def eMail : List UInt8 := [109, 97, 105, 108]
def ePay : List UInt8 := [112, 97, 121]
theorem right_c2 (v : Value) (g : Nat) (w : World) (hv : OReads w w.heap.size v [oPay, oMail]) (hg : g < w.heap.size) (he : EReads w g [eMail, ePay]) :
    Calls Tryz.prog 8 #[v, .agg #[.slice none 0 0, .slice (some ⟨g, 0, none⟩) 2 2, .slice none 0 0, .slice none 0 0]] w fun e w' => e = .returned (.bool true) ∧ Below w.heap.size w w' :=
  (rightAll_any v [oPay, oMail] g 2 [eMail, ePay] w hv (by decide) hg he (by decide) (by decide) (by decide)).mono fun e w' ⟨h1, h2⟩ => ⟨h1.trans (by rw [show rightP [oPay, oMail] [eMail, ePay] = true by decide +kernel]), h2⟩
theorem right_c1 (v : Value) (g : Nat) (w : World) (hv : OReads w w.heap.size v [oPay, oMail]) (hg : g < w.heap.size) (he : EReads w g [eMail]) :
    Calls Tryz.prog 8 #[v, .agg #[.slice none 0 0, .slice (some ⟨g, 0, none⟩) 1 1, .slice none 0 0, .slice none 0 0]] w fun e w' => e = .returned (.bool false) ∧ Below w.heap.size w w' :=
  (rightAll_any v [oPay, oMail] g 1 [eMail] w hv (by decide) hg he (by decide) (by decide) (by decide)).mono fun e w' ⟨h1, h2⟩ => ⟨h1.trans (by rw [show rightP [oPay, oMail] [eMail] = false by decide +kernel]), h2⟩
theorem can_lit (o : Off) (tick clock : Int) (w : World) : Calls Tryz.prog 11 #[.agg #[.string o.name, .int .i64 o.do_, .int .i64 o.undo, .int .i64 o.due, .int .i64 o.part, .int .i64 o.amend], .int .i64 tick, .int .i64 clock] w fun e w' => e = .returned (.bool (canZ o tick clock)) ∧ Below w.heap.size w w' := can_any o tick clock w
theorem can_c1 (w : World) : Calls Tryz.prog 11 #[.agg #[.string ⟨#[112, 97, 121]⟩, .int .i64 1, .int .i64 2, .int .i64 50, .int .i64 (-1), .int .i64 (-1)], .int .i64 5, .int .i64 55] w fun e w' => e = .returned (.bool true) ∧ Below w.heap.size w w' := can_any oPay 5 55 w
theorem can_c2 (w : World) : Calls Tryz.prog 11 #[.agg #[.string ⟨#[112, 97, 121]⟩, .int .i64 1, .int .i64 2, .int .i64 50, .int .i64 (-1), .int .i64 (-1)], .int .i64 5, .int .i64 56] w fun e w' => e = .returned (.bool false) ∧ Below w.heap.size w w' := can_any oPay 5 56 w
theorem can_c3 (w : World) : Calls Tryz.prog 11 #[.agg #[.string ⟨#[109, 97, 105, 108]⟩, .int .i64 (-1), .int .i64 (-1), .int .i64 0, .int .i64 5, .int .i64 (-1)], .int .i64 0, .int .i64 0] w fun e w' => e = .returned (.bool false) ∧ Below w.heap.size w w' := can_any oMail 0 0 w
end Go.Proofs.YtbmknjfgjphfbaaGreatDoor.C
namespace Go.Proofs.YtbmknjfgjphfbaaGreatDoor.C
open Go.RowKit
theorem run_loadOff (w : World) (g off : Nat) (o : Off) (h : ∀ (j : Nat) (u : Value), o.cells[j]? = some u → w.cell? ⟨g, off + j, none⟩ = some u) : (loadVar 40 ⟨g, off, none⟩).run Tryz.prog w = .ok (.agg o.cells) w := by
  have hl : (loadCells ⟨g, off, none⟩ o.cells.toList.length).run Tryz.prog w = .ok o.cells.toList.toArray w :=
    run_loadCells_list (P := Tryz.prog) w ⟨g, off, none⟩ o.cells.toList (fun j v hv => by
      rw [Addr.add_lit]; exact h j v (by simpa using hv))
  cases hq : Tryz.prog.info? 40 with
  | none => have := info40; simp [hq] at this
  | some i =>
    have hs : i.size = 6 := by have := info40; simpa [hq] using this
    have hagg : (isAgg 40).run Tryz.prog w = .ok true w := by
      unfold isAgg
      rw [Sem.run_bind, run_underlying Tryz.underlying40 w]
      rfl
    have hl2 : (loadCells ⟨g, off, none⟩ 6).run Tryz.prog w = .ok o.cells w := by
      have e : o.cells.toList.length = 6 := rfl
      rw [e, Array.toArray_toList] at hl
      exact hl
    simp [loadVar, Sem.run_bind, hagg, sizeOf, typeInfo, hq, hs, hl2]
theorem quiet_loadOff {a : Act} {o : Oper} {C : World → Prop} {K : Act → Prop} (x : Operand) (ho : o.op = .load 40 x)
    (g off : Nat) (hx : a.eval x = .pointer (some ⟨g, off, none⟩)) (q : Off) (hg : ∀ w, C w → ∀ (j : Nat) (u : Value), q.cells[j]? = some u → w.cell? ⟨g, off + j, none⟩ = some u)
    (h : K (a.put o.dst (.agg q.cells))) : o.quiet Tryz.prog a C K := by
  refine ⟨.agg q.cells, fun w hw => ?_, h⟩
  unfold Oper.quietAt execOp
  simp only [ho, hx, Instr.loadAt, Instr.sureAddr, Sem.run_bind, Sem.run_pure, Result.andThen_ok, run_loadOff w g off q (hg w hw)]
  exact ⟨rfl, rfl⟩
theorem grown_cell {W : World} {g off : Nat} {q : Off} (hg : g < W.heap.size) (h : ∀ (j : Nat) (u : Value), q.cells[j]? = some u → W.cell? ⟨g, off + j, none⟩ = some u) : ∀ w, (∃ p : Regrown, w = Sort.grow (redrawn W p.d) p.os) → ∀ (j : Nat) (u : Value), q.cells[j]? = some u → w.cell? ⟨g, off + j, none⟩ = some u := by
  rintro w ⟨p, rfl⟩ j u hu
  exact ((below_regrown W p.d p.os).cell (p := ⟨g, off + j, none⟩) hg).trans (h j u hu)
theorem below_then {w a b : World} (h : Below w.heap.size w a) (k : Below a.heap.size a b) : Below w.heap.size w b := h.trans (k.mono h.size)
/-- the parsed example: its cells -/
def Two (w : World) (g : Nat) : Prop := g < w.heap.size ∧ (∀ (j : Nat) (u : Value), oPay.cells[j]? = some u → w.cell? ⟨g, 0 + j, none⟩ = some u) ∧ (∀ (j : Nat) (u : Value), oMail.cells[j]? = some u → w.cell? ⟨g, 6 + j, none⟩ = some u)
theorem Two.below {w w' : World} {g : Nat} (h : Two w g) (hb : Below w.heap.size w w') : Two w' g :=
  ⟨Nat.lt_of_lt_of_le h.1 hb.size, fun j u hu => (hb.cell (p := ⟨g, 0 + j, none⟩) h.1).trans (h.2.1 j u hu), fun j u hu => (hb.cell (p := ⟨g, 6 + j, none⟩) h.1).trans (h.2.2 j u hu)⟩
theorem Two.reads {w : World} {g cap : Nat} (h : Two w g) : OReads w w.heap.size (.slice (some ⟨g, 0, none⟩) 2 cap) [oPay, oMail] := by
  refine ⟨_, cap, rfl, fun _ => ⟨g, 0, rfl, h.1, fun i hi j u hu => ?_⟩⟩
  match i, hi, hu with
  | 0, _, hu => have := h.2.1 j u hu; simpa using this
  | 1, _, hu => have := h.2.2 j u hu; simpa using this
theorem Two.read1 {w : World} {g cap : Nat} (h : Two w g) : OReads w w.heap.size (.slice (some ⟨g, 0, none⟩) 1 cap) [oPay] := by
  refine ⟨_, cap, rfl, fun _ => ⟨g, 0, rfl, h.1, fun i hi j u hu => ?_⟩⟩
  match i, hi, hu with
  | 0, _, hu => have := h.2.1 j u hu; simpa using this
theorem two_of {w w' : World} {v : Value} (h : w'.ownsRow w.heap.size 40 6 v 2 (ocells [oPay, oMail])) : ∃ g cap, v = .slice (some ⟨g, 0, none⟩) 2 cap ∧ 2 ≤ cap ∧ Two w' g := by
  obtain ⟨g, cap, rfl, hg, hc⟩ := own_form h (by decide)
  have hcap : 2 ≤ cap := by
    rcases h.2 with ⟨e, _⟩ | ⟨g', cap', cur, e, _, _, hn, _⟩
    · cases e
    · injection e with _ _ e; omega
  refine ⟨g, cap, rfl, hcap, hg, fun j u hu => ?_, fun j u hu => ?_⟩
  · rw [Nat.zero_add]
    have := ocells_at [oPay, oMail] 0 (by decide) j u hu
    rw [Nat.zero_mul, Nat.zero_add] at this
    exact hc _ _ this
  · exact hc _ _ (ocells_at [oPay, oMail] 1 (by decide) j u hu)
theorem ereads2 (W : World) : EReads (W.alloc (.cells #[.string ⟨#[109, 97, 105, 108]⟩, .slice none 0 0, .int .i64 0, .string ⟨#[]⟩, .slice none 0 0, .string ⟨#[112, 97, 121]⟩, .slice none 0 0, .int .i64 0, .string ⟨#[]⟩, .slice none 0 0] 48)) W.heap.size [eMail, ePay] := by
  intro i h
  match i, h with
  | 0, _ => exact ⟨(Hs.new W 48 _).cell 0, (Hs.new W 48 _).cell 1, (Hs.new W 48 _).cell 2, (Hs.new W 48 _).cell 3, (Hs.new W 48 _).cell 4⟩
  | 1, _ => exact ⟨(Hs.new W 48 _).cell 5, (Hs.new W 48 _).cell 6, (Hs.new W 48 _).cell 7, (Hs.new W 48 _).cell 8, (Hs.new W 48 _).cell 9⟩
theorem ereads1 (W : World) : EReads (W.alloc (.cells #[.string ⟨#[109, 97, 105, 108]⟩, .slice none 0 0, .int .i64 0, .string ⟨#[]⟩, .slice none 0 0] 48)) W.heap.size [eMail] := by
  intro i h
  match i, h with
  | 0, _ => exact ⟨(Hs.new W 48 _).cell 0, (Hs.new W 48 _).cell 1, (Hs.new W 48 _).cell 2, (Hs.new W 48 _).cell 3, (Hs.new W 48 _).cell 4⟩
theorem Two.alloc {w : World} {g : Nat} (h : Two w g) (o : Obj) : Two (w.alloc o) g := h.below ((Below.refl _ _).alloc (Nat.le_refl _) _)
theorem quiet_mail {a : Act} {o : Oper} {C : World → Prop} {K : Act → Prop} (x : Operand) (ho : o.op = .load 40 x) (g off : Nat) (hx : a.eval x = .pointer (some ⟨g, off, none⟩)) (hg : ∀ w, C w → ∀ (j : Nat) (u : Value), oMail.cells[j]? = some u → w.cell? ⟨g, off + j, none⟩ = some u)
    (h : K (a.put o.dst (.agg #[.string ⟨#[109, 97, 105, 108]⟩, .int .i64 (-1), .int .i64 (-1), .int .i64 0, .int .i64 5, .int .i64 (-1)]))) : o.quiet Tryz.prog a C K := quiet_loadOff x ho g off hx oMail hg h
theorem quiet_pay {a : Act} {o : Oper} {C : World → Prop} {K : Act → Prop} (x : Operand) (ho : o.op = .load 40 x) (g off : Nat) (hx : a.eval x = .pointer (some ⟨g, off, none⟩)) (hg : ∀ w, C w → ∀ (j : Nat) (u : Value), oPay.cells[j]? = some u → w.cell? ⟨g, off + j, none⟩ = some u)
    (h : K (a.put o.dst (.agg #[.string ⟨#[112, 97, 121]⟩, .int .i64 1, .int .i64 2, .int .i64 50, .int .i64 (-1), .int .i64 (-1)]))) : o.quiet Tryz.prog a C K := quiet_loadOff x ho g off hx oPay hg h
set_option maxRecDepth 100000 in
set_option maxHeartbeats 4000000 in
theorem small_any (w : World) (ht : Tab w) : Calls Tryz.prog 4 #[] w fun e w' => e = .returned (.bool true) ∧ Below w.heap.size w w' := by
  have HT := Lib.hid ht
  clear ht
  go_enter Tryz.func4, Tryz.ntmps4
  go_wp2_with fail
  refine (parse_c0 w).mono ?_
  rintro e w1 ⟨v1, rfl, own1, b1⟩
  obtain ⟨g, cap, rfl, hcap, T1⟩ := two_of own1
  have hcap1 : 1 ≤ cap := by omega
  have hcap2 : (1 : Int) ≤ (cap : Int) := by omega
  have T := Lib.hid T1
  clear T1 own1
  go_wp2_with fail
  refine (parse_c1 w1).mono ?_
  rintro e w2 ⟨v2, rfl, b2⟩
  have d2 := below_then b1 b2
  have T2 := Lib.hid (T.out.below b2)
  clear T b1 b2
  go_wp2_with fail
  refine (parse_c2 w2).mono ?_
  rintro e w3 ⟨v3, rfl, b3⟩
  have d3 := below_then d2 b3
  have T3 := Lib.hid (T2.out.below b3)
  clear T2 d2 b3
  go_wp2_with fail
  refine (parse_c3 w3).mono ?_
  rintro e w4 ⟨v4, rfl, b4⟩
  have d4 := Lib.hid (below_then d3 b4)
  have T4 := Lib.hid (T3.out.below b4)
  clear T3 d3 b4
  have hgl := T4.out.1
  have c0 : w4.cell? ⟨g, 0, none⟩ = some (.string ⟨#[112, 97, 121]⟩) := T4.out.2.1 0 _ rfl
  have c1 : w4.cell? ⟨g, 1, none⟩ = some (.int .i64 1) := T4.out.2.1 1 _ rfl
  have c2 : w4.cell? ⟨g, 2, none⟩ = some (.int .i64 2) := T4.out.2.1 2 _ rfl
  have c3 : w4.cell? ⟨g, 3, none⟩ = some (.int .i64 50) := T4.out.2.1 3 _ rfl
  have c4 : w4.cell? ⟨g, 4, none⟩ = some (.int .i64 (-1)) := T4.out.2.1 4 _ rfl
  have c5 : w4.cell? ⟨g, 5, none⟩ = some (.int .i64 (-1)) := T4.out.2.1 5 _ rfl
  have m0 : w4.cell? ⟨g, 6, none⟩ = some (.string ⟨#[109, 97, 105, 108]⟩) := T4.out.2.2 0 _ rfl
  have m1 : w4.cell? ⟨g, 7, none⟩ = some (.int .i64 (-1)) := T4.out.2.2 1 _ rfl
  have m2 : w4.cell? ⟨g, 8, none⟩ = some (.int .i64 (-1)) := T4.out.2.2 2 _ rfl
  have m3 : w4.cell? ⟨g, 9, none⟩ = some (.int .i64 0) := T4.out.2.2 3 _ rfl
  have m4 : w4.cell? ⟨g, 10, none⟩ = some (.int .i64 5) := T4.out.2.2 4 _ rfl
  have m5 : w4.cell? ⟨g, 11, none⟩ = some (.int .i64 (-1)) := T4.out.2.2 5 _ rfl
  have q1 : ∀ W, (binOp .eql 40 (.agg #[.string ⟨#[112, 97, 121]⟩, .int .i64 1, .int .i64 2, .int .i64 50, .int .i64 (-1), .int .i64 (-1)]) (.agg #[.string ⟨#[112, 97, 121]⟩, .int .i64 1, .int .i64 2, .int .i64 50, .int .i64 (-1), .int .i64 (-1)])).run Tryz.prog W = .ok (.bool true) W := fun W => (eql_off oPay oPay W).trans (by rw [(offB_iff _ _).2 rfl])
  have q2 : ∀ W, (binOp .eql 40 (.agg #[.string ⟨#[109, 97, 105, 108]⟩, .int .i64 (-1), .int .i64 (-1), .int .i64 0, .int .i64 5, .int .i64 (-1)]) (.agg #[.string ⟨#[109, 97, 105, 108]⟩, .int .i64 (-1), .int .i64 (-1), .int .i64 0, .int .i64 5, .int .i64 (-1)])).run Tryz.prog W = .ok (.bool true) W := fun W => (eql_off oMail oMail W).trans (by rw [(offB_iff _ _).2 rfl])
  go_upto_region 10 with (go_at_call 9; refine (find_c _ _ T4.out.reads).mono ?_; rintro e w5 ⟨rfl, b5⟩)
  clear c0 c1 c2 c3 c4 c5 m0 m1 m2 m3 m4 m5
  have b5' : Below w4.heap.size w4 (w5.alloc (.cells #[.string ⟨#[109, 97, 105, 108]⟩, .int .i64 (-1), .int .i64 (-1), .int .i64 0, .int .i64 5, .int .i64 (-1)] 40)) := b5.alloc b5.size _
  have d5 := Lib.hid (below_then d4.out b5')
  have T5 := Lib.hid (T4.out.below b5')
  have X5 : Hid (Hs (w5.alloc (.cells #[.string ⟨#[109, 97, 105, 108]⟩, .int .i64 (-1), .int .i64 (-1), .int .i64 0, .int .i64 5, .int .i64 (-1)] 40)) w5.heap.size 40 oMail.cells) := Hs.new w5 40 oMail.cells
  clear d4 T4 b5 b5'
  generalize w5.alloc (.cells #[.string ⟨#[109, 97, 105, 108]⟩, .int .i64 (-1), .int .i64 (-1), .int .i64 0, .int .i64 5, .int .i64 (-1)] 40) = x5 at *
  generalize w5.heap.size = B5 at *
  go_upto_region 11 with (first | (go_at_call 8; (with_reducible refine (right_c2 _ _ _ (T5.out.alloc _).reads (by simp) (ereads2 _)).mono ?_); rintro e w6 ⟨rfl, b6⟩; have b6' := below_then ((Below.refl x5.heap.size x5).alloc (Nat.le_refl _) _) b6; have T6 := Lib.hid (T5.out.below b6'); have X6 := Lib.hid (X5.out.below b6' X5.out.lt); have d6 := Lib.hid (below_then d5.out b6'); clear b6 b6') | (go_at_call 8; (with_reducible refine (right_c1 _ _ _ (T6.out.alloc _).reads (by simp) (ereads1 _)).mono ?_); rintro e w7 ⟨rfl, b7⟩; have b7' := below_then ((Below.refl w6.heap.size w6).alloc (Nat.le_refl _) _) b7; have T7 := Lib.hid (T6.out.below b7'); have X7 := Lib.hid (X6.out.below b7' X6.out.lt); have d7 := Lib.hid (below_then d6.out b7'); clear b7 b7'))
  clear T5 T6 X5 X6 d5 d6
  have HT7 := Lib.hid (HT.out.keep d7.out)
  have hpt : (payText.toList == [112, 97, 121, 32, 100, 111, 32, 49, 32, 117, 110, 100, 111, 32, 50, 32, 100, 117, 101, 32, 53, 48, 32, 112, 97, 114, 116, 32, 45, 32, 97, 109, 101, 110, 100, 32, 45, 10]) = true := by rw [ByteArray.toList_eq]; decide +kernel
  have hx7 : Hid (∀ (j : Nat) (u : Value), oMail.cells[j]? = some u → w7.cell? ⟨B5, 0 + j, none⟩ = some u) := fun j u hu => by rw [Nat.zero_add, X7.out.cell j]; exact hu
  try simp only [Act.put]
  refine wp_region_quiet_below (by kernel_rfl) (by kernel_rfl) ?_
  simp only [List.append]
  repeat (first
    | (go_big_quiet_want; refine quiet_mail _ rfl B5 0 rfl (grown_cell X7.out.lt hx7.out) ?_; go_frame; go_big_quiet_on)
    | (go_big_quiet_want; refine quiet_mail _ rfl g 6 rfl (grown_cell T7.out.1 T7.out.2.2) ?_; go_frame; go_big_quiet_on)
    | (go_big_quiet_want; refine quiet_pay _ rfl g 0 rfl (grown_cell T7.out.1 T7.out.2.1) ?_; go_frame; go_big_quiet_on)
    | go_big_quiet_step (first
        | (go_at_call 10; with_reducible exact Calls.regrown_of (write_c _ _ (T7.out.below (below_regrown _ _ _)).read1 (HT7.out.keep (below_regrown _ _ _))))
        | (go_at_call 11; with_reducible exact Calls.regrown_of (can_c1 _))
        | (go_at_call 11; with_reducible exact Calls.regrown_of (can_c2 _))
        | (go_at_call 11; with_reducible exact Calls.regrown_of (can_c3 _))))
  refine wpQuiet_nil ?_
  intro _ hw'
  obtain ⟨⟨dq, osq⟩, hw''⟩ := hw'
  subst hw''
  go_wp2_with fail
  go_ret
  exact ⟨rfl, below_then d7.out (below_regrown _ _ _)⟩
end Go.Proofs.YtbmknjfgjphfbaaGreatDoor.C
