import Derived.Laws.CopyOwn
import Derived.Test.YtcjkamnpkmkapaaDoorEnt0
namespace Go.Proofs.YtcjkamnpkmkapaaDoor
open Go.RowKit
theorem ret_cell_tmp {fn : Func} {p u : Tmp} (h : fn.results = #[.cell p 32, .tmp u]) (tmps : Array Value) (w : World) (g : Nat) (o : Off) (hp : tmps.getD p undef = .pointer (some ⟨g, 0, none⟩)) (hg : Hs w g 32 o.cells) :
    (results fn tmps).run Tryd.prog w = .ok (.tuple #[.agg o.cells, tmps.getD u undef]) w := by
  rw [results_cell_tmp h, hp]
  have := run_loadVar_row (P := Tryd.prog) w g 32 32 o.cells (0, 0) _ hg Tryd.underlying32 rfl (by show _ = some 6; kernel_rfl)
  simp [asAddr, this, Result.andThen]
theorem zeroFn (w : World) : (zeroValue 68).run Tryd.prog w = .ok .nilFunc w := by kernel_rfl
def entV : Except Nat Off → Value
  | .ok o => .tuple #[.agg o.cells, .int .i64 (-1)]
  | .error i => .tuple #[.agg zeroO.cells, .int .i64 (i : Int)]
def EntRet (w : World) (r : Except Nat Off) (e : Ending) (w' : World) : Prop := e = .returned (entV r) ∧ Below w.heap.size w w'
def entryP (ws : List Wd) : Except Nat Off := match ws with | [] => .error 0 | x :: r => entryF r 1 [] (initO x.1)
theorem wpList_put_le {P : Program} {K : TypeId} (w : World) {ops : Array Oper} {rest : List Oper} {o : Oper} {a : Act} {Q : Exit → Act → World → Prop} (hg : o.guard = none) (m x v : Operand) (t : TypeId) (hop : o.op = Op.insert t m x v)
    (e : TypeId) (hK : P.underlying K = some .string) (ht : P.underlying t = some (.map K e)) (b n : Nat) (f : List UInt8 → Option Value)
    (hm : a.eval m = .map (some b)) (his : MapIs P K w b n f) (hn : n ≤ 8) (s : ByteArray) (val : Value) (hx : a.eval x = .string s) (hv : a.eval v = val) (hs : s.size ≤ maxLen)
    (hk : ∀ w' n', n' ≤ n + 1 → MapIs P K w' b n' (upd f s.data.toList (some val)) → w.grownBy w' (some b) → wpList P ops Q rest (a.put o.dst undef) w') :
    wpList P ops Q (o :: rest) a w :=
  wpList_put_is w hg m x v t (.inr hop) e hK ht b n f hm his (by unfold maxLen; omega) s val hx hv hs fun w' h1 h2 => hk w' _ (by split <;> omega) h1 h2
theorem keyF_none {h b1 b2 b3 b4 : Nat} {used : List (List UInt8)} {k : List UInt8} (e : keyF h b1 b2 b3 b4 used k = none) : keyB k = false ∨ k ∈ used := by
  unfold keyF at e
  by_cases m : k ∈ used
  · exact .inr m
  rw [if_neg m] at e
  by_cases h1 : k = kDo
  · rw [if_pos h1] at e; cases e
  rw [if_neg h1] at e
  by_cases h2 : k = kUndo
  · rw [if_pos h2] at e; cases e
  rw [if_neg h2] at e
  by_cases h3 : k = kPart
  · rw [if_pos h3] at e; cases e
  rw [if_neg h3] at e
  by_cases h4 : k = kAmend
  · rw [if_pos h4] at e; cases e
  rw [if_neg h4] at e
  by_cases h5 : k = kDue
  · rw [if_pos h5] at e; cases e
  left
  unfold keyB
  simp [h1, h2, h3, h4, h5]
theorem keyF_some {h b1 b2 b3 b4 : Nat} {used : List (List UInt8)} {k : List UInt8} {fv : Value} (e : keyF h b1 b2 b3 b4 used k = some fv) : (k ∉ used ∧ keyB k = true) ∧ ((k = kDo ∧ fv = clo b1) ∨ (k = kUndo ∧ fv = clo b2) ∨ (k = kPart ∧ fv = clo b3) ∨ (k = kAmend ∧ fv = clo b4) ∨ (k = kDue ∧ fv = .func (.func 30) #[] #[.pointer (some ⟨h + 1, 0, none⟩)])) := by
  unfold keyF at e
  by_cases m : k ∈ used
  · rw [if_pos m] at e; cases e
  rw [if_neg m] at e
  by_cases h1 : k = kDo
  · rw [if_pos h1] at e; injection e with e; subst h1; exact ⟨⟨m, rfl⟩, .inl ⟨rfl, e.symm⟩⟩
  rw [if_neg h1] at e
  by_cases h2 : k = kUndo
  · rw [if_pos h2] at e; injection e with e; subst h2; exact ⟨⟨m, rfl⟩, .inr (.inl ⟨rfl, e.symm⟩)⟩
  rw [if_neg h2] at e
  by_cases h3 : k = kPart
  · rw [if_pos h3] at e; injection e with e; subst h3; exact ⟨⟨m, rfl⟩, .inr (.inr (.inl ⟨rfl, e.symm⟩))⟩
  rw [if_neg h3] at e
  by_cases h4 : k = kAmend
  · rw [if_pos h4] at e; injection e with e; subst h4; exact ⟨⟨m, rfl⟩, .inr (.inr (.inr (.inl ⟨rfl, e.symm⟩)))⟩
  rw [if_neg h4] at e
  by_cases h5 : k = kDue
  · rw [if_pos h5] at e; injection e with e; subst h5; exact ⟨⟨m, rfl⟩, .inr (.inr (.inr (.inr ⟨rfl, e.symm⟩)))⟩
  rw [if_neg h5] at e; cases e
theorem ent_last {ws : List Wd} {k : Nat} {used : List (List UInt8)} {o : Off} (h : k + 1 = ws.length) : entryF (ws.drop k) k used o = .error k := by
  rw [List.drop_eq_getElem_cons (by omega), List.drop_of_length_le (by omega)]; rfl
theorem ent_bad {ws : List Wd} {k : Nat} {used : List (List UInt8)} {o : Off} (h : k < ws.length) (hb : keyB ws[k].1 = false ∨ ws[k].1 ∈ used) : entryF (ws.drop k) k used o = .error k := by
  by_cases h1 : k + 1 = ws.length
  · exact ent_last h1
  · rw [List.drop_eq_getElem_cons h, List.drop_eq_getElem_cons (show k + 1 < ws.length by omega), entryF, if_pos hb]
theorem ent_go {ws : List Wd} {k : Nat} {used : List (List UInt8)} {o : Off} (h : k + 1 < ws.length) (h1 : ws[k].1 ∉ used) (h2 : keyB ws[k].1 = true) : entryF (ws.drop k) k used o = match setKey ws[k].1 ws[k + 1].1 o with | none => .error (k + 1) | some o' => entryF (ws.drop (k + 2)) (k + 2) (ws[k].1 :: used) o' := by
  rw [List.drop_eq_getElem_cons (show k < ws.length by omega), List.drop_eq_getElem_cons h, entryF, if_neg (fun a => a.elim (fun b => by rw [h2] at b; cases b) h1)]
  rfl
theorem ent_done {ws : List Wd} {k : Nat} {used : List (List UInt8)} {o : Off} (h : ws.length ≤ k) : entryF (ws.drop k) k used o = .ok o := by
  rw [List.drop_of_length_le h]; rfl
theorem off_one (o : Off) : o.cells.all (·.oneCell') = true := by simp [Off.cells, Value.oneCell']
theorem zeroO_one : zeroO.cells.all (·.oneCell') = true := off_one _
theorem info32 : (Tryd.prog.info? 32).map (·.size) = some 6 := by kernel_rfl
theorem after_drop {w wr w6 : World} (hg : wr.grownBy w6 (some (w.heap.size + 2))) {g j : Nat} {v : Value} (hgl : g < w.heap.size) (hc : wr.cell? ⟨g, j, none⟩ = some v) : w6.cell? ⟨g, j, none⟩ = some v :=
  hg.cell hc (by simp; omega)
set_option maxRecDepth 100000 in
set_option maxHeartbeats 8000000 in
theorem entry_any (ws : List Wd) (x0 : Wd) (r : List Wd) (w : World) (g cap : Nat) (hws : ws = x0 :: r) (hgl : g < w.heap.size) (hn : 1 ≤ ws.length)
    (hcw : ∀ j, (h : j < ws.length) → w.cell? ⟨g, j * 2, none⟩ = some (.string (str ws[j].1)))
    (hsz : ∀ x ∈ ws, x.1.length ≤ 9223372036854775807) (hnl : ws.length ≤ 4294967296) :
    Calls Tryd.prog 22 #[.slice (some ⟨g, 0, none⟩) ws.length cap] w (EntRet w (entryP ws)) := by
  have hmm := @run_makeMap Tryd.prog
  have hc0 : w.cell? ⟨g, 0, none⟩ = some (.string (str x0.1)) := by
    have := hcw 0 (by omega)
    subst hws
    exact this
  have HCW := Lib.hid hcw
  have HSZ := Lib.hid hsz
  clear hcw hsz
  have HE := Lib.hid (ent_start w (initO x0.1))
  have hM0 : MapIs Tryd.prog 9 (((w.alloc (.cells zeroO.cells 32)).alloc (.cells (initO x0.1).cells 32)).alloc (.map #[] 0)) (w.heap.size + 2) 0 (fun _ => none) := by
    have := MapIs.made Tryd.prog 9 ((w.alloc (.cells zeroO.cells 32)).alloc (.cells (initO x0.1).cells 32))
    rw [asz, asz] at this
    exact this
  have HM0 := Lib.hid hM0
  clear hM0
  have tok1 : True := trivial
  have tok2 : True := trivial
  have tok3 : True := trivial
  have tok4 : True := trivial
  have tok5 : True := trivial
  have HW := Lib.hid hws
  clear hws
  go_enter Tryd.func22, Tryd.ntmps22
  go_upto_region 4 with (first
    | (go_at_call 27; refine (mk_any _ _).mono ?_; rintro e w' ⟨rfl, rfl⟩)
    | (have _t := tok1; refine wpList_put_le _ rfl _ _ _ 78 rfl 68 Tryd.underlying9 Tryd.underlying78 (w.heap.size + 2) 0 _ rfl (HM0.out.alloc _) (by omega) ⟨#[100, 111]⟩ _ rfl rfl (by decide) ?_; intro w1 n1 hn1 hM1 hg1; have E1 := HE.out.step hg1; clear tok1 hg1)
    | (have _t := tok2; refine wpList_put_le _ rfl _ _ _ 78 rfl 68 Tryd.underlying9 Tryd.underlying78 (w.heap.size + 2) _ _ rfl (hM1.alloc _) (by omega) ⟨#[117, 110, 100, 111]⟩ _ rfl rfl (by decide) ?_; intro w2 n2 hn2 hM2 hg2; have E2 := E1.step hg2; clear tok2 hg2)
    | (have _t := tok3; refine wpList_put_le _ rfl _ _ _ 78 rfl 68 Tryd.underlying9 Tryd.underlying78 (w.heap.size + 2) _ _ rfl (hM2.alloc _) (by omega) ⟨#[112, 97, 114, 116]⟩ _ rfl rfl (by decide) ?_; intro w3 n3 hn3 hM3 hg3; have E3 := E2.step hg3; clear tok3 hg3)
    | (have _t := tok4; refine wpList_put_le _ rfl _ _ _ 78 rfl 68 Tryd.underlying9 Tryd.underlying78 (w.heap.size + 2) _ _ rfl (hM3.alloc _) (by omega) ⟨#[97, 109, 101, 110, 100]⟩ _ rfl rfl (by decide) ?_; intro w4 n4 hn4 hM4 hg4; have E4 := E3.step hg4; clear tok4 hg4)
    | (have _t := tok5; refine wpList_put_le _ rfl _ _ _ 78 rfl 68 Tryd.underlying9 Tryd.underlying78 (w.heap.size + 2) _ _ rfl hM4 (by omega) ⟨#[100, 117, 101]⟩ _ rfl rfl (by decide) ?_; intro w5 n5 hn5 hM5 hg5; have E5 := E4.last hg5; clear tok5 hg5)
    )
  have S0 : Hid (EntSt w w5 n5 (w.heap.size + 1 + 1 + 1) w1.heap.size w2.heap.size w3.heap.size (initO x0.1) []) :=
    ⟨E5.bel, E5.big, E5.res, E5.off, by have := E5.box (w.heap.size + 1 + 1 + 1, 1) (by simp); exact this, E5.box (w1.heap.size, 2) (by simp), E5.box (w2.heap.size, 4) (by simp), E5.box (w3.heap.size, 5) (by simp), hM5.congr (fun k => keyF_start w.heap.size (w.heap.size + 1 + 1 + 1) _ _ _ k)⟩
  clear E1 E2 E3 E4 E5 hM1 hM2 hM3 hM4 hM5 hn1 hn2 hn3 hn4 hn5 HM0 HE hc0 hmm
  have HP : Hid (entryF (ws.drop 1) 1 [] (initO x0.1) = entryP ws) := by rw [HW.out]; rfl
  generalize w.heap.size + 1 + 1 + 1 = c1 at *
  generalize w1.heap.size = c2 at *
  generalize w2.heap.size = c3 at *
  generalize w3.heap.size = c4 at *
  go_wp2_with fail
  go_loopw [7] (fun i wr => ∃ (k n : Nat) (o : Off) (used : List (List UInt8)), i = .int .i64 k ∧ 1 ≤ k ∧ k ≤ ws.length + 1 ∧ Hid (entryF (ws.drop k) k used o = entryP ws) ∧ Hid (EntSt w wr n c1 c2 c3 c4 o used)) (fun i _ => ws.length + 1 - (intOf i).toNat)
  case atStart => exact ⟨1, _, _, [], rfl, by omega, by omega, HP, S0⟩
  case round =>
    clear S0 HP HW
    obtain ⟨k, n, o, used, rfl, hk1, hk2, HR, HS⟩ := hrel
    have hck : Hid (∀ j, (h : j < ws.length) → wr.cell? ⟨g, j * 2, none⟩ = some (.string (str ws[j].1))) := fun j h => (HS.out.bel.cell (p := ⟨g, j * 2, none⟩) hgl).trans (HCW.out j h)
    by_cases hlt : k < ws.length
    · obtain ⟨t, ht⟩ : ∃ t, t = str ws[k].1 := ⟨_, rfl⟩
      have hc1 := hck.out k hlt
      rw [← ht] at hc1
      have htl : t.data.toList = ws[k].1 := by rw [ht, data_str]
      have hts : t.size ≤ maxLen := by
        have := HSZ.out ws[k] (List.getElem_mem hlt)
        rw [← htl, data_length] at this
        unfold maxLen; omega
      have hlk := HS.out.map.lookOk Tryd.underlying9 Tryd.underlying78 (zeroFn wr) hts
      have HT := Lib.hid htl
      have HTS := Lib.hid hts
      clear ht htl hts
      cases hkf : keyF w.heap.size c1 c2 c3 c4 used t.data.toList with
      | none =>
        rw [hkf] at hlk
        have HV : Hid (entryP ws = .error k) := by
          rw [← HR.out]; exact ent_bad hlt (by rw [← HT.out]; exact keyF_none hkf)
        clear hkf
        go_wp2_with (refine wpList_store_row rfl 32 _ _ rfl w.heap.size zeroO.cells rfl rfl 32 zeroO.cells HS.out.res info32 rfl zeroO_one ?_)
        refine bodyPost_ret (ret_cell_tmp Tryd.results22 _ _ w.heap.size zeroO rfl (setRow_heap _ _ _ _ _ _ HS.out.res)) rfl ⟨?_, below_setRow HS.out.bel (Nat.le_refl _) _⟩
        rw [HV.out]; rfl
      | some fv =>
        rw [hkf] at hlk
        obtain ⟨⟨hu1, hu2⟩, hfv⟩ := keyF_some hkf
        have HU : Hid (t.data.toList ∉ used ∧ keyB t.data.toList = true) := ⟨hu1, hu2⟩
        clear hkf hu1 hu2
        by_cases hl2 : k + 1 = ws.length
        · have tl : ((k : Int) + 1 == (ws.length : Int)) = true := beq_iff_eq.2 (by omega)
          have HV : Hid (entryP ws = .error k) := by rw [← HR.out]; exact ent_last hl2
          have HL := Lib.hid hl2
          clear hl2 hfv
          go_wp2_with (refine wpList_store_row rfl 32 _ _ rfl w.heap.size zeroO.cells rfl rfl 32 zeroO.cells HS.out.res info32 rfl zeroO_one ?_)
          refine bodyPost_ret (ret_cell_tmp Tryd.results22 _ _ w.heap.size zeroO rfl (setRow_heap _ _ _ _ _ _ HS.out.res)) rfl ⟨?_, below_setRow HS.out.bel (Nat.le_refl _) _⟩
          rw [HV.out]; rfl
        · have tl : ((k : Int) + 1 == (ws.length : Int)) = false := beq_eq_false_iff_ne.2 (by omega)
          have hl3 : k + 1 < ws.length := by omega
          have HV : Hid (entryP ws = match setKey t.data.toList ws[k + 1].1 o with | none => .error (k + 1) | some o' => entryF (ws.drop (k + 2)) (k + 2) (t.data.toList :: used) o') := by
            have e := ent_go hl3 (used := used) (o := o) (by rw [← HT.out]; exact HU.out.1) (by rw [← HT.out]; exact HU.out.2)
            rw [← HT.out] at e
            rw [← HR.out]; exact e
          obtain ⟨y, hy⟩ : ∃ y, y = str ws[k + 1].1 := ⟨_, rfl⟩
          have HY : Hid (ws[k + 1].1 = y.data.toList) := by rw [hy, data_str]; rfl
          have hys : y.size ≤ 9223372036854775807 := by
            have := HSZ.out ws[k + 1] (List.getElem_mem hl3)
            rw [HY.out, data_length] at this
            exact this
          have hyc : Hid (wr.cell? ⟨g, (k + 1) * 2, none⟩ = some (.string y)) := by rw [hy]; exact hck.out (k + 1) hl3
          clear hy hl2
          rcases hfv with ⟨hkey, rfl⟩ | ⟨hkey, rfl⟩ | ⟨hkey, rfl⟩ | ⟨hkey, rfl⟩ | ⟨hkey, rfl⟩
          · have HV2 : Hid (setKey t.data.toList ws[k + 1].1 o = (costP y.data.toList).map fun n => { o with do_ := n }) := by rw [hkey, HY.out]; rfl
            clear hkey
            cases hcv : costP y.data.toList with
            | none =>
              have HV3 : Hid (entryP ws = .error (k + 1)) := by rw [HV.out, HV2.out, hcv]; rfl
              have HC := Lib.hid hcv
              clear hcv HV HV2
              have tok : True := trivial
              go_wp2_with (first | (have _t := tok; (refine wpList_drop_is _ rfl _ _ 78 rfl 68 Tryd.underlying9 Tryd.underlying78 (w.heap.size + 2) _ _ rfl HS.out.map t rfl HTS.out ?_; intro w6 n6 hn6 hM6 hg6; have S6 := Lib.hid (HS.out.drop hg6 hM6); have hy6 := after_drop hg6 hgl hyc.out; clear hn6 hM6 hg6); clear tok) | ((go_at_call 28; refine (cost_any _ _ _ _ (S6.out.c1.2.cell 0) _ (S6.out.off.cell 1) (S6.out.off.free 1) hys).mono ?_; rintro e w7 ⟨rfl, w8, hb8, rfl⟩); have S7 := Lib.hid (S6.out.set (o' := { o with do_ := ((costP y.data.toList).getD 0) }) hb8 1 _ rfl); rw [HC.out] at S7; rw [HC.out]) | (refine wpList_store_row rfl 32 _ _ rfl w.heap.size zeroO.cells rfl rfl 32 zeroO.cells S7.out.res info32 rfl zeroO_one ?_))
              refine bodyPost_ret (ret_cell_tmp Tryd.results22 _ _ w.heap.size zeroO rfl (setRow_heap _ _ _ _ _ _ S7.out.res)) rfl ⟨?_, below_setRow S7.out.bel (Nat.le_refl _) _⟩
              rw [HV3.out]; rfl
            | some m =>
              have HV3 : Hid (entryP ws = entryF (ws.drop (k + 2)) (k + 2) (t.data.toList :: used) { o with do_ := m }) := by rw [HV.out, HV2.out, hcv]; rfl
              have HC := Lib.hid hcv
              clear hcv HV HV2
              have tok : True := trivial
              go_wp2_with (first | (have _t := tok; (refine wpList_drop_is _ rfl _ _ 78 rfl 68 Tryd.underlying9 Tryd.underlying78 (w.heap.size + 2) _ _ rfl HS.out.map t rfl HTS.out ?_; intro w6 n6 hn6 hM6 hg6; have S6 := Lib.hid (HS.out.drop hg6 hM6); have hy6 := after_drop hg6 hgl hyc.out; clear hn6 hM6 hg6); clear tok) | ((go_at_call 28; refine (cost_any _ _ _ _ (S6.out.c1.2.cell 0) _ (S6.out.off.cell 1) (S6.out.off.free 1) hys).mono ?_; rintro e w7 ⟨rfl, w8, hb8, rfl⟩); have S7 := Lib.hid (S6.out.set (o' := { o with do_ := ((costP y.data.toList).getD 0) }) hb8 1 _ rfl); rw [HC.out] at S7; rw [HC.out]))
              go_roundw
              case rel => exact ⟨k + 2, _, _, _, by go_num, by omega, by omega, HV3.out.symm, S7⟩
              case measure => simp [intOf]; omega
          · have HV2 : Hid (setKey t.data.toList ws[k + 1].1 o = (costP y.data.toList).map fun n => { o with undo := n }) := by rw [hkey, HY.out]; rfl
            clear hkey
            cases hcv : costP y.data.toList with
            | none =>
              have HV3 : Hid (entryP ws = .error (k + 1)) := by rw [HV.out, HV2.out, hcv]; rfl
              have HC := Lib.hid hcv
              clear hcv HV HV2
              have tok : True := trivial
              go_wp2_with (first | (have _t := tok; (refine wpList_drop_is _ rfl _ _ 78 rfl 68 Tryd.underlying9 Tryd.underlying78 (w.heap.size + 2) _ _ rfl HS.out.map t rfl HTS.out ?_; intro w6 n6 hn6 hM6 hg6; have S6 := Lib.hid (HS.out.drop hg6 hM6); have hy6 := after_drop hg6 hgl hyc.out; clear hn6 hM6 hg6); clear tok) | ((go_at_call 28; refine (cost_any _ _ _ _ (S6.out.c2.2.cell 0) _ (S6.out.off.cell 2) (S6.out.off.free 2) hys).mono ?_; rintro e w7 ⟨rfl, w8, hb8, rfl⟩); have S7 := Lib.hid (S6.out.set (o' := { o with undo := ((costP y.data.toList).getD 0) }) hb8 2 _ rfl); rw [HC.out] at S7; rw [HC.out]) | (refine wpList_store_row rfl 32 _ _ rfl w.heap.size zeroO.cells rfl rfl 32 zeroO.cells S7.out.res info32 rfl zeroO_one ?_))
              refine bodyPost_ret (ret_cell_tmp Tryd.results22 _ _ w.heap.size zeroO rfl (setRow_heap _ _ _ _ _ _ S7.out.res)) rfl ⟨?_, below_setRow S7.out.bel (Nat.le_refl _) _⟩
              rw [HV3.out]; rfl
            | some m =>
              have HV3 : Hid (entryP ws = entryF (ws.drop (k + 2)) (k + 2) (t.data.toList :: used) { o with undo := m }) := by rw [HV.out, HV2.out, hcv]; rfl
              have HC := Lib.hid hcv
              clear hcv HV HV2
              have tok : True := trivial
              go_wp2_with (first | (have _t := tok; (refine wpList_drop_is _ rfl _ _ 78 rfl 68 Tryd.underlying9 Tryd.underlying78 (w.heap.size + 2) _ _ rfl HS.out.map t rfl HTS.out ?_; intro w6 n6 hn6 hM6 hg6; have S6 := Lib.hid (HS.out.drop hg6 hM6); have hy6 := after_drop hg6 hgl hyc.out; clear hn6 hM6 hg6); clear tok) | ((go_at_call 28; refine (cost_any _ _ _ _ (S6.out.c2.2.cell 0) _ (S6.out.off.cell 2) (S6.out.off.free 2) hys).mono ?_; rintro e w7 ⟨rfl, w8, hb8, rfl⟩); have S7 := Lib.hid (S6.out.set (o' := { o with undo := ((costP y.data.toList).getD 0) }) hb8 2 _ rfl); rw [HC.out] at S7; rw [HC.out]))
              go_roundw
              case rel => exact ⟨k + 2, _, _, _, by go_num, by omega, by omega, HV3.out.symm, S7⟩
              case measure => simp [intOf]; omega
          · have HV2 : Hid (setKey t.data.toList ws[k + 1].1 o = (costP y.data.toList).map fun n => { o with part := n }) := by rw [hkey, HY.out]; rfl
            clear hkey
            cases hcv : costP y.data.toList with
            | none =>
              have HV3 : Hid (entryP ws = .error (k + 1)) := by rw [HV.out, HV2.out, hcv]; rfl
              have HC := Lib.hid hcv
              clear hcv HV HV2
              have tok : True := trivial
              go_wp2_with (first | (have _t := tok; (refine wpList_drop_is _ rfl _ _ 78 rfl 68 Tryd.underlying9 Tryd.underlying78 (w.heap.size + 2) _ _ rfl HS.out.map t rfl HTS.out ?_; intro w6 n6 hn6 hM6 hg6; have S6 := Lib.hid (HS.out.drop hg6 hM6); have hy6 := after_drop hg6 hgl hyc.out; clear hn6 hM6 hg6); clear tok) | ((go_at_call 28; refine (cost_any _ _ _ _ (S6.out.c3.2.cell 0) _ (S6.out.off.cell 4) (S6.out.off.free 4) hys).mono ?_; rintro e w7 ⟨rfl, w8, hb8, rfl⟩); have S7 := Lib.hid (S6.out.set (o' := { o with part := ((costP y.data.toList).getD 0) }) hb8 4 _ rfl); rw [HC.out] at S7; rw [HC.out]) | (refine wpList_store_row rfl 32 _ _ rfl w.heap.size zeroO.cells rfl rfl 32 zeroO.cells S7.out.res info32 rfl zeroO_one ?_))
              refine bodyPost_ret (ret_cell_tmp Tryd.results22 _ _ w.heap.size zeroO rfl (setRow_heap _ _ _ _ _ _ S7.out.res)) rfl ⟨?_, below_setRow S7.out.bel (Nat.le_refl _) _⟩
              rw [HV3.out]; rfl
            | some m =>
              have HV3 : Hid (entryP ws = entryF (ws.drop (k + 2)) (k + 2) (t.data.toList :: used) { o with part := m }) := by rw [HV.out, HV2.out, hcv]; rfl
              have HC := Lib.hid hcv
              clear hcv HV HV2
              have tok : True := trivial
              go_wp2_with (first | (have _t := tok; (refine wpList_drop_is _ rfl _ _ 78 rfl 68 Tryd.underlying9 Tryd.underlying78 (w.heap.size + 2) _ _ rfl HS.out.map t rfl HTS.out ?_; intro w6 n6 hn6 hM6 hg6; have S6 := Lib.hid (HS.out.drop hg6 hM6); have hy6 := after_drop hg6 hgl hyc.out; clear hn6 hM6 hg6); clear tok) | ((go_at_call 28; refine (cost_any _ _ _ _ (S6.out.c3.2.cell 0) _ (S6.out.off.cell 4) (S6.out.off.free 4) hys).mono ?_; rintro e w7 ⟨rfl, w8, hb8, rfl⟩); have S7 := Lib.hid (S6.out.set (o' := { o with part := ((costP y.data.toList).getD 0) }) hb8 4 _ rfl); rw [HC.out] at S7; rw [HC.out]))
              go_roundw
              case rel => exact ⟨k + 2, _, _, _, by go_num, by omega, by omega, HV3.out.symm, S7⟩
              case measure => simp [intOf]; omega
          · have HV2 : Hid (setKey t.data.toList ws[k + 1].1 o = (costP y.data.toList).map fun n => { o with amend := n }) := by rw [hkey, HY.out]; rfl
            clear hkey
            cases hcv : costP y.data.toList with
            | none =>
              have HV3 : Hid (entryP ws = .error (k + 1)) := by rw [HV.out, HV2.out, hcv]; rfl
              have HC := Lib.hid hcv
              clear hcv HV HV2
              have tok : True := trivial
              go_wp2_with (first | (have _t := tok; (refine wpList_drop_is _ rfl _ _ 78 rfl 68 Tryd.underlying9 Tryd.underlying78 (w.heap.size + 2) _ _ rfl HS.out.map t rfl HTS.out ?_; intro w6 n6 hn6 hM6 hg6; have S6 := Lib.hid (HS.out.drop hg6 hM6); have hy6 := after_drop hg6 hgl hyc.out; clear hn6 hM6 hg6); clear tok) | ((go_at_call 28; refine (cost_any _ _ _ _ (S6.out.c4.2.cell 0) _ (S6.out.off.cell 5) (S6.out.off.free 5) hys).mono ?_; rintro e w7 ⟨rfl, w8, hb8, rfl⟩); have S7 := Lib.hid (S6.out.set (o' := { o with amend := ((costP y.data.toList).getD 0) }) hb8 5 _ rfl); rw [HC.out] at S7; rw [HC.out]) | (refine wpList_store_row rfl 32 _ _ rfl w.heap.size zeroO.cells rfl rfl 32 zeroO.cells S7.out.res info32 rfl zeroO_one ?_))
              refine bodyPost_ret (ret_cell_tmp Tryd.results22 _ _ w.heap.size zeroO rfl (setRow_heap _ _ _ _ _ _ S7.out.res)) rfl ⟨?_, below_setRow S7.out.bel (Nat.le_refl _) _⟩
              rw [HV3.out]; rfl
            | some m =>
              have HV3 : Hid (entryP ws = entryF (ws.drop (k + 2)) (k + 2) (t.data.toList :: used) { o with amend := m }) := by rw [HV.out, HV2.out, hcv]; rfl
              have HC := Lib.hid hcv
              clear hcv HV HV2
              have tok : True := trivial
              go_wp2_with (first | (have _t := tok; (refine wpList_drop_is _ rfl _ _ 78 rfl 68 Tryd.underlying9 Tryd.underlying78 (w.heap.size + 2) _ _ rfl HS.out.map t rfl HTS.out ?_; intro w6 n6 hn6 hM6 hg6; have S6 := Lib.hid (HS.out.drop hg6 hM6); have hy6 := after_drop hg6 hgl hyc.out; clear hn6 hM6 hg6); clear tok) | ((go_at_call 28; refine (cost_any _ _ _ _ (S6.out.c4.2.cell 0) _ (S6.out.off.cell 5) (S6.out.off.free 5) hys).mono ?_; rintro e w7 ⟨rfl, w8, hb8, rfl⟩); have S7 := Lib.hid (S6.out.set (o' := { o with amend := ((costP y.data.toList).getD 0) }) hb8 5 _ rfl); rw [HC.out] at S7; rw [HC.out]))
              go_roundw
              case rel => exact ⟨k + 2, _, _, _, by go_num, by omega, by omega, HV3.out.symm, S7⟩
              case measure => simp [intOf]; omega
          · have HV2 : Hid (setKey t.data.toList ws[k + 1].1 o = (numP y.data.toList 0 1073741824).map fun n => { o with due := n }) := by rw [hkey, HY.out]; rfl
            clear hkey
            cases hcv : numP y.data.toList 0 1073741824 with
            | none =>
              have HV3 : Hid (entryP ws = .error (k + 1)) := by rw [HV.out, HV2.out, hcv]; rfl
              have HC := Lib.hid hcv
              clear hcv HV HV2
              have tok : True := trivial
              go_wp2_with (first | (have _t := tok; (refine wpList_drop_is _ rfl _ _ 78 rfl 68 Tryd.underlying9 Tryd.underlying78 (w.heap.size + 2) _ _ rfl HS.out.map t rfl HTS.out ?_; intro w6 n6 hn6 hM6 hg6; have S6 := Lib.hid (HS.out.drop hg6 hM6); have hy6 := after_drop hg6 hgl hyc.out; clear hn6 hM6 hg6); clear tok) | ((go_at_call 30; refine (due_any _ _ _ _ (S6.out.off.cell 3) (S6.out.off.free 3) hys).mono ?_; rintro e w7 ⟨rfl, w8, hb8, rfl⟩); have S7 := Lib.hid (S6.out.set (o' := { o with due := ((numP y.data.toList 0 1073741824).getD 0) }) hb8 3 _ rfl); rw [HC.out] at S7; rw [HC.out]) | (refine wpList_store_row rfl 32 _ _ rfl w.heap.size zeroO.cells rfl rfl 32 zeroO.cells S7.out.res info32 rfl zeroO_one ?_))
              refine bodyPost_ret (ret_cell_tmp Tryd.results22 _ _ w.heap.size zeroO rfl (setRow_heap _ _ _ _ _ _ S7.out.res)) rfl ⟨?_, below_setRow S7.out.bel (Nat.le_refl _) _⟩
              rw [HV3.out]; rfl
            | some m =>
              have HV3 : Hid (entryP ws = entryF (ws.drop (k + 2)) (k + 2) (t.data.toList :: used) { o with due := m }) := by rw [HV.out, HV2.out, hcv]; rfl
              have HC := Lib.hid hcv
              clear hcv HV HV2
              have tok : True := trivial
              go_wp2_with (first | (have _t := tok; (refine wpList_drop_is _ rfl _ _ 78 rfl 68 Tryd.underlying9 Tryd.underlying78 (w.heap.size + 2) _ _ rfl HS.out.map t rfl HTS.out ?_; intro w6 n6 hn6 hM6 hg6; have S6 := Lib.hid (HS.out.drop hg6 hM6); have hy6 := after_drop hg6 hgl hyc.out; clear hn6 hM6 hg6); clear tok) | ((go_at_call 30; refine (due_any _ _ _ _ (S6.out.off.cell 3) (S6.out.off.free 3) hys).mono ?_; rintro e w7 ⟨rfl, w8, hb8, rfl⟩); have S7 := Lib.hid (S6.out.set (o' := { o with due := ((numP y.data.toList 0 1073741824).getD 0) }) hb8 3 _ rfl); rw [HC.out] at S7; rw [HC.out]))
              go_roundw
              case rel => exact ⟨k + 2, _, _, _, by go_num, by omega, by omega, HV3.out.symm, S7⟩
              case measure => simp [intOf]; omega
    · have HV : Hid (entryP ws = .ok o) := by rw [← HR.out]; exact ent_done (by omega)
      have tl : decide ((k : Int) < (ws.length : Int)) = false := decide_eq_false (by omega)
      go_wp2_with (first | (refine wpList_load_row rfl 32 _ rfl (w.heap.size + 1) rfl 32 _ _ _ HS.out.off Tryd.underlying32 rfl info32 ?_) | (refine wpList_store_row rfl 32 _ _ rfl w.heap.size o.cells rfl rfl 32 zeroO.cells HS.out.res info32 rfl (off_one o) ?_))
      refine bodyPost_ret (ret_cell_tmp Tryd.results22 _ _ w.heap.size o rfl (setRow_heap _ _ _ _ _ _ HS.out.res)) rfl ⟨?_, below_setRow HS.out.bel (Nat.le_refl _) _⟩
      rw [HV.out]; rfl
end Go.Proofs.YtcjkamnpkmkapaaDoor
