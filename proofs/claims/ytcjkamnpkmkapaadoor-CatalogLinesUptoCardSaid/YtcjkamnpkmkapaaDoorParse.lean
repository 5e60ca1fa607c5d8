import Derived.Test.YtcjkamnpkmkapaaDoorParse0
import Derived.Test.YtcjkamnpkmkapaaDoorEntry
namespace Go.Proofs.YtcjkamnpkmkapaaDoor
open Go.RowKit
theorem line_bytes (s : ByteArray) (p : Nat) : ∃ d : ByteArray, d.data.toList = lineOf (s.data.toList.drop p) ∧ d.size ≤ s.size - p ∧
    ((Lib.indexByte (s.extract p s.size).data.toList 10 = -1 ∧ s.extract p s.size = d) ∨ (∃ n : Nat, n ≤ (s.extract p s.size).size ∧ Lib.indexByte (s.extract p s.size).data.toList 10 = n ∧ (s.extract p s.size).extract 0 n = d)) := by
  have e : (s.extract p s.size).data.toList = s.data.toList.drop p := by
    rw [extract_str, data_str, List.take_of_length_le (by rw [data_length]; exact Nat.le_refl _)]
  refine ⟨str (lineOf (s.data.toList.drop p)), data_str _, ?_, ?_⟩
  · rw [← data_length, data_str, ← data_length s, ← List.length_drop]; exact lineOf_le _
  · rw [e]
    rcases indexByte_cases (s.data.toList.drop p) 10 with ⟨h1, h2⟩ | ⟨h1, h2⟩
    · refine .inl ⟨h1, ?_⟩
      unfold lineOf; rw [h2, ← e, str_data]
    · refine .inr ⟨_, by rw [← data_length, e]; exact Nat.le_of_lt h2, h1, ?_⟩
      rw [extract_str, e, List.drop_zero, ← List.prefix_iff_eq_take.1 (List.takeWhile_prefix _)]
      rfl
theorem own_slice {w : World} {base E size n : Nat} {v : Value} {xs : List Value} (h : w.ownsRow base E size v n xs) : ∃ A cap, v = .slice A n cap := by
  rcases h.2 with ⟨rfl, rfl⟩ | ⟨g, cap, cur, rfl, _⟩
  · exact ⟨none, 0, rfl⟩
  · exact ⟨_, _, rfl⟩
theorem below_dn {B : Nat} {a w : World} (h : Below B a w) (n : Nat) : Below B a (w.drewN n) := ⟨h.os, h.tape, h.output, h.size, h.block⟩
theorem parseRet_ok {w w' : World} {r : Except (Int × Nat) (List Off)} {l : List Off} {v : Value} (h : r = .ok l) (ho : w'.ownsRow w.heap.size 32 6 v l.length (ocells l)) (hb : Below w.heap.size w w') : ParseRet w r (.returned (.tuple #[v, .int .i64 0, .int .i64 0])) w' := by
  subst h; exact ⟨_, rfl, ho, hb⟩
theorem entry_err (ws : List Wd) (x0 : Wd) (r : List Wd) (w : World) (g cap i : Nat) (hws : ws = x0 :: r) (hgl : g < w.heap.size) (hn : 1 ≤ ws.length) (hcw : ∀ j, (h : j < ws.length) → w.cell? ⟨g, j * 2, none⟩ = some (.string (str ws[j].1))) (hsz : ∀ x ∈ ws, x.1.length ≤ 9223372036854775807) (hnl : ws.length ≤ 4294967296) (he : entryP ws = .error i) :
    Calls Tryd.prog 22 #[.slice (some ⟨g, 0, none⟩) ws.length cap] w fun e w' => e = .returned (.tuple #[.agg #[.string ⟨#[]⟩, .int .i64 0, .int .i64 0, .int .i64 0, .int .i64 0, .int .i64 0], .int .i64 (i : Int)]) ∧ Below w.heap.size w w' :=
  (entry_any ws x0 r w g cap hws hgl hn hcw hsz hnl).mono fun e w' h => by unfold EntRet at h; rw [he] at h; exact h
theorem entry_ok (ws : List Wd) (x0 : Wd) (r : List Wd) (w : World) (g cap : Nat) (o : Off) (hws : ws = x0 :: r) (hgl : g < w.heap.size) (hn : 1 ≤ ws.length) (hcw : ∀ j, (h : j < ws.length) → w.cell? ⟨g, j * 2, none⟩ = some (.string (str ws[j].1))) (hsz : ∀ x ∈ ws, x.1.length ≤ 9223372036854775807) (hnl : ws.length ≤ 4294967296) (he : entryP ws = .ok o) :
    Calls Tryd.prog 22 #[.slice (some ⟨g, 0, none⟩) ws.length cap] w fun e w' => e = .returned (.tuple #[.agg #[.string o.name, .int .i64 o.do_, .int .i64 o.undo, .int .i64 o.due, .int .i64 o.part, .int .i64 o.amend], .int .i64 (-1)]) ∧ Below w.heap.size w w' :=
  (entry_any ws x0 r w g cap hws hgl hn hcw hsz hnl).mono fun e w' h => by unfold EntRet at h; rw [he] at h; exact h
theorem after_put {w1 w2 : World} {ob : Obj} {b g : Nat} {ws : List Wd} (hg : (w1.alloc ob).grownBy w2 (some b)) (hgl : g < w1.heap.size) (hne : g ≠ b) (hc : ∀ (j : Nat) (h : j < ws.length), w1.cell? ⟨g, j * 2, none⟩ = some (.string (str ws[j].1)) ∧ w1.cell? ⟨g, j * 2 + 1, none⟩ = some (.int .i64 (ws[j].2 : Int))) :
    g < w2.heap.size ∧ ∀ (j : Nat) (h : j < ws.length), w2.cell? ⟨g, j * 2, none⟩ = some (.string (str ws[j].1)) ∧ w2.cell? ⟨g, j * 2 + 1, none⟩ = some (.int .i64 (ws[j].2 : Int)) := by
  have hs := hg.size
  rw [asz] at hs
  refine ⟨by omega, fun j h => ⟨?_, ?_⟩⟩
  · exact hg.cell ((World.cell?_alloc_lt w1 ob _ hgl).trans (hc j h).1) (by simpa using hne)
  · exact hg.cell ((World.cell?_alloc_lt w1 ob _ hgl).trans (hc j h).2) (by simpa using hne)
/-- the state once the new name is in the map -/
structure PSu (w wr : World) (v : Value) (acc : List Off) (o : Off) : Prop where
  bel : Below w.heap.size w wr
  own : wr.ownsRow w.heap.size 32 6 v acc.length (ocells acc)
  map : ∃ n, n ≤ acc.length + 1 ∧ MapIs Tryd.prog 9 wr w.heap.size n (nameF (acc ++ [o]))
theorem pst_put {w w1 w2 : World} {v : Value} {acc : List Off} {n : Nat} {o : Off} {ob : Obj} {x : List UInt8} (h : PSt w w1 v acc n) (hg : (w1.alloc ob).grownBy w2 (some w.heap.size)) (hm : MapIs Tryd.prog 9 w2 w.heap.size (if (nameF acc (str x).data.toList).isSome then n else n + 1) (upd (nameF acc) (str x).data.toList (some (.bool true)))) (hx : o.name.data.toList = x) : PSu w w2 v acc o := by
  refine ⟨below_grown (h.bel.alloc h.bel.size _) hg (by have := h.bel.size; rw [asz]; omega) (Nat.le_refl _), (h.own.alloc _).kept hg (.inr (row_map_ne h.own h.map)), _, ?_, hm.congr fun k => ?_⟩
  · have := h.nle; split <;> omega
  · rw [data_str, ← hx]; exact nameF_snoc acc o k
theorem PSu.step {w w2 w3 : World} {v : Value} {acc : List Off} {o : Off} (h : PSu w w2 v acc o) (hb : Below w2.heap.size w2 w3) (ob : Obj) : PSu w (w3.alloc ob) v acc o := by
  have hbel := h.bel.trans (hb.mono h.bel.size)
  obtain ⟨n, hn, hm⟩ := h.map
  refine ⟨hbel.alloc hbel.size _, World.ownsRow.alloc ⟨h.own.1, ?_⟩ _, n, hn, (hm.below hb hm.lt).alloc _⟩
  rcases h.own.2 with hn | ⟨g, cap, cur, rfl, hbg, hgg, rest⟩
  · exact .inl hn
  · exact .inr ⟨g, cap, cur, rfl, hbg, (hb.block g (Array.getElem?_eq_some_iff.1 hgg).1).trans hgg, rest⟩
theorem PSu.app {w w3 w4 : World} {v v4 : Value} {acc : List Off} {o : Off} {ob : Obj} (h : PSu w w3 v acc o) (hown : w4.ownsRow w.heap.size 32 6 v4 (acc.length + 1) (ocells acc ++ [.string o.name, .int .i64 o.do_, .int .i64 o.undo, .int .i64 o.due, .int .i64 o.part, .int .i64 o.amend])) (hg : (w3.alloc ob).grownBy w4 v.ownBlock) (hac : acc.length ≤ 255) : ∃ n, PSt w w4 v4 (acc ++ [o]) n := by
  obtain ⟨n, hn, hm⟩ := h.map
  refine ⟨n, Below.grown (h.bel.alloc h.bel.size _) hg (by have := h.bel.size; rw [asz]; omega) (fun j hj => (h.own.lt _ hj).1), by rw [List.length_append, List.length_singleton, ocells_snoc]; exact hown, by rw [List.length_append, List.length_singleton]; exact hn, by rw [List.length_append, List.length_singleton]; omega, (hm.alloc _).kept hg (row_map_ne h.own hm).symm⟩
theorem cell_six_new' (w : World) (o : Off) (t : TypeId) (b : Nat) (hb : b = w.heap.size) : ∀ j u, [.string o.name, .int .i64 o.do_, .int .i64 o.undo, .int .i64 o.due, .int .i64 o.part, .int .i64 o.amend][j]? = some u → (w.alloc (.cells #[.string o.name, .int .i64 o.do_, .int .i64 o.undo, .int .i64 o.due, .int .i64 o.part, .int .i64 o.amend] t)).cell? ((⟨b, 0, none⟩ : Addr).add j) = some u := by
  subst hb; exact cell_six_new w o t
set_option maxHeartbeats 8000000 in
set_option maxRecDepth 100000 in
theorem parse_any (s : ByteArray) (w : World) (hs : s.size ≤ 4294967200) : Calls Tryd.prog 9 #[.string s] w (ParseRet w (parseP s.data.toList)) := by
  obtain ⟨i0, hi, hz0, hz1, hz2⟩ := info_parts Tryd.info32
  have hmm := @run_makeMap Tryd.prog
  have S0 : Hid (PSt w (w.alloc (.map #[] 0)) (.slice none 0 0) [] 0) := ⟨(Below.refl _ _).alloc (Nat.le_refl _) _, World.ownsRow_nil _ _ _ _, Nat.le_refl _, by simp, (MapIs.made Tryd.prog 9 w).congr (fun s => rfl)⟩
  have HL : Hid (s.data.toList.length = s.size) := data_length s
  go_enter Tryd.func9, Tryd.ntmps9
  go_wp2_with fail
  clear hmm
  go_loopw [5, 7] (fun v a wr => ∃ (p : Nat) (acc : List Off), a = .int .i64 p ∧ p ≤ s.size + 1 ∧ Hid (linesP (remP s.data.toList p) acc = parseP s.data.toList) ∧ Hid (∃ n, PSt w wr v acc n)) (fun _ a _ => s.size + 1 - (intOf a).toNat)
  case atStart => exact ⟨0, [], rfl, by omega, remP_zero _, 0, S0⟩
  case round =>
    clear S0
    obtain ⟨p, acc, rfl, hp1, HR, HSE⟩ := hrel
    obtain ⟨n, HS'⟩ := HSE.out
    have HS := Lib.hid HS'
    clear HSE HS'
    by_cases hp : p < s.size
    · obtain ⟨d, hd, hds, hcase⟩ := line_bytes s p
      have t0 : decide ((p : Int) < (s.size : Int)) = true := decide_eq_true (by omega)
      have HD := Lib.hid hd
      have HC := Lib.hid hcase
      have HST := Lib.hid (HR.out.symm.trans (linesP_step s.data.toList p (by rw [data_length]; exact hp) acc))
      clear hd hcase
      go_upto_region 6 with (fail)
      generalize s.extract p s.size = ex at *
      go_upto_if 25 with (go_at_call 19; refine (idx_any _ _ _).mono ?_; rintro e w' ⟨rfl, rfl⟩)
      generalize hix : Lib.indexByte ex.data.toList 10 = ix at *
      clear hix
      go_cut [8, 25] (fun vv _ wx => ∃ dd : ByteArray, vv = .string dd ∧ Hid (d = dd ∧ wr = wx))
      case first =>
        rcases HC.out with ⟨h1, h2⟩ | ⟨m, hm, h1, h2⟩
        · have t : decide (0 ≤ ix) = false := decide_eq_false (by omega)
          have g1 : ix < 0 := by omega
          have H2 := Lib.hid h2
          clear h1 h2
          go_wp2_with fail
          go_meet
          exact ⟨_, rfl, H2.out.symm, rfl⟩
        · have t : decide (0 ≤ ix) = true := decide_eq_true (by omega)
          have g1 : 0 ≤ ix := by omega
          have g2 : ix ≤ ex.size := by omega
          have H2 : Hid (ex.extract 0 ix.toNat = d) := by rw [h1, Int.toNat_natCast]; exact h2
          clear h1 h2
          go_wp2_with fail
          go_meet
          exact ⟨_, rfl, H2.out.symm, rfl⟩
      case rest =>
      obtain ⟨dd, rfl, hh⟩ := hcut
      obtain ⟨rfl, rfl⟩ := hh.out
      clear hh HC
      go_upto_region 10 with (go_at_call 20; refine (split_any _ _ _ (by omega) (by omega)).mono ?_; rintro e w1 ⟨v1, rfl, hown1, hb1⟩)
      have S1 := Lib.hid (HS.out.below hb1)
      have HB1 := Lib.hid hb1
      have HD2 := Lib.hid (splitP_len d.data.toList p)
      have hcnt := splitP_count d.data.toList p
      rw [data_length] at hcnt
      have hline : Hid ((lineOf (s.data.toList.drop p)).length = d.size) := by rw [← HD.out, data_length]; rfl
      have HST2 : Hid (parseP s.data.toList = match lineP p d.data.toList acc with | .error e => .error e | .ok acc' => linesP (remP s.data.toList (p + d.size + 1)) acc') := by
        have := HST.out
        rw [hline.out, ← HD.out] at this
        exact this
      clear HST hb1 HS HR
      generalize hws : splitP d.data.toList p = ws at *
      have HWS := Lib.hid hws
      clear hws
      obtain ⟨A5, cap5, rfl⟩ := own_slice S1.out.own
      have hsl := S1.out.bel.size
      have hb1s := HB1.out.size
      have hcn := S1.out.cnt
      have hnn := S1.out.nle
      cases ws with
      | nil =>
        have HN : Hid (linesP (remP s.data.toList (p + d.size + 1)) acc = parseP s.data.toList) := by
          rw [HST2.out, lineP_none HWS.out]; rfl
        obtain ⟨A1, cap1, rfl⟩ := own_slice hown1
        clear hown1 HST2 HD2
        simp only [List.length_nil]
        go_wp2_with fail
        go_roundw
        case rel => exact ⟨p + d.size + 1, _, by go_num, by omega, HN, _, S1⟩
        case measure => simp [intOf]; omega
      | cons x r =>
        obtain ⟨g, cap1, rfl, hgl, hcells⟩ := own_form hown1 (by simp)
        have hct : Hid (∀ (j : Nat) (h : j < (x :: r).length), w1.cell? ⟨g, j * 2, none⟩ = some (.string (str (x :: r)[j].1)) ∧ w1.cell? ⟨g, j * 2 + 1, none⟩ = some (.int .i64 ((x :: r)[j].2 : Int))) := fun j h => ⟨hcells _ _ (wcells_text _ j h).1, hcells _ _ (wcells_text _ j h).2⟩
        have hc0 : w1.cell? ⟨g, 0, none⟩ = some (.string (str x.1)) := (hct.out 0 (by simp)).1
        have hc1 : w1.cell? ⟨g, 1, none⟩ = some (.int .i64 (x.2 : Int)) := (hct.out 0 (by simp)).2
        have hgm : g ≠ w.heap.size := by
          intro e
          exact row_map_ne hown1 (e ▸ S1.out.map) (by simp [Value.ownBlock])
        have hxs : (str x.1).size ≤ maxLen := by
          have := HD2.out x (List.mem_cons_self ..)
          rw [← data_length, data_str]; rw [data_length] at this; unfold maxLen; omega
        clear hcells hown1
        cases hnm : nameB (nats (str x.1)) with
        | false =>
          have HV : Hid (parseP s.data.toList = .error (2, x.2)) := by rw [HST2.out, lineP_name HWS.out hnm]; rfl
          have HB := Lib.hid (S1.out.bel.alloc S1.out.bel.size (.cells #[.string (str x.1), .int .i64 (x.2 : Int)] 67))
          clear HST2 HD2
          go_wp2_with (go_at_call 21; refine (isName_any _ _).mono ?_; rintro e w' ⟨rfl, rfl⟩)
          go_quiet (fail)
          go_wp2_with fail
          go_ret3
          exact parseRet_err HV.out (below_dn HB.out _)
        | true =>
        have HXS := Lib.hid hxs
        by_cases htw : x.1 ∈ nmL acc
        · have HV : Hid (parseP s.data.toList = .error (4, x.2)) := by rw [HST2.out, lineP_twice HWS.out hnm htw]; rfl
          have HB := Lib.hid (S1.out.bel.alloc S1.out.bel.size (.cells #[.string (str x.1), .int .i64 (x.2 : Int)] 67))
          have hlk := (S1.out.map.alloc (.cells #[.string (str x.1), .int .i64 (x.2 : Int)] 67)).look Tryd.underlying9 Tryd.underlying55 (zeroBool _) HXS.out
          rw [show nameF acc (str x.1).data.toList = some (.bool true) by unfold nameF; rw [data_str, if_pos htw], Option.getD_some] at hlk
          clear HST2 HD2 htw hxs
          go_wp2_with (go_at_call 21; refine (isName_any _ _).mono ?_; rintro e w' ⟨rfl, rfl⟩)
          go_quiet (fail)
          go_wp2_with fail
          go_ret3
          exact parseRet_err HV.out (below_dn HB.out _)
        · have HTW := Lib.hid htw
          have hlk := (S1.out.map.alloc (.cells #[.string (str x.1), .int .i64 (x.2 : Int)] 67)).look Tryd.underlying9 Tryd.underlying55 (zeroBool _) HXS.out
          rw [show nameF acc (str x.1).data.toList = none by unfold nameF; rw [data_str, if_neg htw], Option.getD_none] at hlk
          clear htw hxs
          by_cases hfu : acc.length = 256
          · have HV : Hid (parseP s.data.toList = .error (3, x.2)) := by rw [HST2.out, lineP_full HWS.out hnm HTW.out hfu]; rfl
            have HB := Lib.hid (S1.out.bel.alloc S1.out.bel.size (.cells #[.string (str x.1), .int .i64 (x.2 : Int)] 67))
            have t3 : ((acc.length : Int) == 256) = true := beq_iff_eq.2 (by omega)
            clear HST2 HD2 hfu
            go_wp2_with (go_at_call 21; refine (isName_any _ _).mono ?_; rintro e w' ⟨rfl, rfl⟩)
            go_quiet (fail)
            go_wp2_with fail
            go_ret3
            exact parseRet_err HV.out (below_dn HB.out _)
          · have t3 : ((acc.length : Int) == 256) = false := beq_eq_false_iff_ne.2 (by omega)
            have hac : acc.length ≤ 255 := by omega
            have HFU := Lib.hid hfu
            have HSZ : Hid (∀ y ∈ x :: r, y.1.length ≤ 9223372036854775807) := fun y hy => by
              have := HD2.out y hy
              rw [data_length] at this; omega
            have hnl : (x :: r).length ≤ 4294967296 := by omega
            clear HD2 hfu
            have hfacts := entryF_facts r 1 [] (initO x.1)
            cases hen : entryF r 1 [] (initO x.1) with
            | error i =>
              rw [hen] at hfacts
              have hi2 : i < (x :: r).length := by simp only at hfacts; rw [List.length_cons]; omega
              have hgD : ((x :: r).getD i ([], 0)) = (x :: r)[i] := by rw [List.getD, List.getElem?_eq_getElem hi2, Option.getD_some]
              have HV : Hid (parseP s.data.toList = .error (2, (x :: r)[i].2)) := by
                rw [HST2.out, lineP_bad HWS.out hnm HTW.out HFU.out hen, hgD]; rfl
              have HI2 := Lib.hid hi2
              have hi3 : (i : Int) < (r.length : Int) + 1 := by rw [List.length_cons] at hi2; omega
              have hi4 : i < r.length + 1 := by rw [List.length_cons] at hi2; omega
              have hi5 : (0 : Int) ≤ i := by omega
              have t4 : decide ((0 : Int) ≤ i) = true := decide_eq_true hi5
              clear hgD
              have HEN : Hid (entryP (x :: r) = .error i) := hen
              clear hen HST2 hfacts
              go_wp2_with (first | (go_at_call 21; refine (isName_any _ _).mono ?_; rintro e w' ⟨rfl, rfl⟩) | (refine wpList_put_is _ rfl _ _ _ 55 (.inl rfl) 4 Tryd.underlying9 Tryd.underlying55 w.heap.size _ _ rfl (S1.out.map.alloc _) (by unfold maxLen; omega) (str x.1) _ rfl rfl HXS.out ?_; intro w2 hM2 hg2; have G2 := Lib.hid (after_put hg2 hgl hgm hct.out); have B2 := Lib.hid (below_grown (S1.out.bel.alloc hsl _) hg2 (by simp; omega) (Nat.le_refl _)); clear hM2 hg2) | (go_at_call 22; refine (entry_err (x :: r) x r _ g cap1 i rfl G2.out.1 (by simp) (fun j h => (G2.out.2 j h).1) HSZ.out hnl HEN.out).mono ?_; rintro e w3 ⟨rfl, hb3⟩; have hcx := (hb3.cell (p := ⟨g, i * 2 + 1, none⟩) G2.out.1).trans (G2.out.2 i hi2).2; have hg3 := Nat.lt_of_lt_of_le G2.out.1 hb3.size; have B3 := Lib.hid ((B2.out.trans (hb3.mono B2.out.size)).alloc (B2.out.trans (hb3.mono B2.out.size)).size (.cells #[.string ⟨#[]⟩, .int .i64 0, .int .i64 0, .int .i64 0, .int .i64 0, .int .i64 0] 32)); clear hb3))
              go_quiet (fail)
              go_wp2_with fail
              go_ret3
              exact parseRet_err HV.out (below_dn B3.out _)
            | ok o =>
              rw [hen] at hfacts
              have hon : o.name.data.toList = x.1 := by
                have h2 : o.name = str x.1 := hfacts
                rw [h2, data_str]
              have HV : Hid (linesP (remP s.data.toList (p + d.size + 1)) (acc ++ [o]) = parseP s.data.toList) := by
                rw [HST2.out, lineP_good HWS.out hnm HTW.out HFU.out hen]; rfl
              have HEN : Hid (entryP (x :: r) = .ok o) := hen
              have HON := Lib.hid hon
              clear hen HST2 hfacts hon
              go_wp2_with (first | (go_at_call 21; refine (isName_any _ _).mono ?_; rintro e w' ⟨rfl, rfl⟩) | (refine wpList_put_is _ rfl _ _ _ 55 (.inl rfl) 4 Tryd.underlying9 Tryd.underlying55 w.heap.size _ _ rfl (S1.out.map.alloc _) (by unfold maxLen; omega) (str x.1) _ rfl rfl HXS.out ?_; intro w2 hM2 hg2; have G2 := Lib.hid (after_put hg2 hgl hgm hct.out); have T2 := Lib.hid (pst_put (o := o) S1.out hg2 hM2 HON.out); clear hM2 hg2) | (go_at_call 22; refine (entry_ok (x :: r) x r _ g cap1 o rfl G2.out.1 (by simp) (fun j h => (G2.out.2 j h).1) HSZ.out hnl HEN.out).mono ?_; rintro e w3 ⟨rfl, hb3⟩; have T3 := Lib.hid (T2.out.step hb3 (.cells #[.string o.name, .int .i64 o.do_, .int .i64 o.undo, .int .i64 o.due, .int .i64 o.part, .int .i64 o.amend] 32)); have hw3 := T3.out.bel.size; clear hb3) | (at_builtin; refine wpList_append_own _ rfl _ _ 22 rfl w.heap.size 32 i0 (.agg zeroO.cells) 6 56 Tryd.underlying22 hi hz0 hz1 hz2 rfl (by decide) _ _ _ rfl (T3.out.own.alloc _) ⟨w3.heap.size + 1, 0, none⟩ 1 1 [.string o.name, .int .i64 o.do_, .int .i64 o.undo, .int .i64 o.due, .int .i64 o.part, .int .i64 o.amend] rfl rfl (cell_six_new' _ _ _ _ (by simp)) (by simp [Value.oneCell']) (by unfold maxLen; omega) (by omega) (by simp at hw3 ⊢; omega) ?_; intro v4 w4 hown4 hgrow4 hnil4; have T4 := Lib.hid (T3.out.app hown4 hgrow4); clear hown4 hgrow4 hnil4))
              go_roundw
              case rel => exact ⟨p + d.size + 1, _, by go_num, by omega, HV, T4.out hac⟩
              case measure => simp [intOf]; omega
    · have HV : Hid (parseP s.data.toList = .ok acc) := by
        rw [← HR.out]; exact remP_end _ _ (by rw [data_length]; omega) _
      have t0 : decide ((p : Int) < (s.size : Int)) = false := decide_eq_false (by omega)
      go_wp2_with fail
      go_ret3
      exact parseRet_ok HV.out HS.out.own HS.out.bel
end Go.Proofs.YtcjkamnpkmkapaaDoor
