import Derived.Test.YtcjkamnpkmkapaaDoorWrite0
namespace Go.Proofs.YtcjkamnpkmkapaaDoor
open Go.RowKit
def WriteRet (w : World) (r : List UInt8) (e : Ending) (w' : World) : Prop := e = .returned (.string (str r)) ∧ Below w.heap.size w w'
theorem right_lit (o : Off) (w : World) : Calls Tryd.prog 14 #[.agg #[.string o.name, .int .i64 o.do_, .int .i64 o.undo, .int .i64 o.due, .int .i64 o.part, .int .i64 o.amend]] w fun e w' => e = .returned (.bool (rightB o)) ∧ Below w.heap.size w w' := right_any o w
theorem write_long (v : Value) (l : List Off) (w : World) (hv : OReads w w.heap.size v l) (h : 256 < l.length) : Calls Tryd.prog 8 #[v] w (WriteRet w (writeP l)) := by
  obtain ⟨A, cap, rfl, hr⟩ := hv
  have HR := Lib.hid hr
  clear hr
  have t0 : decide ((256 : Int) < (l.length : Int)) = true := decide_eq_true (by omega)
  have HV : Hid (writeP l = []) := by unfold writeP; rw [if_pos h]; rfl
  clear HR
  go_enter Tryd.func8, Tryd.ntmps8
  go_wp2_with fail
  go_ret
  exact ⟨by rw [HV.out]; rfl, Below.refl _ _⟩
theorem str_size (a : List UInt8) : (str a).size = a.length := by rw [← data_length, data_str]
theorem cost_size {n : Int} (h : costB n = true) : (str (costT n)).size ≤ 10 := by rw [str_size]; exact costT_len n h
theorem part1_eq (o : Off) : (o.name ++ ⟨#[32, 100, 111, 32]⟩ ++ str (costT o.do_) ++ ⟨#[32, 117, 110, 100, 111, 32]⟩ ++ str (costT o.undo)).data.toList = o.name.data.toList ++ [32, 100, 111, 32] ++ costT o.do_ ++ [32, 117, 110, 100, 111, 32] ++ costT o.undo := by simp [str]
theorem part1_len (o : Off) : (o.name.data.toList ++ [32, 100, 111, 32] ++ costT o.do_ ++ [32, 117, 110, 100, 111, 32] ++ costT o.undo).length = o.name.size + 10 + (costT o.do_).length + (costT o.undo).length := by
  have := data_length o.name
  simp only [List.length_append, this, List.length_cons, List.length_nil]; omega
theorem part2_eq (o : Off) : ((⟨#[32, 100, 117, 101, 32]⟩ : ByteArray) ++ str (Lib.itoa o.due) ++ ⟨#[32, 112, 97, 114, 116, 32]⟩ ++ str (costT o.part)).data.toList = [32, 100, 117, 101, 32] ++ Lib.itoa o.due ++ [32, 112, 97, 114, 116, 32] ++ costT o.part := by simp [str]
theorem part3_eq (o : Off) : ((⟨#[32, 97, 109, 101, 110, 100, 32]⟩ : ByteArray) ++ str (costT o.amend) ++ ⟨#[10]⟩).data.toList = [32, 97, 109, 101, 110, 100, 32] ++ costT o.amend ++ [10] := by simp [str]
theorem part2_len (o : Off) : ([32, 100, 117, 101, 32] ++ Lib.itoa o.due ++ [32, 112, 97, 114, 116, 32] ++ costT o.part).length = 11 + (Lib.itoa o.due).length + (costT o.part).length := by
  simp only [List.length_append, List.length_cons, List.length_nil]; omega
theorem lineW_len (o : Off) (z1 : (costT o.do_).length ≤ 10) (z2 : (costT o.undo).length ≤ 10) (z5 : (Lib.itoa o.due).length ≤ 10) (z3 : (costT o.part).length ≤ 10) (z4 : (costT o.amend).length ≤ 10) (hn : o.name.size ≤ 100) : (lineW o).length ≤ 1000 := by
  have := data_length o.name
  unfold lineW
  simp only [List.length_append, this, List.length_cons, List.length_nil]; omega
theorem map_lt {w wr : World} {out : List UInt8} {l : List Off} (h : WSt w wr out l) : w.heap.size + 1 < wr.heap.size := by
  obtain ⟨n, _, hM⟩ := h.map
  exact hM.lt
theorem WSt.lookT {w wr : World} {out : List UInt8} {l : List Off} {nm : ByteArray} (h : WSt w wr out l) (hs : nm.size ≤ 100) (hm : nm.data.toList ∈ nmL l) : (Instr.lookup 55 (.map (some (w.heap.size + 1))) (.string nm) false).run Tryd.prog wr = .ok (.bool true) wr := by
  obtain ⟨n, _, hM⟩ := h.map
  rw [hM.look Tryd.underlying9 Tryd.underlying55 (zeroBool _) (by unfold maxLen; omega)]
  unfold nameF
  rw [if_pos hm]; rfl
theorem WSt.lookF {w wr : World} {out : List UInt8} {l : List Off} {nm : ByteArray} (h : WSt w wr out l) (hs : nm.size ≤ 100) (hm : nm.data.toList ∉ nmL l) : (Instr.lookup 55 (.map (some (w.heap.size + 1))) (.string nm) false).run Tryd.prog wr = .ok (.bool false) wr := by
  obtain ⟨n, _, hM⟩ := h.map
  rw [hM.look Tryd.underlying9 Tryd.underlying55 (zeroBool _) (by unfold maxLen; omega)]
  unfold nameF
  rw [if_neg hm]; rfl
theorem name_size {o : Off} (h : rightB o = true) : (1 ≤ o.name.size ∧ o.name.size ≤ 100) ∧ (costB o.do_ = true ∧ costB o.undo = true ∧ costB o.part = true ∧ costB o.amend = true) ∧ 0 ≤ o.due ∧ o.due ≤ 1073741824 := by
  simp only [rightB, nameB, Bool.and_eq_true, decide_eq_true_eq, nats_length] at h
  obtain ⟨⟨⟨⟨⟨⟨a1, a2⟩, a3⟩, a4⟩, ⟨⟨⟨⟨b1, b2⟩, _⟩, _⟩, _⟩⟩, d0⟩, d1⟩ := h
  exact ⟨⟨b1, b2⟩, ⟨a1, a2, a3, a4⟩, d0, d1⟩
set_option maxHeartbeats 8000000 in
set_option maxRecDepth 100000 in
theorem write_any (v : Value) (l : List Off) (w : World) (hv : OReads w w.heap.size v l) (hl : l.length ≤ 256) (ht : Tab w) : Calls Tryd.prog 8 #[v] w (WriteRet w (writeP l)) := by
  obtain ⟨A, cap, rfl, hr⟩ := hv
  have HR := Lib.hid hr
  have HT := Lib.hid ht
  clear hr ht
  have t0 : decide ((256 : Int) < (l.length : Int)) = false := decide_eq_false (by omega)
  have HV : Hid (writeP l = (writeF l []).getD []) := by unfold writeP; rw [if_neg (by omega)]; rfl
  have hmm := @run_makeMap Tryd.prog
  have S0 : Hid (WSt w ((w.alloc (.cells #[.pointer none, .slice none 0 0] 54)).alloc (.map #[] 0)) [] []) := by
    refine ⟨((Below.refl _ _).alloc (Nat.le_refl _) _).alloc (by simp) _, .inl ⟨Nat.le_refl _, _, (Hs.new w 54 _).alloc _, World.ownsRow_nil _ _ _ _, by simp [Value.ownBlock]⟩, 0, Nat.le_refl _, ?_⟩
    have := MapIs.made Tryd.prog 9 (w.alloc (.cells #[.pointer none, .slice none 0 0] 54))
    rw [asz] at this
    exact this.congr (fun s => rfl)
  go_enter Tryd.func8, Tryd.ntmps8
  go_wp2_with fail
  clear hmm
  go_loopw [13] (fun i wr => ∃ (k : Nat) (out : List UInt8), k ≤ l.length ∧ out.length ≤ k * 1000 ∧ i = .int .i64 k ∧ Hid (writeF l [] = (writeF (l.drop k) (nmL (l.take k))).map (out ++ ·)) ∧ Hid (WSt w wr out (l.take k))) (fun i _ => l.length - (intOf i).toNat)
  case atStart => exact ⟨0, [], by omega, by simp, rfl, by simp [Hid, nmL], S0⟩
  case round =>
    clear S0
    obtain ⟨k, out, hk, hol, rfl, HW, HS⟩ := hrel
    by_cases hlt : k < l.length
    · have t1 : decide ((k : Int) < (l.length : Int)) = true := decide_eq_true (by omega)
      obtain ⟨g, off, rfl, hg, hc⟩ := HR.out (by omega)
      have hcw : ∀ (j : Nat) (u : Value), l[k].cells[j]? = some u → wr.cell? ⟨g, off + k * 6 + j, none⟩ = some u := fun j u hu => (HS.out.bel.cell (p := ⟨g, off + k * 6 + j, none⟩) hg).trans (hc k hlt j u hu)
      obtain ⟨o, ho⟩ : ∃ o, o = l[k] := ⟨_, rfl⟩
      rw [← ho] at hcw
      have c0 : wr.cell? ⟨g, off + k * 6, none⟩ = some (.string o.name) := hcw 0 _ rfl
      have c1 : wr.cell? ⟨g, off + k * 6 + 1, none⟩ = some (.int .i64 o.do_) := hcw 1 _ rfl
      have c2 : wr.cell? ⟨g, off + k * 6 + 2, none⟩ = some (.int .i64 o.undo) := hcw 2 _ rfl
      have c3 : wr.cell? ⟨g, off + k * 6 + 3, none⟩ = some (.int .i64 o.due) := hcw 3 _ rfl
      have c4 : wr.cell? ⟨g, off + k * 6 + 4, none⟩ = some (.int .i64 o.part) := hcw 4 _ rfl
      have c5 : wr.cell? ⟨g, off + k * 6 + 5, none⟩ = some (.int .i64 o.amend) := hcw 5 _ rfl
      have HO := Lib.hid ho
      have hws := HS.out.bel.size
      clear ho hcw hc
      have HBX : Hid (Hs (wr.alloc (.cells #[.string o.name, .int .i64 o.do_, .int .i64 o.undo, .int .i64 o.due, .int .i64 o.part, .int .i64 o.amend] 32)) wr.heap.size 32 o.cells) := Hs.new wr 32 o.cells
      have HS1 := Lib.hid (HS.out.below ((Below.refl wr.heap.size wr).alloc (Nat.le_refl _) (.cells #[.string o.name, .int .i64 o.do_, .int .i64 o.undo, .int .i64 o.due, .int .i64 o.part, .int .i64 o.amend] 32)))
      cases hro : rightB o with
      | false =>
        have HB : Hid (writeP l = []) := by rw [HV.out, HW.out, writeF_bad l k hlt out (.inl (by rw [← HO.out]; exact hro))]; rfl
        go_wp2_with (go_at_call 14; refine (right_lit _ _).mono ?_; rintro e w2 ⟨rfl, hb2⟩)
        go_ret
        exact ⟨by rw [HB.out]; rfl, HS1.out.bel.trans (hb2.mono (by rw [asz]; omega))⟩
      | true =>
        obtain ⟨⟨hn1, hn2⟩, hcs, hdu0, hdu1⟩ := name_size hro
        have HCS := Lib.hid hcs
        clear hcs
        by_cases htw : o.name.data.toList ∈ nmL (l.take k)
        · have HB : Hid (writeP l = []) := by rw [HV.out, HW.out, writeF_bad l k hlt out (.inr (by rw [← HO.out]; exact htw))]; rfl
          have HTW := Lib.hid htw
          clear htw
          go_wp2_with (go_at_call 14; refine (right_lit _ _).mono ?_; rintro e w2 ⟨rfl, hb2⟩; have S2 := Lib.hid (HS1.out.below hb2); have q0 : w2.cell? ⟨wr.heap.size, 0, none⟩ = some (.string o.name) := (HBX.out.below hb2 (by simp)).cell 0; have hlk := S2.out.lookT hn2 HTW.out)
          go_ret
          exact ⟨by rw [HB.out]; rfl, S2.out.bel⟩
        · have HTW := Lib.hid htw
          have HST : Hid (writeF l [] = (writeF (l.drop (k + 1)) (nmL (l.take (k + 1)))).map ((out ++ lineW o) ++ ·)) := by
            rw [HW.out, writeF_step l k hlt out (by rw [← HO.out]; exact hro) (by rw [← HO.out]; exact htw), ← HO.out]; rfl
          have HTK : Hid (l.take k ++ [o] = l.take (k + 1)) := by rw [HO.out, List.take_succ_eq_append_getElem hlt]; rfl
          clear htw
          go_upto_region 11 with (first | (go_at_call 14; refine (right_lit _ _).mono ?_; rintro e w2 ⟨rfl, hb2⟩; have S2 := Lib.hid (HS1.out.below hb2); have X2 := Lib.hid (HBX.out.below hb2 (by simp)); have q0 : w2.cell? ⟨wr.heap.size, 0, none⟩ = some (.string o.name) := X2.out.cell 0; have hlk := S2.out.lookF hn2 HTW.out; obtain ⟨m2, hm2, hM2'⟩ := S2.out.map; have HM2 := Lib.hid hM2'; clear hM2' hb2) | (refine wpList_put_is _ rfl _ _ _ 55 (.inl rfl) 4 Tryd.underlying9 Tryd.underlying55 (w.heap.size + 1) m2 _ rfl HM2.out (by rw [List.length_take] at hm2; unfold maxLen; omega) o.name _ rfl rfl (by unfold maxLen; omega) ?_; intro w3 hM3 hg3; have S3 := Lib.hid (S2.out.put (o := o) hm2 HM2.out hg3 hM3); have X3 := Lib.hid (X2.out.grown hg3 (by have := HS.out.map; simp; have := map_lt HS.out; omega)); clear hM3 hg3))
          clear q0 hlk S2 X2 HM2 HS1 HBX c0 c1 c2 c3 c4 c5
          have hx3 := X3.out.lt
          have q0 : w3.cell? ⟨wr.heap.size, 0, none⟩ = some (.string o.name) := X3.out.cell 0
          have q1 : w3.cell? ⟨wr.heap.size, 1, none⟩ = some (.int .i64 o.do_) := X3.out.cell 1
          have q2 : w3.cell? ⟨wr.heap.size, 2, none⟩ = some (.int .i64 o.undo) := X3.out.cell 2
          have HT3 := Lib.hid (HT.out.keep S3.out.bel)
          simp only [Act.put]
          go_cut [41] (fun _ wx => Hid (WSt w wx (out ++ (o.name.data.toList ++ [32, 100, 111, 32] ++ costT o.do_ ++ [32, 117, 110, 100, 111, 32] ++ costT o.undo)) (l.take k ++ [o]) ∧ Hs wx wr.heap.size 32 o.cells))
          case first =>
            have hne : wr.heap.size ≠ w.heap.size := by have := map_lt HS.out; omega
            have z1 := cost_size HCS.out.1
            have z2 := cost_size HCS.out.2.1
            have f1 : ¬ (9223372036854775807 < o.name.size + 4) := by omega
            have f2 : ¬ (9223372036854775807 < o.name.size + 4 + (str (costT o.do_)).size) := by omega
            have f3 : ¬ (9223372036854775807 < o.name.size + 4 + (str (costT o.do_)).size + 6) := by omega
            have f4 : ¬ (9223372036854775807 < o.name.size + 4 + (str (costT o.do_)).size + 6 + (str (costT o.undo)).size) := by omega
            go_region_held3 (fun W => W.cell? ⟨wr.heap.size, 0, none⟩ = some (.string o.name) ∧ W.cell? ⟨wr.heap.size, 1, none⟩ = some (.int .i64 o.do_) ∧ W.cell? ⟨wr.heap.size, 2, none⟩ = some (.int .i64 o.undo))
              (first | go_keep | exact ⟨(hb4.cell (p := ⟨wr.heap.size, 0, none⟩) hx3).trans q0, (hb4.cell (p := ⟨wr.heap.size, 1, none⟩) hx3).trans q1, (hb4.cell (p := ⟨wr.heap.size, 2, none⟩) hx3).trans q2⟩ | exact ⟨(hs_others (X3.out.below hb4 hx3) O5 hne).cell 0, (hs_others (X3.out.below hb4 hx3) O5 hne).cell 1, (hs_others (X3.out.below hb4 hx3) O5 hne).cell 2⟩)
              (first | (go_at_call 16; refine (showCost_from w3 _ _ (by first | exact HCS.out.1 | exact HCS.out.2.1) ?_ HT3.out).mono ?_; (first | exact hb4 | exact (Below.refl _ _).drew | exact Below.refl _ _); rintro e w4 ⟨rfl, hb4⟩) | (go_at_call 15; refine (write_from w w3 out (l.take k ++ [o]) _ _ S3.out (by exact hb4) (by simp [ByteArray.size_append, ByteArray.size_mk']; omega)).mono ?_; rintro e w5 ⟨rfl, S5, O5⟩))
            all_goals
              go_wp2_with fail
              go_meet
              exact ⟨by have := S5; rw [part1_eq] at this; exact this, hs_others (X3.out.below hb4 hx3) O5 hne⟩
          case rest =>
          clear q0 q1 q2 X3 HT3 hx3 S3
          have S6 := Lib.hid hcut.out.1
          have X6 := Lib.hid hcut.out.2
          clear hcut
          have hx6 := X6.out.lt
          have HT6 := Lib.hid (HT.out.keep S6.out.bel)
          have hne : wr.heap.size ≠ w.heap.size := by have := map_lt HS.out; omega
          have z1 := cost_size HCS.out.1
          have z2 := cost_size HCS.out.2.1
          have z3 := cost_size HCS.out.2.2.1
          have z4 := cost_size HCS.out.2.2.2
          have z5 : (str (Lib.itoa o.due)).size ≤ 10 := by rw [str_size]; exact itoa_len _ hdu0 hdu1
          rw [str_size] at z1 z2
          have hp1 := Lib.hid (part1_len o)
          go_upto_region 12 with (fail)
          have q3 : wc.cell? ⟨wr.heap.size, 3, none⟩ = some (.int .i64 o.due) := X6.out.cell 3
          have q4 : wc.cell? ⟨wr.heap.size, 4, none⟩ = some (.int .i64 o.part) := X6.out.cell 4
          go_cut [51] (fun _ wx => Hid (WSt w wx (out ++ (o.name.data.toList ++ [32, 100, 111, 32] ++ costT o.do_ ++ [32, 117, 110, 100, 111, 32] ++ costT o.undo) ++ ([32, 100, 117, 101, 32] ++ Lib.itoa o.due ++ [32, 112, 97, 114, 116, 32] ++ costT o.part)) (l.take k ++ [o]) ∧ Hs wx wr.heap.size 32 o.cells))
          case first =>
            have f1 : ¬ (9223372036854775807 < 5 + (str (Lib.itoa o.due)).size) := by omega
            have f2 : ¬ (9223372036854775807 < 5 + (str (Lib.itoa o.due)).size + 6) := by omega
            have f3 : ¬ (9223372036854775807 < 5 + (str (Lib.itoa o.due)).size + 6 + (str (costT o.part)).size) := by omega
            go_region_held3 (fun W => W.cell? ⟨wr.heap.size, 3, none⟩ = some (.int .i64 o.due) ∧ W.cell? ⟨wr.heap.size, 4, none⟩ = some (.int .i64 o.part))
              (first | go_keep | exact ⟨(hb4.cell (p := ⟨wr.heap.size, 3, none⟩) hx6).trans q3, (hb4.cell (p := ⟨wr.heap.size, 4, none⟩) hx6).trans q4⟩ | exact ⟨(hs_others (X6.out.below hb4 hx6) O5 hne).cell 3, (hs_others (X6.out.below hb4 hx6) O5 hne).cell 4⟩)
              (first | (go_at_call 16; refine (showCost_from wc _ _ HCS.out.2.2.1 ?_ HT6.out).mono ?_; (first | exact hb4 | exact (Below.refl _ _).drew | exact Below.refl _ _); rintro e w4 ⟨rfl, hb4⟩) | (go_at_call 17; refine (text_from wc _ _ hdu0 hdu1 ?_ HT6.out).mono ?_; (first | exact hb4 | exact (Below.refl _ _).drew | exact Below.refl _ _); rintro e w4 ⟨rfl, hb4⟩) | (go_at_call 15; refine (write_from w wc _ (l.take k ++ [o]) _ _ S6.out (by exact hb4) (by rw [List.length_append, hp1.out]; simp [ByteArray.size_append, ByteArray.size_mk']; omega)).mono ?_; rintro e w5 ⟨rfl, S5, O5⟩))
            all_goals
              go_wp2_with fail
              go_meet
              exact ⟨by have := S5; rw [part2_eq] at this; exact this, hs_others (X6.out.below hb4 hx6) O5 hne⟩
          case rest =>
          clear q3 q4 X6 HT6 hx6 S6
          have S7 := Lib.hid hcut.out.1
          have X7 := Lib.hid hcut.out.2
          clear hcut
          go_upto_region 13 with (fail)
          have hx7 := X7.out.lt
          have HT7 := Lib.hid (HT.out.keep S7.out.bel)
          have q5 : wc.cell? ⟨wr.heap.size, 5, none⟩ = some (.int .i64 o.amend) := X7.out.cell 5
          have f1 : ¬ (9223372036854775807 < 7 + (str (costT o.amend)).size) := by omega
          have f2 : ¬ (9223372036854775807 < 7 + (str (costT o.amend)).size + 1) := by omega
          have hp2 := Lib.hid (part2_len o)
          rw [str_size] at z3 z5
          go_wp2_with (first | (go_at_call 16; refine (showCost_from wc _ _ HCS.out.2.2.2 (Below.refl _ _) HT7.out).mono ?_; rintro e w4 ⟨rfl, hb4⟩) | (go_at_call 15; refine (write_from w wc _ (l.take k ++ [o]) _ _ S7.out (by exact hb4) (by rw [List.length_append, List.length_append, hp1.out, hp2.out]; simp [ByteArray.size_append, ByteArray.size_mk']; omega)).mono ?_; rintro e w5 ⟨rfl, S5, O5⟩))
          go_roundw
          case rel =>
            refine ⟨k + 1, out ++ lineW o, by omega, ?_, by go_num, HST, ?_⟩
            · have h3 := lineW_len o z1 z2 z5 z3 (by rw [← str_size]; exact z4) hn2
              rw [List.length_append]; omega
            · have h5 := S5
              rw [part3_eq, HTK.out] at h5
              have e : out ++ lineW o = out ++ (o.name.data.toList ++ [32, 100, 111, 32] ++ costT o.do_ ++ [32, 117, 110, 100, 111, 32] ++ costT o.undo) ++ ([32, 100, 117, 101, 32] ++ Lib.itoa o.due ++ [32, 112, 97, 114, 116, 32] ++ costT o.part) ++ ([32, 97, 109, 101, 110, 100, 32] ++ costT o.amend ++ [10]) := by unfold lineW; simp only [List.append_assoc]
              rw [e]
              exact h5
          case measure => simp [intOf]; omega
    · have t1 : decide ((k : Int) < (l.length : Int)) = false := decide_eq_false (by omega)
      have HB : Hid (writeP l = out) := by
        rw [HV.out, HW.out, List.drop_of_length_le (by omega)]
        simp [writeF, Hid]
      go_wp2_with (go_at_call 18; refine (Tryd.Builder_String_any w.heap.size w.heap.size out _ HS.out.bld HS.out.bel.size).mono ?_; rintro e w2 ⟨rfl, hb2⟩)
      go_ret
      exact ⟨by rw [HB.out]; rfl, HS.out.bel.trans hb2⟩
end Go.Proofs.YtcjkamnpkmkapaaDoor
