import Derived.Test.YtcjkamnpkmkapaaDoorRight0
import Derived.Test.YtcjkamnpkmkapaaDoorFind
namespace Go.Proofs.YtcjkamnpkmkapaaDoor
open Go.RowKit
def setF (es : List (List UInt8)) (k : List UInt8) : Option Value := if k ∈ es then some (.bool true) else none
theorem setF_snoc (es : List (List UInt8)) (e k : List UInt8) : upd (setF es) e (some (.bool true)) k = setF (es ++ [e]) k := by
  unfold upd setF
  by_cases h : k = e
  · rw [if_pos h, if_pos (List.mem_append_right _ (by simp [h]))]
  · rw [if_neg h]
    by_cases m : k ∈ es
    · rw [if_pos m, if_pos (List.mem_append_left _ m)]
    · rw [if_neg m, if_neg (fun a => (List.mem_append.1 a).elim m (fun b => h (by simpa using b)))]
def rightG : List Off → List (List UInt8) → List (List UInt8) → Bool
  | [], _, _ => true
  | o :: r, es, seen => rightB o && decide (o.name.data.toList ∈ es) && !decide (o.name.data.toList ∈ seen) && rightG r es (seen ++ [o.name.data.toList])
def rightP (l : List Off) (es : List (List UInt8)) : Bool := rightG l es [] && decide (l.length = es.length)
theorem rightG_step (l : List Off) (es : List (List UInt8)) (k : Nat) (h : k < l.length) : rightG (l.drop k) es (nmL (l.take k)) = (rightB l[k] && decide (l[k].name.data.toList ∈ es) && !decide (l[k].name.data.toList ∈ nmL (l.take k)) && rightG (l.drop (k + 1)) es (nmL (l.take (k + 1)))) := by
  rw [List.drop_eq_getElem_cons h, rightG, List.take_succ_eq_append_getElem h]
  unfold nmL
  rw [List.map_append]; rfl
/-- the effects lie in block g -/
def EReads (w : World) (g : Nat) (es : List (List UInt8)) : Prop :=
  ∀ (i : Nat) (h : i < es.length), w.cell? ⟨g, i * 5, none⟩ = some (.string (str es[i])) ∧ w.cell? ⟨g, i * 5 + 1, none⟩ = some (.slice none 0 0) ∧ w.cell? ⟨g, i * 5 + 2, none⟩ = some (.int .i64 0) ∧ w.cell? ⟨g, i * 5 + 3, none⟩ = some (.string ⟨#[]⟩) ∧ w.cell? ⟨g, i * 5 + 4, none⟩ = some (.slice none 0 0)
theorem bool_look {w : World} {b n : Nat} {es : List (List UInt8)} {nm : ByteArray} (h : MapIs Tryd.prog 9 w b n (setF es)) (hs : nm.size ≤ maxLen) : (Instr.lookup 55 (.map (some b)) (.string nm) false).run Tryd.prog w = .ok (.bool (decide (nm.data.toList ∈ es))) w := by
  rw [h.look Tryd.underlying9 Tryd.underlying55 (zeroBool _) hs]
  unfold setF
  by_cases m : nm.data.toList ∈ es
  · rw [if_pos m, decide_eq_true m]; rfl
  · rw [if_neg m, decide_eq_false m]; rfl
structure RSt (w wr : World) (es : List (List UInt8)) (l : List Off) (b2 : Nat) : Prop where
  bel : Below w.heap.size w wr
  m1 : MapIs Tryd.prog 9 wr (w.heap.size + 1) es.length (setF es)
  m2 : MapIs Tryd.prog 9 wr b2 l.length (setF (nmL l))
  ne : w.heap.size + 1 ≠ b2
  b2w : w.heap.size ≤ b2
theorem RSt.below {w wr w1 : World} {es : List (List UInt8)} {l : List Off} {b2 : Nat} (h : RSt w wr es l b2) (hb : Below wr.heap.size wr w1) : RSt w w1 es l b2 :=
  ⟨h.bel.trans (hb.mono h.bel.size), h.m1.below hb h.m1.lt, h.m2.below hb h.m2.lt, h.ne, h.b2w⟩
theorem RSt.put {w wr w1 : World} {es : List (List UInt8)} {l : List Off} {b2 : Nat} {o : Off} (h : RSt w wr es l b2) (hn : o.name.data.toList ∉ nmL l) (hg : wr.grownBy w1 (some b2)) (hm : MapIs Tryd.prog 9 w1 b2 (if (setF (nmL l) o.name.data.toList).isSome then l.length else l.length + 1) (upd (setF (nmL l)) o.name.data.toList (some (.bool true)))) : RSt w w1 es (l ++ [o]) b2 := by
  have e : setF (nmL l) o.name.data.toList = none := by unfold setF; rw [if_neg hn]
  rw [e] at hm
  refine ⟨below_grown h.bel hg h.bel.size h.b2w, h.m1.kept hg (by simpa using h.ne), ?_, h.ne, h.b2w⟩
  have e2 : nmL (l ++ [o]) = nmL l ++ [o.name.data.toList] := by unfold nmL; rw [List.map_append]; rfl
  rw [List.length_append, List.length_singleton, e2]
  exact hm.congr (setF_snoc _ _)
theorem right_lit' (o : Off) (w : World) : Calls Tryd.prog 14 #[.agg #[.string o.name, .int .i64 o.do_, .int .i64 o.undo, .int .i64 o.due, .int .i64 o.part, .int .i64 o.amend]] w fun e w' => e = .returned (.bool (rightB o)) ∧ Below w.heap.size w w' := right_any o w
theorem name_size' {o : Off} (h : rightB o = true) : o.name.size ≤ 100 := by
  simp only [rightB, nameB, Bool.and_eq_true, decide_eq_true_eq, nats_length] at h
  exact h.1.1.2.1.1.1.2
theorem take_len (l : List Off) (k : Nat) (h : k ≤ l.length) : (l.take k).length ≤ l.length := by rw [List.length_take]; omega
set_option maxHeartbeats 8000000 in
set_option maxRecDepth 100000 in
theorem rightAll_any (v : Value) (l : List Off) (g cap : Nat) (es : List (List UInt8)) (w : World) (hv : OReads w w.heap.size v l) (hl : l.length ≤ 4294967296) (hg : g < w.heap.size) (he : EReads w g es) (hel : es.length ≤ 100) (hes : ∀ e ∈ es, e.length ≤ 100) (hnd : es.Nodup) :
    Calls Tryd.prog 13 #[v, .agg #[.slice none 0 0, .slice (some ⟨g, 0, none⟩) es.length cap, .slice none 0 0, .slice none 0 0]] w fun e w' => e = .returned (.bool (rightP l es)) ∧ Below w.heap.size w w' := by
  obtain ⟨A, cap2, rfl, hr⟩ := hv
  have HR := Lib.hid hr
  have HE := Lib.hid he
  have HES := Lib.hid hes
  have HND := Lib.hid hnd
  clear hr he hes hnd
  have hmm := @run_makeMap Tryd.prog
  have S0 : Hid (MapIs Tryd.prog 9 ((w.alloc (.cells #[.slice none 0 0, .slice (some ⟨g, 0, none⟩) es.length cap, .slice none 0 0, .slice none 0 0] 50)).alloc (.map #[] 0)) (w.heap.size + 1) 0 (setF [])) := by
    have := MapIs.made Tryd.prog 9 (w.alloc (.cells #[.slice none 0 0, .slice (some ⟨g, 0, none⟩) es.length cap, .slice none 0 0, .slice none 0 0] 50))
    rw [asz] at this
    exact this.congr (fun s => rfl)
  go_enter Tryd.func13, Tryd.ntmps13
  go_wp2_with fail
  go_loopw [15] (fun i wr => ∃ k : Nat, k ≤ es.length ∧ i = .int .i64 k ∧ Hid (Below w.heap.size w wr) ∧ Hid (MapIs Tryd.prog 9 wr (w.heap.size + 1) k (setF (es.take k)))) (fun i _ => es.length - (intOf i).toNat)
  case atStart => exact ⟨0, by omega, rfl, ((Below.refl _ _).alloc (Nat.le_refl _) _).alloc (by simp) _, S0⟩
  case round =>
    clear S0
    obtain ⟨k, hk, rfl, HB, HM⟩ := hrel
    by_cases hlt : k < es.length
    · have t1 : decide ((k : Int) < (es.length : Int)) = true := decide_eq_true (by omega)
      obtain ⟨e0, e1, e2, e3, e4⟩ := HE.out k hlt
      obtain ⟨x, hx⟩ : ∃ x, x = str es[k] := ⟨_, rfl⟩
      rw [← hx] at e0
      have c0 := (HB.out.cell (p := ⟨g, k * 5, none⟩) hg).trans e0
      have c1 := (HB.out.cell (p := ⟨g, k * 5 + 1, none⟩) hg).trans e1
      have c2 := (HB.out.cell (p := ⟨g, k * 5 + 2, none⟩) hg).trans e2
      have c3 := (HB.out.cell (p := ⟨g, k * 5 + 3, none⟩) hg).trans e3
      have c4 := (HB.out.cell (p := ⟨g, k * 5 + 4, none⟩) hg).trans e4
      have HXL : Hid (x.data.toList = es[k]) := by rw [hx, data_str]; rfl
      have hxs : x.size ≤ 100 := by
        have := HES.out es[k] (List.getElem_mem hlt)
        rw [← HXL.out, data_length] at this; exact this
      have HN : Hid (setF (es.take k) x.data.toList = none) := by
        unfold Hid setF
        rw [if_neg]
        rw [HXL.out]
        intro hm
        have h2 := HND.out
        rw [← List.take_append_drop k es, List.drop_eq_getElem_cons hlt] at h2
        exact (List.nodup_append.1 h2).2.2 _ hm _ (List.mem_cons_self ..) rfl
      have HK : Hid (es.take k ++ [x.data.toList] = es.take (k + 1)) := by rw [HXL.out, List.take_succ_eq_append_getElem hlt]; rfl
      have hbs := HB.out.size
      clear hx e0 e1 e2 e3 e4
      go_wp2_with (refine wpList_put_is _ rfl _ _ _ 55 (.inl rfl) 4 Tryd.underlying9 Tryd.underlying55 (w.heap.size + 1) k _ rfl (HM.out.alloc _) (by unfold maxLen; omega) x _ rfl rfl (by unfold maxLen; omega) ?_; intro w3 hM3 hg3; have B3 := Lib.hid (below_grown (HB.out.alloc hbs _) hg3 (by simp; omega) (by omega)); have M3 := Lib.hid hM3; clear hM3 hg3)
      go_roundw
      case rel =>
        refine ⟨k + 1, by omega, by go_num, B3, ?_⟩
        have h3 := M3.out
        rw [HN.out] at h3
        rw [← HK.out]
        exact h3.congr (setF_snoc _ _)
      case measure => simp [intOf]; omega
    · obtain rfl : k = es.length := by omega
      have t1 : decide ((es.length : Int) < (es.length : Int)) = false := decide_eq_false (by omega)
      have S1 : Hid (RSt w (wr.alloc (.map #[] 0)) es [] wr.heap.size) := by
        refine ⟨HB.out.alloc HB.out.size _, ?_, (MapIs.made Tryd.prog 9 wr).congr (fun s => rfl), by have := HM.out.lt; omega, HB.out.size⟩
        have := HM.out.alloc (.map #[] 0)
        rw [List.take_length] at this
        exact this
      obtain ⟨b2, hb2⟩ : ∃ b2, b2 = wr.heap.size := ⟨_, rfl⟩
      clear HB HM
      go_wp2_with fail
      rw [← hb2] at S1 ⊢
      obtain ⟨W0, rfl⟩ : ∃ W0 : World, W0 = wr := ⟨_, rfl⟩
      have HB2 := Lib.hid hb2
      clear hb2 hmm
      go_loopw [26] (fun i wq => ∃ k : Nat, k ≤ l.length ∧ i = .int .i64 k ∧ Hid (rightG l es [] = rightG (l.drop k) es (nmL (l.take k))) ∧ Hid (RSt w wq es (l.take k) b2)) (fun i _ => l.length - (intOf i).toNat)
      case atStart => exact ⟨0, by omega, rfl, rfl, S1⟩
      case round =>
        clear S1
        obtain ⟨k, hk, rfl, HG, HS⟩ := hrel
        obtain ⟨W, rfl⟩ : ∃ W : World, W = wr := ⟨_, rfl⟩
        by_cases hlt : k < l.length
        · have t2 : decide ((k : Int) < (l.length : Int)) = true := decide_eq_true (by omega)
          obtain ⟨g2, off, rfl, hg2, hc⟩ := HR.out (by omega)
          have hcw : ∀ (j : Nat) (u : Value), l[k].cells[j]? = some u → W.cell? ⟨g2, off + k * 6 + j, none⟩ = some u := fun j u hu => (HS.out.bel.cell (p := ⟨g2, off + k * 6 + j, none⟩) hg2).trans (hc k hlt j u hu)
          obtain ⟨o, ho⟩ : ∃ o, o = l[k] := ⟨_, rfl⟩
          rw [← ho] at hcw
          have c0 : W.cell? ⟨g2, off + k * 6, none⟩ = some (.string o.name) := hcw 0 _ rfl
          have c1 : W.cell? ⟨g2, off + k * 6 + 1, none⟩ = some (.int .i64 o.do_) := hcw 1 _ rfl
          have c2 : W.cell? ⟨g2, off + k * 6 + 2, none⟩ = some (.int .i64 o.undo) := hcw 2 _ rfl
          have c3 : W.cell? ⟨g2, off + k * 6 + 3, none⟩ = some (.int .i64 o.due) := hcw 3 _ rfl
          have c4 : W.cell? ⟨g2, off + k * 6 + 4, none⟩ = some (.int .i64 o.part) := hcw 4 _ rfl
          have c5 : W.cell? ⟨g2, off + k * 6 + 5, none⟩ = some (.int .i64 o.amend) := hcw 5 _ rfl
          have HST := Lib.hid (HG.out.trans (rightG_step l es k hlt))
          rw [← ho] at HST
          have HTK : Hid (l.take k ++ [o] = l.take (k + 1)) := by rw [ho, List.take_succ_eq_append_getElem hlt]; rfl
          clear ho hcw hc
          have HBX : Hid (Hs (W.alloc (.cells #[.string o.name, .int .i64 o.do_, .int .i64 o.undo, .int .i64 o.due, .int .i64 o.part, .int .i64 o.amend] 32)) W.heap.size 32 o.cells) := Hs.new W 32 o.cells
          have HS1 := Lib.hid (HS.out.below ((Below.refl W.heap.size W).alloc (Nat.le_refl _) (.cells #[.string o.name, .int .i64 o.do_, .int .i64 o.undo, .int .i64 o.due, .int .i64 o.part, .int .i64 o.amend] 32)))
          have hlk := (take_len l k hk)
          cases hro : rightB o with
          | false =>
            have HB : Hid (rightP l es = false) := by unfold Hid rightP; rw [HST.out, hro]; rfl
            go_wp2_with (go_at_call 14; refine (right_lit' _ _).mono ?_; rintro e w2 ⟨rfl, hb2⟩; have S2 := Lib.hid (HS1.out.below hb2))
            go_ret
            exact ⟨by rw [HB.out]; rfl, S2.out.bel⟩
          | true =>
            have hns := (name_size' hro)
            have hns2 : o.name.size ≤ maxLen := by unfold maxLen; omega
            have HNS := Lib.hid hns2
            clear hns2
            cases hme : decide (o.name.data.toList ∈ es) with
            | false =>
              have HB : Hid (rightP l es = false) := by unfold Hid rightP; rw [HST.out, hro, hme]; rfl
              have HME := Lib.hid hme
              clear hme
              go_wp2_with (go_at_call 14; refine (right_lit' _ _).mono ?_; rintro e w2 ⟨rfl, hb2⟩; have S2 := Lib.hid (HS1.out.below hb2); have q0 : w2.cell? ⟨W.heap.size, 0, none⟩ = some (.string o.name) := (HBX.out.below hb2 (by simp)).cell 0; have hl1 := bool_look S2.out.m1 HNS.out; rw [HME.out] at hl1)
              go_ret
              exact ⟨by rw [HB.out]; rfl, S2.out.bel⟩
            | true =>
              have HME := Lib.hid hme
              clear hme
              cases hms : decide (o.name.data.toList ∈ nmL (l.take k)) with
              | true =>
                have HB : Hid (rightP l es = false) := by unfold Hid rightP; rw [HST.out, hro, HME.out, hms]; rfl
                have HMS := Lib.hid hms
                clear hms
                go_wp2_with (go_at_call 14; refine (right_lit' _ _).mono ?_; rintro e w2 ⟨rfl, hb2⟩; have S2 := Lib.hid (HS1.out.below hb2); have q0 : w2.cell? ⟨W.heap.size, 0, none⟩ = some (.string o.name) := (HBX.out.below hb2 (by simp)).cell 0; have hl1 := bool_look S2.out.m1 HNS.out; rw [HME.out] at hl1; have hl2 := bool_look S2.out.m2 HNS.out; rw [HMS.out] at hl2)
                go_ret
                exact ⟨by rw [HB.out]; rfl, S2.out.bel⟩
              | false =>
                have HMS := Lib.hid hms
                have HN : Hid (rightG l es [] = rightG (l.drop (k + 1)) es (nmL (l.take (k + 1)))) := by rw [HST.out, hro, HME.out, hms]; simp [Hid]
                clear hms
                go_wp2_with (first | (go_at_call 14; refine (right_lit' _ _).mono ?_; rintro e w2 ⟨rfl, hb2⟩; have S2 := Lib.hid (HS1.out.below hb2); have q0 : w2.cell? ⟨W.heap.size, 0, none⟩ = some (.string o.name) := (HBX.out.below hb2 (by simp)).cell 0; have hl1 := bool_look S2.out.m1 HNS.out; rw [HME.out] at hl1; have hl2 := bool_look S2.out.m2 HNS.out; rw [HMS.out] at hl2) | (refine wpList_put_is _ rfl _ _ _ 55 (.inl rfl) 4 Tryd.underlying9 Tryd.underlying55 b2 _ _ rfl S2.out.m2 (by unfold maxLen; omega) o.name _ rfl rfl HNS.out ?_; intro w3 hM3 hg3; have S3 := Lib.hid (S2.out.put (of_decide_eq_false HMS.out) hg3 hM3); clear hM3 hg3))
                go_roundw
                case rel => exact ⟨k + 1, by omega, by go_num, HN, by have := S3.out; rw [HTK.out] at this; exact this⟩
                case measure => simp [intOf]; omega
        · obtain rfl : k = l.length := by omega
          have t2 : decide ((l.length : Int) < (l.length : Int)) = false := decide_eq_false (by omega)
          have e1 : rightP l es = decide (l.length = es.length) := by
            unfold rightP; rw [HG.out, List.drop_length]; rfl
          have hlen1 := fun ty => HS.out.m1.len Tryd.underlying55 ty
          have hlen2 : ∀ ty, (Builtin.len_ #[55] ty #[.map (some b2)]).run Tryd.prog W = .ok (.int .i64 (l.length : Int)) W := fun ty => by
            have := HS.out.m2.len Tryd.underlying55 ty
            rw [List.take_length] at this; exact this
          by_cases hq : l.length = es.length
          · have t3 : ((l.length : Int) == (es.length : Int)) = true := beq_iff_eq.2 (by omega)
            have HF : Hid (rightP l es = true) := by rw [e1, decide_eq_true hq]; rfl
            clear e1 hq
            go_wp2_with fail
            go_ret
            exact ⟨by rw [HF.out]; rfl, HS.out.bel⟩
          · have t3 : ((l.length : Int) == (es.length : Int)) = false := beq_eq_false_iff_ne.2 (by omega)
            have HF : Hid (rightP l es = false) := by rw [e1, decide_eq_false hq]; rfl
            clear e1 hq
            go_wp2_with fail
            go_ret
            exact ⟨by rw [HF.out]; rfl, HS.out.bel⟩
end Go.Proofs.YtcjkamnpkmkapaaDoor
