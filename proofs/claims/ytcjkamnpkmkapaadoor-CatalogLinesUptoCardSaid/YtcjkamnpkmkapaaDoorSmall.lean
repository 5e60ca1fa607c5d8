import Derived.Test.YtcjkamnpkmkapaaDoorSmall0
namespace Go.Proofs.YtcjkamnpkmkapaaDoor
open Go.RowKit
theorem run_loadOff (w : World) (g off : Nat) (o : Off) (h : ∀ (j : Nat) (u : Value), o.cells[j]? = some u → w.cell? ⟨g, off + j, none⟩ = some u) : (loadVar 32 ⟨g, off, none⟩).run Tryd.prog w = .ok (.agg o.cells) w := by
  have hl : (loadCells ⟨g, off, none⟩ o.cells.toList.length).run Tryd.prog w = .ok o.cells.toList.toArray w :=
    run_loadCells_list (P := Tryd.prog) w ⟨g, off, none⟩ o.cells.toList (fun j v hv => by
      rw [Addr.add_lit]; exact h j v (by simpa using hv))
  cases hq : Tryd.prog.info? 32 with
  | none => have := info32; simp [hq] at this
  | some i =>
    have hs : i.size = 6 := by have := info32; simpa [hq] using this
    have hagg : (isAgg 32).run Tryd.prog w = .ok true w := by
      unfold isAgg
      rw [Sem.run_bind, run_underlying Tryd.underlying32 w]
      rfl
    have hl2 : (loadCells ⟨g, off, none⟩ 6).run Tryd.prog w = .ok o.cells w := by
      have e : o.cells.toList.length = 6 := rfl
      rw [e, Array.toArray_toList] at hl
      exact hl
    simp [loadVar, Sem.run_bind, hagg, sizeOf, typeInfo, hq, hs, hl2]
theorem quiet_loadOff {a : Act} {o : Oper} {C : World → Prop} {K : Act → Prop} (x : Operand) (ho : o.op = .load 32 x)
    (g off : Nat) (hx : a.eval x = .pointer (some ⟨g, off, none⟩)) (q : Off) (hg : ∀ w, C w → ∀ (j : Nat) (u : Value), q.cells[j]? = some u → w.cell? ⟨g, off + j, none⟩ = some u)
    (h : K (a.put o.dst (.agg q.cells))) : o.quiet Tryd.prog a C K := by
  refine ⟨.agg q.cells, fun w hw => ?_, h⟩
  unfold Oper.quietAt execOp
  simp only [ho, hx, Instr.loadAt, Instr.sureAddr, Sem.run_bind, Sem.run_pure, Result.andThen_ok, run_loadOff w g off q (hg w hw)]
  exact ⟨rfl, rfl⟩
theorem grown_cell {W : World} {g off : Nat} {q : Off} (hg : g < W.heap.size) (h : ∀ (j : Nat) (u : Value), q.cells[j]? = some u → W.cell? ⟨g, off + j, none⟩ = some u) : ∀ w, (∃ p : Regrown, w = Sort.grow (redrawn W p.d) p.os) → ∀ (j : Nat) (u : Value), q.cells[j]? = some u → w.cell? ⟨g, off + j, none⟩ = some u := by
  rintro w ⟨p, rfl⟩ j u hu
  exact ((below_regrown W p.d p.os).cell (p := ⟨g, off + j, none⟩) hg).trans (h j u hu)
theorem below_then {w a b : World} (h : Below w.heap.size w a) (k : Below a.heap.size a b) : Below w.heap.size w b := h.trans (k.mono h.size)
/-- the parsed example: its cells -/
def Two (w : World) (g : Nat) : Prop := g < w.heap.size ∧ (∀ (j : Nat) (u : Value), oPay.cells[j]? = some u → w.cell? ⟨g, 0 + j, none⟩ = some u) ∧ (∀ (j : Nat) (u : Value), oMail.cells[j]? = some u → w.cell? ⟨g, 6 + j, none⟩ = some u)
theorem Two.below {w w' : World} {g : Nat} (h : Two w g) (hb : Below w.heap.size w w') : Two w' g :=
  ⟨Nat.lt_of_lt_of_le h.1 hb.size, fun j u hu => (hb.cell (p := ⟨g, 0 + j, none⟩) h.1).trans (h.2.1 j u hu), fun j u hu => (hb.cell (p := ⟨g, 6 + j, none⟩) h.1).trans (h.2.2 j u hu)⟩
theorem Two.reads {w : World} {g cap : Nat} (h : Two w g) : OReads w w.heap.size (.slice (some ⟨g, 0, none⟩) 2 cap) [oPay, oMail] := by
  refine ⟨_, cap, rfl, fun _ => ⟨g, 0, rfl, h.1, fun i hi j u hu => ?_⟩⟩
  match i, hi, hu with
  | 0, _, hu => have := h.2.1 j u hu; simpa using this
  | 1, _, hu => have := h.2.2 j u hu; simpa using this
theorem Two.read1 {w : World} {g cap : Nat} (h : Two w g) : OReads w w.heap.size (.slice (some ⟨g, 0, none⟩) 1 cap) [oPay] := by
  refine ⟨_, cap, rfl, fun _ => ⟨g, 0, rfl, h.1, fun i hi j u hu => ?_⟩⟩
  match i, hi, hu with
  | 0, _, hu => have := h.2.1 j u hu; simpa using this
theorem two_of {w w' : World} {v : Value} (h : w'.ownsRow w.heap.size 32 6 v 2 (ocells [oPay, oMail])) : ∃ g cap, v = .slice (some ⟨g, 0, none⟩) 2 cap ∧ 2 ≤ cap ∧ Two w' g := by
  obtain ⟨g, cap, rfl, hg, hc⟩ := own_form h (by decide)
  have hcap : 2 ≤ cap := by
    rcases h.2 with ⟨e, _⟩ | ⟨g', cap', cur, e, _, _, hn, _⟩
    · cases e
    · injection e with _ _ e; omega
  refine ⟨g, cap, rfl, hcap, hg, fun j u hu => ?_, fun j u hu => ?_⟩
  · rw [Nat.zero_add]
    have := ocells_at [oPay, oMail] 0 (by decide) j u hu
    rw [Nat.zero_mul, Nat.zero_add] at this
    exact hc _ _ this
  · exact hc _ _ (ocells_at [oPay, oMail] 1 (by decide) j u hu)
theorem ereads2 (W : World) : EReads (W.alloc (.cells #[.string ⟨#[109, 97, 105, 108]⟩, .slice none 0 0, .int .i64 0, .string ⟨#[]⟩, .slice none 0 0, .string ⟨#[112, 97, 121]⟩, .slice none 0 0, .int .i64 0, .string ⟨#[]⟩, .slice none 0 0] 44)) W.heap.size [eMail, ePay] := by
  intro i h
  match i, h with
  | 0, _ => exact ⟨(Hs.new W 44 _).cell 0, (Hs.new W 44 _).cell 1, (Hs.new W 44 _).cell 2, (Hs.new W 44 _).cell 3, (Hs.new W 44 _).cell 4⟩
  | 1, _ => exact ⟨(Hs.new W 44 _).cell 5, (Hs.new W 44 _).cell 6, (Hs.new W 44 _).cell 7, (Hs.new W 44 _).cell 8, (Hs.new W 44 _).cell 9⟩
theorem ereads1 (W : World) : EReads (W.alloc (.cells #[.string ⟨#[109, 97, 105, 108]⟩, .slice none 0 0, .int .i64 0, .string ⟨#[]⟩, .slice none 0 0] 44)) W.heap.size [eMail] := by
  intro i h
  match i, h with
  | 0, _ => exact ⟨(Hs.new W 44 _).cell 0, (Hs.new W 44 _).cell 1, (Hs.new W 44 _).cell 2, (Hs.new W 44 _).cell 3, (Hs.new W 44 _).cell 4⟩
theorem Two.alloc {w : World} {g : Nat} (h : Two w g) (o : Obj) : Two (w.alloc o) g := h.below ((Below.refl _ _).alloc (Nat.le_refl _) _)
theorem quiet_mail {a : Act} {o : Oper} {C : World → Prop} {K : Act → Prop} (x : Operand) (ho : o.op = .load 32 x) (g off : Nat) (hx : a.eval x = .pointer (some ⟨g, off, none⟩)) (hg : ∀ w, C w → ∀ (j : Nat) (u : Value), oMail.cells[j]? = some u → w.cell? ⟨g, off + j, none⟩ = some u)
    (h : K (a.put o.dst (.agg #[.string ⟨#[109, 97, 105, 108]⟩, .int .i64 (-1), .int .i64 (-1), .int .i64 0, .int .i64 5, .int .i64 (-1)]))) : o.quiet Tryd.prog a C K := quiet_loadOff x ho g off hx oMail hg h
theorem quiet_pay {a : Act} {o : Oper} {C : World → Prop} {K : Act → Prop} (x : Operand) (ho : o.op = .load 32 x) (g off : Nat) (hx : a.eval x = .pointer (some ⟨g, off, none⟩)) (hg : ∀ w, C w → ∀ (j : Nat) (u : Value), oPay.cells[j]? = some u → w.cell? ⟨g, off + j, none⟩ = some u)
    (h : K (a.put o.dst (.agg #[.string ⟨#[112, 97, 121]⟩, .int .i64 1, .int .i64 2, .int .i64 50, .int .i64 (-1), .int .i64 (-1)]))) : o.quiet Tryd.prog a C K := quiet_loadOff x ho g off hx oPay hg h
set_option maxRecDepth 100000 in
set_option maxHeartbeats 4000000 in
theorem small_any (w : World) (ht : Tab w) : Calls Tryd.prog 6 #[] w fun e w' => e = .returned (.bool true) ∧ Below w.heap.size w w' := by
  have HT := Lib.hid ht
  clear ht
  go_enter Tryd.func6, Tryd.ntmps6
  go_wp2_with fail
  refine (parse_c0 w).mono ?_
  rintro e w1 ⟨v1, rfl, own1, b1⟩
  obtain ⟨g, cap, rfl, hcap, T1⟩ := two_of own1
  have hcap1 : 1 ≤ cap := by omega
  have hcap2 : (1 : Int) ≤ (cap : Int) := by omega
  have T := Lib.hid T1
  clear T1 own1
  go_wp2_with fail
  refine (parse_c1 w1).mono ?_
  rintro e w2 ⟨v2, rfl, b2⟩
  have d2 := below_then b1 b2
  have T2 := Lib.hid (T.out.below b2)
  clear T b1 b2
  go_wp2_with fail
  refine (parse_c2 w2).mono ?_
  rintro e w3 ⟨v3, rfl, b3⟩
  have d3 := below_then d2 b3
  have T3 := Lib.hid (T2.out.below b3)
  clear T2 d2 b3
  go_wp2_with fail
  refine (parse_c3 w3).mono ?_
  rintro e w4 ⟨v4, rfl, b4⟩
  have d4 := Lib.hid (below_then d3 b4)
  have T4 := Lib.hid (T3.out.below b4)
  clear T3 d3 b4
  have hgl := T4.out.1
  have c0 : w4.cell? ⟨g, 0, none⟩ = some (.string ⟨#[112, 97, 121]⟩) := T4.out.2.1 0 _ rfl
  have c1 : w4.cell? ⟨g, 1, none⟩ = some (.int .i64 1) := T4.out.2.1 1 _ rfl
  have c2 : w4.cell? ⟨g, 2, none⟩ = some (.int .i64 2) := T4.out.2.1 2 _ rfl
  have c3 : w4.cell? ⟨g, 3, none⟩ = some (.int .i64 50) := T4.out.2.1 3 _ rfl
  have c4 : w4.cell? ⟨g, 4, none⟩ = some (.int .i64 (-1)) := T4.out.2.1 4 _ rfl
  have c5 : w4.cell? ⟨g, 5, none⟩ = some (.int .i64 (-1)) := T4.out.2.1 5 _ rfl
  have m0 : w4.cell? ⟨g, 6, none⟩ = some (.string ⟨#[109, 97, 105, 108]⟩) := T4.out.2.2 0 _ rfl
  have m1 : w4.cell? ⟨g, 7, none⟩ = some (.int .i64 (-1)) := T4.out.2.2 1 _ rfl
  have m2 : w4.cell? ⟨g, 8, none⟩ = some (.int .i64 (-1)) := T4.out.2.2 2 _ rfl
  have m3 : w4.cell? ⟨g, 9, none⟩ = some (.int .i64 0) := T4.out.2.2 3 _ rfl
  have m4 : w4.cell? ⟨g, 10, none⟩ = some (.int .i64 5) := T4.out.2.2 4 _ rfl
  have m5 : w4.cell? ⟨g, 11, none⟩ = some (.int .i64 (-1)) := T4.out.2.2 5 _ rfl
  have q1 : ∀ W, (binOp .eql 32 (.agg #[.string ⟨#[112, 97, 121]⟩, .int .i64 1, .int .i64 2, .int .i64 50, .int .i64 (-1), .int .i64 (-1)]) (.agg #[.string ⟨#[112, 97, 121]⟩, .int .i64 1, .int .i64 2, .int .i64 50, .int .i64 (-1), .int .i64 (-1)])).run Tryd.prog W = .ok (.bool true) W := fun W => (eql_off oPay oPay W).trans (by rw [(offB_iff _ _).2 rfl])
  have q2 : ∀ W, (binOp .eql 32 (.agg #[.string ⟨#[109, 97, 105, 108]⟩, .int .i64 (-1), .int .i64 (-1), .int .i64 0, .int .i64 5, .int .i64 (-1)]) (.agg #[.string ⟨#[109, 97, 105, 108]⟩, .int .i64 (-1), .int .i64 (-1), .int .i64 0, .int .i64 5, .int .i64 (-1)])).run Tryd.prog W = .ok (.bool true) W := fun W => (eql_off oMail oMail W).trans (by rw [(offB_iff _ _).2 rfl])
  go_upto_region 10 with (go_at_call 11; refine (find_c _ _ T4.out.reads).mono ?_; rintro e w5 ⟨rfl, b5⟩)
  clear c0 c1 c2 c3 c4 c5 m0 m1 m2 m3 m4 m5
  have b5' : Below w4.heap.size w4 (w5.alloc (.cells #[.string ⟨#[109, 97, 105, 108]⟩, .int .i64 (-1), .int .i64 (-1), .int .i64 0, .int .i64 5, .int .i64 (-1)] 32)) := b5.alloc b5.size _
  have d5 := Lib.hid (below_then d4.out b5')
  have T5 := Lib.hid (T4.out.below b5')
  have X5 : Hid (Hs (w5.alloc (.cells #[.string ⟨#[109, 97, 105, 108]⟩, .int .i64 (-1), .int .i64 (-1), .int .i64 0, .int .i64 5, .int .i64 (-1)] 32)) w5.heap.size 32 oMail.cells) := Hs.new w5 32 oMail.cells
  clear d4 T4 b5 b5'
  generalize w5.alloc (.cells #[.string ⟨#[109, 97, 105, 108]⟩, .int .i64 (-1), .int .i64 (-1), .int .i64 0, .int .i64 5, .int .i64 (-1)] 32) = x5 at *
  generalize w5.heap.size = B5 at *
  go_upto_region 11 with (first | (go_at_call 13; (with_reducible refine (right_c2 _ _ _ (T5.out.alloc _).reads (by simp) (ereads2 _)).mono ?_); rintro e w6 ⟨rfl, b6⟩; have b6' := below_then ((Below.refl x5.heap.size x5).alloc (Nat.le_refl _) _) b6; have T6 := Lib.hid (T5.out.below b6'); have X6 := Lib.hid (X5.out.below b6' X5.out.lt); have d6 := Lib.hid (below_then d5.out b6'); clear b6 b6') | (go_at_call 13; (with_reducible refine (right_c1 _ _ _ (T6.out.alloc _).reads (by simp) (ereads1 _)).mono ?_); rintro e w7 ⟨rfl, b7⟩; have b7' := below_then ((Below.refl w6.heap.size w6).alloc (Nat.le_refl _) _) b7; have T7 := Lib.hid (T6.out.below b7'); have X7 := Lib.hid (X6.out.below b7' X6.out.lt); have d7 := Lib.hid (below_then d6.out b7'); clear b7 b7'))
  clear T5 T6 X5 X6 d5 d6
  have HT7 := Lib.hid (HT.out.keep d7.out)
  have hpt : (payText.toList == [112, 97, 121, 32, 100, 111, 32, 49, 32, 117, 110, 100, 111, 32, 50, 32, 100, 117, 101, 32, 53, 48, 32, 112, 97, 114, 116, 32, 45, 32, 97, 109, 101, 110, 100, 32, 45, 10]) = true := by rw [ByteArray.toList_eq]; decide +kernel
  have hx7 : Hid (∀ (j : Nat) (u : Value), oMail.cells[j]? = some u → w7.cell? ⟨B5, 0 + j, none⟩ = some u) := fun j u hu => by rw [Nat.zero_add, X7.out.cell j]; exact hu
  try simp only [Act.put]
  refine wp_region_quiet_below (by kernel_rfl) (by kernel_rfl) ?_
  simp only [List.append]
  repeat (first
    | (go_big_quiet_want; refine quiet_mail _ rfl B5 0 rfl (grown_cell X7.out.lt hx7.out) ?_; go_frame; go_big_quiet_on)
    | (go_big_quiet_want; refine quiet_mail _ rfl g 6 rfl (grown_cell T7.out.1 T7.out.2.2) ?_; go_frame; go_big_quiet_on)
    | (go_big_quiet_want; refine quiet_pay _ rfl g 0 rfl (grown_cell T7.out.1 T7.out.2.1) ?_; go_frame; go_big_quiet_on)
    | go_big_quiet_step (first
        | (go_at_call 8; with_reducible exact Calls.regrown_of (write_c _ _ (T7.out.below (below_regrown _ _ _)).read1 (HT7.out.keep (below_regrown _ _ _))))
        | (go_at_call 12; with_reducible exact Calls.regrown_of (can_c1 _))
        | (go_at_call 12; with_reducible exact Calls.regrown_of (can_c2 _))
        | (go_at_call 12; with_reducible exact Calls.regrown_of (can_c3 _))))
  refine wpQuiet_nil ?_
  intro _ hw'
  obtain ⟨⟨dq, osq⟩, hw''⟩ := hw'
  subst hw''
  go_wp2_with fail
  go_ret
  exact ⟨rfl, below_then d7.out (below_regrown _ _ _)⟩
end Go.Proofs.YtcjkamnpkmkapaaDoor
