import Derived.Test.YtmcjkciicbmdfaaDoorSha
import Derived.Lib.QuietBelow
import Derived.Maps.RangeWalk
namespace Go.Proofs.YtmcjkciicbmdfaaDoor
open Go.RowKit SumMath
theorem forIn_eq (d : Nat) (a b : List Nat) (w : World) : ∀ (n k : Nat), k + n = a.length → a.length = b.length →
    (forIn (List.range' k n) ((none, ()) : Option Bool × Unit) fun i __s => do
            let __do_lift ← part 5 (u8s a) i
            let __do_lift_1 ← part 5 (u8s b) i
            let __do_lift ← Op.equalIn (d + 1) 5 __do_lift __do_lift_1
            if (!__do_lift) = true then pure (ForInStep.done (some false, ())) else pure (ForInStep.yield (none, ()))).run Tryd.prog w = .ok (if a.drop k = b.drop k then none else some false, ()) w := by
  intro n
  induction n with
  | zero =>
    intro k hk hl
    rw [List.drop_of_length_le (by omega), List.drop_of_length_le (by omega)]
    simp [Sem.run_pure]
  | succ n ih =>
    intro k hk hl
    have ea : a.drop k = a.getD k 0 :: a.drop (k + 1) := by
      rw [List.drop_eq_getElem_cons (by omega)]; simp [List.getD, show k < a.length by omega]
    have eb : b.drop k = b.getD k 0 :: b.drop (k + 1) := by
      rw [List.drop_eq_getElem_cons (by omega)]; simp [List.getD, show k < b.length by omega]
    have ihk := ih (k + 1) (by omega) hl
    rw [List.range'_succ, List.forIn_cons]
    simp only [Sem.run_bind, part5 a k (by omega) w, part5 b k (by omega) w, Result.andThen_ok, run_equalIn_int w d 5 .u8 .u8 _ _ Tryd.underlying5]
    by_cases h : a.getD k 0 = b.getD k 0
    · have hbq : (((a.getD k 0 : Nat) : Int) == ((b.getD k 0 : Nat) : Int)) = true := by rw [h]; simp
      rw [hbq]
      simp only [Bool.not_true, Bool.false_eq_true, if_false, Sem.run_pure, Result.andThen_ok]
      rw [ihk, ea, eb, h]
      simp
    · have hbq : (((a.getD k 0 : Nat) : Int) == ((b.getD k 0 : Nat) : Int)) = false := by rw [beq_eq_false_iff_ne]; omega
      rw [hbq]
      simp only [Bool.not_false, if_true, Sem.run_pure, Result.andThen_ok]
      rw [ea, eb, if_neg (by simp only [List.cons.injEq, not_and]; intro e; exact absurd e h)]
theorem run_equalIn_u8s (d : Nat) (a b : List Nat) (ha : a.length = 32) (hb : b.length = 32) (w : World) :
    (Op.equalIn (d + 2) 23 (.agg (u8s a)) (.agg (u8s b))).run Tryd.prog w = .ok (a == b) w := by
  unfold Op.equalIn
  simp only [Sem.run_bind, run_underlying Tryd.underlying23, Result.andThen_ok, Tryd.sizeOf5, Std.Legacy.Range.forIn_eq_forIn_range', Nat.mul_one]
  have e : (Std.Legacy.Range.size [:32]) = 32 := by decide
  rw [e, forIn_eq d a b w 32 0 (by omega) (by omega)]
  simp only [List.drop_zero, Result.andThen_ok]
  by_cases h : a = b
  · simp [h, Sem.run_pure]
  · have : (a == b) = false := by simp [h]
    simp [h, Sem.run_pure]
theorem run_eql_u8s (a b : List Nat) (ha : a.length = 32) (hb : b.length = 32) (w : World) : (binOp .eql 23 (.agg (u8s a)) (.agg (u8s b))).run Tryd.prog w = .ok (.bool (a == b)) w := by
  rw [run_eql_struct, run_equalIn_u8s 9998 a b ha hb w]; rfl
theorem run_neq_u8s (a b : List Nat) (ha : a.length = 32) (hb : b.length = 32) (w : World) : (binOp .neq 23 (.agg (u8s a)) (.agg (u8s b))).run Tryd.prog w = .ok (.bool (!(a == b))) w := by
  rw [run_neq_struct, run_equalIn_u8s 9998 a b ha hb w]; rfl
theorem noGuard23 : Tryd.prog.eqGuardType Tryd.prog.depth 23 = false := by kernel_rfl
def dE : List Nat := [227, 176, 196, 66, 152, 252, 28, 20, 154, 251, 244, 200, 153, 111, 185, 36, 39, 174, 65, 228, 100, 155, 147, 76, 164, 149, 153, 27, 120, 82, 184, 85]
def dA : List Nat := [186, 120, 22, 191, 143, 1, 207, 234, 65, 65, 64, 222, 93, 174, 34, 35, 176, 3, 97, 163, 150, 23, 122, 156, 180, 16, 255, 97, 242, 0, 21, 173]
set_option maxRecDepth 10000 in
theorem sha_e : shaS [] = dE := by decide +kernel
set_option maxRecDepth 10000 in
theorem sha_a : shaS [97, 98, 99] = dA := by decide +kernel
def hexLo : ByteArray := ⟨#[98, 97, 55, 56, 49, 54, 98, 102, 56, 102, 48, 49, 99, 102, 101, 97, 52, 49, 52, 49, 52, 48, 100, 101, 53, 100, 97, 101, 50, 50, 50, 51, 98, 48, 48, 51, 54, 49, 97, 51, 57, 54, 49, 55, 55, 97, 57, 99, 98, 52, 49, 48, 102, 102, 54, 49, 102, 50, 48, 48, 49, 53, 97, 100]⟩
def hexUp : ByteArray := ⟨#[66, 65, 55, 56, 49, 54, 66, 70, 56, 70, 48, 49, 67, 70, 69, 65, 52, 49, 52, 49, 52, 48, 68, 69, 53, 68, 65, 69, 50, 50, 50, 51, 66, 48, 48, 51, 54, 49, 65, 51, 57, 54, 49, 55, 55, 65, 57, 67, 66, 52, 49, 48, 70, 70, 54, 49, 70, 50, 48, 48, 49, 53, 65, 68]⟩
def hexE : ByteArray := ⟨#[101, 51, 98, 48, 99, 52, 52, 50, 57, 56, 102, 99, 49, 99, 49, 52, 57, 97, 102, 98, 102, 52, 99, 56, 57, 57, 54, 102, 98, 57, 50, 52, 50, 55, 97, 101, 52, 49, 101, 52, 54, 52, 57, 98, 57, 51, 52, 99, 97, 52, 57, 53, 57, 57, 49, 98, 55, 56, 53, 50, 98, 56, 53, 53]⟩
theorem quiet_load_row {P : Program} {a : Act} {o : Oper} {C : World → Prop} {K : Act → Prop} (ty : TypeId) (x : Operand) (ho : o.op = .load ty x)
    (g : Nat) (hx : a.eval x = .pointer (some ⟨g, 0, none⟩)) (t : TypeId) (cs : Array Value) (fr : Nat × Nat) (d : TypeDesc) (hg : ∀ w, C w → w.heap[g]? = some (.cells cs t fr))
    (hu : P.underlying ty = some d) (hd : (match d with | .struct _ | .array _ _ => true | _ => false) = true) (hi : (P.info? ty).map (·.size) = some cs.size)
    (h : K (a.put o.dst (.agg cs))) : o.quiet P a C K := by
  refine ⟨.agg cs, fun w hw => ?_, h⟩
  unfold Oper.quietAt execOp
  simp only [ho, hx, Instr.loadAt, Instr.sureAddr, Sem.run_bind, Sem.run_pure, Result.andThen_ok, run_loadVar_row w g t ty cs fr d (hg w hw) hu hd hi]
  exact ⟨rfl, rfl⟩
/-- a block of the world before the region, in every world of the class -/
theorem grown_block {W : World} {g : Nat} {o : Obj} (h : W.heap[g]? = some o) : ∀ w, (∃ p : Regrown, w = Sort.grow (redrawn W p.d) p.os) → w.heap[g]? = some o := by
  rintro w ⟨p, rfl⟩
  rw [(below_regrown W p.d p.os).block g (Array.getElem?_eq_some_iff.1 h).1]; exact h
theorem crc_c1 (w : World) : Calls Tryd.prog 11 #[.string ⟨#[49, 50, 51, 52, 53, 54, 55, 56, 57]⟩] w fun e w' => e = .returned (.int .u32 3808858755) ∧ Below w.heap.size w w' :=
  (crc_any ⟨#[49, 50, 51, 52, 53, 54, 55, 56, 57]⟩ (by decide) w).mono fun _ _ ⟨he, hb⟩ => ⟨he.trans (ret_int (by decide +kernel)), hb⟩
theorem crc_c2 (w : World) : Calls Tryd.prog 11 #[.string ⟨#[]⟩] w fun e w' => e = .returned (.int .u32 0) ∧ Below w.heap.size w w' :=
  (crc_any ⟨#[]⟩ (by decide) w).mono fun _ _ ⟨he, hb⟩ => ⟨he.trans (ret_int (by decide +kernel)), hb⟩
theorem rdV (s : ByteArray) (l : List Nat) (ok : Bool) (h1 : readOk (nats s) = ok) (h2 : (if ok then rd (nats s) 64 else List.replicate 32 0) = l) : Value.tuple #[.agg (readV (nats s)), .bool (readOk (nats s))] = .tuple #[.agg (u8s l), .bool ok] := by
  subst h1 h2
  rw [readV]
  split <;> rfl
theorem read_c1 (w : World) : Calls Tryd.prog 9 #[.string hexLo] w fun e w' => e = .returned (.tuple #[.agg (u8s dA), .bool true]) ∧ Below w.heap.size w w' :=
  (read_any hexLo (by decide) w).mono fun _ _ ⟨he, hb⟩ => ⟨he.trans (congrArg _ (rdV hexLo dA true (by decide +kernel) (by decide +kernel))), hb⟩
theorem read_c2 (w : World) : Calls Tryd.prog 9 #[.string hexUp] w fun e w' => e = .returned (.tuple #[.agg z32, .bool false]) ∧ Below w.heap.size w w' :=
  (read_any hexUp (by decide) w).mono fun _ _ ⟨he, hb⟩ => ⟨he.trans (congrArg _ (rdV hexUp _ false (by decide +kernel) rfl)), hb⟩
theorem sha_c1 (w : World) (hR : Rounds w) : Calls Tryd.prog 13 #[.string ⟨#[]⟩] w fun e w' => e = .returned (.agg (u8s dE)) ∧ Below w.heap.size w w' :=
  (sha_any ⟨#[]⟩ (by decide) w hR).mono fun _ _ ⟨he, hb⟩ => ⟨by rw [he, ← sha_e]; rfl, hb⟩
theorem sha_c2 (w : World) (hR : Rounds w) : Calls Tryd.prog 13 #[.string ⟨#[97, 98, 99]⟩] w fun e w' => e = .returned (.agg (u8s dA)) ∧ Below w.heap.size w w' :=
  (sha_any ⟨#[97, 98, 99]⟩ (by decide) w hR).mono fun _ _ ⟨he, hb⟩ => ⟨by rw [he, ← sha_a]; rfl, hb⟩
theorem getD_lt (l : List Nat) (h : ∀ x ∈ l, x < 256) (k : Nat) : l.getD k 0 < 256 := by
  by_cases hk : k < l.length
  · simp only [List.getD, List.getElem?_eq_getElem hk, Option.getD_some]; exact h _ (List.getElem_mem hk)
  · simp [List.getD, List.getElem?_eq_none (by omega : l.length ≤ k)]
theorem hex_c1 (w : World) : Calls Tryd.prog 15 #[.agg (u8s dE)] w fun e w' => e = .returned (.string hexE) ∧ Below w.heap.size w w' :=
  (hex_any dE rfl (getD_lt dE (by decide)) w).mono fun _ _ ⟨he, hb⟩ => ⟨he.trans (congrArg (fun s => Ending.returned (.string s)) (by rw [show ho dE 32 = nats hexE by decide +kernel]; decide +kernel)), hb⟩
theorem less_c1 (w : World) : Calls Tryd.prog 17 #[.agg (u8s dA), .agg (u8s dE)] w fun e w' => e = .returned (.bool true) ∧ Below w.heap.size w w' := less_any dA dE rfl rfl w
theorem less_c2 (w : World) : Calls Tryd.prog 17 #[.agg (u8s dE), .agg (u8s dA)] w fun e w' => e = .returned (.bool false) ∧ Below w.heap.size w w' := less_any dE dA rfl rfl w
theorem less_c3 (w : World) : Calls Tryd.prog 17 #[.agg (u8s dA), .agg (u8s dA)] w fun e w' => e = .returned (.bool false) ∧ Below w.heap.size w w' := less_any dA dA rfl rfl w
/-- a variable laid with its value -/
theorem lay_row (w1 : World) (z cs : Array Value) (t : TypeId) : ((w1.alloc (.cells z t)).setRow w1.heap.size cs).heap[w1.heap.size]? = some (.cells cs t) ∧ Below w1.heap.size w1 ((w1.alloc (.cells z t)).setRow w1.heap.size cs) :=
  ⟨setRow_heap _ _ _ _ _ _ (heap_alloc_new _ _), ((Below.refl _ _).alloc (Nat.le_refl _) _).trans ⟨rfl, rfl, rfl, by simp, fun k hk => setRow_other _ _ _ _ (by omega)⟩⟩
theorem below_then {w a b : World} (h : Below w.heap.size w a) (k : Below a.heap.size a b) : Below w.heap.size w b := h.trans (k.mono h.size)
theorem below_keeps {a b : World} (k : Below a.heap.size a b) {g : Nat} {o : Obj} (h : a.heap[g]? = some o) : b.heap[g]? = some o := by
  rw [k.block g (Array.getElem?_eq_some_iff.1 h).1]; exact h
set_option maxRecDepth 100000 in
set_option maxHeartbeats 1000000 in
theorem small_any (w : World) (hR : Rounds w) : Calls Tryd.prog 8 #[] w fun e w' => e = .returned (.bool true) ∧ Below w.heap.size w w' := by
  go_enter Tryd.func8, Tryd.ntmps8
  go_wp2_with fail
  refine (read_c1 w).mono ?_
  rintro e w1 ⟨rfl, b1⟩
  go_upto_region 2 with (refine wpList_store_row rfl 23 _ _ rfl w1.heap.size (u8s dA) rfl rfl 23 z32 (heap_alloc_new _ _) info23 rfl (u8s_one _) ?_)
  rw [z32_lit]
  obtain ⟨g1, c1⟩ := lay_row w1 z32 (u8s dA) 23
  have d1 := below_then b1 c1
  clear b1 c1
  generalize (w1.alloc (.cells z32 23)).setRow w1.heap.size (u8s dA) = x1 at *
  generalize w1.heap.size = B1 at *
  have G1 := Lib.hid g1
  clear g1
  go_wp2_with fail
  refine (read_c2 x1).mono ?_
  rintro e w2 ⟨rfl, b2⟩
  go_upto_region 3 with (refine wpList_store_row rfl 23 _ _ rfl w2.heap.size z32 rfl rfl 23 z32 (heap_alloc_new _ _) info23 rfl (u8s_one _) ?_)
  rw [z32_lit]
  have c2 := (lay_row w2 z32 z32 23).2
  have d2 := below_then d1 (below_then b2 c2)
  have G2 := Lib.hid (below_keeps (below_then b2 c2) G1.out)
  clear b2 c2 d1 G1
  generalize (w2.alloc (.cells z32 23)).setRow w2.heap.size z32 = x2 at *
  generalize w2.heap.size = B2 at *
  go_wp2_with fail
  refine (sha_c1 x2 (hR.mono d2)).mono ?_
  rintro e w3 ⟨rfl, b3⟩
  go_upto_region 4 with (refine wpList_store_row rfl 23 _ _ rfl w3.heap.size (u8s dE) rfl rfl 23 z32 (heap_alloc_new _ _) info23 rfl (u8s_one _) ?_)
  rw [z32_lit]
  obtain ⟨g3, c3⟩ := lay_row w3 z32 (u8s dE) 23
  have d3 := below_then d2 (below_then b3 c3)
  have G3 := Lib.hid (below_keeps (below_then b3 c3) G2.out)
  have E3 := Lib.hid g3
  clear b3 c3 d2 G2 g3
  generalize (w3.alloc (.cells z32 23)).setRow w3.heap.size (u8s dE) = x3 at *
  generalize w3.heap.size = B3 at *
  have hR3 := hR.mono d3
  have hg := noGuard23
  have heq : ∀ w, (Op.equalIn 10000 23 (.agg (u8s dA)) (.agg (u8s dA))).run Tryd.prog w = .ok true w := fun w => (run_equalIn_u8s 9998 dA dA rfl rfl w).trans (by rw [show (dA == dA) = true by decide +kernel])
  have hhx : (hexE.toList == [101, 51, 98, 48, 99, 52, 52, 50, 57, 56, 102, 99, 49, 99, 49, 52, 57, 97, 102, 98, 102, 52, 99, 56, 57, 57, 54, 102, 98, 57, 50, 52, 50, 55, 97, 101, 52, 49, 101, 52, 54, 52, 57, 98, 57, 51, 52, 99, 97, 52, 57, 53, 57, 57, 49, 98, 55, 56, 53, 50, 98, 56, 53, 53]) = true := by decide +kernel
  simp only [Act.put]
  refine wp_region_quiet_below (by kernel_rfl) (by kernel_rfl) ?_
  repeat (first
    | (go_big_quiet_want; refine quiet_load_row 23 _ rfl B1 rfl 23 (u8s dA) _ _ (grown_block G3.out) Tryd.underlying23 rfl info23 ?_; go_frame; go_big_quiet_on)
    | (go_big_quiet_want; refine quiet_load_row 23 _ rfl B3 rfl 23 (u8s dE) _ _ (grown_block E3.out) Tryd.underlying23 rfl info23 ?_; go_frame; go_big_quiet_on)
    | go_big_quiet_step (first
        | (go_at_call 11; with_reducible exact Calls.regrown_of (crc_c1 _))
        | (go_at_call 11; with_reducible exact Calls.regrown_of (crc_c2 _))
        | (go_at_call 13; with_reducible exact Calls.regrown_of (sha_c2 _ (hR3.mono (below_regrown _ _ _))))
        | (go_at_call 15; with_reducible exact Calls.regrown_of (hex_c1 _))
        | (go_at_call 17; with_reducible exact Calls.regrown_of (less_c1 _))
        | (go_at_call 17; with_reducible exact Calls.regrown_of (less_c2 _))
        | (go_at_call 17; with_reducible exact Calls.regrown_of (less_c3 _))))
  refine wpQuiet_nil ?_
  intro _ hw'
  obtain ⟨⟨dq, osq⟩, hw''⟩ := hw'
  subst hw''
  go_wp2_with fail
  go_ret
  exact ⟨rfl, below_then d3 (below_regrown _ _ _)⟩
end Go.Proofs.YtmcjkciicbmdfaaDoor
