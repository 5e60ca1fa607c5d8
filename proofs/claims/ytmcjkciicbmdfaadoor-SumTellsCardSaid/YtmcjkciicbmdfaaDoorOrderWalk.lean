import Derived.Test.YtmcjkciicbmdfaaDoorOrderMath
import Derived.Test.YtmcjkciicbmdfaaDoorCalm
namespace Go.Proofs.YtmcjkciicbmdfaaDoor
open Go.RowKit SumMath
theorem hex_b (d : List Nat) (h32 : d.length = 32) (hd : ∀ x ∈ d, x < 256) (w : World) :
    Calls Tryd.prog 15 #[.agg (u8s d)] w fun e w' => e = .returned (.string (strOf (ho d 32))) ∧ Below w.heap.size w w' := hex_any d h32 (getD_lt d hd) w
theorem hex_back (s : ByteArray) (h : readOk (nats s) = true) (w : World) :
    Calls Tryd.prog 15 #[.agg (u8s (rd (nats s) 64))] w fun e w' => e = .returned (.string s) ∧ Below w.heap.size w w' :=
  (hex_b _ (rd_length _ _) (rd_bytes _ h) w).mono fun _ _ ⟨he, hb⟩ => ⟨by rw [he, hex_read _ h, strOf_nats], hb⟩
theorem read_back (d : List Nat) (h32 : d.length = 32) (hd : ∀ x ∈ d, x < 256) (w : World) :
    Calls Tryd.prog 9 #[.string (strOf (ho d 32))] w fun e w' => e = .returned (.tuple #[.agg (u8s d), .bool true]) ∧ Below w.heap.size w w' := by
  have hn := nats_strOf (ho d 32) (ho_bytes d hd)
  have hs : (strOf (ho d 32)).size ≤ maxLen := by rw [strOf_size, ho_length]; decide
  refine (read_any _ hs w).mono fun _ _ ⟨he, hb⟩ => ⟨?_, hb⟩
  rw [he]
  refine congrArg _ (rdV _ d true (by rw [hn]; exact read_hex_ok d hd) (by rw [hn]; exact read_hex d h32 hd))
theorem eq32 (d : List Nat) (h32 : d.length = 32) (w : World) : (Op.equalIn 10000 23 (.agg (u8s d)) (.agg (u8s d))).run Tryd.prog w = .ok true w :=
  (run_equalIn_u8s 9998 d d h32 h32 w).trans (by simp)
set_option maxRecDepth 100000 in
set_option maxHeartbeats 2000000 in
theorem order_any (a : List Nat) (la : a.length = 32) (wa : ∀ x ∈ a, x < 256) (b : List Nat) (lb : b.length = 32) (wb : ∀ x ∈ b, x < 256) (c : List Nat) (lc : c.length = 32) (_wc : ∀ x ∈ c, x < 256) (s : ByteArray) (ws : s.size ≤ maxLen) (w : World) (hR : Rounds w) :
    Calls Tryd.prog 7 #[.agg (u8s a), .agg (u8s b), .agg (u8s c), .string s] w fun e w' => e = .returned (.bool true) ∧ Below w.heap.size w w' := by
  have La := Lib.hid la
  have Lb := Lib.hid lb
  have Lc := Lib.hid lc
  have Wa := Lib.hid wa
  have Wb := Lib.hid wb
  clear la lb lc wa wb _wc
  have h3 := heap3 w (.cells (u8s a) 23) (.cells (u8s b) 23) (.cells (u8s c) 23)
  have hb3 : Below w.heap.size w (((w.alloc (.cells (u8s a) 23)).alloc (.cells (u8s b) 23)).alloc (.cells (u8s c) 23)) := (((Below.refl _ _).alloc (Nat.le_refl _) _).alloc (by simp) _).alloc (by simp; omega) _
  have ga := Lib.hid h3.1
  have gb := Lib.hid h3.2.1
  have gc := Lib.hid h3.2.2.1
  clear h3
  have WS := Lib.hid ws
  clear ws
  go_enter Tryd.func7, Tryd.ntmps7
  go_wp2_with fail
  refine (small_any _ (hR.mono hb3)).mono ?_
  rintro e w1 ⟨rfl, b1⟩
  have d1 := below_then hb3 b1
  have ga := Lib.hid (below_keeps b1 ga.out)
  have gb := Lib.hid (below_keeps b1 gb.out)
  have gc := Lib.hid (below_keeps b1 gc.out)
  clear b1 hb3
  go_wp2_with (refine wpList_load_row rfl 23 _ rfl w.heap.size rfl 23 _ _ _ ga.out Tryd.underlying23 rfl (by rw [u8s_size, La.out]; exact info23) ?_)
  refine (hex_b a La.out Wa.out _).mono ?_
  rintro e w2 ⟨rfl, b2⟩
  go_wp2_with fail
  refine (read_back a La.out Wa.out _).mono ?_
  rintro e w3 ⟨rfl, b3⟩
  have d3 := below_then d1 (below_then b2 b3)
  have ga := Lib.hid (below_keeps (below_then b2 b3) ga.out)
  have gb := Lib.hid (below_keeps (below_then b2 b3) gb.out)
  have gc := Lib.hid (below_keeps (below_then b2 b3) gc.out)
  clear b2 b3 d1
  go_upto_region 3 with (refine wpList_store_row rfl 23 _ _ rfl w3.heap.size (u8s a) rfl rfl 23 z32 (heap_alloc_new _ _) (by rw [u8s_size, La.out]; exact info23) (by rw [u8s_size, La.out]; rfl) (u8s_one _) ?_)
  rw [z32_lit]
  obtain ⟨gd, c4⟩ := lay_row w3 z32 (u8s a) 23
  have d4 := below_then d3 c4
  have ga := Lib.hid (below_keeps c4 ga.out)
  have gb := Lib.hid (below_keeps c4 gb.out)
  have gc := Lib.hid (below_keeps c4 gc.out)
  have Gd := Lib.hid gd
  clear c4 d3 gd
  generalize (w3.alloc (.cells z32 23)).setRow w3.heap.size (u8s a) = w4 at *
  generalize w3.heap.size = B1 at *
  go_wp2_with fail
  refine (read_any s WS.out _).mono ?_
  rintro e w5 ⟨rfl, b5⟩
  have hrl : (readV (nats s)).size = 32 := by rw [readV]; split; rw [u8s_size, rd_length]; rfl
  have HRL := Lib.hid hrl
  clear hrl
  have hone : (readV (nats s)).all (·.oneCell') = true := by rw [readV]; split; exact u8s_one _; exact u8s_one _
  have HO := Lib.hid hone
  clear hone
  go_upto_region 4 with (refine wpList_store_row rfl 23 _ _ rfl w5.heap.size (readV (nats s)) rfl rfl 23 z32 (heap_alloc_new _ _) (by rw [HRL.out]; exact info23) (by rw [HRL.out]; rfl) HO.out ?_)
  rw [z32_lit]
  obtain ⟨ge, c5⟩ := lay_row w5 z32 (readV (nats s)) 23
  have d6 := below_then d4 (below_then b5 c5)
  have ga := Lib.hid (below_keeps (below_then b5 c5) ga.out)
  have gb := Lib.hid (below_keeps (below_then b5 c5) gb.out)
  have gc := Lib.hid (below_keeps (below_then b5 c5) gc.out)
  have Gd := Lib.hid (below_keeps (below_then b5 c5) Gd.out)
  have Ge := Lib.hid ge
  clear c5 b5 d4 ge
  generalize (w5.alloc (.cells z32 23)).setRow w5.heap.size (readV (nats s)) = w6 at *
  generalize w5.heap.size = B2 at *
  have hg := noGuard23
  have e1 := eq32 a La.out
  have q32 := fun w => run_equalIn_u8s 9998 (List.replicate 32 0) (List.replicate 32 0) rfl rfl w
  have hsz := strOf_size (ho a 32)
  rw [ho_length] at hsz
  go_cut [13, 56] (fun _ s56 wx => s56 = .bool false ∧ Below w6.heap.size w6 wx)
  case first =>
    cases hok : readOk (nats s)
    · have hrv : readV (nats s) = z32 := by rw [readV, hok]; rfl
      rw [hrv] at Ge
      have eqz : ∀ w, (Op.equalIn 10000 23 (.agg z32) (.agg #[.int .u8 0, .int .u8 0, .int .u8 0, .int .u8 0, .int .u8 0, .int .u8 0, .int .u8 0, .int .u8 0, .int .u8 0, .int .u8 0, .int .u8 0, .int .u8 0, .int .u8 0, .int .u8 0, .int .u8 0, .int .u8 0, .int .u8 0, .int .u8 0, .int .u8 0, .int .u8 0, .int .u8 0, .int .u8 0, .int .u8 0, .int .u8 0, .int .u8 0, .int .u8 0, .int .u8 0, .int .u8 0, .int .u8 0, .int .u8 0, .int .u8 0, .int .u8 0])).run Tryd.prog w = .ok true w := fun w => (run_equalIn_u8s 9998 (List.replicate 32 0) (List.replicate 32 0) rfl rfl w).trans (by simp)
      try simp only [Act.put]
      refine wp_region_calm ?_
      repeat (first
        | (go_big_quiet_want; refine quiet_load_row 23 _ rfl w.heap.size rfl 23 (u8s a) _ _ (grown_block ga.out) Tryd.underlying23 rfl (by rw [u8s_size, La.out]; exact info23) ?_; go_frame; go_big_quiet_on)
        | (go_big_quiet_want; refine quiet_load_row 23 _ rfl B1 rfl 23 (u8s a) _ _ (grown_block Gd.out) Tryd.underlying23 rfl (by rw [u8s_size, La.out]; exact info23) ?_; go_frame; go_big_quiet_on)
        | (go_big_quiet_want; refine quiet_load_row 23 _ rfl B2 rfl 23 z32 _ _ (grown_block Ge.out) Tryd.underlying23 rfl info23 ?_; go_frame; go_big_quiet_on)
        | go_big_quiet_step (first
          | (go_at_call 15; with_reducible exact Calls.regrown_of (hex_b _ La.out Wa.out _))))
      refine wpQuiet_nil ?_
      intro _ hw'
      obtain ⟨⟨dq, osq⟩, hw''⟩ := hw'
      subst hw''
      go_wp2_with fail
      go_meet
      exact ⟨rfl, below_regrown _ _ _⟩
    · have hrv : readV (nats s) = u8s (rd (nats s) 64) := by rw [readV, hok]; rfl
      rw [hrv] at Ge
      have Hok := Lib.hid hok
      clear hok
      try simp only [Act.put]
      refine wp_region_calm ?_
      repeat (first
        | (go_big_quiet_want; refine quiet_load_row 23 _ rfl w.heap.size rfl 23 (u8s a) _ _ (grown_block ga.out) Tryd.underlying23 rfl (by rw [u8s_size, La.out]; exact info23) ?_; go_frame; go_big_quiet_on)
        | (go_big_quiet_want; refine quiet_load_row 23 _ rfl B1 rfl 23 (u8s a) _ _ (grown_block Gd.out) Tryd.underlying23 rfl (by rw [u8s_size, La.out]; exact info23) ?_; go_frame; go_big_quiet_on)
        | (go_big_quiet_want; refine quiet_load_row 23 _ rfl B2 rfl 23 (u8s (rd (nats s) 64)) _ _ (grown_block Ge.out) Tryd.underlying23 rfl (by rw [u8s_size, rd_length]; exact info23) ?_; go_frame; go_big_quiet_on)
        | go_big_quiet_step (first
          | (go_at_call 15; with_reducible exact Calls.regrown_of (hex_b _ La.out Wa.out _))
          | (go_at_call 15; with_reducible exact Calls.regrown_of (hex_back _ Hok.out _))))
      refine wpQuiet_nil ?_
      intro _ hw'
      obtain ⟨⟨dq, osq⟩, hw''⟩ := hw'
      subst hw''
      go_wp2_with fail
      go_meet
      exact ⟨rfl, below_regrown _ _ _⟩
  case rest =>
    obtain ⟨rfl, bx⟩ := hcut
    clear e1 q32 hsz
    have d7 := below_then d6 bx
    have ga := Lib.hid (below_keeps bx ga.out)
    have gb := Lib.hid (below_keeps bx gb.out)
    have gc := Lib.hid (below_keeps bx gc.out)
    have hfin := Lib.hid (less_hex a b La.out Lb.out Wa.out Wb.out)
    clear bx d6 Ge Gd HO HRL
    go_upto_region 6 with (fail)
    have lab := Lib.hid (less_any a b La.out Lb.out)
    go_cut [97] (fun s97 wx => s97 = .bool false ∧ Below wc.heap.size wc wx)
    case first =>
      have lbc := less_any b c Lb.out Lc.out
      have lac := less_any a c La.out Lc.out
      have lba := less_any b a Lb.out La.out
      have tr := lessL_trans a b c
      have asy := lessL_asymm a b
      have tot := lessL_total a b (by rw [La.out, Lb.out])
      have lab := lab.out
      cases hp : lessL a b
      · cases hs : lessL b a
        · have hab := tot hp hs
          have heq : ∀ w, (Op.equalIn 10000 23 (.agg (u8s a)) (.agg (u8s b))).run Tryd.prog w = .ok true w := fun w => (run_equalIn_u8s 9998 a b La.out Lb.out w).trans (by rw [hab]; simp)
          rw [hp] at lab
          rw [hs] at lba
          have L1 := Lib.hid lab
          have L2 := Lib.hid lba
          clear tr asy tot lab lba lbc lac hp hs hab
          try simp only [Act.put]
          refine wp_region_calm ?_
          repeat (first
            | (go_big_quiet_want; refine quiet_load_row 23 _ rfl w.heap.size rfl 23 (u8s a) _ _ (grown_block ga.out) Tryd.underlying23 rfl (by rw [u8s_size, La.out]; exact info23) ?_; go_frame; go_big_quiet_on)
            | (go_big_quiet_want; refine quiet_load_row 23 _ rfl (w.heap.size + 1) rfl 23 (u8s b) _ _ (grown_block gb.out) Tryd.underlying23 rfl (by rw [u8s_size, Lb.out]; exact info23) ?_; go_frame; go_big_quiet_on)
            | (go_big_quiet_want; refine quiet_load_row 23 _ rfl (w.heap.size + 1 + 1) rfl 23 (u8s c) _ _ (grown_block gc.out) Tryd.underlying23 rfl (by rw [u8s_size, Lc.out]; exact info23) ?_; go_frame; go_big_quiet_on)
            | go_big_quiet_step (first
              | (go_at_call 17; with_reducible exact Calls.regrown_of (L1.out _))
              | (go_at_call 17; with_reducible exact Calls.regrown_of (L2.out _))))
          refine wpQuiet_nil ?_
          intro _ hw'
          obtain ⟨⟨dq, osq⟩, hw''⟩ := hw'
          subst hw''
          go_wp2_with fail
          go_meet
          exact ⟨rfl, below_regrown _ _ _⟩
        · rw [hp] at lab
          rw [hs] at lba
          have L1 := Lib.hid lab
          have L2 := Lib.hid lba
          clear tr asy tot lab lba lbc lac hp hs
          try simp only [Act.put]
          refine wp_region_calm ?_
          repeat (first
            | (go_big_quiet_want; refine quiet_load_row 23 _ rfl w.heap.size rfl 23 (u8s a) _ _ (grown_block ga.out) Tryd.underlying23 rfl (by rw [u8s_size, La.out]; exact info23) ?_; go_frame; go_big_quiet_on)
            | (go_big_quiet_want; refine quiet_load_row 23 _ rfl (w.heap.size + 1) rfl 23 (u8s b) _ _ (grown_block gb.out) Tryd.underlying23 rfl (by rw [u8s_size, Lb.out]; exact info23) ?_; go_frame; go_big_quiet_on)
            | (go_big_quiet_want; refine quiet_load_row 23 _ rfl (w.heap.size + 1 + 1) rfl 23 (u8s c) _ _ (grown_block gc.out) Tryd.underlying23 rfl (by rw [u8s_size, Lc.out]; exact info23) ?_; go_frame; go_big_quiet_on)
            | go_big_quiet_step (first
              | (go_at_call 17; with_reducible exact Calls.regrown_of (L1.out _))
              | (go_at_call 17; with_reducible exact Calls.regrown_of (L2.out _))))
          refine wpQuiet_nil ?_
          intro _ hw'
          obtain ⟨⟨dq, osq⟩, hw''⟩ := hw'
          subst hw''
          go_wp2_with fail
          go_meet
          exact ⟨rfl, below_regrown _ _ _⟩
      · have hs := asy hp
        cases hq : lessL b c
        · rw [hp] at lab
          rw [hs] at lba
          rw [hq] at lbc
          have L1 := Lib.hid lab
          have L2 := Lib.hid lba
          have L3 := Lib.hid lbc
          clear tr asy tot lab lba lbc lac hp hs hq
          try simp only [Act.put]
          refine wp_region_calm ?_
          repeat (first
            | (go_big_quiet_want; refine quiet_load_row 23 _ rfl w.heap.size rfl 23 (u8s a) _ _ (grown_block ga.out) Tryd.underlying23 rfl (by rw [u8s_size, La.out]; exact info23) ?_; go_frame; go_big_quiet_on)
            | (go_big_quiet_want; refine quiet_load_row 23 _ rfl (w.heap.size + 1) rfl 23 (u8s b) _ _ (grown_block gb.out) Tryd.underlying23 rfl (by rw [u8s_size, Lb.out]; exact info23) ?_; go_frame; go_big_quiet_on)
            | (go_big_quiet_want; refine quiet_load_row 23 _ rfl (w.heap.size + 1 + 1) rfl 23 (u8s c) _ _ (grown_block gc.out) Tryd.underlying23 rfl (by rw [u8s_size, Lc.out]; exact info23) ?_; go_frame; go_big_quiet_on)
            | go_big_quiet_step (first
              | (go_at_call 17; with_reducible exact Calls.regrown_of (L1.out _))
              | (go_at_call 17; with_reducible exact Calls.regrown_of (L2.out _))
              | (go_at_call 17; with_reducible exact Calls.regrown_of (L3.out _))))
          refine wpQuiet_nil ?_
          intro _ hw'
          obtain ⟨⟨dq, osq⟩, hw''⟩ := hw'
          subst hw''
          go_wp2_with fail
          go_meet
          exact ⟨rfl, below_regrown _ _ _⟩
        · have hr := tr hp hq
          rw [hp] at lab
          rw [hs] at lba
          rw [hq] at lbc
          rw [hr] at lac
          have L1 := Lib.hid lab
          have L2 := Lib.hid lba
          have L3 := Lib.hid lbc
          have L4 := Lib.hid lac
          clear tr asy tot lab lba lbc lac hp hs hq hr
          try simp only [Act.put]
          refine wp_region_calm ?_
          repeat (first
            | (go_big_quiet_want; refine quiet_load_row 23 _ rfl w.heap.size rfl 23 (u8s a) _ _ (grown_block ga.out) Tryd.underlying23 rfl (by rw [u8s_size, La.out]; exact info23) ?_; go_frame; go_big_quiet_on)
            | (go_big_quiet_want; refine quiet_load_row 23 _ rfl (w.heap.size + 1) rfl 23 (u8s b) _ _ (grown_block gb.out) Tryd.underlying23 rfl (by rw [u8s_size, Lb.out]; exact info23) ?_; go_frame; go_big_quiet_on)
            | (go_big_quiet_want; refine quiet_load_row 23 _ rfl (w.heap.size + 1 + 1) rfl 23 (u8s c) _ _ (grown_block gc.out) Tryd.underlying23 rfl (by rw [u8s_size, Lc.out]; exact info23) ?_; go_frame; go_big_quiet_on)
            | go_big_quiet_step (first
              | (go_at_call 17; with_reducible exact Calls.regrown_of (L1.out _))
              | (go_at_call 17; with_reducible exact Calls.regrown_of (L2.out _))
              | (go_at_call 17; with_reducible exact Calls.regrown_of (L3.out _))
              | (go_at_call 17; with_reducible exact Calls.regrown_of (L4.out _))))
          refine wpQuiet_nil ?_
          intro _ hw'
          obtain ⟨⟨dq, osq⟩, hw''⟩ := hw'
          subst hw''
          go_wp2_with fail
          go_meet
          exact ⟨rfl, below_regrown _ _ _⟩
    case rest =>
      obtain ⟨rfl, bx⟩ := hcut
      have d8 := below_then d7 bx
      have ga := Lib.hid (below_keeps bx ga.out)
      have gb := Lib.hid (below_keeps bx gb.out)
      clear bx d7 gc
      go_upto_region 8 with (fail)
      refine wp_region_quiet_below (by kernel_rfl) (by kernel_rfl) ?_
      repeat (first
        | (go_big_quiet_want; refine quiet_load_row 23 _ rfl w.heap.size rfl 23 (u8s a) _ _ (grown_block ga.out) Tryd.underlying23 rfl (by rw [u8s_size, La.out]; exact info23) ?_; go_frame; go_big_quiet_on)
        | (go_big_quiet_want; refine quiet_load_row 23 _ rfl (w.heap.size + 1) rfl 23 (u8s b) _ _ (grown_block gb.out) Tryd.underlying23 rfl (by rw [u8s_size, Lb.out]; exact info23) ?_; go_frame; go_big_quiet_on)
        | go_big_quiet_step (first
          | (go_at_call 17; with_reducible exact Calls.regrown_of (lab.out _))
          | (go_at_call 15; with_reducible exact Calls.regrown_of (hex_b a La.out Wa.out _))
          | (go_at_call 15; with_reducible exact Calls.regrown_of (hex_b b Lb.out Wb.out _))))
      refine wpQuiet_nil ?_
      intro _ hw'
      obtain ⟨⟨dq, osq⟩, hw''⟩ := hw'
      subst hw''
      go_wp2_with fail
      go_ret
      exact ⟨congrArg (fun x => Ending.returned (.bool x)) hfin.out, below_then d8 (below_regrown _ _ _)⟩
end Go.Proofs.YtmcjkciicbmdfaaDoor
