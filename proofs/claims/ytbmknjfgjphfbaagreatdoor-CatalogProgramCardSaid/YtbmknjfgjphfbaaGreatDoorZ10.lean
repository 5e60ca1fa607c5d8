import Derived.Test.YtbmknjfgjphfbaaGreatDoorZ09
set_option linter.all false
namespace Go.Proofs.YtbmknjfgjphfbaaGreatDoor
open Proofs.Tryz RowKit Maps WideMaps ChangeMaps
set_option maxRecDepth 100000
set_option maxHeartbeats 8000000
theorem expr1_said (c:Cx) (h:Bool) {n:Nat} (hn:n≤1000000000) (IE:∀h,Said 181 #[.pointer (some ⟨c.pb,0,none⟩)] c h NdV (exprP c.e n h)) (IOq:Said 207 #[.pointer (some ⟨c.pb,0,none⟩),.int .i64 1] c h NdV (operP c.e n h 1)) (IH:Said 205 #[.pointer (some ⟨c.pb,0,none⟩)] c h NdV (exprP c.e n true)):Said 181 #[.pointer (some ⟨c.pb,0,none⟩)] c h NdV (exprP c.e (n+1) h):=fun w r k hne=>by
 obtain⟨HX,HO,HH⟩:=zd3 IE IOq IH
 have LA:=η (items_said (F:=206) (c:=c) (h:=h) (m:=armP c.e (exprP c.e n false) n) (s:=⟨#[125]⟩) (n:=n) (fun _ _=>by kernel_rfl) inferInstance (arm_said c false (IE false) hn) π hn)
 have FSq:=η (function_said c h (IE h) hn)
 clear IE IOq IH
 have TX:=η k.tx
 obtain⟨W0,HW,A⟩:=Sw.s1 k
 obtain⟨R,hR⟩:∃R,R=exprP c.e (n+1) h r:=⟨_,rfl⟩
 rw[←hR] at hne ⊢
 obtain⟨io,hio,hiz,his,hib⟩:=info_parts info_83
 have HIO:=η (And.intro hio (And.intro hiz (And.intro his hib)))
 clear hio hiz his hib
 have HMF:=hmf
 obtain⟨HN,HR⟩:=zd2 hne hR
 clear hR hne k
 go_in
 go_upto_region 1 with fail
 rw[←HW.o]
 clear HW
 go_wp2_with fail
 have TX2:=η (A.o.pw.tx)
 refine (offset_any A.o.pw).mono ?_
 rintro _ W1 ⟨rfl,b⟩
 replace A:=Sw.bel A b
 clear b
 go_wp2_with fail
 cases a3:(wl (r)==[108,101,116]) with
 | true =>
  have H5:=η (HR.o.trans (acc_t a3))
  refine (accept_yes A.o.pw (s:=⟨#[108,101,116]⟩) a3 π).mono ?_
  rintro _ W4 ⟨rfl,s,p⟩
  replace A:=Sw.n A s p
  clear s p HR a3
  go_wp2_with fail
  cases a6:lowB (wl ((r).tail)) with
  | false =>
   refine (name_no A.o.pw p_lowB a6).mono ?_
   rintro _ W7 ⟨rfl,s⟩
   exact⟨rfl,Sw.bd A s (H5.o.trans (bd_bad (nam_f a6)))⟩
  | true =>
   have H8:=η (H5.o.trans (bd_ok (nam_t a6)))
   have TS9:=η (A.o.pw.tx.2.1)
   refine (name_yes A.o.pw p_lowB a6 (by rfl)).mono ?_
   rintro _ W7 ⟨rfl,s,p⟩
   replace A:=Sw.n A s p
   clear s p H5 a6
   go_wp2_with fail
   cases a10:(wl (((r).tail).tail)==[61]) with
   | false =>
    refine (expect_no A.o.pw (s:=⟨#[61]⟩) a10).mono ?_
    rintro _ W11 ⟨rfl,s⟩
    exact⟨rfl,Sw.bd A s (H8.o.trans (bd_bad (exp_f a10)))⟩
   | true =>
    have H12:=η (H8.o.trans (bd_ok (exp_t a10)))
    refine (expect_yes A.o.pw (s:=⟨#[61]⟩) a10 π).mono ?_
    rintro _ W11 ⟨rfl,s,p⟩
    replace A:=Sw.n A s p
    clear s p H8 a10
    go_wp2_with fail
    cases m13:exprP c.e n h ((((r).tail).tail).tail) with
    | out=>exact absurd (H12.o.trans (bd_out m13)) HN.o
    | bad q16 =>
     refine (Said.bad (HX.o h) A.o.pw m13).mono ?_
     rintro _ W14 ⟨rfl,s⟩
     exact⟨rfl,Sw.bd A s (H12.o.trans (bd_bad m13))⟩
    | ok x17 q16 =>
     obtain⟨H15,Z18,Y19⟩:=zd3 (H12.o.trans (bd_ok m13)) (Sw.ge A) (A.o.lo.2.2.2)
     refine (Said.ok (HX.o h) A.o.pw m13).mono ?_
     rintro _ W14 ⟨_,rfl,⟨k20,s21,n22,p23,D24,l25,c26,rfl,hnd⟩,s,p⟩
     replace A:=Sw.nd A s p hnd
     clear s p hnd m13 H12
     replace A:=Sw.al A (cl k20 s21 n22 p23 D24 l25 c26).toArray
     go_wp2_with (refine wpList_load_row rfl 83 _ rfl W14.heap.size rfl 83 _ _ _ (Sw.now A).2 underlying83 rfl Δ ?_)
     cases a27:(wl (q16)==[105,110]) with
     | false =>
      refine (expect_no A.o.pw (s:=⟨#[105,110]⟩) a27).mono ?_
      rintro _ W28 ⟨rfl,s⟩
      exact⟨rfl,Sw.bd A s (H15.o.trans (bd_bad (exp_f a27)))⟩
     | true =>
      have H29:=η (H15.o.trans (bd_ok (exp_t a27)))
      refine (expect_yes A.o.pw (s:=⟨#[105,110]⟩) a27 π).mono ?_
      rintro _ W28 ⟨rfl,s,p⟩
      replace A:=Sw.n A s p
      clear s p H15 a27
      go_upto_region 7 with fail
      replace A:=Sw.bel A (belDr W28)
      refine ttB (fun X=>Hs X W14.heap.size 83 (cl k20 s21 n22 p23 D24 l25 c26).toArray) 7 ((Sw.now A).2) (fun hHeld=>?_)
      refine ttQ 0 ?_
      refine ttQ 1 ?_
      refine ttQ 2 ?_ (hy:=fun w hS=>ld24 (.tmp 5) rfl _ rfl _ rfl hS)
      refine ttQ 3 ?_
      refine ttE 4 (fun K hK=>?_)
      go_simp
      cases m30:exprP c.e n h ((q16).tail) with
      | out=>exact absurd (H29.o.trans (bd_out m30)) HN.o
      | bad q33 =>
       refine (Said.bad (HX.o h) A.o.pw m30).mono ?_
       rintro _ W31 ⟨rfl,s⟩
       exact⟨rfl,Sw.bd A s (H29.o.trans (bd_bad m30))⟩
      | ok x34 q33 =>
       obtain⟨H32,Z35⟩:=zd2 (H29.o.trans (bd_ok m30)) (Sw.ge A)
       refine (Said.ok (HX.o h) A.o.pw m30).mono ?_
       rintro _ W31 ⟨_,rfl,⟨k36,s37,n38,p39,D40,l41,c42,rfl,hnd⟩,s,p⟩
       replace A:=Sw.nd A s p hnd
       clear s p hnd m30 H29
       refine ttR hK (fun _=>(Sw.now A).1.2) (fun hHeld=>?_)
       clear hK K
       refine ttE 5 (fun K hK=>?_)
       go_simp
       have Z43:=η (Sw.ge A)
       replace A:=Sw.al A ((cl k20 s21 n22 p23 D24 l25 c26)++(cl k36 s37 n38 p39 D40 l41 c42)).toArray
       refine ttR hK (fun _=>(Sw.now A).1.1.2) (fun hHeld=>?_)
       clear hK K
       refine ttE 6 (fun K hK=>?_)
       go_simp
       refine (node_any _ _ _ _ _ _ _ _).mono ?_
       rintro _ W44 ⟨rfl,b⟩
       replace A:=Sw.bel A b
       clear b
       refine ttR hK (fun _=>(Sw.now A).1.1.2) (fun hHeld=>?_)
       clear hK K
       have E:=Sw.e A (k:=37) (s:=(wrd ((r).tail))) (n:=0) (p:=(offP c.e (r))) (D:=(some ⟨W31.heap.size,0,none⟩)) (l:=2) (cap:=2) (a:=.mk 37 (wrd ((r).tail)) 0 (offP c.e (r)) [x17,x34]) fun X hx k=>NdR.of ⟨by unfold i64;omega,(by unfold i64;omega),TX2.o.2.2.2.2⟩ TS9.o (kid2 (k.2) Z43.o (NdR.lo k.1.1.1.2 Z18.o) (NdR.lo k.1.2 Z35.o) rfl rfl)
       have O:=setRow_heap _ _ _ (cl 37 (wrd ((r).tail)) 0 (offP c.e (r)) (some ⟨W31.heap.size,0,none⟩) 2 2).toArray _ _ (A.o.bx rfl)
       refine ttE 7 (fun K hK=>?_)
       rw[if_pos (by rfl)]
       refine wp_store_row 83 _ _ rfl w.heap.size (cl 37 (wrd ((r).tail)) 0 (offP c.e (r)) (some ⟨W31.heap.size,0,none⟩) 2 2).toArray rfl rfl 83 _ (A.o.bx rfl) Δ rfl (by simp[Value.oneCell']) ?_
       refine ttR hK (fun e=>absurd rfl e) (fun _=>?_)
       clear hK K
       refine ttD ?_
       go_wp2
       exact bodyPost_ret (results_cell_row results181 _ _ w.heap.size 83 _ _ _ rfl O underlying83 rfl Δ) rfl (by rw[H32.o];exact E.o)
 | false =>
  have H46:=η (HR.o.trans (acc_f a3))
  refine (accept_no A.o.pw (s:=⟨#[108,101,116]⟩) a3).mono ?_
  rintro _ W45 ⟨rfl,s,p⟩
  replace A:=Sw.n A s p
  clear s p HR a3
  go_wp2_with fail
  cases a47:(wl (r)==[105,102]) with
  | true =>
   have H49:=η (H46.o.trans (acc_t a47))
   refine (accept_yes A.o.pw (s:=⟨#[105,102]⟩) a47 π).mono ?_
   rintro _ W48 ⟨rfl,s,p⟩
   replace A:=Sw.n A s p
   clear s p H46 a47
   go_wp2_with fail
   cases m50:exprP c.e n h ((r).tail) with
   | out=>exact absurd (H49.o.trans (bd_out m50)) HN.o
   | bad q53 =>
    refine (Said.bad (HX.o h) A.o.pw m50).mono ?_
    rintro _ W51 ⟨rfl,s⟩
    exact⟨rfl,Sw.bd A s (H49.o.trans (bd_bad m50))⟩
   | ok x54 q53 =>
    obtain⟨H52,Z55,Y56⟩:=zd3 (H49.o.trans (bd_ok m50)) (Sw.ge A) (A.o.lo.2.2.2)
    refine (Said.ok (HX.o h) A.o.pw m50).mono ?_
    rintro _ W51 ⟨_,rfl,⟨k57,s58,n59,p60,D61,l62,c63,rfl,hnd⟩,s,p⟩
    replace A:=Sw.nd A s p hnd
    clear s p hnd m50 H49
    replace A:=Sw.al A (cl k57 s58 n59 p60 D61 l62 c63).toArray
    go_wp2_with (refine wpList_load_row rfl 83 _ rfl W51.heap.size rfl 83 _ _ _ (Sw.now A).2 underlying83 rfl Δ ?_)
    cases a64:(wl (q53)==[116,104,101,110]) with
    | false =>
     refine (expect_no A.o.pw (s:=⟨#[116,104,101,110]⟩) a64).mono ?_
     rintro _ W65 ⟨rfl,s⟩
     exact⟨rfl,Sw.bd A s (H52.o.trans (bd_bad (exp_f a64)))⟩
    | true =>
     have H66:=η (H52.o.trans (bd_ok (exp_t a64)))
     refine (expect_yes A.o.pw (s:=⟨#[116,104,101,110]⟩) a64 π).mono ?_
     rintro _ W65 ⟨rfl,s,p⟩
     replace A:=Sw.n A s p
     clear s p H52 a64
     go_wp2_with (refine wpList_load_row rfl 83 _ rfl W51.heap.size rfl 83 _ _ _ (Sw.now A).2 underlying83 rfl Δ ?_)
     cases m67:exprP c.e n h ((q53).tail) with
     | out=>exact absurd (H66.o.trans (bd_out m67)) HN.o
     | bad q70 =>
      refine (Said.bad (HX.o h) A.o.pw m67).mono ?_
      rintro _ W68 ⟨rfl,s⟩
      exact⟨rfl,Sw.bd A s (H66.o.trans (bd_bad m67))⟩
     | ok x71 q70 =>
      obtain⟨H69,Z72,Y73⟩:=zd3 (H66.o.trans (bd_ok m67)) (Sw.ge A) (A.o.lo.2.2.2)
      refine (Said.ok (HX.o h) A.o.pw m67).mono ?_
      rintro _ W68 ⟨_,rfl,⟨k74,s75,n76,p77,D78,l79,c80,rfl,hnd⟩,s,p⟩
      replace A:=Sw.nd A s p hnd
      clear s p hnd m67 H66
      replace A:=Sw.al A (cl k74 s75 n76 p77 D78 l79 c80).toArray
      go_wp2_with (first|(refine wpList_load_row rfl 83 _ rfl W51.heap.size rfl 83 _ _ _ (Sw.now A).1.1.2 underlying83 rfl Δ ?_)|(refine wpList_load_row rfl 83 _ rfl W68.heap.size rfl 83 _ _ _ (Sw.now A).2 underlying83 rfl Δ ?_))
      cases a81:(wl (q70)==[101,108,115,101]) with
      | false =>
       refine (expect_no A.o.pw (s:=⟨#[101,108,115,101]⟩) a81).mono ?_
       rintro _ W82 ⟨rfl,s⟩
       exact⟨rfl,Sw.bd A s (H69.o.trans (bd_bad (exp_f a81)))⟩
      | true =>
       have H83:=η (H69.o.trans (bd_ok (exp_t a81)))
       refine (expect_yes A.o.pw (s:=⟨#[101,108,115,101]⟩) a81 π).mono ?_
       rintro _ W82 ⟨rfl,s,p⟩
       replace A:=Sw.n A s p
       clear s p H69 a81
       go_upto_region 13 with fail
       replace A:=Sw.bel A (belDr W82)
       refine ttB (fun X=>Hs X W51.heap.size 83 (cl k57 s58 n59 p60 D61 l62 c63).toArray∧Hs X W68.heap.size 83 (cl k74 s75 n76 p77 D78 l79 c80).toArray) 7 (⟨(Sw.now A).1.1.2,(Sw.now A).2⟩) (fun hHeld=>?_)
       refine ttQ 0 ?_
       refine ttQ 1 ?_ (hy:=fun w hS=>ld24 (.tmp 6) rfl _ rfl _ rfl hS.1)
       refine ttQ 2 ?_ (hy:=fun w hS=>ld24 (.tmp 7) rfl _ rfl _ rfl hS.2)
       refine ttQ 3 ?_
       refine ttE 4 (fun K hK=>?_)
       go_simp
       cases m84:exprP c.e n h ((q70).tail) with
       | out=>exact absurd (H83.o.trans (bd_out m84)) HN.o
       | bad q87 =>
        refine (Said.bad (HX.o h) A.o.pw m84).mono ?_
        rintro _ W85 ⟨rfl,s⟩
        exact⟨rfl,Sw.bd A s (H83.o.trans (bd_bad m84))⟩
       | ok x88 q87 =>
        obtain⟨H86,Z89⟩:=zd2 (H83.o.trans (bd_ok m84)) (Sw.ge A)
        refine (Said.ok (HX.o h) A.o.pw m84).mono ?_
        rintro _ W85 ⟨_,rfl,⟨k90,s91,n92,p93,D94,l95,c96,rfl,hnd⟩,s,p⟩
        replace A:=Sw.nd A s p hnd
        clear s p hnd m84 H83
        refine ttR hK (fun _=>⟨(Sw.now A).1.1.1.2,(Sw.now A).1.2⟩) (fun hHeld=>?_)
        clear hK K
        refine ttE 5 (fun K hK=>?_)
        go_simp
        have Z97:=η (Sw.ge A)
        replace A:=Sw.al A ((cl k57 s58 n59 p60 D61 l62 c63)++((cl k74 s75 n76 p77 D78 l79 c80)++(cl k90 s91 n92 p93 D94 l95 c96))).toArray
        refine ttR hK (fun _=>⟨(Sw.now A).1.1.1.1.2,(Sw.now A).1.1.2⟩) (fun hHeld=>?_)
        clear hK K
        refine ttE 6 (fun K hK=>?_)
        go_simp
        refine (node_any _ _ _ _ _ _ _ _).mono ?_
        rintro _ W98 ⟨rfl,b⟩
        replace A:=Sw.bel A b
        clear b
        refine ttR hK (fun _=>⟨(Sw.now A).1.1.1.1.2,(Sw.now A).1.1.2⟩) (fun hHeld=>?_)
        clear hK K
        have E:=Sw.e A (k:=36) (s:=e0) (n:=0) (p:=(offP c.e (r))) (D:=(some ⟨W85.heap.size,0,none⟩)) (l:=3) (cap:=3) (a:=.mk 36 e0 0 (offP c.e (r)) [x54,x71,x88]) fun X hx k=>NdR.of ⟨by unfold i64;omega,(by unfold i64;omega),TX2.o.2.2.2.2⟩ (by show e0.size≤_;decide) (kid3 (k.2) Z97.o (NdR.lo k.1.1.1.1.1.2 Z55.o) (NdR.lo k.1.1.1.2 Z72.o) (NdR.lo k.1.2 Z89.o) rfl rfl rfl)
        have O:=setRow_heap _ _ _ (cl 36 e0 0 (offP c.e (r)) (some ⟨W85.heap.size,0,none⟩) 3 3).toArray _ _ (A.o.bx rfl)
        refine ttE 7 (fun K hK=>?_)
        rw[if_pos (by rfl)]
        refine wp_store_row 83 _ _ rfl w.heap.size (cl 36 e0 0 (offP c.e (r)) (some ⟨W85.heap.size,0,none⟩) 3 3).toArray rfl rfl 83 _ (A.o.bx rfl) Δ rfl (by simp[Value.oneCell']) ?_
        refine ttR hK (fun e=>absurd rfl e) (fun _=>?_)
        clear hK K
        refine ttD ?_
        go_wp2
        exact bodyPost_ret (results_cell_row results181 _ _ w.heap.size 83 _ _ _ rfl O underlying83 rfl Δ) rfl (by rw[H86.o];exact E.o)
  | false =>
   have H100:=η (H46.o.trans (acc_f a47))
   refine (accept_no A.o.pw (s:=⟨#[105,102]⟩) a47).mono ?_
   rintro _ W99 ⟨rfl,s,p⟩
   replace A:=Sw.n A s p
   clear s p H46 a47
   go_wp2_with fail
   cases a101:(wl (r)==[109,97,116,99,104]) with
   | true =>
    have H103:=η (H100.o.trans (acc_t a101))
    refine (accept_yes A.o.pw (s:=⟨#[109,97,116,99,104]⟩) a101 π).mono ?_
    rintro _ W102 ⟨rfl,s,p⟩
    replace A:=Sw.n A s p
    clear s p H100 a101
    go_wp2_with fail
    cases m104:exprP c.e n true ((r).tail) with
    | out=>exact absurd (H103.o.trans (bd_out m104)) HN.o
    | bad q107 =>
     refine (Said.bad (HH.o) A.o.pw m104).mono ?_
     rintro _ W105 ⟨rfl,s⟩
     exact⟨rfl,Sw.bd A s (H103.o.trans (bd_bad m104))⟩
    | ok x108 q107 =>
     obtain⟨H106,Z109,Y110⟩:=zd3 (H103.o.trans (bd_ok m104)) (Sw.ge A) (A.o.lo.2.2.2)
     refine (Said.ok (HH.o) A.o.pw m104).mono ?_
     rintro _ W105 ⟨_,rfl,⟨k111,s112,n113,p114,D115,l116,c117,rfl,hnd⟩,s,p⟩
     replace A:=Sw.nd A s p hnd
     have SZ118:=η (s.size)
     clear s p hnd m104 H103
     replace A:=Sw.one A (Sw.now A).2 Y110.o SZ118.o
     have HL119:Hid (([x108]:List Nd).length≤1):=Nat.le_refl _
     go_wp2_with fail
     cases a120:(wl (q107)==[123]) with
     | false =>
      refine (expect_no A.o.pw (s:=⟨#[123]⟩) a120).mono ?_
      rintro _ W121 ⟨rfl,s⟩
      exact⟨rfl,Sw.bd A s (H106.o.trans (bd_bad (exp_f a120)))⟩
     | true =>
      have H122:=η (H106.o.trans (bd_ok (exp_t a120)))
      refine (expect_yes A.o.pw (s:=⟨#[123]⟩) a120 π).mono ?_
      rintro _ W121 ⟨rfl,s,p⟩
      replace A:=Sw.n A s p
      clear s p H106 a120
      go_wp2_with fail
      cases m123:itemsP [125] (armP c.e (exprP c.e n false) n) n ((q107).tail) with
      | out=>exact absurd (H122.o.trans (bd_out m123)) HN.o
      | bad q126 =>
       refine (Said.bad (LA.o) A.o.pw m123).mono ?_
       rintro _ W124 ⟨rfl,s⟩
       exact⟨rfl,Sw.bd A s (H122.o.trans (bd_bad m123))⟩
      | ok x127 q126 =>
       obtain⟨H125,Z128,Y129,RL130⟩:=zd4 (H122.o.trans (bd_ok m123)) (Sw.ge A) (A.o.lo.2.2.2) (RowX.lt (Sw.now A).2)
       refine (Said.ok (LA.o) A.o.pw m123).mono ?_
       rintro _ W124 ⟨_,rfl,hrow,s,p⟩
       obtain⟨Ar131,cr132,rfl⟩:=hrow.form
       have HL133:=η (hrow.1)
       replace A:=Sw.rw A s p hrow
       clear s p hrow m123 H122
       obtain⟨_,_,xs138,ho,hr⟩:=(Sw.now A).1.2
       obtain⟨_,_,xs139,ho2,hr2⟩:=(Sw.now A).2
       obtain⟨HO134,HRW135,HO136,HRW137,RN143⟩:=zd5 ho hr ho2 hr2 (RowX.lt (Sw.now A).2)
       have CP147:=η ((RowX.cap (Sw.now A).1.2).2)
       have HL148:Hid (1+x127.length≤4000000000):=(by have:=HL119.o;have:=HL133.o;show _≤_;omega)
       have hcs:=ho2.2
       clear ho hr ho2 hr2
       rcases hcs with ⟨e146,hz⟩|⟨g144,cap145,_,e146,_⟩
       · obtain rfl:x127=[]:=List.eq_nil_of_length_eq_zero hz
         have E149:=η e146
         clear e146 hz
         go_wp2_with (at_builtin;refine wpList_app_nil rfl (.tmp 56) (.tmp 60) rfl (some ⟨W105.heap.size,0,none⟩) (1) 1 rfl E149.o CP147.o ?_)
         refine (node_any _ _ _ _ _ _ _ _).mono ?_
         rintro _ W150 ⟨rfl,b⟩
         replace A:=Sw.bel A b
         clear b
         have E:=Sw.e A (k:=38) (s:=e0) (n:=0) (p:=(offP c.e (r))) (D:=(some ⟨W105.heap.size,0,none⟩)) (l:=(1)) (cap:=1) (a:=.mk 38 e0 0 (offP c.e (r)) [x108]) fun X hx k=>NdR.of ⟨by unfold i64;omega,(by unfold i64;omega),TX2.o.2.2.2.2⟩ (by show e0.size≤_;decide) (RowX.nds k.1.2 Z109.o)
         have O:=setRow_heap _ _ _ (cl 38 e0 0 (offP c.e (r)) (some ⟨W105.heap.size,0,none⟩) (1) 1).toArray _ _ (A.o.bx rfl)
         go_wp2_with (refine wpList_store_row rfl 83 _ _ rfl w.heap.size (cl 38 e0 0 (offP c.e (r)) (some ⟨W105.heap.size,0,none⟩) (1) 1).toArray rfl rfl 83 _ (A.o.bx rfl) Δ rfl (by simp[Value.oneCell']) ?_)
         exact bodyPost_ret (results_cell_row results181 _ _ w.heap.size 83 _ _ _ rfl O underlying83 rfl Δ) rfl (by rw[H125.o];exact E.o)
       · have E149:=η e146
         clear e146
         go_wp2_with (first|(at_builtin;refine wpList_append_own_at _ rfl (.tmp 56) (.tmp 60) 81 rfl W102.heap.size 83 io _ 5 64 underlying81 HIO.o.1 HIO.o.2.1 HIO.o.2.2.1 HIO.o.2.2.2 rfl π (.slice (some ⟨W105.heap.size,0,none⟩) (1) 1) (1) xs138 rfl HO134.o ⟨g144,0,none⟩ x127.length cap145 xs139 E149.o HO136.o.1 (HO136.o.cells (by rw[E149.o];rfl)) (row_one HRW137.o) (by have:=HL119.o;have:=HL133.o;unfold maxLen;omega) (by have:=HL119.o;have:=HL133.o;omega) ((RowX.lt (Sw.now A).1.2).1) ?_;intro vv W142 hown hgrow hnil hvb;obtain⟨Ar140,cr141,rfl⟩:=row_form hown;replace A:=Sw.pushs A hgrow hvb hown (by simp) HRW135.o HRW137.o RL130.o Y110.o RN143.o.1;clear hown hgrow hnil hvb))
         refine (node_any _ _ _ _ _ _ _ _).mono ?_
         rintro _ W151 ⟨rfl,b⟩
         replace A:=Sw.bel A b
         clear b
         have E:=Sw.e A (k:=38) (s:=e0) (n:=0) (p:=(offP c.e (r))) (D:=Ar140) (l:=(1+x127.length)) (cap:=cr141) (a:=.mk 38 e0 0 (offP c.e (r)) ([x108]++x127)) fun X hx k=>NdR.of ⟨by unfold i64;omega,(by unfold i64;omega),TX2.o.2.2.2.2⟩ (by show e0.size≤_;decide) (RowX.nds k Z109.o)
         have O:=setRow_heap _ _ _ (cl 38 e0 0 (offP c.e (r)) Ar140 (1+x127.length) cr141).toArray _ _ (A.o.bx rfl)
         go_wp2_with (refine wpList_store_row rfl 83 _ _ rfl w.heap.size (cl 38 e0 0 (offP c.e (r)) Ar140 (1+x127.length) cr141).toArray rfl rfl 83 _ (A.o.bx rfl) Δ rfl (by simp[Value.oneCell']) ?_)
         exact bodyPost_ret (results_cell_row results181 _ _ w.heap.size 83 _ _ _ rfl O underlying83 rfl Δ) rfl (by rw[H125.o];exact E.o)
   | false =>
    have H153:=η (H100.o.trans (acc_f a101))
    refine (accept_no A.o.pw (s:=⟨#[109,97,116,99,104]⟩) a101).mono ?_
    rintro _ W152 ⟨rfl,s,p⟩
    replace A:=Sw.n A s p
    clear s p H100 a101
    go_wp2_with fail
    cases a154:(wl (r)==[102,117,110]) with
    | true =>
     have H156:=η (H153.o.trans (acc_t a154))
     refine (accept_yes A.o.pw (s:=⟨#[102,117,110]⟩) a154 π).mono ?_
     rintro _ W155 ⟨rfl,s,p⟩
     replace A:=Sw.n A s p
     clear s p H153 a154
     go_wp2_with fail
     cases m157:functionP c.e (exprP c.e n h) n ((r).tail) with
     | out=>exact absurd (H156.o.trans (bd_out m157)) HN.o
     | bad q160 =>
      refine (Said.bad (FSq.o) A.o.pw m157).mono ?_
      rintro _ W158 ⟨rfl,s⟩
      exact⟨rfl,Sw.bd A s (H156.o.trans (bd_bad m157))⟩
     | ok x161 q160 =>
      obtain⟨H159,Z162,Y163⟩:=zd3 (H156.o.trans (bd_ok m157)) (Sw.ge A) (A.o.lo.2.2.2)
      refine (Said.ok (FSq.o) A.o.pw m157).mono ?_
      rintro _ W158 ⟨_,rfl,hrow,s,p⟩
      obtain⟨Ar164,cr165,rfl⟩:=hrow.form
      have HL166:=η (hrow.1)
      replace A:=Sw.rw A s p hrow
      clear s p hrow m157 H156
      go_wp2_with fail
      refine (node_any _ _ _ _ _ _ _ _).mono ?_
      rintro _ W167 ⟨rfl,b⟩
      replace A:=Sw.bel A b
      clear b
      have E:=Sw.e A (k:=41) (s:=e0) (n:=0) (p:=(offP c.e (r))) (D:=Ar164) (l:=(x161.length)) (cap:=cr165) (a:=.mk 41 e0 0 (offP c.e (r)) x161) fun X hx k=>NdR.of ⟨by unfold i64;omega,(by unfold i64;omega),TX2.o.2.2.2.2⟩ (by show e0.size≤_;decide) (RowX.nds k.2 Z162.o)
      have O:=setRow_heap _ _ _ (cl 41 e0 0 (offP c.e (r)) Ar164 (x161.length) cr165).toArray _ _ (A.o.bx rfl)
      go_wp2_with (refine wpList_store_row rfl 83 _ _ rfl w.heap.size (cl 41 e0 0 (offP c.e (r)) Ar164 (x161.length) cr165).toArray rfl rfl 83 _ (A.o.bx rfl) Δ rfl (by simp[Value.oneCell']) ?_)
      exact bodyPost_ret (results_cell_row results181 _ _ w.heap.size 83 _ _ _ rfl O underlying83 rfl Δ) rfl (by rw[H159.o];exact E.o)
    | false =>
     have H169:=η (H153.o.trans (acc_f a154))
     refine (accept_no A.o.pw (s:=⟨#[102,117,110]⟩) a154).mono ?_
     rintro _ W168 ⟨rfl,s,p⟩
     replace A:=Sw.n A s p
     clear s p H153 a154
     go_wp2_with fail
     cases m170:operP c.e n h 1 (r) with
     | out=>exact absurd (H169.o.trans m170) HN.o
     | bad q173 =>
      refine (Said.bad (HO.o) A.o.pw m170).mono ?_
      rintro _ W171 ⟨rfl,s⟩
      exact⟨rfl,Sw.bd A s (H169.o.trans m170)⟩
     | ok x174 q173 =>
      obtain⟨H172,Z175⟩:=zd2 (H169.o.trans m170) (Sw.ge A)
      refine (Said.ok (HO.o) A.o.pw m170).mono ?_
      rintro _ W171 ⟨_,rfl,⟨k176,s177,n178,p179,D180,l181,c182,rfl,hnd⟩,s,p⟩
      replace A:=Sw.nd A s p hnd
      clear s p hnd m170 H169
      have O:=setRow_heap _ _ _ (cl k176 s177 n178 p179 D180 l181 c182).toArray _ _ (A.o.bx rfl)
      have E:=Sw.eg (Rv:=NdV) A (cells:=(cl k176 s177 n178 p179 D180 l181 c182).toArray) (v:=.agg (cl k176 s177 n178 p179 D180 l181 c182).toArray) (a:=x174) fun X hx k=>⟨k176,s177,n178,p179,D180,l181,c182,rfl,NdR.lo k.2 Z175.o⟩
      go_wp2_with (refine wpList_store_row rfl 83 _ _ rfl w.heap.size (cl k176 s177 n178 p179 D180 l181 c182).toArray rfl rfl 83 _ (A.o.bx rfl) Δ rfl (by simp[Value.oneCell']) ?_)
      exact bodyPost_ret (results_cell_row results181 _ _ w.heap.size 83 _ _ _ rfl O underlying83 rfl Δ) rfl (by rw[H172.o];exact E.o)
section
theorem both_said (c:Cx):∀n,n≤1000000000→(∀h,Said 181 #[.pointer (some ⟨c.pb,0,none⟩)] c h NdV (exprP c.e n h))∧(∀h (lv:Nat),1≤lv→lv≤8→Said 207 #[.pointer (some ⟨c.pb,0,none⟩),.int .i64 (lv:Int)] c h NdV (operP c.e n h lv))
 | 0,_=>⟨fun h w r k hne=>absurd (by rw[exprP];rfl) hne,fun h lv _ _ w r k hne=>absurd (by rw[operP];rfl) hne⟩
 | n+1,hn=>by
  have h1:=(both_said c n ω).1
  have h2:=(both_said c n ω).2
  exact⟨fun h=>expr1_said c h ω h1 (h2 h 1 ω ω) (heading_said c h (h1 true)),fun h lv l1 l2=>oper1_said c h ω (h2 h) (post_said c h (h1 false) ω) lv l1 l2⟩
theorem expr_said (c:Cx) (h:Bool) {n:Nat} (hn:n≤1000000000):Said 181 #[.pointer (some ⟨c.pb,0,none⟩)] c h NdV (exprP c.e n h):=(both_said c n hn).1 h
section
variable {c:Cx} {w W:À} {n0:Nat} {q:List Tk} {h:Bool} {K K2:À→Prop}
theorem Sw.nil (A:Hid (Sw c w n0 W q h K)):Hid (Sw c w n0 W q h (fun X=>K X∧RowX n0 (.slice none 0 0) [] X)):=
 ⟨A.o.pw,A.o.st,A.o.lo,A.o.bx,fun X x=>⟨A.o.k X x,RowX.nil n0 X (Nat.le_trans A.o.lo.2.2.2 x.z)⟩⟩
theorem Sw.keep (A:Hid (Sw c w n0 W q h K)) (hk:∀X,K X→K2 X):Hid (Sw c w n0 W q h K2):=
 ⟨A.o.pw,A.o.st,A.o.lo,A.o.bx,fun X x=>hk X (A.o.k X x)⟩
end
theorem until_succ (s:List UInt8) (m:M Nd) (n:Nat):untilP s m (n+1)=acc s (pure []) (m >>= fun a=>untilP s m n >>= fun l=>pure (a::l)):=rfl
theorem until_bd {β:Type} (s:List UInt8) (m:M Nd) (n:Nat) (q:List Tk) (f:List Nd→M β):((m >>= fun a=>untilP s m n >>= fun l=>pure (a::l):M (List Nd)) q).bd f=(m >>= fun a=>fun r=>(untilP s m n r).bd fun t=>f (a::t)) q:=by
 show ((m q).bd fun a=>fun r=>(untilP s m n r).bd fun t=>M.ret (a::t)).bd _=(m q).bd _
 cases m q with
 | out=>rfl
 | bad r=>rfl
 | ok a r =>
  show ((untilP s m n r).bd fun t=>M.ret (a::t)).bd _=(untilP s m n r).bd _
  cases untilP s m n r<;>rfl
end
theorem block_said (c:Cx) (h:Bool) {m:M Nd} [hS:Suf m] [hC:Con m] (HS:Said 208 #[.pointer (some ⟨c.pb,0,none⟩)] c false NdV m) {n:Nat} (hn:n≤1000000000):Said 182 #[.pointer (some ⟨c.pb,0,none⟩)] c false NdV (blockP c.e m n):=fun w r k hne=>by
 have HX:=η HS
 clear HS
 have TX:=η k.tx
 obtain⟨W0,HW,A⟩:=Sw.s1 k
 obtain⟨R,hR⟩:∃R,R=blockP c.e m n r:=⟨_,rfl⟩
 rw[←hR] at hne ⊢
 obtain⟨io,hio,hiz,his,hib⟩:=info_parts info_83
 have HIO:=η (And.intro hio (And.intro hiz (And.intro his hib)))
 clear hio hiz his hib
 have HMF:=hmf
 obtain⟨HN,HR⟩:=zd2 hne hR
 clear hR hne k
 go_in
 go_upto_region 1 with fail
 rw[←HW.o]
 clear HW
 go_wp2_with fail
 have TX2:=η (A.o.pw.tx)
 refine (offset_any A.o.pw).mono ?_
 rintro _ W1 ⟨rfl,b⟩
 replace A:=Sw.bel A b
 clear b
 go_wp2_with fail
 cases a3:(wl (r)==[123]) with
 | false =>
  refine (expect_no A.o.pw (s:=⟨#[123]⟩) a3).mono ?_
  rintro _ W4 ⟨rfl,s⟩
  exact⟨rfl,Sw.bd A s (HR.o.trans (bd_bad (exp_f a3)))⟩
 | true =>
  have H5:=η (HR.o.trans (bd_ok (exp_t a3)))
  refine (expect_yes A.o.pw (s:=⟨#[123]⟩) a3 π).mono ?_
  rintro _ W4 ⟨rfl,s,p⟩
  replace A:=Sw.n A s p
  clear s p HR a3
  replace A:=Sw.nil A
  go_wp2_with fail
  have AL:=Sw.keep A fun X k=>k.2
  have HT:Hid (([]:List Nd).length+n≤n+n+3∧R=(untilP [125] (m) n ((r).tail)).bd fun t=>M.ret (Nd.mk 11 e0 0 (offP c.e r) ([]++t))):=⟨by show 0+n≤n+n+3;omega,H5.o.trans (rfl)⟩
  clear H5 A
  go_loopw [4] (fun v wr=>∃l q n1,Hid (Sw c w (w.heap.size+1) wr q false (RowX ((w.heap.size+1)) v l))∧Hid ((l:List Nd).length+n1≤n+n+3∧R=(untilP [125] (m) n1 q).bd fun t=>M.ret (Nd.mk 11 e0 0 (offP c.e r) (l++t)))) (fun _ wr=>leftN c wr)
  case atStart=>exact⟨_,_,_,AL,HT⟩
  case round =>
   clear AL HT
   obtain⟨l,q,n1,A,HT⟩:=hrel
   have HZ6:Hid (w.heap.size≤w.heap.size+1):=Nat.le_succ _
   have HN7:Hid (w.heap.size+1≤w.heap.size+1):=Nat.le_refl _
   obtain⟨_,_,xs,ho,hr⟩:=Sw.now A
   obtain⟨Ar,cr,rfl⟩:=row_form ho
   clear ho hr
   cases hn1:n1 with
   | zero=>exact absurd (HT.o.2.trans (by rw[hn1];rfl)) HN.o
   | succ n3 =>
   subst hn1
   have HL0:=η A.o.pw.left
   have HL8:Hid ((l:List Nd).length≤n+n+3):=(by have:=HT.o.1;show _≤_;omega)
   have HLN:=η HT.o.1
   cases hw:(wl q==[125]) with
   | true =>
    have HV:Hid (R=.ok (Nd.mk 11 e0 0 (offP c.e r) l) q.tail):=HT.o.2.trans (by rw[until_succ,acc_t hw];show Re.ok (Nd.mk 11 e0 0 (offP c.e r) (l++[])) q.tail=_;rw[List.append_nil])
    go_wp2_with fail
    refine (accept_yes A.o.pw (s:=⟨#[125]⟩) hw π).mono ?_
    rintro _ W9 ⟨rfl,s,p⟩
    replace A:=Sw.n A s p
    clear s p hw HT
    go_wp2_with fail
    refine (node_any _ _ _ _ _ _ _ _).mono ?_
    rintro _ W11 ⟨rfl,b⟩
    replace A:=Sw.bel A b
    clear b
    have E:=Sw.e A (k:=11) (s:=e0) (n:=0) (p:=(offP c.e (r))) (D:=Ar) (l:=(l.length)) (cap:=cr) (a:=.mk 11 e0 0 (offP c.e (r)) l) fun X hx k=>NdR.of ⟨by unfold i64;omega,(by unfold i64;omega),TX2.o.2.2.2.2⟩ (by show e0.size≤_;decide) (RowX.nds k HZ6.o)
    have O:=setRow_heap _ _ _ (cl 11 e0 0 (offP c.e (r)) Ar (l.length) cr).toArray _ _ (A.o.bx rfl)
    go_wp2_with (refine wpList_store_row rfl 83 _ _ rfl w.heap.size (cl 11 e0 0 (offP c.e (r)) Ar (l.length) cr).toArray rfl rfl 83 _ (A.o.bx rfl) Δ rfl (by simp[Value.oneCell']) ?_)
    exact bodyPost_ret (results_cell_row results182 _ _ w.heap.size 83 _ _ _ rfl O underlying83 rfl Δ) rfl (by rw[HV.o];exact E.o)
   | false =>
    have HV:Hid (R=(m >>= fun a=>fun rr=>(untilP [125] (m) n3 rr).bd fun t=>M.ret (Nd.mk 11 e0 0 (offP c.e r) (l++(a::t)))) q):=HT.o.2.trans (by rw[until_succ,acc_f hw];exact until_bd [125] (m) n3 q (fun t=>M.ret (Nd.mk 11 e0 0 (offP c.e r) (l++t))))
    go_wp2_with fail
    refine (accept_no A.o.pw (s:=⟨#[125]⟩) hw).mono ?_
    rintro _ W10 ⟨rfl,s,p⟩
    replace A:=Sw.n A s p
    clear s p hw HT
    go_wp2_with fail
    cases m12:m (q) with
    | out=>exact absurd (HV.o.trans (bd_out m12)) HN.o
    | bad q15 =>
     refine (Said.bad (HX.o) A.o.pw m12).mono ?_
     rintro _ W13 ⟨rfl,s⟩
     exact⟨rfl,Sw.bd A s (HV.o.trans (bd_bad m12))⟩
    | ok x16 q15 =>
     have HQL:=η ((inferInstance:Con (m)).h _ _ _ m12).2
     obtain⟨H14,Z17,Y18,RL19⟩:=zd4 (HV.o.trans (bd_ok m12)) (Sw.ge A) (A.o.lo.2.2.2) (RowX.lt (Sw.now A))
     refine (Said.ok (HX.o) A.o.pw m12).mono ?_
     rintro _ W13 ⟨_,rfl,⟨k20,s21,n22,p23,D24,l25,c26,rfl,hnd⟩,s,p⟩
     replace A:=Sw.nd A s p hnd
     clear s p hnd m12 HV
     obtain⟨_,_,xs30,ho,hr⟩:=(Sw.now A).1
     obtain⟨HO27,HRW28,HD29⟩:=zd3 ho hr ((Sw.now A).2)
     clear ho hr
     go_wp2_with (first|(at_builtin;refine wpList_append_own_at _ rfl (.tmp 12) (.tmp 15) 81 rfl (w.heap.size+1) 83 io _ 5 64 underlying81 HIO.o.1 HIO.o.2.1 HIO.o.2.2.1 HIO.o.2.2.2 rfl π (.slice Ar (l.length) cr) (l.length) xs30 rfl (row_al HO27.o _) ⟨W13.heap.size,0,none⟩ 1 1 (cl k20 s21 n22 p23 D24 l25 c26) rfl rfl (World.news_of_block (Hs.new _ _ _)) (by intro u hu;simp at hu;repeat (first|(subst hu;rfl)|(rcases hu with rfl|hu;rfl))) (by have:=HL8.o;unfold maxLen;omega) (by have:=HL8.o;omega) (sz_al (RowX.lt (Sw.now A).1).1 _) ?_;intro vv W33 hown hgrow hnil hvb;obtain⟨Ar31,cr32,rfl⟩:=row_form hown;replace A:=Sw.push A hgrow hvb hown (by simp<;>omega) HRW28.o HD29.o rfl RL19.o HN7.o;clear hown hgrow hnil hvb))
     refine⟨⟨l++[x16],q15,n3,A,⟨by have:=HLN.o;rw[List.length_append];simp;omega,H14.o.trans (by simp only[List.append_assoc];rfl)⟩⟩,?_⟩
     refine Nat.lt_of_le_of_lt (Nat.le_of_eq A.o.pw.left) ?_
     rw[HL0.o]
     exact HQL.o
end Go.Proofs.YtbmknjfgjphfbaaGreatDoor
