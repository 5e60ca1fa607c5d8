import Derived.Test.YtbmknjfgjphfbaaGreatDoorZ10
set_option linter.all false
namespace Go.Proofs.YtbmknjfgjphfbaaGreatDoor
open Proofs.Tryz RowKit Maps WideMaps ChangeMaps
set_option maxRecDepth 100000
set_option maxHeartbeats 8000000
theorem send_said (c:Cx) (h:Bool) {n:Nat} (hn:n≤1000000000):Said 225 #[.pointer (some ⟨c.pb,0,none⟩)] c false NdV (sendP c.e n):=fun w r k hne=>by
 obtain⟨EX,AR⟩:=zd2 (expr_said c false hn) (args_said c false (expr_said c false hn) hn)
 have TX:=η k.tx
 obtain⟨W0,HW,A⟩:=Sw.s1 k
 obtain⟨R,hR⟩:∃R,R=sendP c.e n r:=⟨_,rfl⟩
 rw[←hR] at hne ⊢
 obtain⟨io,hio,hiz,his,hib⟩:=info_parts info_83
 have HIO:=η (And.intro hio (And.intro hiz (And.intro his hib)))
 clear hio hiz his hib
 have HMF:=hmf
 obtain⟨HN,HR⟩:=zd2 hne hR
 clear hR hne k
 go_in
 go_upto_region 1 with fail
 rw[←HW.o]
 clear HW
 go_wp2_with fail
 have TX2:=η (A.o.pw.tx)
 refine (offset_any A.o.pw).mono ?_
 rintro _ W1 ⟨rfl,b⟩
 replace A:=Sw.bel A b
 clear b
 go_wp2_with fail
 cases a3:(wl (r)==[115,101,110,100]) with
 | false =>
  refine (expect_no A.o.pw (s:=⟨#[115,101,110,100]⟩) a3).mono ?_
  rintro _ W4 ⟨rfl,s⟩
  exact⟨rfl,Sw.bd A s (HR.o.trans (bd_bad (exp_f a3)))⟩
 | true =>
  have H5:=η (HR.o.trans (bd_ok (exp_t a3)))
  refine (expect_yes A.o.pw (s:=⟨#[115,101,110,100]⟩) a3 π).mono ?_
  rintro _ W4 ⟨rfl,s,p⟩
  replace A:=Sw.n A s p
  clear s p HR a3
  go_wp2_with fail
  cases m6:exprP c.e n false ((r).tail) with
  | out=>exact absurd (H5.o.trans (bd_out m6)) HN.o
  | bad q9 =>
   refine (Said.bad (EX.o) A.o.pw m6).mono ?_
   rintro _ W7 ⟨rfl,s⟩
   exact⟨rfl,Sw.bd A s (H5.o.trans (bd_bad m6))⟩
  | ok x10 q9 =>
   obtain⟨H8,Z11,Y12⟩:=zd3 (H5.o.trans (bd_ok m6)) (Sw.ge A) (A.o.lo.2.2.2)
   refine (Said.ok (EX.o) A.o.pw m6).mono ?_
   rintro _ W7 ⟨_,rfl,⟨k13,s14,n15,p16,D17,l18,c19,rfl,hnd⟩,s,p⟩
   replace A:=Sw.nd A s p hnd
   have SZ20:=η (s.size)
   clear s p hnd m6 H5
   replace A:=Sw.one A (Sw.now A).2 Y12.o SZ20.o
   have HL21:Hid (([x10]:List Nd).length≤1):=Nat.le_refl _
   go_wp2_with fail
   cases a22:uppB (wl (q9)) with
   | false =>
    refine (name_no A.o.pw p_uppB a22).mono ?_
    rintro _ W23 ⟨rfl,s⟩
    exact⟨rfl,Sw.bd A s (H8.o.trans (bd_bad (nam_f a22)))⟩
   | true =>
    have H24:=η (H8.o.trans (bd_ok (nam_t a22)))
    have TS25:=η (A.o.pw.tx.2.1)
    refine (name_yes A.o.pw p_uppB a22 (by rfl)).mono ?_
    rintro _ W23 ⟨rfl,s,p⟩
    replace A:=Sw.n A s p
    clear s p H8 a22
    go_wp2_with fail
    cases m26:argsP (exprP c.e n false) n ((q9).tail) with
    | out=>exact absurd (H24.o.trans (bd_out m26)) HN.o
    | bad q29 =>
     refine (Said.bad (AR.o) A.o.pw m26).mono ?_
     rintro _ W27 ⟨rfl,s⟩
     exact⟨rfl,Sw.bd A s (H24.o.trans (bd_bad m26))⟩
    | ok x30 q29 =>
     obtain⟨H28,Z31,Y32,RL33⟩:=zd4 (H24.o.trans (bd_ok m26)) (Sw.ge A) (A.o.lo.2.2.2) (RowX.lt (Sw.now A).2)
     refine (Said.ok (AR.o) A.o.pw m26).mono ?_
     rintro _ W27 ⟨_,rfl,hrow,s,p⟩
     obtain⟨Ar34,cr35,rfl⟩:=hrow.form
     have HL36:=η (hrow.1)
     replace A:=Sw.rw A s p hrow
     clear s p hrow m26 H24
     obtain⟨_,_,xs41,ho,hr⟩:=(Sw.now A).1.2
     obtain⟨_,_,xs42,ho2,hr2⟩:=(Sw.now A).2
     obtain⟨HO37,HRW38,HO39,HRW40,RN46⟩:=zd5 ho hr ho2 hr2 (RowX.lt (Sw.now A).2)
     have CP50:=η ((RowX.cap (Sw.now A).1.2).2)
     have HL51:Hid (1+x30.length≤4000000000):=(by have:=HL21.o;have:=HL36.o;show _≤_;omega)
     have hcs:=ho2.2
     clear ho hr ho2 hr2
     rcases hcs with ⟨e49,hz⟩|⟨g47,cap48,_,e49,_⟩
     · obtain rfl:x30=[]:=List.eq_nil_of_length_eq_zero hz
       have E52:=η e49
       clear e49 hz
       go_wp2_with (at_builtin;refine wpList_app_nil rfl (.tmp 17) (.tmp 19) rfl (some ⟨W7.heap.size,0,none⟩) (1) 1 rfl E52.o CP50.o ?_)
       refine (node_any _ _ _ _ _ _ _ _).mono ?_
       rintro _ W53 ⟨rfl,b⟩
       replace A:=Sw.bel A b
       clear b
       have E:=Sw.e A (k:=56) (s:=(wrd (q9))) (n:=0) (p:=(offP c.e (r))) (D:=(some ⟨W7.heap.size,0,none⟩)) (l:=(1)) (cap:=1) (a:=.mk 56 (wrd (q9)) 0 (offP c.e (r)) [x10]) fun X hx k=>NdR.of ⟨by unfold i64;omega,(by unfold i64;omega),TX2.o.2.2.2.2⟩ TS25.o (RowX.nds k.1.2 Z11.o)
       have O:=setRow_heap _ _ _ (cl 56 (wrd (q9)) 0 (offP c.e (r)) (some ⟨W7.heap.size,0,none⟩) (1) 1).toArray _ _ (A.o.bx rfl)
       go_wp2_with (refine wpList_store_row rfl 83 _ _ rfl w.heap.size (cl 56 (wrd (q9)) 0 (offP c.e (r)) (some ⟨W7.heap.size,0,none⟩) (1) 1).toArray rfl rfl 83 _ (A.o.bx rfl) Δ rfl (by simp[Value.oneCell']) ?_)
       exact bodyPost_ret (results_cell_row results225 _ _ w.heap.size 83 _ _ _ rfl O underlying83 rfl Δ) rfl (by rw[H28.o];exact E.o)
     · have E52:=η e49
       clear e49
       go_wp2_with (first|(at_builtin;refine wpList_append_own_at _ rfl (.tmp 17) (.tmp 19) 81 rfl W4.heap.size 83 io _ 5 64 underlying81 HIO.o.1 HIO.o.2.1 HIO.o.2.2.1 HIO.o.2.2.2 rfl π (.slice (some ⟨W7.heap.size,0,none⟩) (1) 1) (1) xs41 rfl HO37.o ⟨g47,0,none⟩ x30.length cap48 xs42 E52.o HO39.o.1 (HO39.o.cells (by rw[E52.o];rfl)) (row_one HRW40.o) (by have:=HL21.o;have:=HL36.o;unfold maxLen;omega) (by have:=HL21.o;have:=HL36.o;omega) ((RowX.lt (Sw.now A).1.2).1) ?_;intro vv W45 hown hgrow hnil hvb;obtain⟨Ar43,cr44,rfl⟩:=row_form hown;replace A:=Sw.pushs A hgrow hvb hown (by simp) HRW38.o HRW40.o RL33.o Y12.o RN46.o.1;clear hown hgrow hnil hvb))
       refine (node_any _ _ _ _ _ _ _ _).mono ?_
       rintro _ W54 ⟨rfl,b⟩
       replace A:=Sw.bel A b
       clear b
       have E:=Sw.e A (k:=56) (s:=(wrd (q9))) (n:=0) (p:=(offP c.e (r))) (D:=Ar43) (l:=(1+x30.length)) (cap:=cr44) (a:=.mk 56 (wrd (q9)) 0 (offP c.e (r)) ([x10]++x30)) fun X hx k=>NdR.of ⟨by unfold i64;omega,(by unfold i64;omega),TX2.o.2.2.2.2⟩ TS25.o (RowX.nds k Z11.o)
       have O:=setRow_heap _ _ _ (cl 56 (wrd (q9)) 0 (offP c.e (r)) Ar43 (1+x30.length) cr44).toArray _ _ (A.o.bx rfl)
       go_wp2_with (refine wpList_store_row rfl 83 _ _ rfl w.heap.size (cl 56 (wrd (q9)) 0 (offP c.e (r)) Ar43 (1+x30.length) cr44).toArray rfl rfl 83 _ (A.o.bx rfl) Δ rfl (by simp[Value.oneCell']) ?_)
       exact bodyPost_ret (results_cell_row results225 _ _ w.heap.size 83 _ _ _ rfl O underlying83 rfl Δ) rfl (by rw[H28.o];exact E.o)
theorem do_said (c:Cx) (h:Bool) {n:Nat} (hn:n≤1000000000):Said 226 #[.pointer (some ⟨c.pb,0,none⟩)] c false NdV (doP c.e n):=fun w r k hne=>by
 have AR:=η (args_said c false (expr_said c false hn) hn)
 have TX:=η k.tx
 obtain⟨W0,HW,A⟩:=Sw.s1 k
 obtain⟨R,hR⟩:∃R,R=doP c.e n r:=⟨_,rfl⟩
 rw[←hR] at hne ⊢
 obtain⟨io,hio,hiz,his,hib⟩:=info_parts info_83
 have HIO:=η (And.intro hio (And.intro hiz (And.intro his hib)))
 clear hio hiz his hib
 have HMF:=hmf
 obtain⟨HN,HR⟩:=zd2 hne hR
 clear hR hne k
 go_in
 go_upto_region 1 with fail
 rw[←HW.o]
 clear HW
 go_wp2_with fail
 have TX2:=η (A.o.pw.tx)
 refine (offset_any A.o.pw).mono ?_
 rintro _ W1 ⟨rfl,b⟩
 replace A:=Sw.bel A b
 clear b
 go_wp2_with fail
 cases a3:(wl (r)==[100,111]) with
 | false =>
  refine (expect_no A.o.pw (s:=⟨#[100,111]⟩) a3).mono ?_
  rintro _ W4 ⟨rfl,s⟩
  exact⟨rfl,Sw.bd A s (HR.o.trans (bd_bad (exp_f a3)))⟩
 | true =>
  have H5:=η (HR.o.trans (bd_ok (exp_t a3)))
  refine (expect_yes A.o.pw (s:=⟨#[100,111]⟩) a3 π).mono ?_
  rintro _ W4 ⟨rfl,s,p⟩
  replace A:=Sw.n A s p
  clear s p HR a3
  go_wp2_with fail
  cases a6:lowB (wl ((r).tail)) with
  | false =>
   refine (name_no A.o.pw p_lowB a6).mono ?_
   rintro _ W7 ⟨rfl,s⟩
   exact⟨rfl,Sw.bd A s (H5.o.trans (bd_bad (nam_f a6)))⟩
  | true =>
   have H8:=η (H5.o.trans (bd_ok (nam_t a6)))
   have TS9:=η (A.o.pw.tx.2.1)
   refine (name_yes A.o.pw p_lowB a6 (by rfl)).mono ?_
   rintro _ W7 ⟨rfl,s,p⟩
   replace A:=Sw.n A s p
   clear s p H5 a6
   go_wp2_with fail
   cases m10:argsP (exprP c.e n false) n (((r).tail).tail) with
   | out=>exact absurd (H8.o.trans (bd_out m10)) HN.o
   | bad q13 =>
    refine (Said.bad (AR.o) A.o.pw m10).mono ?_
    rintro _ W11 ⟨rfl,s⟩
    exact⟨rfl,Sw.bd A s (H8.o.trans (bd_bad m10))⟩
   | ok x14 q13 =>
    obtain⟨H12,Z15,Y16⟩:=zd3 (H8.o.trans (bd_ok m10)) (Sw.ge A) (A.o.lo.2.2.2)
    refine (Said.ok (AR.o) A.o.pw m10).mono ?_
    rintro _ W11 ⟨_,rfl,hrow,s,p⟩
    obtain⟨Ar17,cr18,rfl⟩:=hrow.form
    have HL19:=η (hrow.1)
    replace A:=Sw.rw A s p hrow
    clear s p hrow m10 H8
    go_wp2_with fail
    cases a20:(wl (q13)==[116,104,101,110]) with
    | false =>
     refine (expect_no A.o.pw (s:=⟨#[116,104,101,110]⟩) a20).mono ?_
     rintro _ W21 ⟨rfl,s⟩
     exact⟨rfl,Sw.bd A s (H12.o.trans (bd_bad (exp_f a20)))⟩
    | true =>
     have H22:=η (H12.o.trans (bd_ok (exp_t a20)))
     refine (expect_yes A.o.pw (s:=⟨#[116,104,101,110]⟩) a20 π).mono ?_
     rintro _ W21 ⟨rfl,s,p⟩
     replace A:=Sw.n A s p
     clear s p H12 a20
     go_wp2_with fail
     have TX24:=η (A.o.pw.tx)
     refine (offset_any A.o.pw).mono ?_
     rintro _ W23 ⟨rfl,b⟩
     replace A:=Sw.bel A b
     clear b
     go_wp2_with fail
     cases a25:uppB (wl ((q13).tail)) with
     | false =>
      refine (name_no A.o.pw p_uppB a25).mono ?_
      rintro _ W26 ⟨rfl,s⟩
      exact⟨rfl,Sw.bd A s (H22.o.trans (bd_bad (nam_f a25)))⟩
     | true =>
      have H27:=η (H22.o.trans (bd_ok (nam_t a25)))
      have TS28:=η (A.o.pw.tx.2.1)
      refine (name_yes A.o.pw p_uppB a25 (by rfl)).mono ?_
      rintro _ W26 ⟨rfl,s,p⟩
      replace A:=Sw.n A s p
      clear s p H22 a25
      go_wp2_with fail
      obtain⟨RL29,Z31,Y32⟩:=zd3 (RowX.lt (Sw.now A).2) (Sw.ge A) (A.o.lo.2.2.2)
      refine (node_any _ _ _ _ _ _ _ _).mono ?_
      rintro _ W30 ⟨rfl,b⟩
      replace A:=Sw.nd A (Stp.of_below b) (A.o.pw.bel b) (cs:=cl 75 (wrd ((q13).tail)) 0 (offP c.e ((q13).tail)) none 0 0) (a:=(Nd.mk 75 (wrd ((q13).tail)) 0 (offP c.e ((q13).tail)) [])) (NdR.of ⟨by unfold i64;omega,by unfold i64;omega,TX24.o.2.2.2.2⟩ TS28.o kid0)
      clear b
      obtain⟨_,_,xs36,ho,hr⟩:=(Sw.now A).1.2
      obtain⟨HO33,HRW34,HD35⟩:=zd3 ho hr ((Sw.now A).2)
      clear ho hr
      go_wp2_with (first|(at_builtin;refine wpList_append_own_at _ rfl (.tmp 21) (.tmp 26) 81 rfl W7.heap.size 83 io _ 5 64 underlying81 HIO.o.1 HIO.o.2.1 HIO.o.2.2.1 HIO.o.2.2.2 rfl π (.slice Ar17 (x14.length) cr18) (x14.length) xs36 rfl (row_al HO33.o _) ⟨W30.heap.size,0,none⟩ 1 1 (cl 75 (wrd ((q13).tail)) 0 (offP c.e ((q13).tail)) none 0 0) rfl rfl (World.news_of_block (Hs.new _ _ _)) (by intro u hu;simp at hu;repeat (first|(subst hu;rfl)|(rcases hu with rfl|hu;rfl))) (by have:=HL19.o;unfold maxLen;omega) (by have:=HL19.o;omega) (sz_al (RowX.lt (Sw.now A).1.2).1 _) ?_;intro vv W39 hown hgrow hnil hvb;obtain⟨Ar37,cr38,rfl⟩:=row_form hown;replace A:=Sw.push A hgrow hvb hown (by simp<;>omega) HRW34.o HD35.o rfl RL29.o Y16.o;clear hown hgrow hnil hvb))
      refine (node_any _ _ _ _ _ _ _ _).mono ?_
      rintro _ W41 ⟨rfl,b⟩
      replace A:=Sw.bel A b
      clear b
      have E:=Sw.e A (k:=59) (s:=(wrd ((r).tail))) (n:=0) (p:=(offP c.e (r))) (D:=Ar37) (l:=(x14.length+1)) (cap:=cr38) (a:=.mk 59 (wrd ((r).tail)) 0 (offP c.e (r)) (x14++[(Nd.mk 75 (wrd ((q13).tail)) 0 (offP c.e ((q13).tail)) [])])) fun X hx k=>NdR.of ⟨by unfold i64;omega,(by unfold i64;omega),TX2.o.2.2.2.2⟩ TS9.o (RowX.nds k Z15.o)
      have O:=setRow_heap _ _ _ (cl 59 (wrd ((r).tail)) 0 (offP c.e (r)) Ar37 (x14.length+1) cr38).toArray _ _ (A.o.bx rfl)
      go_wp2_with (refine wpList_store_row rfl 83 _ _ rfl w.heap.size (cl 59 (wrd ((r).tail)) 0 (offP c.e (r)) Ar37 (x14.length+1) cr38).toArray rfl rfl 83 _ (A.o.bx rfl) Δ rfl (by simp[Value.oneCell']) ?_)
      exact bodyPost_ret (results_cell_row results226 _ _ w.heap.size 83 _ _ _ rfl O underlying83 rfl Δ) rfl (by rw[H27.o];exact E.o)
theorem spawn_said (c:Cx) {n:Nat} (hn:n≤1000000000) (p0 bp:Int) (bs:Ê) (h0:i64 p0) (hb:i64 bp) (hbs:bs.size≤maxLen):Said 222 #[.pointer (some ⟨c.pb,0,none⟩),.int .i64 p0,.agg (cl 40 bs 0 bp none 0 0).toArray] c false NdV (spawnP c.e n p0 (.mk 40 bs 0 bp [])):=fun wo r k0 hne=>by
 obtain⟨EX,AR,HP,HBD⟩:=zd4 (expr_said c false hn) (args_said c false (expr_said c false hn) hn) h0 (And.intro hb hbs)
 clear h0 hb hbs
 obtain⟨w,hw⟩:∃w,Hid (w=wo.alloc (.cells (cl 40 bs 0 bp none 0 0).toArray 83)):=⟨_,rfl⟩
 have k:PW c w r false:=by rw[hw.o];exact k0.bel (belA (belR _) _)
 have HBX:Hid (Hs w wo.heap.size 83 (cl 40 bs 0 bp none 0 0).toArray):=by show Hs _ _ _ _;rw[hw.o];exact Hs.new _ _ _
 have HNE:Hid (¬only c.pb wo.heap.size):=fun e=>by have:=k0.box.lt;unfold only at e;omega
 clear k0
 refine Calls.mono (R:=Res NdV c w false (spawnP c.e n p0 (.mk 40 bs 0 bp []) r)) ?_ (fun en w2 x=>Res.up hw x)
 have TX:=η k.tx
 obtain⟨W0,HW,A⟩:=Sw.s1 k
 obtain⟨R,hR⟩:∃R,R=spawnP c.e n p0 (.mk 40 bs 0 bp []) r:=⟨_,rfl⟩
 rw[←hR] at hne ⊢
 obtain⟨io,hio,hiz,his,hib⟩:=info_parts info_83
 have HIO:=η (And.intro hio (And.intro hiz (And.intro his hib)))
 clear hio hiz his hib
 have HMF:=hmf
 obtain⟨HN,HR⟩:=zd2 hne hR
 clear hR hne k
 go_in
 go_upto_region 1 with fail
 rw[←hw.o,←HW.o]
 rw[show wo.heap.size+1=w.heap.size by rw[hw.o];simp]
 clear HW
 go_wp2_with fail
 cases a1:(wl (r)==[115,112,97,119,110]) with
 | false =>
  refine (expect_no A.o.pw (s:=⟨#[115,112,97,119,110]⟩) a1).mono ?_
  rintro _ W2 ⟨rfl,s⟩
  exact⟨rfl,Sw.bd A s (HR.o.trans (bd_bad (exp_f a1)))⟩
 | true =>
  have H3:=η (HR.o.trans (bd_ok (exp_t a1)))
  refine (expect_yes A.o.pw (s:=⟨#[115,112,97,119,110]⟩) a1 π).mono ?_
  rintro _ W2 ⟨rfl,s,p⟩
  replace A:=Sw.n A s p
  clear s p HR a1
  go_wp2_with fail
  cases a4:uppB (wl ((r).tail)) with
  | false =>
   refine (name_no A.o.pw p_uppB a4).mono ?_
   rintro _ W5 ⟨rfl,s⟩
   exact⟨rfl,Sw.bd A s (H3.o.trans (bd_bad (nam_f a4)))⟩
  | true =>
   have H6:=η (H3.o.trans (bd_ok (nam_t a4)))
   have TS7:=η (A.o.pw.tx.2.1)
   refine (name_yes A.o.pw p_uppB a4 (by rfl)).mono ?_
   rintro _ W5 ⟨rfl,s,p⟩
   replace A:=Sw.n A s p
   clear s p H3 a4
   go_upto_region 3 with fail
   replace A:=Sw.bel A (belDr W5)
   refine ttB (fun X=>Hs X wo.heap.size 83 (cl 40 bs 0 bp none 0 0).toArray) 5 (hs_stp HBX.o A.o.st HNE.o) (fun hHeld=>?_)
   refine ttQ 0 ?_ (hy:=fun w hS=>ld24 (.tmp 5) rfl _ rfl _ rfl hS)
   refine ttQ 2 ?_
   have HMZ:=η A.o.lo.2.2.2
   refine ttE2 1 3 (fun K hK=>?_) (fun K hK=>?_)
   · go_simp
     replace A:=Sw.one (m:=W5.drew.heap.size) A (cs:=(cl 40 bs 0 bp none 0 0)) (a:=(Nd.mk 40 bs 0 bp [])) (NdR.of ⟨by unfold i64;omega,by unfold i64;omega,HBD.o.1⟩ HBD.o.2 kid0) HMZ.o (Nat.le_refl _)
     refine ttR hK (fun _=>(hs_stp HBX.o A.o.st HNE.o)) (fun hHeld=>?_)
     clear hK K
     refine ttE 3 (fun K hK=>?_)
     go_simp
     cases m8:argsP (exprP c.e n false) n (((r).tail).tail) with
     | out=>exact absurd (H6.o.trans (bd_out m8)) HN.o
     | bad q11 =>
      refine (Said.bad (AR.o) A.o.pw m8).mono ?_
      rintro _ W9 ⟨rfl,s⟩
      exact⟨rfl,Sw.bd A s (H6.o.trans (bd_bad m8))⟩
     | ok x12 q11 =>
      have H10:=η (H6.o.trans (bd_ok m8))
      have Y16:=η A.o.lo.2.2.2
      refine (Said.ok (AR.o) A.o.pw m8).mono ?_
      rintro _ W9 ⟨_,rfl,hrow,s,p⟩
      obtain⟨Ar13,cr14,rfl⟩:=hrow.form
      have HL15:=η hrow.1
      have SZ:=η s.size
      replace A:=Sw.rw A s p hrow
      clear s p hrow m8
      refine ttR hK (fun _=>(hs_stp HBX.o A.o.st HNE.o)) (fun hHeld=>?_)
      clear hK K
      refine ttE 4 (fun K hK=>?_)
      rw[if_pos (by rfl)]
      refine Sw.appG (K3:=fun _=>True) A (fun _ _ _ _=>trivial) (Sw.now A).1.2 (Sw.now A).2 (by simp) (by have:=HL15.o;omega) (by simp) HMZ.o (fun b e=>e.elim) (fun b e x=>by have e:_=b:=Option.some.inj e;have t:=x.1.1;simp at t e;omega) (.tmp 14) (.tmp 16) rfl rfl rfl ?_
      rintro A6 c6 W6 A
      refine ttR hK (fun _=>(hs_stp HBX.o A.o.st HNE.o)) (fun hHeld=>?_)
      clear hK K
      refine ttE 5 (fun K hK=>?_)
      go_simp
      refine ttR hK (fun e=>absurd rfl e) (fun _=>?_)
      clear hK K
      refine ttD ?_
      have ZW:=η (Nat.le_trans (Nat.le_succ _) HMZ.o)
      have HLL:Hid (1+x12.length≤2000000003):=(by have:=HL15.o;show _≤_;omega)
      go_wp2_with fail
      cases a17:(wl (q11)==[111,110]) with
      | true =>
       have H19:=η (H10.o.trans (acc_t a17))
       refine (accept_yes A.o.pw (s:=⟨#[111,110]⟩) a17 π).mono ?_
       rintro _ W18 ⟨rfl,s,p⟩
       replace A:=Sw.n A s p
       clear s p H10 a17
       go_wp2_with fail
       cases m20:exprP c.e n false ((q11).tail) with
       | out=>exact absurd (H19.o.trans (bd_out m20)) HN.o
       | bad q23 =>
        refine (Said.bad (EX.o) A.o.pw m20).mono ?_
        rintro _ W21 ⟨rfl,s⟩
        exact⟨rfl,Sw.bd A s (H19.o.trans (bd_bad m20))⟩
       | ok x24 q23 =>
        obtain⟨H22,Z25,Y26,RL27⟩:=zd4 (H19.o.trans (bd_ok m20)) (Sw.ge A) (A.o.lo.2.2.2) (RowX.lt (Sw.now A).2)
        refine (Said.ok (EX.o) A.o.pw m20).mono ?_
        rintro _ W21 ⟨_,rfl,⟨k28,s29,n30,p31,D32,l33,c34,rfl,hnd⟩,s,p⟩
        replace A:=Sw.nd A s p hnd
        clear s p hnd m20 H19
        obtain⟨_,_,xs38,ho,hr⟩:=(Sw.now A).1.2
        simp only[List.length_append,List.length_cons,List.length_nil,Nat.zero_add] at ho
        obtain⟨HO35,HRW36,HD37⟩:=zd3 ho hr ((Sw.now A).2)
        clear ho hr
        go_wp2_with (first|(at_builtin;refine wpList_append_own_at _ rfl (.tmp 22) (.tmp 25) 81 rfl (W5.drew.heap.size) 83 io _ 5 64 underlying81 HIO.o.1 HIO.o.2.1 HIO.o.2.2.1 HIO.o.2.2.2 rfl π (.slice A6 (1+x12.length) c6) (1+x12.length) xs38 rfl (row_al HO35.o _) ⟨W21.heap.size,0,none⟩ 1 1 (cl k28 s29 n30 p31 D32 l33 c34) rfl rfl (World.news_of_block (Hs.new _ _ _)) (by intro u hu;simp at hu;repeat (first|(subst hu;rfl)|(rcases hu with rfl|hu;rfl))) (by have:=HLL.o;unfold maxLen;omega) (by have:=HLL.o;omega) (sz_al (RowX.lt (Sw.now A).1.2).1 _) ?_;intro vv W41 hown hgrow hnil hvb;obtain⟨Ar39,cr40,rfl⟩:=row_form hown;replace A:=Sw.push A hgrow hvb hown (by simp<;>omega) HRW36.o HD37.o rfl RL27.o HMZ.o;clear hown hgrow hnil hvb))
        refine (node_any _ _ _ _ _ _ _ _).mono ?_
        rintro _ W43 ⟨rfl,b⟩
        replace A:=Sw.bel A b
        clear b
        have E:=Sw.e A (k:=58) (s:=(wrd ((r).tail))) (n:=1) (p:=(p0)) (D:=Ar39) (l:=(1+x12.length+1)) (cap:=cr40) (a:=.mk 58 (wrd ((r).tail)) 1 (p0) (([(Nd.mk 40 bs 0 bp [])]++x12)++[x24])) fun X hx k=>NdR.of ⟨by unfold i64;omega,(by unfold i64;omega),HP.o⟩ TS7.o (RowX.nds k ZW.o)
        have O:=setRow_heap _ _ _ (cl 58 (wrd ((r).tail)) 1 (p0) Ar39 (1+x12.length+1) cr40).toArray _ _ (A.o.bx rfl)
        go_wp2_with (refine wpList_store_row rfl 83 _ _ rfl w.heap.size (cl 58 (wrd ((r).tail)) 1 (p0) Ar39 (1+x12.length+1) cr40).toArray rfl rfl 83 _ (A.o.bx rfl) Δ rfl (by simp[Value.oneCell']) ?_)
        exact bodyPost_ret (results_cell_row results222 _ _ w.heap.size 83 _ _ _ rfl O underlying83 rfl Δ) rfl (by rw[H22.o];exact E.o)
      | false =>
       have H45:=η (H10.o.trans (acc_f a17))
       refine (accept_no A.o.pw (s:=⟨#[111,110]⟩) a17).mono ?_
       rintro _ W44 ⟨rfl,s,p⟩
       replace A:=Sw.n A s p
       clear s p H10 a17
       go_wp2_with fail
       refine (node_any _ _ _ _ _ _ _ _).mono ?_
       rintro _ W46 ⟨rfl,b⟩
       replace A:=Sw.bel A b
       clear b
       have E:=Sw.e A (k:=58) (s:=(wrd ((r).tail))) (n:=0) (p:=(p0)) (D:=A6) (l:=(1+x12.length)) (cap:=c6) (a:=.mk 58 (wrd ((r).tail)) 0 (p0) ([(Nd.mk 40 bs 0 bp [])]++x12)) fun X hx k=>NdR.of ⟨by unfold i64;omega,(by unfold i64;omega),HP.o⟩ TS7.o (RowX.nds k.2 ZW.o)
       have O:=setRow_heap _ _ _ (cl 58 (wrd ((r).tail)) 0 (p0) A6 (1+x12.length) c6).toArray _ _ (A.o.bx rfl)
       go_wp2_with (refine wpList_store_row rfl 83 _ _ rfl w.heap.size (cl 58 (wrd ((r).tail)) 0 (p0) A6 (1+x12.length) c6).toArray rfl rfl 83 _ (A.o.bx rfl) Δ rfl (by simp[Value.oneCell']) ?_)
       exact bodyPost_ret (results_cell_row results222 _ _ w.heap.size 83 _ _ _ rfl O underlying83 rfl Δ) rfl (by rw[H45.o];exact E.o)
   · go_simp
     cases m47:argsP (exprP c.e n false) n (((r).tail).tail) with
     | out=>exact absurd (H6.o.trans (bd_out m47)) HN.o
     | bad q50 =>
      refine (Said.bad (AR.o) A.o.pw m47).mono ?_
      rintro _ W48 ⟨rfl,s⟩
      exact⟨rfl,Sw.bd A s (H6.o.trans (bd_bad m47))⟩
     | ok x51 q50 =>
      have H49:=η (H6.o.trans (bd_ok m47))
      have Y55:=η A.o.lo.2.2.2
      refine (Said.ok (AR.o) A.o.pw m47).mono ?_
      rintro _ W48 ⟨_,rfl,hrow,s,p⟩
      obtain⟨Ar52,cr53,rfl⟩:=hrow.form
      have HL54:=η hrow.1
      have SZ:=η s.size
      replace A:=Sw.rwE A s p hrow
      clear s p hrow m47
      refine ttR hK (fun _=>(hs_stp HBX.o A.o.st HNE.o)) (fun hHeld=>?_)
      clear hK K
      refine ttE 1 (fun K hK=>?_)
      go_simp
      replace A:=Sw.one (m:=W5.drew.heap.size) A (cs:=(cl 40 bs 0 bp none 0 0)) (a:=(Nd.mk 40 bs 0 bp [])) (NdR.of ⟨by unfold i64;omega,by unfold i64;omega,HBD.o.1⟩ HBD.o.2 kid0) HMZ.o SZ.o
      refine ttR hK (fun _=>(hs_stp HBX.o A.o.st HNE.o)) (fun hHeld=>?_)
      clear hK K
      refine ttE 4 (fun K hK=>?_)
      rw[if_pos (by rfl)]
      refine Sw.appG (K3:=fun _=>True) A (fun _ _ _ _=>trivial) (Sw.now A).2 (Sw.now A).1.2 (by simp) (by have:=HL54.o;omega) (Nat.le_refl _) HMZ.o (fun b e=>e.elim) (fun b e x=>x.2 (Option.some.inj e).symm) (.tmp 14) (.tmp 16) rfl rfl rfl ?_
      rintro A6 c6 W6 A
      refine ttR hK (fun _=>(hs_stp HBX.o A.o.st HNE.o)) (fun hHeld=>?_)
      clear hK K
      refine ttE 5 (fun K hK=>?_)
      go_simp
      refine ttR hK (fun e=>absurd rfl e) (fun _=>?_)
      clear hK K
      refine ttD ?_
      have ZW:=η (Nat.le_trans (Nat.le_succ _) HMZ.o)
      have HLL:Hid (1+x51.length≤2000000003):=(by have:=HL54.o;show _≤_;omega)
      go_wp2_with fail
      cases a56:(wl (q50)==[111,110]) with
      | true =>
       have H58:=η (H49.o.trans (acc_t a56))
       refine (accept_yes A.o.pw (s:=⟨#[111,110]⟩) a56 π).mono ?_
       rintro _ W57 ⟨rfl,s,p⟩
       replace A:=Sw.n A s p
       clear s p H49 a56
       go_wp2_with fail
       cases m59:exprP c.e n false ((q50).tail) with
       | out=>exact absurd (H58.o.trans (bd_out m59)) HN.o
       | bad q62 =>
        refine (Said.bad (EX.o) A.o.pw m59).mono ?_
        rintro _ W60 ⟨rfl,s⟩
        exact⟨rfl,Sw.bd A s (H58.o.trans (bd_bad m59))⟩
       | ok x63 q62 =>
        obtain⟨H61,Z64,Y65,RL66⟩:=zd4 (H58.o.trans (bd_ok m59)) (Sw.ge A) (A.o.lo.2.2.2) (RowX.lt (Sw.now A).2)
        refine (Said.ok (EX.o) A.o.pw m59).mono ?_
        rintro _ W60 ⟨_,rfl,⟨k67,s68,n69,p70,D71,l72,c73,rfl,hnd⟩,s,p⟩
        replace A:=Sw.nd A s p hnd
        clear s p hnd m59 H58
        obtain⟨_,_,xs77,ho,hr⟩:=(Sw.now A).1.2
        simp only[List.length_append,List.length_cons,List.length_nil,Nat.zero_add] at ho
        obtain⟨HO74,HRW75,HD76⟩:=zd3 ho hr ((Sw.now A).2)
        clear ho hr
        go_wp2_with (first|(at_builtin;refine wpList_append_own_at _ rfl (.tmp 22) (.tmp 25) 81 rfl (W5.drew.heap.size) 83 io _ 5 64 underlying81 HIO.o.1 HIO.o.2.1 HIO.o.2.2.1 HIO.o.2.2.2 rfl π (.slice A6 (1+x51.length) c6) (1+x51.length) xs77 rfl (row_al HO74.o _) ⟨W60.heap.size,0,none⟩ 1 1 (cl k67 s68 n69 p70 D71 l72 c73) rfl rfl (World.news_of_block (Hs.new _ _ _)) (by intro u hu;simp at hu;repeat (first|(subst hu;rfl)|(rcases hu with rfl|hu;rfl))) (by have:=HLL.o;unfold maxLen;omega) (by have:=HLL.o;omega) (sz_al (RowX.lt (Sw.now A).1.2).1 _) ?_;intro vv W80 hown hgrow hnil hvb;obtain⟨Ar78,cr79,rfl⟩:=row_form hown;replace A:=Sw.push A hgrow hvb hown (by simp<;>omega) HRW75.o HD76.o rfl RL66.o HMZ.o;clear hown hgrow hnil hvb))
        refine (node_any _ _ _ _ _ _ _ _).mono ?_
        rintro _ W82 ⟨rfl,b⟩
        replace A:=Sw.bel A b
        clear b
        have E:=Sw.e A (k:=58) (s:=(wrd ((r).tail))) (n:=1) (p:=(p0)) (D:=Ar78) (l:=(1+x51.length+1)) (cap:=cr79) (a:=.mk 58 (wrd ((r).tail)) 1 (p0) (([(Nd.mk 40 bs 0 bp [])]++x51)++[x63])) fun X hx k=>NdR.of ⟨by unfold i64;omega,(by unfold i64;omega),HP.o⟩ TS7.o (RowX.nds k ZW.o)
        have O:=setRow_heap _ _ _ (cl 58 (wrd ((r).tail)) 1 (p0) Ar78 (1+x51.length+1) cr79).toArray _ _ (A.o.bx rfl)
        go_wp2_with (refine wpList_store_row rfl 83 _ _ rfl w.heap.size (cl 58 (wrd ((r).tail)) 1 (p0) Ar78 (1+x51.length+1) cr79).toArray rfl rfl 83 _ (A.o.bx rfl) Δ rfl (by simp[Value.oneCell']) ?_)
        exact bodyPost_ret (results_cell_row results222 _ _ w.heap.size 83 _ _ _ rfl O underlying83 rfl Δ) rfl (by rw[H61.o];exact E.o)
      | false =>
       have H84:=η (H49.o.trans (acc_f a56))
       refine (accept_no A.o.pw (s:=⟨#[111,110]⟩) a56).mono ?_
       rintro _ W83 ⟨rfl,s,p⟩
       replace A:=Sw.n A s p
       clear s p H49 a56
       go_wp2_with fail
       refine (node_any _ _ _ _ _ _ _ _).mono ?_
       rintro _ W85 ⟨rfl,b⟩
       replace A:=Sw.bel A b
       clear b
       have E:=Sw.e A (k:=58) (s:=(wrd ((r).tail))) (n:=0) (p:=(p0)) (D:=A6) (l:=(1+x51.length)) (cap:=c6) (a:=.mk 58 (wrd ((r).tail)) 0 (p0) ([(Nd.mk 40 bs 0 bp [])]++x51)) fun X hx k=>NdR.of ⟨by unfold i64;omega,(by unfold i64;omega),HP.o⟩ TS7.o (RowX.nds k.2 ZW.o)
       have O:=setRow_heap _ _ _ (cl 58 (wrd ((r).tail)) 0 (p0) A6 (1+x51.length) c6).toArray _ _ (A.o.bx rfl)
       go_wp2_with (refine wpList_store_row rfl 83 _ _ rfl w.heap.size (cl 58 (wrd ((r).tail)) 0 (p0) A6 (1+x51.length) c6).toArray rfl rfl 83 _ (A.o.bx rfl) Δ rfl (by simp[Value.oneCell']) ?_)
       exact bodyPost_ret (results_cell_row results222 _ _ w.heap.size 83 _ _ _ rfl O underlying83 rfl Δ) rfl (by rw[H84.o];exact E.o)
end Go.Proofs.YtbmknjfgjphfbaaGreatDoor
