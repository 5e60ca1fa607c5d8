import Derived.Test.YtbmknjfgjphfbaaGreatDoorZ12
set_option linter.all false
namespace Go.Proofs.YtbmknjfgjphfbaaGreatDoor
open Proofs.Tryz RowKit Maps WideMaps ChangeMaps
set_option maxRecDepth 100000
set_option maxHeartbeats 8000000
instance (e:Int) (n:Nat):Con (memberP e n):=by unfold memberP;infer_instance
instance (e:Int) (n:Nat):Con (declP e n):=by unfold declP;infer_instance
theorem member_said (c:Cx) (h:Bool) {n:Nat} (hn:n≤1000000000):Said 147 #[.pointer (some ⟨c.pb,0,none⟩)] c false NdV (memberP c.e n):=fun w r k hne=>by
 obtain⟨EX,FL,TY,BL⟩:=zd4 (expr_said c false hn) (fields_said c false hn) (typ_said c n hn false) (block_said c false (stmt_said c n hn) hn)
 have TX:=η k.tx
 obtain⟨W0,HW,A⟩:=Sw.s1 k
 obtain⟨R,hR⟩:∃R,R=memberP c.e n r:=⟨_,rfl⟩
 rw[←hR] at hne ⊢
 obtain⟨io,hio,hiz,his,hib⟩:=info_parts info_83
 have HIO:=η (And.intro hio (And.intro hiz (And.intro his hib)))
 clear hio hiz his hib
 have HMF:=hmf
 obtain⟨HN,HR⟩:=zd2 hne hR
 clear hR hne k
 go_in
 go_upto_region 1 with fail
 rw[←HW.o]
 clear HW
 go_wp2_with fail
 have TX2:=η (A.o.pw.tx)
 refine (offset_any A.o.pw).mono ?_
 rintro _ W1 ⟨rfl,b⟩
 replace A:=Sw.bel A b
 clear b
 go_wp2_with fail
 cases a3:(wl (r)==[115,116,97,116,101]) with
 | true =>
  have H5:=η (HR.o.trans (acc_t a3))
  refine (accept_yes A.o.pw (s:=⟨#[115,116,97,116,101]⟩) a3 π).mono ?_
  rintro _ W4 ⟨rfl,s,p⟩
  replace A:=Sw.n A s p
  clear s p HR a3
  go_wp2_with fail
  cases a6:lowB (wl ((r).tail)) with
  | false =>
   refine (name_no A.o.pw p_lowB a6).mono ?_
   rintro _ W7 ⟨rfl,s⟩
   exact⟨rfl,Sw.bd A s (H5.o.trans (bd_bad (nam_f a6)))⟩
  | true =>
   have H8:=η (H5.o.trans (bd_ok (nam_t a6)))
   have TS9:=η (A.o.pw.tx.2.1)
   refine (name_yes A.o.pw p_lowB a6 (by rfl)).mono ?_
   rintro _ W7 ⟨rfl,s,p⟩
   replace A:=Sw.n A s p
   clear s p H5 a6
   go_wp2_with fail
   cases a10:(wl (((r).tail).tail)==[58]) with
   | false =>
    refine (expect_no A.o.pw (s:=⟨#[58]⟩) a10).mono ?_
    rintro _ W11 ⟨rfl,s⟩
    exact⟨rfl,Sw.bd A s (H8.o.trans (bd_bad (exp_f a10)))⟩
   | true =>
    have H12:=η (H8.o.trans (bd_ok (exp_t a10)))
    refine (expect_yes A.o.pw (s:=⟨#[58]⟩) a10 π).mono ?_
    rintro _ W11 ⟨rfl,s,p⟩
    replace A:=Sw.n A s p
    clear s p H8 a10
    go_wp2_with fail
    cases m13:typP c.e n ((((r).tail).tail).tail) with
    | out=>exact absurd (H12.o.trans (bd_out m13)) HN.o
    | bad q16 =>
     refine (Said.bad (TY.o) A.o.pw m13).mono ?_
     rintro _ W14 ⟨rfl,s⟩
     exact⟨rfl,Sw.bd A s (H12.o.trans (bd_bad m13))⟩
    | ok x17 q16 =>
     obtain⟨H15,Z18,Y19⟩:=zd3 (H12.o.trans (bd_ok m13)) (Sw.ge A) (A.o.lo.2.2.2)
     refine (Said.ok (TY.o) A.o.pw m13).mono ?_
     rintro _ W14 ⟨_,rfl,⟨k20,s21,n22,p23,D24,l25,c26,rfl,hnd⟩,s,p⟩
     replace A:=Sw.nd A s p hnd
     clear s p hnd m13 H12
     replace A:=Sw.al A (cl k20 s21 n22 p23 D24 l25 c26).toArray
     go_wp2_with (refine wpList_load_row rfl 83 _ rfl W14.heap.size rfl 83 _ _ _ (Sw.now A).2 underlying83 rfl Δ ?_)
     cases a27:(wl (q16)==[61]) with
     | false =>
      refine (expect_no A.o.pw (s:=⟨#[61]⟩) a27).mono ?_
      rintro _ W28 ⟨rfl,s⟩
      exact⟨rfl,Sw.bd A s (H15.o.trans (bd_bad (exp_f a27)))⟩
     | true =>
      have H29:=η (H15.o.trans (bd_ok (exp_t a27)))
      refine (expect_yes A.o.pw (s:=⟨#[61]⟩) a27 π).mono ?_
      rintro _ W28 ⟨rfl,s,p⟩
      replace A:=Sw.n A s p
      clear s p H15 a27
      go_upto_region 7 with fail
      replace A:=Sw.bel A (belDr W28)
      refine ttB (fun X=>Hs X W14.heap.size 83 (cl k20 s21 n22 p23 D24 l25 c26).toArray) 7 ((Sw.now A).2) (fun hHeld=>?_)
      refine ttQ 0 ?_
      refine ttQ 1 ?_
      refine ttQ 2 ?_ (hy:=fun w hS=>ld24 (.tmp 5) rfl _ rfl _ rfl hS)
      refine ttQ 3 ?_
      refine ttE 4 (fun K hK=>?_)
      go_simp
      cases m30:exprP c.e n false ((q16).tail) with
      | out=>exact absurd (H29.o.trans (bd_out m30)) HN.o
      | bad q33 =>
       refine (Said.bad (EX.o) A.o.pw m30).mono ?_
       rintro _ W31 ⟨rfl,s⟩
       exact⟨rfl,Sw.bd A s (H29.o.trans (bd_bad m30))⟩
      | ok x34 q33 =>
       obtain⟨H32,Z35⟩:=zd2 (H29.o.trans (bd_ok m30)) (Sw.ge A)
       refine (Said.ok (EX.o) A.o.pw m30).mono ?_
       rintro _ W31 ⟨_,rfl,⟨k36,s37,n38,p39,D40,l41,c42,rfl,hnd⟩,s,p⟩
       replace A:=Sw.nd A s p hnd
       clear s p hnd m30 H29
       refine ttR hK (fun _=>(Sw.now A).1.2) (fun hHeld=>?_)
       clear hK K
       refine ttE 5 (fun K hK=>?_)
       go_simp
       have Z43:=η (Sw.ge A)
       replace A:=Sw.al A ((cl k20 s21 n22 p23 D24 l25 c26)++(cl k36 s37 n38 p39 D40 l41 c42)).toArray
       refine ttR hK (fun _=>(Sw.now A).1.1.2) (fun hHeld=>?_)
       clear hK K
       refine ttE 6 (fun K hK=>?_)
       go_simp
       refine (node_any _ _ _ _ _ _ _ _).mono ?_
       rintro _ W44 ⟨rfl,b⟩
       replace A:=Sw.bel A b
       clear b
       refine ttR hK (fun _=>(Sw.now A).1.1.2) (fun hHeld=>?_)
       clear hK K
       have E:=Sw.e A (k:=9) (s:=(wrd ((r).tail))) (n:=0) (p:=(offP c.e (r))) (D:=(some ⟨W31.heap.size,0,none⟩)) (l:=2) (cap:=2) (a:=.mk 9 (wrd ((r).tail)) 0 (offP c.e (r)) [x17,x34]) fun X hx k=>NdR.of ⟨by unfold i64;omega,(by unfold i64;omega),TX2.o.2.2.2.2⟩ TS9.o (kid2 (k.2) Z43.o (NdR.lo k.1.1.1.2 Z18.o) (NdR.lo k.1.2 Z35.o) rfl rfl)
       have O:=setRow_heap _ _ _ (cl 9 (wrd ((r).tail)) 0 (offP c.e (r)) (some ⟨W31.heap.size,0,none⟩) 2 2).toArray _ _ (A.o.bx rfl)
       refine ttE 7 (fun K hK=>?_)
       rw[if_pos (by rfl)]
       refine wp_store_row 83 _ _ rfl w.heap.size (cl 9 (wrd ((r).tail)) 0 (offP c.e (r)) (some ⟨W31.heap.size,0,none⟩) 2 2).toArray rfl rfl 83 _ (A.o.bx rfl) Δ rfl (by simp[Value.oneCell']) ?_
       refine ttR hK (fun e=>absurd rfl e) (fun _=>?_)
       clear hK K
       refine ttD ?_
       go_wp2
       exact bodyPost_ret (results_cell_row results147 _ _ w.heap.size 83 _ _ _ rfl O underlying83 rfl Δ) rfl (by rw[H32.o];exact E.o)
 | false =>
  have H46:=η (HR.o.trans (acc_f a3))
  refine (accept_no A.o.pw (s:=⟨#[115,116,97,116,101]⟩) a3).mono ?_
  rintro _ W45 ⟨rfl,s,p⟩
  replace A:=Sw.n A s p
  clear s p HR a3
  go_wp2_with fail
  cases a47:(wl (r)==[111,110]) with
  | false =>
   refine (expect_no A.o.pw (s:=⟨#[111,110]⟩) a47).mono ?_
   rintro _ W48 ⟨rfl,s⟩
   exact⟨rfl,Sw.bd A s (H46.o.trans (bd_bad (exp_f a47)))⟩
  | true =>
   have H49:=η (H46.o.trans (bd_ok (exp_t a47)))
   refine (expect_yes A.o.pw (s:=⟨#[111,110]⟩) a47 π).mono ?_
   rintro _ W48 ⟨rfl,s,p⟩
   replace A:=Sw.n A s p
   clear s p H46 a47
   go_wp2_with fail
   cases a50:uppB (wl ((r).tail)) with
   | false =>
    refine (name_no A.o.pw p_uppB a50).mono ?_
    rintro _ W51 ⟨rfl,s⟩
    exact⟨rfl,Sw.bd A s (H49.o.trans (bd_bad (nam_f a50)))⟩
   | true =>
    have H52:=η (H49.o.trans (bd_ok (nam_t a50)))
    have TS53:=η (A.o.pw.tx.2.1)
    refine (name_yes A.o.pw p_uppB a50 (by rfl)).mono ?_
    rintro _ W51 ⟨rfl,s,p⟩
    replace A:=Sw.n A s p
    clear s p H49 a50
    go_wp2_with fail
    cases m54:fieldsP c.e n (((r).tail).tail) with
    | out=>exact absurd (H52.o.trans (bd_out m54)) HN.o
    | bad q57 =>
     refine (Said.bad (FL.o) A.o.pw m54).mono ?_
     rintro _ W55 ⟨rfl,s⟩
     exact⟨rfl,Sw.bd A s (H52.o.trans (bd_bad m54))⟩
    | ok x58 q57 =>
     obtain⟨H56,Z59,Y60⟩:=zd3 (H52.o.trans (bd_ok m54)) (Sw.ge A) (A.o.lo.2.2.2)
     refine (Said.ok (FL.o) A.o.pw m54).mono ?_
     rintro _ W55 ⟨_,rfl,hrow,s,p⟩
     obtain⟨Ar61,cr62,rfl⟩:=hrow.form
     have HL63:=η (hrow.1)
     replace A:=Sw.rw A s p hrow
     clear s p hrow m54 H52
     go_wp2_with fail
     cases m64:blockP c.e (stmtP c.e n) n (q57) with
     | out=>exact absurd (H56.o.trans (bd_out m64)) HN.o
     | bad q67 =>
      refine (Said.bad (BL.o) A.o.pw m64).mono ?_
      rintro _ W65 ⟨rfl,s⟩
      exact⟨rfl,Sw.bd A s (H56.o.trans (bd_bad m64))⟩
     | ok x68 q67 =>
      obtain⟨H66,Z69,Y70,RL71⟩:=zd4 (H56.o.trans (bd_ok m64)) (Sw.ge A) (A.o.lo.2.2.2) (RowX.lt (Sw.now A).2)
      refine (Said.ok (BL.o) A.o.pw m64).mono ?_
      rintro _ W65 ⟨_,rfl,⟨k72,s73,n74,p75,D76,l77,c78,rfl,hnd⟩,s,p⟩
      replace A:=Sw.nd A s p hnd
      clear s p hnd m64 H56
      obtain⟨_,_,xs82,ho,hr⟩:=(Sw.now A).1.2
      obtain⟨HO79,HRW80,HD81⟩:=zd3 ho hr ((Sw.now A).2)
      clear ho hr
      go_wp2_with (first|(at_builtin;refine wpList_append_own_at _ rfl (.tmp 35) (.tmp 38) 81 rfl W51.heap.size 83 io _ 5 64 underlying81 HIO.o.1 HIO.o.2.1 HIO.o.2.2.1 HIO.o.2.2.2 rfl π (.slice Ar61 (x58.length) cr62) (x58.length) xs82 rfl (row_al HO79.o _) ⟨W65.heap.size,0,none⟩ 1 1 (cl k72 s73 n74 p75 D76 l77 c78) rfl rfl (World.news_of_block (Hs.new _ _ _)) (by intro u hu;simp at hu;repeat (first|(subst hu;rfl)|(rcases hu with rfl|hu;rfl))) (by have:=HL63.o;unfold maxLen;omega) (by have:=HL63.o;omega) (sz_al (RowX.lt (Sw.now A).1.2).1 _) ?_;intro vv W85 hown hgrow hnil hvb;obtain⟨Ar83,cr84,rfl⟩:=row_form hown;replace A:=Sw.push A hgrow hvb hown (by simp<;>omega) HRW80.o HD81.o rfl RL71.o Y60.o;clear hown hgrow hnil hvb))
      refine (node_any _ _ _ _ _ _ _ _).mono ?_
      rintro _ W87 ⟨rfl,b⟩
      replace A:=Sw.bel A b
      clear b
      have E:=Sw.e A (k:=10) (s:=(wrd ((r).tail))) (n:=0) (p:=(offP c.e (r))) (D:=Ar83) (l:=(x58.length+1)) (cap:=cr84) (a:=.mk 10 (wrd ((r).tail)) 0 (offP c.e (r)) (x58++[x68])) fun X hx k=>NdR.of ⟨by unfold i64;omega,(by unfold i64;omega),TX2.o.2.2.2.2⟩ TS53.o (RowX.nds k Z59.o)
      have O:=setRow_heap _ _ _ (cl 10 (wrd ((r).tail)) 0 (offP c.e (r)) Ar83 (x58.length+1) cr84).toArray _ _ (A.o.bx rfl)
      go_wp2_with (refine wpList_store_row rfl 83 _ _ rfl w.heap.size (cl 10 (wrd ((r).tail)) 0 (offP c.e (r)) Ar83 (x58.length+1) cr84).toArray rfl rfl 83 _ (A.o.bx rfl) Δ rfl (by simp[Value.oneCell']) ?_)
      exact bodyPost_ret (results_cell_row results147 _ _ w.heap.size 83 _ _ _ rfl O underlying83 rfl Δ) rfl (by rw[H66.o];exact E.o)
theorem decl_said (c:Cx) (h:Bool) {n:Nat} (hn:n≤1000000000):Said 96 #[.pointer (some ⟨c.pb,0,none⟩)] c false NdV (declP c.e n):=fun w r k hne=>by
 obtain⟨FL,TY,LF,LC,FU,PO⟩:=zd6 (fields_said c false hn) (typ_said c n hn false) (list_said (F:=141) (c:=c) (h:=false) (m:=fieldP c.e n) (s:=⟨#[125]⟩) (n:=n) (fun _ _=>by kernel_rfl) inferInstance (field_said c false hn) π hn) (items_said (F:=143) (c:=c) (h:=false) (m:=ctorP c.e n) (s:=⟨#[125]⟩) (n:=n) (fun _ _=>by kernel_rfl) inferInstance (ctor_said c false hn) π hn) (function_said c false (expr_said c false hn) hn) (policy_said c false);have ME:=η (member_said c false hn)
 have TX:=η k.tx
 obtain⟨W0,HW,A⟩:=Sw.s1 k
 obtain⟨R,hR⟩:∃R,R=declP c.e n r:=⟨_,rfl⟩
 rw[←hR] at hne ⊢
 obtain⟨io,hio,hiz,his,hib⟩:=info_parts info_83
 have HIO:=η (And.intro hio (And.intro hiz (And.intro his hib)))
 clear hio hiz his hib
 have HMF:=hmf
 obtain⟨HN,HR⟩:=zd2 hne hR
 clear hR hne k
 go_in
 go_upto_region 1 with fail
 rw[←HW.o]
 clear HW
 go_wp2_with fail
 have TX2:=η (A.o.pw.tx)
 refine (offset_any A.o.pw).mono ?_
 rintro _ W1 ⟨rfl,b⟩
 replace A:=Sw.bel A b
 clear b
 go_wp2_with fail
 cases a3:(wl (r)==[114,101,99,111,114,100]) with
 | true =>
  have H5:=η (HR.o.trans (acc_t a3))
  refine (accept_yes A.o.pw (s:=⟨#[114,101,99,111,114,100]⟩) a3 π).mono ?_
  rintro _ W4 ⟨rfl,s,p⟩
  replace A:=Sw.n A s p
  clear s p HR a3
  go_wp2_with fail
  cases a6:uppB (wl ((r).tail)) with
  | false =>
   refine (name_no A.o.pw p_uppB a6).mono ?_
   rintro _ W7 ⟨rfl,s⟩
   exact⟨rfl,Sw.bd A s (H5.o.trans (bd_bad (nam_f a6)))⟩
  | true =>
   have H8:=η (H5.o.trans (bd_ok (nam_t a6)))
   have TS9:=η (A.o.pw.tx.2.1)
   refine (name_yes A.o.pw p_uppB a6 (by rfl)).mono ?_
   rintro _ W7 ⟨rfl,s,p⟩
   replace A:=Sw.n A s p
   clear s p H5 a6
   go_wp2_with fail
   cases a10:(wl (((r).tail).tail)==[123]) with
   | false =>
    refine (expect_no A.o.pw (s:=⟨#[123]⟩) a10).mono ?_
    rintro _ W11 ⟨rfl,s⟩
    exact⟨rfl,Sw.bd A s (H8.o.trans (bd_bad (exp_f a10)))⟩
   | true =>
    have H12:=η (H8.o.trans (bd_ok (exp_t a10)))
    refine (expect_yes A.o.pw (s:=⟨#[123]⟩) a10 π).mono ?_
    rintro _ W11 ⟨rfl,s,p⟩
    replace A:=Sw.n A s p
    clear s p H8 a10
    go_wp2_with fail
    cases m13:listP [125] (fieldP c.e n) n ((((r).tail).tail).tail) with
    | out=>exact absurd (H12.o.trans (bd_out m13)) HN.o
    | bad q16 =>
     refine (Said.bad (LF.o) A.o.pw m13).mono ?_
     rintro _ W14 ⟨rfl,s⟩
     exact⟨rfl,Sw.bd A s (H12.o.trans (bd_bad m13))⟩
    | ok x17 q16 =>
     obtain⟨H15,Z18,Y19⟩:=zd3 (H12.o.trans (bd_ok m13)) (Sw.ge A) (A.o.lo.2.2.2)
     refine (Said.ok (LF.o) A.o.pw m13).mono ?_
     rintro _ W14 ⟨_,rfl,hrow,s,p⟩
     obtain⟨Ar20,cr21,rfl⟩:=hrow.form
     have HL22:=η (hrow.1)
     replace A:=Sw.rw A s p hrow
     clear s p hrow m13 H12
     go_wp2_with fail
     refine (node_any _ _ _ _ _ _ _ _).mono ?_
     rintro _ W23 ⟨rfl,b⟩
     replace A:=Sw.bel A b
     clear b
     have E:=Sw.e A (k:=2) (s:=(wrd ((r).tail))) (n:=0) (p:=(offP c.e (r))) (D:=Ar20) (l:=(x17.length)) (cap:=cr21) (a:=.mk 2 (wrd ((r).tail)) 0 (offP c.e (r)) x17) fun X hx k=>NdR.of ⟨by unfold i64;omega,(by unfold i64;omega),TX2.o.2.2.2.2⟩ TS9.o (RowX.nds k.2 Z18.o)
     have O:=setRow_heap _ _ _ (cl 2 (wrd ((r).tail)) 0 (offP c.e (r)) Ar20 (x17.length) cr21).toArray _ _ (A.o.bx rfl)
     go_wp2_with (refine wpList_store_row rfl 83 _ _ rfl w.heap.size (cl 2 (wrd ((r).tail)) 0 (offP c.e (r)) Ar20 (x17.length) cr21).toArray rfl rfl 83 _ (A.o.bx rfl) Δ rfl (by simp[Value.oneCell']) ?_)
     exact bodyPost_ret (results_cell_row results96 _ _ w.heap.size 83 _ _ _ rfl O underlying83 rfl Δ) rfl (by rw[H15.o];exact E.o)
 | false =>
  have H25:=η (HR.o.trans (acc_f a3))
  refine (accept_no A.o.pw (s:=⟨#[114,101,99,111,114,100]⟩) a3).mono ?_
  rintro _ W24 ⟨rfl,s,p⟩
  replace A:=Sw.n A s p
  clear s p HR a3
  go_wp2_with fail
  cases a26:(wl (r)==[118,97,114,105,97,110,116]) with
  | true =>
   have H28:=η (H25.o.trans (acc_t a26))
   refine (accept_yes A.o.pw (s:=⟨#[118,97,114,105,97,110,116]⟩) a26 π).mono ?_
   rintro _ W27 ⟨rfl,s,p⟩
   replace A:=Sw.n A s p
   clear s p H25 a26
   go_wp2_with fail
   cases a29:uppB (wl ((r).tail)) with
   | false =>
    refine (name_no A.o.pw p_uppB a29).mono ?_
    rintro _ W30 ⟨rfl,s⟩
    exact⟨rfl,Sw.bd A s (H28.o.trans (bd_bad (nam_f a29)))⟩
   | true =>
    have H31:=η (H28.o.trans (bd_ok (nam_t a29)))
    have TS32:=η (A.o.pw.tx.2.1)
    refine (name_yes A.o.pw p_uppB a29 (by rfl)).mono ?_
    rintro _ W30 ⟨rfl,s,p⟩
    replace A:=Sw.n A s p
    clear s p H28 a29
    go_wp2_with fail
    cases a33:(wl (((r).tail).tail)==[123]) with
    | false =>
     refine (expect_no A.o.pw (s:=⟨#[123]⟩) a33).mono ?_
     rintro _ W34 ⟨rfl,s⟩
     exact⟨rfl,Sw.bd A s (H31.o.trans (bd_bad (exp_f a33)))⟩
    | true =>
     have H35:=η (H31.o.trans (bd_ok (exp_t a33)))
     refine (expect_yes A.o.pw (s:=⟨#[123]⟩) a33 π).mono ?_
     rintro _ W34 ⟨rfl,s,p⟩
     replace A:=Sw.n A s p
     clear s p H31 a33
     go_wp2_with fail
     cases m36:itemsP [125] (ctorP c.e n) n ((((r).tail).tail).tail) with
     | out=>exact absurd (H35.o.trans (bd_out m36)) HN.o
     | bad q39 =>
      refine (Said.bad (LC.o) A.o.pw m36).mono ?_
      rintro _ W37 ⟨rfl,s⟩
      exact⟨rfl,Sw.bd A s (H35.o.trans (bd_bad m36))⟩
     | ok x40 q39 =>
      obtain⟨H38,Z41,Y42⟩:=zd3 (H35.o.trans (bd_ok m36)) (Sw.ge A) (A.o.lo.2.2.2)
      refine (Said.ok (LC.o) A.o.pw m36).mono ?_
      rintro _ W37 ⟨_,rfl,hrow,s,p⟩
      obtain⟨Ar43,cr44,rfl⟩:=hrow.form
      have HL45:=η (hrow.1)
      replace A:=Sw.rw A s p hrow
      clear s p hrow m36 H35
      go_wp2_with fail
      refine (node_any _ _ _ _ _ _ _ _).mono ?_
      rintro _ W46 ⟨rfl,b⟩
      replace A:=Sw.bel A b
      clear b
      have E:=Sw.e A (k:=3) (s:=(wrd ((r).tail))) (n:=0) (p:=(offP c.e (r))) (D:=Ar43) (l:=(x40.length)) (cap:=cr44) (a:=.mk 3 (wrd ((r).tail)) 0 (offP c.e (r)) x40) fun X hx k=>NdR.of ⟨by unfold i64;omega,(by unfold i64;omega),TX2.o.2.2.2.2⟩ TS32.o (RowX.nds k.2 Z41.o)
      have O:=setRow_heap _ _ _ (cl 3 (wrd ((r).tail)) 0 (offP c.e (r)) Ar43 (x40.length) cr44).toArray _ _ (A.o.bx rfl)
      go_wp2_with (refine wpList_store_row rfl 83 _ _ rfl w.heap.size (cl 3 (wrd ((r).tail)) 0 (offP c.e (r)) Ar43 (x40.length) cr44).toArray rfl rfl 83 _ (A.o.bx rfl) Δ rfl (by simp[Value.oneCell']) ?_)
      exact bodyPost_ret (results_cell_row results96 _ _ w.heap.size 83 _ _ _ rfl O underlying83 rfl Δ) rfl (by rw[H38.o];exact E.o)
  | false =>
   have H48:=η (H25.o.trans (acc_f a26))
   refine (accept_no A.o.pw (s:=⟨#[118,97,114,105,97,110,116]⟩) a26).mono ?_
   rintro _ W47 ⟨rfl,s,p⟩
   replace A:=Sw.n A s p
   clear s p H25 a26
   go_wp2_with fail
   cases a49:(wl (r)==[101,102,102,101,99,116]) with
   | true =>
    have H51:=η (H48.o.trans (acc_t a49))
    refine (accept_yes A.o.pw (s:=⟨#[101,102,102,101,99,116]⟩) a49 π).mono ?_
    rintro _ W50 ⟨rfl,s,p⟩
    replace A:=Sw.n A s p
    clear s p H48 a49
    go_wp2_with fail
    cases a52:lowB (wl ((r).tail)) with
    | false =>
     refine (name_no A.o.pw p_lowB a52).mono ?_
     rintro _ W53 ⟨rfl,s⟩
     exact⟨rfl,Sw.bd A s (H51.o.trans (bd_bad (nam_f a52)))⟩
    | true =>
     have H54:=η (H51.o.trans (bd_ok (nam_t a52)))
     have TS55:=η (A.o.pw.tx.2.1)
     refine (name_yes A.o.pw p_lowB a52 (by rfl)).mono ?_
     rintro _ W53 ⟨rfl,s,p⟩
     replace A:=Sw.n A s p
     clear s p H51 a52
     go_wp2_with fail
     cases m56:fieldsP c.e n (((r).tail).tail) with
     | out=>exact absurd (H54.o.trans (bd_out m56)) HN.o
     | bad q59 =>
      refine (Said.bad (FL.o) A.o.pw m56).mono ?_
      rintro _ W57 ⟨rfl,s⟩
      exact⟨rfl,Sw.bd A s (H54.o.trans (bd_bad m56))⟩
     | ok x60 q59 =>
      obtain⟨H58,Z61,Y62⟩:=zd3 (H54.o.trans (bd_ok m56)) (Sw.ge A) (A.o.lo.2.2.2)
      refine (Said.ok (FL.o) A.o.pw m56).mono ?_
      rintro _ W57 ⟨_,rfl,hrow,s,p⟩
      obtain⟨Ar63,cr64,rfl⟩:=hrow.form
      have HL65:=η (hrow.1)
      replace A:=Sw.rw A s p hrow
      clear s p hrow m56 H54
      go_wp2_with fail
      cases a66:(wl (q59)==[58]) with
      | false =>
       refine (expect_no A.o.pw (s:=⟨#[58]⟩) a66).mono ?_
       rintro _ W67 ⟨rfl,s⟩
       exact⟨rfl,Sw.bd A s (H58.o.trans (bd_bad (exp_f a66)))⟩
      | true =>
       have H68:=η (H58.o.trans (bd_ok (exp_t a66)))
       refine (expect_yes A.o.pw (s:=⟨#[58]⟩) a66 π).mono ?_
       rintro _ W67 ⟨rfl,s,p⟩
       replace A:=Sw.n A s p
       clear s p H58 a66
       go_wp2_with fail
       cases m69:typP c.e n ((q59).tail) with
       | out=>exact absurd (H68.o.trans (bd_out m69)) HN.o
       | bad q72 =>
        refine (Said.bad (TY.o) A.o.pw m69).mono ?_
        rintro _ W70 ⟨rfl,s⟩
        exact⟨rfl,Sw.bd A s (H68.o.trans (bd_bad m69))⟩
       | ok x73 q72 =>
        obtain⟨H71,Z74,Y75,RL76⟩:=zd4 (H68.o.trans (bd_ok m69)) (Sw.ge A) (A.o.lo.2.2.2) (RowX.lt (Sw.now A).2)
        refine (Said.ok (TY.o) A.o.pw m69).mono ?_
        rintro _ W70 ⟨_,rfl,⟨k77,s78,n79,p80,D81,l82,c83,rfl,hnd⟩,s,p⟩
        replace A:=Sw.nd A s p hnd
        clear s p hnd m69 H68
        obtain⟨_,_,xs87,ho,hr⟩:=(Sw.now A).1.2
        obtain⟨HO84,HRW85,HD86⟩:=zd3 ho hr ((Sw.now A).2)
        clear ho hr
        go_wp2_with (first|(at_builtin;refine wpList_append_own_at _ rfl (.tmp 53) (.tmp 56) 81 rfl W53.heap.size 83 io _ 5 64 underlying81 HIO.o.1 HIO.o.2.1 HIO.o.2.2.1 HIO.o.2.2.2 rfl π (.slice Ar63 (x60.length) cr64) (x60.length) xs87 rfl (row_al HO84.o _) ⟨W70.heap.size,0,none⟩ 1 1 (cl k77 s78 n79 p80 D81 l82 c83) rfl rfl (World.news_of_block (Hs.new _ _ _)) (by intro u hu;simp at hu;repeat (first|(subst hu;rfl)|(rcases hu with rfl|hu;rfl))) (by have:=HL65.o;unfold maxLen;omega) (by have:=HL65.o;omega) (sz_al (RowX.lt (Sw.now A).1.2).1 _) ?_;intro vv W90 hown hgrow hnil hvb;obtain⟨Ar88,cr89,rfl⟩:=row_form hown;replace A:=Sw.push A hgrow hvb hown (by simp<;>omega) HRW85.o HD86.o rfl RL76.o Y62.o;clear hown hgrow hnil hvb))
        refine (node_any _ _ _ _ _ _ _ _).mono ?_
        rintro _ W92 ⟨rfl,b⟩
        replace A:=Sw.bel A b
        clear b
        have E:=Sw.e A (k:=4) (s:=(wrd ((r).tail))) (n:=0) (p:=(offP c.e (r))) (D:=Ar88) (l:=(x60.length+1)) (cap:=cr89) (a:=.mk 4 (wrd ((r).tail)) 0 (offP c.e (r)) (x60++[x73])) fun X hx k=>NdR.of ⟨by unfold i64;omega,(by unfold i64;omega),TX2.o.2.2.2.2⟩ TS55.o (RowX.nds k Z61.o)
        have O:=setRow_heap _ _ _ (cl 4 (wrd ((r).tail)) 0 (offP c.e (r)) Ar88 (x60.length+1) cr89).toArray _ _ (A.o.bx rfl)
        go_wp2_with (refine wpList_store_row rfl 83 _ _ rfl w.heap.size (cl 4 (wrd ((r).tail)) 0 (offP c.e (r)) Ar88 (x60.length+1) cr89).toArray rfl rfl 83 _ (A.o.bx rfl) Δ rfl (by simp[Value.oneCell']) ?_)
        exact bodyPost_ret (results_cell_row results96 _ _ w.heap.size 83 _ _ _ rfl O underlying83 rfl Δ) rfl (by rw[H71.o];exact E.o)
   | false =>
    have H94:=η (H48.o.trans (acc_f a49))
    refine (accept_no A.o.pw (s:=⟨#[101,102,102,101,99,116]⟩) a49).mono ?_
    rintro _ W93 ⟨rfl,s,p⟩
    replace A:=Sw.n A s p
    clear s p H48 a49
    go_wp2_with fail
    cases a95:(wl (r)==[102,117,110]) with
    | true =>
     have H97:=η (H94.o.trans (acc_t a95))
     refine (accept_yes A.o.pw (s:=⟨#[102,117,110]⟩) a95 π).mono ?_
     rintro _ W96 ⟨rfl,s,p⟩
     replace A:=Sw.n A s p
     clear s p H94 a95
     go_wp2_with fail
     cases a98:lowB (wl ((r).tail)) with
     | false =>
      refine (name_no A.o.pw p_lowB a98).mono ?_
      rintro _ W99 ⟨rfl,s⟩
      exact⟨rfl,Sw.bd A s (H97.o.trans (bd_bad (nam_f a98)))⟩
     | true =>
      have H100:=η (H97.o.trans (bd_ok (nam_t a98)))
      have TS101:=η (A.o.pw.tx.2.1)
      refine (name_yes A.o.pw p_lowB a98 (by rfl)).mono ?_
      rintro _ W99 ⟨rfl,s,p⟩
      replace A:=Sw.n A s p
      clear s p H97 a98
      go_wp2_with fail
      cases m102:functionP c.e (exprP c.e n false) n (((r).tail).tail) with
      | out=>exact absurd (H100.o.trans (bd_out m102)) HN.o
      | bad q105 =>
       refine (Said.bad (FU.o) A.o.pw m102).mono ?_
       rintro _ W103 ⟨rfl,s⟩
       exact⟨rfl,Sw.bd A s (H100.o.trans (bd_bad m102))⟩
      | ok x106 q105 =>
       obtain⟨H104,Z107,Y108⟩:=zd3 (H100.o.trans (bd_ok m102)) (Sw.ge A) (A.o.lo.2.2.2)
       refine (Said.ok (FU.o) A.o.pw m102).mono ?_
       rintro _ W103 ⟨_,rfl,hrow,s,p⟩
       obtain⟨Ar109,cr110,rfl⟩:=hrow.form
       have HL111:=η (hrow.1)
       replace A:=Sw.rw A s p hrow
       clear s p hrow m102 H100
       go_wp2_with fail
       refine (node_any _ _ _ _ _ _ _ _).mono ?_
       rintro _ W112 ⟨rfl,b⟩
       replace A:=Sw.bel A b
       clear b
       have E:=Sw.e A (k:=5) (s:=(wrd ((r).tail))) (n:=0) (p:=(offP c.e (r))) (D:=Ar109) (l:=(x106.length)) (cap:=cr110) (a:=.mk 5 (wrd ((r).tail)) 0 (offP c.e (r)) x106) fun X hx k=>NdR.of ⟨by unfold i64;omega,(by unfold i64;omega),TX2.o.2.2.2.2⟩ TS101.o (RowX.nds k.2 Z107.o)
       have O:=setRow_heap _ _ _ (cl 5 (wrd ((r).tail)) 0 (offP c.e (r)) Ar109 (x106.length) cr110).toArray _ _ (A.o.bx rfl)
       go_wp2_with (refine wpList_store_row rfl 83 _ _ rfl w.heap.size (cl 5 (wrd ((r).tail)) 0 (offP c.e (r)) Ar109 (x106.length) cr110).toArray rfl rfl 83 _ (A.o.bx rfl) Δ rfl (by simp[Value.oneCell']) ?_)
       exact bodyPost_ret (results_cell_row results96 _ _ w.heap.size 83 _ _ _ rfl O underlying83 rfl Δ) rfl (by rw[H104.o];exact E.o)
    | false =>
     have H114:=η (H94.o.trans (acc_f a95))
     refine (accept_no A.o.pw (s:=⟨#[102,117,110]⟩) a95).mono ?_
     rintro _ W113 ⟨rfl,s,p⟩
     replace A:=Sw.n A s p
     clear s p H94 a95
     go_wp2_with fail
     cases a115:(wl (r)==[97,99,116,111,114]) with
     | true =>
      have H117:=η (H114.o.trans (acc_t a115))
      refine (accept_yes A.o.pw (s:=⟨#[97,99,116,111,114]⟩) a115 π).mono ?_
      rintro _ W116 ⟨rfl,s,p⟩
      replace A:=Sw.n A s p
      clear s p H114 a115
      go_wp2_with fail
      cases a118:uppB (wl ((r).tail)) with
      | false =>
       refine (name_no A.o.pw p_uppB a118).mono ?_
       rintro _ W119 ⟨rfl,s⟩
       exact⟨rfl,Sw.bd A s (H117.o.trans (bd_bad (nam_f a118)))⟩
      | true =>
       have H120:=η (H117.o.trans (bd_ok (nam_t a118)))
       have TS121:=η (A.o.pw.tx.2.1)
       refine (name_yes A.o.pw p_uppB a118 (by rfl)).mono ?_
       rintro _ W119 ⟨rfl,s,p⟩
       replace A:=Sw.n A s p
       clear s p H117 a118
       go_wp2_with fail
       cases m122:fieldsP c.e n (((r).tail).tail) with
       | out=>exact absurd (H120.o.trans (bd_out m122)) HN.o
       | bad q125 =>
        refine (Said.bad (FL.o) A.o.pw m122).mono ?_
        rintro _ W123 ⟨rfl,s⟩
        exact⟨rfl,Sw.bd A s (H120.o.trans (bd_bad m122))⟩
       | ok x126 q125 =>
        obtain⟨H124,Z127,Y128⟩:=zd3 (H120.o.trans (bd_ok m122)) (Sw.ge A) (A.o.lo.2.2.2)
        refine (Said.ok (FL.o) A.o.pw m122).mono ?_
        rintro _ W123 ⟨_,rfl,hrow,s,p⟩
        obtain⟨Ar129,cr130,rfl⟩:=hrow.form
        have HL131:=η (hrow.1)
        replace A:=Sw.rw A s p hrow
        clear s p hrow m122 H120
        go_wp2_with fail
        cases m132:policyP (q125) with
        | out=>exact absurd (H124.o.trans (bd_out m132)) HN.o
        | bad q135 =>
         refine (Said.bad (PO.o) A.o.pw m132).mono ?_
         rintro _ W133 ⟨rfl,s⟩
         exact⟨rfl,Sw.bd A s (H124.o.trans (bd_bad m132))⟩
        | ok x136 q135 =>
         have H134:=η (H124.o.trans (bd_ok m132))
         refine (Said.ok (PO.o) A.o.pw m132).mono ?_
         rintro _ W133 ⟨_,rfl,⟨rfl,hi⟩,s,p⟩
         have HI137:=η hi
         replace A:=Sw.n A s p
         clear s p hi m132 H124
         go_wp2_with fail
         cases a138:(wl (q135)==[123]) with
         | false =>
          refine (expect_no A.o.pw (s:=⟨#[123]⟩) a138).mono ?_
          rintro _ W139 ⟨rfl,s⟩
          exact⟨rfl,Sw.bd A s (H134.o.trans (bd_bad (exp_f a138)))⟩
         | true =>
          have H140:=η (H134.o.trans (bd_ok (exp_t a138)))
          refine (expect_yes A.o.pw (s:=⟨#[123]⟩) a138 π).mono ?_
          rintro _ W139 ⟨rfl,s,p⟩
          replace A:=Sw.n A s p
          clear s p H134 a138
          go_wp2_with fail
          have AL:=Sw.keep A fun X k=>k.2
          have HT:Hid ((x126:List Nd).length+n≤n+n+3∧R=(untilP [125] (memberP c.e n) n ((q135).tail)).bd fun t=>M.ret (Nd.mk 6 (wrd ((r).tail)) x136 (offP c.e r) (x126++t))):=⟨by have:=HL131.o;(try simp only[List.length_append,List.length_cons,List.length_nil] at this ⊢);omega,H140.o.trans (rfl)⟩
          clear H140 A
          go_loopw [10] (fun v wr=>∃l q n1,Hid (Sw c w (w.heap.size+1) wr q false (RowX (W119.heap.size) v l))∧Hid ((l:List Nd).length+n1≤n+n+3∧R=(untilP [125] (memberP c.e n) n1 q).bd fun t=>M.ret (Nd.mk 6 (wrd ((r).tail)) x136 (offP c.e r) (l++t)))) (fun _ wr=>leftN c wr)
          case atStart=>exact⟨_,_,_,AL,HT⟩
          case round =>
           clear AL HT
           obtain⟨l,q,n1,A,HT⟩:=hrel
           obtain⟨_,_,xs,ho,hr⟩:=Sw.now A
           obtain⟨Ar,cr,rfl⟩:=row_form ho
           clear ho hr
           cases hn1:n1 with
           | zero=>exact absurd (HT.o.2.trans (by rw[hn1];rfl)) HN.o
           | succ n3 =>
           subst hn1
           have HL0:=η A.o.pw.left
           have HL141:Hid ((l:List Nd).length≤n+n+3):=(by have:=HT.o.1;show _≤_;omega)
           have HLN:=η HT.o.1
           cases hw:(wl q==[125]) with
           | true =>
            have HV:Hid (R=.ok (Nd.mk 6 (wrd ((r).tail)) x136 (offP c.e r) l) q.tail):=HT.o.2.trans (by rw[until_succ,acc_t hw];show Re.ok (Nd.mk 6 (wrd ((r).tail)) x136 (offP c.e r) (l++[])) q.tail=_;rw[List.append_nil])
            go_wp2_with fail
            refine (accept_yes A.o.pw (s:=⟨#[125]⟩) hw π).mono ?_
            rintro _ W142 ⟨rfl,s,p⟩
            replace A:=Sw.n A s p
            clear s p hw HT
            go_wp2_with fail
            refine (node_any _ _ _ _ _ _ _ _).mono ?_
            rintro _ W144 ⟨rfl,b⟩
            replace A:=Sw.bel A b
            clear b
            have E:=Sw.e A (k:=6) (s:=(wrd ((r).tail))) (n:=(x136)) (p:=(offP c.e (r))) (D:=Ar) (l:=(l.length)) (cap:=cr) (a:=.mk 6 (wrd ((r).tail)) (x136) (offP c.e (r)) l) fun X hx k=>NdR.of ⟨by unfold i64;omega,HI137.o,TX2.o.2.2.2.2⟩ TS121.o (RowX.nds k Z127.o)
            have O:=setRow_heap _ _ _ (cl 6 (wrd ((r).tail)) (x136) (offP c.e (r)) Ar (l.length) cr).toArray _ _ (A.o.bx rfl)
            go_wp2_with (refine wpList_store_row rfl 83 _ _ rfl w.heap.size (cl 6 (wrd ((r).tail)) (x136) (offP c.e (r)) Ar (l.length) cr).toArray rfl rfl 83 _ (A.o.bx rfl) Δ rfl (by simp[Value.oneCell']) ?_)
            exact bodyPost_ret (results_cell_row results96 _ _ w.heap.size 83 _ _ _ rfl O underlying83 rfl Δ) rfl (by rw[HV.o];exact E.o)
           | false =>
            have HV:Hid (R=(memberP c.e n >>= fun a=>fun rr=>(untilP [125] (memberP c.e n) n3 rr).bd fun t=>M.ret (Nd.mk 6 (wrd ((r).tail)) x136 (offP c.e r) (l++(a::t)))) q):=HT.o.2.trans (by rw[until_succ,acc_f hw];exact until_bd [125] (memberP c.e n) n3 q (fun t=>M.ret (Nd.mk 6 (wrd ((r).tail)) x136 (offP c.e r) (l++t))))
            go_wp2_with fail
            refine (accept_no A.o.pw (s:=⟨#[125]⟩) hw).mono ?_
            rintro _ W143 ⟨rfl,s,p⟩
            replace A:=Sw.n A s p
            clear s p hw HT
            go_wp2_with fail
            cases m145:memberP c.e n (q) with
            | out=>exact absurd (HV.o.trans (bd_out m145)) HN.o
            | bad q148 =>
             refine (Said.bad (ME.o) A.o.pw m145).mono ?_
             rintro _ W146 ⟨rfl,s⟩
             exact⟨rfl,Sw.bd A s (HV.o.trans (bd_bad m145))⟩
            | ok x149 q148 =>
             have HQL:=η ((inferInstance:Con (memberP c.e n)).h _ _ _ m145).2
             obtain⟨H147,Z150,Y151,RL152⟩:=zd4 (HV.o.trans (bd_ok m145)) (Sw.ge A) (A.o.lo.2.2.2) (RowX.lt (Sw.now A))
             refine (Said.ok (ME.o) A.o.pw m145).mono ?_
             rintro _ W146 ⟨_,rfl,⟨k153,s154,n155,p156,D157,l158,c159,rfl,hnd⟩,s,p⟩
             replace A:=Sw.nd A s p hnd
             clear s p hnd m145 HV
             obtain⟨_,_,xs163,ho,hr⟩:=(Sw.now A).1
             obtain⟨HO160,HRW161,HD162⟩:=zd3 ho hr ((Sw.now A).2)
             clear ho hr
             go_wp2_with (first|(at_builtin;refine wpList_append_own_at _ rfl (.tmp 83) (.tmp 86) 81 rfl (W119.heap.size) 83 io _ 5 64 underlying81 HIO.o.1 HIO.o.2.1 HIO.o.2.2.1 HIO.o.2.2.2 rfl π (.slice Ar (l.length) cr) (l.length) xs163 rfl (row_al HO160.o _) ⟨W146.heap.size,0,none⟩ 1 1 (cl k153 s154 n155 p156 D157 l158 c159) rfl rfl (World.news_of_block (Hs.new _ _ _)) (by intro u hu;simp at hu;repeat (first|(subst hu;rfl)|(rcases hu with rfl|hu;rfl))) (by have:=HL141.o;unfold maxLen;omega) (by have:=HL141.o;omega) (sz_al (RowX.lt (Sw.now A).1).1 _) ?_;intro vv W166 hown hgrow hnil hvb;obtain⟨Ar164,cr165,rfl⟩:=row_form hown;replace A:=Sw.push A hgrow hvb hown (by simp<;>omega) HRW161.o HD162.o rfl RL152.o Y128.o;clear hown hgrow hnil hvb))
             refine⟨⟨l++[x149],q148,n3,A,⟨by have:=HLN.o;rw[List.length_append];simp;omega,H147.o.trans (by simp only[List.append_assoc];rfl)⟩⟩,?_⟩
             refine Nat.lt_of_le_of_lt (Nat.le_of_eq A.o.pw.left) ?_
             rw[HL0.o]
             exact HQL.o
     | false =>
      have H169:=η (H114.o.trans (acc_f a115))
      refine (accept_no A.o.pw (s:=⟨#[97,99,116,111,114]⟩) a115).mono ?_
      rintro _ W168 ⟨rfl,s,p⟩
      replace A:=Sw.n A s p
      clear s p H114 a115
      go_wp2_with fail
      refine (fail_any A.o.pw).mono ?_
      rintro _ W170 ⟨rfl,b⟩
      exact⟨rfl,Sw.bd A (Stp.of_below b) (H169.o.trans rfl)⟩
theorem convT_said (c:Cx) (h:Bool) {n:Nat} (hn:n≤1000000000) (p0:Int) (hp:i64 p0):Said 136 #[.pointer (some ⟨c.pb,0,none⟩),.int .i64 p0] c false NdV (convTypeP c.e p0 n):=fun w r k hne=>by
 obtain⟨EX,FL,HP⟩:=zd3 (expr_said c false hn) (fields_said c false hn) hp
 clear hp
 have TX:=η k.tx
 obtain⟨W0,HW,A⟩:=Sw.s1 k
 obtain⟨R,hR⟩:∃R,R=convTypeP c.e p0 n r:=⟨_,rfl⟩
 rw[←hR] at hne ⊢
 obtain⟨io,hio,hiz,his,hib⟩:=info_parts info_83
 have HIO:=η (And.intro hio (And.intro hiz (And.intro his hib)))
 clear hio hiz his hib
 have HMF:=hmf
 obtain⟨HN,HR⟩:=zd2 hne hR
 clear hR hne k
 go_in
 go_upto_region 1 with fail
 rw[←HW.o]
 clear HW
 go_wp2_with fail
 cases a1:uppB (wl (r)) with
 | false =>
  refine (name_no A.o.pw p_uppB a1).mono ?_
  rintro _ W2 ⟨rfl,s⟩
  exact⟨rfl,Sw.bd A s (HR.o.trans (bd_bad (nam_f a1)))⟩
 | true =>
  have H3:=η (HR.o.trans (bd_ok (nam_t a1)))
  have TS4:=η (A.o.pw.tx.2.1)
  refine (name_yes A.o.pw p_uppB a1 (by rfl)).mono ?_
  rintro _ W2 ⟨rfl,s,p⟩
  replace A:=Sw.n A s p
  clear s p HR a1
  replace A:=Sw.nil A
  have Z5:Hid (w.heap.size≤w.heap.size+1):=Nat.le_succ _
  have Y6:Hid (w.heap.size+1≤w.heap.size+1):=Nat.le_refl _
  have HL7:Hid (0≤0):=Nat.le_refl _
  go_wp2_with fail
  cases a8:(wl ((r).tail)==[46]) with
  | true =>
   have H10:=η (H3.o.trans (acc_t a8))
   refine (accept_yes A.o.pw (s:=⟨#[46]⟩) a8 π).mono ?_
   rintro _ W9 ⟨rfl,s,p⟩
   replace A:=Sw.n A s p
   clear s p H3 a8
   go_wp2_with fail
   have TX12:=η (A.o.pw.tx)
   refine (offset_any A.o.pw).mono ?_
   rintro _ W11 ⟨rfl,b⟩
   replace A:=Sw.bel A b
   clear b
   go_wp2_with fail
   cases a13:uppB (wl (((r).tail).tail)) with
   | false =>
    refine (name_no A.o.pw p_uppB a13).mono ?_
    rintro _ W14 ⟨rfl,s⟩
    exact⟨rfl,Sw.bd A s (H10.o.trans (bd_bad (nam_f a13)))⟩
   | true =>
    have H15:=η (H10.o.trans (bd_ok (nam_t a13)))
    have TS16:=η (A.o.pw.tx.2.1)
    refine (name_yes A.o.pw p_uppB a13 (by rfl)).mono ?_
    rintro _ W14 ⟨rfl,s,p⟩
    replace A:=Sw.n A s p
    clear s p H10 a13
    go_wp2_with fail
    obtain⟨RL17,Z19,Y20⟩:=zd3 (RowX.lt (Sw.now A).2) (Sw.ge A) (A.o.lo.2.2.2)
    refine (node_any _ _ _ _ _ _ _ _).mono ?_
    rintro _ W18 ⟨rfl,b⟩
    replace A:=Sw.nd A (Stp.of_below b) (A.o.pw.bel b) (cs:=cl 24 (wrd (((r).tail).tail)) 0 (offP c.e (((r).tail).tail)) none 0 0) (a:=(Nd.mk 24 (wrd (((r).tail).tail)) 0 (offP c.e (((r).tail).tail)) [])) (NdR.of ⟨by unfold i64;omega,by unfold i64;omega,TX12.o.2.2.2.2⟩ TS16.o kid0)
    clear b
    obtain⟨_,_,xs24,ho,hr⟩:=(Sw.now A).1.2
    obtain⟨HO21,HRW22,HD23⟩:=zd3 ho hr ((Sw.now A).2)
    clear ho hr
    go_wp2_with (first|(at_builtin;refine wpList_append_own_at _ rfl (.tmp 15) (.tmp 20) 81 rfl (w.heap.size+1) 83 io _ 5 64 underlying81 HIO.o.1 HIO.o.2.1 HIO.o.2.2.1 HIO.o.2.2.2 rfl π (.slice none (0) 0) (0) xs24 rfl (row_al HO21.o _) ⟨W18.heap.size,0,none⟩ 1 1 (cl 24 (wrd (((r).tail).tail)) 0 (offP c.e (((r).tail).tail)) none 0 0) rfl rfl (World.news_of_block (Hs.new _ _ _)) (by intro u hu;simp at hu;repeat (first|(subst hu;rfl)|(rcases hu with rfl|hu;rfl))) (by have:=HL7.o;unfold maxLen;omega) (by have:=HL7.o;omega) (sz_al (RowX.lt (Sw.now A).1.2).1 _) ?_;intro vv W27 hown hgrow hnil hvb;simp only[Nat.zero_add] at hown;obtain⟨Ar25,cr26,rfl⟩:=row_form hown;replace A:=Sw.push A hgrow hvb hown (by simp<;>omega) HRW22.o HD23.o rfl RL17.o Y6.o;clear hown hgrow hnil hvb))
    cases m29:fieldsP c.e n ((((r).tail).tail).tail) with
    | out=>exact absurd (H15.o.trans (bd_out m29)) HN.o
    | bad q32 =>
     refine (Said.bad (FL.o) A.o.pw m29).mono ?_
     rintro _ W30 ⟨rfl,s⟩
     exact⟨rfl,Sw.bd A s (H15.o.trans (bd_bad m29))⟩
    | ok x33 q32 =>
     obtain⟨H31,Z34,Y35,RL36⟩:=zd4 (H15.o.trans (bd_ok m29)) (Sw.ge A) (A.o.lo.2.2.2) (RowX.lt (Sw.now A))
     refine (Said.ok (FL.o) A.o.pw m29).mono ?_
     rintro _ W30 ⟨_,rfl,hrow,s,p⟩
     obtain⟨Ar37,cr38,rfl⟩:=hrow.form
     have HL39:=η (hrow.1)
     replace A:=Sw.rw A s p hrow
     clear s p hrow m29 H15
     obtain⟨_,_,xs44,ho,hr⟩:=(Sw.now A).1
     obtain⟨_,_,xs45,ho2,hr2⟩:=(Sw.now A).2
     obtain⟨HO40,HRW41,HO42,HRW43,RN49⟩:=zd5 ho hr ho2 hr2 (RowX.lt (Sw.now A).2)
     have CP53:=η ((RowX.cap (Sw.now A).1).2)
     have HL54:Hid (1+x33.length≤4000000000):=(by have:=HL7.o;have:=HL39.o;show _≤_;omega)
     have hcs:=ho2.2
     clear ho hr ho2 hr2
     rcases hcs with ⟨e52,hz⟩|⟨g50,cap51,_,e52,_⟩
     · obtain rfl:x33=[]:=List.eq_nil_of_length_eq_zero hz
       have E55:=η e52
       clear e52 hz
       go_wp2_with (at_builtin;refine wpList_app_nil rfl (.tmp 22) (.tmp 24) rfl Ar25 (1) cr26 rfl E55.o CP53.o ?_)
       cases a56:(wl (q32)==[61]) with
       | false =>
        refine (expect_no A.o.pw (s:=⟨#[61]⟩) a56).mono ?_
        rintro _ W57 ⟨rfl,s⟩
        exact⟨rfl,Sw.bd A s (H31.o.trans (bd_bad (exp_f a56)))⟩
       | true =>
        have H58:=η (H31.o.trans (bd_ok (exp_t a56)))
        refine (expect_yes A.o.pw (s:=⟨#[61]⟩) a56 π).mono ?_
        rintro _ W57 ⟨rfl,s,p⟩
        replace A:=Sw.n A s p
        clear s p H31 a56
        go_wp2_with fail
        cases m59:exprP c.e n false ((q32).tail) with
        | out=>exact absurd (H58.o.trans (bd_out m59)) HN.o
        | bad q62 =>
         refine (Said.bad (EX.o) A.o.pw m59).mono ?_
         rintro _ W60 ⟨rfl,s⟩
         exact⟨rfl,Sw.bd A s (H58.o.trans (bd_bad m59))⟩
        | ok x63 q62 =>
         obtain⟨H61,Z64,Y65,RL66,RL67⟩:=zd5 (H58.o.trans (bd_ok m59)) (Sw.ge A) (A.o.lo.2.2.2) (RowX.lt (Sw.now A).1) (RowX.lt (Sw.now A).2)
         refine (Said.ok (EX.o) A.o.pw m59).mono ?_
         rintro _ W60 ⟨_,rfl,⟨k68,s69,n70,p71,D72,l73,c74,rfl,hnd⟩,s,p⟩
         replace A:=Sw.nd A s p hnd
         clear s p hnd m59 H58
         obtain⟨_,_,xs78,ho,hr⟩:=(Sw.now A).1.1
         obtain⟨HO75,HRW76,HD77⟩:=zd3 ho hr ((Sw.now A).2)
         clear ho hr
         go_wp2_with (first|(at_builtin;refine wpList_append_own_at _ rfl (.tmp 31) (.tmp 34) 81 rfl (w.heap.size+1) 83 io _ 5 64 underlying81 HIO.o.1 HIO.o.2.1 HIO.o.2.2.1 HIO.o.2.2.2 rfl π (.slice Ar25 (1) cr26) (1) xs78 rfl (row_al HO75.o _) ⟨W60.heap.size,0,none⟩ 1 1 (cl k68 s69 n70 p71 D72 l73 c74) rfl rfl (World.news_of_block (Hs.new _ _ _)) (by intro u hu;simp at hu;repeat (first|(subst hu;rfl)|(rcases hu with rfl|hu;rfl))) (by have:=HL7.o;unfold maxLen;omega) (by have:=HL7.o;omega) (sz_al (RowX.lt (Sw.now A).1.1).1 _) ?_;intro vv W81 hown hgrow hnil hvb;obtain⟨Ar79,cr80,rfl⟩:=row_form hown;replace A:=Sw.push A hgrow hvb hown (by simp<;>omega) HRW76.o HD77.o rfl RL66.o Y6.o;clear hown hgrow hnil hvb))
         refine (node_any _ _ _ _ _ _ _ _).mono ?_
         rintro _ W83 ⟨rfl,b⟩
         replace A:=Sw.bel A b
         clear b
         have E:=Sw.e A (k:=70) (s:=(wrd (r))) (n:=1) (p:=(p0)) (D:=Ar79) (l:=(1+1)) (cap:=cr80) (a:=.mk 70 (wrd (r)) 1 (p0) (([]++[(Nd.mk 24 (wrd (((r).tail).tail)) 0 (offP c.e (((r).tail).tail)) [])])++[x63])) fun X hx k=>NdR.of ⟨by unfold i64;omega,(by unfold i64;omega),HP.o⟩ TS4.o (RowX.nds k Z5.o)
         have O:=setRow_heap _ _ _ (cl 70 (wrd (r)) 1 (p0) Ar79 (1+1) cr80).toArray _ _ (A.o.bx rfl)
         go_wp2_with (refine wpList_store_row rfl 83 _ _ rfl w.heap.size (cl 70 (wrd (r)) 1 (p0) Ar79 (1+1) cr80).toArray rfl rfl 83 _ (A.o.bx rfl) Δ rfl (by simp[Value.oneCell']) ?_)
         exact bodyPost_ret (results_cell_row results136 _ _ w.heap.size 83 _ _ _ rfl O underlying83 rfl Δ) rfl (by rw[H61.o];exact E.o)
     · have E55:=η e52
       clear e52
       go_wp2_with (first|(at_builtin;refine wpList_append_own_at _ rfl (.tmp 22) (.tmp 24) 81 rfl (w.heap.size+1) 83 io _ 5 64 underlying81 HIO.o.1 HIO.o.2.1 HIO.o.2.2.1 HIO.o.2.2.2 rfl π (.slice Ar25 (1) cr26) (1) xs44 rfl HO40.o ⟨g50,0,none⟩ x33.length cap51 xs45 E55.o HO42.o.1 (HO42.o.cells (by rw[E55.o];rfl)) (row_one HRW43.o) (by have:=HL7.o;have:=HL39.o;unfold maxLen;omega) (by have:=HL7.o;have:=HL39.o;omega) ((RowX.lt (Sw.now A).1).1) ?_;intro vv W48 hown hgrow hnil hvb;obtain⟨Ar46,cr47,rfl⟩:=row_form hown;replace A:=Sw.pushs A hgrow hvb hown (by simp) HRW41.o HRW43.o RL36.o Y6.o RN49.o.1;clear hown hgrow hnil hvb))
       cases a84:(wl (q32)==[61]) with
       | false =>
        refine (expect_no A.o.pw (s:=⟨#[61]⟩) a84).mono ?_
        rintro _ W85 ⟨rfl,s⟩
        exact⟨rfl,Sw.bd A s (H31.o.trans (bd_bad (exp_f a84)))⟩
       | true =>
        have H86:=η (H31.o.trans (bd_ok (exp_t a84)))
        refine (expect_yes A.o.pw (s:=⟨#[61]⟩) a84 π).mono ?_
        rintro _ W85 ⟨rfl,s,p⟩
        replace A:=Sw.n A s p
        clear s p H31 a84
        go_wp2_with fail
        cases m87:exprP c.e n false ((q32).tail) with
        | out=>exact absurd (H86.o.trans (bd_out m87)) HN.o
        | bad q90 =>
         refine (Said.bad (EX.o) A.o.pw m87).mono ?_
         rintro _ W88 ⟨rfl,s⟩
         exact⟨rfl,Sw.bd A s (H86.o.trans (bd_bad m87))⟩
        | ok x91 q90 =>
         obtain⟨H89,Z92,Y93,RL94⟩:=zd4 (H86.o.trans (bd_ok m87)) (Sw.ge A) (A.o.lo.2.2.2) (RowX.lt (Sw.now A))
         refine (Said.ok (EX.o) A.o.pw m87).mono ?_
         rintro _ W88 ⟨_,rfl,⟨k95,s96,n97,p98,D99,l100,c101,rfl,hnd⟩,s,p⟩
         replace A:=Sw.nd A s p hnd
         clear s p hnd m87 H86
         obtain⟨_,_,xs105,ho,hr⟩:=(Sw.now A).1
         simp only[List.length_append,List.length_cons,List.length_nil,Nat.zero_add] at ho
         obtain⟨HO102,HRW103,HD104⟩:=zd3 ho hr ((Sw.now A).2)
         clear ho hr
         go_wp2_with (first|(at_builtin;refine wpList_append_own_at _ rfl (.tmp 31) (.tmp 34) 81 rfl (w.heap.size+1) 83 io _ 5 64 underlying81 HIO.o.1 HIO.o.2.1 HIO.o.2.2.1 HIO.o.2.2.2 rfl π (.slice Ar46 (1+x33.length) cr47) (1+x33.length) xs105 rfl (row_al HO102.o _) ⟨W88.heap.size,0,none⟩ 1 1 (cl k95 s96 n97 p98 D99 l100 c101) rfl rfl (World.news_of_block (Hs.new _ _ _)) (by intro u hu;simp at hu;repeat (first|(subst hu;rfl)|(rcases hu with rfl|hu;rfl))) (by have:=HL54.o;unfold maxLen;omega) (by have:=HL54.o;omega) (sz_al (RowX.lt (Sw.now A).1).1 _) ?_;intro vv W108 hown hgrow hnil hvb;obtain⟨Ar106,cr107,rfl⟩:=row_form hown;replace A:=Sw.push A hgrow hvb hown (by simp<;>omega) HRW103.o HD104.o rfl RL94.o Y6.o;clear hown hgrow hnil hvb))
         refine (node_any _ _ _ _ _ _ _ _).mono ?_
         rintro _ W110 ⟨rfl,b⟩
         replace A:=Sw.bel A b
         clear b
         have E:=Sw.e A (k:=70) (s:=(wrd (r))) (n:=1) (p:=(p0)) (D:=Ar106) (l:=(1+x33.length+1)) (cap:=cr107) (a:=.mk 70 (wrd (r)) 1 (p0) ((([]++[(Nd.mk 24 (wrd (((r).tail).tail)) 0 (offP c.e (((r).tail).tail)) [])])++x33)++[x91])) fun X hx k=>NdR.of ⟨by unfold i64;omega,(by unfold i64;omega),HP.o⟩ TS4.o (RowX.nds k Z5.o)
         have O:=setRow_heap _ _ _ (cl 70 (wrd (r)) 1 (p0) Ar106 (1+x33.length+1) cr107).toArray _ _ (A.o.bx rfl)
         go_wp2_with (refine wpList_store_row rfl 83 _ _ rfl w.heap.size (cl 70 (wrd (r)) 1 (p0) Ar106 (1+x33.length+1) cr107).toArray rfl rfl 83 _ (A.o.bx rfl) Δ rfl (by simp[Value.oneCell']) ?_)
         exact bodyPost_ret (results_cell_row results136 _ _ w.heap.size 83 _ _ _ rfl O underlying83 rfl Δ) rfl (by rw[H89.o];exact E.o)
  | false =>
   have H112:=η (H3.o.trans (acc_f a8))
   refine (accept_no A.o.pw (s:=⟨#[46]⟩) a8).mono ?_
   rintro _ W111 ⟨rfl,s,p⟩
   replace A:=Sw.n A s p
   clear s p H3 a8
   go_wp2_with fail
   cases m113:fieldsP c.e n ((r).tail) with
   | out=>exact absurd (H112.o.trans (bd_out m113)) HN.o
   | bad q116 =>
    refine (Said.bad (FL.o) A.o.pw m113).mono ?_
    rintro _ W114 ⟨rfl,s⟩
    exact⟨rfl,Sw.bd A s (H112.o.trans (bd_bad m113))⟩
   | ok x117 q116 =>
    obtain⟨H115,Z118,Y119,RL120⟩:=zd4 (H112.o.trans (bd_ok m113)) (Sw.ge A) (A.o.lo.2.2.2) (RowX.lt (Sw.now A).2)
    refine (Said.ok (FL.o) A.o.pw m113).mono ?_
    rintro _ W114 ⟨_,rfl,hrow,s,p⟩
    obtain⟨Ar121,cr122,rfl⟩:=hrow.form
    have HL123:=η (hrow.1)
    replace A:=Sw.rw A s p hrow
    clear s p hrow m113 H112
    obtain⟨_,_,xs128,ho,hr⟩:=(Sw.now A).1.2
    obtain⟨_,_,xs129,ho2,hr2⟩:=(Sw.now A).2
    obtain⟨HO124,HRW125,HO126,HRW127,RN133⟩:=zd5 ho hr ho2 hr2 (RowX.lt (Sw.now A).2)
    have CP137:=η ((RowX.cap (Sw.now A).1.2).2)
    have HL138:Hid (x117.length≤4000000000):=(by have:=HL7.o;have:=HL123.o;show _≤_;omega)
    have hcs:=ho2.2
    clear ho hr ho2 hr2
    rcases hcs with ⟨e136,hz⟩|⟨g134,cap135,_,e136,_⟩
    · obtain rfl:x117=[]:=List.eq_nil_of_length_eq_zero hz
      have E139:=η e136
      clear e136 hz
      go_wp2_with (at_builtin;refine wpList_app_nil rfl (.tmp 22) (.tmp 24) rfl none (0) 0 rfl E139.o CP137.o ?_)
      cases a140:(wl (q116)==[61]) with
      | false =>
       refine (expect_no A.o.pw (s:=⟨#[61]⟩) a140).mono ?_
       rintro _ W141 ⟨rfl,s⟩
       exact⟨rfl,Sw.bd A s (H115.o.trans (bd_bad (exp_f a140)))⟩
      | true =>
       have H142:=η (H115.o.trans (bd_ok (exp_t a140)))
       refine (expect_yes A.o.pw (s:=⟨#[61]⟩) a140 π).mono ?_
       rintro _ W141 ⟨rfl,s,p⟩
       replace A:=Sw.n A s p
       clear s p H115 a140
       go_wp2_with fail
       cases m143:exprP c.e n false ((q116).tail) with
       | out=>exact absurd (H142.o.trans (bd_out m143)) HN.o
       | bad q146 =>
        refine (Said.bad (EX.o) A.o.pw m143).mono ?_
        rintro _ W144 ⟨rfl,s⟩
        exact⟨rfl,Sw.bd A s (H142.o.trans (bd_bad m143))⟩
       | ok x147 q146 =>
        obtain⟨H145,Z148,Y149,RL150,RL151⟩:=zd5 (H142.o.trans (bd_ok m143)) (Sw.ge A) (A.o.lo.2.2.2) (RowX.lt (Sw.now A).1.2) (RowX.lt (Sw.now A).2)
        refine (Said.ok (EX.o) A.o.pw m143).mono ?_
        rintro _ W144 ⟨_,rfl,⟨k152,s153,n154,p155,D156,l157,c158,rfl,hnd⟩,s,p⟩
        replace A:=Sw.nd A s p hnd
        clear s p hnd m143 H142
        obtain⟨_,_,xs162,ho,hr⟩:=(Sw.now A).1.1.2
        obtain⟨HO159,HRW160,HD161⟩:=zd3 ho hr ((Sw.now A).2)
        clear ho hr
        go_wp2_with (first|(at_builtin;refine wpList_append_own_at _ rfl (.tmp 31) (.tmp 34) 81 rfl (w.heap.size+1) 83 io _ 5 64 underlying81 HIO.o.1 HIO.o.2.1 HIO.o.2.2.1 HIO.o.2.2.2 rfl π (.slice none (0) 0) (0) xs162 rfl (row_al HO159.o _) ⟨W144.heap.size,0,none⟩ 1 1 (cl k152 s153 n154 p155 D156 l157 c158) rfl rfl (World.news_of_block (Hs.new _ _ _)) (by intro u hu;simp at hu;repeat (first|(subst hu;rfl)|(rcases hu with rfl|hu;rfl))) (by have:=HL7.o;unfold maxLen;omega) (by have:=HL7.o;omega) (sz_al (RowX.lt (Sw.now A).1.1.2).1 _) ?_;intro vv W165 hown hgrow hnil hvb;simp only[Nat.zero_add] at hown;obtain⟨Ar163,cr164,rfl⟩:=row_form hown;replace A:=Sw.push A hgrow hvb hown (by simp<;>omega) HRW160.o HD161.o rfl RL150.o Y6.o;clear hown hgrow hnil hvb))
        refine (node_any _ _ _ _ _ _ _ _).mono ?_
        rintro _ W167 ⟨rfl,b⟩
        replace A:=Sw.bel A b
        clear b
        have E:=Sw.e A (k:=70) (s:=(wrd (r))) (n:=0) (p:=(p0)) (D:=Ar163) (l:=(1)) (cap:=cr164) (a:=.mk 70 (wrd (r)) 0 (p0) ([]++[x147])) fun X hx k=>NdR.of ⟨by unfold i64;omega,(by unfold i64;omega),HP.o⟩ TS4.o (RowX.nds k Z5.o)
        have O:=setRow_heap _ _ _ (cl 70 (wrd (r)) 0 (p0) Ar163 (1) cr164).toArray _ _ (A.o.bx rfl)
        go_wp2_with (refine wpList_store_row rfl 83 _ _ rfl w.heap.size (cl 70 (wrd (r)) 0 (p0) Ar163 (1) cr164).toArray rfl rfl 83 _ (A.o.bx rfl) Δ rfl (by simp[Value.oneCell']) ?_)
        exact bodyPost_ret (results_cell_row results136 _ _ w.heap.size 83 _ _ _ rfl O underlying83 rfl Δ) rfl (by rw[H145.o];exact E.o)
    · have E139:=η e136
      clear e136
      go_wp2_with (first|(at_builtin;refine wpList_append_own_at _ rfl (.tmp 22) (.tmp 24) 81 rfl (w.heap.size+1) 83 io _ 5 64 underlying81 HIO.o.1 HIO.o.2.1 HIO.o.2.2.1 HIO.o.2.2.2 rfl π (.slice none (0) 0) (0) xs128 rfl HO124.o ⟨g134,0,none⟩ x117.length cap135 xs129 E139.o HO126.o.1 (HO126.o.cells (by rw[E139.o];rfl)) (row_one HRW127.o) (by have:=HL7.o;have:=HL123.o;unfold maxLen;omega) (by have:=HL7.o;have:=HL123.o;omega) ((RowX.lt (Sw.now A).1.2).1) ?_;intro vv W132 hown hgrow hnil hvb;simp only[Nat.zero_add] at hown;obtain⟨Ar130,cr131,rfl⟩:=row_form hown;replace A:=Sw.pushs A hgrow hvb hown (by simp) HRW125.o HRW127.o RL120.o Y6.o RN133.o.1;clear hown hgrow hnil hvb))
      cases a168:(wl (q116)==[61]) with
      | false =>
       refine (expect_no A.o.pw (s:=⟨#[61]⟩) a168).mono ?_
       rintro _ W169 ⟨rfl,s⟩
       exact⟨rfl,Sw.bd A s (H115.o.trans (bd_bad (exp_f a168)))⟩
      | true =>
       have H170:=η (H115.o.trans (bd_ok (exp_t a168)))
       refine (expect_yes A.o.pw (s:=⟨#[61]⟩) a168 π).mono ?_
       rintro _ W169 ⟨rfl,s,p⟩
       replace A:=Sw.n A s p
       clear s p H115 a168
       go_wp2_with fail
       cases m171:exprP c.e n false ((q116).tail) with
       | out=>exact absurd (H170.o.trans (bd_out m171)) HN.o
       | bad q174 =>
        refine (Said.bad (EX.o) A.o.pw m171).mono ?_
        rintro _ W172 ⟨rfl,s⟩
        exact⟨rfl,Sw.bd A s (H170.o.trans (bd_bad m171))⟩
       | ok x175 q174 =>
        obtain⟨H173,Z176,Y177,RL178⟩:=zd4 (H170.o.trans (bd_ok m171)) (Sw.ge A) (A.o.lo.2.2.2) (RowX.lt (Sw.now A))
        refine (Said.ok (EX.o) A.o.pw m171).mono ?_
        rintro _ W172 ⟨_,rfl,⟨k179,s180,n181,p182,D183,l184,c185,rfl,hnd⟩,s,p⟩
        replace A:=Sw.nd A s p hnd
        clear s p hnd m171 H170
        obtain⟨_,_,xs189,ho,hr⟩:=(Sw.now A).1
        obtain⟨HO186,HRW187,HD188⟩:=zd3 ho hr ((Sw.now A).2)
        clear ho hr
        go_wp2_with (first|(at_builtin;refine wpList_append_own_at _ rfl (.tmp 31) (.tmp 34) 81 rfl (w.heap.size+1) 83 io _ 5 64 underlying81 HIO.o.1 HIO.o.2.1 HIO.o.2.2.1 HIO.o.2.2.2 rfl π (.slice Ar130 (x117.length) cr131) (x117.length) xs189 rfl (row_al HO186.o _) ⟨W172.heap.size,0,none⟩ 1 1 (cl k179 s180 n181 p182 D183 l184 c185) rfl rfl (World.news_of_block (Hs.new _ _ _)) (by intro u hu;simp at hu;repeat (first|(subst hu;rfl)|(rcases hu with rfl|hu;rfl))) (by have:=HL138.o;unfold maxLen;omega) (by have:=HL138.o;omega) (sz_al (RowX.lt (Sw.now A).1).1 _) ?_;intro vv W192 hown hgrow hnil hvb;obtain⟨Ar190,cr191,rfl⟩:=row_form hown;replace A:=Sw.push A hgrow hvb hown (by simp<;>omega) HRW187.o HD188.o rfl RL178.o Y6.o;clear hown hgrow hnil hvb))
        refine (node_any _ _ _ _ _ _ _ _).mono ?_
        rintro _ W194 ⟨rfl,b⟩
        replace A:=Sw.bel A b
        clear b
        have E:=Sw.e A (k:=70) (s:=(wrd (r))) (n:=0) (p:=(p0)) (D:=Ar190) (l:=(x117.length+1)) (cap:=cr191) (a:=.mk 70 (wrd (r)) 0 (p0) (([]++x117)++[x175])) fun X hx k=>NdR.of ⟨by unfold i64;omega,(by unfold i64;omega),HP.o⟩ TS4.o (RowX.nds k Z5.o)
        have O:=setRow_heap _ _ _ (cl 70 (wrd (r)) 0 (p0) Ar190 (x117.length+1) cr191).toArray _ _ (A.o.bx rfl)
        go_wp2_with (refine wpList_store_row rfl 83 _ _ rfl w.heap.size (cl 70 (wrd (r)) 0 (p0) Ar190 (x117.length+1) cr191).toArray rfl rfl 83 _ (A.o.bx rfl) Δ rfl (by simp[Value.oneCell']) ?_)
        exact bodyPost_ret (results_cell_row results136 _ _ w.heap.size 83 _ _ _ rfl O underlying83 rfl Δ) rfl (by rw[H173.o];exact E.o)
end Go.Proofs.YtbmknjfgjphfbaaGreatDoor
