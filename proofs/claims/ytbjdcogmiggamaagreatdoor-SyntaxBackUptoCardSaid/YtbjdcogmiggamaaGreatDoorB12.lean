import Derived.Test.YtbjdcogmiggamaaGreatDoorB11
set_option linter.all false
namespace Go.Proofs.YtbjdcogmiggamaaGreatDoor
open Proofs.Tryz RowKit Maps WideMaps ChangeMaps
set_option maxRecDepth 100000
set_option maxHeartbeats 8000000
instance (e:Int) (n:Nat):Con (memberP e n):=by unfold memberP;infer_instance
instance (e:Int) (n:Nat):Con (declP e n):=by unfold declP;infer_instance
theorem member_said (c:Cx) (h:Bool) {n:Nat} (hn:n≤1000000000):Said 185 #[.pointer (some ⟨c.pb,0,none⟩)] c false NdV (memberP c.e n):=fun w r k hne=>by
 obtain⟨EX,FL,TY,BL⟩:=zd4 (expr_said c false hn) (fields_said c false hn) (typ_said c n hn false) (block_said c false (stmt_said c n hn) hn)
 have TX:=η k.tx
 obtain⟨W0,HW,A⟩:=Sw.s1 k
 obtain⟨R,hR⟩:∃R,R=memberP c.e n r:=⟨_,rfl⟩
 rw[←hR] at hne ⊢
 obtain⟨io,hio,hiz,his,hib⟩:=info_parts info_24
 have HIO:=η (And.intro hio (And.intro hiz (And.intro his hib)))
 clear hio hiz his hib
 have HMF:=hmf
 obtain⟨HN,HR⟩:=zd2 hne hR
 clear hR hne k
 go_in
 go_upto_region 1 with fail
 rw[←HW.o]
 go_wp2_with fail
 have TX2:=η (A.o.pw.tx)
 refine (offset_any A.o.pw).mono ?_
 rintro _ W1 ⟨rfl,b⟩
 replace A:=Sw.bel A b
 go_wp2_with fail
 cases a3:(wl (r)==[115,116,97,116,101]) with
 | true =>
  refine acY A HR a3 fun W4 A H5=>?_
  go_wp2_with fail
  cases a6:lowB (wl ((r).tail)) with
  | false =>
   exact nmB A p_lowB a6 H5 fun _ h=>⟨rfl,h⟩
  | true =>
   have TS9:=η (A.o.pw.tx.2.1)
   refine nmY A p_lowB H5 a6 fun W7 A H8=>?_
   go_wp2_with fail
   cases a10:(wl (((r).tail).tail)==[58]) with
   | false =>
    exact exB A a10 H8 fun _ h=>⟨rfl,h⟩
   | true =>
    refine exY A H8 a10 fun W11 A H12=>?_
    go_wp2_with fail
    cases m13:typP c.e n ((((r).tail).tail).tail) with
    | out=>exact oB H12 m13 HN
    | bad q16 =>
     exact sdB TY A m13 H12 fun _ h=>⟨rfl,h⟩
    | ok x17 q16 =>
     obtain⟨H15,Z18,Y19⟩:=zd3 (H12.o.trans (bd_ok m13)) (Sw.ge A) (A.o.lo.2.2.2)
     refine sdO TY A m13 fun W14 k20 s21 n22 p23 D24 l25 c26 A=>?_
     replace A:=Sw.al A (cl k20 s21 n22 p23 D24 l25 c26).toArray
     go_wp2_with (refine wpList_load_row rfl 24 _ rfl W14.heap.size rfl 24 _ _ _ (Sw.now A).2 underlying24 rfl Δ ?_)
     cases a27:(wl (q16)==[61]) with
     | false =>
      exact exB A a27 H15 fun _ h=>⟨rfl,h⟩
     | true =>
      refine exY A H15 a27 fun W28 A H29=>?_
      go_upto_region 7 with fail
      replace A:=Sw.bel A (belDr W28)
      refine ttB (fun X=>Hs X W14.heap.size 24 (cl k20 s21 n22 p23 D24 l25 c26).toArray) 7 ((Sw.now A).2) (fun hHeld=>?_)
      refine ttQ 0 ?_
      refine ttQ 1 ?_
      refine ttQ 2 ?_ (hy:=fun w hS=>ld24 (.tmp 5) rfl _ rfl _ rfl hS)
      refine ttQ 3 ?_
      refine ttE 4 (fun K hK=>?_)
      go_simp
      cases m30:exprP c.e n false ((q16).tail) with
      | out=>exact oB H29 m30 HN
      | bad q33 =>
       exact sdB EX A m30 H29 fun _ h=>⟨rfl,h⟩
      | ok x34 q33 =>
       obtain⟨H32,Z35⟩:=zd2 (H29.o.trans (bd_ok m30)) (Sw.ge A)
       refine sdO EX A m30 fun W31 k36 s37 n38 p39 D40 l41 c42 A=>?_
       refine ttR hK (fun _=>(Sw.now A).1.2) (fun hHeld=>?_)
       refine ttE 5 (fun K hK=>?_)
       go_simp
       have Z43:=η (Sw.ge A)
       replace A:=Sw.al A ((cl k20 s21 n22 p23 D24 l25 c26)++(cl k36 s37 n38 p39 D40 l41 c42)).toArray
       refine ttR hK (fun _=>(Sw.now A).1.1.2) (fun hHeld=>?_)
       refine ttE 6 (fun K hK=>?_)
       go_simp
       refine (node_any _ _ _ _ _ _ _ _).mono ?_
       rintro _ W44 ⟨rfl,b⟩
       replace A:=Sw.bel A b
       refine ttR hK (fun _=>(Sw.now A).1.1.2) (fun hHeld=>?_)
       have E:=Sw.e A (k:=9) (s:=(wrd ((r).tail))) (n:=0) (p:=(offP c.e (r))) (D:=(some ⟨W31.heap.size,0,none⟩)) (l:=2) (cap:=2) (a:=.mk 9 (wrd ((r).tail)) 0 (offP c.e (r)) [x17,x34]) fun X hx k=>NdR.of ⟨by unfold i64;omega,(by unfold i64;omega),TX2.o.2.2.2.2⟩ TS9.o (kid2 (k.2) Z43.o (NdR.lo k.1.1.1.2 Z18.o) (NdR.lo k.1.2 Z35.o) rfl rfl)
       have O:=setRow_heap _ _ _ (cl 9 (wrd ((r).tail)) 0 (offP c.e (r)) (some ⟨W31.heap.size,0,none⟩) 2 2).toArray _ _ (A.o.bx rfl)
       refine ttE 7 (fun K hK=>?_)
       rw[if_pos (by rfl)]
       refine wp_store_row 24 _ _ rfl w.heap.size (cl 9 (wrd ((r).tail)) 0 (offP c.e (r)) (some ⟨W31.heap.size,0,none⟩) 2 2).toArray rfl rfl 24 _ (A.o.bx rfl) Δ rfl (by simp[Value.oneCell']) ?_
       refine ttR hK (fun e=>absurd rfl e) (fun _=>?_)
       refine ttD ?_
       go_wp2
       exact bodyPost_ret (results_cell_row results185 _ _ w.heap.size 24 _ _ _ rfl O underlying24 rfl Δ) rfl (by rw[H32.o];exact E.o)
 | false =>
  have H46:=η (HR.o.trans (acc_f a3))
  refine (accept_no A.o.pw (s:=⟨#[115,116,97,116,101]⟩) a3).mono ?_
  rintro _ W45 ⟨rfl,s,p⟩
  replace A:=Sw.n A s p
  go_wp2_with fail
  cases a47:(wl (r)==[111,110]) with
  | false =>
   exact exB A a47 H46 fun _ h=>⟨rfl,h⟩
  | true =>
   refine exY A H46 a47 fun W48 A H49=>?_
   go_wp2_with fail
   cases a50:uppB (wl ((r).tail)) with
   | false =>
    exact nmB A p_uppB a50 H49 fun _ h=>⟨rfl,h⟩
   | true =>
    have TS53:=η (A.o.pw.tx.2.1)
    refine nmY A p_uppB H49 a50 fun W51 A H52=>?_
    go_wp2_with fail
    cases m54:fieldsP c.e n (((r).tail).tail) with
    | out=>exact oB H52 m54 HN
    | bad q57 =>
     exact sdB FL A m54 H52 fun _ h=>⟨rfl,h⟩
    | ok x58 q57 =>
     obtain⟨H56,Z59,Y60⟩:=zd3 (H52.o.trans (bd_ok m54)) (Sw.ge A) (A.o.lo.2.2.2)
     refine (Said.ok (FL.o) A.o.pw m54).mono ?_
     rintro _ W55 ⟨_,rfl,hrow,s,p⟩
     obtain⟨Ar61,cr62,rfl⟩:=hrow.form
     have HL63:=η (hrow.1)
     replace A:=Sw.rw A s p hrow
     go_wp2_with fail
     cases m64:blockP c.e (stmtP c.e n) n (q57) with
     | out=>exact oB H56 m64 HN
     | bad q67 =>
      exact sdB BL A m64 H56 fun _ h=>⟨rfl,h⟩
     | ok x68 q67 =>
      obtain⟨H66,Z69,Y70,RL71⟩:=zd4 (H56.o.trans (bd_ok m64)) (Sw.ge A) (A.o.lo.2.2.2) (RowX.lt (Sw.now A).2)
      refine sdO BL A m64 fun W65 k72 s73 n74 p75 D76 l77 c78 A=>?_
      obtain⟨_,_,xs82,ho,hr⟩:=(Sw.now A).1.2
      obtain⟨HO79,HRW80,HD81⟩:=zd3 ho hr ((Sw.now A).2)
      go_wp2_with (first|(at_builtin;refine wpList_append_own_at _ rfl (.tmp 35) (.tmp 38) 22 rfl W51.heap.size 24 io _ 5 64 underlying22 HIO.o.1 HIO.o.2.1 HIO.o.2.2.1 HIO.o.2.2.2 rfl π (.slice Ar61 (x58.length) cr62) (x58.length) xs82 rfl (row_al HO79.o _) ⟨W65.heap.size,0,none⟩ 1 1 (cl k72 s73 n74 p75 D76 l77 c78) rfl rfl (World.news_of_block (Hs.new _ _ _)) (by intro u hu;simp at hu;repeat (first|(subst hu;rfl)|(rcases hu with rfl|hu;rfl))) (by have:=HL63.o;unfold maxLen;omega) (by have:=HL63.o;omega) (sz_al (RowX.lt (Sw.now A).1.2).1 _) ?_;intro vv W85 hown hgrow hnil hvb;obtain⟨Ar83,cr84,rfl⟩:=row_form hown;replace A:=Sw.push A hgrow hvb hown (by simp<;>omega) HRW80.o HD81.o rfl RL71.o Y60.o;clear hown hgrow hnil hvb))
      refine (node_any _ _ _ _ _ _ _ _).mono ?_
      rintro _ W87 ⟨rfl,b⟩
      replace A:=Sw.bel A b
      have E:=Sw.e A (k:=10) (s:=(wrd ((r).tail))) (n:=0) (p:=(offP c.e (r))) (D:=Ar83) (l:=(x58.length+1)) (cap:=cr84) (a:=.mk 10 (wrd ((r).tail)) 0 (offP c.e (r)) (x58++[x68])) fun X hx k=>NdR.of ⟨by unfold i64;omega,(by unfold i64;omega),TX2.o.2.2.2.2⟩ TS53.o (RowX.nds k Z59.o)
      have O:=setRow_heap _ _ _ (cl 10 (wrd ((r).tail)) 0 (offP c.e (r)) Ar83 (x58.length+1) cr84).toArray _ _ (A.o.bx rfl)
      go_wp2_with (refine wpList_store_row rfl 24 _ _ rfl w.heap.size (cl 10 (wrd ((r).tail)) 0 (offP c.e (r)) Ar83 (x58.length+1) cr84).toArray rfl rfl 24 _ (A.o.bx rfl) Δ rfl (by simp[Value.oneCell']) ?_)
      exact bodyPost_ret (results_cell_row results185 _ _ w.heap.size 24 _ _ _ rfl O underlying24 rfl Δ) rfl (by rw[H66.o];exact E.o)
theorem decl_said (c:Cx) (h:Bool) {n:Nat} (hn:n≤1000000000):Said 126 #[.pointer (some ⟨c.pb,0,none⟩)] c false NdV (declP c.e n):=fun w r k hne=>by
 obtain⟨FL,TY,LF,LC,FU,PO⟩:=zd6 (fields_said c false hn) (typ_said c n hn false) (list_said (F:=179) (c:=c) (h:=false) (m:=fieldP c.e n) (s:=⟨#[125]⟩) (n:=n) (fun _ _=>by kernel_rfl) inferInstance (field_said c false hn) π hn) (items_said (F:=181) (c:=c) (h:=false) (m:=ctorP c.e n) (s:=⟨#[125]⟩) (n:=n) (fun _ _=>by kernel_rfl) inferInstance (ctor_said c false hn) π hn) (function_said c false (expr_said c false hn) hn) (policy_said c false);have ME:=η (member_said c false hn)
 have TX:=η k.tx
 obtain⟨W0,HW,A⟩:=Sw.s1 k
 obtain⟨R,hR⟩:∃R,R=declP c.e n r:=⟨_,rfl⟩
 rw[←hR] at hne ⊢
 obtain⟨io,hio,hiz,his,hib⟩:=info_parts info_24
 have HIO:=η (And.intro hio (And.intro hiz (And.intro his hib)))
 clear hio hiz his hib
 have HMF:=hmf
 obtain⟨HN,HR⟩:=zd2 hne hR
 clear hR hne k
 go_in
 go_upto_region 1 with fail
 rw[←HW.o]
 go_wp2_with fail
 have TX2:=η (A.o.pw.tx)
 refine (offset_any A.o.pw).mono ?_
 rintro _ W1 ⟨rfl,b⟩
 replace A:=Sw.bel A b
 go_wp2_with fail
 cases a3:(wl (r)==[114,101,99,111,114,100]) with
 | true =>
  refine acY A HR a3 fun W4 A H5=>?_
  go_wp2_with fail
  cases a6:uppB (wl ((r).tail)) with
  | false =>
   exact nmB A p_uppB a6 H5 fun _ h=>⟨rfl,h⟩
  | true =>
   have TS9:=η (A.o.pw.tx.2.1)
   refine nmY A p_uppB H5 a6 fun W7 A H8=>?_
   go_wp2_with fail
   cases a10:(wl (((r).tail).tail)==[123]) with
   | false =>
    exact exB A a10 H8 fun _ h=>⟨rfl,h⟩
   | true =>
    refine exY A H8 a10 fun W11 A H12=>?_
    go_wp2_with fail
    cases m13:listP [125] (fieldP c.e n) n ((((r).tail).tail).tail) with
    | out=>exact oB H12 m13 HN
    | bad q16 =>
     exact sdB LF A m13 H12 fun _ h=>⟨rfl,h⟩
    | ok x17 q16 =>
     obtain⟨H15,Z18,Y19⟩:=zd3 (H12.o.trans (bd_ok m13)) (Sw.ge A) (A.o.lo.2.2.2)
     refine (Said.ok (LF.o) A.o.pw m13).mono ?_
     rintro _ W14 ⟨_,rfl,hrow,s,p⟩
     obtain⟨Ar20,cr21,rfl⟩:=hrow.form
     have HL22:=η (hrow.1)
     replace A:=Sw.rw A s p hrow
     go_wp2_with fail
     refine (node_any _ _ _ _ _ _ _ _).mono ?_
     rintro _ W23 ⟨rfl,b⟩
     replace A:=Sw.bel A b
     have E:=Sw.e A (k:=2) (s:=(wrd ((r).tail))) (n:=0) (p:=(offP c.e (r))) (D:=Ar20) (l:=(x17.length)) (cap:=cr21) (a:=.mk 2 (wrd ((r).tail)) 0 (offP c.e (r)) x17) fun X hx k=>NdR.of ⟨by unfold i64;omega,(by unfold i64;omega),TX2.o.2.2.2.2⟩ TS9.o (RowX.nds k.2 Z18.o)
     have O:=setRow_heap _ _ _ (cl 2 (wrd ((r).tail)) 0 (offP c.e (r)) Ar20 (x17.length) cr21).toArray _ _ (A.o.bx rfl)
     go_wp2_with (refine wpList_store_row rfl 24 _ _ rfl w.heap.size (cl 2 (wrd ((r).tail)) 0 (offP c.e (r)) Ar20 (x17.length) cr21).toArray rfl rfl 24 _ (A.o.bx rfl) Δ rfl (by simp[Value.oneCell']) ?_)
     exact bodyPost_ret (results_cell_row results126 _ _ w.heap.size 24 _ _ _ rfl O underlying24 rfl Δ) rfl (by rw[H15.o];exact E.o)
 | false =>
  have H25:=η (HR.o.trans (acc_f a3))
  refine (accept_no A.o.pw (s:=⟨#[114,101,99,111,114,100]⟩) a3).mono ?_
  rintro _ W24 ⟨rfl,s,p⟩
  replace A:=Sw.n A s p
  go_wp2_with fail
  cases a26:(wl (r)==[118,97,114,105,97,110,116]) with
  | true =>
   refine acY A H25 a26 fun W27 A H28=>?_
   go_wp2_with fail
   cases a29:uppB (wl ((r).tail)) with
   | false =>
    exact nmB A p_uppB a29 H28 fun _ h=>⟨rfl,h⟩
   | true =>
    have TS32:=η (A.o.pw.tx.2.1)
    refine nmY A p_uppB H28 a29 fun W30 A H31=>?_
    go_wp2_with fail
    cases a33:(wl (((r).tail).tail)==[123]) with
    | false =>
     exact exB A a33 H31 fun _ h=>⟨rfl,h⟩
    | true =>
     refine exY A H31 a33 fun W34 A H35=>?_
     go_wp2_with fail
     cases m36:itemsP [125] (ctorP c.e n) n ((((r).tail).tail).tail) with
     | out=>exact oB H35 m36 HN
     | bad q39 =>
      exact sdB LC A m36 H35 fun _ h=>⟨rfl,h⟩
     | ok x40 q39 =>
      obtain⟨H38,Z41,Y42⟩:=zd3 (H35.o.trans (bd_ok m36)) (Sw.ge A) (A.o.lo.2.2.2)
      refine (Said.ok (LC.o) A.o.pw m36).mono ?_
      rintro _ W37 ⟨_,rfl,hrow,s,p⟩
      obtain⟨Ar43,cr44,rfl⟩:=hrow.form
      have HL45:=η (hrow.1)
      replace A:=Sw.rw A s p hrow
      go_wp2_with fail
      refine (node_any _ _ _ _ _ _ _ _).mono ?_
      rintro _ W46 ⟨rfl,b⟩
      replace A:=Sw.bel A b
      have E:=Sw.e A (k:=3) (s:=(wrd ((r).tail))) (n:=0) (p:=(offP c.e (r))) (D:=Ar43) (l:=(x40.length)) (cap:=cr44) (a:=.mk 3 (wrd ((r).tail)) 0 (offP c.e (r)) x40) fun X hx k=>NdR.of ⟨by unfold i64;omega,(by unfold i64;omega),TX2.o.2.2.2.2⟩ TS32.o (RowX.nds k.2 Z41.o)
      have O:=setRow_heap _ _ _ (cl 3 (wrd ((r).tail)) 0 (offP c.e (r)) Ar43 (x40.length) cr44).toArray _ _ (A.o.bx rfl)
      go_wp2_with (refine wpList_store_row rfl 24 _ _ rfl w.heap.size (cl 3 (wrd ((r).tail)) 0 (offP c.e (r)) Ar43 (x40.length) cr44).toArray rfl rfl 24 _ (A.o.bx rfl) Δ rfl (by simp[Value.oneCell']) ?_)
      exact bodyPost_ret (results_cell_row results126 _ _ w.heap.size 24 _ _ _ rfl O underlying24 rfl Δ) rfl (by rw[H38.o];exact E.o)
  | false =>
   have H48:=η (H25.o.trans (acc_f a26))
   refine (accept_no A.o.pw (s:=⟨#[118,97,114,105,97,110,116]⟩) a26).mono ?_
   rintro _ W47 ⟨rfl,s,p⟩
   replace A:=Sw.n A s p
   go_wp2_with fail
   cases a49:(wl (r)==[101,102,102,101,99,116]) with
   | true =>
    refine acY A H48 a49 fun W50 A H51=>?_
    go_wp2_with fail
    cases a52:lowB (wl ((r).tail)) with
    | false =>
     exact nmB A p_lowB a52 H51 fun _ h=>⟨rfl,h⟩
    | true =>
     have TS55:=η (A.o.pw.tx.2.1)
     refine nmY A p_lowB H51 a52 fun W53 A H54=>?_
     go_wp2_with fail
     cases m56:fieldsP c.e n (((r).tail).tail) with
     | out=>exact oB H54 m56 HN
     | bad q59 =>
      exact sdB FL A m56 H54 fun _ h=>⟨rfl,h⟩
     | ok x60 q59 =>
      obtain⟨H58,Z61,Y62⟩:=zd3 (H54.o.trans (bd_ok m56)) (Sw.ge A) (A.o.lo.2.2.2)
      refine (Said.ok (FL.o) A.o.pw m56).mono ?_
      rintro _ W57 ⟨_,rfl,hrow,s,p⟩
      obtain⟨Ar63,cr64,rfl⟩:=hrow.form
      have HL65:=η (hrow.1)
      replace A:=Sw.rw A s p hrow
      go_wp2_with fail
      cases a66:(wl (q59)==[58]) with
      | false =>
       exact exB A a66 H58 fun _ h=>⟨rfl,h⟩
      | true =>
       refine exY A H58 a66 fun W67 A H68=>?_
       go_wp2_with fail
       cases m69:typP c.e n ((q59).tail) with
       | out=>exact oB H68 m69 HN
       | bad q72 =>
        exact sdB TY A m69 H68 fun _ h=>⟨rfl,h⟩
       | ok x73 q72 =>
        obtain⟨H71,Z74,Y75,RL76⟩:=zd4 (H68.o.trans (bd_ok m69)) (Sw.ge A) (A.o.lo.2.2.2) (RowX.lt (Sw.now A).2)
        refine sdO TY A m69 fun W70 k77 s78 n79 p80 D81 l82 c83 A=>?_
        obtain⟨_,_,xs87,ho,hr⟩:=(Sw.now A).1.2
        obtain⟨HO84,HRW85,HD86⟩:=zd3 ho hr ((Sw.now A).2)
        go_wp2_with (first|(at_builtin;refine wpList_append_own_at _ rfl (.tmp 53) (.tmp 56) 22 rfl W53.heap.size 24 io _ 5 64 underlying22 HIO.o.1 HIO.o.2.1 HIO.o.2.2.1 HIO.o.2.2.2 rfl π (.slice Ar63 (x60.length) cr64) (x60.length) xs87 rfl (row_al HO84.o _) ⟨W70.heap.size,0,none⟩ 1 1 (cl k77 s78 n79 p80 D81 l82 c83) rfl rfl (World.news_of_block (Hs.new _ _ _)) (by intro u hu;simp at hu;repeat (first|(subst hu;rfl)|(rcases hu with rfl|hu;rfl))) (by have:=HL65.o;unfold maxLen;omega) (by have:=HL65.o;omega) (sz_al (RowX.lt (Sw.now A).1.2).1 _) ?_;intro vv W90 hown hgrow hnil hvb;obtain⟨Ar88,cr89,rfl⟩:=row_form hown;replace A:=Sw.push A hgrow hvb hown (by simp<;>omega) HRW85.o HD86.o rfl RL76.o Y62.o;clear hown hgrow hnil hvb))
        refine (node_any _ _ _ _ _ _ _ _).mono ?_
        rintro _ W92 ⟨rfl,b⟩
        replace A:=Sw.bel A b
        have E:=Sw.e A (k:=4) (s:=(wrd ((r).tail))) (n:=0) (p:=(offP c.e (r))) (D:=Ar88) (l:=(x60.length+1)) (cap:=cr89) (a:=.mk 4 (wrd ((r).tail)) 0 (offP c.e (r)) (x60++[x73])) fun X hx k=>NdR.of ⟨by unfold i64;omega,(by unfold i64;omega),TX2.o.2.2.2.2⟩ TS55.o (RowX.nds k Z61.o)
        have O:=setRow_heap _ _ _ (cl 4 (wrd ((r).tail)) 0 (offP c.e (r)) Ar88 (x60.length+1) cr89).toArray _ _ (A.o.bx rfl)
        go_wp2_with (refine wpList_store_row rfl 24 _ _ rfl w.heap.size (cl 4 (wrd ((r).tail)) 0 (offP c.e (r)) Ar88 (x60.length+1) cr89).toArray rfl rfl 24 _ (A.o.bx rfl) Δ rfl (by simp[Value.oneCell']) ?_)
        exact bodyPost_ret (results_cell_row results126 _ _ w.heap.size 24 _ _ _ rfl O underlying24 rfl Δ) rfl (by rw[H71.o];exact E.o)
   | false =>
    have H94:=η (H48.o.trans (acc_f a49))
    refine (accept_no A.o.pw (s:=⟨#[101,102,102,101,99,116]⟩) a49).mono ?_
    rintro _ W93 ⟨rfl,s,p⟩
    replace A:=Sw.n A s p
    go_wp2_with fail
    cases a95:(wl (r)==[102,117,110]) with
    | true =>
     refine acY A H94 a95 fun W96 A H97=>?_
     go_wp2_with fail
     cases a98:lowB (wl ((r).tail)) with
     | false =>
      exact nmB A p_lowB a98 H97 fun _ h=>⟨rfl,h⟩
     | true =>
      have TS101:=η (A.o.pw.tx.2.1)
      refine nmY A p_lowB H97 a98 fun W99 A H100=>?_
      go_wp2_with fail
      cases m102:functionP c.e (exprP c.e n false) n (((r).tail).tail) with
      | out=>exact oB H100 m102 HN
      | bad q105 =>
       exact sdB FU A m102 H100 fun _ h=>⟨rfl,h⟩
      | ok x106 q105 =>
       obtain⟨H104,Z107,Y108⟩:=zd3 (H100.o.trans (bd_ok m102)) (Sw.ge A) (A.o.lo.2.2.2)
       refine (Said.ok (FU.o) A.o.pw m102).mono ?_
       rintro _ W103 ⟨_,rfl,hrow,s,p⟩
       obtain⟨Ar109,cr110,rfl⟩:=hrow.form
       have HL111:=η (hrow.1)
       replace A:=Sw.rw A s p hrow
       go_wp2_with fail
       refine (node_any _ _ _ _ _ _ _ _).mono ?_
       rintro _ W112 ⟨rfl,b⟩
       replace A:=Sw.bel A b
       have E:=Sw.e A (k:=5) (s:=(wrd ((r).tail))) (n:=0) (p:=(offP c.e (r))) (D:=Ar109) (l:=(x106.length)) (cap:=cr110) (a:=.mk 5 (wrd ((r).tail)) 0 (offP c.e (r)) x106) fun X hx k=>NdR.of ⟨by unfold i64;omega,(by unfold i64;omega),TX2.o.2.2.2.2⟩ TS101.o (RowX.nds k.2 Z107.o)
       have O:=setRow_heap _ _ _ (cl 5 (wrd ((r).tail)) 0 (offP c.e (r)) Ar109 (x106.length) cr110).toArray _ _ (A.o.bx rfl)
       go_wp2_with (refine wpList_store_row rfl 24 _ _ rfl w.heap.size (cl 5 (wrd ((r).tail)) 0 (offP c.e (r)) Ar109 (x106.length) cr110).toArray rfl rfl 24 _ (A.o.bx rfl) Δ rfl (by simp[Value.oneCell']) ?_)
       exact bodyPost_ret (results_cell_row results126 _ _ w.heap.size 24 _ _ _ rfl O underlying24 rfl Δ) rfl (by rw[H104.o];exact E.o)
    | false =>
     have H114:=η (H94.o.trans (acc_f a95))
     refine (accept_no A.o.pw (s:=⟨#[102,117,110]⟩) a95).mono ?_
     rintro _ W113 ⟨rfl,s,p⟩
     replace A:=Sw.n A s p
     go_wp2_with fail
     cases a115:(wl (r)==[97,99,116,111,114]) with
     | true =>
      refine acY A H114 a115 fun W116 A H117=>?_
      go_wp2_with fail
      cases a118:uppB (wl ((r).tail)) with
      | false =>
       exact nmB A p_uppB a118 H117 fun _ h=>⟨rfl,h⟩
      | true =>
       have TS121:=η (A.o.pw.tx.2.1)
       refine nmY A p_uppB H117 a118 fun W119 A H120=>?_
       go_wp2_with fail
       cases m122:fieldsP c.e n (((r).tail).tail) with
       | out=>exact oB H120 m122 HN
       | bad q125 =>
        exact sdB FL A m122 H120 fun _ h=>⟨rfl,h⟩
       | ok x126 q125 =>
        obtain⟨H124,Z127,Y128⟩:=zd3 (H120.o.trans (bd_ok m122)) (Sw.ge A) (A.o.lo.2.2.2)
        refine (Said.ok (FL.o) A.o.pw m122).mono ?_
        rintro _ W123 ⟨_,rfl,hrow,s,p⟩
        obtain⟨Ar129,cr130,rfl⟩:=hrow.form
        have HL131:=η (hrow.1)
        replace A:=Sw.rw A s p hrow
        go_wp2_with fail
        cases m132:policyP (q125) with
        | out=>exact oB H124 m132 HN
        | bad q135 =>
         exact sdB PO A m132 H124 fun _ h=>⟨rfl,h⟩
        | ok x136 q135 =>
         have H134:=η (H124.o.trans (bd_ok m132))
         refine (Said.ok (PO.o) A.o.pw m132).mono ?_
         rintro _ W133 ⟨_,rfl,⟨rfl,hi⟩,s,p⟩
         have HI137:=η hi
         replace A:=Sw.n A s p
         go_wp2_with fail
         cases a138:(wl (q135)==[123]) with
         | false =>
          exact exB A a138 H134 fun _ h=>⟨rfl,h⟩
         | true =>
          refine exY A H134 a138 fun W139 A H140=>?_
          go_wp2_with fail
          have AL:=Sw.keep A fun X k=>k.2
          have HT:Hid ((x126:List Nd).length+n≤n+n+3∧R=(untilP [125] (memberP c.e n) n ((q135).tail)).bd fun t=>M.ret (Nd.mk 6 (wrd ((r).tail)) x136 (offP c.e r) (x126++t))):=⟨by have:=HL131.o;(try simp only[List.length_append,List.length_cons,List.length_nil] at this ⊢);omega,H140.o.trans (rfl)⟩
          go_loopw [10] (fun v wr=>∃l q n1,Hid (Sw c w (w.heap.size+1) wr q false (RowX (W119.heap.size) v l))∧Hid ((l:List Nd).length+n1≤n+n+3∧R=(untilP [125] (memberP c.e n) n1 q).bd fun t=>M.ret (Nd.mk 6 (wrd ((r).tail)) x136 (offP c.e r) (l++t)))) (fun _ wr=>leftN c wr)
          case atStart=>exact⟨_,_,_,AL,HT⟩
          case round =>
           obtain⟨l,q,n1,A,HT⟩:=hrel
           obtain⟨_,_,xs,ho,hr⟩:=Sw.now A
           obtain⟨Ar,cr,rfl⟩:=row_form ho
           cases hn1:n1 with
           | zero=>exact absurd (HT.o.2.trans (by rw[hn1];rfl)) HN.o
           | succ n3 =>
           subst hn1
           have HL0:=η A.o.pw.left
           have HL141:Hid ((l:List Nd).length≤n+n+3):=(by have:=HT.o.1;show _≤_;omega)
           have HLN:=η HT.o.1
           cases hw:(wl q==[125]) with
           | true =>
            have HV:Hid (R=.ok (Nd.mk 6 (wrd ((r).tail)) x136 (offP c.e r) l) q.tail):=HT.o.2.trans (by rw[until_succ,acc_t hw];show Re.ok (Nd.mk 6 (wrd ((r).tail)) x136 (offP c.e r) (l++[])) q.tail=_;rw[List.append_nil])
            go_wp2_with fail
            refine (accept_yes A.o.pw (s:=⟨#[125]⟩) hw π).mono ?_
            rintro _ W142 ⟨rfl,s,p⟩
            replace A:=Sw.n A s p
            go_wp2_with fail
            refine (node_any _ _ _ _ _ _ _ _).mono ?_
            rintro _ W144 ⟨rfl,b⟩
            replace A:=Sw.bel A b
            have E:=Sw.e A (k:=6) (s:=(wrd ((r).tail))) (n:=(x136)) (p:=(offP c.e (r))) (D:=Ar) (l:=(l.length)) (cap:=cr) (a:=.mk 6 (wrd ((r).tail)) (x136) (offP c.e (r)) l) fun X hx k=>NdR.of ⟨by unfold i64;omega,HI137.o,TX2.o.2.2.2.2⟩ TS121.o (RowX.nds k Z127.o)
            have O:=setRow_heap _ _ _ (cl 6 (wrd ((r).tail)) (x136) (offP c.e (r)) Ar (l.length) cr).toArray _ _ (A.o.bx rfl)
            go_wp2_with (refine wpList_store_row rfl 24 _ _ rfl w.heap.size (cl 6 (wrd ((r).tail)) (x136) (offP c.e (r)) Ar (l.length) cr).toArray rfl rfl 24 _ (A.o.bx rfl) Δ rfl (by simp[Value.oneCell']) ?_)
            exact bodyPost_ret (results_cell_row results126 _ _ w.heap.size 24 _ _ _ rfl O underlying24 rfl Δ) rfl (by rw[HV.o];exact E.o)
           | false =>
            have HV:Hid (R=(memberP c.e n >>= fun a=>fun rr=>(untilP [125] (memberP c.e n) n3 rr).bd fun t=>M.ret (Nd.mk 6 (wrd ((r).tail)) x136 (offP c.e r) (l++(a::t)))) q):=HT.o.2.trans (by rw[until_succ,acc_f hw];exact until_bd [125] (memberP c.e n) n3 q (fun t=>M.ret (Nd.mk 6 (wrd ((r).tail)) x136 (offP c.e r) (l++t))))
            go_wp2_with fail
            refine (accept_no A.o.pw (s:=⟨#[125]⟩) hw).mono ?_
            rintro _ W143 ⟨rfl,s,p⟩
            replace A:=Sw.n A s p
            go_wp2_with fail
            cases m145:memberP c.e n (q) with
            | out=>exact oB HV m145 HN
            | bad q148 =>
             exact sdB ME A m145 HV fun _ h=>⟨rfl,h⟩
            | ok x149 q148 =>
             have HQL:=η ((inferInstance:Con (memberP c.e n)).h _ _ _ m145).2
             obtain⟨H147,Z150,Y151,RL152⟩:=zd4 (HV.o.trans (bd_ok m145)) (Sw.ge A) (A.o.lo.2.2.2) (RowX.lt (Sw.now A))
             refine sdO ME A m145 fun W146 k153 s154 n155 p156 D157 l158 c159 A=>?_
             obtain⟨_,_,xs163,ho,hr⟩:=(Sw.now A).1
             obtain⟨HO160,HRW161,HD162⟩:=zd3 ho hr ((Sw.now A).2)
             go_wp2_with (first|(at_builtin;refine wpList_append_own_at _ rfl (.tmp 83) (.tmp 86) 22 rfl (W119.heap.size) 24 io _ 5 64 underlying22 HIO.o.1 HIO.o.2.1 HIO.o.2.2.1 HIO.o.2.2.2 rfl π (.slice Ar (l.length) cr) (l.length) xs163 rfl (row_al HO160.o _) ⟨W146.heap.size,0,none⟩ 1 1 (cl k153 s154 n155 p156 D157 l158 c159) rfl rfl (World.news_of_block (Hs.new _ _ _)) (by intro u hu;simp at hu;repeat (first|(subst hu;rfl)|(rcases hu with rfl|hu;rfl))) (by have:=HL141.o;unfold maxLen;omega) (by have:=HL141.o;omega) (sz_al (RowX.lt (Sw.now A).1).1 _) ?_;intro vv W166 hown hgrow hnil hvb;obtain⟨Ar164,cr165,rfl⟩:=row_form hown;replace A:=Sw.push A hgrow hvb hown (by simp<;>omega) HRW161.o HD162.o rfl RL152.o Y128.o;clear hown hgrow hnil hvb))
             refine⟨⟨l++[x149],q148,n3,A,⟨by have:=HLN.o;rw[List.length_append];simp;omega,H147.o.trans (by simp only[List.append_assoc];rfl)⟩⟩,?_⟩
             refine Nat.lt_of_le_of_lt (Nat.le_of_eq A.o.pw.left) ?_
             rw[HL0.o]
             exact HQL.o
     | false =>
      have H169:=η (H114.o.trans (acc_f a115))
      refine (accept_no A.o.pw (s:=⟨#[97,99,116,111,114]⟩) a115).mono ?_
      rintro _ W168 ⟨rfl,s,p⟩
      replace A:=Sw.n A s p
      go_wp2_with fail
      refine (fail_any A.o.pw).mono ?_
      rintro _ W170 ⟨rfl,b⟩
      exact⟨rfl,Sw.bd A (Stp.of_below b) (H169.o.trans rfl)⟩
theorem convT_said (c:Cx) (h:Bool) {n:Nat} (hn:n≤1000000000) (p0:Int) (hp:i64 p0):Said 174 #[.pointer (some ⟨c.pb,0,none⟩),.int .i64 p0] c false NdV (convTypeP c.e p0 n):=fun w r k hne=>by
 obtain⟨EX,FL,HP⟩:=zd3 (expr_said c false hn) (fields_said c false hn) hp
 clear hp
 have TX:=η k.tx
 obtain⟨W0,HW,A⟩:=Sw.s1 k
 obtain⟨R,hR⟩:∃R,R=convTypeP c.e p0 n r:=⟨_,rfl⟩
 rw[←hR] at hne ⊢
 obtain⟨io,hio,hiz,his,hib⟩:=info_parts info_24
 have HIO:=η (And.intro hio (And.intro hiz (And.intro his hib)))
 clear hio hiz his hib
 have HMF:=hmf
 obtain⟨HN,HR⟩:=zd2 hne hR
 clear hR hne k
 go_in
 go_upto_region 1 with fail
 rw[←HW.o]
 clear HW
 go_wp2_with fail
 cases a1:uppB (wl (r)) with
 | false =>
  exact nmB A p_uppB a1 HR fun _ h=>⟨rfl,h⟩
 | true =>
  have TS4:=η (A.o.pw.tx.2.1)
  refine nmY A p_uppB HR a1 fun W2 A H3=>?_
  clear HR a1
  replace A:=Sw.nil A
  have Z5:Hid (w.heap.size≤w.heap.size+1):=Nat.le_succ _
  have Y6:Hid (w.heap.size+1≤w.heap.size+1):=Nat.le_refl _
  have HL7:Hid (0≤0):=Nat.le_refl _
  go_wp2_with fail
  cases a8:(wl ((r).tail)==[46]) with
  | true =>
   refine acY A H3 a8 fun W9 A H10=>?_
   clear H3 a8
   go_wp2_with fail
   have TX12:=η (A.o.pw.tx)
   refine (offset_any A.o.pw).mono ?_
   rintro _ W11 ⟨rfl,b⟩
   replace A:=Sw.bel A b
   clear b
   go_wp2_with fail
   cases a13:uppB (wl (((r).tail).tail)) with
   | false =>
    exact nmB A p_uppB a13 H10 fun _ h=>⟨rfl,h⟩
   | true =>
    have TS16:=η (A.o.pw.tx.2.1)
    refine nmY A p_uppB H10 a13 fun W14 A H15=>?_
    clear H10 a13
    go_wp2_with fail
    obtain⟨RL17,Z19,Y20⟩:=zd3 (RowX.lt (Sw.now A).2) (Sw.ge A) (A.o.lo.2.2.2)
    refine (node_any _ _ _ _ _ _ _ _).mono ?_
    rintro _ W18 ⟨rfl,b⟩
    replace A:=Sw.nd A (Stp.of_below b) (A.o.pw.bel b) (cs:=cl 24 (wrd (((r).tail).tail)) 0 (offP c.e (((r).tail).tail)) none 0 0) (a:=(Nd.mk 24 (wrd (((r).tail).tail)) 0 (offP c.e (((r).tail).tail)) [])) (NdR.of ⟨by unfold i64;omega,by unfold i64;omega,TX12.o.2.2.2.2⟩ TS16.o kid0)
    clear b
    obtain⟨_,_,xs24,ho,hr⟩:=(Sw.now A).1.2
    obtain⟨HO21,HRW22,HD23⟩:=zd3 ho hr ((Sw.now A).2)
    clear ho hr
    go_wp2_with (first|(at_builtin;refine wpList_append_own_at _ rfl (.tmp 15) (.tmp 20) 22 rfl (w.heap.size+1) 24 io _ 5 64 underlying22 HIO.o.1 HIO.o.2.1 HIO.o.2.2.1 HIO.o.2.2.2 rfl π (.slice none (0) 0) (0) xs24 rfl (row_al HO21.o _) ⟨W18.heap.size,0,none⟩ 1 1 (cl 24 (wrd (((r).tail).tail)) 0 (offP c.e (((r).tail).tail)) none 0 0) rfl rfl (World.news_of_block (Hs.new _ _ _)) (by intro u hu;simp at hu;repeat (first|(subst hu;rfl)|(rcases hu with rfl|hu;rfl))) (by have:=HL7.o;unfold maxLen;omega) (by have:=HL7.o;omega) (sz_al (RowX.lt (Sw.now A).1.2).1 _) ?_;intro vv W27 hown hgrow hnil hvb;simp only[Nat.zero_add] at hown;obtain⟨Ar25,cr26,rfl⟩:=row_form hown;replace A:=Sw.push A hgrow hvb hown (by simp<;>omega) HRW22.o HD23.o rfl RL17.o Y6.o;clear hown hgrow hnil hvb))
    cases m29:fieldsP c.e n ((((r).tail).tail).tail) with
    | out=>exact oB H15 m29 HN
    | bad q32 =>
     exact sdB FL A m29 H15 fun _ h=>⟨rfl,h⟩
    | ok x33 q32 =>
     obtain⟨H31,Z34,Y35,RL36⟩:=zd4 (H15.o.trans (bd_ok m29)) (Sw.ge A) (A.o.lo.2.2.2) (RowX.lt (Sw.now A))
     refine (Said.ok (FL.o) A.o.pw m29).mono ?_
     rintro _ W30 ⟨_,rfl,hrow,s,p⟩
     obtain⟨Ar37,cr38,rfl⟩:=hrow.form
     have HL39:=η (hrow.1)
     replace A:=Sw.rw A s p hrow
     clear s p hrow m29 H15
     obtain⟨_,_,xs44,ho,hr⟩:=(Sw.now A).1
     obtain⟨_,_,xs45,ho2,hr2⟩:=(Sw.now A).2
     obtain⟨HO40,HRW41,HO42,HRW43,RN49⟩:=zd5 ho hr ho2 hr2 (RowX.lt (Sw.now A).2)
     have CP53:=η ((RowX.cap (Sw.now A).1).2)
     have HL54:Hid (1+x33.length≤4000000000):=(by have:=HL7.o;have:=HL39.o;show _≤_;omega)
     have hcs:=ho2.2
     clear ho hr ho2 hr2
     rcases hcs with ⟨e52,hz⟩|⟨g50,cap51,_,e52,_⟩
     · obtain rfl:x33=[]:=List.eq_nil_of_length_eq_zero hz
       have E55:=η e52
       clear e52 hz
       go_wp2_with (at_builtin;refine wpList_app_nil rfl (.tmp 22) (.tmp 24) rfl Ar25 (1) cr26 rfl E55.o CP53.o ?_)
       cases a56:(wl (q32)==[61]) with
       | false =>
        exact exB A a56 H31 fun _ h=>⟨rfl,h⟩
       | true =>
        refine exY A H31 a56 fun W57 A H58=>?_
        clear H31 a56
        go_wp2_with fail
        cases m59:exprP c.e n false ((q32).tail) with
        | out=>exact oB H58 m59 HN
        | bad q62 =>
         exact sdB EX A m59 H58 fun _ h=>⟨rfl,h⟩
        | ok x63 q62 =>
         obtain⟨H61,Z64,Y65,RL66,RL67⟩:=zd5 (H58.o.trans (bd_ok m59)) (Sw.ge A) (A.o.lo.2.2.2) (RowX.lt (Sw.now A).1) (RowX.lt (Sw.now A).2)
         refine sdO EX A m59 fun W60 k68 s69 n70 p71 D72 l73 c74 A=>?_
         clear m59 H58
         obtain⟨_,_,xs78,ho,hr⟩:=(Sw.now A).1.1
         obtain⟨HO75,HRW76,HD77⟩:=zd3 ho hr ((Sw.now A).2)
         clear ho hr
         go_wp2_with (first|(at_builtin;refine wpList_append_own_at _ rfl (.tmp 31) (.tmp 34) 22 rfl (w.heap.size+1) 24 io _ 5 64 underlying22 HIO.o.1 HIO.o.2.1 HIO.o.2.2.1 HIO.o.2.2.2 rfl π (.slice Ar25 (1) cr26) (1) xs78 rfl (row_al HO75.o _) ⟨W60.heap.size,0,none⟩ 1 1 (cl k68 s69 n70 p71 D72 l73 c74) rfl rfl (World.news_of_block (Hs.new _ _ _)) (by intro u hu;simp at hu;repeat (first|(subst hu;rfl)|(rcases hu with rfl|hu;rfl))) (by have:=HL7.o;unfold maxLen;omega) (by have:=HL7.o;omega) (sz_al (RowX.lt (Sw.now A).1.1).1 _) ?_;intro vv W81 hown hgrow hnil hvb;obtain⟨Ar79,cr80,rfl⟩:=row_form hown;replace A:=Sw.push A hgrow hvb hown (by simp<;>omega) HRW76.o HD77.o rfl RL66.o Y6.o;clear hown hgrow hnil hvb))
         refine (node_any _ _ _ _ _ _ _ _).mono ?_
         rintro _ W83 ⟨rfl,b⟩
         replace A:=Sw.bel A b
         clear b
         have E:=Sw.e A (k:=70) (s:=(wrd (r))) (n:=1) (p:=(p0)) (D:=Ar79) (l:=(1+1)) (cap:=cr80) (a:=.mk 70 (wrd (r)) 1 (p0) (([]++[(Nd.mk 24 (wrd (((r).tail).tail)) 0 (offP c.e (((r).tail).tail)) [])])++[x63])) fun X hx k=>NdR.of ⟨by unfold i64;omega,(by unfold i64;omega),HP.o⟩ TS4.o (RowX.nds k Z5.o)
         have O:=setRow_heap _ _ _ (cl 70 (wrd (r)) 1 (p0) Ar79 (1+1) cr80).toArray _ _ (A.o.bx rfl)
         go_wp2_with (refine wpList_store_row rfl 24 _ _ rfl w.heap.size (cl 70 (wrd (r)) 1 (p0) Ar79 (1+1) cr80).toArray rfl rfl 24 _ (A.o.bx rfl) Δ rfl (by simp[Value.oneCell']) ?_)
         exact bodyPost_ret (results_cell_row results174 _ _ w.heap.size 24 _ _ _ rfl O underlying24 rfl Δ) rfl (by rw[H61.o];exact E.o)
     · have E55:=η e52
       clear e52
       go_wp2_with (first|(at_builtin;refine wpList_append_own_at _ rfl (.tmp 22) (.tmp 24) 22 rfl (w.heap.size+1) 24 io _ 5 64 underlying22 HIO.o.1 HIO.o.2.1 HIO.o.2.2.1 HIO.o.2.2.2 rfl π (.slice Ar25 (1) cr26) (1) xs44 rfl HO40.o ⟨g50,0,none⟩ x33.length cap51 xs45 E55.o HO42.o.1 (HO42.o.cells (by rw[E55.o];rfl)) (row_one HRW43.o) (by have:=HL7.o;have:=HL39.o;unfold maxLen;omega) (by have:=HL7.o;have:=HL39.o;omega) ((RowX.lt (Sw.now A).1).1) ?_;intro vv W48 hown hgrow hnil hvb;obtain⟨Ar46,cr47,rfl⟩:=row_form hown;replace A:=Sw.pushs A hgrow hvb hown (by simp) HRW41.o HRW43.o RL36.o Y6.o RN49.o.1;clear hown hgrow hnil hvb))
       cases a84:(wl (q32)==[61]) with
       | false =>
        exact exB A a84 H31 fun _ h=>⟨rfl,h⟩
       | true =>
        refine exY A H31 a84 fun W85 A H86=>?_
        clear H31 a84
        go_wp2_with fail
        cases m87:exprP c.e n false ((q32).tail) with
        | out=>exact oB H86 m87 HN
        | bad q90 =>
         exact sdB EX A m87 H86 fun _ h=>⟨rfl,h⟩
        | ok x91 q90 =>
         obtain⟨H89,Z92,Y93,RL94⟩:=zd4 (H86.o.trans (bd_ok m87)) (Sw.ge A) (A.o.lo.2.2.2) (RowX.lt (Sw.now A))
         refine sdO EX A m87 fun W88 k95 s96 n97 p98 D99 l100 c101 A=>?_
         clear m87 H86
         obtain⟨_,_,xs105,ho,hr⟩:=(Sw.now A).1
         simp only[List.length_append,List.length_cons,List.length_nil,Nat.zero_add] at ho
         obtain⟨HO102,HRW103,HD104⟩:=zd3 ho hr ((Sw.now A).2)
         clear ho hr
         go_wp2_with (first|(at_builtin;refine wpList_append_own_at _ rfl (.tmp 31) (.tmp 34) 22 rfl (w.heap.size+1) 24 io _ 5 64 underlying22 HIO.o.1 HIO.o.2.1 HIO.o.2.2.1 HIO.o.2.2.2 rfl π (.slice Ar46 (1+x33.length) cr47) (1+x33.length) xs105 rfl (row_al HO102.o _) ⟨W88.heap.size,0,none⟩ 1 1 (cl k95 s96 n97 p98 D99 l100 c101) rfl rfl (World.news_of_block (Hs.new _ _ _)) (by intro u hu;simp at hu;repeat (first|(subst hu;rfl)|(rcases hu with rfl|hu;rfl))) (by have:=HL54.o;unfold maxLen;omega) (by have:=HL54.o;omega) (sz_al (RowX.lt (Sw.now A).1).1 _) ?_;intro vv W108 hown hgrow hnil hvb;obtain⟨Ar106,cr107,rfl⟩:=row_form hown;replace A:=Sw.push A hgrow hvb hown (by simp<;>omega) HRW103.o HD104.o rfl RL94.o Y6.o;clear hown hgrow hnil hvb))
         refine (node_any _ _ _ _ _ _ _ _).mono ?_
         rintro _ W110 ⟨rfl,b⟩
         replace A:=Sw.bel A b
         clear b
         have E:=Sw.e A (k:=70) (s:=(wrd (r))) (n:=1) (p:=(p0)) (D:=Ar106) (l:=(1+x33.length+1)) (cap:=cr107) (a:=.mk 70 (wrd (r)) 1 (p0) ((([]++[(Nd.mk 24 (wrd (((r).tail).tail)) 0 (offP c.e (((r).tail).tail)) [])])++x33)++[x91])) fun X hx k=>NdR.of ⟨by unfold i64;omega,(by unfold i64;omega),HP.o⟩ TS4.o (RowX.nds k Z5.o)
         have O:=setRow_heap _ _ _ (cl 70 (wrd (r)) 1 (p0) Ar106 (1+x33.length+1) cr107).toArray _ _ (A.o.bx rfl)
         go_wp2_with (refine wpList_store_row rfl 24 _ _ rfl w.heap.size (cl 70 (wrd (r)) 1 (p0) Ar106 (1+x33.length+1) cr107).toArray rfl rfl 24 _ (A.o.bx rfl) Δ rfl (by simp[Value.oneCell']) ?_)
         exact bodyPost_ret (results_cell_row results174 _ _ w.heap.size 24 _ _ _ rfl O underlying24 rfl Δ) rfl (by rw[H89.o];exact E.o)
  | false =>
   have H112:=η (H3.o.trans (acc_f a8))
   refine (accept_no A.o.pw (s:=⟨#[46]⟩) a8).mono ?_
   rintro _ W111 ⟨rfl,s,p⟩
   replace A:=Sw.n A s p
   clear s p H3 a8
   go_wp2_with fail
   cases m113:fieldsP c.e n ((r).tail) with
   | out=>exact oB H112 m113 HN
   | bad q116 =>
    exact sdB FL A m113 H112 fun _ h=>⟨rfl,h⟩
   | ok x117 q116 =>
    obtain⟨H115,Z118,Y119,RL120⟩:=zd4 (H112.o.trans (bd_ok m113)) (Sw.ge A) (A.o.lo.2.2.2) (RowX.lt (Sw.now A).2)
    refine (Said.ok (FL.o) A.o.pw m113).mono ?_
    rintro _ W114 ⟨_,rfl,hrow,s,p⟩
    obtain⟨Ar121,cr122,rfl⟩:=hrow.form
    have HL123:=η (hrow.1)
    replace A:=Sw.rw A s p hrow
    clear s p hrow m113 H112
    obtain⟨_,_,xs128,ho,hr⟩:=(Sw.now A).1.2
    obtain⟨_,_,xs129,ho2,hr2⟩:=(Sw.now A).2
    obtain⟨HO124,HRW125,HO126,HRW127,RN133⟩:=zd5 ho hr ho2 hr2 (RowX.lt (Sw.now A).2)
    have CP137:=η ((RowX.cap (Sw.now A).1.2).2)
    have HL138:Hid (x117.length≤4000000000):=(by have:=HL7.o;have:=HL123.o;show _≤_;omega)
    have hcs:=ho2.2
    clear ho hr ho2 hr2
    rcases hcs with ⟨e136,hz⟩|⟨g134,cap135,_,e136,_⟩
    · obtain rfl:x117=[]:=List.eq_nil_of_length_eq_zero hz
      have E139:=η e136
      clear e136 hz
      go_wp2_with (at_builtin;refine wpList_app_nil rfl (.tmp 22) (.tmp 24) rfl none (0) 0 rfl E139.o CP137.o ?_)
      cases a140:(wl (q116)==[61]) with
      | false =>
       exact exB A a140 H115 fun _ h=>⟨rfl,h⟩
      | true =>
       refine exY A H115 a140 fun W141 A H142=>?_
       clear H115 a140
       go_wp2_with fail
       cases m143:exprP c.e n false ((q116).tail) with
       | out=>exact oB H142 m143 HN
       | bad q146 =>
        exact sdB EX A m143 H142 fun _ h=>⟨rfl,h⟩
       | ok x147 q146 =>
        obtain⟨H145,Z148,Y149,RL150,RL151⟩:=zd5 (H142.o.trans (bd_ok m143)) (Sw.ge A) (A.o.lo.2.2.2) (RowX.lt (Sw.now A).1.2) (RowX.lt (Sw.now A).2)
        refine sdO EX A m143 fun W144 k152 s153 n154 p155 D156 l157 c158 A=>?_
        clear m143 H142
        obtain⟨_,_,xs162,ho,hr⟩:=(Sw.now A).1.1.2
        obtain⟨HO159,HRW160,HD161⟩:=zd3 ho hr ((Sw.now A).2)
        clear ho hr
        go_wp2_with (first|(at_builtin;refine wpList_append_own_at _ rfl (.tmp 31) (.tmp 34) 22 rfl (w.heap.size+1) 24 io _ 5 64 underlying22 HIO.o.1 HIO.o.2.1 HIO.o.2.2.1 HIO.o.2.2.2 rfl π (.slice none (0) 0) (0) xs162 rfl (row_al HO159.o _) ⟨W144.heap.size,0,none⟩ 1 1 (cl k152 s153 n154 p155 D156 l157 c158) rfl rfl (World.news_of_block (Hs.new _ _ _)) (by intro u hu;simp at hu;repeat (first|(subst hu;rfl)|(rcases hu with rfl|hu;rfl))) (by have:=HL7.o;unfold maxLen;omega) (by have:=HL7.o;omega) (sz_al (RowX.lt (Sw.now A).1.1.2).1 _) ?_;intro vv W165 hown hgrow hnil hvb;simp only[Nat.zero_add] at hown;obtain⟨Ar163,cr164,rfl⟩:=row_form hown;replace A:=Sw.push A hgrow hvb hown (by simp<;>omega) HRW160.o HD161.o rfl RL150.o Y6.o;clear hown hgrow hnil hvb))
        refine (node_any _ _ _ _ _ _ _ _).mono ?_
        rintro _ W167 ⟨rfl,b⟩
        replace A:=Sw.bel A b
        clear b
        have E:=Sw.e A (k:=70) (s:=(wrd (r))) (n:=0) (p:=(p0)) (D:=Ar163) (l:=(1)) (cap:=cr164) (a:=.mk 70 (wrd (r)) 0 (p0) ([]++[x147])) fun X hx k=>NdR.of ⟨by unfold i64;omega,(by unfold i64;omega),HP.o⟩ TS4.o (RowX.nds k Z5.o)
        have O:=setRow_heap _ _ _ (cl 70 (wrd (r)) 0 (p0) Ar163 (1) cr164).toArray _ _ (A.o.bx rfl)
        go_wp2_with (refine wpList_store_row rfl 24 _ _ rfl w.heap.size (cl 70 (wrd (r)) 0 (p0) Ar163 (1) cr164).toArray rfl rfl 24 _ (A.o.bx rfl) Δ rfl (by simp[Value.oneCell']) ?_)
        exact bodyPost_ret (results_cell_row results174 _ _ w.heap.size 24 _ _ _ rfl O underlying24 rfl Δ) rfl (by rw[H145.o];exact E.o)
    · have E139:=η e136
      clear e136
      go_wp2_with (first|(at_builtin;refine wpList_append_own_at _ rfl (.tmp 22) (.tmp 24) 22 rfl (w.heap.size+1) 24 io _ 5 64 underlying22 HIO.o.1 HIO.o.2.1 HIO.o.2.2.1 HIO.o.2.2.2 rfl π (.slice none (0) 0) (0) xs128 rfl HO124.o ⟨g134,0,none⟩ x117.length cap135 xs129 E139.o HO126.o.1 (HO126.o.cells (by rw[E139.o];rfl)) (row_one HRW127.o) (by have:=HL7.o;have:=HL123.o;unfold maxLen;omega) (by have:=HL7.o;have:=HL123.o;omega) ((RowX.lt (Sw.now A).1.2).1) ?_;intro vv W132 hown hgrow hnil hvb;simp only[Nat.zero_add] at hown;obtain⟨Ar130,cr131,rfl⟩:=row_form hown;replace A:=Sw.pushs A hgrow hvb hown (by simp) HRW125.o HRW127.o RL120.o Y6.o RN133.o.1;clear hown hgrow hnil hvb))
      cases a168:(wl (q116)==[61]) with
      | false =>
       exact exB A a168 H115 fun _ h=>⟨rfl,h⟩
      | true =>
       refine exY A H115 a168 fun W169 A H170=>?_
       clear H115 a168
       go_wp2_with fail
       cases m171:exprP c.e n false ((q116).tail) with
       | out=>exact oB H170 m171 HN
       | bad q174 =>
        exact sdB EX A m171 H170 fun _ h=>⟨rfl,h⟩
       | ok x175 q174 =>
        obtain⟨H173,Z176,Y177,RL178⟩:=zd4 (H170.o.trans (bd_ok m171)) (Sw.ge A) (A.o.lo.2.2.2) (RowX.lt (Sw.now A))
        refine sdO EX A m171 fun W172 k179 s180 n181 p182 D183 l184 c185 A=>?_
        clear m171 H170
        obtain⟨_,_,xs189,ho,hr⟩:=(Sw.now A).1
        obtain⟨HO186,HRW187,HD188⟩:=zd3 ho hr ((Sw.now A).2)
        clear ho hr
        go_wp2_with (first|(at_builtin;refine wpList_append_own_at _ rfl (.tmp 31) (.tmp 34) 22 rfl (w.heap.size+1) 24 io _ 5 64 underlying22 HIO.o.1 HIO.o.2.1 HIO.o.2.2.1 HIO.o.2.2.2 rfl π (.slice Ar130 (x117.length) cr131) (x117.length) xs189 rfl (row_al HO186.o _) ⟨W172.heap.size,0,none⟩ 1 1 (cl k179 s180 n181 p182 D183 l184 c185) rfl rfl (World.news_of_block (Hs.new _ _ _)) (by intro u hu;simp at hu;repeat (first|(subst hu;rfl)|(rcases hu with rfl|hu;rfl))) (by have:=HL138.o;unfold maxLen;omega) (by have:=HL138.o;omega) (sz_al (RowX.lt (Sw.now A).1).1 _) ?_;intro vv W192 hown hgrow hnil hvb;obtain⟨Ar190,cr191,rfl⟩:=row_form hown;replace A:=Sw.push A hgrow hvb hown (by simp<;>omega) HRW187.o HD188.o rfl RL178.o Y6.o;clear hown hgrow hnil hvb))
        refine (node_any _ _ _ _ _ _ _ _).mono ?_
        rintro _ W194 ⟨rfl,b⟩
        replace A:=Sw.bel A b
        clear b
        have E:=Sw.e A (k:=70) (s:=(wrd (r))) (n:=0) (p:=(p0)) (D:=Ar190) (l:=(x117.length+1)) (cap:=cr191) (a:=.mk 70 (wrd (r)) 0 (p0) (([]++x117)++[x175])) fun X hx k=>NdR.of ⟨by unfold i64;omega,(by unfold i64;omega),HP.o⟩ TS4.o (RowX.nds k Z5.o)
        have O:=setRow_heap _ _ _ (cl 70 (wrd (r)) 0 (p0) Ar190 (x117.length+1) cr191).toArray _ _ (A.o.bx rfl)
        go_wp2_with (refine wpList_store_row rfl 24 _ _ rfl w.heap.size (cl 70 (wrd (r)) 0 (p0) Ar190 (x117.length+1) cr191).toArray rfl rfl 24 _ (A.o.bx rfl) Δ rfl (by simp[Value.oneCell']) ?_)
        exact bodyPost_ret (results_cell_row results174 _ _ w.heap.size 24 _ _ _ rfl O underlying24 rfl Δ) rfl (by rw[H173.o];exact E.o)
end Go.Proofs.YtbjdcogmiggamaaGreatDoor
