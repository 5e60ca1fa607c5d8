import Derived.Test.YtbjdcogmiggamaaGreatDoorB09
set_option linter.all false
namespace Go.Proofs.YtbjdcogmiggamaaGreatDoor
open Proofs.Tryz RowKit Maps WideMaps ChangeMaps
set_option maxRecDepth 100000
set_option maxHeartbeats 8000000
theorem block_said (c:Cx) (h:Bool) {m:M Nd} [hS:Suf m] [hC:Con m] (HS:Said 225 #[.pointer (some ⟨c.pb,0,none⟩)] c false NdV m) {n:Nat} (hn:n≤1000000000):Said 209 #[.pointer (some ⟨c.pb,0,none⟩)] c false NdV (blockP c.e m n):=fun w r k hne=>by
 have HX:=η HS
 clear HS
 have TX:=η k.tx
 obtain⟨W0,HW,A⟩:=Sw.s1 k
 obtain⟨R,hR⟩:∃R,R=blockP c.e m n r:=⟨_,rfl⟩
 rw[←hR] at hne ⊢
 obtain⟨io,hio,hiz,his,hib⟩:=info_parts info_24
 have HIO:=η (And.intro hio (And.intro hiz (And.intro his hib)))
 clear hio hiz his hib
 have HMF:=hmf
 obtain⟨HN,HR⟩:=zd2 hne hR
 clear hR hne k
 go_in
 go_upto_region 1 with fail
 rw[←HW.o]
 go_wp2_with fail
 have TX2:=η (A.o.pw.tx)
 refine (offset_any A.o.pw).mono ?_
 rintro _ W1 ⟨rfl,b⟩
 replace A:=Sw.bel A b
 go_wp2_with fail
 cases a3:(wl (r)==[123]) with
 | false =>
  exact exB A a3 HR fun _ h=>⟨rfl,h⟩
 | true =>
  refine exY A HR a3 fun W4 A H5=>?_
  replace A:=Sw.nil A
  go_wp2_with fail
  have AL:=Sw.keep A fun X k=>k.2
  have HT:Hid (([]:List Nd).length+n≤n+n+3∧R=(untilP [125] (m) n ((r).tail)).bd fun t=>M.ret (Nd.mk 11 e0 0 (offP c.e r) ([]++t))):=⟨by show 0+n≤n+n+3;omega,H5.o.trans (rfl)⟩
  go_loopw [4] (fun v wr=>∃l q n1,Hid (Sw c w (w.heap.size+1) wr q false (RowX ((w.heap.size+1)) v l))∧Hid ((l:List Nd).length+n1≤n+n+3∧R=(untilP [125] (m) n1 q).bd fun t=>M.ret (Nd.mk 11 e0 0 (offP c.e r) (l++t)))) (fun _ wr=>leftN c wr)
  case atStart=>exact⟨_,_,_,AL,HT⟩
  case round =>
   obtain⟨l,q,n1,A,HT⟩:=hrel
   have HZ6:Hid (w.heap.size≤w.heap.size+1):=Nat.le_succ _
   have HN7:Hid (w.heap.size+1≤w.heap.size+1):=Nat.le_refl _
   obtain⟨_,_,xs,ho,hr⟩:=Sw.now A
   obtain⟨Ar,cr,rfl⟩:=row_form ho
   cases hn1:n1 with
   | zero=>exact absurd (HT.o.2.trans (by rw[hn1];rfl)) HN.o
   | succ n3 =>
   subst hn1
   have HL0:=η A.o.pw.left
   have HL8:Hid ((l:List Nd).length≤n+n+3):=(by have:=HT.o.1;show _≤_;omega)
   have HLN:=η HT.o.1
   cases hw:(wl q==[125]) with
   | true =>
    have HV:Hid (R=.ok (Nd.mk 11 e0 0 (offP c.e r) l) q.tail):=HT.o.2.trans (by rw[until_succ,acc_t hw];show Re.ok (Nd.mk 11 e0 0 (offP c.e r) (l++[])) q.tail=_;rw[List.append_nil])
    go_wp2_with fail
    refine (accept_yes A.o.pw (s:=⟨#[125]⟩) hw π).mono ?_
    rintro _ W9 ⟨rfl,s,p⟩
    replace A:=Sw.n A s p
    go_wp2_with fail
    refine (node_any _ _ _ _ _ _ _ _).mono ?_
    rintro _ W11 ⟨rfl,b⟩
    replace A:=Sw.bel A b
    have E:=Sw.e A (k:=11) (s:=e0) (n:=0) (p:=(offP c.e (r))) (D:=Ar) (l:=(l.length)) (cap:=cr) (a:=.mk 11 e0 0 (offP c.e (r)) l) fun X hx k=>NdR.of ⟨by unfold i64;omega,(by unfold i64;omega),TX2.o.2.2.2.2⟩ (by show e0.size≤_;decide) (RowX.nds k HZ6.o)
    have O:=setRow_heap _ _ _ (cl 11 e0 0 (offP c.e (r)) Ar (l.length) cr).toArray _ _ (A.o.bx rfl)
    go_wp2_with (refine wpList_store_row rfl 24 _ _ rfl w.heap.size (cl 11 e0 0 (offP c.e (r)) Ar (l.length) cr).toArray rfl rfl 24 _ (A.o.bx rfl) Δ rfl (by simp[Value.oneCell']) ?_)
    exact bodyPost_ret (results_cell_row results209 _ _ w.heap.size 24 _ _ _ rfl O underlying24 rfl Δ) rfl (by rw[HV.o];exact E.o)
   | false =>
    have HV:Hid (R=(m >>= fun a=>fun rr=>(untilP [125] (m) n3 rr).bd fun t=>M.ret (Nd.mk 11 e0 0 (offP c.e r) (l++(a::t)))) q):=HT.o.2.trans (by rw[until_succ,acc_f hw];exact until_bd [125] (m) n3 q (fun t=>M.ret (Nd.mk 11 e0 0 (offP c.e r) (l++t))))
    go_wp2_with fail
    refine (accept_no A.o.pw (s:=⟨#[125]⟩) hw).mono ?_
    rintro _ W10 ⟨rfl,s,p⟩
    replace A:=Sw.n A s p
    go_wp2_with fail
    cases m12:m (q) with
    | out=>exact oB HV m12 HN
    | bad q15 =>
     exact sdB HX A m12 HV fun _ h=>⟨rfl,h⟩
    | ok x16 q15 =>
     have HQL:=η ((inferInstance:Con (m)).h _ _ _ m12).2
     obtain⟨H14,Z17,Y18,RL19⟩:=zd4 (HV.o.trans (bd_ok m12)) (Sw.ge A) (A.o.lo.2.2.2) (RowX.lt (Sw.now A))
     refine sdO HX A m12 fun W13 k20 s21 n22 p23 D24 l25 c26 A=>?_
     obtain⟨_,_,xs30,ho,hr⟩:=(Sw.now A).1
     obtain⟨HO27,HRW28,HD29⟩:=zd3 ho hr ((Sw.now A).2)
     go_wp2_with (first|(at_builtin;refine wpList_append_own_at _ rfl (.tmp 12) (.tmp 15) 22 rfl (w.heap.size+1) 24 io _ 5 64 underlying22 HIO.o.1 HIO.o.2.1 HIO.o.2.2.1 HIO.o.2.2.2 rfl π (.slice Ar (l.length) cr) (l.length) xs30 rfl (row_al HO27.o _) ⟨W13.heap.size,0,none⟩ 1 1 (cl k20 s21 n22 p23 D24 l25 c26) rfl rfl (World.news_of_block (Hs.new _ _ _)) (by intro u hu;simp at hu;repeat (first|(subst hu;rfl)|(rcases hu with rfl|hu;rfl))) (by have:=HL8.o;unfold maxLen;omega) (by have:=HL8.o;omega) (sz_al (RowX.lt (Sw.now A).1).1 _) ?_;intro vv W33 hown hgrow hnil hvb;obtain⟨Ar31,cr32,rfl⟩:=row_form hown;replace A:=Sw.push A hgrow hvb hown (by simp<;>omega) HRW28.o HD29.o rfl RL19.o HN7.o;clear hown hgrow hnil hvb))
     refine⟨⟨l++[x16],q15,n3,A,⟨by have:=HLN.o;rw[List.length_append];simp;omega,H14.o.trans (by simp only[List.append_assoc];rfl)⟩⟩,?_⟩
     refine Nat.lt_of_le_of_lt (Nat.le_of_eq A.o.pw.left) ?_
     rw[HL0.o]
     exact HQL.o
theorem send_said (c:Cx) (h:Bool) {n:Nat} (hn:n≤1000000000):Said 238 #[.pointer (some ⟨c.pb,0,none⟩)] c false NdV (sendP c.e n):=fun w r k hne=>by
 obtain⟨EX,AR⟩:=zd2 (expr_said c false hn) (args_said c false (expr_said c false hn) hn)
 have TX:=η k.tx
 obtain⟨W0,HW,A⟩:=Sw.s1 k
 obtain⟨R,hR⟩:∃R,R=sendP c.e n r:=⟨_,rfl⟩
 rw[←hR] at hne ⊢
 obtain⟨io,hio,hiz,his,hib⟩:=info_parts info_24
 have HIO:=η (And.intro hio (And.intro hiz (And.intro his hib)))
 clear hio hiz his hib
 have HMF:=hmf
 obtain⟨HN,HR⟩:=zd2 hne hR
 clear hR hne k
 go_in
 go_upto_region 1 with fail
 rw[←HW.o]
 clear HW
 go_wp2_with fail
 have TX2:=η (A.o.pw.tx)
 refine (offset_any A.o.pw).mono ?_
 rintro _ W1 ⟨rfl,b⟩
 replace A:=Sw.bel A b
 clear b
 go_wp2_with fail
 cases a3:(wl (r)==[115,101,110,100]) with
 | false =>
  exact exB A a3 HR fun _ h=>⟨rfl,h⟩
 | true =>
  refine exY A HR a3 fun W4 A H5=>?_
  clear HR a3
  go_wp2_with fail
  cases m6:exprP c.e n false ((r).tail) with
  | out=>exact oB H5 m6 HN
  | bad q9 =>
   exact sdB EX A m6 H5 fun _ h=>⟨rfl,h⟩
  | ok x10 q9 =>
   obtain⟨H8,Z11,Y12⟩:=zd3 (H5.o.trans (bd_ok m6)) (Sw.ge A) (A.o.lo.2.2.2)
   refine (Said.ok (EX.o) A.o.pw m6).mono ?_
   rintro _ W7 ⟨_,rfl,⟨k13,s14,n15,p16,D17,l18,c19,rfl,hnd⟩,s,p⟩
   replace A:=Sw.nd A s p hnd
   have SZ20:=η (s.size)
   clear s p hnd m6 H5
   replace A:=Sw.one A (Sw.now A).2 Y12.o SZ20.o
   have HL21:Hid (([x10]:List Nd).length≤1):=Nat.le_refl _
   go_wp2_with fail
   cases a22:uppB (wl (q9)) with
   | false =>
    exact nmB A p_uppB a22 H8 fun _ h=>⟨rfl,h⟩
   | true =>
    have TS25:=η (A.o.pw.tx.2.1)
    refine nmY A p_uppB H8 a22 fun W23 A H24=>?_
    clear H8 a22
    go_wp2_with fail
    cases m26:argsP (exprP c.e n false) n ((q9).tail) with
    | out=>exact oB H24 m26 HN
    | bad q29 =>
     exact sdB AR A m26 H24 fun _ h=>⟨rfl,h⟩
    | ok x30 q29 =>
     obtain⟨H28,Z31,Y32,RL33⟩:=zd4 (H24.o.trans (bd_ok m26)) (Sw.ge A) (A.o.lo.2.2.2) (RowX.lt (Sw.now A).2)
     refine (Said.ok (AR.o) A.o.pw m26).mono ?_
     rintro _ W27 ⟨_,rfl,hrow,s,p⟩
     obtain⟨Ar34,cr35,rfl⟩:=hrow.form
     have HL36:=η (hrow.1)
     replace A:=Sw.rw A s p hrow
     clear s p hrow m26 H24
     obtain⟨_,_,xs41,ho,hr⟩:=(Sw.now A).1.2
     obtain⟨_,_,xs42,ho2,hr2⟩:=(Sw.now A).2
     obtain⟨HO37,HRW38,HO39,HRW40,RN46⟩:=zd5 ho hr ho2 hr2 (RowX.lt (Sw.now A).2)
     have CP50:=η ((RowX.cap (Sw.now A).1.2).2)
     have HL51:Hid (1+x30.length≤4000000000):=(by have:=HL21.o;have:=HL36.o;show _≤_;omega)
     have hcs:=ho2.2
     clear ho hr ho2 hr2
     rcases hcs with ⟨e49,hz⟩|⟨g47,cap48,_,e49,_⟩
     · obtain rfl:x30=[]:=List.eq_nil_of_length_eq_zero hz
       have E52:=η e49
       clear e49 hz
       go_wp2_with (at_builtin;refine wpList_app_nil rfl (.tmp 17) (.tmp 19) rfl (some ⟨W7.heap.size,0,none⟩) (1) 1 rfl E52.o CP50.o ?_)
       refine (node_any _ _ _ _ _ _ _ _).mono ?_
       rintro _ W53 ⟨rfl,b⟩
       replace A:=Sw.bel A b
       clear b
       have E:=Sw.e A (k:=56) (s:=(wrd (q9))) (n:=0) (p:=(offP c.e (r))) (D:=(some ⟨W7.heap.size,0,none⟩)) (l:=(1)) (cap:=1) (a:=.mk 56 (wrd (q9)) 0 (offP c.e (r)) [x10]) fun X hx k=>NdR.of ⟨by unfold i64;omega,(by unfold i64;omega),TX2.o.2.2.2.2⟩ TS25.o (RowX.nds k.1.2 Z11.o)
       have O:=setRow_heap _ _ _ (cl 56 (wrd (q9)) 0 (offP c.e (r)) (some ⟨W7.heap.size,0,none⟩) (1) 1).toArray _ _ (A.o.bx rfl)
       go_wp2_with (refine wpList_store_row rfl 24 _ _ rfl w.heap.size (cl 56 (wrd (q9)) 0 (offP c.e (r)) (some ⟨W7.heap.size,0,none⟩) (1) 1).toArray rfl rfl 24 _ (A.o.bx rfl) Δ rfl (by simp[Value.oneCell']) ?_)
       exact bodyPost_ret (results_cell_row results238 _ _ w.heap.size 24 _ _ _ rfl O underlying24 rfl Δ) rfl (by rw[H28.o];exact E.o)
     · have E52:=η e49
       clear e49
       go_wp2_with (first|(at_builtin;refine wpList_append_own_at _ rfl (.tmp 17) (.tmp 19) 22 rfl W4.heap.size 24 io _ 5 64 underlying22 HIO.o.1 HIO.o.2.1 HIO.o.2.2.1 HIO.o.2.2.2 rfl π (.slice (some ⟨W7.heap.size,0,none⟩) (1) 1) (1) xs41 rfl HO37.o ⟨g47,0,none⟩ x30.length cap48 xs42 E52.o HO39.o.1 (HO39.o.cells (by rw[E52.o];rfl)) (row_one HRW40.o) (by have:=HL21.o;have:=HL36.o;unfold maxLen;omega) (by have:=HL21.o;have:=HL36.o;omega) ((RowX.lt (Sw.now A).1.2).1) ?_;intro vv W45 hown hgrow hnil hvb;obtain⟨Ar43,cr44,rfl⟩:=row_form hown;replace A:=Sw.pushs A hgrow hvb hown (by simp) HRW38.o HRW40.o RL33.o Y12.o RN46.o.1;clear hown hgrow hnil hvb))
       refine (node_any _ _ _ _ _ _ _ _).mono ?_
       rintro _ W54 ⟨rfl,b⟩
       replace A:=Sw.bel A b
       clear b
       have E:=Sw.e A (k:=56) (s:=(wrd (q9))) (n:=0) (p:=(offP c.e (r))) (D:=Ar43) (l:=(1+x30.length)) (cap:=cr44) (a:=.mk 56 (wrd (q9)) 0 (offP c.e (r)) ([x10]++x30)) fun X hx k=>NdR.of ⟨by unfold i64;omega,(by unfold i64;omega),TX2.o.2.2.2.2⟩ TS25.o (RowX.nds k Z11.o)
       have O:=setRow_heap _ _ _ (cl 56 (wrd (q9)) 0 (offP c.e (r)) Ar43 (1+x30.length) cr44).toArray _ _ (A.o.bx rfl)
       go_wp2_with (refine wpList_store_row rfl 24 _ _ rfl w.heap.size (cl 56 (wrd (q9)) 0 (offP c.e (r)) Ar43 (1+x30.length) cr44).toArray rfl rfl 24 _ (A.o.bx rfl) Δ rfl (by simp[Value.oneCell']) ?_)
       exact bodyPost_ret (results_cell_row results238 _ _ w.heap.size 24 _ _ _ rfl O underlying24 rfl Δ) rfl (by rw[H28.o];exact E.o)
theorem do_said (c:Cx) (h:Bool) {n:Nat} (hn:n≤1000000000):Said 239 #[.pointer (some ⟨c.pb,0,none⟩)] c false NdV (doP c.e n):=fun w r k hne=>by
 have AR:=η (args_said c false (expr_said c false hn) hn)
 have TX:=η k.tx
 obtain⟨W0,HW,A⟩:=Sw.s1 k
 obtain⟨R,hR⟩:∃R,R=doP c.e n r:=⟨_,rfl⟩
 rw[←hR] at hne ⊢
 obtain⟨io,hio,hiz,his,hib⟩:=info_parts info_24
 have HIO:=η (And.intro hio (And.intro hiz (And.intro his hib)))
 clear hio hiz his hib
 have HMF:=hmf
 obtain⟨HN,HR⟩:=zd2 hne hR
 clear hR hne k
 go_in
 go_upto_region 1 with fail
 rw[←HW.o]
 go_wp2_with fail
 have TX2:=η (A.o.pw.tx)
 refine (offset_any A.o.pw).mono ?_
 rintro _ W1 ⟨rfl,b⟩
 replace A:=Sw.bel A b
 go_wp2_with fail
 cases a3:(wl (r)==[100,111]) with
 | false =>
  exact exB A a3 HR fun _ h=>⟨rfl,h⟩
 | true =>
  refine exY A HR a3 fun W4 A H5=>?_
  go_wp2_with fail
  cases a6:lowB (wl ((r).tail)) with
  | false =>
   exact nmB A p_lowB a6 H5 fun _ h=>⟨rfl,h⟩
  | true =>
   have TS9:=η (A.o.pw.tx.2.1)
   refine nmY A p_lowB H5 a6 fun W7 A H8=>?_
   go_wp2_with fail
   cases m10:argsP (exprP c.e n false) n (((r).tail).tail) with
   | out=>exact oB H8 m10 HN
   | bad q13 =>
    exact sdB AR A m10 H8 fun _ h=>⟨rfl,h⟩
   | ok x14 q13 =>
    obtain⟨H12,Z15,Y16⟩:=zd3 (H8.o.trans (bd_ok m10)) (Sw.ge A) (A.o.lo.2.2.2)
    refine (Said.ok (AR.o) A.o.pw m10).mono ?_
    rintro _ W11 ⟨_,rfl,hrow,s,p⟩
    obtain⟨Ar17,cr18,rfl⟩:=hrow.form
    have HL19:=η (hrow.1)
    replace A:=Sw.rw A s p hrow
    go_wp2_with fail
    cases a20:(wl (q13)==[116,104,101,110]) with
    | false =>
     exact exB A a20 H12 fun _ h=>⟨rfl,h⟩
    | true =>
     refine exY A H12 a20 fun W21 A H22=>?_
     go_wp2_with fail
     have TX24:=η (A.o.pw.tx)
     refine (offset_any A.o.pw).mono ?_
     rintro _ W23 ⟨rfl,b⟩
     replace A:=Sw.bel A b
     go_wp2_with fail
     cases a25:uppB (wl ((q13).tail)) with
     | false =>
      exact nmB A p_uppB a25 H22 fun _ h=>⟨rfl,h⟩
     | true =>
      have TS28:=η (A.o.pw.tx.2.1)
      refine nmY A p_uppB H22 a25 fun W26 A H27=>?_
      go_wp2_with fail
      obtain⟨RL29,Z31,Y32⟩:=zd3 (RowX.lt (Sw.now A).2) (Sw.ge A) (A.o.lo.2.2.2)
      refine (node_any _ _ _ _ _ _ _ _).mono ?_
      rintro _ W30 ⟨rfl,b⟩
      replace A:=Sw.nd A (Stp.of_below b) (A.o.pw.bel b) (cs:=cl 75 (wrd ((q13).tail)) 0 (offP c.e ((q13).tail)) none 0 0) (a:=(Nd.mk 75 (wrd ((q13).tail)) 0 (offP c.e ((q13).tail)) [])) (NdR.of ⟨by unfold i64;omega,by unfold i64;omega,TX24.o.2.2.2.2⟩ TS28.o kid0)
      obtain⟨_,_,xs36,ho,hr⟩:=(Sw.now A).1.2
      obtain⟨HO33,HRW34,HD35⟩:=zd3 ho hr ((Sw.now A).2)
      go_wp2_with (first|(at_builtin;refine wpList_append_own_at _ rfl (.tmp 21) (.tmp 26) 22 rfl W7.heap.size 24 io _ 5 64 underlying22 HIO.o.1 HIO.o.2.1 HIO.o.2.2.1 HIO.o.2.2.2 rfl π (.slice Ar17 (x14.length) cr18) (x14.length) xs36 rfl (row_al HO33.o _) ⟨W30.heap.size,0,none⟩ 1 1 (cl 75 (wrd ((q13).tail)) 0 (offP c.e ((q13).tail)) none 0 0) rfl rfl (World.news_of_block (Hs.new _ _ _)) (by intro u hu;simp at hu;repeat (first|(subst hu;rfl)|(rcases hu with rfl|hu;rfl))) (by have:=HL19.o;unfold maxLen;omega) (by have:=HL19.o;omega) (sz_al (RowX.lt (Sw.now A).1.2).1 _) ?_;intro vv W39 hown hgrow hnil hvb;obtain⟨Ar37,cr38,rfl⟩:=row_form hown;replace A:=Sw.push A hgrow hvb hown (by simp<;>omega) HRW34.o HD35.o rfl RL29.o Y16.o;clear hown hgrow hnil hvb))
      refine (node_any _ _ _ _ _ _ _ _).mono ?_
      rintro _ W41 ⟨rfl,b⟩
      replace A:=Sw.bel A b
      have E:=Sw.e A (k:=59) (s:=(wrd ((r).tail))) (n:=0) (p:=(offP c.e (r))) (D:=Ar37) (l:=(x14.length+1)) (cap:=cr38) (a:=.mk 59 (wrd ((r).tail)) 0 (offP c.e (r)) (x14++[(Nd.mk 75 (wrd ((q13).tail)) 0 (offP c.e ((q13).tail)) [])])) fun X hx k=>NdR.of ⟨by unfold i64;omega,(by unfold i64;omega),TX2.o.2.2.2.2⟩ TS9.o (RowX.nds k Z15.o)
      have O:=setRow_heap _ _ _ (cl 59 (wrd ((r).tail)) 0 (offP c.e (r)) Ar37 (x14.length+1) cr38).toArray _ _ (A.o.bx rfl)
      go_wp2_with (refine wpList_store_row rfl 24 _ _ rfl w.heap.size (cl 59 (wrd ((r).tail)) 0 (offP c.e (r)) Ar37 (x14.length+1) cr38).toArray rfl rfl 24 _ (A.o.bx rfl) Δ rfl (by simp[Value.oneCell']) ?_)
      exact bodyPost_ret (results_cell_row results239 _ _ w.heap.size 24 _ _ _ rfl O underlying24 rfl Δ) rfl (by rw[H27.o];exact E.o)
theorem spawn_said (c:Cx) {n:Nat} (hn:n≤1000000000) (p0 bp:Int) (bs:Ê) (h0:i64 p0) (hb:i64 bp) (hbs:bs.size≤maxLen):Said 235 #[.pointer (some ⟨c.pb,0,none⟩),.int .i64 p0,.agg (cl 40 bs 0 bp none 0 0).toArray] c false NdV (spawnP c.e n p0 (.mk 40 bs 0 bp [])):=fun wo r k0 hne=>by
 obtain⟨EX,AR,HP,HBD⟩:=zd4 (expr_said c false hn) (args_said c false (expr_said c false hn) hn) h0 (And.intro hb hbs)
 clear h0 hb hbs
 obtain⟨w,hw⟩:∃w,Hid (w=wo.alloc (.cells (cl 40 bs 0 bp none 0 0).toArray 24)):=⟨_,rfl⟩
 have k:PW c w r false:=by rw[hw.o];exact k0.bel (belA (belR _) _)
 have HBX:Hid (Hs w wo.heap.size 24 (cl 40 bs 0 bp none 0 0).toArray):=by show Hs _ _ _ _;rw[hw.o];exact Hs.new _ _ _
 have HNE:Hid (¬only c.pb wo.heap.size):=fun e=>by have:=k0.box.lt;unfold only at e;omega
 clear k0
 refine Calls.mono (R:=Res NdV c w false (spawnP c.e n p0 (.mk 40 bs 0 bp []) r)) ?_ (fun en w2 x=>Res.up hw x)
 have TX:=η k.tx
 obtain⟨W0,HW,A⟩:=Sw.s1 k
 obtain⟨R,hR⟩:∃R,R=spawnP c.e n p0 (.mk 40 bs 0 bp []) r:=⟨_,rfl⟩
 rw[←hR] at hne ⊢
 obtain⟨io,hio,hiz,his,hib⟩:=info_parts info_24
 have HIO:=η (And.intro hio (And.intro hiz (And.intro his hib)))
 clear hio hiz his hib
 have HMF:=hmf
 obtain⟨HN,HR⟩:=zd2 hne hR
 clear hR hne k
 go_in
 go_upto_region 1 with fail
 rw[←hw.o,←HW.o]
 rw[show wo.heap.size+1=w.heap.size by rw[hw.o];simp]
 go_wp2_with fail
 cases a1:(wl (r)==[115,112,97,119,110]) with
 | false =>
  exact exB A a1 HR fun _ h=>⟨rfl,h⟩
 | true =>
  refine exY A HR a1 fun W2 A H3=>?_
  go_wp2_with fail
  cases a4:uppB (wl ((r).tail)) with
  | false =>
   exact nmB A p_uppB a4 H3 fun _ h=>⟨rfl,h⟩
  | true =>
   have TS7:=η (A.o.pw.tx.2.1)
   refine nmY A p_uppB H3 a4 fun W5 A H6=>?_
   go_upto_region 3 with fail
   replace A:=Sw.bel A (belDr W5)
   refine ttB (fun X=>Hs X wo.heap.size 24 (cl 40 bs 0 bp none 0 0).toArray) 5 (hs_stp HBX.o A.o.st HNE.o) (fun hHeld=>?_)
   refine ttQ 0 ?_ (hy:=fun w hS=>ld24 (.tmp 5) rfl _ rfl _ rfl hS)
   refine ttQ 2 ?_
   have HMZ:=η A.o.lo.2.2.2
   refine ttE2 1 3 (fun K hK=>?_) (fun K hK=>?_)
   · go_simp
     replace A:=Sw.one (m:=W5.drew.heap.size) A (cs:=(cl 40 bs 0 bp none 0 0)) (a:=(Nd.mk 40 bs 0 bp [])) (NdR.of ⟨by unfold i64;omega,by unfold i64;omega,HBD.o.1⟩ HBD.o.2 kid0) HMZ.o (Nat.le_refl _)
     refine ttR hK (fun _=>(hs_stp HBX.o A.o.st HNE.o)) (fun hHeld=>?_)
     refine ttE 3 (fun K hK=>?_)
     go_simp
     cases m8:argsP (exprP c.e n false) n (((r).tail).tail) with
     | out=>exact oB H6 m8 HN
     | bad q11 =>
      exact sdB AR A m8 H6 fun _ h=>⟨rfl,h⟩
     | ok x12 q11 =>
      have H10:=η (H6.o.trans (bd_ok m8))
      have Y16:=η A.o.lo.2.2.2
      refine (Said.ok (AR.o) A.o.pw m8).mono ?_
      rintro _ W9 ⟨_,rfl,hrow,s,p⟩
      obtain⟨Ar13,cr14,rfl⟩:=hrow.form
      have HL15:=η hrow.1
      have SZ:=η s.size
      replace A:=Sw.rw A s p hrow
      refine ttR hK (fun _=>(hs_stp HBX.o A.o.st HNE.o)) (fun hHeld=>?_)
      refine ttE 4 (fun K hK=>?_)
      rw[if_pos (by rfl)]
      refine Sw.appG (K3:=fun _=>True) A (fun _ _ _ _=>trivial) (Sw.now A).1.2 (Sw.now A).2 (by simp) (by have:=HL15.o;omega) (by simp) HMZ.o (fun b e=>e.elim) (fun b e x=>by have e:_=b:=Option.some.inj e;have t:=x.1.1;simp at t e;omega) (.tmp 14) (.tmp 16) rfl rfl rfl ?_
      rintro A6 c6 W6 A
      refine ttR hK (fun _=>(hs_stp HBX.o A.o.st HNE.o)) (fun hHeld=>?_)
      refine ttE 5 (fun K hK=>?_)
      go_simp
      refine ttR hK (fun e=>absurd rfl e) (fun _=>?_)
      refine ttD ?_
      have ZW:=η (Nat.le_trans (Nat.le_succ _) HMZ.o)
      have HLL:Hid (1+x12.length≤2000000003):=(by have:=HL15.o;show _≤_;omega)
      go_wp2_with fail
      cases a17:(wl (q11)==[111,110]) with
      | true =>
       refine acY A H10 a17 fun W18 A H19=>?_
       go_wp2_with fail
       cases m20:exprP c.e n false ((q11).tail) with
       | out=>exact oB H19 m20 HN
       | bad q23 =>
        exact sdB EX A m20 H19 fun _ h=>⟨rfl,h⟩
       | ok x24 q23 =>
        obtain⟨H22,Z25,Y26,RL27⟩:=zd4 (H19.o.trans (bd_ok m20)) (Sw.ge A) (A.o.lo.2.2.2) (RowX.lt (Sw.now A).2)
        refine sdO EX A m20 fun W21 k28 s29 n30 p31 D32 l33 c34 A=>?_
        obtain⟨_,_,xs38,ho,hr⟩:=(Sw.now A).1.2
        simp only[List.length_append,List.length_cons,List.length_nil,Nat.zero_add] at ho
        obtain⟨HO35,HRW36,HD37⟩:=zd3 ho hr ((Sw.now A).2)
        go_wp2_with (first|(at_builtin;refine wpList_append_own_at _ rfl (.tmp 22) (.tmp 25) 22 rfl (W5.drew.heap.size) 24 io _ 5 64 underlying22 HIO.o.1 HIO.o.2.1 HIO.o.2.2.1 HIO.o.2.2.2 rfl π (.slice A6 (1+x12.length) c6) (1+x12.length) xs38 rfl (row_al HO35.o _) ⟨W21.heap.size,0,none⟩ 1 1 (cl k28 s29 n30 p31 D32 l33 c34) rfl rfl (World.news_of_block (Hs.new _ _ _)) (by intro u hu;simp at hu;repeat (first|(subst hu;rfl)|(rcases hu with rfl|hu;rfl))) (by have:=HLL.o;unfold maxLen;omega) (by have:=HLL.o;omega) (sz_al (RowX.lt (Sw.now A).1.2).1 _) ?_;intro vv W41 hown hgrow hnil hvb;obtain⟨Ar39,cr40,rfl⟩:=row_form hown;replace A:=Sw.push A hgrow hvb hown (by simp<;>omega) HRW36.o HD37.o rfl RL27.o HMZ.o;clear hown hgrow hnil hvb))
        refine (node_any _ _ _ _ _ _ _ _).mono ?_
        rintro _ W43 ⟨rfl,b⟩
        replace A:=Sw.bel A b
        have E:=Sw.e A (k:=58) (s:=(wrd ((r).tail))) (n:=1) (p:=(p0)) (D:=Ar39) (l:=(1+x12.length+1)) (cap:=cr40) (a:=.mk 58 (wrd ((r).tail)) 1 (p0) (([(Nd.mk 40 bs 0 bp [])]++x12)++[x24])) fun X hx k=>NdR.of ⟨by unfold i64;omega,(by unfold i64;omega),HP.o⟩ TS7.o (RowX.nds k ZW.o)
        have O:=setRow_heap _ _ _ (cl 58 (wrd ((r).tail)) 1 (p0) Ar39 (1+x12.length+1) cr40).toArray _ _ (A.o.bx rfl)
        go_wp2_with (refine wpList_store_row rfl 24 _ _ rfl w.heap.size (cl 58 (wrd ((r).tail)) 1 (p0) Ar39 (1+x12.length+1) cr40).toArray rfl rfl 24 _ (A.o.bx rfl) Δ rfl (by simp[Value.oneCell']) ?_)
        exact bodyPost_ret (results_cell_row results235 _ _ w.heap.size 24 _ _ _ rfl O underlying24 rfl Δ) rfl (by rw[H22.o];exact E.o)
      | false =>
       have H45:=η (H10.o.trans (acc_f a17))
       refine (accept_no A.o.pw (s:=⟨#[111,110]⟩) a17).mono ?_
       rintro _ W44 ⟨rfl,s,p⟩
       replace A:=Sw.n A s p
       go_wp2_with fail
       refine (node_any _ _ _ _ _ _ _ _).mono ?_
       rintro _ W46 ⟨rfl,b⟩
       replace A:=Sw.bel A b
       have E:=Sw.e A (k:=58) (s:=(wrd ((r).tail))) (n:=0) (p:=(p0)) (D:=A6) (l:=(1+x12.length)) (cap:=c6) (a:=.mk 58 (wrd ((r).tail)) 0 (p0) ([(Nd.mk 40 bs 0 bp [])]++x12)) fun X hx k=>NdR.of ⟨by unfold i64;omega,(by unfold i64;omega),HP.o⟩ TS7.o (RowX.nds k.2 ZW.o)
       have O:=setRow_heap _ _ _ (cl 58 (wrd ((r).tail)) 0 (p0) A6 (1+x12.length) c6).toArray _ _ (A.o.bx rfl)
       go_wp2_with (refine wpList_store_row rfl 24 _ _ rfl w.heap.size (cl 58 (wrd ((r).tail)) 0 (p0) A6 (1+x12.length) c6).toArray rfl rfl 24 _ (A.o.bx rfl) Δ rfl (by simp[Value.oneCell']) ?_)
       exact bodyPost_ret (results_cell_row results235 _ _ w.heap.size 24 _ _ _ rfl O underlying24 rfl Δ) rfl (by rw[H45.o];exact E.o)
   · go_simp
     cases m47:argsP (exprP c.e n false) n (((r).tail).tail) with
     | out=>exact oB H6 m47 HN
     | bad q50 =>
      exact sdB AR A m47 H6 fun _ h=>⟨rfl,h⟩
     | ok x51 q50 =>
      have H49:=η (H6.o.trans (bd_ok m47))
      have Y55:=η A.o.lo.2.2.2
      refine (Said.ok (AR.o) A.o.pw m47).mono ?_
      rintro _ W48 ⟨_,rfl,hrow,s,p⟩
      obtain⟨Ar52,cr53,rfl⟩:=hrow.form
      have HL54:=η hrow.1
      have SZ:=η s.size
      replace A:=Sw.rwE A s p hrow
      refine ttR hK (fun _=>(hs_stp HBX.o A.o.st HNE.o)) (fun hHeld=>?_)
      refine ttE 1 (fun K hK=>?_)
      go_simp
      replace A:=Sw.one (m:=W5.drew.heap.size) A (cs:=(cl 40 bs 0 bp none 0 0)) (a:=(Nd.mk 40 bs 0 bp [])) (NdR.of ⟨by unfold i64;omega,by unfold i64;omega,HBD.o.1⟩ HBD.o.2 kid0) HMZ.o SZ.o
      refine ttR hK (fun _=>(hs_stp HBX.o A.o.st HNE.o)) (fun hHeld=>?_)
      refine ttE 4 (fun K hK=>?_)
      rw[if_pos (by rfl)]
      refine Sw.appG (K3:=fun _=>True) A (fun _ _ _ _=>trivial) (Sw.now A).2 (Sw.now A).1.2 (by simp) (by have:=HL54.o;omega) (Nat.le_refl _) HMZ.o (fun b e=>e.elim) (fun b e x=>x.2 (Option.some.inj e).symm) (.tmp 14) (.tmp 16) rfl rfl rfl ?_
      rintro A6 c6 W6 A
      refine ttR hK (fun _=>(hs_stp HBX.o A.o.st HNE.o)) (fun hHeld=>?_)
      refine ttE 5 (fun K hK=>?_)
      go_simp
      refine ttR hK (fun e=>absurd rfl e) (fun _=>?_)
      refine ttD ?_
      have ZW:=η (Nat.le_trans (Nat.le_succ _) HMZ.o)
      have HLL:Hid (1+x51.length≤2000000003):=(by have:=HL54.o;show _≤_;omega)
      go_wp2_with fail
      cases a56:(wl (q50)==[111,110]) with
      | true =>
       refine acY A H49 a56 fun W57 A H58=>?_
       go_wp2_with fail
       cases m59:exprP c.e n false ((q50).tail) with
       | out=>exact oB H58 m59 HN
       | bad q62 =>
        exact sdB EX A m59 H58 fun _ h=>⟨rfl,h⟩
       | ok x63 q62 =>
        obtain⟨H61,Z64,Y65,RL66⟩:=zd4 (H58.o.trans (bd_ok m59)) (Sw.ge A) (A.o.lo.2.2.2) (RowX.lt (Sw.now A).2)
        refine sdO EX A m59 fun W60 k67 s68 n69 p70 D71 l72 c73 A=>?_
        obtain⟨_,_,xs77,ho,hr⟩:=(Sw.now A).1.2
        simp only[List.length_append,List.length_cons,List.length_nil,Nat.zero_add] at ho
        obtain⟨HO74,HRW75,HD76⟩:=zd3 ho hr ((Sw.now A).2)
        go_wp2_with (first|(at_builtin;refine wpList_append_own_at _ rfl (.tmp 22) (.tmp 25) 22 rfl (W5.drew.heap.size) 24 io _ 5 64 underlying22 HIO.o.1 HIO.o.2.1 HIO.o.2.2.1 HIO.o.2.2.2 rfl π (.slice A6 (1+x51.length) c6) (1+x51.length) xs77 rfl (row_al HO74.o _) ⟨W60.heap.size,0,none⟩ 1 1 (cl k67 s68 n69 p70 D71 l72 c73) rfl rfl (World.news_of_block (Hs.new _ _ _)) (by intro u hu;simp at hu;repeat (first|(subst hu;rfl)|(rcases hu with rfl|hu;rfl))) (by have:=HLL.o;unfold maxLen;omega) (by have:=HLL.o;omega) (sz_al (RowX.lt (Sw.now A).1.2).1 _) ?_;intro vv W80 hown hgrow hnil hvb;obtain⟨Ar78,cr79,rfl⟩:=row_form hown;replace A:=Sw.push A hgrow hvb hown (by simp<;>omega) HRW75.o HD76.o rfl RL66.o HMZ.o;clear hown hgrow hnil hvb))
        refine (node_any _ _ _ _ _ _ _ _).mono ?_
        rintro _ W82 ⟨rfl,b⟩
        replace A:=Sw.bel A b
        have E:=Sw.e A (k:=58) (s:=(wrd ((r).tail))) (n:=1) (p:=(p0)) (D:=Ar78) (l:=(1+x51.length+1)) (cap:=cr79) (a:=.mk 58 (wrd ((r).tail)) 1 (p0) (([(Nd.mk 40 bs 0 bp [])]++x51)++[x63])) fun X hx k=>NdR.of ⟨by unfold i64;omega,(by unfold i64;omega),HP.o⟩ TS7.o (RowX.nds k ZW.o)
        have O:=setRow_heap _ _ _ (cl 58 (wrd ((r).tail)) 1 (p0) Ar78 (1+x51.length+1) cr79).toArray _ _ (A.o.bx rfl)
        go_wp2_with (refine wpList_store_row rfl 24 _ _ rfl w.heap.size (cl 58 (wrd ((r).tail)) 1 (p0) Ar78 (1+x51.length+1) cr79).toArray rfl rfl 24 _ (A.o.bx rfl) Δ rfl (by simp[Value.oneCell']) ?_)
        exact bodyPost_ret (results_cell_row results235 _ _ w.heap.size 24 _ _ _ rfl O underlying24 rfl Δ) rfl (by rw[H61.o];exact E.o)
      | false =>
       have H84:=η (H49.o.trans (acc_f a56))
       refine (accept_no A.o.pw (s:=⟨#[111,110]⟩) a56).mono ?_
       rintro _ W83 ⟨rfl,s,p⟩
       replace A:=Sw.n A s p
       go_wp2_with fail
       refine (node_any _ _ _ _ _ _ _ _).mono ?_
       rintro _ W85 ⟨rfl,b⟩
       replace A:=Sw.bel A b
       have E:=Sw.e A (k:=58) (s:=(wrd ((r).tail))) (n:=0) (p:=(p0)) (D:=A6) (l:=(1+x51.length)) (cap:=c6) (a:=.mk 58 (wrd ((r).tail)) 0 (p0) ([(Nd.mk 40 bs 0 bp [])]++x51)) fun X hx k=>NdR.of ⟨by unfold i64;omega,(by unfold i64;omega),HP.o⟩ TS7.o (RowX.nds k.2 ZW.o)
       have O:=setRow_heap _ _ _ (cl 58 (wrd ((r).tail)) 0 (p0) A6 (1+x51.length) c6).toArray _ _ (A.o.bx rfl)
       go_wp2_with (refine wpList_store_row rfl 24 _ _ rfl w.heap.size (cl 58 (wrd ((r).tail)) 0 (p0) A6 (1+x51.length) c6).toArray rfl rfl 24 _ (A.o.bx rfl) Δ rfl (by simp[Value.oneCell']) ?_)
       exact bodyPost_ret (results_cell_row results235 _ _ w.heap.size 24 _ _ _ rfl O underlying24 rfl Δ) rfl (by rw[H84.o];exact E.o)
end Go.Proofs.YtbjdcogmiggamaaGreatDoor
