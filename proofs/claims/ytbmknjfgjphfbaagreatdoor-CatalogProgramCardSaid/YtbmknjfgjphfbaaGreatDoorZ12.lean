import Derived.Test.YtbmknjfgjphfbaaGreatDoorZ11
set_option linter.all false
namespace Go.Proofs.YtbmknjfgjphfbaaGreatDoor
open Proofs.Tryz RowKit Maps WideMaps ChangeMaps
set_option maxRecDepth 100000
set_option maxHeartbeats 8000000
instance (e:Int) (k:Int) (n:Nat):Con (patP e k n):=by unfold patP;infer_instance
instance (e:Int) {m:M Nd} [Suf m] (n:Nat):Con (blockP e m n):=by unfold blockP;infer_instance
instance (e:Int) {m:M Nd} [Suf m] (n:Nat):Con (sarmP e m n):=by unfold sarmP;infer_instance
instance (e:Int) (n:Nat) (p:Int) (b:Nd):Con (spawnP e n p b):=by unfold spawnP;infer_instance
instance (e:Int) (n:Nat):Con (sendP e n):=by unfold sendP;infer_instance
instance (e:Int) (n:Nat):Con (letP e n):=by unfold letP;infer_instance
instance (e:Int) (n:Nat):Con (doP e n):=by unfold doP;infer_instance
instance (e:Int) {m:M Nd} [Suf m] (n:Nat):Con (branchP e m n):=by unfold branchP;infer_instance
instance (e:Int) {m:M Nd} [Suf m] (n:Nat):Con (casesP e m n):=by unfold casesP;infer_instance
instance (e:Int) (n:Nat):Con (stmtP e n):=by
 cases n<;>unfold stmtP<;>infer_instance
theorem let_said (c:Cx) (h:Bool) {n:Nat} (hn:n≤1000000000):Said 221 #[.pointer (some ⟨c.pb,0,none⟩)] c false NdV (letP c.e n):=fun w r k hne=>by
 have EX:=η (expr_said c false hn)
 have TX:=η k.tx
 obtain⟨W0,HW,A⟩:=Sw.s1 k
 obtain⟨R,hR⟩:∃R,R=letP c.e n r:=⟨_,rfl⟩
 rw[←hR] at hne ⊢
 obtain⟨io,hio,hiz,his,hib⟩:=info_parts info_83
 have HIO:=η (And.intro hio (And.intro hiz (And.intro his hib)))
 clear hio hiz his hib
 have HMF:=hmf
 obtain⟨HN,HR⟩:=zd2 hne hR
 clear hR hne k
 go_in
 go_upto_region 1 with fail
 rw[←HW.o]
 clear HW
 go_wp2_with fail
 have TX2:=η (A.o.pw.tx)
 refine (offset_any A.o.pw).mono ?_
 rintro _ W1 ⟨rfl,b⟩
 replace A:=Sw.bel A b
 clear b
 go_wp2_with fail
 cases a3:(wl (r)==[108,101,116]) with
 | false =>
  refine (expect_no A.o.pw (s:=⟨#[108,101,116]⟩) a3).mono ?_
  rintro _ W4 ⟨rfl,s⟩
  exact⟨rfl,Sw.bd A s (HR.o.trans (bd_bad (exp_f a3)))⟩
 | true =>
  have H5:=η (HR.o.trans (bd_ok (exp_t a3)))
  refine (expect_yes A.o.pw (s:=⟨#[108,101,116]⟩) a3 π).mono ?_
  rintro _ W4 ⟨rfl,s,p⟩
  replace A:=Sw.n A s p
  clear s p HR a3
  go_wp2_with fail
  have TX7:=η (A.o.pw.tx)
  refine (offset_any A.o.pw).mono ?_
  rintro _ W6 ⟨rfl,b⟩
  replace A:=Sw.bel A b
  clear b
  go_wp2_with fail
  cases a8:lowB (wl ((r).tail)) with
  | false =>
   refine (name_no A.o.pw p_lowB a8).mono ?_
   rintro _ W9 ⟨rfl,s⟩
   exact⟨rfl,Sw.bd A s (H5.o.trans (bd_bad (nam_f a8)))⟩
  | true =>
   have H10:=η (H5.o.trans (bd_ok (nam_t a8)))
   have TS11:=η (A.o.pw.tx.2.1)
   refine (name_yes A.o.pw p_lowB a8 (by rfl)).mono ?_
   rintro _ W9 ⟨rfl,s,p⟩
   replace A:=Sw.n A s p
   clear s p H5 a8
   go_wp2_with fail
   cases a12:(wl (((r).tail).tail)==[61]) with
   | false =>
    refine (expect_no A.o.pw (s:=⟨#[61]⟩) a12).mono ?_
    rintro _ W13 ⟨rfl,s⟩
    exact⟨rfl,Sw.bd A s (H10.o.trans (bd_bad (exp_f a12)))⟩
   | true =>
    have H14:=η (H10.o.trans (bd_ok (exp_t a12)))
    refine (expect_yes A.o.pw (s:=⟨#[61]⟩) a12 π).mono ?_
    rintro _ W13 ⟨rfl,s,p⟩
    replace A:=Sw.n A s p
    clear s p H10 a12
    go_wp2_with fail
    refine (word_any A.o.pw).mono ?_
    rintro _ W15 ⟨rfl,b⟩
    replace A:=Sw.bel A b
    clear b
    cases a16:(wl ((((r).tail).tail).tail)==[115,112,97,119,110]) with
    | true =>
     have H18:=η (H14.o.trans (ite_t a16))
     have tw17:((wrd ((((r).tail).tail).tail)).toList==[115,112,97,119,110])=true:=by rw[ByteArray.toList_eq];exact a16
     have hq19:=η (ne_of_wl π a16)
     clear a16 H14
     go_wp2_with fail
     obtain⟨Z21,Y22⟩:=zd2 (Sw.ge A) (A.o.lo.2.2.2)
     refine (node_any _ _ _ _ _ _ _ _).mono ?_
     rintro _ W20 ⟨rfl,b⟩
     replace A:=Sw.nd A (Stp.of_below b) (A.o.pw.bel b) (cs:=cl 40 (wrd ((r).tail)) 0 (offP c.e ((r).tail)) none 0 0) (a:=(Nd.mk 40 (wrd ((r).tail)) 0 (offP c.e ((r).tail)) [])) (NdR.of ⟨by unfold i64;omega,by unfold i64;omega,TX7.o.2.2.2.2⟩ TS11.o kid0)
     clear b
     go_wp2_with fail
     cases m23:spawnP c.e n (offP c.e (r)) (.mk 40 (wrd ((r).tail)) 0 (offP c.e ((r).tail)) []) ((((r).tail).tail).tail) with
     | out=>exact absurd (H18.o.trans m23) HN.o
     | bad q26 =>
      refine (Said.bad ((spawn_said c hn (offP c.e (r)) (offP c.e ((r).tail)) (wrd ((r).tail)) TX2.o.2.2.2.2 TX7.o.2.2.2.2 TS11.o)) A.o.pw m23).mono ?_
      rintro _ W24 ⟨rfl,s⟩
      exact⟨rfl,Sw.bd A s (H18.o.trans m23)⟩
     | ok x27 q26 =>
      obtain⟨H25,Z28⟩:=zd2 (H18.o.trans m23) (Sw.ge A)
      refine (Said.ok ((spawn_said c hn (offP c.e (r)) (offP c.e ((r).tail)) (wrd ((r).tail)) TX2.o.2.2.2.2 TX7.o.2.2.2.2 TS11.o)) A.o.pw m23).mono ?_
      rintro _ W24 ⟨_,rfl,⟨k29,s30,n31,p32,D33,l34,c35,rfl,hnd⟩,s,p⟩
      replace A:=Sw.nd A s p hnd
      clear s p hnd m23 H18
      have O:=setRow_heap _ _ _ (cl k29 s30 n31 p32 D33 l34 c35).toArray _ _ (A.o.bx rfl)
      have E:=Sw.eg (Rv:=NdV) A (cells:=(cl k29 s30 n31 p32 D33 l34 c35).toArray) (v:=.agg (cl k29 s30 n31 p32 D33 l34 c35).toArray) (a:=x27) fun X hx k=>⟨k29,s30,n31,p32,D33,l34,c35,rfl,NdR.lo k.2 Z28.o⟩
      go_wp2_with (refine wpList_store_row rfl 83 _ _ rfl w.heap.size (cl k29 s30 n31 p32 D33 l34 c35).toArray rfl rfl 83 _ (A.o.bx rfl) Δ rfl (by simp[Value.oneCell']) ?_)
      exact bodyPost_ret (results_cell_row results221 _ _ w.heap.size 83 _ _ _ rfl O underlying83 rfl Δ) rfl (by rw[H25.o];exact E.o)
    | false =>
     have H36:=η (H14.o.trans (ite_f (by rw[a16];simp)))
     have tw17:((wrd ((((r).tail).tail).tail)).toList==[115,112,97,119,110])=false:=by rw[ByteArray.toList_eq];exact a16
     clear a16 H14
     go_wp2_with fail
     cases m37:exprP c.e n false ((((r).tail).tail).tail) with
     | out=>exact absurd (H36.o.trans (bd_out m37)) HN.o
     | bad q40 =>
      refine (Said.bad (EX.o) A.o.pw m37).mono ?_
      rintro _ W38 ⟨rfl,s⟩
      exact⟨rfl,Sw.bd A s (H36.o.trans (bd_bad m37))⟩
     | ok x41 q40 =>
      obtain⟨H39,Z42,Y43⟩:=zd3 (H36.o.trans (bd_ok m37)) (Sw.ge A) (A.o.lo.2.2.2)
      refine (Said.ok (EX.o) A.o.pw m37).mono ?_
      rintro _ W38 ⟨_,rfl,⟨k44,s45,n46,p47,D48,l49,c50,rfl,hnd⟩,s,p⟩
      replace A:=Sw.nd A s p hnd
      clear s p hnd m37 H36
      go_wp2_with fail
      have Z51:=η (Sw.ge A)
      replace A:=Sw.al A ((cl k44 s45 n46 p47 D48 l49 c50)).toArray
      refine (node_any _ _ _ _ _ _ _ _).mono ?_
      rintro _ W52 ⟨rfl,b⟩
      replace A:=Sw.bel A b
      clear b
      have E:=Sw.e A (k:=50) (s:=(wrd ((r).tail))) (n:=0) (p:=(offP c.e (r))) (D:=(some ⟨W38.heap.size,0,none⟩)) (l:=1) (cap:=1) (a:=.mk 50 (wrd ((r).tail)) 0 (offP c.e (r)) [x41]) fun X hx k=>NdR.of ⟨by unfold i64;omega,(by unfold i64;omega),TX2.o.2.2.2.2⟩ TS11.o (kid1 (k.2) Z51.o (NdR.lo k.1.2 Z42.o) rfl)
      have O:=setRow_heap _ _ _ (cl 50 (wrd ((r).tail)) 0 (offP c.e (r)) (some ⟨W38.heap.size,0,none⟩) 1 1).toArray _ _ (A.o.bx rfl)
      go_wp2_with (refine wpList_store_row rfl 83 _ _ rfl w.heap.size (cl 50 (wrd ((r).tail)) 0 (offP c.e (r)) (some ⟨W38.heap.size,0,none⟩) 1 1).toArray rfl rfl 83 _ (A.o.bx rfl) Δ rfl (by simp[Value.oneCell']) ?_)
      exact bodyPost_ret (results_cell_row results221 _ _ w.heap.size 83 _ _ _ rfl O underlying83 rfl Δ) rfl (by rw[H39.o];exact E.o)
theorem branch_said (c:Cx) (h:Bool) {m:M Nd} [hS:Suf m] [hC:Con m] (HS:Said 208 #[.pointer (some ⟨c.pb,0,none⟩)] c false NdV m) {n:Nat} (hn:n≤1000000000):Said 223 #[.pointer (some ⟨c.pb,0,none⟩)] c false NdV (branchP c.e m n):=fun w r k hne=>by
 obtain⟨HG,BL⟩:=zd2 (heading_said c false (expr_said c true hn)) (block_said c false HS hn)
 clear HS
 have TX:=η k.tx
 obtain⟨W0,HW,A⟩:=Sw.s1 k
 obtain⟨R,hR⟩:∃R,R=branchP c.e m n r:=⟨_,rfl⟩
 rw[←hR] at hne ⊢
 obtain⟨io,hio,hiz,his,hib⟩:=info_parts info_83
 have HIO:=η (And.intro hio (And.intro hiz (And.intro his hib)))
 clear hio hiz his hib
 have HMF:=hmf
 obtain⟨HN,HR⟩:=zd2 hne hR
 clear hR hne k
 go_in
 go_upto_region 1 with fail
 rw[←HW.o]
 clear HW
 go_wp2_with fail
 have TX2:=η (A.o.pw.tx)
 refine (offset_any A.o.pw).mono ?_
 rintro _ W1 ⟨rfl,b⟩
 replace A:=Sw.bel A b
 clear b
 go_wp2_with fail
 cases a3:(wl (r)==[105,102]) with
 | false =>
  refine (expect_no A.o.pw (s:=⟨#[105,102]⟩) a3).mono ?_
  rintro _ W4 ⟨rfl,s⟩
  exact⟨rfl,Sw.bd A s (HR.o.trans (bd_bad (exp_f a3)))⟩
 | true =>
  have H5:=η (HR.o.trans (bd_ok (exp_t a3)))
  refine (expect_yes A.o.pw (s:=⟨#[105,102]⟩) a3 π).mono ?_
  rintro _ W4 ⟨rfl,s,p⟩
  replace A:=Sw.n A s p
  clear s p HR a3
  go_wp2_with fail
  cases m6:exprP c.e n true ((r).tail) with
  | out=>exact absurd (H5.o.trans (bd_out m6)) HN.o
  | bad q9 =>
   refine (Said.bad (HG.o) A.o.pw m6).mono ?_
   rintro _ W7 ⟨rfl,s⟩
   exact⟨rfl,Sw.bd A s (H5.o.trans (bd_bad m6))⟩
  | ok x10 q9 =>
   obtain⟨H8,Z11,Y12⟩:=zd3 (H5.o.trans (bd_ok m6)) (Sw.ge A) (A.o.lo.2.2.2)
   refine (Said.ok (HG.o) A.o.pw m6).mono ?_
   rintro _ W7 ⟨_,rfl,⟨k13,s14,n15,p16,D17,l18,c19,rfl,hnd⟩,s,p⟩
   replace A:=Sw.nd A s p hnd
   have SZ20:=η (s.size)
   clear s p hnd m6 H5
   replace A:=Sw.one A (Sw.now A).2 Y12.o SZ20.o
   have HL21:Hid (([x10]:List Nd).length≤1):=Nat.le_refl _
   go_wp2_with fail
   cases m22:blockP c.e m n (q9) with
   | out=>exact absurd (H8.o.trans (bd_out m22)) HN.o
   | bad q25 =>
    refine (Said.bad (BL.o) A.o.pw m22).mono ?_
    rintro _ W23 ⟨rfl,s⟩
    exact⟨rfl,Sw.bd A s (H8.o.trans (bd_bad m22))⟩
   | ok x26 q25 =>
    obtain⟨H24,Z27,Y28,RL29⟩:=zd4 (H8.o.trans (bd_ok m22)) (Sw.ge A) (A.o.lo.2.2.2) (RowX.lt (Sw.now A).2)
    refine (Said.ok (BL.o) A.o.pw m22).mono ?_
    rintro _ W23 ⟨_,rfl,⟨k30,s31,n32,p33,D34,l35,c36,rfl,hnd⟩,s,p⟩
    replace A:=Sw.nd A s p hnd
    clear s p hnd m22 H8
    obtain⟨_,_,xs40,ho,hr⟩:=(Sw.now A).1.2
    obtain⟨HO37,HRW38,HD39⟩:=zd3 ho hr ((Sw.now A).2)
    clear ho hr
    go_wp2_with (first|(at_builtin;refine wpList_append_own_at _ rfl (.tmp 12) (.tmp 15) 81 rfl W4.heap.size 83 io _ 5 64 underlying81 HIO.o.1 HIO.o.2.1 HIO.o.2.2.1 HIO.o.2.2.2 rfl π (.slice (some ⟨W7.heap.size,0,none⟩) (1) 1) (1) xs40 rfl (row_al HO37.o _) ⟨W23.heap.size,0,none⟩ 1 1 (cl k30 s31 n32 p33 D34 l35 c36) rfl rfl (World.news_of_block (Hs.new _ _ _)) (by intro u hu;simp at hu;repeat (first|(subst hu;rfl)|(rcases hu with rfl|hu;rfl))) (by have:=HL21.o;unfold maxLen;omega) (by have:=HL21.o;omega) (sz_al (RowX.lt (Sw.now A).1.2).1 _) ?_;intro vv W43 hown hgrow hnil hvb;obtain⟨Ar41,cr42,rfl⟩:=row_form hown;replace A:=Sw.push A hgrow hvb hown (by simp<;>omega) HRW38.o HD39.o rfl RL29.o Y12.o;clear hown hgrow hnil hvb))
    cases a45:(wl (q25)==[101,108,115,101]) with
    | true =>
     have H47:=η (H24.o.trans (acc_t a45))
     refine (accept_yes A.o.pw (s:=⟨#[101,108,115,101]⟩) a45 π).mono ?_
     rintro _ W46 ⟨rfl,s,p⟩
     replace A:=Sw.n A s p
     clear s p H24 a45
     go_wp2_with fail
     cases m48:blockP c.e m n ((q25).tail) with
     | out=>exact absurd (H47.o.trans (bd_out m48)) HN.o
     | bad q51 =>
      refine (Said.bad (BL.o) A.o.pw m48).mono ?_
      rintro _ W49 ⟨rfl,s⟩
      exact⟨rfl,Sw.bd A s (H47.o.trans (bd_bad m48))⟩
     | ok x52 q51 =>
      obtain⟨H50,Z53,Y54,RL55⟩:=zd4 (H47.o.trans (bd_ok m48)) (Sw.ge A) (A.o.lo.2.2.2) (RowX.lt (Sw.now A))
      refine (Said.ok (BL.o) A.o.pw m48).mono ?_
      rintro _ W49 ⟨_,rfl,⟨k56,s57,n58,p59,D60,l61,c62,rfl,hnd⟩,s,p⟩
      replace A:=Sw.nd A s p hnd
      clear s p hnd m48 H47
      obtain⟨_,_,xs66,ho,hr⟩:=(Sw.now A).1
      simp only[List.length_append,List.length_cons,List.length_nil,Nat.zero_add] at ho
      obtain⟨HO63,HRW64,HD65⟩:=zd3 ho hr ((Sw.now A).2)
      clear ho hr
      go_wp2_with (first|(at_builtin;refine wpList_append_own_at _ rfl (.tmp 19) (.tmp 22) 81 rfl W4.heap.size 83 io _ 5 64 underlying81 HIO.o.1 HIO.o.2.1 HIO.o.2.2.1 HIO.o.2.2.2 rfl π (.slice Ar41 (1+1) cr42) (1+1) xs66 rfl (row_al HO63.o _) ⟨W49.heap.size,0,none⟩ 1 1 (cl k56 s57 n58 p59 D60 l61 c62) rfl rfl (World.news_of_block (Hs.new _ _ _)) (by intro u hu;simp at hu;repeat (first|(subst hu;rfl)|(rcases hu with rfl|hu;rfl))) (by have:=HL21.o;unfold maxLen;omega) (by have:=HL21.o;omega) (sz_al (RowX.lt (Sw.now A).1).1 _) ?_;intro vv W69 hown hgrow hnil hvb;obtain⟨Ar67,cr68,rfl⟩:=row_form hown;replace A:=Sw.push A hgrow hvb hown (by simp<;>omega) HRW64.o HD65.o rfl RL55.o Y12.o;clear hown hgrow hnil hvb))
      refine (node_any _ _ _ _ _ _ _ _).mono ?_
      rintro _ W71 ⟨rfl,b⟩
      replace A:=Sw.bel A b
      clear b
      have E:=Sw.e A (k:=52) (s:=e0) (n:=0) (p:=(offP c.e (r))) (D:=Ar67) (l:=(1+1+1)) (cap:=cr68) (a:=.mk 52 e0 0 (offP c.e (r)) (([x10]++[x26])++[x52])) fun X hx k=>NdR.of ⟨by unfold i64;omega,(by unfold i64;omega),TX2.o.2.2.2.2⟩ (by show e0.size≤_;decide) (RowX.nds k Z11.o)
      have O:=setRow_heap _ _ _ (cl 52 e0 0 (offP c.e (r)) Ar67 (1+1+1) cr68).toArray _ _ (A.o.bx rfl)
      go_wp2_with (refine wpList_store_row rfl 83 _ _ rfl w.heap.size (cl 52 e0 0 (offP c.e (r)) Ar67 (1+1+1) cr68).toArray rfl rfl 83 _ (A.o.bx rfl) Δ rfl (by simp[Value.oneCell']) ?_)
      exact bodyPost_ret (results_cell_row results223 _ _ w.heap.size 83 _ _ _ rfl O underlying83 rfl Δ) rfl (by rw[H50.o];exact E.o)
    | false =>
     have H73:=η (H24.o.trans (acc_f a45))
     refine (accept_no A.o.pw (s:=⟨#[101,108,115,101]⟩) a45).mono ?_
     rintro _ W72 ⟨rfl,s,p⟩
     replace A:=Sw.n A s p
     clear s p H24 a45
     go_wp2_with fail
     refine (node_any _ _ _ _ _ _ _ _).mono ?_
     rintro _ W74 ⟨rfl,b⟩
     replace A:=Sw.bel A b
     clear b
     have E:=Sw.e A (k:=52) (s:=e0) (n:=0) (p:=(offP c.e (r))) (D:=Ar41) (l:=(1+1)) (cap:=cr42) (a:=.mk 52 e0 0 (offP c.e (r)) ([x10]++[x26])) fun X hx k=>NdR.of ⟨by unfold i64;omega,(by unfold i64;omega),TX2.o.2.2.2.2⟩ (by show e0.size≤_;decide) (RowX.nds k Z11.o)
     have O:=setRow_heap _ _ _ (cl 52 e0 0 (offP c.e (r)) Ar41 (1+1) cr42).toArray _ _ (A.o.bx rfl)
     go_wp2_with (refine wpList_store_row rfl 83 _ _ rfl w.heap.size (cl 52 e0 0 (offP c.e (r)) Ar41 (1+1) cr42).toArray rfl rfl 83 _ (A.o.bx rfl) Δ rfl (by simp[Value.oneCell']) ?_)
     exact bodyPost_ret (results_cell_row results223 _ _ w.heap.size 83 _ _ _ rfl O underlying83 rfl Δ) rfl (by rw[H73.o];exact E.o)
theorem cases_said (c:Cx) (h:Bool) {m:M Nd} [hS:Suf m] [hC:Con m] (HS:Said 208 #[.pointer (some ⟨c.pb,0,none⟩)] c false NdV m) {n:Nat} (hn:n≤1000000000):Said 224 #[.pointer (some ⟨c.pb,0,none⟩)] c false NdV (casesP c.e m n):=fun w r k hne=>by
 have HG:=η (heading_said c false (expr_said c true hn))
 have SA:Hid (Said 229 #[.pointer (some ⟨c.pb,0,none⟩)] c false NdV (sarmP c.e m n)):=sarm_said c false (block_said c false HS hn) hn
 clear HS
 have TX:=η k.tx
 obtain⟨W0,HW,A⟩:=Sw.s1 k
 obtain⟨R,hR⟩:∃R,R=casesP c.e m n r:=⟨_,rfl⟩
 rw[←hR] at hne ⊢
 obtain⟨io,hio,hiz,his,hib⟩:=info_parts info_83
 have HIO:=η (And.intro hio (And.intro hiz (And.intro his hib)))
 clear hio hiz his hib
 have HMF:=hmf
 obtain⟨HN,HR⟩:=zd2 hne hR
 clear hR hne k
 go_in
 go_upto_region 1 with fail
 rw[←HW.o]
 clear HW
 go_wp2_with fail
 have TX2:=η (A.o.pw.tx)
 refine (offset_any A.o.pw).mono ?_
 rintro _ W1 ⟨rfl,b⟩
 replace A:=Sw.bel A b
 clear b
 go_wp2_with fail
 cases a3:(wl (r)==[109,97,116,99,104]) with
 | false =>
  refine (expect_no A.o.pw (s:=⟨#[109,97,116,99,104]⟩) a3).mono ?_
  rintro _ W4 ⟨rfl,s⟩
  exact⟨rfl,Sw.bd A s (HR.o.trans (bd_bad (exp_f a3)))⟩
 | true =>
  have H5:=η (HR.o.trans (bd_ok (exp_t a3)))
  refine (expect_yes A.o.pw (s:=⟨#[109,97,116,99,104]⟩) a3 π).mono ?_
  rintro _ W4 ⟨rfl,s,p⟩
  replace A:=Sw.n A s p
  clear s p HR a3
  go_wp2_with fail
  cases m6:exprP c.e n true ((r).tail) with
  | out=>exact absurd (H5.o.trans (bd_out m6)) HN.o
  | bad q9 =>
   refine (Said.bad (HG.o) A.o.pw m6).mono ?_
   rintro _ W7 ⟨rfl,s⟩
   exact⟨rfl,Sw.bd A s (H5.o.trans (bd_bad m6))⟩
  | ok x10 q9 =>
   obtain⟨H8,Z11,Y12⟩:=zd3 (H5.o.trans (bd_ok m6)) (Sw.ge A) (A.o.lo.2.2.2)
   refine (Said.ok (HG.o) A.o.pw m6).mono ?_
   rintro _ W7 ⟨_,rfl,⟨k13,s14,n15,p16,D17,l18,c19,rfl,hnd⟩,s,p⟩
   replace A:=Sw.nd A s p hnd
   have SZ20:=η (s.size)
   clear s p hnd m6 H5
   replace A:=Sw.one A (Sw.now A).2 Y12.o SZ20.o
   have HL21:Hid (([x10]:List Nd).length≤1):=Nat.le_refl _
   go_wp2_with fail
   cases a22:(wl (q9)==[123]) with
   | false =>
    refine (expect_no A.o.pw (s:=⟨#[123]⟩) a22).mono ?_
    rintro _ W23 ⟨rfl,s⟩
    exact⟨rfl,Sw.bd A s (H8.o.trans (bd_bad (exp_f a22)))⟩
   | true =>
    have H24:=η (H8.o.trans (bd_ok (exp_t a22)))
    refine (expect_yes A.o.pw (s:=⟨#[123]⟩) a22 π).mono ?_
    rintro _ W23 ⟨rfl,s,p⟩
    replace A:=Sw.n A s p
    clear s p H8 a22
    go_wp2_with fail
    cases m25:sarmP c.e m n ((q9).tail) with
    | out=>exact absurd (H24.o.trans (bd_out m25)) HN.o
    | bad q28 =>
     refine (Said.bad (SA.o) A.o.pw m25).mono ?_
     rintro _ W26 ⟨rfl,s⟩
     exact⟨rfl,Sw.bd A s (H24.o.trans (bd_bad m25))⟩
    | ok x29 q28 =>
     obtain⟨H27,Z30,Y31,RL32⟩:=zd4 (H24.o.trans (bd_ok m25)) (Sw.ge A) (A.o.lo.2.2.2) (RowX.lt (Sw.now A).2)
     refine (Said.ok (SA.o) A.o.pw m25).mono ?_
     rintro _ W26 ⟨_,rfl,⟨k33,s34,n35,p36,D37,l38,c39,rfl,hnd⟩,s,p⟩
     replace A:=Sw.nd A s p hnd
     clear s p hnd m25 H24
     obtain⟨_,_,xs43,ho,hr⟩:=(Sw.now A).1.2
     obtain⟨HO40,HRW41,HD42⟩:=zd3 ho hr ((Sw.now A).2)
     clear ho hr
     go_wp2_with (first|(at_builtin;refine wpList_append_own_at _ rfl (.tmp 14) (.tmp 17) 81 rfl W4.heap.size 83 io _ 5 64 underlying81 HIO.o.1 HIO.o.2.1 HIO.o.2.2.1 HIO.o.2.2.2 rfl π (.slice (some ⟨W7.heap.size,0,none⟩) (1) 1) (1) xs43 rfl (row_al HO40.o _) ⟨W26.heap.size,0,none⟩ 1 1 (cl k33 s34 n35 p36 D37 l38 c39) rfl rfl (World.news_of_block (Hs.new _ _ _)) (by intro u hu;simp at hu;repeat (first|(subst hu;rfl)|(rcases hu with rfl|hu;rfl))) (by have:=HL21.o;unfold maxLen;omega) (by have:=HL21.o;omega) (sz_al (RowX.lt (Sw.now A).1.2).1 _) ?_;intro vv W46 hown hgrow hnil hvb;obtain⟨Ar44,cr45,rfl⟩:=row_form hown;replace A:=Sw.push A hgrow hvb hown (by simp<;>omega) HRW41.o HD42.o rfl RL32.o Y12.o;clear hown hgrow hnil hvb))
     have AL:=Sw.keep A fun X k=>k
     have HT:Hid ((([x10]++[x29]):List Nd).length+n≤n+n+3∧R=(untilP [125] (sarmP c.e m n) n (q28)).bd fun t=>M.ret (Nd.mk 53 e0 0 (offP c.e r) (([x10]++[x29])++t))):=⟨by have:=HL21.o;(try simp only[List.length_append,List.length_cons,List.length_nil] at this ⊢);omega,H27.o.trans (rfl)⟩
     clear H27 A
     go_loopw [4] (fun v wr=>∃l q n1,Hid (Sw c w (w.heap.size+1) wr q false (RowX (W4.heap.size) v l))∧Hid ((l:List Nd).length+n1≤n+n+3∧R=(untilP [125] (sarmP c.e m n) n1 q).bd fun t=>M.ret (Nd.mk 53 e0 0 (offP c.e r) (l++t)))) (fun _ wr=>leftN c wr)
     case atStart=>exact⟨_,_,_,AL,HT⟩
     case round =>
      clear AL HT
      obtain⟨l,q,n1,A,HT⟩:=hrel
      obtain⟨_,_,xs,ho,hr⟩:=Sw.now A
      obtain⟨Ar,cr,rfl⟩:=row_form ho
      clear ho hr
      cases hn1:n1 with
      | zero=>exact absurd (HT.o.2.trans (by rw[hn1];rfl)) HN.o
      | succ n3 =>
      subst hn1
      have HL0:=η A.o.pw.left
      have HL48:Hid ((l:List Nd).length≤n+n+3):=(by have:=HT.o.1;show _≤_;omega)
      have HLN:=η HT.o.1
      cases hw:(wl q==[125]) with
      | true =>
       have HV:Hid (R=.ok (Nd.mk 53 e0 0 (offP c.e r) l) q.tail):=HT.o.2.trans (by rw[until_succ,acc_t hw];show Re.ok (Nd.mk 53 e0 0 (offP c.e r) (l++[])) q.tail=_;rw[List.append_nil])
       go_wp2_with fail
       refine (accept_yes A.o.pw (s:=⟨#[125]⟩) hw π).mono ?_
       rintro _ W49 ⟨rfl,s,p⟩
       replace A:=Sw.n A s p
       clear s p hw HT
       go_wp2_with fail
       refine (node_any _ _ _ _ _ _ _ _).mono ?_
       rintro _ W51 ⟨rfl,b⟩
       replace A:=Sw.bel A b
       clear b
       have E:=Sw.e A (k:=53) (s:=e0) (n:=0) (p:=(offP c.e (r))) (D:=Ar) (l:=(l.length)) (cap:=cr) (a:=.mk 53 e0 0 (offP c.e (r)) l) fun X hx k=>NdR.of ⟨by unfold i64;omega,(by unfold i64;omega),TX2.o.2.2.2.2⟩ (by show e0.size≤_;decide) (RowX.nds k Z11.o)
       have O:=setRow_heap _ _ _ (cl 53 e0 0 (offP c.e (r)) Ar (l.length) cr).toArray _ _ (A.o.bx rfl)
       go_wp2_with (refine wpList_store_row rfl 83 _ _ rfl w.heap.size (cl 53 e0 0 (offP c.e (r)) Ar (l.length) cr).toArray rfl rfl 83 _ (A.o.bx rfl) Δ rfl (by simp[Value.oneCell']) ?_)
       exact bodyPost_ret (results_cell_row results224 _ _ w.heap.size 83 _ _ _ rfl O underlying83 rfl Δ) rfl (by rw[HV.o];exact E.o)
      | false =>
       have HV:Hid (R=(sarmP c.e m n >>= fun a=>fun rr=>(untilP [125] (sarmP c.e m n) n3 rr).bd fun t=>M.ret (Nd.mk 53 e0 0 (offP c.e r) (l++(a::t)))) q):=HT.o.2.trans (by rw[until_succ,acc_f hw];exact until_bd [125] (sarmP c.e m n) n3 q (fun t=>M.ret (Nd.mk 53 e0 0 (offP c.e r) (l++t))))
       go_wp2_with fail
       refine (accept_no A.o.pw (s:=⟨#[125]⟩) hw).mono ?_
       rintro _ W50 ⟨rfl,s,p⟩
       replace A:=Sw.n A s p
       clear s p hw HT
       go_wp2_with fail
       cases m52:sarmP c.e m n (q) with
       | out=>exact absurd (HV.o.trans (bd_out m52)) HN.o
       | bad q55 =>
        refine (Said.bad (SA.o) A.o.pw m52).mono ?_
        rintro _ W53 ⟨rfl,s⟩
        exact⟨rfl,Sw.bd A s (HV.o.trans (bd_bad m52))⟩
       | ok x56 q55 =>
        have HQL:=η ((inferInstance:Con (sarmP c.e m n)).h _ _ _ m52).2
        obtain⟨H54,Z57,Y58,RL59⟩:=zd4 (HV.o.trans (bd_ok m52)) (Sw.ge A) (A.o.lo.2.2.2) (RowX.lt (Sw.now A))
        refine (Said.ok (SA.o) A.o.pw m52).mono ?_
        rintro _ W53 ⟨_,rfl,⟨k60,s61,n62,p63,D64,l65,c66,rfl,hnd⟩,s,p⟩
        replace A:=Sw.nd A s p hnd
        clear s p hnd m52 HV
        obtain⟨_,_,xs70,ho,hr⟩:=(Sw.now A).1
        obtain⟨HO67,HRW68,HD69⟩:=zd3 ho hr ((Sw.now A).2)
        clear ho hr
        go_wp2_with (first|(at_builtin;refine wpList_append_own_at _ rfl (.tmp 22) (.tmp 25) 81 rfl (W4.heap.size) 83 io _ 5 64 underlying81 HIO.o.1 HIO.o.2.1 HIO.o.2.2.1 HIO.o.2.2.2 rfl π (.slice Ar (l.length) cr) (l.length) xs70 rfl (row_al HO67.o _) ⟨W53.heap.size,0,none⟩ 1 1 (cl k60 s61 n62 p63 D64 l65 c66) rfl rfl (World.news_of_block (Hs.new _ _ _)) (by intro u hu;simp at hu;repeat (first|(subst hu;rfl)|(rcases hu with rfl|hu;rfl))) (by have:=HL48.o;unfold maxLen;omega) (by have:=HL48.o;omega) (sz_al (RowX.lt (Sw.now A).1).1 _) ?_;intro vv W73 hown hgrow hnil hvb;obtain⟨Ar71,cr72,rfl⟩:=row_form hown;replace A:=Sw.push A hgrow hvb hown (by simp<;>omega) HRW68.o HD69.o rfl RL59.o Y12.o;clear hown hgrow hnil hvb))
        refine⟨⟨l++[x56],q55,n3,A,⟨by have:=HLN.o;rw[List.length_append];simp;omega,H54.o.trans (by simp only[List.append_assoc];rfl)⟩⟩,?_⟩
        refine Nat.lt_of_le_of_lt (Nat.le_of_eq A.o.pw.left) ?_
        rw[HL0.o]
        exact HQL.o
theorem stmt1_said (c:Cx) (h:Bool) {n:Nat}  (HS:Said 208 #[.pointer (some ⟨c.pb,0,none⟩)] c false NdV (stmtP c.e n)) (hn:n≤1000000000):Said 208 #[.pointer (some ⟨c.pb,0,none⟩)] c false NdV (stmtP c.e (n+1)):=fun w r k hne=>by
 obtain⟨EX,HG,BL,LE,BR,CS⟩:=zd6 (expr_said c false hn) (heading_said c false (expr_said c true hn)) (block_said c false HS hn) (let_said c false hn) (branch_said c false HS hn) (cases_said c false HS hn);obtain⟨SE,DO⟩:=zd2 (send_said c false hn) (do_said c false hn)
 clear HS
 have TX:=η k.tx
 obtain⟨W0,HW,A⟩:=Sw.s1 k
 obtain⟨R,hR⟩:∃R,R=stmtP c.e (n+1) r:=⟨_,rfl⟩
 rw[←hR] at hne ⊢
 obtain⟨io,hio,hiz,his,hib⟩:=info_parts info_83
 have HIO:=η (And.intro hio (And.intro hiz (And.intro his hib)))
 clear hio hiz his hib
 have HMF:=hmf
 obtain⟨HN,HR⟩:=zd2 hne hR
 clear hR hne k
 go_in
 go_upto_region 1 with fail
 rw[←HW.o]
 clear HW
 go_wp2_with fail
 have TX2:=η (A.o.pw.tx)
 refine (offset_any A.o.pw).mono ?_
 rintro _ W1 ⟨rfl,b⟩
 replace A:=Sw.bel A b
 clear b
 go_wp2_with fail
 refine (word_any A.o.pw).mono ?_
 rintro _ W3 ⟨rfl,b⟩
 replace A:=Sw.bel A b
 clear b
 cases a4:(wl (r)==[108,101,116]) with
 | true =>
  have H6:=η (HR.o.trans (ite_t a4))
  have tw5:((wrd (r)).toList==[108,101,116])=true:=by rw[ByteArray.toList_eq];exact a4
  have hq7:=η (ne_of_wl π a4)
  clear a4 HR
  go_wp2_with fail
  cases m8:letP c.e n (r) with
  | out=>exact absurd (H6.o.trans m8) HN.o
  | bad q11 =>
   refine (Said.bad (LE.o) A.o.pw m8).mono ?_
   rintro _ W9 ⟨rfl,s⟩
   exact⟨rfl,Sw.bd A s (H6.o.trans m8)⟩
  | ok x12 q11 =>
   obtain⟨H10,Z13⟩:=zd2 (H6.o.trans m8) (Sw.ge A)
   refine (Said.ok (LE.o) A.o.pw m8).mono ?_
   rintro _ W9 ⟨_,rfl,⟨k14,s15,n16,p17,D18,l19,c20,rfl,hnd⟩,s,p⟩
   replace A:=Sw.nd A s p hnd
   clear s p hnd m8 H6
   have O:=setRow_heap _ _ _ (cl k14 s15 n16 p17 D18 l19 c20).toArray _ _ (A.o.bx rfl)
   have E:=Sw.eg (Rv:=NdV) A (cells:=(cl k14 s15 n16 p17 D18 l19 c20).toArray) (v:=.agg (cl k14 s15 n16 p17 D18 l19 c20).toArray) (a:=x12) fun X hx k=>⟨k14,s15,n16,p17,D18,l19,c20,rfl,NdR.lo k.2 Z13.o⟩
   go_wp2_with (refine wpList_store_row rfl 83 _ _ rfl w.heap.size (cl k14 s15 n16 p17 D18 l19 c20).toArray rfl rfl 83 _ (A.o.bx rfl) Δ rfl (by simp[Value.oneCell']) ?_)
   exact bodyPost_ret (results_cell_row results208 _ _ w.heap.size 83 _ _ _ rfl O underlying83 rfl Δ) rfl (by rw[H10.o];exact E.o)
 | false =>
  have H21:=η (HR.o.trans (ite_f (by rw[a4];simp)))
  have tw5:((wrd (r)).toList==[108,101,116])=false:=by rw[ByteArray.toList_eq];exact a4
  clear a4 HR
  cases a22:(wl (r)==[115,112,97,119,110]) with
  | true =>
   have H24:=η (H21.o.trans (ite_t a22))
   have tw23:((wrd (r)).toList==[115,112,97,119,110])=true:=by rw[ByteArray.toList_eq];exact a22
   have hq25:=η (ne_of_wl π a22)
   clear a22 H21
   go_wp2_with fail
   obtain⟨Z27,Y28⟩:=zd2 (Sw.ge A) (A.o.lo.2.2.2)
   refine (node_any _ _ _ _ _ _ _ _).mono ?_
   rintro _ W26 ⟨rfl,b⟩
   replace A:=Sw.nd A (Stp.of_below b) (A.o.pw.bel b) (cs:=cl 40 (⟨#[95]⟩) 0 (offP c.e (r)) none 0 0) (a:=(Nd.mk 40 (⟨#[95]⟩) 0 (offP c.e (r)) [])) (NdR.of ⟨by unfold i64;omega,by unfold i64;omega,TX2.o.2.2.2.2⟩ π kid0)
   clear b
   go_wp2_with fail
   cases m29:spawnP c.e n (offP c.e (r)) (.mk 40 (⟨#[95]⟩) 0 (offP c.e (r)) []) (r) with
   | out=>exact absurd (H24.o.trans m29) HN.o
   | bad q32 =>
    refine (Said.bad ((spawn_said c hn (offP c.e (r)) (offP c.e (r)) (⟨#[95]⟩) TX2.o.2.2.2.2 TX2.o.2.2.2.2 π)) A.o.pw m29).mono ?_
    rintro _ W30 ⟨rfl,s⟩
    exact⟨rfl,Sw.bd A s (H24.o.trans m29)⟩
   | ok x33 q32 =>
    obtain⟨H31,Z34⟩:=zd2 (H24.o.trans m29) (Sw.ge A)
    refine (Said.ok ((spawn_said c hn (offP c.e (r)) (offP c.e (r)) (⟨#[95]⟩) TX2.o.2.2.2.2 TX2.o.2.2.2.2 π)) A.o.pw m29).mono ?_
    rintro _ W30 ⟨_,rfl,⟨k35,s36,n37,p38,D39,l40,c41,rfl,hnd⟩,s,p⟩
    replace A:=Sw.nd A s p hnd
    clear s p hnd m29 H24
    have O:=setRow_heap _ _ _ (cl k35 s36 n37 p38 D39 l40 c41).toArray _ _ (A.o.bx rfl)
    have E:=Sw.eg (Rv:=NdV) A (cells:=(cl k35 s36 n37 p38 D39 l40 c41).toArray) (v:=.agg (cl k35 s36 n37 p38 D39 l40 c41).toArray) (a:=x33) fun X hx k=>⟨k35,s36,n37,p38,D39,l40,c41,rfl,NdR.lo k.2 Z34.o⟩
    go_wp2_with (refine wpList_store_row rfl 83 _ _ rfl w.heap.size (cl k35 s36 n37 p38 D39 l40 c41).toArray rfl rfl 83 _ (A.o.bx rfl) Δ rfl (by simp[Value.oneCell']) ?_)
    exact bodyPost_ret (results_cell_row results208 _ _ w.heap.size 83 _ _ _ rfl O underlying83 rfl Δ) rfl (by rw[H31.o];exact E.o)
  | false =>
   have H42:=η (H21.o.trans (ite_f (by rw[a22];simp)))
   have tw23:((wrd (r)).toList==[115,112,97,119,110])=false:=by rw[ByteArray.toList_eq];exact a22
   clear a22 H21
   cases a43:(wl (r)==[105,102]) with
   | true =>
    have H45:=η (H42.o.trans (ite_t a43))
    have tw44:((wrd (r)).toList==[105,102])=true:=by rw[ByteArray.toList_eq];exact a43
    have hq46:=η (ne_of_wl π a43)
    clear a43 H42
    go_wp2_with fail
    cases m47:branchP c.e (stmtP c.e n) n (r) with
    | out=>exact absurd (H45.o.trans m47) HN.o
    | bad q50 =>
     refine (Said.bad (BR.o) A.o.pw m47).mono ?_
     rintro _ W48 ⟨rfl,s⟩
     exact⟨rfl,Sw.bd A s (H45.o.trans m47)⟩
    | ok x51 q50 =>
     obtain⟨H49,Z52⟩:=zd2 (H45.o.trans m47) (Sw.ge A)
     refine (Said.ok (BR.o) A.o.pw m47).mono ?_
     rintro _ W48 ⟨_,rfl,⟨k53,s54,n55,p56,D57,l58,c59,rfl,hnd⟩,s,p⟩
     replace A:=Sw.nd A s p hnd
     clear s p hnd m47 H45
     have O:=setRow_heap _ _ _ (cl k53 s54 n55 p56 D57 l58 c59).toArray _ _ (A.o.bx rfl)
     have E:=Sw.eg (Rv:=NdV) A (cells:=(cl k53 s54 n55 p56 D57 l58 c59).toArray) (v:=.agg (cl k53 s54 n55 p56 D57 l58 c59).toArray) (a:=x51) fun X hx k=>⟨k53,s54,n55,p56,D57,l58,c59,rfl,NdR.lo k.2 Z52.o⟩
     go_wp2_with (refine wpList_store_row rfl 83 _ _ rfl w.heap.size (cl k53 s54 n55 p56 D57 l58 c59).toArray rfl rfl 83 _ (A.o.bx rfl) Δ rfl (by simp[Value.oneCell']) ?_)
     exact bodyPost_ret (results_cell_row results208 _ _ w.heap.size 83 _ _ _ rfl O underlying83 rfl Δ) rfl (by rw[H49.o];exact E.o)
   | false =>
    have H60:=η (H42.o.trans (ite_f (by rw[a43];simp)))
    have tw44:((wrd (r)).toList==[105,102])=false:=by rw[ByteArray.toList_eq];exact a43
    clear a43 H42
    cases a61:(wl (r)==[109,97,116,99,104]) with
    | true =>
     have H63:=η (H60.o.trans (ite_t a61))
     have tw62:((wrd (r)).toList==[109,97,116,99,104])=true:=by rw[ByteArray.toList_eq];exact a61
     have hq64:=η (ne_of_wl π a61)
     clear a61 H60
     go_wp2_with fail
     cases m65:casesP c.e (stmtP c.e n) n (r) with
     | out=>exact absurd (H63.o.trans m65) HN.o
     | bad q68 =>
      refine (Said.bad (CS.o) A.o.pw m65).mono ?_
      rintro _ W66 ⟨rfl,s⟩
      exact⟨rfl,Sw.bd A s (H63.o.trans m65)⟩
     | ok x69 q68 =>
      obtain⟨H67,Z70⟩:=zd2 (H63.o.trans m65) (Sw.ge A)
      refine (Said.ok (CS.o) A.o.pw m65).mono ?_
      rintro _ W66 ⟨_,rfl,⟨k71,s72,n73,p74,D75,l76,c77,rfl,hnd⟩,s,p⟩
      replace A:=Sw.nd A s p hnd
      clear s p hnd m65 H63
      have O:=setRow_heap _ _ _ (cl k71 s72 n73 p74 D75 l76 c77).toArray _ _ (A.o.bx rfl)
      have E:=Sw.eg (Rv:=NdV) A (cells:=(cl k71 s72 n73 p74 D75 l76 c77).toArray) (v:=.agg (cl k71 s72 n73 p74 D75 l76 c77).toArray) (a:=x69) fun X hx k=>⟨k71,s72,n73,p74,D75,l76,c77,rfl,NdR.lo k.2 Z70.o⟩
      go_wp2_with (refine wpList_store_row rfl 83 _ _ rfl w.heap.size (cl k71 s72 n73 p74 D75 l76 c77).toArray rfl rfl 83 _ (A.o.bx rfl) Δ rfl (by simp[Value.oneCell']) ?_)
      exact bodyPost_ret (results_cell_row results208 _ _ w.heap.size 83 _ _ _ rfl O underlying83 rfl Δ) rfl (by rw[H67.o];exact E.o)
    | false =>
     have H78:=η (H60.o.trans (ite_f (by rw[a61];simp)))
     have tw62:((wrd (r)).toList==[109,97,116,99,104])=false:=by rw[ByteArray.toList_eq];exact a61
     clear a61 H60
     cases a79:(wl (r)==[102,111,114]) with
     | true =>
      have H81:=η (H78.o.trans (ite_t a79))
      have tw80:((wrd (r)).toList==[102,111,114])=true:=by rw[ByteArray.toList_eq];exact a79
      have hq82:=η (ne_of_wl π a79)
      clear a79 H78
      obtain⟨i85,hi86⟩:∃i:Nat,Hid (i=c.L.length-(r).length):=⟨_,rfl⟩
      have c1:W3.cell? ⟨c.pb,1,none⟩=some (.int .i64 ((i85:Nat):Int)):=by rw[hi86.o];exact A.o.pw.box.cell 1
      have f1:W3.frozen? ⟨c.pb,1,none⟩=false:=A.o.pw.box.free 1
      have PS:Hid (wrap64 ((i85:Nat)+1:Int)=((c.L.length-(r).tail.length:Nat):Int)):=by show _=_;rw[hi86.o];exact (A.o.pw.skip hq82.o).2.2
      go_upto_region 13 with fail
      rw[PS.o]
      obtain⟨W83,hW84⟩:∃W83,Hid (W83=W3.setCell ⟨c.pb,1,none⟩ (.int .i64 ((c.L.length-(r).tail.length:Nat):Int))):=⟨_,rfl⟩
      rw[←hW84.o]
      replace A:=Sw.sk A hq82.o hW84
      have H87:=η (H81.o.trans (nxt_t hq82.o))
      clear H81
      clear c1 f1 PS hW84
      go_wp2_with fail
      cases a88:lowB (wl ((r).tail)) with
      | false =>
       refine (name_no A.o.pw p_lowB a88).mono ?_
       rintro _ W89 ⟨rfl,s⟩
       exact⟨rfl,Sw.bd A s (H87.o.trans (bd_bad (nam_f a88)))⟩
      | true =>
       have H90:=η (H87.o.trans (bd_ok (nam_t a88)))
       have TS91:=η (A.o.pw.tx.2.1)
       refine (name_yes A.o.pw p_lowB a88 (by rfl)).mono ?_
       rintro _ W89 ⟨rfl,s,p⟩
       replace A:=Sw.n A s p
       clear s p H87 a88
       go_wp2_with fail
       cases a92:(wl (((r).tail).tail)==[105,110]) with
       | false =>
        refine (expect_no A.o.pw (s:=⟨#[105,110]⟩) a92).mono ?_
        rintro _ W93 ⟨rfl,s⟩
        exact⟨rfl,Sw.bd A s (H90.o.trans (bd_bad (exp_f a92)))⟩
       | true =>
        have H94:=η (H90.o.trans (bd_ok (exp_t a92)))
        refine (expect_yes A.o.pw (s:=⟨#[105,110]⟩) a92 π).mono ?_
        rintro _ W93 ⟨rfl,s,p⟩
        replace A:=Sw.n A s p
        clear s p H90 a92
        go_wp2_with fail
        cases m95:exprP c.e n true ((((r).tail).tail).tail) with
        | out=>exact absurd (H94.o.trans (bd_out m95)) HN.o
        | bad q98 =>
         refine (Said.bad (HG.o) A.o.pw m95).mono ?_
         rintro _ W96 ⟨rfl,s⟩
         exact⟨rfl,Sw.bd A s (H94.o.trans (bd_bad m95))⟩
        | ok x99 q98 =>
         obtain⟨H97,Z100,Y101⟩:=zd3 (H94.o.trans (bd_ok m95)) (Sw.ge A) (A.o.lo.2.2.2)
         refine (Said.ok (HG.o) A.o.pw m95).mono ?_
         rintro _ W96 ⟨_,rfl,⟨k102,s103,n104,p105,D106,l107,c108,rfl,hnd⟩,s,p⟩
         replace A:=Sw.nd A s p hnd
         clear s p hnd m95 H94
         replace A:=Sw.al A (cl k102 s103 n104 p105 D106 l107 c108).toArray
         obtain⟨W109,hW110⟩:∃W109,Hid (W109=W96.alloc (.cells (cl k102 s103 n104 p105 D106 l107 c108).toArray 83)):=⟨_,rfl⟩
         rw[←hW110.o] at A
         go_upto_region 16 with fail
         rw[←hW110.o]
         clear hW110
         replace A:=Sw.bel A (belDr W109)
         refine ttB (fun X=>Hs X W96.heap.size 83 (cl k102 s103 n104 p105 D106 l107 c108).toArray) 7 ((Sw.now A).2) (fun hHeld=>?_)
         refine ttQ 0 ?_
         refine ttQ 1 ?_
         refine ttQ 2 ?_ (hy:=fun w hS=>ld24 (.tmp 5) rfl _ rfl _ rfl hS)
         refine ttQ 3 ?_
         refine ttE 4 (fun K hK=>?_)
         go_simp
         cases m111:blockP c.e (stmtP c.e n) n (q98) with
         | out=>exact absurd (H97.o.trans (bd_out m111)) HN.o
         | bad q114 =>
          refine (Said.bad (BL.o) A.o.pw m111).mono ?_
          rintro _ W112 ⟨rfl,s⟩
          exact⟨rfl,Sw.bd A s (H97.o.trans (bd_bad m111))⟩
         | ok x115 q114 =>
          obtain⟨H113,Z116⟩:=zd2 (H97.o.trans (bd_ok m111)) (Sw.ge A)
          refine (Said.ok (BL.o) A.o.pw m111).mono ?_
          rintro _ W112 ⟨_,rfl,⟨k117,s118,n119,p120,D121,l122,c123,rfl,hnd⟩,s,p⟩
          replace A:=Sw.nd A s p hnd
          clear s p hnd m111 H97
          refine ttR hK (fun _=>(Sw.now A).1.2) (fun hHeld=>?_)
          clear hK K
          refine ttE 5 (fun K hK=>?_)
          go_simp
          have Z124:=η (Sw.ge A)
          replace A:=Sw.al A ((cl k102 s103 n104 p105 D106 l107 c108)++(cl k117 s118 n119 p120 D121 l122 c123)).toArray
          refine ttR hK (fun _=>(Sw.now A).1.1.2) (fun hHeld=>?_)
          clear hK K
          refine ttE 6 (fun K hK=>?_)
          go_simp
          refine (node_any _ _ _ _ _ _ _ _).mono ?_
          rintro _ W125 ⟨rfl,b⟩
          replace A:=Sw.bel A b
          clear b
          refine ttR hK (fun _=>(Sw.now A).1.1.2) (fun hHeld=>?_)
          clear hK K
          have E:=Sw.e A (k:=55) (s:=(wrd ((r).tail))) (n:=0) (p:=(offP c.e (r))) (D:=(some ⟨W112.heap.size,0,none⟩)) (l:=2) (cap:=2) (a:=.mk 55 (wrd ((r).tail)) 0 (offP c.e (r)) [x99,x115]) fun X hx k=>NdR.of ⟨by unfold i64;omega,(by unfold i64;omega),TX2.o.2.2.2.2⟩ TS91.o (kid2 (k.2) Z124.o (NdR.lo k.1.1.1.2 Z100.o) (NdR.lo k.1.2 Z116.o) rfl rfl)
          have O:=setRow_heap _ _ _ (cl 55 (wrd ((r).tail)) 0 (offP c.e (r)) (some ⟨W112.heap.size,0,none⟩) 2 2).toArray _ _ (A.o.bx rfl)
          refine ttE 7 (fun K hK=>?_)
          rw[if_pos (by rfl)]
          refine wp_store_row 83 _ _ rfl w.heap.size (cl 55 (wrd ((r).tail)) 0 (offP c.e (r)) (some ⟨W112.heap.size,0,none⟩) 2 2).toArray rfl rfl 83 _ (A.o.bx rfl) Δ rfl (by simp[Value.oneCell']) ?_
          refine ttR hK (fun e=>absurd rfl e) (fun _=>?_)
          clear hK K
          refine ttD ?_
          go_wp2
          exact bodyPost_ret (results_cell_row results208 _ _ w.heap.size 83 _ _ _ rfl O underlying83 rfl Δ) rfl (by rw[H113.o];exact E.o)
     | false =>
      have H126:=η (H78.o.trans (ite_f (by rw[a79];simp)))
      have tw80:((wrd (r)).toList==[102,111,114])=false:=by rw[ByteArray.toList_eq];exact a79
      clear a79 H78
      cases a127:(wl (r)==[115,101,110,100]) with
      | true =>
       have H129:=η (H126.o.trans (ite_t a127))
       have tw128:((wrd (r)).toList==[115,101,110,100])=true:=by rw[ByteArray.toList_eq];exact a127
       have hq130:=η (ne_of_wl π a127)
       clear a127 H126
       go_wp2_with fail
       cases m131:sendP c.e n (r) with
       | out=>exact absurd (H129.o.trans m131) HN.o
       | bad q134 =>
        refine (Said.bad (SE.o) A.o.pw m131).mono ?_
        rintro _ W132 ⟨rfl,s⟩
        exact⟨rfl,Sw.bd A s (H129.o.trans m131)⟩
       | ok x135 q134 =>
        obtain⟨H133,Z136⟩:=zd2 (H129.o.trans m131) (Sw.ge A)
        refine (Said.ok (SE.o) A.o.pw m131).mono ?_
        rintro _ W132 ⟨_,rfl,⟨k137,s138,n139,p140,D141,l142,c143,rfl,hnd⟩,s,p⟩
        replace A:=Sw.nd A s p hnd
        clear s p hnd m131 H129
        have O:=setRow_heap _ _ _ (cl k137 s138 n139 p140 D141 l142 c143).toArray _ _ (A.o.bx rfl)
        have E:=Sw.eg (Rv:=NdV) A (cells:=(cl k137 s138 n139 p140 D141 l142 c143).toArray) (v:=.agg (cl k137 s138 n139 p140 D141 l142 c143).toArray) (a:=x135) fun X hx k=>⟨k137,s138,n139,p140,D141,l142,c143,rfl,NdR.lo k.2 Z136.o⟩
        go_wp2_with (refine wpList_store_row rfl 83 _ _ rfl w.heap.size (cl k137 s138 n139 p140 D141 l142 c143).toArray rfl rfl 83 _ (A.o.bx rfl) Δ rfl (by simp[Value.oneCell']) ?_)
        exact bodyPost_ret (results_cell_row results208 _ _ w.heap.size 83 _ _ _ rfl O underlying83 rfl Δ) rfl (by rw[H133.o];exact E.o)
      | false =>
       have H144:=η (H126.o.trans (ite_f (by rw[a127];simp)))
       have tw128:((wrd (r)).toList==[115,101,110,100])=false:=by rw[ByteArray.toList_eq];exact a127
       clear a127 H126
       cases a145:(wl (r)==[97,102,116,101,114]) with
       | true =>
        have H147:=η (H144.o.trans (ite_t a145))
        have tw146:((wrd (r)).toList==[97,102,116,101,114])=true:=by rw[ByteArray.toList_eq];exact a145
        have hq148:=η (ne_of_wl π a145)
        clear a145 H144
        obtain⟨i151,hi152⟩:∃i:Nat,Hid (i=c.L.length-(r).length):=⟨_,rfl⟩
        have c1:W3.cell? ⟨c.pb,1,none⟩=some (.int .i64 ((i151:Nat):Int)):=by rw[hi152.o];exact A.o.pw.box.cell 1
        have f1:W3.frozen? ⟨c.pb,1,none⟩=false:=A.o.pw.box.free 1
        have PS:Hid (wrap64 ((i151:Nat)+1:Int)=((c.L.length-(r).tail.length:Nat):Int)):=by show _=_;rw[hi152.o];exact (A.o.pw.skip hq148.o).2.2
        go_upto_region 21 with fail
        rw[PS.o]
        obtain⟨W149,hW150⟩:∃W149,Hid (W149=W3.setCell ⟨c.pb,1,none⟩ (.int .i64 ((c.L.length-(r).tail.length:Nat):Int))):=⟨_,rfl⟩
        rw[←hW150.o]
        replace A:=Sw.sk A hq148.o hW150
        have H153:=η (H147.o.trans (nxt_t hq148.o))
        clear H147
        clear c1 f1 PS hW150
        go_wp2_with fail
        cases m154:exprP c.e n false ((r).tail) with
        | out=>exact absurd (H153.o.trans (bd_out m154)) HN.o
        | bad q157 =>
         refine (Said.bad (EX.o) A.o.pw m154).mono ?_
         rintro _ W155 ⟨rfl,s⟩
         exact⟨rfl,Sw.bd A s (H153.o.trans (bd_bad m154))⟩
        | ok x158 q157 =>
         obtain⟨H156,Z159,Y160⟩:=zd3 (H153.o.trans (bd_ok m154)) (Sw.ge A) (A.o.lo.2.2.2)
         refine (Said.ok (EX.o) A.o.pw m154).mono ?_
         rintro _ W155 ⟨_,rfl,⟨k161,s162,n163,p164,D165,l166,c167,rfl,hnd⟩,s,p⟩
         replace A:=Sw.nd A s p hnd
         clear s p hnd m154 H153
         replace A:=Sw.al A (cl k161 s162 n163 p164 D165 l166 c167).toArray
         obtain⟨W168,hW169⟩:∃W168,Hid (W168=W155.alloc (.cells (cl k161 s162 n163 p164 D165 l166 c167).toArray 83)):=⟨_,rfl⟩
         rw[←hW169.o] at A
         go_upto_region 22 with fail
         rw[←hW169.o]
         clear hW169
         replace A:=Sw.bel A (belDr W168)
         refine ttB (fun X=>Hs X W155.heap.size 83 (cl k161 s162 n163 p164 D165 l166 c167).toArray) 6 ((Sw.now A).2) (fun hHeld=>?_)
         refine ttQ 0 ?_
         refine ttQ 1 ?_ (hy:=fun w hS=>ld24 (.tmp 6) rfl _ rfl _ rfl hS)
         refine ttQ 2 ?_
         refine ttE 3 (fun K hK=>?_)
         go_simp
         cases m170:sendP c.e n (q157) with
         | out=>exact absurd (H156.o.trans (bd_out m170)) HN.o
         | bad q173 =>
          refine (Said.bad (SE.o) A.o.pw m170).mono ?_
          rintro _ W171 ⟨rfl,s⟩
          exact⟨rfl,Sw.bd A s (H156.o.trans (bd_bad m170))⟩
         | ok x174 q173 =>
          obtain⟨H172,Z175⟩:=zd2 (H156.o.trans (bd_ok m170)) (Sw.ge A)
          refine (Said.ok (SE.o) A.o.pw m170).mono ?_
          rintro _ W171 ⟨_,rfl,⟨k176,s177,n178,p179,D180,l181,c182,rfl,hnd⟩,s,p⟩
          replace A:=Sw.nd A s p hnd
          clear s p hnd m170 H156
          refine ttR hK (fun _=>(Sw.now A).1.2) (fun hHeld=>?_)
          clear hK K
          refine ttE 4 (fun K hK=>?_)
          go_simp
          have Z183:=η (Sw.ge A)
          replace A:=Sw.al A ((cl k161 s162 n163 p164 D165 l166 c167)++(cl k176 s177 n178 p179 D180 l181 c182)).toArray
          refine ttR hK (fun _=>(Sw.now A).1.1.2) (fun hHeld=>?_)
          clear hK K
          refine ttE 5 (fun K hK=>?_)
          go_simp
          refine (node_any _ _ _ _ _ _ _ _).mono ?_
          rintro _ W184 ⟨rfl,b⟩
          replace A:=Sw.bel A b
          clear b
          refine ttR hK (fun _=>(Sw.now A).1.1.2) (fun hHeld=>?_)
          clear hK K
          have E:=Sw.e A (k:=57) (s:=e0) (n:=0) (p:=(offP c.e (r))) (D:=(some ⟨W171.heap.size,0,none⟩)) (l:=2) (cap:=2) (a:=.mk 57 e0 0 (offP c.e (r)) [x158,x174]) fun X hx k=>NdR.of ⟨by unfold i64;omega,(by unfold i64;omega),TX2.o.2.2.2.2⟩ (by show e0.size≤_;decide) (kid2 (k.2) Z183.o (NdR.lo k.1.1.1.2 Z159.o) (NdR.lo k.1.2 Z175.o) rfl rfl)
          have O:=setRow_heap _ _ _ (cl 57 e0 0 (offP c.e (r)) (some ⟨W171.heap.size,0,none⟩) 2 2).toArray _ _ (A.o.bx rfl)
          refine ttE 6 (fun K hK=>?_)
          rw[if_pos (by rfl)]
          refine wp_store_row 83 _ _ rfl w.heap.size (cl 57 e0 0 (offP c.e (r)) (some ⟨W171.heap.size,0,none⟩) 2 2).toArray rfl rfl 83 _ (A.o.bx rfl) Δ rfl (by simp[Value.oneCell']) ?_
          refine ttR hK (fun e=>absurd rfl e) (fun _=>?_)
          clear hK K
          refine ttD ?_
          go_wp2
          exact bodyPost_ret (results_cell_row results208 _ _ w.heap.size 83 _ _ _ rfl O underlying83 rfl Δ) rfl (by rw[H172.o];exact E.o)
       | false =>
        have H185:=η (H144.o.trans (ite_f (by rw[a145];simp)))
        have tw146:((wrd (r)).toList==[97,102,116,101,114])=false:=by rw[ByteArray.toList_eq];exact a145
        clear a145 H144
        cases a186:(wl (r)==[100,111]) with
        | true =>
         have H188:=η (H185.o.trans (ite_t a186))
         have tw187:((wrd (r)).toList==[100,111])=true:=by rw[ByteArray.toList_eq];exact a186
         have hq189:=η (ne_of_wl π a186)
         clear a186 H185
         go_wp2_with fail
         cases m190:doP c.e n (r) with
         | out=>exact absurd (H188.o.trans m190) HN.o
         | bad q193 =>
          refine (Said.bad (DO.o) A.o.pw m190).mono ?_
          rintro _ W191 ⟨rfl,s⟩
          exact⟨rfl,Sw.bd A s (H188.o.trans m190)⟩
         | ok x194 q193 =>
          obtain⟨H192,Z195⟩:=zd2 (H188.o.trans m190) (Sw.ge A)
          refine (Said.ok (DO.o) A.o.pw m190).mono ?_
          rintro _ W191 ⟨_,rfl,⟨k196,s197,n198,p199,D200,l201,c202,rfl,hnd⟩,s,p⟩
          replace A:=Sw.nd A s p hnd
          clear s p hnd m190 H188
          have O:=setRow_heap _ _ _ (cl k196 s197 n198 p199 D200 l201 c202).toArray _ _ (A.o.bx rfl)
          have E:=Sw.eg (Rv:=NdV) A (cells:=(cl k196 s197 n198 p199 D200 l201 c202).toArray) (v:=.agg (cl k196 s197 n198 p199 D200 l201 c202).toArray) (a:=x194) fun X hx k=>⟨k196,s197,n198,p199,D200,l201,c202,rfl,NdR.lo k.2 Z195.o⟩
          go_wp2_with (refine wpList_store_row rfl 83 _ _ rfl w.heap.size (cl k196 s197 n198 p199 D200 l201 c202).toArray rfl rfl 83 _ (A.o.bx rfl) Δ rfl (by simp[Value.oneCell']) ?_)
          exact bodyPost_ret (results_cell_row results208 _ _ w.heap.size 83 _ _ _ rfl O underlying83 rfl Δ) rfl (by rw[H192.o];exact E.o)
        | false =>
         have H203:=η (H185.o.trans (ite_f (by rw[a186];simp)))
         have tw187:((wrd (r)).toList==[100,111])=false:=by rw[ByteArray.toList_eq];exact a186
         clear a186 H185
         cases a204:(wl (r)==[115,116,111,112]) with
         | true =>
          have H206:=η (H203.o.trans (ite_t a204))
          have tw205:((wrd (r)).toList==[115,116,111,112])=true:=by rw[ByteArray.toList_eq];exact a204
          have hq207:=η (ne_of_wl π a204)
          clear a204 H203
          obtain⟨i210,hi211⟩:∃i:Nat,Hid (i=c.L.length-(r).length):=⟨_,rfl⟩
          have c1:W3.cell? ⟨c.pb,1,none⟩=some (.int .i64 ((i210:Nat):Int)):=by rw[hi211.o];exact A.o.pw.box.cell 1
          have f1:W3.frozen? ⟨c.pb,1,none⟩=false:=A.o.pw.box.free 1
          have PS:Hid (wrap64 ((i210:Nat)+1:Int)=((c.L.length-(r).tail.length:Nat):Int)):=by show _=_;rw[hi211.o];exact (A.o.pw.skip hq207.o).2.2
          go_upto_region 27 with fail
          rw[PS.o]
          obtain⟨W208,hW209⟩:∃W208,Hid (W208=W3.setCell ⟨c.pb,1,none⟩ (.int .i64 ((c.L.length-(r).tail.length:Nat):Int))):=⟨_,rfl⟩
          rw[←hW209.o]
          replace A:=Sw.sk A hq207.o hW209
          have H212:=η (H206.o.trans (nxt_t hq207.o))
          clear H206
          clear c1 f1 PS hW209
          go_wp2_with fail
          refine (node_any _ _ _ _ _ _ _ _).mono ?_
          rintro _ W213 ⟨rfl,b⟩
          replace A:=Sw.bel A b
          clear b
          have E:=Sw.e A (k:=60) (s:=e0) (n:=0) (p:=(offP c.e (r))) (D:=none) (l:=0) (cap:=0) (a:=.mk 60 e0 0 (offP c.e (r)) []) fun X hx k=>NdR.of ⟨by unfold i64;omega,(by unfold i64;omega),TX2.o.2.2.2.2⟩ (by show e0.size≤_;decide) (kid0)
          have O:=setRow_heap _ _ _ (cl 60 e0 0 (offP c.e (r)) none 0 0).toArray _ _ (A.o.bx rfl)
          go_wp2_with (refine wpList_store_row rfl 83 _ _ rfl w.heap.size (cl 60 e0 0 (offP c.e (r)) none 0 0).toArray rfl rfl 83 _ (A.o.bx rfl) Δ rfl (by simp[Value.oneCell']) ?_)
          exact bodyPost_ret (results_cell_row results208 _ _ w.heap.size 83 _ _ _ rfl O underlying83 rfl Δ) rfl (by rw[H212.o];exact E.o)
         | false =>
          have H214:=η (H203.o.trans (ite_f (by rw[a204];simp)))
          have tw205:((wrd (r)).toList==[115,116,111,112])=false:=by rw[ByteArray.toList_eq];exact a204
          clear a204 H203
          cases a215:(wl (r)==[102,97,105,108]) with
          | true =>
           have H217:=η (H214.o.trans (ite_t a215))
           have tw216:((wrd (r)).toList==[102,97,105,108])=true:=by rw[ByteArray.toList_eq];exact a215
           have hq218:=η (ne_of_wl π a215)
           clear a215 H214
           obtain⟨i221,hi222⟩:∃i:Nat,Hid (i=c.L.length-(r).length):=⟨_,rfl⟩
           have c1:W3.cell? ⟨c.pb,1,none⟩=some (.int .i64 ((i221:Nat):Int)):=by rw[hi222.o];exact A.o.pw.box.cell 1
           have f1:W3.frozen? ⟨c.pb,1,none⟩=false:=A.o.pw.box.free 1
           have PS:Hid (wrap64 ((i221:Nat)+1:Int)=((c.L.length-(r).tail.length:Nat):Int)):=by show _=_;rw[hi222.o];exact (A.o.pw.skip hq218.o).2.2
           go_upto_region 30 with fail
           rw[PS.o]
           obtain⟨W219,hW220⟩:∃W219,Hid (W219=W3.setCell ⟨c.pb,1,none⟩ (.int .i64 ((c.L.length-(r).tail.length:Nat):Int))):=⟨_,rfl⟩
           rw[←hW220.o]
           replace A:=Sw.sk A hq218.o hW220
           have H223:=η (H217.o.trans (nxt_t hq218.o))
           clear H217
           clear c1 f1 PS hW220
           go_wp2_with fail
           cases m224:exprP c.e n false ((r).tail) with
           | out=>exact absurd (H223.o.trans (bd_out m224)) HN.o
           | bad q227 =>
            refine (Said.bad (EX.o) A.o.pw m224).mono ?_
            rintro _ W225 ⟨rfl,s⟩
            exact⟨rfl,Sw.bd A s (H223.o.trans (bd_bad m224))⟩
           | ok x228 q227 =>
            obtain⟨H226,Z229,Y230⟩:=zd3 (H223.o.trans (bd_ok m224)) (Sw.ge A) (A.o.lo.2.2.2)
            refine (Said.ok (EX.o) A.o.pw m224).mono ?_
            rintro _ W225 ⟨_,rfl,⟨k231,s232,n233,p234,D235,l236,c237,rfl,hnd⟩,s,p⟩
            replace A:=Sw.nd A s p hnd
            clear s p hnd m224 H223
            go_wp2_with fail
            have Z238:=η (Sw.ge A)
            replace A:=Sw.al A ((cl k231 s232 n233 p234 D235 l236 c237)).toArray
            refine (node_any _ _ _ _ _ _ _ _).mono ?_
            rintro _ W239 ⟨rfl,b⟩
            replace A:=Sw.bel A b
            clear b
            have E:=Sw.e A (k:=61) (s:=e0) (n:=0) (p:=(offP c.e (r))) (D:=(some ⟨W225.heap.size,0,none⟩)) (l:=1) (cap:=1) (a:=.mk 61 e0 0 (offP c.e (r)) [x228]) fun X hx k=>NdR.of ⟨by unfold i64;omega,(by unfold i64;omega),TX2.o.2.2.2.2⟩ (by show e0.size≤_;decide) (kid1 (k.2) Z238.o (NdR.lo k.1.2 Z229.o) rfl)
            have O:=setRow_heap _ _ _ (cl 61 e0 0 (offP c.e (r)) (some ⟨W225.heap.size,0,none⟩) 1 1).toArray _ _ (A.o.bx rfl)
            go_wp2_with (refine wpList_store_row rfl 83 _ _ rfl w.heap.size (cl 61 e0 0 (offP c.e (r)) (some ⟨W225.heap.size,0,none⟩) 1 1).toArray rfl rfl 83 _ (A.o.bx rfl) Δ rfl (by simp[Value.oneCell']) ?_)
            exact bodyPost_ret (results_cell_row results208 _ _ w.heap.size 83 _ _ _ rfl O underlying83 rfl Δ) rfl (by rw[H226.o];exact E.o)
          | false =>
           have H240:=η (H214.o.trans (ite_f (by rw[a215];simp)))
           have tw216:((wrd (r)).toList==[102,97,105,108])=false:=by rw[ByteArray.toList_eq];exact a215
           clear a215 H214
           go_wp2_with fail
           cases a241:lowB (wl (r)) with
           | false =>
            refine (name_no A.o.pw p_lowB a241).mono ?_
            rintro _ W242 ⟨rfl,s⟩
            exact⟨rfl,Sw.bd A s (H240.o.trans (bd_bad (nam_f a241)))⟩
           | true =>
            have H243:=η (H240.o.trans (bd_ok (nam_t a241)))
            have TS244:=η (A.o.pw.tx.2.1)
            refine (name_yes A.o.pw p_lowB a241 (by rfl)).mono ?_
            rintro _ W242 ⟨rfl,s,p⟩
            replace A:=Sw.n A s p
            clear s p H240 a241
            go_wp2_with fail
            cases a245:(wl ((r).tail)==[61]) with
            | false =>
             refine (expect_no A.o.pw (s:=⟨#[61]⟩) a245).mono ?_
             rintro _ W246 ⟨rfl,s⟩
             exact⟨rfl,Sw.bd A s (H243.o.trans (bd_bad (exp_f a245)))⟩
            | true =>
             have H247:=η (H243.o.trans (bd_ok (exp_t a245)))
             refine (expect_yes A.o.pw (s:=⟨#[61]⟩) a245 π).mono ?_
             rintro _ W246 ⟨rfl,s,p⟩
             replace A:=Sw.n A s p
             clear s p H243 a245
             go_wp2_with fail
             cases m248:exprP c.e n false (((r).tail).tail) with
             | out=>exact absurd (H247.o.trans (bd_out m248)) HN.o
             | bad q251 =>
              refine (Said.bad (EX.o) A.o.pw m248).mono ?_
              rintro _ W249 ⟨rfl,s⟩
              exact⟨rfl,Sw.bd A s (H247.o.trans (bd_bad m248))⟩
             | ok x252 q251 =>
              obtain⟨H250,Z253,Y254⟩:=zd3 (H247.o.trans (bd_ok m248)) (Sw.ge A) (A.o.lo.2.2.2)
              refine (Said.ok (EX.o) A.o.pw m248).mono ?_
              rintro _ W249 ⟨_,rfl,⟨k255,s256,n257,p258,D259,l260,c261,rfl,hnd⟩,s,p⟩
              replace A:=Sw.nd A s p hnd
              clear s p hnd m248 H247
              go_wp2_with fail
              have Z262:=η (Sw.ge A)
              replace A:=Sw.al A ((cl k255 s256 n257 p258 D259 l260 c261)).toArray
              refine (node_any _ _ _ _ _ _ _ _).mono ?_
              rintro _ W263 ⟨rfl,b⟩
              replace A:=Sw.bel A b
              clear b
              have E:=Sw.e A (k:=51) (s:=(wrd (r))) (n:=0) (p:=(offP c.e (r))) (D:=(some ⟨W249.heap.size,0,none⟩)) (l:=1) (cap:=1) (a:=.mk 51 (wrd (r)) 0 (offP c.e (r)) [x252]) fun X hx k=>NdR.of ⟨by unfold i64;omega,(by unfold i64;omega),TX2.o.2.2.2.2⟩ TS244.o (kid1 (k.2) Z262.o (NdR.lo k.1.2 Z253.o) rfl)
              have O:=setRow_heap _ _ _ (cl 51 (wrd (r)) 0 (offP c.e (r)) (some ⟨W249.heap.size,0,none⟩) 1 1).toArray _ _ (A.o.bx rfl)
              go_wp2_with (refine wpList_store_row rfl 83 _ _ rfl w.heap.size (cl 51 (wrd (r)) 0 (offP c.e (r)) (some ⟨W249.heap.size,0,none⟩) 1 1).toArray rfl rfl 83 _ (A.o.bx rfl) Δ rfl (by simp[Value.oneCell']) ?_)
              exact bodyPost_ret (results_cell_row results208 _ _ w.heap.size 83 _ _ _ rfl O underlying83 rfl Δ) rfl (by rw[H250.o];exact E.o)
theorem stmt_said (c:Cx):∀n,n≤1000000000→Said 208 #[.pointer (some ⟨c.pb,0,none⟩)] c false NdV (stmtP c.e n)
 | 0,_=>fun w r k hne=>absurd rfl hne
 | n+1,hn=>stmt1_said c false (stmt_said c n ω) ω
end Go.Proofs.YtbmknjfgjphfbaaGreatDoor
