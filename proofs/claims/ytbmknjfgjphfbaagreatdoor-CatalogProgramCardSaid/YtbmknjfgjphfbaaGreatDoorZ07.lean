import Derived.Test.YtbmknjfgjphfbaaGreatDoorZ06
set_option linter.all false
namespace Go.Proofs.YtbmknjfgjphfbaaGreatDoor
open Proofs.Tryz RowKit Maps WideMaps ChangeMaps
set_option maxRecDepth 100000
set_option maxHeartbeats 8000000
theorem heading_said (c:Cx) (h:Bool) {m:M Nd} (HE:Said 181 #[.pointer (some ⟨c.pb,0,none⟩)] c true NdV m):Said 205 #[.pointer (some ⟨c.pb,0,none⟩)] c h NdV (m):=fun w r k hne=>by
 have HX:=η HE
 clear HE
 have TX:=η k.tx
 obtain⟨W0,HW,A⟩:=Sw.s1 k
 obtain⟨R,hR⟩:∃R,R=m r:=⟨_,rfl⟩
 rw[←hR] at hne ⊢
 obtain⟨io,hio,hiz,his,hib⟩:=info_parts info_83
 have HIO:=η (And.intro hio (And.intro hiz (And.intro his hib)))
 clear hio hiz his hib
 have HMF:=hmf
 obtain⟨HN,HR⟩:=zd2 hne hR
 clear hR hne k
 go_in
 go_upto_region 1 with fail
 rw[←HW.o]
 clear HW
 have c3:W0.cell? ⟨c.pb,3,none⟩=some (.bool h):=A.o.pw.box.cell 3
 have f3:W0.frozen? ⟨c.pb,3,none⟩=false:=A.o.pw.box.free 3
 go_upto_region 3 with fail
 obtain⟨W1,hW2⟩:∃W1,Hid (W1=W0.setCell ⟨c.pb,3,none⟩ (.bool true)):=⟨_,rfl⟩
 rw[←hW2.o]
 replace A:=Sw.hd A true hW2
 clear c3 f3 hW2
 go_wp2_with fail
 cases m3:m (r) with
 | out=>exact absurd (HR.o.trans m3) HN.o
 | bad q6 =>
  refine (Said.bad (HX.o) A.o.pw m3).mono ?_
  rintro _ W4 ⟨rfl,s⟩
  exact⟨rfl,Sw.bd A s (HR.o.trans m3)⟩
 | ok x7 q6 =>
  obtain⟨H5,Z8,Y9⟩:=zd3 (HR.o.trans m3) (Sw.ge A) (A.o.lo.2.2.2)
  refine (Said.ok (HX.o) A.o.pw m3).mono ?_
  rintro _ W4 ⟨_,rfl,⟨k10,s11,n12,p13,D14,l15,c16,rfl,hnd⟩,s,p⟩
  replace A:=Sw.nd A s p hnd
  clear s p hnd m3 HR
  replace A:=Sw.al A (cl k10 s11 n12 p13 D14 l15 c16).toArray
  obtain⟨W17,hW18⟩:∃W17,Hid (W17=W4.alloc (.cells (cl k10 s11 n12 p13 D14 l15 c16).toArray 83)):=⟨_,rfl⟩
  rw[←hW18.o] at A
  go_upto_region 4 with fail
  rw[←hW18.o]
  clear hW18
  have c3:W17.cell? ⟨c.pb,3,none⟩=some (.bool true):=A.o.pw.box.cell 3
  have f3:W17.frozen? ⟨c.pb,3,none⟩=false:=A.o.pw.box.free 3
  go_upto_region 5 with fail
  obtain⟨W19,hW20⟩:∃W19,Hid (W19=W17.setCell ⟨c.pb,3,none⟩ (.bool h)):=⟨_,rfl⟩
  rw[←hW20.o]
  replace A:=Sw.hd A h hW20
  clear c3 f3 hW20
  have O:=setRow_heap _ _ _ (cl k10 s11 n12 p13 D14 l15 c16).toArray _ _ (A.o.bx rfl)
  have E:=Sw.eg (Rv:=NdV) A (cells:=(cl k10 s11 n12 p13 D14 l15 c16).toArray) (v:=.agg (cl k10 s11 n12 p13 D14 l15 c16).toArray) (a:=x7) fun X hx k=>⟨k10,s11,n12,p13,D14,l15,c16,rfl,NdR.lo k.1.2 Z8.o⟩
  go_wp2_with (first|(refine wpList_load_row rfl 83 _ rfl W4.heap.size rfl 83 _ _ _ (Sw.now A).2 underlying83 rfl Δ ?_)|(refine wpList_store_row rfl 83 _ _ rfl w.heap.size (cl k10 s11 n12 p13 D14 l15 c16).toArray rfl rfl 83 _ (A.o.bx rfl) Δ rfl (by simp[Value.oneCell']) ?_))
  exact bodyPost_ret (results_cell_row results205 _ _ w.heap.size 83 _ _ _ rfl O underlying83 rfl Δ) rfl (by rw[H5.o];exact E.o)
theorem group_said (c:Cx) (h:Bool) {m:M Nd} [hS:Suf m] (HE:Said 181 #[.pointer (some ⟨c.pb,0,none⟩)] c false NdV m) (p0:Int) (hp:i64 p0):Said 230 #[.pointer (some ⟨c.pb,0,none⟩),.int .i64 p0] c h NdV (acc [41] (pure (.mk 23 e0 0 p0 [])) (m >>= fun a=>expect [41] >>= fun _=>pure a)):=fun w r k hne=>by
 have HX:=η HE
 clear HE
 have HP:=η hp
 clear hp
 have TX:=η k.tx
 obtain⟨W0,HW,A⟩:=Sw.s1 k
 obtain⟨R,hR⟩:∃R,R=acc [41] (pure (.mk 23 e0 0 p0 [])) (m >>= fun a=>expect [41] >>= fun _=>pure a) r:=⟨_,rfl⟩
 rw[←hR] at hne ⊢
 obtain⟨io,hio,hiz,his,hib⟩:=info_parts info_83
 have HIO:=η (And.intro hio (And.intro hiz (And.intro his hib)))
 clear hio hiz his hib
 have HMF:=hmf
 obtain⟨HN,HR⟩:=zd2 hne hR
 clear hR hne k
 go_in
 go_upto_region 1 with fail
 rw[←HW.o]
 clear HW
 go_wp2_with fail
 cases a1:(wl (r)==[41]) with
 | true =>
  have H3:=η (HR.o.trans (acc_t a1))
  refine (accept_yes A.o.pw (s:=⟨#[41]⟩) a1 π).mono ?_
  rintro _ W2 ⟨rfl,s,p⟩
  replace A:=Sw.n A s p
  clear s p HR a1
  go_wp2_with fail
  refine (node_any _ _ _ _ _ _ _ _).mono ?_
  rintro _ W4 ⟨rfl,b⟩
  replace A:=Sw.bel A b
  clear b
  have E:=Sw.e A (k:=23) (s:=e0) (n:=0) (p:=(p0)) (D:=none) (l:=0) (cap:=0) (a:=.mk 23 e0 0 (p0) []) fun X hx k=>NdR.of ⟨by unfold i64;omega,(by unfold i64;omega),HP.o⟩ (by show e0.size≤_;decide) (kid0)
  have O:=setRow_heap _ _ _ (cl 23 e0 0 (p0) none 0 0).toArray _ _ (A.o.bx rfl)
  go_wp2_with (refine wpList_store_row rfl 83 _ _ rfl w.heap.size (cl 23 e0 0 (p0) none 0 0).toArray rfl rfl 83 _ (A.o.bx rfl) Δ rfl (by simp[Value.oneCell']) ?_)
  exact bodyPost_ret (results_cell_row results230 _ _ w.heap.size 83 _ _ _ rfl O underlying83 rfl Δ) rfl (by rw[H3.o];exact E.o)
 | false =>
  have H6:=η (HR.o.trans (acc_f a1))
  refine (accept_no A.o.pw (s:=⟨#[41]⟩) a1).mono ?_
  rintro _ W5 ⟨rfl,s,p⟩
  replace A:=Sw.n A s p
  clear s p HR a1
  have c3:W5.cell? ⟨c.pb,3,none⟩=some (.bool h):=A.o.pw.box.cell 3
  have f3:W5.frozen? ⟨c.pb,3,none⟩=false:=A.o.pw.box.free 3
  go_upto_region 5 with fail
  obtain⟨W7,hW8⟩:∃W7,Hid (W7=W5.setCell ⟨c.pb,3,none⟩ (.bool false)):=⟨_,rfl⟩
  rw[←hW8.o]
  replace A:=Sw.hd A false hW8
  clear c3 f3 hW8
  go_wp2_with fail
  cases m9:m (r) with
  | out=>exact absurd (H6.o.trans (bd_out m9)) HN.o
  | bad q12 =>
   refine (Said.bad (HX.o) A.o.pw m9).mono ?_
   rintro _ W10 ⟨rfl,s⟩
   exact⟨rfl,Sw.bd A s (H6.o.trans (bd_bad m9))⟩
  | ok x13 q12 =>
   obtain⟨H11,Z14,Y15⟩:=zd3 (H6.o.trans (bd_ok m9)) (Sw.ge A) (A.o.lo.2.2.2)
   refine (Said.ok (HX.o) A.o.pw m9).mono ?_
   rintro _ W10 ⟨_,rfl,⟨k16,s17,n18,p19,D20,l21,c22,rfl,hnd⟩,s,p⟩
   replace A:=Sw.nd A s p hnd
   clear s p hnd m9 H6
   replace A:=Sw.al A (cl k16 s17 n18 p19 D20 l21 c22).toArray
   go_wp2_with (refine wpList_load_row rfl 83 _ rfl W10.heap.size rfl 83 _ _ _ (Sw.now A).2 underlying83 rfl Δ ?_)
   cases a23:(wl (q12)==[41]) with
   | false =>
    refine (expect_no A.o.pw (s:=⟨#[41]⟩) a23).mono ?_
    rintro _ W24 ⟨rfl,s⟩
    exact⟨rfl,Sw.bd A s (H11.o.trans (bd_bad (exp_f a23)))⟩
   | true =>
    have H25:=η (H11.o.trans (bd_ok (exp_t a23)))
    refine (expect_yes A.o.pw (s:=⟨#[41]⟩) a23 π).mono ?_
    rintro _ W24 ⟨rfl,s,p⟩
    replace A:=Sw.n A s p
    clear s p H11 a23
    have c3:W24.cell? ⟨c.pb,3,none⟩=some (.bool false):=A.o.pw.box.cell 3
    have f3:W24.frozen? ⟨c.pb,3,none⟩=false:=A.o.pw.box.free 3
    go_upto_region 8 with fail
    obtain⟨W26,hW27⟩:∃W26,Hid (W26=W24.setCell ⟨c.pb,3,none⟩ (.bool h)):=⟨_,rfl⟩
    rw[←hW27.o]
    replace A:=Sw.hd A h hW27
    clear c3 f3 hW27
    have O:=setRow_heap _ _ _ (cl k16 s17 n18 p19 D20 l21 c22).toArray _ _ (A.o.bx rfl)
    have E:=Sw.eg (Rv:=NdV) A (cells:=(cl k16 s17 n18 p19 D20 l21 c22).toArray) (v:=.agg (cl k16 s17 n18 p19 D20 l21 c22).toArray) (a:=x13) fun X hx k=>⟨k16,s17,n18,p19,D20,l21,c22,rfl,NdR.lo k.1.2 Z14.o⟩
    go_wp2_with (first|(refine wpList_load_row rfl 83 _ rfl W10.heap.size rfl 83 _ _ _ (Sw.now A).2 underlying83 rfl Δ ?_)|(refine wpList_store_row rfl 83 _ _ rfl w.heap.size (cl k16 s17 n18 p19 D20 l21 c22).toArray rfl rfl 83 _ (A.o.bx rfl) Δ rfl (by simp[Value.oneCell']) ?_))
    exact bodyPost_ret (results_cell_row results230 _ _ w.heap.size 83 _ _ _ rfl O underlying83 rfl Δ) rfl (by rw[H25.o];exact E.o)
theorem prim_said (c:Cx) (h:Bool) {m:M Nd} [hS:Suf m] (HE:Said 181 #[.pointer (some ⟨c.pb,0,none⟩)] c false NdV m) {n:Nat} (hn:n≤1000000000):Said 228 #[.pointer (some ⟨c.pb,0,none⟩)] c h NdV (primP c.e m n h):=fun w r k hne=>by
 obtain⟨HX,LL,LI,LT⟩:=zd4 HE (list_said (F:=181) (c:=c) (h:=h) (m:=m) (s:=⟨#[93]⟩) (n:=n) (fun _ _=>by kernel_rfl) hS HE π hn) (items_said (F:=181) (c:=c) (h:=h) (m:=m) (s:=⟨#[41]⟩) (n:=n) (fun _ _=>by kernel_rfl) hS HE π hn) (list_said (F:=139) (c:=c) (h:=h) (m:=setP c.e m) (s:=⟨#[125]⟩) (n:=n) (fun _ _=>by kernel_rfl) inferInstance (set_said c false HE) π hn)
 clear HE
 have TX:=η k.tx
 obtain⟨W0,HW,A⟩:=Sw.s1 k
 obtain⟨R,hR⟩:∃R,R=primP c.e m n h r:=⟨_,rfl⟩
 rw[←hR] at hne ⊢
 obtain⟨io,hio,hiz,his,hib⟩:=info_parts info_83
 have HIO:=η (And.intro hio (And.intro hiz (And.intro his hib)))
 clear hio hiz his hib
 have HMF:=hmf
 obtain⟨HN,HR⟩:=zd2 hne hR
 clear hR hne k
 go_in
 go_upto_region 1 with fail
 rw[←HW.o]
 clear HW
 go_wp2_with fail
 refine (peek_any A.o.pw).mono ?_
 rintro _ WP ⟨rfl,b⟩
 replace A:=Sw.bel A b
 clear b
 replace A:=Sw.alt A 198 #[.int .i64 (kd r),.string (tx r),.int .i64 (nm r),.int .i64 (offP c.e r)]
 obtain⟨WQ,hWQ⟩:∃WQ,Hid (WQ=WP.alloc (.cells #[.int .i64 (kd r),.string (tx r),.int .i64 (nm r),.int .i64 (offP c.e r)] 198)):=⟨_,rfl⟩
 rw[←hWQ.o] at A
 go_upto_region 2 with fail
 rw[←hWQ.o]
 clear hWQ
 have z0:=(Sw.now A).2.c 0
 have z3:=(Sw.now A).2.c 3
 by_cases kk1:kd r=2
 case pos =>
  have H2:=η (HR.o.trans (ite_t kk1))
  have qkk1:(kd r==2)=true:=by simpa using kk1
  have hq3:=η (kd_ne' kk1 π)
  clear kk1 HR
  have z3:=z3
  obtain⟨i6,hi7⟩:∃i:Nat,Hid (i=c.L.length-(r).length):=⟨_,rfl⟩
  have c1:WQ.cell? ⟨c.pb,1,none⟩=some (.int .i64 ((i6:Nat):Int)):=by rw[hi7.o];exact A.o.pw.box.cell 1
  have f1:WQ.frozen? ⟨c.pb,1,none⟩=false:=A.o.pw.box.free 1
  have PS:Hid (wrap64 ((i6:Nat)+1:Int)=((c.L.length-(r).tail.length:Nat):Int)):=by show _=_;rw[hi7.o];exact (A.o.pw.skip hq3.o).2.2
  go_upto_region 6 with fail
  rw[PS.o]
  obtain⟨W4,hW5⟩:∃W4,Hid (W4=WQ.setCell ⟨c.pb,1,none⟩ (.int .i64 ((c.L.length-(r).tail.length:Nat):Int))):=⟨_,rfl⟩
  rw[←hW5.o]
  replace A:=Sw.sk A hq3.o hW5
  have H8:=η (H2.o.trans (nxt_t hq3.o))
  clear H2
  clear c1 f1 PS hW5
  have z2:=(Sw.now A).2.c 2
  go_wp2_with fail
  refine (node_any _ _ _ _ _ _ _ _).mono ?_
  rintro _ W9 ⟨rfl,b⟩
  replace A:=Sw.bel A b
  clear b
  have E:=Sw.e A (k:=20) (s:=e0) (n:=(nm r)) (p:=(offP c.e r)) (D:=none) (l:=0) (cap:=0) (a:=.mk 20 e0 (nm r) (offP c.e r) []) fun X hx k=>NdR.of ⟨by unfold i64;omega,TX.o.2.2.2.1,TX.o.2.2.2.2⟩ (by show e0.size≤_;decide) (kid0)
  have O:=setRow_heap _ _ _ (cl 20 e0 (nm r) (offP c.e r) none 0 0).toArray _ _ (A.o.bx rfl)
  go_wp2_with (refine wpList_store_row rfl 83 _ _ rfl w.heap.size (cl 20 e0 (nm r) (offP c.e r) none 0 0).toArray rfl rfl 83 _ (A.o.bx rfl) Δ rfl (by simp[Value.oneCell']) ?_)
  exact bodyPost_ret (results_cell_row results228 _ _ w.heap.size 83 _ _ _ rfl O underlying83 rfl Δ) rfl (by rw[H8.o];exact E.o)
 case neg =>
  have H10:=η (HR.o.trans (ite_f kk1))
  have qkk1:(kd r==2)=false:=by simpa using kk1
  clear kk1 HR
  by_cases kk11:kd r=3
  case pos =>
   have H12:=η (H10.o.trans (ite_t kk11))
   have qkk11:(kd r==3)=true:=by simpa using kk11
   have hq13:=η (kd_ne' kk11 π)
   clear kk11 H10
   obtain⟨i16,hi17⟩:∃i:Nat,Hid (i=c.L.length-(r).length):=⟨_,rfl⟩
   have c1:WQ.cell? ⟨c.pb,1,none⟩=some (.int .i64 ((i16:Nat):Int)):=by rw[hi17.o];exact A.o.pw.box.cell 1
   have f1:WQ.frozen? ⟨c.pb,1,none⟩=false:=A.o.pw.box.free 1
   have PS:Hid (wrap64 ((i16:Nat)+1:Int)=((c.L.length-(r).tail.length:Nat):Int)):=by show _=_;rw[hi17.o];exact (A.o.pw.skip hq13.o).2.2
   go_upto_region 9 with fail
   rw[PS.o]
   obtain⟨W14,hW15⟩:∃W14,Hid (W14=WQ.setCell ⟨c.pb,1,none⟩ (.int .i64 ((c.L.length-(r).tail.length:Nat):Int))):=⟨_,rfl⟩
   rw[←hW15.o]
   replace A:=Sw.sk A hq13.o hW15
   have H18:=η (H12.o.trans (nxt_t hq13.o))
   clear H12
   clear c1 f1 PS hW15
   have z1:=(Sw.now A).2.c 1
   go_wp2_with fail
   refine (node_any _ _ _ _ _ _ _ _).mono ?_
   rintro _ W19 ⟨rfl,b⟩
   replace A:=Sw.bel A b
   clear b
   have E:=Sw.e A (k:=21) (s:=(tx r)) (n:=0) (p:=(offP c.e r)) (D:=none) (l:=0) (cap:=0) (a:=.mk 21 (tx r) 0 (offP c.e r) []) fun X hx k=>NdR.of ⟨by unfold i64;omega,(by unfold i64;omega),TX.o.2.2.2.2⟩ TX.o.1 (kid0)
   have O:=setRow_heap _ _ _ (cl 21 (tx r) 0 (offP c.e r) none 0 0).toArray _ _ (A.o.bx rfl)
   go_wp2_with (refine wpList_store_row rfl 83 _ _ rfl w.heap.size (cl 21 (tx r) 0 (offP c.e r) none 0 0).toArray rfl rfl 83 _ (A.o.bx rfl) Δ rfl (by simp[Value.oneCell']) ?_)
   exact bodyPost_ret (results_cell_row results228 _ _ w.heap.size 83 _ _ _ rfl O underlying83 rfl Δ) rfl (by rw[H18.o];exact E.o)
  case neg =>
   have H20:=η (H10.o.trans (ite_f kk11))
   have qkk11:(kd r==3)=false:=by simpa using kk11
   clear kk11 H10
   go_wp2_with fail
   cases a21:(wl (r)==[116,114,117,101]) with
   | true =>
    have H23:=η (H20.o.trans (acc_t a21))
    refine (accept_yes A.o.pw (s:=⟨#[116,114,117,101]⟩) a21 π).mono ?_
    rintro _ W22 ⟨rfl,s,p⟩
    replace A:=Sw.n A s p
    clear s p H20 a21
    go_wp2_with fail
    refine (node_any _ _ _ _ _ _ _ _).mono ?_
    rintro _ W24 ⟨rfl,b⟩
    replace A:=Sw.bel A b
    clear b
    have E:=Sw.e A (k:=22) (s:=e0) (n:=1) (p:=(offP c.e r)) (D:=none) (l:=0) (cap:=0) (a:=.mk 22 e0 1 (offP c.e r) []) fun X hx k=>NdR.of ⟨by unfold i64;omega,(by unfold i64;omega),TX.o.2.2.2.2⟩ (by show e0.size≤_;decide) (kid0)
    have O:=setRow_heap _ _ _ (cl 22 e0 1 (offP c.e r) none 0 0).toArray _ _ (A.o.bx rfl)
    go_wp2_with (refine wpList_store_row rfl 83 _ _ rfl w.heap.size (cl 22 e0 1 (offP c.e r) none 0 0).toArray rfl rfl 83 _ (A.o.bx rfl) Δ rfl (by simp[Value.oneCell']) ?_)
    exact bodyPost_ret (results_cell_row results228 _ _ w.heap.size 83 _ _ _ rfl O underlying83 rfl Δ) rfl (by rw[H23.o];exact E.o)
   | false =>
    have H26:=η (H20.o.trans (acc_f a21))
    refine (accept_no A.o.pw (s:=⟨#[116,114,117,101]⟩) a21).mono ?_
    rintro _ W25 ⟨rfl,s,p⟩
    replace A:=Sw.n A s p
    clear s p H20 a21
    go_wp2_with fail
    cases a27:(wl (r)==[102,97,108,115,101]) with
    | true =>
     have H29:=η (H26.o.trans (acc_t a27))
     refine (accept_yes A.o.pw (s:=⟨#[102,97,108,115,101]⟩) a27 π).mono ?_
     rintro _ W28 ⟨rfl,s,p⟩
     replace A:=Sw.n A s p
     clear s p H26 a27
     go_wp2_with fail
     refine (node_any _ _ _ _ _ _ _ _).mono ?_
     rintro _ W30 ⟨rfl,b⟩
     replace A:=Sw.bel A b
     clear b
     have E:=Sw.e A (k:=22) (s:=e0) (n:=0) (p:=(offP c.e r)) (D:=none) (l:=0) (cap:=0) (a:=.mk 22 e0 0 (offP c.e r) []) fun X hx k=>NdR.of ⟨by unfold i64;omega,(by unfold i64;omega),TX.o.2.2.2.2⟩ (by show e0.size≤_;decide) (kid0)
     have O:=setRow_heap _ _ _ (cl 22 e0 0 (offP c.e r) none 0 0).toArray _ _ (A.o.bx rfl)
     go_wp2_with (refine wpList_store_row rfl 83 _ _ rfl w.heap.size (cl 22 e0 0 (offP c.e r) none 0 0).toArray rfl rfl 83 _ (A.o.bx rfl) Δ rfl (by simp[Value.oneCell']) ?_)
     exact bodyPost_ret (results_cell_row results228 _ _ w.heap.size 83 _ _ _ rfl O underlying83 rfl Δ) rfl (by rw[H29.o];exact E.o)
    | false =>
     have H32:=η (H26.o.trans (acc_f a27))
     refine (accept_no A.o.pw (s:=⟨#[102,97,108,115,101]⟩) a27).mono ?_
     rintro _ W31 ⟨rfl,s,p⟩
     replace A:=Sw.n A s p
     clear s p H26 a27
     go_wp2_with fail
     cases a33:(wl (r)==[115,101,108,102]) with
     | true =>
      have H35:=η (H32.o.trans (acc_t a33))
      refine (accept_yes A.o.pw (s:=⟨#[115,101,108,102]⟩) a33 π).mono ?_
      rintro _ W34 ⟨rfl,s,p⟩
      replace A:=Sw.n A s p
      clear s p H32 a33
      go_wp2_with fail
      refine (node_any _ _ _ _ _ _ _ _).mono ?_
      rintro _ W36 ⟨rfl,b⟩
      replace A:=Sw.bel A b
      clear b
      have E:=Sw.e A (k:=25) (s:=e0) (n:=0) (p:=(offP c.e r)) (D:=none) (l:=0) (cap:=0) (a:=.mk 25 e0 0 (offP c.e r) []) fun X hx k=>NdR.of ⟨by unfold i64;omega,(by unfold i64;omega),TX.o.2.2.2.2⟩ (by show e0.size≤_;decide) (kid0)
      have O:=setRow_heap _ _ _ (cl 25 e0 0 (offP c.e r) none 0 0).toArray _ _ (A.o.bx rfl)
      go_wp2_with (refine wpList_store_row rfl 83 _ _ rfl w.heap.size (cl 25 e0 0 (offP c.e r) none 0 0).toArray rfl rfl 83 _ (A.o.bx rfl) Δ rfl (by simp[Value.oneCell']) ?_)
      exact bodyPost_ret (results_cell_row results228 _ _ w.heap.size 83 _ _ _ rfl O underlying83 rfl Δ) rfl (by rw[H35.o];exact E.o)
     | false =>
      have H38:=η (H32.o.trans (acc_f a33))
      refine (accept_no A.o.pw (s:=⟨#[115,101,108,102]⟩) a33).mono ?_
      rintro _ W37 ⟨rfl,s,p⟩
      replace A:=Sw.n A s p
      clear s p H32 a33
      go_wp2_with fail
      cases a39:(wl (r)==[91]) with
      | true =>
       have H41:=η (H38.o.trans (acc_t a39))
       refine (accept_yes A.o.pw (s:=⟨#[91]⟩) a39 π).mono ?_
       rintro _ W40 ⟨rfl,s,p⟩
       replace A:=Sw.n A s p
       clear s p H38 a39
       go_wp2_with fail
       cases m42:listP [93] m n ((r).tail) with
       | out=>exact absurd (H41.o.trans (bd_out m42)) HN.o
       | bad q45 =>
        refine (Said.bad (LL.o) A.o.pw m42).mono ?_
        rintro _ W43 ⟨rfl,s⟩
        exact⟨rfl,Sw.bd A s (H41.o.trans (bd_bad m42))⟩
       | ok x46 q45 =>
        obtain⟨H44,Z47,Y48⟩:=zd3 (H41.o.trans (bd_ok m42)) (Sw.ge A) (A.o.lo.2.2.2)
        refine (Said.ok (LL.o) A.o.pw m42).mono ?_
        rintro _ W43 ⟨_,rfl,hrow,s,p⟩
        obtain⟨Ar49,cr50,rfl⟩:=hrow.form
        have HL51:=η (hrow.1)
        replace A:=Sw.rw A s p hrow
        clear s p hrow m42 H41
        go_wp2_with fail
        refine (node_any _ _ _ _ _ _ _ _).mono ?_
        rintro _ W52 ⟨rfl,b⟩
        replace A:=Sw.bel A b
        clear b
        have E:=Sw.e A (k:=26) (s:=e0) (n:=0) (p:=(offP c.e r)) (D:=Ar49) (l:=(x46.length)) (cap:=cr50) (a:=.mk 26 e0 0 (offP c.e r) x46) fun X hx k=>NdR.of ⟨by unfold i64;omega,(by unfold i64;omega),TX.o.2.2.2.2⟩ (by show e0.size≤_;decide) (RowX.nds k.2 Z47.o)
        have O:=setRow_heap _ _ _ (cl 26 e0 0 (offP c.e r) Ar49 (x46.length) cr50).toArray _ _ (A.o.bx rfl)
        go_wp2_with (refine wpList_store_row rfl 83 _ _ rfl w.heap.size (cl 26 e0 0 (offP c.e r) Ar49 (x46.length) cr50).toArray rfl rfl 83 _ (A.o.bx rfl) Δ rfl (by simp[Value.oneCell']) ?_)
        exact bodyPost_ret (results_cell_row results228 _ _ w.heap.size 83 _ _ _ rfl O underlying83 rfl Δ) rfl (by rw[H44.o];exact E.o)
      | false =>
       have H54:=η (H38.o.trans (acc_f a39))
       refine (accept_no A.o.pw (s:=⟨#[91]⟩) a39).mono ?_
       rintro _ W53 ⟨rfl,s,p⟩
       replace A:=Sw.n A s p
       clear s p H38 a39
       go_wp2_with fail
       cases a55:(wl (r)==[40]) with
       | true =>
        have H57:=η (H54.o.trans (acc_t a55))
        refine (accept_yes A.o.pw (s:=⟨#[40]⟩) a55 π).mono ?_
        rintro _ W56 ⟨rfl,s,p⟩
        replace A:=Sw.n A s p
        clear s p H54 a55
        go_wp2_with fail
        cases m58:(acc [41] (pure (.mk 23 e0 0 (offP c.e r) [])) (m >>= fun a=>expect [41] >>= fun _=>pure a)) ((r).tail) with
        | out=>exact absurd (H57.o.trans m58) HN.o
        | bad q61 =>
         refine (Said.bad ((group_said c h HX.o _ TX.o.2.2.2.2)) A.o.pw m58).mono ?_
         rintro _ W59 ⟨rfl,s⟩
         exact⟨rfl,Sw.bd A s (H57.o.trans m58)⟩
        | ok x62 q61 =>
         obtain⟨H60,Z63⟩:=zd2 (H57.o.trans m58) (Sw.ge A)
         refine (Said.ok ((group_said c h HX.o _ TX.o.2.2.2.2)) A.o.pw m58).mono ?_
         rintro _ W59 ⟨_,rfl,⟨k64,s65,n66,p67,D68,l69,c70,rfl,hnd⟩,s,p⟩
         replace A:=Sw.nd A s p hnd
         clear s p hnd m58 H57
         have O:=setRow_heap _ _ _ (cl k64 s65 n66 p67 D68 l69 c70).toArray _ _ (A.o.bx rfl)
         have E:=Sw.eg (Rv:=NdV) A (cells:=(cl k64 s65 n66 p67 D68 l69 c70).toArray) (v:=.agg (cl k64 s65 n66 p67 D68 l69 c70).toArray) (a:=x62) fun X hx k=>⟨k64,s65,n66,p67,D68,l69,c70,rfl,NdR.lo k.2 Z63.o⟩
         go_wp2_with (refine wpList_store_row rfl 83 _ _ rfl w.heap.size (cl k64 s65 n66 p67 D68 l69 c70).toArray rfl rfl 83 _ (A.o.bx rfl) Δ rfl (by simp[Value.oneCell']) ?_)
         exact bodyPost_ret (results_cell_row results228 _ _ w.heap.size 83 _ _ _ rfl O underlying83 rfl Δ) rfl (by rw[H60.o];exact E.o)
       | false =>
        have H72:=η (H54.o.trans (acc_f a55))
        refine (accept_no A.o.pw (s:=⟨#[40]⟩) a55).mono ?_
        rintro _ W71 ⟨rfl,s,p⟩
        replace A:=Sw.n A s p
        clear s p H54 a55
        go_wp2_with fail
        have TS:=η (A.o.pw.tx.2.1)
        refine (word_any A.o.pw).mono ?_
        rintro _ W73 ⟨rfl,b⟩
        replace A:=Sw.bel A b
        clear b
        go_wp2_with fail
        refine (p_lowB.2 _ _ TS.o).mono ?_
        rintro _ _ ⟨rfl,rfl⟩
        clear TS
        cases a74:lowB (wl (r)) with
        | true =>
         have H75:=η (H72.o.trans (ite_t a74))
         rw[show lowB (wrd (r)).data.toList=true from a74]
         have hq76:=η (low_ne' a74)
         clear H72
         have H77:=η (H75.o.trans (nxt_t hq76.o))
         clear H75
         go_wp2_with fail
         refine (name_yes A.o.pw p_lowB a74 (by rfl)).mono ?_
         rintro _ W78 ⟨rfl,s,p⟩
         replace A:=Sw.n A s p
         clear s p
         go_wp2_with fail
         refine (node_any _ _ _ _ _ _ _ _).mono ?_
         rintro _ W79 ⟨rfl,b⟩
         replace A:=Sw.bel A b
         clear b
         have E:=Sw.e A (k:=24) (s:=(wrd r)) (n:=0) (p:=(offP c.e r)) (D:=none) (l:=0) (cap:=0) (a:=.mk 24 (wrd r) 0 (offP c.e r) []) fun X hx k=>NdR.of ⟨by unfold i64;omega,(by unfold i64;omega),TX.o.2.2.2.2⟩ TX.o.2.1 (kid0)
         have O:=setRow_heap _ _ _ (cl 24 (wrd r) 0 (offP c.e r) none 0 0).toArray _ _ (A.o.bx rfl)
         go_wp2_with (refine wpList_store_row rfl 83 _ _ rfl w.heap.size (cl 24 (wrd r) 0 (offP c.e r) none 0 0).toArray rfl rfl 83 _ (A.o.bx rfl) Δ rfl (by simp[Value.oneCell']) ?_)
         exact bodyPost_ret (results_cell_row results228 _ _ w.heap.size 83 _ _ _ rfl O underlying83 rfl Δ) rfl (by rw[H77.o];exact E.o)
        | false =>
         have H80:=η (H72.o.trans (ite_f (by rw[a74];simp)))
         rw[show lowB (wrd (r)).data.toList=false from a74]
         clear H72
         go_wp2_with fail
         cases a81:uppB (wl (r)) with
         | false =>
          refine (name_no A.o.pw p_uppB a81).mono ?_
          rintro _ W82 ⟨rfl,s⟩
          exact⟨rfl,Sw.bd A s (H80.o.trans (bd_bad (nam_f a81)))⟩
         | true =>
          have H83:=η (H80.o.trans (bd_ok (nam_t a81)))
          have TS84:=η (A.o.pw.tx.2.1)
          refine (name_yes A.o.pw p_uppB a81 (by rfl)).mono ?_
          rintro _ W82 ⟨rfl,s,p⟩
          replace A:=Sw.n A s p
          clear s p H80 a81
          cases h with
          | true =>
           have H85:=η (H83.o.trans (ite_t rfl))
           clear H83
           go_wp2_with fail
           refine (word_any A.o.pw).mono ?_
           rintro _ W86 ⟨rfl,b⟩
           replace A:=Sw.bel A b
           clear b
           have c3:W86.cell? ⟨c.pb,3,none⟩=some (.bool true):=A.o.pw.box.cell 3
           cases a87:(wl ((r).tail)==[123]) with
           | true =>
            have tw88:((wrd ((r).tail)).toList==[123])=true:=by rw[ByteArray.toList_eq];exact a87
            have hq89:=η (ne_of_wl π a87)
            clear a87
            go_wp2_with fail
            cases a90:(wl ((r).tail)==[40]) with
            | true =>
             have H92:=η (H85.o.trans (acc_t a90))
             refine (accept_yes A.o.pw (s:=⟨#[40]⟩) a90 π).mono ?_
             rintro _ W91 ⟨rfl,s,p⟩
             replace A:=Sw.n A s p
             clear s p H85 a90
             go_wp2_with fail
             cases m93:itemsP [41] m n (((r).tail).tail) with
             | out=>exact absurd (H92.o.trans (bd_out m93)) HN.o
             | bad q96 =>
              refine (Said.bad (LI.o) A.o.pw m93).mono ?_
              rintro _ W94 ⟨rfl,s⟩
              exact⟨rfl,Sw.bd A s (H92.o.trans (bd_bad m93))⟩
             | ok x97 q96 =>
              obtain⟨H95,Z98,Y99⟩:=zd3 (H92.o.trans (bd_ok m93)) (Sw.ge A) (A.o.lo.2.2.2)
              refine (Said.ok (LI.o) A.o.pw m93).mono ?_
              rintro _ W94 ⟨_,rfl,hrow,s,p⟩
              obtain⟨Ar100,cr101,rfl⟩:=hrow.form
              have HL102:=η (hrow.1)
              replace A:=Sw.rw A s p hrow
              clear s p hrow m93 H92
              go_wp2_with fail
              refine (node_any _ _ _ _ _ _ _ _).mono ?_
              rintro _ W103 ⟨rfl,b⟩
              replace A:=Sw.bel A b
              clear b
              have E:=Sw.e A (k:=29) (s:=(wrd (r))) (n:=0) (p:=(offP c.e r)) (D:=Ar100) (l:=(x97.length)) (cap:=cr101) (a:=.mk 29 (wrd (r)) 0 (offP c.e r) x97) fun X hx k=>NdR.of ⟨by unfold i64;omega,(by unfold i64;omega),TX.o.2.2.2.2⟩ TS84.o (RowX.nds k.2 Z98.o)
              have O:=setRow_heap _ _ _ (cl 29 (wrd (r)) 0 (offP c.e r) Ar100 (x97.length) cr101).toArray _ _ (A.o.bx rfl)
              go_wp2_with (refine wpList_store_row rfl 83 _ _ rfl w.heap.size (cl 29 (wrd (r)) 0 (offP c.e r) Ar100 (x97.length) cr101).toArray rfl rfl 83 _ (A.o.bx rfl) Δ rfl (by simp[Value.oneCell']) ?_)
              exact bodyPost_ret (results_cell_row results228 _ _ w.heap.size 83 _ _ _ rfl O underlying83 rfl Δ) rfl (by rw[H95.o];exact E.o)
            | false =>
             have H105:=η (H85.o.trans (acc_f a90))
             refine (accept_no A.o.pw (s:=⟨#[40]⟩) a90).mono ?_
             rintro _ W104 ⟨rfl,s,p⟩
             replace A:=Sw.n A s p
             clear s p H85 a90
             go_wp2_with fail
             refine (node_any _ _ _ _ _ _ _ _).mono ?_
             rintro _ W106 ⟨rfl,b⟩
             replace A:=Sw.bel A b
             clear b
             have E:=Sw.e A (k:=29) (s:=(wrd (r))) (n:=0) (p:=(offP c.e r)) (D:=none) (l:=0) (cap:=0) (a:=.mk 29 (wrd (r)) 0 (offP c.e r) []) fun X hx k=>NdR.of ⟨by unfold i64;omega,(by unfold i64;omega),TX.o.2.2.2.2⟩ TS84.o (kid0)
             have O:=setRow_heap _ _ _ (cl 29 (wrd (r)) 0 (offP c.e r) none 0 0).toArray _ _ (A.o.bx rfl)
             go_wp2_with (refine wpList_store_row rfl 83 _ _ rfl w.heap.size (cl 29 (wrd (r)) 0 (offP c.e r) none 0 0).toArray rfl rfl 83 _ (A.o.bx rfl) Δ rfl (by simp[Value.oneCell']) ?_)
             exact bodyPost_ret (results_cell_row results228 _ _ w.heap.size 83 _ _ _ rfl O underlying83 rfl Δ) rfl (by rw[H105.o];exact E.o)
           | false =>
            have tw88:((wrd ((r).tail)).toList==[123])=false:=by rw[ByteArray.toList_eq];exact a87
            clear a87
            go_wp2_with fail
            cases a107:(wl ((r).tail)==[40]) with
            | true =>
             have H109:=η (H85.o.trans (acc_t a107))
             refine (accept_yes A.o.pw (s:=⟨#[40]⟩) a107 π).mono ?_
             rintro _ W108 ⟨rfl,s,p⟩
             replace A:=Sw.n A s p
             clear s p H85 a107
             go_wp2_with fail
             cases m110:itemsP [41] m n (((r).tail).tail) with
             | out=>exact absurd (H109.o.trans (bd_out m110)) HN.o
             | bad q113 =>
              refine (Said.bad (LI.o) A.o.pw m110).mono ?_
              rintro _ W111 ⟨rfl,s⟩
              exact⟨rfl,Sw.bd A s (H109.o.trans (bd_bad m110))⟩
             | ok x114 q113 =>
              obtain⟨H112,Z115,Y116⟩:=zd3 (H109.o.trans (bd_ok m110)) (Sw.ge A) (A.o.lo.2.2.2)
              refine (Said.ok (LI.o) A.o.pw m110).mono ?_
              rintro _ W111 ⟨_,rfl,hrow,s,p⟩
              obtain⟨Ar117,cr118,rfl⟩:=hrow.form
              have HL119:=η (hrow.1)
              replace A:=Sw.rw A s p hrow
              clear s p hrow m110 H109
              go_wp2_with fail
              refine (node_any _ _ _ _ _ _ _ _).mono ?_
              rintro _ W120 ⟨rfl,b⟩
              replace A:=Sw.bel A b
              clear b
              have E:=Sw.e A (k:=29) (s:=(wrd (r))) (n:=0) (p:=(offP c.e r)) (D:=Ar117) (l:=(x114.length)) (cap:=cr118) (a:=.mk 29 (wrd (r)) 0 (offP c.e r) x114) fun X hx k=>NdR.of ⟨by unfold i64;omega,(by unfold i64;omega),TX.o.2.2.2.2⟩ TS84.o (RowX.nds k.2 Z115.o)
              have O:=setRow_heap _ _ _ (cl 29 (wrd (r)) 0 (offP c.e r) Ar117 (x114.length) cr118).toArray _ _ (A.o.bx rfl)
              go_wp2_with (refine wpList_store_row rfl 83 _ _ rfl w.heap.size (cl 29 (wrd (r)) 0 (offP c.e r) Ar117 (x114.length) cr118).toArray rfl rfl 83 _ (A.o.bx rfl) Δ rfl (by simp[Value.oneCell']) ?_)
              exact bodyPost_ret (results_cell_row results228 _ _ w.heap.size 83 _ _ _ rfl O underlying83 rfl Δ) rfl (by rw[H112.o];exact E.o)
            | false =>
             have H122:=η (H85.o.trans (acc_f a107))
             refine (accept_no A.o.pw (s:=⟨#[40]⟩) a107).mono ?_
             rintro _ W121 ⟨rfl,s,p⟩
             replace A:=Sw.n A s p
             clear s p H85 a107
             go_wp2_with fail
             refine (node_any _ _ _ _ _ _ _ _).mono ?_
             rintro _ W123 ⟨rfl,b⟩
             replace A:=Sw.bel A b
             clear b
             have E:=Sw.e A (k:=29) (s:=(wrd (r))) (n:=0) (p:=(offP c.e r)) (D:=none) (l:=0) (cap:=0) (a:=.mk 29 (wrd (r)) 0 (offP c.e r) []) fun X hx k=>NdR.of ⟨by unfold i64;omega,(by unfold i64;omega),TX.o.2.2.2.2⟩ TS84.o (kid0)
             have O:=setRow_heap _ _ _ (cl 29 (wrd (r)) 0 (offP c.e r) none 0 0).toArray _ _ (A.o.bx rfl)
             go_wp2_with (refine wpList_store_row rfl 83 _ _ rfl w.heap.size (cl 29 (wrd (r)) 0 (offP c.e r) none 0 0).toArray rfl rfl 83 _ (A.o.bx rfl) Δ rfl (by simp[Value.oneCell']) ?_)
             exact bodyPost_ret (results_cell_row results228 _ _ w.heap.size 83 _ _ _ rfl O underlying83 rfl Δ) rfl (by rw[H122.o];exact E.o)
          | false =>
           have H124:=η (H83.o.trans (ite_f (by simp)))
           clear H83
           go_wp2_with fail
           refine (word_any A.o.pw).mono ?_
           rintro _ W125 ⟨rfl,b⟩
           replace A:=Sw.bel A b
           clear b
           have c3:W125.cell? ⟨c.pb,3,none⟩=some (.bool false):=A.o.pw.box.cell 3
           cases a126:(wl ((r).tail)==[123]) with
           | true =>
            have tw127:((wrd ((r).tail)).toList==[123])=true:=by rw[ByteArray.toList_eq];exact a126
            have H128:=η (H124.o.trans (acc_t a126))
            clear H124
            have hq129:=η (ne_of_wl π a126)
            clear a126
            obtain⟨i132,hi133⟩:∃i:Nat,Hid (i=c.L.length-((r).tail).length):=⟨_,rfl⟩
            have c1:W125.cell? ⟨c.pb,1,none⟩=some (.int .i64 ((i132:Nat):Int)):=by rw[hi133.o];exact A.o.pw.box.cell 1
            have f1:W125.frozen? ⟨c.pb,1,none⟩=false:=A.o.pw.box.free 1
            have PS:Hid (wrap64 ((i132:Nat)+1:Int)=((c.L.length-((r).tail).tail.length:Nat):Int)):=by show _=_;rw[hi133.o];exact (A.o.pw.skip hq129.o).2.2
            go_upto_region 25 with fail
            rw[PS.o]
            obtain⟨W130,hW131⟩:∃W130,Hid (W130=W125.setCell ⟨c.pb,1,none⟩ (.int .i64 ((c.L.length-((r).tail).tail.length:Nat):Int))):=⟨_,rfl⟩
            rw[←hW131.o]
            replace A:=Sw.sk A hq129.o hW131
            clear c1 f1 PS hW131
            go_wp2_with fail
            cases m134:listP [125] (setP c.e m) n (((r).tail).tail) with
            | out=>exact absurd (H128.o.trans (bd_out m134)) HN.o
            | bad q137 =>
             refine (Said.bad (LT.o) A.o.pw m134).mono ?_
             rintro _ W135 ⟨rfl,s⟩
             exact⟨rfl,Sw.bd A s (H128.o.trans (bd_bad m134))⟩
            | ok x138 q137 =>
             obtain⟨H136,Z139,Y140⟩:=zd3 (H128.o.trans (bd_ok m134)) (Sw.ge A) (A.o.lo.2.2.2)
             refine (Said.ok (LT.o) A.o.pw m134).mono ?_
             rintro _ W135 ⟨_,rfl,hrow,s,p⟩
             obtain⟨Ar141,cr142,rfl⟩:=hrow.form
             have HL143:=η (hrow.1)
             replace A:=Sw.rw A s p hrow
             clear s p hrow m134 H128
             go_wp2_with fail
             refine (node_any _ _ _ _ _ _ _ _).mono ?_
             rintro _ W144 ⟨rfl,b⟩
             replace A:=Sw.bel A b
             clear b
             have E:=Sw.e A (k:=27) (s:=(wrd (r))) (n:=0) (p:=(offP c.e r)) (D:=Ar141) (l:=(x138.length)) (cap:=cr142) (a:=.mk 27 (wrd (r)) 0 (offP c.e r) x138) fun X hx k=>NdR.of ⟨by unfold i64;omega,(by unfold i64;omega),TX.o.2.2.2.2⟩ TS84.o (RowX.nds k.2 Z139.o)
             have O:=setRow_heap _ _ _ (cl 27 (wrd (r)) 0 (offP c.e r) Ar141 (x138.length) cr142).toArray _ _ (A.o.bx rfl)
             go_wp2_with (refine wpList_store_row rfl 83 _ _ rfl w.heap.size (cl 27 (wrd (r)) 0 (offP c.e r) Ar141 (x138.length) cr142).toArray rfl rfl 83 _ (A.o.bx rfl) Δ rfl (by simp[Value.oneCell']) ?_)
             exact bodyPost_ret (results_cell_row results228 _ _ w.heap.size 83 _ _ _ rfl O underlying83 rfl Δ) rfl (by rw[H136.o];exact E.o)
           | false =>
            have tw127:((wrd ((r).tail)).toList==[123])=false:=by rw[ByteArray.toList_eq];exact a126
            have H145:=η (H124.o.trans (acc_f a126))
            clear H124
            clear a126
            go_wp2_with fail
            cases a146:(wl ((r).tail)==[40]) with
            | true =>
             have H148:=η (H145.o.trans (acc_t a146))
             refine (accept_yes A.o.pw (s:=⟨#[40]⟩) a146 π).mono ?_
             rintro _ W147 ⟨rfl,s,p⟩
             replace A:=Sw.n A s p
             clear s p H145 a146
             go_wp2_with fail
             cases m149:itemsP [41] m n (((r).tail).tail) with
             | out=>exact absurd (H148.o.trans (bd_out m149)) HN.o
             | bad q152 =>
              refine (Said.bad (LI.o) A.o.pw m149).mono ?_
              rintro _ W150 ⟨rfl,s⟩
              exact⟨rfl,Sw.bd A s (H148.o.trans (bd_bad m149))⟩
             | ok x153 q152 =>
              obtain⟨H151,Z154,Y155⟩:=zd3 (H148.o.trans (bd_ok m149)) (Sw.ge A) (A.o.lo.2.2.2)
              refine (Said.ok (LI.o) A.o.pw m149).mono ?_
              rintro _ W150 ⟨_,rfl,hrow,s,p⟩
              obtain⟨Ar156,cr157,rfl⟩:=hrow.form
              have HL158:=η (hrow.1)
              replace A:=Sw.rw A s p hrow
              clear s p hrow m149 H148
              go_wp2_with fail
              refine (node_any _ _ _ _ _ _ _ _).mono ?_
              rintro _ W159 ⟨rfl,b⟩
              replace A:=Sw.bel A b
              clear b
              have E:=Sw.e A (k:=29) (s:=(wrd (r))) (n:=0) (p:=(offP c.e r)) (D:=Ar156) (l:=(x153.length)) (cap:=cr157) (a:=.mk 29 (wrd (r)) 0 (offP c.e r) x153) fun X hx k=>NdR.of ⟨by unfold i64;omega,(by unfold i64;omega),TX.o.2.2.2.2⟩ TS84.o (RowX.nds k.2 Z154.o)
              have O:=setRow_heap _ _ _ (cl 29 (wrd (r)) 0 (offP c.e r) Ar156 (x153.length) cr157).toArray _ _ (A.o.bx rfl)
              go_wp2_with (refine wpList_store_row rfl 83 _ _ rfl w.heap.size (cl 29 (wrd (r)) 0 (offP c.e r) Ar156 (x153.length) cr157).toArray rfl rfl 83 _ (A.o.bx rfl) Δ rfl (by simp[Value.oneCell']) ?_)
              exact bodyPost_ret (results_cell_row results228 _ _ w.heap.size 83 _ _ _ rfl O underlying83 rfl Δ) rfl (by rw[H151.o];exact E.o)
            | false =>
             have H161:=η (H145.o.trans (acc_f a146))
             refine (accept_no A.o.pw (s:=⟨#[40]⟩) a146).mono ?_
             rintro _ W160 ⟨rfl,s,p⟩
             replace A:=Sw.n A s p
             clear s p H145 a146
             go_wp2_with fail
             refine (node_any _ _ _ _ _ _ _ _).mono ?_
             rintro _ W162 ⟨rfl,b⟩
             replace A:=Sw.bel A b
             clear b
             have E:=Sw.e A (k:=29) (s:=(wrd (r))) (n:=0) (p:=(offP c.e r)) (D:=none) (l:=0) (cap:=0) (a:=.mk 29 (wrd (r)) 0 (offP c.e r) []) fun X hx k=>NdR.of ⟨by unfold i64;omega,(by unfold i64;omega),TX.o.2.2.2.2⟩ TS84.o (kid0)
             have O:=setRow_heap _ _ _ (cl 29 (wrd (r)) 0 (offP c.e r) none 0 0).toArray _ _ (A.o.bx rfl)
             go_wp2_with (refine wpList_store_row rfl 83 _ _ rfl w.heap.size (cl 29 (wrd (r)) 0 (offP c.e r) none 0 0).toArray rfl rfl 83 _ (A.o.bx rfl) Δ rfl (by simp[Value.oneCell']) ?_)
             exact bodyPost_ret (results_cell_row results228 _ _ w.heap.size 83 _ _ _ rfl O underlying83 rfl Δ) rfl (by rw[H161.o];exact E.o)
end Go.Proofs.YtbmknjfgjphfbaaGreatDoor
