import Derived.Deep.RegionHeld3
import Derived.Test.YtbmknjfgjphfbaaGreatDoorZ04
set_option linter.all false
namespace Go.Proofs.YtbmknjfgjphfbaaGreatDoor
set_option maxRecDepth 100000
set_option maxHeartbeats 8000000
section
open Proofs.Tryz RowKit Maps WideMaps ChangeMaps
theorem field_said (c:Cx) (h:Bool) {n:Nat} (hn:n≤1000000000):Said 141 #[.pointer (some ⟨c.pb,0,none⟩)] c h NdV (fieldP c.e n):=fun w r k hne=>by
 have TX:=η k.tx
 obtain⟨W0,HW,A⟩:=Sw.s1 k
 obtain⟨R,hR⟩:∃R,R=fieldP c.e n r:=⟨_,rfl⟩
 rw[←hR] at hne ⊢
 obtain⟨io,hio,hiz,his,hib⟩:=info_parts info_83
 have HIO:=η (And.intro hio (And.intro hiz (And.intro his hib)))
 clear hio hiz his hib
 have HMF:=hmf
 obtain⟨HN,HR⟩:=zd2 hne hR
 clear hR hne k
 go_in
 go_upto_region 1 with fail
 rw[←HW.o]
 clear HW
 go_wp2_with fail
 have TX2:=η (A.o.pw.tx)
 refine (offset_any A.o.pw).mono ?_
 rintro _ W1 ⟨rfl,b⟩
 replace A:=Sw.bel A b
 clear b
 go_wp2_with fail
 cases a3:lowB (wl (r)) with
 | false =>
  refine (name_no A.o.pw p_lowB a3).mono ?_
  rintro _ W4 ⟨rfl,s⟩
  exact⟨rfl,Sw.bd A s (HR.o.trans (bd_bad (nam_f a3)))⟩
 | true =>
  have H5:=η (HR.o.trans (bd_ok (nam_t a3)))
  have TS6:=η (A.o.pw.tx.2.1)
  refine (name_yes A.o.pw p_lowB a3 (by rfl)).mono ?_
  rintro _ W4 ⟨rfl,s,p⟩
  replace A:=Sw.n A s p
  clear s p HR a3
  go_wp2_with fail
  cases a7:(wl ((r).tail)==[58]) with
  | false =>
   refine (expect_no A.o.pw (s:=⟨#[58]⟩) a7).mono ?_
   rintro _ W8 ⟨rfl,s⟩
   exact⟨rfl,Sw.bd A s (H5.o.trans (bd_bad (exp_f a7)))⟩
  | true =>
   have H9:=η (H5.o.trans (bd_ok (exp_t a7)))
   refine (expect_yes A.o.pw (s:=⟨#[58]⟩) a7 π).mono ?_
   rintro _ W8 ⟨rfl,s,p⟩
   replace A:=Sw.n A s p
   clear s p H5 a7
   go_wp2_with fail
   cases m10:typP c.e n (((r).tail).tail) with
   | out=>exact absurd (H9.o.trans (bd_out m10)) HN.o
   | bad q13 =>
    refine (Said.bad (typ_said c n hn h) A.o.pw m10).mono ?_
    rintro _ W11 ⟨rfl,s⟩
    exact⟨rfl,Sw.bd A s (H9.o.trans (bd_bad m10))⟩
   | ok x14 q13 =>
    obtain⟨H12,Z15,Y16⟩:=zd3 (H9.o.trans (bd_ok m10)) (Sw.ge A) (A.o.lo.2.2.2)
    refine (Said.ok (typ_said c n hn h) A.o.pw m10).mono ?_
    rintro _ W11 ⟨_,rfl,⟨k17,s18,n19,p20,D21,l22,c23,rfl,hnd⟩,s,p⟩
    replace A:=Sw.nd A s p hnd
    clear s p hnd m10 H9
    go_wp2_with fail
    have Z24:=η (Sw.ge A)
    replace A:=Sw.al A ((cl k17 s18 n19 p20 D21 l22 c23)).toArray
    refine (node_any _ _ _ _ _ _ _ _).mono ?_
    rintro _ W25 ⟨rfl,b⟩
    replace A:=Sw.bel A b
    clear b
    have E:=Sw.e A (k:=7) (s:=(wrd (r))) (n:=0) (p:=(offP c.e (r))) (D:=(some ⟨W11.heap.size,0,none⟩)) (l:=1) (cap:=1) (a:=.mk 7 (wrd (r)) 0 (offP c.e (r)) [x14]) fun X hx k=>NdR.of ⟨by unfold i64;omega,(by unfold i64;omega),TX2.o.2.2.2.2⟩ TS6.o (kid1 (k.2) Z24.o (NdR.lo k.1.2 Z15.o) rfl)
    have O:=setRow_heap _ _ _ (cl 7 (wrd (r)) 0 (offP c.e (r)) (some ⟨W11.heap.size,0,none⟩) 1 1).toArray _ _ (A.o.bx rfl)
    go_wp2_with (refine wpList_store_row rfl 83 _ _ rfl w.heap.size (cl 7 (wrd (r)) 0 (offP c.e (r)) (some ⟨W11.heap.size,0,none⟩) 1 1).toArray rfl rfl 83 _ (A.o.bx rfl) Δ rfl (by simp[Value.oneCell']) ?_)
    exact bodyPost_ret (results_cell_row results141 _ _ w.heap.size 83 _ _ _ rfl O underlying83 rfl Δ) rfl (by rw[H12.o];exact E.o)
theorem fields_said (c:Cx) (h:Bool) {n:Nat} (hn:n≤1000000000):Said 137 #[.pointer (some ⟨c.pb,0,none⟩)] c h (RowV (n+1)) (fieldsP c.e n):=fun w r k hne=>by
 have LS:=η (list_said (F:=141) (c:=c) (h:=h) (m:=fieldP c.e n) (s:=⟨#[41]⟩) (n:=n) (fun _ _=>by kernel_rfl) inferInstance (field_said c false hn) π hn)
 have TX:=η k.tx
 have A:=Sw.s0 k
 obtain⟨R,hR⟩:∃R,R=fieldsP c.e n r:=⟨_,rfl⟩
 rw[←hR] at hne ⊢
 obtain⟨io,hio,hiz,his,hib⟩:=info_parts info_83
 have HIO:=η (And.intro hio (And.intro hiz (And.intro his hib)))
 clear hio hiz his hib
 have HMF:=hmf
 obtain⟨HN,HR⟩:=zd2 hne hR
 clear hR hne k
 go_in
 go_wp2_with fail
 cases a1:(wl (r)==[40]) with
 | false =>
  refine (expect_no A.o.pw (s:=⟨#[40]⟩) a1).mono ?_
  rintro _ W2 ⟨rfl,s⟩
  exact⟨rfl,Sw.bd A s (HR.o.trans (bd_bad (exp_f a1)))⟩
 | true =>
  have H3:=η (HR.o.trans (bd_ok (exp_t a1)))
  refine (expect_yes A.o.pw (s:=⟨#[40]⟩) a1 π).mono ?_
  rintro _ W2 ⟨rfl,s,p⟩
  replace A:=Sw.n A s p
  clear s p HR a1
  go_wp2_with fail
  cases m4:listP [41] (fieldP c.e n) n ((r).tail) with
  | out=>exact absurd (H3.o.trans m4) HN.o
  | bad q7 =>
   refine (Said.bad (LS.o) A.o.pw m4).mono ?_
   rintro _ W5 ⟨rfl,s⟩
   exact⟨rfl,Sw.bd A s (H3.o.trans m4)⟩
  | ok x8 q7 =>
   obtain⟨H6,Z9,Y10⟩:=zd3 (H3.o.trans m4) (Sw.ge A) (A.o.lo.2.2.2)
   refine (Said.ok (LS.o) A.o.pw m4).mono ?_
   rintro _ W5 ⟨_,rfl,hrow,s,p⟩
   obtain⟨Ar11,cr12,rfl⟩:=hrow.form
   have HL13:=η (hrow.1)
   replace A:=Sw.rw A s p hrow
   clear s p hrow m4 H3
   go_wp2_with fail
   have V:=RowX.v (b:=n+1) (Sw.now A).2 Z9.o (HL13.o)
   go_ret
   rw[H6.o]
   exact⟨_,rfl,V,A.o.st,A.o.pw⟩
theorem bind_said (c:Cx) (h:Bool):Said 227 #[.pointer (some ⟨c.pb,0,none⟩)] c h NdV (bindP c.e):=fun w r k hne=>by
 have TX:=η k.tx
 obtain⟨W0,HW,A⟩:=Sw.s1 k
 obtain⟨R,hR⟩:∃R,R=bindP c.e r:=⟨_,rfl⟩
 rw[←hR] at hne ⊢
 obtain⟨io,hio,hiz,his,hib⟩:=info_parts info_83
 have HIO:=η (And.intro hio (And.intro hiz (And.intro his hib)))
 clear hio hiz his hib
 have HMF:=hmf
 obtain⟨HN,HR⟩:=zd2 hne hR
 clear hR hne k
 go_in
 go_upto_region 1 with fail
 rw[←HW.o]
 clear HW
 go_wp2_with fail
 have TX2:=η (A.o.pw.tx)
 refine (offset_any A.o.pw).mono ?_
 rintro _ W1 ⟨rfl,b⟩
 replace A:=Sw.bel A b
 clear b
 go_wp2_with fail
 cases a3:bndB (wl (r)) with
 | false =>
  refine (name_no A.o.pw p_bndB a3).mono ?_
  rintro _ W4 ⟨rfl,s⟩
  exact⟨rfl,Sw.bd A s (HR.o.trans (bd_bad (nam_f a3)))⟩
 | true =>
  have H5:=η (HR.o.trans (bd_ok (nam_t a3)))
  have TS6:=η (A.o.pw.tx.2.1)
  refine (name_yes A.o.pw p_bndB a3 (by rfl)).mono ?_
  rintro _ W4 ⟨rfl,s,p⟩
  replace A:=Sw.n A s p
  clear s p HR a3
  go_wp2_with fail
  refine (node_any _ _ _ _ _ _ _ _).mono ?_
  rintro _ W7 ⟨rfl,b⟩
  replace A:=Sw.bel A b
  clear b
  have E:=Sw.e A (k:=40) (s:=(wrd (r))) (n:=0) (p:=(offP c.e (r))) (D:=none) (l:=0) (cap:=0) (a:=.mk 40 (wrd (r)) 0 (offP c.e (r)) []) fun X hx k=>NdR.of ⟨by unfold i64;omega,(by unfold i64;omega),TX2.o.2.2.2.2⟩ TS6.o (kid0)
  have O:=setRow_heap _ _ _ (cl 40 (wrd (r)) 0 (offP c.e (r)) none 0 0).toArray _ _ (A.o.bx rfl)
  go_wp2_with (refine wpList_store_row rfl 83 _ _ rfl w.heap.size (cl 40 (wrd (r)) 0 (offP c.e (r)) none 0 0).toArray rfl rfl 83 _ (A.o.bx rfl) Δ rfl (by simp[Value.oneCell']) ?_)
  exact bodyPost_ret (results_cell_row results227 _ _ w.heap.size 83 _ _ _ rfl O underlying83 rfl Δ) rfl (by rw[H5.o];exact E.o)
theorem ctor_said (c:Cx) (h:Bool) {n:Nat} (hn:n≤1000000000):Said 143 #[.pointer (some ⟨c.pb,0,none⟩)] c h NdV (ctorP c.e n):=fun w r k hne=>by
 have LS:=η (items_said (F:=144) (c:=c) (h:=h) (m:=typP c.e n) (s:=⟨#[41]⟩) (n:=n) (fun _ _=>by kernel_rfl) inferInstance (typ_said c n hn false) π hn)
 have TX:=η k.tx
 obtain⟨W0,HW,A⟩:=Sw.s1 k
 obtain⟨R,hR⟩:∃R,R=ctorP c.e n r:=⟨_,rfl⟩
 rw[←hR] at hne ⊢
 obtain⟨io,hio,hiz,his,hib⟩:=info_parts info_83
 have HIO:=η (And.intro hio (And.intro hiz (And.intro his hib)))
 clear hio hiz his hib
 have HMF:=hmf
 obtain⟨HN,HR⟩:=zd2 hne hR
 clear hR hne k
 go_in
 go_upto_region 1 with fail
 rw[←HW.o]
 clear HW
 go_wp2_with fail
 have TX2:=η (A.o.pw.tx)
 refine (offset_any A.o.pw).mono ?_
 rintro _ W1 ⟨rfl,b⟩
 replace A:=Sw.bel A b
 clear b
 go_wp2_with fail
 cases a3:uppB (wl (r)) with
 | false =>
  refine (name_no A.o.pw p_uppB a3).mono ?_
  rintro _ W4 ⟨rfl,s⟩
  exact⟨rfl,Sw.bd A s (HR.o.trans (bd_bad (nam_f a3)))⟩
 | true =>
  have H5:=η (HR.o.trans (bd_ok (nam_t a3)))
  have TS6:=η (A.o.pw.tx.2.1)
  refine (name_yes A.o.pw p_uppB a3 (by rfl)).mono ?_
  rintro _ W4 ⟨rfl,s,p⟩
  replace A:=Sw.n A s p
  clear s p HR a3
  go_wp2_with fail
  cases a7:(wl ((r).tail)==[40]) with
  | true =>
   have H9:=η (H5.o.trans (acc_t a7))
   refine (accept_yes A.o.pw (s:=⟨#[40]⟩) a7 π).mono ?_
   rintro _ W8 ⟨rfl,s,p⟩
   replace A:=Sw.n A s p
   clear s p H5 a7
   go_wp2_with fail
   cases m10:itemsP [41] (typP c.e n) n (((r).tail).tail) with
   | out=>exact absurd (H9.o.trans (bd_out m10)) HN.o
   | bad q13 =>
    refine (Said.bad (LS.o) A.o.pw m10).mono ?_
    rintro _ W11 ⟨rfl,s⟩
    exact⟨rfl,Sw.bd A s (H9.o.trans (bd_bad m10))⟩
   | ok x14 q13 =>
    obtain⟨H12,Z15,Y16⟩:=zd3 (H9.o.trans (bd_ok m10)) (Sw.ge A) (A.o.lo.2.2.2)
    refine (Said.ok (LS.o) A.o.pw m10).mono ?_
    rintro _ W11 ⟨_,rfl,hrow,s,p⟩
    obtain⟨Ar17,cr18,rfl⟩:=hrow.form
    have HL19:=η (hrow.1)
    replace A:=Sw.rw A s p hrow
    clear s p hrow m10 H9
    go_wp2_with fail
    refine (node_any _ _ _ _ _ _ _ _).mono ?_
    rintro _ W20 ⟨rfl,b⟩
    replace A:=Sw.bel A b
    clear b
    have E:=Sw.e A (k:=8) (s:=(wrd (r))) (n:=0) (p:=(offP c.e (r))) (D:=Ar17) (l:=(x14.length)) (cap:=cr18) (a:=.mk 8 (wrd (r)) 0 (offP c.e (r)) x14) fun X hx k=>NdR.of ⟨by unfold i64;omega,(by unfold i64;omega),TX2.o.2.2.2.2⟩ TS6.o (RowX.nds k.2 Z15.o)
    have O:=setRow_heap _ _ _ (cl 8 (wrd (r)) 0 (offP c.e (r)) Ar17 (x14.length) cr18).toArray _ _ (A.o.bx rfl)
    go_wp2_with (refine wpList_store_row rfl 83 _ _ rfl w.heap.size (cl 8 (wrd (r)) 0 (offP c.e (r)) Ar17 (x14.length) cr18).toArray rfl rfl 83 _ (A.o.bx rfl) Δ rfl (by simp[Value.oneCell']) ?_)
    exact bodyPost_ret (results_cell_row results143 _ _ w.heap.size 83 _ _ _ rfl O underlying83 rfl Δ) rfl (by rw[H12.o];exact E.o)
  | false =>
   have H22:=η (H5.o.trans (acc_f a7))
   refine (accept_no A.o.pw (s:=⟨#[40]⟩) a7).mono ?_
   rintro _ W21 ⟨rfl,s,p⟩
   replace A:=Sw.n A s p
   clear s p H5 a7
   go_wp2_with fail
   refine (node_any _ _ _ _ _ _ _ _).mono ?_
   rintro _ W23 ⟨rfl,b⟩
   replace A:=Sw.bel A b
   clear b
   have E:=Sw.e A (k:=8) (s:=(wrd (r))) (n:=0) (p:=(offP c.e (r))) (D:=none) (l:=0) (cap:=0) (a:=.mk 8 (wrd (r)) 0 (offP c.e (r)) []) fun X hx k=>NdR.of ⟨by unfold i64;omega,(by unfold i64;omega),TX2.o.2.2.2.2⟩ TS6.o (kid0)
   have O:=setRow_heap _ _ _ (cl 8 (wrd (r)) 0 (offP c.e (r)) none 0 0).toArray _ _ (A.o.bx rfl)
   go_wp2_with (refine wpList_store_row rfl 83 _ _ rfl w.heap.size (cl 8 (wrd (r)) 0 (offP c.e (r)) none 0 0).toArray rfl rfl 83 _ (A.o.bx rfl) Δ rfl (by simp[Value.oneCell']) ?_)
   exact bodyPost_ret (results_cell_row results143 _ _ w.heap.size 83 _ _ _ rfl O underlying83 rfl Δ) rfl (by rw[H22.o];exact E.o)
theorem policy_said (c:Cx) (h:Bool):Said 146 #[.pointer (some ⟨c.pb,0,none⟩)] c h InV (policyP):=fun w r k hne=>by
 have TX:=η k.tx
 have A:=Sw.s0 k
 obtain⟨R,hR⟩:∃R,R=policyP r:=⟨_,rfl⟩
 rw[←hR] at hne ⊢
 obtain⟨io,hio,hiz,his,hib⟩:=info_parts info_83
 have HIO:=η (And.intro hio (And.intro hiz (And.intro his hib)))
 clear hio hiz his hib
 have HMF:=hmf
 obtain⟨HN,HR⟩:=zd2 hne hR
 clear hR hne k
 go_in
 go_wp2_with fail
 cases a1:(wl (r)==[101,115,99,97,108,97,116,101]) with
 | true =>
  have H3:=η (HR.o.trans (acc_t a1))
  refine (accept_yes A.o.pw (s:=⟨#[101,115,99,97,108,97,116,101]⟩) a1 π).mono ?_
  rintro _ W2 ⟨rfl,s,p⟩
  replace A:=Sw.n A s p
  clear s p HR a1
  go_wp2
  go_ret
  rw[H3.o]
  exact⟨_,rfl,⟨rfl,by unfold i64;omega⟩,A.o.st,A.o.pw⟩
 | false =>
  have H5:=η (HR.o.trans (acc_f a1))
  refine (accept_no A.o.pw (s:=⟨#[101,115,99,97,108,97,116,101]⟩) a1).mono ?_
  rintro _ W4 ⟨rfl,s,p⟩
  replace A:=Sw.n A s p
  clear s p HR a1
  go_wp2_with fail
  cases a6:(wl (r)==[114,101,115,116,97,114,116]) with
  | true =>
   have H8:=η (H5.o.trans (acc_t a6))
   refine (accept_yes A.o.pw (s:=⟨#[114,101,115,116,97,114,116]⟩) a6 π).mono ?_
   rintro _ W7 ⟨rfl,s,p⟩
   replace A:=Sw.n A s p
   clear s p H5 a6
   go_wp2_with fail
   by_cases a9:kd ((r).tail)=2
   case neg =>
    refine (integer_no A.o.pw a9).mono ?_
    rintro _ W10 ⟨rfl,s⟩
    exact⟨rfl,Sw.bd A s (H8.o.trans (bd_bad (int_f a9)))⟩
   case pos =>
    have H11:=η (H8.o.trans (bd_ok (int_t a9)))
    have TI12:=η (And.intro A.o.pw.tx.2.2.2.1 A.o.pw.nb)
    refine (integer_yes A.o.pw a9).mono ?_
    rintro _ W10 ⟨rfl,s,p⟩
    replace A:=Sw.n A s p
    clear s p H8 a9
    go_wp2_with fail
    have hb:=TI12.o.2
    have hz:wrap64 (nm ((r).tail)+1)=nm ((r).tail)+1:=by unfold wrap64;omega
    rw[hz]
    go_ret
    rw[H11.o]
    exact⟨_,rfl,⟨rfl,by unfold i64;omega⟩,A.o.st,A.o.pw⟩
  | false =>
   have H14:=η (H5.o.trans (acc_f a6))
   refine (accept_no A.o.pw (s:=⟨#[114,101,115,116,97,114,116]⟩) a6).mono ?_
   rintro _ W13 ⟨rfl,s,p⟩
   replace A:=Sw.n A s p
   clear s p H5 a6
   go_wp2
   go_ret
   rw[H14.o]
   exact⟨_,rfl,⟨rfl,by unfold i64;omega⟩,A.o.st,A.o.pw⟩
end
section
open Proofs.Tryz RowKit Maps WideMaps ChangeMaps
def PtV (b:Nat) (w w':À) (v:Value) (a:Nd):Prop:=∃k s p l A cap,a=.mk k s 0 p l∧v=.agg (cl k s 0 p A l.length cap).toArray∧(i64 k∧i64 p∧s.size≤maxLen)∧l.length≤b∧RowX w.heap.size (.slice A l.length cap) l w'
theorem RowX.lo {E:Nat→Prop} {n m:Nat} {v:Value} {l:List Nd} {X:À} (h:RowE E m v l X) (hn:n≤m):RowE E n v l X:=by
 obtain⟨hz,he,xs,ho,hr⟩:=h
 exact⟨Nat.le_trans hn hz,he,xs,⟨ho.1,ho.2.imp id fun ⟨g,cap,cur,e,hb,t⟩=>⟨g,cap,cur,e,Nat.le_trans hn hb,t⟩⟩,hr.to fun cs a y=>y.to fun b hb=>⟨⟨⟨Nat.le_trans hn hb.1.1,hb.1.2⟩,hb.2⟩,rfl⟩⟩
theorem RowX.nil (n:Nat) (X:À) (h:n≤X.heap.size):RowX n (.slice none 0 0) [] X:=⟨h,(fun g e=>by cases e),[],⟨by simp,.inl ⟨rfl,rfl⟩⟩,RowG.nil _⟩
theorem pattern_said (c:Cx) (h:Bool) {n:Nat} (hn:n≤1000000000) (k0:Int) (hk0:i64 k0):Said 219 #[.pointer (some ⟨c.pb,0,none⟩),.int .i64 k0] c h (PtV (n+1)) (patP c.e k0 n):=fun w r k hne=>by
 have LS:=η (items_said (F:=227) (c:=c) (h:=h) (m:=bindP c.e) (s:=⟨#[41]⟩) (n:=n) (fun _ _=>by kernel_rfl) inferInstance (bind_said c false) π hn)
 have TX:=η k.tx
 have HK:=η hk0
 obtain⟨W0,HW,A⟩:=Sw.s1 k
 obtain⟨R,hR⟩:∃R,R=patP c.e k0 n r:=⟨_,rfl⟩
 rw[←hR] at hne ⊢
 have HMF:=hmf
 obtain⟨HN,HR⟩:=zd2 hne hR
 clear hR hne k hk0
 go_in
 go_upto_region 1 with fail
 rw[←HW.o]
 clear HW
 go_wp2_with fail
 refine (offset_any A.o.pw).mono ?_
 rintro _ W1 ⟨rfl,b⟩
 replace A:=Sw.bel A b
 clear b
 go_wp2_with fail
 refine (node_any _ _ _ _ _ _ _ _).mono ?_
 rintro _ W2 ⟨rfl,b⟩
 replace A:=Sw.bel A b
 clear b
 have Z:=η A.o.lo.2.2.2
 replace A:=Sw.al A (cl k0 e0 0 (offP c.e r) none 0 0).toArray
 go_wp2_with fail
 cases a1:patB (wl r) with
 | false =>
  refine (name_no A.o.pw p_patB a1).mono ?_
  rintro _ W3 ⟨rfl,s⟩
  exact⟨rfl,Sw.bd A s (HR.o.trans (bd_bad (nam_f a1)))⟩
 | true =>
  have H1:=η (HR.o.trans (bd_ok (nam_t a1)))
  have TS:=η (A.o.pw.tx.2.1)
  refine (name_yes A.o.pw p_patB a1 (by rfl)).mono ?_
  rintro _ W3 ⟨rfl,s,p⟩
  replace A:=Sw.n A s p
  clear s p HR a1
  have g1:=(Sw.now A).2.c 1
  have f1:=(Sw.now A).2.free 1
  have hs:=hs_put (i:=1) (v:=.string (wrd r)) (Sw.now A).2
  replace A:=Sw.setg (g:=W2.heap.size) (i:=1) (v:=.string (wrd r)) A Z.o (K2:=fun X=>Hs X W2.heap.size 83 (cl k0 (wrd r) 0 (offP c.e r) none 0 0).toArray) (fun X x=>hs_agr hs x Z.o)
  clear hs
  obtain⟨W4,hW4⟩:∃W4,Hid (W4=W3.setCell ⟨W2.heap.size,1,none⟩ (.string (wrd r))):=⟨_,rfl⟩
  rw[←hW4.o] at A
  go_upto_region 3 with fail
  rw[←hW4.o]
  clear g1 f1 hW4
  have g1:=(Sw.now A).c 1
  cases a2:((wrd r).data.toList==[95]) with
  | true =>
   have H2:=η (H1.o.trans (ite_t a2))
   have t2:((wrd r).toList==[95])=true:=by rw[ByteArray.toList_eq];exact a2
   clear a2
   go_upto_region 5 with fail
   have O:=setRow_heap _ _ _ (cl k0 (wrd r) 0 (offP c.e r) none 0 0).toArray _ _ (A.o.bx rfl)
   have E:=Sw.eg (Rv:=PtV (n+1)) A (cells:=(cl k0 (wrd r) 0 (offP c.e r) none 0 0).toArray) (v:=.agg (cl k0 (wrd r) 0 (offP c.e r) none 0 0).toArray) (a:=.mk k0 (wrd r) 0 (offP c.e r) []) fun X hx k=>⟨_,_,_,[],none,0,rfl,rfl,⟨HK.o,TX.o.2.2.2.2,TS.o⟩,by simp,RowX.nil _ _ ω⟩
   go_wp2_with (first|(refine wpList_load_row rfl 83 _ rfl W2.heap.size rfl 83 _ _ _ (Sw.now A) underlying83 rfl Δ ?_)|(refine wpList_store_row rfl 83 _ _ rfl w.heap.size (cl k0 (wrd r) 0 (offP c.e r) none 0 0).toArray rfl rfl 83 _ (A.o.bx rfl) Δ rfl (by simp[Value.oneCell']) ?_))
   exact bodyPost_ret (results_cell_row results219 _ _ w.heap.size 83 _ _ _ rfl O underlying83 rfl Δ) rfl (by rw[H2.o];exact E.o)
  | false =>
   have H2:=η (H1.o.trans (ite_f (by rw[a2];simp)))
   have t2:((wrd r).toList==[95])=false:=by rw[ByteArray.toList_eq];exact a2
   clear a2
   go_wp2_with fail
   cases a3:(wl r.tail==[40]) with
   | false =>
    have H3:=η (H2.o.trans (acc_f a3))
    refine (accept_no A.o.pw (s:=⟨#[40]⟩) a3).mono ?_
    rintro _ W5 ⟨rfl,s,p⟩
    replace A:=Sw.n A s p
    clear s p H2 a3 g1
    go_upto_region 5 with fail
    have O:=setRow_heap _ _ _ (cl k0 (wrd r) 0 (offP c.e r) none 0 0).toArray _ _ (A.o.bx rfl)
    have E:=Sw.eg (Rv:=PtV (n+1)) A (cells:=(cl k0 (wrd r) 0 (offP c.e r) none 0 0).toArray) (v:=.agg (cl k0 (wrd r) 0 (offP c.e r) none 0 0).toArray) (a:=.mk k0 (wrd r) 0 (offP c.e r) []) fun X hx k=>⟨_,_,_,[],none,0,rfl,rfl,⟨HK.o,TX.o.2.2.2.2,TS.o⟩,by simp,RowX.nil _ _ ω⟩
    go_wp2_with (first|(refine wpList_load_row rfl 83 _ rfl W2.heap.size rfl 83 _ _ _ (Sw.now A) underlying83 rfl Δ ?_)|(refine wpList_store_row rfl 83 _ _ rfl w.heap.size (cl k0 (wrd r) 0 (offP c.e r) none 0 0).toArray rfl rfl 83 _ (A.o.bx rfl) Δ rfl (by simp[Value.oneCell']) ?_))
    exact bodyPost_ret (results_cell_row results219 _ _ w.heap.size 83 _ _ _ rfl O underlying83 rfl Δ) rfl (by rw[H3.o];exact E.o)
   | true =>
    have H3:=η (H2.o.trans (acc_t a3))
    refine (accept_yes A.o.pw (s:=⟨#[40]⟩) a3 π).mono ?_
    rintro _ W5 ⟨rfl,s,p⟩
    replace A:=Sw.n A s p
    clear s p H2 a3 g1
    go_wp2_with fail
    cases a4:itemsP [41] (bindP c.e) n r.tail.tail with
    | out=>exact absurd (H3.o.trans (bd_out a4)) HN.o
    | bad q =>
     refine (Said.bad LS.o A.o.pw a4).mono ?_
     rintro _ W6 ⟨rfl,s⟩
     exact⟨rfl,Sw.bd A s (H3.o.trans (bd_bad a4))⟩
    | ok x q =>
     obtain⟨H4,Z5⟩:=zd2 (H3.o.trans (bd_ok a4)) (And.intro (Sw.now A).lt A.o.lo.2.2.2)
     refine (Said.ok LS.o A.o.pw a4).mono ?_
     rintro _ W6 ⟨_,rfl,hrow,s,p⟩
     obtain⟨Ar,cr,rfl⟩:=hrow.form
     have HL:=η hrow.1
     replace A:=Sw.rw A s p hrow
     clear s p hrow a4 H3
     have g4:=(Sw.now A).1.c 4
     have f4:=(Sw.now A).1.free 4
     have hs:=hs_put (i:=4) (v:=.slice Ar x.length cr) (Sw.now A).1
     have hr:=RowX.to (Sw.now A).2 (agr_set W6 W2.heap.size 4 (.slice Ar x.length cr) (n:=W5.heap.size) Z5.o.1) (Nat.le_refl _)
     have hn5:w.heap.size+1≤W5.heap.size:=Z5.o.2
     replace A:=Sw.setg (g:=W2.heap.size) (i:=4) (v:=.slice Ar x.length cr) A Z.o (K2:=fun X=>Hs X W2.heap.size 83 (cl k0 (wrd r) 0 (offP c.e r) Ar x.length cr).toArray∧RowX W5.heap.size (.slice Ar x.length cr) x X) (fun X y=>⟨hs_agr hs y Z.o,RowX.to hr y hn5⟩)
     have HN5:=η hn5
     obtain⟨W7,hW7⟩:∃W7,Hid (W7=W6.setCell ⟨W2.heap.size,4,none⟩ (.slice Ar x.length cr)):=⟨_,rfl⟩
     rw[←hW7.o] at A
     clear hs hr hn5
     go_upto_region 5 with fail
     rw[←hW7.o]
     clear g4 f4 hW7
     have O:=setRow_heap _ _ _ (cl k0 (wrd r) 0 (offP c.e r) Ar x.length cr).toArray _ _ (A.o.bx rfl)
     have E:=Sw.eg (Rv:=PtV (n+1)) A (cells:=(cl k0 (wrd r) 0 (offP c.e r) Ar x.length cr).toArray) (v:=.agg (cl k0 (wrd r) 0 (offP c.e r) Ar x.length cr).toArray) (a:=.mk k0 (wrd r) 0 (offP c.e r) x) fun X hx k=>⟨_,_,_,x,Ar,cr,rfl,rfl,⟨HK.o,TX.o.2.2.2.2,TS.o⟩,HL.o,RowX.lo k.2 (by have:=HN5.o;omega)⟩
     go_wp2_with (first|(refine wpList_load_row rfl 83 _ rfl W2.heap.size rfl 83 _ _ _ (Sw.now A).1 underlying83 rfl Δ ?_)|(refine wpList_store_row rfl 83 _ _ rfl w.heap.size (cl k0 (wrd r) 0 (offP c.e r) Ar x.length cr).toArray rfl rfl 83 _ (A.o.bx rfl) Δ rfl (by simp[Value.oneCell']) ?_))
     exact bodyPost_ret (results_cell_row results219 _ _ w.heap.size 83 _ _ _ rfl O underlying83 rfl Δ) rfl (by rw[H4.o];exact E.o)
end
section
open Proofs.Tryz RowKit
def nthO:List Oper→Nat→Option Oper
 | [],_=>none
 | o::_,0=>some o
 | _::l,n+1=>nthO l n
theorem nthO_eq {ops:Array Oper} {i:Nat} {o:Oper} (h:nthO ops.toList i=some o):ops[i]?=some o:=by
 have:∀(l:List Oper) (i:Nat),nthO l i=l[i]?:=by
  intro l
  induction l with
  | nil=>intro i;rfl
  | cons x l ih=>intro i;cases i with
   | zero=>rfl
   | succ n=>exact ih n
 rw[←Array.getElem?_toList,←this];exact h
section
variable {P:Program} {md:Region.Mode} {ops:Array Oper} {Q:Exit→Act→À→Prop} {S:À→Prop} {fuel:Nat} {listed:Array Bool} {a a':Act} {w:À} {dst:Option Nat} {op:Op} {ty:Nat} {pos:String} {after:Array Edge} {g:Option (Nat×Bool)} {v:Value}
theorem tkB (S:À→Prop) {id:Nat} (hS:S w.drew) (h:S w.drew→wpAnyH P .any ops Q S ops.size (Array.replicate ops.size false) a w.drew) (hm:P.follows .mixedOrders=true:=by kernel_rfl):(Code.region id ops true).wp P Q a w:=
 wp_region_held_drew hm hS h
theorem tkQ (i:Nat) (h:wpAnyH P md ops Q S fuel (listed.setIfInBounds i true) a' w)
 (hr:(Region.ready md ops listed).contains i=true:=by kernel_rfl)
 (hi:nthO ops.toList i=some { dst:=dst,op:=op,type:=ty,pos:=pos,after:=after,guard:=g }:=by exact rfl)
 (hs:Region.noSelect ops=true:=by kernel_rfl) (hf:Region.free md ops listed i=true:=by kernel_rfl)
 (hw:Region.wanted { dst:=dst,op:=op,type:=ty,pos:=pos,after:=after,guard:=g } (yielded ops a.tmps)=true:=by rfl)
 (hy:∀w,S w→(execOp a.eval { dst:=dst,op:=op,type:=ty,pos:=pos,after:=after,guard:=g }).run P w=.ok (.value v) w:=by intro w hSw;go_simp;first|done|with_reducible rfl)
 (hS:S w:=by assumption) (hQ:∀c a w,Q (.panic c) (a.put dst v) w→Q (.panic c) a w:=by exact fun _ _ _ h=>h)
 (ha:a.put dst v=a':=by first|(simp only[Act.put,List.setIfInBounds_toArray,List.set_cons_zero,List.set_cons_succ];rfl)|rfl):wpAnyH P md ops Q S (fuel+1) listed a w:=
 wpAnyH_take (nthO_eq hi) hs hf hr hQ (.inl ⟨hw,hy⟩) hS (by rw[ha];exact h)
theorem tkN (i:Nat) (h:wpAnyH P md ops Q S fuel (listed.setIfInBounds i true) a' w)
 (hr:(Region.ready md ops listed).contains i=true:=by kernel_rfl)
 (hi:nthO ops.toList i=some { dst:=dst,op:=op,type:=ty,pos:=pos,after:=after,guard:=g }:=by exact rfl)
 (hs:Region.noSelect ops=true:=by kernel_rfl) (hf:Region.free md ops listed i=true:=by kernel_rfl)
 (hw:Region.wanted { dst:=dst,op:=op,type:=ty,pos:=pos,after:=after,guard:=g } (yielded ops a.tmps)=false:=by rfl)
 (hS:S w:=by assumption) (hQ:∀c a w,Q (.panic c) (a.put dst undef) w→Q (.panic c) a w:=by exact fun _ _ _ h=>h)
 (ha:a.put dst undef=a':=by first|(simp only[Act.put,List.setIfInBounds_toArray,List.set_cons_zero,List.set_cons_succ];rfl)|rfl):wpAnyH P md ops Q S (fuel+1) listed a w:=
 wpAnyH_take (nthO_eq hi) hs hf hr hQ (.inr ⟨hw,rfl⟩) hS (by rw[ha];exact h)
theorem tkE (i:Nat) (h:∀K':Act→À→Prop,Shut (∀a w,S w→(S w→wpAnyH P md ops Q S fuel (listed.setIfInBounds i true) a w)→K' a w)→if Region.wanted { dst:=dst,op:=op,type:=ty,pos:=pos,after:=after,guard:=g } (yielded ops a.tmps)=true then Oper.wp P { dst:=dst,op:=op,type:=ty,pos:=pos,after:=after,guard:=g } a w K' Q else K' (a.put dst undef) w)
 (hi:nthO ops.toList i=some { dst:=dst,op:=op,type:=ty,pos:=pos,after:=after,guard:=g }:=by exact rfl)
 (hr:Region.ready md ops listed=[i]:=by kernel_rfl):wpAnyH P md ops Q S (fuel+1) listed a w:=
 wpAnyH_ready hr (by simp) (AllReadyH.cons (nthO_eq hi) h AllReadyH.nil)
theorem tkR {i:Nat} {K:Act→World→Prop} (hK:Shut (∀a w,S w→(S w→wpAnyH P md ops Q S fuel (listed.setIfInBounds i true) a w)→K a w)) (hS:S w) (h:S w→wpAnyH P md ops Q S fuel (listed.setIfInBounds i true) a' w)
 (ha:a=a':=by first|(simp only[Act.put,List.setIfInBounds_toArray,List.set_cons_zero,List.set_cons_succ];rfl)|rfl):K a w:=
 hK.out _ _ hS (fun hw=>by rw[ha];exact h hw)
structure Kp (q:Prop):Prop where
 o:q
theorem θ {p q:Prop} (k:q) (f:Kp q→p:=by intro k;(first|refine tkQ 0 ?_ Γ (hf:=by decide +kernel)|refine tkN 0 ?_ Γ (hf:=by decide +kernel)|skip);(first|refine tkQ 1 ?_ Γ (hf:=by decide +kernel)|refine tkN 1 ?_ Γ (hf:=by decide +kernel)|skip);(first|refine tkQ 2 ?_ Γ (hf:=by decide +kernel)|refine tkN 2 ?_ Γ (hf:=by decide +kernel)|skip);(first|refine tkQ 3 ?_ Γ (hf:=by decide +kernel)|refine tkN 3 ?_ Γ (hf:=by decide +kernel)|skip);(first|refine tkQ 4 ?_ Γ (hf:=by decide +kernel)|refine tkN 4 ?_ Γ (hf:=by decide +kernel)|skip);(first|refine tkQ 5 ?_ Γ (hf:=by decide +kernel)|refine tkN 5 ?_ Γ (hf:=by decide +kernel)|skip);(first|refine tkQ 6 ?_ Γ (hf:=by decide +kernel)|refine tkN 6 ?_ Γ (hf:=by decide +kernel)|skip);(first|refine tkQ 7 ?_ Γ (hf:=by decide +kernel)|refine tkN 7 ?_ Γ (hf:=by decide +kernel)|skip);(first|refine tkQ 8 ?_ Γ (hf:=by decide +kernel)|refine tkN 8 ?_ Γ (hf:=by decide +kernel)|skip);(first|refine tkQ 9 ?_ Γ (hf:=by decide +kernel)|refine tkN 9 ?_ Γ (hf:=by decide +kernel)|skip);(first|refine tkQ 10 ?_ Γ (hf:=by decide +kernel)|refine tkN 10 ?_ Γ (hf:=by decide +kernel)|skip);(first|refine tkQ 11 ?_ Γ (hf:=by decide +kernel)|refine tkN 11 ?_ Γ (hf:=by decide +kernel)|skip);(first|refine tkQ 12 ?_ Γ (hf:=by decide +kernel)|refine tkN 12 ?_ Γ (hf:=by decide +kernel)|skip);(first|refine tkQ 13 ?_ Γ (hf:=by decide +kernel)|refine tkN 13 ?_ Γ (hf:=by decide +kernel)|skip);(first|refine tkQ 14 ?_ Γ (hf:=by decide +kernel)|refine tkN 14 ?_ Γ (hf:=by decide +kernel)|skip);(first|refine tkQ 15 ?_ Γ (hf:=by decide +kernel)|refine tkN 15 ?_ Γ (hf:=by decide +kernel)|skip);(first|refine tkQ 16 ?_ Γ (hf:=by decide +kernel)|refine tkN 16 ?_ Γ (hf:=by decide +kernel)|skip);(first|refine tkQ 17 ?_ Γ (hf:=by decide +kernel)|refine tkN 17 ?_ Γ (hf:=by decide +kernel)|skip);(first|refine tkQ 18 ?_ Γ (hf:=by decide +kernel)|refine tkN 18 ?_ Γ (hf:=by decide +kernel)|skip);(first|refine tkQ 19 ?_ Γ (hf:=by decide +kernel)|refine tkN 19 ?_ Γ (hf:=by decide +kernel)|skip);(first|refine tkQ 20 ?_ Γ (hf:=by decide +kernel)|refine tkN 20 ?_ Γ (hf:=by decide +kernel)|skip);(first|refine tkQ 21 ?_ Γ (hf:=by decide +kernel)|refine tkN 21 ?_ Γ (hf:=by decide +kernel)|skip);(first|refine tkQ 22 ?_ Γ (hf:=by decide +kernel)|refine tkN 22 ?_ Γ (hf:=by decide +kernel)|skip);(first|refine tkQ 23 ?_ Γ (hf:=by decide +kernel)|refine tkN 23 ?_ Γ (hf:=by decide +kernel)|skip);(first|refine tkQ 24 ?_ Γ (hf:=by decide +kernel)|refine tkN 24 ?_ Γ (hf:=by decide +kernel)|skip);(first|refine tkQ 25 ?_ Γ (hf:=by decide +kernel)|refine tkN 25 ?_ Γ (hf:=by decide +kernel)|skip);(first|refine tkQ 26 ?_ Γ (hf:=by decide +kernel)|refine tkN 26 ?_ Γ (hf:=by decide +kernel)|skip);(first|refine tkQ 27 ?_ Γ (hf:=by decide +kernel)|refine tkN 27 ?_ Γ (hf:=by decide +kernel)|skip);(first|refine tkQ 28 ?_ Γ (hf:=by decide +kernel)|refine tkN 28 ?_ Γ (hf:=by decide +kernel)|skip);(first|refine tkQ 29 ?_ Γ (hf:=by decide +kernel)|refine tkN 29 ?_ Γ (hf:=by decide +kernel)|skip);(first|refine tkQ 30 ?_ Γ (hf:=by decide +kernel)|refine tkN 30 ?_ Γ (hf:=by decide +kernel)|skip);(first|refine tkQ 31 ?_ Γ (hf:=by decide +kernel)|refine tkN 31 ?_ Γ (hf:=by decide +kernel)|skip);(first|refine tkQ 32 ?_ Γ (hf:=by decide +kernel)|refine tkN 32 ?_ Γ (hf:=by decide +kernel)|skip);(first|refine tkQ 33 ?_ Γ (hf:=by decide +kernel)|refine tkN 33 ?_ Γ (hf:=by decide +kernel)|skip);(first|refine tkQ 34 ?_ Γ (hf:=by decide +kernel)|refine tkN 34 ?_ Γ (hf:=by decide +kernel)|skip);(first|refine tkQ 35 ?_ Γ (hf:=by decide +kernel)|refine tkN 35 ?_ Γ (hf:=by decide +kernel)|skip);(first|refine tkQ 36 ?_ Γ (hf:=by decide +kernel)|refine tkN 36 ?_ Γ (hf:=by decide +kernel)|skip);exact k.o):p:=f ⟨k⟩
theorem tkD (h:Q .normal a w) (hr:Region.ready md ops listed=[]:=by kernel_rfl):wpAnyH P md ops Q S fuel listed a w:=wpAnyH_done hr h _
end
end
section
open Proofs.Tryz RowKit Maps WideMaps ChangeMaps
theorem set_said (c:Cx) (h:Bool) {m:M Nd} (HE:Said 181 #[.pointer (some ⟨c.pb,0,none⟩)] c h NdV m):Said 139 #[.pointer (some ⟨c.pb,0,none⟩)] c h NdV (setP c.e m):=fun w r k hne=>by
 have HX:=η HE
 clear HE
 have TX:=η k.tx
 obtain⟨W0,HW,A⟩:=Sw.s1 k
 obtain⟨R,hR⟩:∃R,R=setP c.e m r:=⟨_,rfl⟩
 rw[←hR] at hne ⊢
 obtain⟨io,hio,hiz,his,hib⟩:=info_parts info_83
 have HIO:=η (And.intro hio (And.intro hiz (And.intro his hib)))
 clear hio hiz his hib
 have HMF:=hmf
 obtain⟨HN,HR⟩:=zd2 hne hR
 clear hR hne k
 go_in
 go_upto_region 1 with fail
 rw[←HW.o]
 clear HW
 go_wp2_with fail
 have TX2:=η (A.o.pw.tx)
 refine (offset_any A.o.pw).mono ?_
 rintro _ W1 ⟨rfl,b⟩
 replace A:=Sw.bel A b
 clear b
 go_wp2_with fail
 cases a3:lowB (wl (r)) with
 | false =>
  refine (name_no A.o.pw p_lowB a3).mono ?_
  rintro _ W4 ⟨rfl,s⟩
  exact⟨rfl,Sw.bd A s (HR.o.trans (bd_bad (nam_f a3)))⟩
 | true =>
  have H5:=η (HR.o.trans (bd_ok (nam_t a3)))
  have TS6:=η (A.o.pw.tx.2.1)
  refine (name_yes A.o.pw p_lowB a3 (by rfl)).mono ?_
  rintro _ W4 ⟨rfl,s,p⟩
  replace A:=Sw.n A s p
  clear s p HR a3
  go_wp2_with fail
  cases a7:(wl ((r).tail)==[61]) with
  | false =>
   refine (expect_no A.o.pw (s:=⟨#[61]⟩) a7).mono ?_
   rintro _ W8 ⟨rfl,s⟩
   exact⟨rfl,Sw.bd A s (H5.o.trans (bd_bad (exp_f a7)))⟩
  | true =>
   have H9:=η (H5.o.trans (bd_ok (exp_t a7)))
   refine (expect_yes A.o.pw (s:=⟨#[61]⟩) a7 π).mono ?_
   rintro _ W8 ⟨rfl,s,p⟩
   replace A:=Sw.n A s p
   clear s p H5 a7
   go_wp2_with fail
   cases m10:m (((r).tail).tail) with
   | out=>exact absurd (H9.o.trans (bd_out m10)) HN.o
   | bad q13 =>
    refine (Said.bad (HX.o) A.o.pw m10).mono ?_
    rintro _ W11 ⟨rfl,s⟩
    exact⟨rfl,Sw.bd A s (H9.o.trans (bd_bad m10))⟩
   | ok x14 q13 =>
    obtain⟨H12,Z15,Y16⟩:=zd3 (H9.o.trans (bd_ok m10)) (Sw.ge A) (A.o.lo.2.2.2)
    refine (Said.ok (HX.o) A.o.pw m10).mono ?_
    rintro _ W11 ⟨_,rfl,⟨k17,s18,n19,p20,D21,l22,c23,rfl,hnd⟩,s,p⟩
    replace A:=Sw.nd A s p hnd
    clear s p hnd m10 H9
    go_wp2_with fail
    have Z24:=η (Sw.ge A)
    replace A:=Sw.al A ((cl k17 s18 n19 p20 D21 l22 c23)).toArray
    refine (node_any _ _ _ _ _ _ _ _).mono ?_
    rintro _ W25 ⟨rfl,b⟩
    replace A:=Sw.bel A b
    clear b
    have E:=Sw.e A (k:=28) (s:=(wrd (r))) (n:=0) (p:=(offP c.e (r))) (D:=(some ⟨W11.heap.size,0,none⟩)) (l:=1) (cap:=1) (a:=.mk 28 (wrd (r)) 0 (offP c.e (r)) [x14]) fun X hx k=>NdR.of ⟨by unfold i64;omega,(by unfold i64;omega),TX2.o.2.2.2.2⟩ TS6.o (kid1 (k.2) Z24.o (NdR.lo k.1.2 Z15.o) rfl)
    have O:=setRow_heap _ _ _ (cl 28 (wrd (r)) 0 (offP c.e (r)) (some ⟨W11.heap.size,0,none⟩) 1 1).toArray _ _ (A.o.bx rfl)
    go_wp2_with (refine wpList_store_row rfl 83 _ _ rfl w.heap.size (cl 28 (wrd (r)) 0 (offP c.e (r)) (some ⟨W11.heap.size,0,none⟩) 1 1).toArray rfl rfl 83 _ (A.o.bx rfl) Δ rfl (by simp[Value.oneCell']) ?_)
    exact bodyPost_ret (results_cell_row results139 _ _ w.heap.size 83 _ _ _ rfl O underlying83 rfl Δ) rfl (by rw[H12.o];exact E.o)
theorem args_said (c:Cx) (h:Bool) {m:M Nd} [hS:Suf m] (HE:Said 181 #[.pointer (some ⟨c.pb,0,none⟩)] c false NdV m) {n:Nat} (hn:n≤1000000000):Said 140 #[.pointer (some ⟨c.pb,0,none⟩)] c h (RowV (n+1)) (argsP m n):=fun w r k hne=>by
 have LS:=η (list_said (F:=181) (c:=c) (h:=h) (m:=m) (s:=⟨#[41]⟩) (n:=n) (fun _ _=>by kernel_rfl) hS HE π hn)
 clear HE
 have TX:=η k.tx
 have A:=Sw.s0 k
 obtain⟨R,hR⟩:∃R,R=argsP m n r:=⟨_,rfl⟩
 rw[←hR] at hne ⊢
 obtain⟨io,hio,hiz,his,hib⟩:=info_parts info_83
 have HIO:=η (And.intro hio (And.intro hiz (And.intro his hib)))
 clear hio hiz his hib
 have HMF:=hmf
 obtain⟨HN,HR⟩:=zd2 hne hR
 clear hR hne k
 go_in
 go_wp2_with fail
 cases a1:(wl (r)==[40]) with
 | false =>
  refine (expect_no A.o.pw (s:=⟨#[40]⟩) a1).mono ?_
  rintro _ W2 ⟨rfl,s⟩
  exact⟨rfl,Sw.bd A s (HR.o.trans (bd_bad (exp_f a1)))⟩
 | true =>
  have H3:=η (HR.o.trans (bd_ok (exp_t a1)))
  refine (expect_yes A.o.pw (s:=⟨#[40]⟩) a1 π).mono ?_
  rintro _ W2 ⟨rfl,s,p⟩
  replace A:=Sw.n A s p
  clear s p HR a1
  go_wp2_with fail
  cases m4:listP [41] m n ((r).tail) with
  | out=>exact absurd (H3.o.trans m4) HN.o
  | bad q7 =>
   refine (Said.bad (LS.o) A.o.pw m4).mono ?_
   rintro _ W5 ⟨rfl,s⟩
   exact⟨rfl,Sw.bd A s (H3.o.trans m4)⟩
  | ok x8 q7 =>
   obtain⟨H6,Z9,Y10⟩:=zd3 (H3.o.trans m4) (Sw.ge A) (A.o.lo.2.2.2)
   refine (Said.ok (LS.o) A.o.pw m4).mono ?_
   rintro _ W5 ⟨_,rfl,hrow,s,p⟩
   obtain⟨Ar11,cr12,rfl⟩:=hrow.form
   have HL13:=η (hrow.1)
   replace A:=Sw.rw A s p hrow
   clear s p hrow m4 H3
   go_wp2_with fail
   have V:=RowX.v (b:=n+1) (Sw.now A).2 Z9.o (HL13.o)
   go_ret
   rw[H6.o]
   exact⟨_,rfl,V,A.o.st,A.o.pw⟩
theorem function_said (c:Cx) (h:Bool) {m:M Nd} (HE:Said 181 #[.pointer (some ⟨c.pb,0,none⟩)] c h NdV m) {n:Nat} (hn:n≤1000000000):Said 145 #[.pointer (some ⟨c.pb,0,none⟩)] c h (RowV (n+3)) (functionP c.e m n):=fun w r k hne=>by
 have HX:=η HE
 clear HE
 have TX:=η k.tx
 have A:=Sw.s0 k
 obtain⟨R,hR⟩:∃R,R=functionP c.e m n r:=⟨_,rfl⟩
 rw[←hR] at hne ⊢
 obtain⟨io,hio,hiz,his,hib⟩:=info_parts info_83
 have HIO:=η (And.intro hio (And.intro hiz (And.intro his hib)))
 clear hio hiz his hib
 have HMF:=hmf
 obtain⟨HN,HR⟩:=zd2 hne hR
 clear hR hne k
 go_in
 go_wp2_with fail
 cases m1:fieldsP c.e n (r) with
 | out=>exact absurd (HR.o.trans (bd_out m1)) HN.o
 | bad q4 =>
  refine (Said.bad (fields_said c h hn) A.o.pw m1).mono ?_
  rintro _ W2 ⟨rfl,s⟩
  exact⟨rfl,Sw.bd A s (HR.o.trans (bd_bad m1))⟩
 | ok x5 q4 =>
  obtain⟨H3,Z6,Y7⟩:=zd3 (HR.o.trans (bd_ok m1)) (Sw.ge A) (A.o.lo.2.2.2)
  refine (Said.ok (fields_said c h hn) A.o.pw m1).mono ?_
  rintro _ W2 ⟨_,rfl,hrow,s,p⟩
  obtain⟨Ar8,cr9,rfl⟩:=hrow.form
  have HL10:=η (hrow.1)
  replace A:=Sw.rw A s p hrow
  clear s p hrow m1 HR
  go_wp2_with fail
  cases a11:(wl (q4)==[58]) with
  | false =>
   refine (expect_no A.o.pw (s:=⟨#[58]⟩) a11).mono ?_
   rintro _ W12 ⟨rfl,s⟩
   exact⟨rfl,Sw.bd A s (H3.o.trans (bd_bad (exp_f a11)))⟩
  | true =>
   have H13:=η (H3.o.trans (bd_ok (exp_t a11)))
   refine (expect_yes A.o.pw (s:=⟨#[58]⟩) a11 π).mono ?_
   rintro _ W12 ⟨rfl,s,p⟩
   replace A:=Sw.n A s p
   clear s p H3 a11
   go_wp2_with fail
   cases m14:typP c.e n ((q4).tail) with
   | out=>exact absurd (H13.o.trans (bd_out m14)) HN.o
   | bad q17 =>
    refine (Said.bad (typ_said c n hn h) A.o.pw m14).mono ?_
    rintro _ W15 ⟨rfl,s⟩
    exact⟨rfl,Sw.bd A s (H13.o.trans (bd_bad m14))⟩
   | ok x18 q17 =>
    obtain⟨H16,Z19,Y20,RL21⟩:=zd4 (H13.o.trans (bd_ok m14)) (Sw.ge A) (A.o.lo.2.2.2) (RowX.lt (Sw.now A).2)
    refine (Said.ok (typ_said c n hn h) A.o.pw m14).mono ?_
    rintro _ W15 ⟨_,rfl,⟨k22,s23,n24,p25,D26,l27,c28,rfl,hnd⟩,s,p⟩
    replace A:=Sw.nd A s p hnd
    clear s p hnd m14 H13
    obtain⟨_,_,xs32,ho,hr⟩:=(Sw.now A).1.2
    obtain⟨HO29,HRW30,HD31⟩:=zd3 ho hr ((Sw.now A).2)
    clear ho hr
    go_wp2_with (first|(at_builtin;refine wpList_append_own_at _ rfl (.tmp 8) (.tmp 11) 81 rfl w.heap.size 83 io _ 5 64 underlying81 HIO.o.1 HIO.o.2.1 HIO.o.2.2.1 HIO.o.2.2.2 rfl π (.slice Ar8 (x5.length) cr9) (x5.length) xs32 rfl (row_al HO29.o _) ⟨W15.heap.size,0,none⟩ 1 1 (cl k22 s23 n24 p25 D26 l27 c28) rfl rfl (World.news_of_block (Hs.new _ _ _)) (by intro u hu;simp at hu;repeat (first|(subst hu;rfl)|(rcases hu with rfl|hu;rfl))) (by have:=HL10.o;unfold maxLen;omega) (by have:=HL10.o;omega) (sz_al (RowX.lt (Sw.now A).1.2).1 _) ?_;intro vv W35 hown hgrow hnil hvb;obtain⟨Ar33,cr34,rfl⟩:=row_form hown;replace A:=Sw.push A hgrow hvb hown (by simp<;>omega) HRW30.o HD31.o rfl RL21.o Y7.o;clear hown hgrow hnil hvb))
    cases a37:(wl (q17)==[61]) with
    | false =>
     refine (expect_no A.o.pw (s:=⟨#[61]⟩) a37).mono ?_
     rintro _ W38 ⟨rfl,s⟩
     exact⟨rfl,Sw.bd A s (H16.o.trans (bd_bad (exp_f a37)))⟩
    | true =>
     have H39:=η (H16.o.trans (bd_ok (exp_t a37)))
     refine (expect_yes A.o.pw (s:=⟨#[61]⟩) a37 π).mono ?_
     rintro _ W38 ⟨rfl,s,p⟩
     replace A:=Sw.n A s p
     clear s p H16 a37
     go_wp2_with fail
     cases m40:m ((q17).tail) with
     | out=>exact absurd (H39.o.trans (bd_out m40)) HN.o
     | bad q43 =>
      refine (Said.bad (HX.o) A.o.pw m40).mono ?_
      rintro _ W41 ⟨rfl,s⟩
      exact⟨rfl,Sw.bd A s (H39.o.trans (bd_bad m40))⟩
     | ok x44 q43 =>
      obtain⟨H42,Z45,Y46,RL47⟩:=zd4 (H39.o.trans (bd_ok m40)) (Sw.ge A) (A.o.lo.2.2.2) (RowX.lt (Sw.now A))
      refine (Said.ok (HX.o) A.o.pw m40).mono ?_
      rintro _ W41 ⟨_,rfl,⟨k48,s49,n50,p51,D52,l53,c54,rfl,hnd⟩,s,p⟩
      replace A:=Sw.nd A s p hnd
      clear s p hnd m40 H39
      obtain⟨_,_,xs58,ho,hr⟩:=(Sw.now A).1
      simp only[List.length_append,List.length_cons,List.length_nil,Nat.zero_add] at ho
      obtain⟨HO55,HRW56,HD57⟩:=zd3 ho hr ((Sw.now A).2)
      clear ho hr
      go_wp2_with (first|(at_builtin;refine wpList_append_own_at _ rfl (.tmp 15) (.tmp 18) 81 rfl w.heap.size 83 io _ 5 64 underlying81 HIO.o.1 HIO.o.2.1 HIO.o.2.2.1 HIO.o.2.2.2 rfl π (.slice Ar33 (x5.length+1) cr34) (x5.length+1) xs58 rfl (row_al HO55.o _) ⟨W41.heap.size,0,none⟩ 1 1 (cl k48 s49 n50 p51 D52 l53 c54) rfl rfl (World.news_of_block (Hs.new _ _ _)) (by intro u hu;simp at hu;repeat (first|(subst hu;rfl)|(rcases hu with rfl|hu;rfl))) (by have:=HL10.o;unfold maxLen;omega) (by have:=HL10.o;omega) (sz_al (RowX.lt (Sw.now A).1).1 _) ?_;intro vv W61 hown hgrow hnil hvb;obtain⟨Ar59,cr60,rfl⟩:=row_form hown;replace A:=Sw.push A hgrow hvb hown (by simp<;>omega) HRW56.o HD57.o rfl RL47.o Y7.o;clear hown hgrow hnil hvb))
      have V:=RowX.v (b:=n+3) (Sw.now A) Z6.o (by have:=HL10.o;simp;omega)
      simp only[List.append_assoc,List.cons_append,List.nil_append] at V
      go_ret
      rw[H42.o]
      exact⟨_,rfl,V,A.o.st,A.o.pw⟩
end
end Go.Proofs.YtbmknjfgjphfbaaGreatDoor
