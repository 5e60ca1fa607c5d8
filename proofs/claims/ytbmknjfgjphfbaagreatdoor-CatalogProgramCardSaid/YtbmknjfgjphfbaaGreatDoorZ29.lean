import Derived.Test.YtbmknjfgjphfbaaGreatDoorZ28
set_option linter.all false
namespace Go.Proofs.YtbmknjfgjphfbaaGreatDoor
open Proofs.Tryz RowKit Maps WideMaps ChangeMaps
set_option maxRecDepth 100000
set_option maxHeartbeats 8000000
theorem exp_35 {k:Nat} (H:AllS k) (s:Ê) (n p:Int) (a:List Nd) (A:Option Addr) (cap d:Nat) (w:À) (hd:d+(k+1)=41) (hs:s.size≤maxLen) (hn:NdR w (lo w) (cl 35 s n p A a.length cap) (.mk 35 s n p a)):Calls prog 107 #[.agg (cl 35 s n p A a.length cap).toArray,.int .i64 (d:Int)] w (EqSaid ((levP s.data.toList).isSome&&(n==0)&&serB (shp k) a [.exp,.exp]) w):=by
 have ha:=nd_kids hn
 have lm:a.length≤9223372036854775807:=ha.len.2
 have lc:a.length≤cap:=ha.cap
 have hd2:(d+1)+k=41:=by omega
 obtain⟨HH,HN,HA,HS0,HD⟩:=zd5 H hn ha hs hd2
 obtain⟨HW,HW2,HW3⟩:=dw5 d ω
 have u0:decide ((40:Int)<(d:Int))=false:=decide_eq_false ω
 obtain⟨W1,hW1,B0,Y0,x0,x1,x2,x3,x4⟩:=nb5 w 35 s n p A a.length cap
 have z0:=belW x0;have z1:=belW x1;have z2:=belW x2;have z3:=belW x3;have z4:=belW x4
 obtain⟨q1,h1⟩:∃q,(levP s.data.toList).isSome=q:=⟨_,rfl⟩
 obtain⟨q2,u2⟩:∃q,(n==0)=q:=⟨_,rfl⟩
 obtain⟨q3,h3⟩:∃q,serB (shp k) a [.exp,.exp]=q:=⟨_,rfl⟩
 rw[h1,u2,h3]
 obtain⟨H1,H3⟩:=zd2 h1 h3
 clear hd hd2 hs hn ha h1 h3
 go_in
 go_upto_region 1 with fail
 rw[←hW1.o]
 clear hW1
 go_upto_region 28 with fail
 clear x0 x1 x2 x3 x4
 refine tkB (fun X=>Below W1.heap.size W1 X) (belDr W1) (fun HS=>?_)
 generalize W1.drew=X0 at HS ⊢
 refine θ ?_
 refine tkE 0 (fun K hK=>?_)
 go_simp
 refine (operators_any _).mono ?_
 rintro _ X1 ⟨mb,nb,rfl,hb,_,hmb,hm⟩
 have HS:=bel HS hb
 have hlk:(Instr.lookup 90 (.map (some mb)) (.string s) true).run prog X1=.ok (.tuple #[((levP s.data.toList).map fun n=>Value.int .i64 (n:Int)).getD (.int .i64 0),.bool q1]) X1:=(levs_look hm HS0.o).trans (by rw[←H1.o];cases levP s.data.toList<;>rfl)
 clear hb hm
 refine tkR hK HS (fun _=>?_)
 clear hK K
 refine tkE 3 (fun K hK=>?_)
 go_simp
 refine tkR hK HS (fun _=>?_)
 clear hK K hlk
 refine θ ?_
 refine tkD ?_
 have HS:=η HS
 have y2:=z2 _ HS.o
 have y4:=z4 _ HS.o
 clear z0 z1 z2 z3 z4
 cases q1 with
 | false =>
  go_wp2
  go_ret
  exact⟨rfl,bel B0.o HS.o⟩
 | true =>
  cases q2 with
  | false =>
   go_wp2
   go_ret
   exact⟨rfl,bel B0.o HS.o⟩
  | true =>
   go_wp2_with (first|(go_at_call 154;(first|rw[HW.o]|rw[HW2.o]|rw[HW3.o]|skip);refine (saidEq (ser_call HH.o [.exp,.exp] π π HD.o (NdsR.to HA.o (sub_lo (bel B0.o HS.o)))) H3.o).mono ?_;rintro _ Z3 ⟨rfl,hb3⟩))
   go_ret
   exact⟨by cases q3<;>rfl,bel (bel B0.o HS.o) hb3⟩
theorem chg_70 {k:Nat} (H:AllS k) (s:Ê) (n p:Int) (a:List Nd) (A:Option Addr) (cap d:Nat) (w:À) (hd:d+(k+1)=41) (hs:s.size≤maxLen) (hn:NdR w (lo w) (cl 70 s n p A a.length cap) (.mk 70 s n p a)):Calls prog 64 #[.agg (cl 70 s n p A a.length cap).toArray,.int .i64 (d:Int)] w (EqSaid (if uppB s.data.toList=false∨(n≠0∧n≠1) then false else if n=1 then hdB (shp k) .upp a&&endB (shp k) a.tail .fld [.exp] else endB (shp k) a .fld [.exp]) w):=by
 have ha:=nd_kids hn
 have lm:a.length≤9223372036854775807:=ha.len.2
 have lc:a.length≤cap:=ha.cap
 have hd2:(d+1)+k=41:=by omega
 obtain⟨HH,HN,HA,HS0,HD⟩:=zd5 H hn ha hs hd2
 obtain⟨HW,HW2,HW3⟩:=dw5 d ω
 have u0:decide ((40:Int)<(d:Int))=false:=decide_eq_false ω
 obtain⟨W1,hW1,B0,Y0,x0,x1,x2,x3,x4⟩:=nb5 w 70 s n p A a.length cap
 have z0:=belW x0;have z1:=belW x1;have z2:=belW x2;have z3:=belW x3;have z4:=belW x4
 obtain⟨tot,hV⟩:∃z,(if uppB s.data.toList=false∨(n≠0∧n≠1) then false else if n=1 then hdB (shp k) .upp a&&endB (shp k) a.tail .fld [.exp] else endB (shp k) a .fld [.exp])=z:=⟨_,rfl⟩
 have HV:=η hV.symm
 rw[hV]
 obtain⟨q1,h1⟩:∃q,uppB s.data.toList=q:=⟨_,rfl⟩
 have H1:=η h1
 clear hd hd2 hs hn ha hV
 go_in
 go_upto_region 1 with fail
 rw[←hW1.o]
 clear hW1
 cases q1 with
 | false =>
  have HQ:Hid (tot=false):=HV.o.trans (if_pos (.inl h1))
  clear h1
  go_wp2_with (first|(go_at_call 100;refine (saidEq (pred_said p_uppB s _ HS0.o) H1.o).mono ?_;rintro _ Z1 ⟨rfl,hb1⟩))
  go_ret
  exact⟨by rw[HQ.o];rfl,bel B0.o hb1⟩
 | true =>
  by_cases c0:n=0
  · subst c0
    have HQ:Hid (tot=endB (shp k) a .fld [.exp]):=HV.o.trans ((if_neg (by simp[h1])).trans (if_neg π))
    clear h1
    go_wp2_with (first|(go_at_call 100;refine (saidEq (pred_said p_uppB s _ HS0.o) H1.o).mono ?_;rintro _ Z1 ⟨rfl,hb1⟩;obtain⟨B1,Y1⟩:=zd2 (bel B0.o hb1) (hs_bel Y0.o hb1);have y2:Z1.cell? ⟨w.heap.size,2,none⟩=some (.int .i64 0):=Y1.o.c 2;have y4:Z1.cell? ⟨w.heap.size,4,none⟩=some (.slice A a.length cap):=Y1.o.c 4)|(go_at_call 105;(first|rw[HW.o]|rw[HW2.o]|rw[HW3.o]|skip);refine (saidEq (end_call HH.o .fld rfl [.exp] π π HD.o (NdsR.to HA.o (sub_lo B1.o))) HQ.o.symm).mono ?_;rintro _ Z2 ⟨rfl,hb2⟩))
    go_ret
    exact⟨rfl,bel B1.o hb2⟩
  · have v0:(n != 0)=true:=bne_iff_ne.2 c0
    by_cases c1:n=1
    · subst c1
      have HV2:Hid (tot=(hdB (shp k) .upp a&&endB (shp k) a.tail .fld [.exp])):=HV.o.trans ((if_neg (by simp[h1])).trans (if_pos rfl))
      clear h1 c0 v0
      go_upto_region 9 with (first|(go_at_call 100;refine (saidEq (pred_said p_uppB s _ HS0.o) H1.o).mono ?_;rintro _ Z1 ⟨rfl,hb1⟩;obtain⟨B1,Y1⟩:=zd2 (bel B0.o hb1) (hs_bel Y0.o hb1);have y2:Z1.cell? ⟨w.heap.size,2,none⟩=some (.int .i64 1):=Y1.o.c 2;have y4:Z1.cell? ⟨w.heap.size,4,none⟩=some (.slice A a.length cap):=Y1.o.c 4))
      clear x0 x1 x2 x3 x4 z0 z1 z2 z3 z4
      have z2:=belW y2;have z4:=belW y4
      clear y2 y4 hb1
      by_cases hlen:0<a.length
      · skip
        obtain⟨b0,off0,k1,s1,m1,p1,D1,l1,c1,hA0,hg0,hr0,e0,e1,e2,e3,e4⟩:=nds_at (NdsR.to HA.o (sub_lo B1.o)) hlen
        simp only[Nat.zero_mul,Nat.add_zero] at e0 e1 e2 e3 e4
        have HR:=η hr0
        have f0:=belW e0;have f1:=belW e1;have f2:=belW e2;have f3:=belW e3;have f4:=belW e4
        have j1:(0:Int)<(a.length:Int):=by omega
        have u5:decide ((0:Int)<(a.length:Int))=true:=decide_eq_true j1
        have hsl:∀W,(Instr.slice 81 (.slice A a.length cap) (some (.int .i64 1)) none none).run prog W=.ok (.slice (fromA A cap 1 5) (a.length-1) (cap-1)) W:=fun W=>run_from22 W A _ _ 1 hlen
        have HA2:Hid (NdsR Z1 (lo Z1) (.slice (fromA A cap 1 5) (a.length-1) (cap-1)) (a.drop 1)):=NdsR.from (NdsR.to HA.o (sub_lo B1.o)) 1 hlen
        have HL1:Hid ((a.drop 1).length=a.length-1):=List.length_drop
        clear e0 e1 e2 e3 e4 hg0 hr0
        subst hA0
        obtain⟨q2,h2⟩:∃q,shp k (.leaf 24 .upp) a[0]=q:=⟨_,rfl⟩
        obtain⟨q3,h3⟩:∃q,endB (shp k) (a.drop 1) .fld [.exp]=q:=⟨_,rfl⟩
        have HQ:Hid (tot=(q2&&q3)):=by
         show _=_
         rw[HV2.o,←h2,←h3]
         cases a with
         | nil=>simp at hlen
         | cons x r=>rfl
        obtain⟨H2,H3⟩:=zd2 h2 h3
        clear h2 h3
        refine tkB (fun X=>Below Z1.heap.size Z1 X) (belDr Z1) (fun HS=>?_)
        generalize Z1.drew=X0 at HS ⊢
        refine θ ?_
        refine tkE 5 (fun K hK=>?_)
        go_simp
        refine (leaf_any 24 100 _).mono ?_
        rintro _ X2 ⟨rfl,hL⟩
        have HS:=bel HS hL.2.2
        refine tkR hK HS (fun _=>?_)
        clear hK K
        refine tkE 11 (fun K hK=>?_)
        go_simp
        (first|rw[HW.o]|rw[HW2.o]|rw[HW3.o]|skip)
        refine (saidEq ((leaf_fv k 24 .upp hL).c X2 (cl k1 s1 m1 p1 D1 l1 c1) _ (d+1) (Below.refl _ _) HD.o (NdR.to HR.o (sub_lo HS))) H2.o).mono ?_
        cases q2 with
        | false =>
         rintro _ X3 ⟨rfl,hb⟩
         have HS:=bel HS hb
         clear hb
         refine tkR hK HS (fun _=>?_)
         clear hK K
         refine θ ?_
         refine tkD ?_
         have HS:=η HS
         go_wp2
         go_ret
         exact⟨by rw[HQ.o];rfl,bel B1.o HS.o⟩
        | true =>
         rintro _ X3 ⟨rfl,hb⟩
         have HS:=bel HS hb
         clear hb
         refine tkR hK HS (fun _=>?_)
         clear hK K
         refine θ ?_
         refine tkE 18 (fun K hK=>?_)
         go_simp
         have HSX:=η HS;have HS:=belA HS (.cells #[Sh.fv .exp] 209)
         refine tkR hK HS (fun _=>?_)
         clear hK K
         refine tkE 19 (fun K hK=>?_)
         go_simp
         (first|rw[HW.o]|rw[HW2.o]|rw[HW3.o]|skip)
         have C:=end_call HH.o .fld rfl [.exp] π π (a:=a.drop 1) (A:=fromA (some ⟨b0,off0,none⟩) cap 1 5) (cap:=cap-1) (X:=X3) HD.o (by rw[HL1.o];exact NdsR.to HA2.o (sub_lo HSX.o))
         rw[HL1.o] at C
         refine (saidEq C H3.o).mono ?_
         rintro _ X4 ⟨rfl,hb⟩
         have HS:Below Z1.heap.size Z1 X4:=bel HSX.o hb
         clear hb C
         refine tkR hK HS (fun _=>?_)
         clear hK K
         cases q3
         · skip
           refine θ ?_
           refine tkD ?_
           have HS:=η HS
           go_wp2
           go_ret
           exact⟨by rw[HQ.o];rfl,bel B1.o HS.o⟩
         · skip
           refine θ ?_
           refine tkD ?_
           have HS:=η HS
           go_wp2
           go_ret
           exact⟨by rw[HQ.o];rfl,bel B1.o HS.o⟩
      · skip
        have u5:decide ((0:Int)<(a.length:Int))=false:=decide_eq_false ω
        have u6:decide (0<a.length)=false:=decide_eq_false hlen
        have HQ:Hid (tot=false):=by
         show _=_
         rw[HV2.o]
         cases a with
         | nil=>rfl
         | cons x r=>simp at hlen
        refine tkB (fun X=>Below Z1.heap.size Z1 X) (belDr Z1) (fun HS=>?_)
        generalize Z1.drew=X0 at HS ⊢
        refine θ ?_
        refine tkD ?_
        have HS:=η HS
        go_wp2
        go_ret
        exact⟨by rw[HQ.o];rfl,bel B1.o HS.o⟩
    · have v1:(n != 1)=true:=bne_iff_ne.2 c1
      have HQ:Hid (tot=false):=HV.o.trans (if_pos (.inr ⟨c0,c1⟩))
      replace c0:=η c0;replace c1:=η c1
      clear h1
      go_wp2_with (first|(go_at_call 100;refine (saidEq (pred_said p_uppB s _ HS0.o) H1.o).mono ?_;rintro _ Z1 ⟨rfl,hb1⟩;obtain⟨B1,Y1⟩:=zd2 (bel B0.o hb1) (hs_bel Y0.o hb1);have y2:Z1.cell? ⟨w.heap.size,2,none⟩=some (.int .i64 n):=Y1.o.c 2;have y4:Z1.cell? ⟨w.heap.size,4,none⟩=some (.slice A a.length cap):=Y1.o.c 4))
      go_ret
      exact⟨by rw[HQ.o];rfl,B1.o⟩
theorem chg_72 {k:Nat} (H:AllS k) (s:Ê) (n p:Int) (a:List Nd) (A:Option Addr) (cap d:Nat) (w:À) (hd:d+(k+1)=41) (hs:s.size≤maxLen) (hn:NdR w (lo w) (cl 72 s n p A a.length cap) (.mk 72 s n p a)):Calls prog 64 #[.agg (cl 72 s n p A a.length cap).toArray,.int .i64 (d:Int)] w (EqSaid ((uppB (ndT (Nd.mk 72 s n p a))&&ndN (Nd.mk 72 s n p a)==0)&&hdB (shp k) .msg a&&endB (shp k) a.tail .fld [.ans]) w):=by
 have ha:=nd_kids hn
 have lm:a.length≤9223372036854775807:=ha.len.2
 have lc:a.length≤cap:=ha.cap
 have hd2:(d+1)+k=41:=by omega
 obtain⟨HH,HN,HA,HS0,HD⟩:=zd5 H hn ha hs hd2
 obtain⟨HW,HW2,HW3⟩:=dw5 d ω
 have u0:decide ((40:Int)<(d:Int))=false:=decide_eq_false ω
 obtain⟨W1,hW1,B0,Y0,x0,x1,x2,x3,x4⟩:=nb5 w 72 s n p A a.length cap
 have z0:=belW x0;have z1:=belW x1;have z2:=belW x2;have z3:=belW x3;have z4:=belW x4
 obtain⟨tot,hV⟩:∃z,((uppB (ndT (Nd.mk 72 s n p a))&&ndN (Nd.mk 72 s n p a)==0)&&hdB (shp k) .msg a&&endB (shp k) a.tail .fld [.ans])=z:=⟨_,rfl⟩
 rw[hV]
 obtain⟨q1,h1⟩:∃q,(uppB (ndT (Nd.mk 72 s n p a))&&ndN (Nd.mk 72 s n p a)==0)=q:=⟨_,rfl⟩
 have HV:Hid (tot=(q1&&hdB (shp k) .msg a&&endB (shp k) a.tail .fld [.ans])):=by show _=_;rw[←hV,h1]
 have H1:=η h1
 clear hd hd2 hs hn ha hV h1
 go_in
 go_upto_region 1 with fail
 rw[←hW1.o]
 clear hW1
 go_upto_region 17 with fail
 clear x0 x1 x2 x3 x4
 by_cases hlen:0<a.length
 · skip
   obtain⟨b0,off0,k1,s1,m1,p1,D1,l1,c1,hA0,hg0,hr0,e0,e1,e2,e3,e4⟩:=nds_at (NdsR.to HA.o (sub_lo B0.o)) hlen
   simp only[Nat.zero_mul,Nat.add_zero] at e0 e1 e2 e3 e4
   have HR:=η hr0
   have f0:=belW e0;have f1:=belW e1;have f2:=belW e2;have f3:=belW e3;have f4:=belW e4
   have j1:(0:Int)<(a.length:Int):=by omega
   have u5:decide ((0:Int)<(a.length:Int))=true:=decide_eq_true j1
   have hsl:∀W,(Instr.slice 81 (.slice A a.length cap) (some (.int .i64 1)) none none).run prog W=.ok (.slice (fromA A cap 1 5) (a.length-1) (cap-1)) W:=fun W=>run_from22 W A _ _ 1 hlen
   have HA2:Hid (NdsR W1 (lo W1) (.slice (fromA A cap 1 5) (a.length-1) (cap-1)) (a.drop 1)):=NdsR.from (NdsR.to HA.o (sub_lo B0.o)) 1 hlen
   have HL1:Hid ((a.drop 1).length=a.length-1):=List.length_drop
   clear e0 e1 e2 e3 e4 hg0 hr0
   subst hA0
   obtain⟨q2,h2⟩:∃q,shp k (.leaf 24 .msg) a[0]=q:=⟨_,rfl⟩
   obtain⟨q3,h3⟩:∃q,endB (shp k) (a.drop 1) .fld [.ans]=q:=⟨_,rfl⟩
   have HQ:Hid (tot=(q1&&q2&&q3)):=by
    show _=_
    rw[HV.o,←h2,←h3]
    cases a with
    | nil=>simp at hlen
    | cons x r=>rfl
   obtain⟨H2,H3⟩:=zd2 h2 h3
   clear h2 h3
   refine tkB (fun X=>Below W1.heap.size W1 X) (belDr W1) (fun HS=>?_)
   generalize W1.drew=X0 at HS ⊢
   refine θ ?_
   refine tkE 1 (fun K hK=>?_)
   go_simp
   refine (saidEq (named_any p_uppB _ _ _ (NdR.to HN.o (sub_lo (bel B0.o HS)))) H1.o).mono ?_
   cases q1 with
   | false =>
    rintro _ X1 ⟨rfl,hb⟩
    have HS:=bel HS hb
    clear hb
    refine tkR hK HS (fun _=>?_)
    clear hK K
    refine θ ?_
    refine tkD ?_
    have HS:=η HS
    go_wp2
    go_ret
    exact⟨by rw[HQ.o];rfl,bel B0.o HS.o⟩
   | true =>
    rintro _ X1 ⟨rfl,hb⟩
    have HS:=bel HS hb
    clear hb
    refine tkR hK HS (fun _=>?_)
    clear hK K
    refine θ ?_
    refine tkE 9 (fun K hK=>?_)
    go_simp
    refine (leaf_any 24 111 _).mono ?_
    rintro _ X2 ⟨rfl,hL⟩
    have HS:=bel HS hL.2.2
    refine tkR hK HS (fun _=>?_)
    clear hK K
    refine tkE 15 (fun K hK=>?_)
    go_simp
    (first|rw[HW.o]|rw[HW2.o]|rw[HW3.o]|skip)
    refine (saidEq ((leaf_fv k 24 .msg hL).c X2 (cl k1 s1 m1 p1 D1 l1 c1) _ (d+1) (Below.refl _ _) HD.o (NdR.to HR.o (sub_lo HS))) H2.o).mono ?_
    cases q2 with
    | false =>
     rintro _ X3 ⟨rfl,hb⟩
     have HS:=bel HS hb
     clear hb
     refine tkR hK HS (fun _=>?_)
     clear hK K
     refine θ ?_
     refine tkD ?_
     have HS:=η HS
     go_wp2
     go_ret
     exact⟨by rw[HQ.o];rfl,bel B0.o HS.o⟩
    | true =>
     rintro _ X3 ⟨rfl,hb⟩
     have HS:=bel HS hb
     clear hb
     refine tkR hK HS (fun _=>?_)
     clear hK K
     refine θ ?_
     refine tkE 22 (fun K hK=>?_)
     go_simp
     have HSX:=η HS;have HS:=belA HS (.cells #[Sh.fv .ans] 209)
     refine tkR hK HS (fun _=>?_)
     clear hK K
     refine tkE 23 (fun K hK=>?_)
     go_simp
     (first|rw[HW.o]|rw[HW2.o]|rw[HW3.o]|skip)
     have C:=end_call HH.o .fld rfl [.ans] π π (a:=a.drop 1) (A:=fromA (some ⟨b0,off0,none⟩) cap 1 5) (cap:=cap-1) (X:=X3) HD.o (by rw[HL1.o];exact NdsR.to HA2.o (sub_lo HSX.o))
     rw[HL1.o] at C
     refine (saidEq C H3.o).mono ?_
     rintro _ X4 ⟨rfl,hb⟩
     have HS:Below W1.heap.size W1 X4:=bel HSX.o hb
     clear hb C
     refine tkR hK HS (fun _=>?_)
     clear hK K
     cases q3
     · skip
       refine θ ?_
       refine tkD ?_
       have HS:=η HS
       go_wp2
       go_ret
       exact⟨by rw[HQ.o];rfl,bel B0.o HS.o⟩
     · skip
       refine θ ?_
       refine tkD ?_
       have HS:=η HS
       go_wp2
       go_ret
       exact⟨by rw[HQ.o];rfl,bel B0.o HS.o⟩
 · skip
   have u5:decide ((0:Int)<(a.length:Int))=false:=decide_eq_false ω
   have HQ:Hid (tot=false):=by
    show _=_
    rw[HV.o]
    cases a with
    | nil=>cases q1<;>rfl
    | cons x r=>simp at hlen
   have u6:decide (0<a.length)=false:=decide_eq_false hlen
   refine tkB (fun X=>Below W1.heap.size W1 X) (belDr W1) (fun HS=>?_)
   generalize W1.drew=X0 at HS ⊢
   refine θ ?_
   refine tkE 1 (fun K hK=>?_)
   go_simp
   refine (saidEq (named_any p_uppB _ _ _ (NdR.to HN.o (sub_lo (bel B0.o HS)))) H1.o).mono ?_
   cases q1 with
   | false =>
    rintro _ X1 ⟨rfl,hb⟩
    have HS:=bel HS hb
    clear hb
    refine tkR hK HS (fun _=>?_)
    clear hK K
    refine θ ?_
    refine tkD ?_
    have HS:=η HS
    go_wp2
    go_ret
    exact⟨by rw[HQ.o];rfl,bel B0.o HS.o⟩
   | true =>
    rintro _ X1 ⟨rfl,hb⟩
    have HS:=bel HS hb
    clear hb
    refine tkR hK HS (fun _=>?_)
    clear hK K
    refine θ ?_
    refine tkD ?_
    have HS:=η HS
    go_wp2
    go_ret
    exact⟨by rw[HQ.o];rfl,bel B0.o HS.o⟩
theorem lead_le:∀a:List Nd,leadB a≤a.length
 | []=>Nat.le_refl _
 | x::a=>by rw[leadB];have:=lead_le a;split<;>simp<;>omega
theorem lead_at:∀(a:List Nd) (j:Nat) (h:j<a.length),j<leadB a→ndK a[j]=7
 | [],j,h,_=>by simp at h
 | x::a,0,_,hj=>by
  rw[leadB] at hj
  split at hj
  · rename_i h;exact h
  · exact absurd hj (Nat.lt_irrefl _)
 | x::a,j+1,h,hj=>by
  rw[leadB] at hj
  split at hj
  · exact lead_at a j (by simpa using h) ω
  · omega
theorem lead_end:∀(a:List Nd) (h:leadB a<a.length),ndK a[leadB a]≠7
 | [],h=>by simp at h
 | x::a,h=>by
  by_cases hx:ndK x=7
  · have e:leadB (x::a)=leadB a+1:=by rw[leadB,if_pos hx]
    simp only[e,List.getElem_cons_succ]
    exact lead_end a (by rw[e] at h;simpa using h)
  · have e:leadB (x::a)=0:=by rw[leadB,if_neg hx]
    simp only[e,List.getElem_cons_zero]
    exact hx
theorem nd_k {w:À} {P:Nat→Prop} {k n p:Int} {s:Ê} {A:Option Addr} {l cap:Nat} {t:Nd} (h:NdR w P (cl k s n p A l cap) t):ndK t=k:=by
 obtain⟨k0,s0,n0,p0,a0,A0,c0,e1,e2,_⟩:=nd_form h
 injection e1 with e1 _
 injection e1 with _ e1
 rw[e2,e1];rfl
theorem upto_call {k:Nat} (H:AllS k) (s:Sh) (hs:s.pl=true) {a:List Nd} {A:Option Addr} {cap d j:Nat} {X:À} (hd:d+k=41) (ha:NdsR X (lo X) (.slice A a.length cap) a) (hj:j≤a.length) :
 Calls prog 101 #[.slice A j cap,.int .i64 (d:Int),s.fv] X (EqSaid ((a.take j).all (shp k s)) X):=by
 have h:=all_call H s hs (a:=a.take j) (A:=A) (cap:=cap) (X:=X) hd (by rw[List.length_take,Nat.min_eq_left hj];exact NdsR.upto ha j hj)
 rw[List.length_take,Nat.min_eq_left hj] at h
 exact h
theorem from_call {k:Nat} (H:AllS k) (s:Sh) (hs:s.pl=true) {a:List Nd} {A:Option Addr} {cap d j:Nat} {X:À} (hd:d+k=41) (ha:NdsR X (lo X) (.slice A a.length cap) a) (hj:j≤a.length) :
 Calls prog 101 #[.slice (fromA A cap j 5) (a.length-j) (cap-j),.int .i64 (d:Int),s.fv] X (EqSaid ((a.drop j).all (shp k s)) X):=by
 have h:=all_call H s hs (a:=a.drop j) (A:=fromA A cap j 5) (cap:=cap-j) (X:=X) hd (by rw[List.length_drop];exact NdsR.from ha j hj)
 rw[List.length_drop] at h
 exact h
theorem dcl_6 {k:Nat} (H:AllS k) (s:Ê) (n p:Int) (a:List Nd) (A:Option Addr) (cap d:Nat) (w:À) (hd:d+(k+1)=41) (hs:s.size≤maxLen) (hn:NdR w (lo w) (cl 6 s n p A a.length cap) (.mk 6 s n p a)):Calls prog 63 #[.agg (cl 6 s n p A a.length cap).toArray,.int .i64 (d:Int)] w (EqSaid (uppB s.data.toList&&decide (-1≤n)&&decide (n≤9007199254740993)&&(a.take (leadB a)).all (shp k .fld)&&(a.drop (leadB a)).all (shp k .mem)) w):=by
 have ha:=nd_kids hn
 have lm:a.length≤9223372036854775807:=ha.len.2
 have lc:a.length≤cap:=ha.cap
 have hd2:(d+1)+k=41:=by omega
 obtain⟨HH,HN,HA,HS0,HD⟩:=zd5 H hn ha hs hd2
 obtain⟨HW,HW2,HW3⟩:=dw5 d ω
 have u0:decide ((40:Int)<(d:Int))=false:=decide_eq_false ω
 obtain⟨W1,hW1,B0,Y0,x0,x1,x2,x3,x4⟩:=nb5 w 6 s n p A a.length cap
 have z0:=belW x0;have z1:=belW x1;have z2:=belW x2;have z3:=belW x3;have z4:=belW x4
 obtain⟨tot,hV⟩:∃z,(uppB s.data.toList&&decide (-1≤n)&&decide (n≤9007199254740993)&&(a.take (leadB a)).all (shp k .fld)&&(a.drop (leadB a)).all (shp k .mem))=z:=⟨_,rfl⟩
 rw[hV]
 obtain⟨q1,h1⟩:∃q,(uppB s.data.toList)=q:=⟨_,rfl⟩
 obtain⟨q2,u2⟩:∃q,decide (-1≤n)=q:=⟨_,rfl⟩
 obtain⟨q3,u3⟩:∃q,decide (n≤9007199254740993)=q:=⟨_,rfl⟩
 obtain⟨q4,h4⟩:∃q,(a.take (leadB a)).all (shp k .fld)=q:=⟨_,rfl⟩
 obtain⟨q5,h5⟩:∃q,(a.drop (leadB a)).all (shp k .mem)=q:=⟨_,rfl⟩
 have HQ:Hid (tot=(q1&&q2&&q3&&q4&&q5)):=by show _=_;rw[←hV,h1,h4,h5,u2,u3]
 obtain⟨H1,H4,H5⟩:=zd3 h1 h4 h5
 have hll:=lead_le a
 have HLA:Hid (∀(j:Nat) (h:j<a.length),j<leadB a→ndK a[j]=7):=lead_at a
 have HLE:Hid (∀(h:leadB a<a.length),ndK a[leadB a]≠7):=lead_end a
 generalize leadB a=m at *
 clear hd hd2 hs hn ha hV h1 h4 h5 z0 z1 z2 z3 z4
 go_in
 go_upto_region 1 with fail
 rw[←hW1.o]
 clear hW1
 go_wp2_with fail
 go_loopw [6] (fun i wr=>∃(j:Nat),j≤m∧i=.int .i64 j∧wr=W1) (fun i _=>m-(intOf i).toNat)
 case atStart=>exact⟨0,by omega,rfl,rfl⟩
 case round =>
  obtain⟨j,hj,rfl,rfl⟩:=hrel
  by_cases hlt:j<m
  · have hla:j<a.length:=by omega
    have u1:decide ((j:Int)<(a.length:Int))=true:=decide_eq_true ω
    obtain⟨b,off,k1,s1,m1,p1,D1,l1,c1,rfl,hg,hr1,e0,e1,e2,e3,e4⟩:=nds_at (NdsR.to HA.o (sub_lo B0.o)) hla
    have v1:(k1==7)=true:=beq_iff_eq.2 ((nd_k hr1).symm.trans (HLA.o j hla hlt))
    have j0:(0:Int)≤(j:Int):=by omega
    have j1:(j:Int)<(a.length:Int):=by omega
    clear hr1 hg
    go_wp2_with fail
    exact⟨⟨j+1,by omega,by go_num,by first|exact rfl|trivial⟩,by simp[intOf];omega⟩
  · obtain rfl:j=m:=by omega
    clear hlt
    have hs1:∀W,(Instr.slice 81 (.slice A a.length cap) none (some (.int .i64 (j:Int))) none).run prog W=.ok (.slice A j cap) W:=fun W=>run_upto22 W A _ _ _ hll lc
    have hs2:∀W,(Instr.slice 81 (.slice A a.length cap) (some (.int .i64 (j:Int))) none none).run prog W=.ok (.slice (fromA A cap j 5) (a.length-j) (cap-j)) W:=fun W=>run_from22 W A _ _ _ hll
    by_cases hla:j<a.length
    · have u1:decide ((j:Int)<(a.length:Int))=true:=decide_eq_true ω
      obtain⟨b,off,k1,s1,m1,p1,D1,l1,c1,hA,hg,hr1,e0,e1,e2,e3,e4⟩:=nds_at (NdsR.to HA.o (sub_lo B0.o)) hla
      have v1:(k1==7)=false:=beq_eq_false_iff_ne.2 (fun e=>HLE.o hla ((nd_k hr1).trans e))
      have j0:(0:Int)≤(j:Int):=by omega
      have j1:(j:Int)<(a.length:Int):=by omega
      clear hr1 hg
      subst hA
      go_wp2_with fail
      cases q1 with
      | false =>
       refine (saidEq (pred_said p_uppB s _ HS0.o) H1.o).mono ?_
       rintro _ Z1 ⟨rfl,hb1⟩
       obtain⟨B1,Y1⟩:=zd2 (bel B0.o hb1) (hs_bel Y0.o hb1)
       clear hb1
       have y12:Z1.cell? ⟨w.heap.size,2,none⟩=some (.int .i64 n):=Y1.o.c 2
       have y14:Z1.cell? ⟨w.heap.size,4,none⟩=some (.slice (some ⟨b,off,none⟩) a.length cap):=Y1.o.c 4
       go_wp2
       go_ret
       exact⟨by rw[HQ.o];rfl,B1.o⟩
      | true =>
       cases q2 with
       | false =>
        refine (saidEq (pred_said p_uppB s _ HS0.o) H1.o).mono ?_
        rintro _ Z1 ⟨rfl,hb1⟩
        obtain⟨B1,Y1⟩:=zd2 (bel B0.o hb1) (hs_bel Y0.o hb1)
        clear hb1
        have y12:Z1.cell? ⟨w.heap.size,2,none⟩=some (.int .i64 n):=Y1.o.c 2
        have y14:Z1.cell? ⟨w.heap.size,4,none⟩=some (.slice (some ⟨b,off,none⟩) a.length cap):=Y1.o.c 4
        go_wp2
        go_ret
        exact⟨by rw[HQ.o];rfl,B1.o⟩
       | true =>
        cases q3 with
        | false =>
         refine (saidEq (pred_said p_uppB s _ HS0.o) H1.o).mono ?_
         rintro _ Z1 ⟨rfl,hb1⟩
         obtain⟨B1,Y1⟩:=zd2 (bel B0.o hb1) (hs_bel Y0.o hb1)
         clear hb1
         have y12:Z1.cell? ⟨w.heap.size,2,none⟩=some (.int .i64 n):=Y1.o.c 2
         have y14:Z1.cell? ⟨w.heap.size,4,none⟩=some (.slice (some ⟨b,off,none⟩) a.length cap):=Y1.o.c 4
         go_wp2
         go_ret
         exact⟨by rw[HQ.o];rfl,B1.o⟩
        | true =>
         refine (saidEq (pred_said p_uppB s _ HS0.o) H1.o).mono ?_
         rintro _ Z1 ⟨rfl,hb1⟩
         obtain⟨B1,Y1⟩:=zd2 (bel B0.o hb1) (hs_bel Y0.o hb1)
         clear hb1
         have y12:Z1.cell? ⟨w.heap.size,2,none⟩=some (.int .i64 n):=Y1.o.c 2
         have y14:Z1.cell? ⟨w.heap.size,4,none⟩=some (.slice (some ⟨b,off,none⟩) a.length cap):=Y1.o.c 4
         go_wp2_with fail
         cases q4 with
         | false =>
          (first|rw[HW.o]|rw[HW2.o]|rw[HW3.o]|skip)
          refine (saidEq (upto_call HH.o .fld rfl HD.o (NdsR.to HA.o (sub_lo B1.o)) hll) H4.o).mono ?_
          rintro _ Z4 ⟨rfl,hb4⟩
          obtain⟨B4,Y4⟩:=zd2 (bel B1.o hb4) (hs_bel Y1.o hb4)
          clear hb4
          have y42:Z4.cell? ⟨w.heap.size,2,none⟩=some (.int .i64 n):=Y4.o.c 2
          have y44:Z4.cell? ⟨w.heap.size,4,none⟩=some (.slice (some ⟨b,off,none⟩) a.length cap):=Y4.o.c 4
          go_wp2
          go_ret
          exact⟨by rw[HQ.o];rfl,B4.o⟩
         | true =>
          (first|rw[HW.o]|rw[HW2.o]|rw[HW3.o]|skip)
          refine (saidEq (upto_call HH.o .fld rfl HD.o (NdsR.to HA.o (sub_lo B1.o)) hll) H4.o).mono ?_
          rintro _ Z4 ⟨rfl,hb4⟩
          obtain⟨B4,Y4⟩:=zd2 (bel B1.o hb4) (hs_bel Y1.o hb4)
          clear hb4
          have y42:Z4.cell? ⟨w.heap.size,2,none⟩=some (.int .i64 n):=Y4.o.c 2
          have y44:Z4.cell? ⟨w.heap.size,4,none⟩=some (.slice (some ⟨b,off,none⟩) a.length cap):=Y4.o.c 4
          go_wp2_with fail
          cases q5 with
          | false =>
           (first|rw[HW.o]|rw[HW2.o]|rw[HW3.o]|skip)
           refine (saidEq (from_call HH.o .mem rfl HD.o (NdsR.to HA.o (sub_lo B4.o)) hll) H5.o).mono ?_
           rintro _ Z5 ⟨rfl,hb5⟩
           obtain⟨B5,Y5⟩:=zd2 (bel B4.o hb5) (hs_bel Y4.o hb5)
           clear hb5
           have y52:Z5.cell? ⟨w.heap.size,2,none⟩=some (.int .i64 n):=Y5.o.c 2
           have y54:Z5.cell? ⟨w.heap.size,4,none⟩=some (.slice (some ⟨b,off,none⟩) a.length cap):=Y5.o.c 4
           go_wp2
           go_ret
           exact⟨by rw[HQ.o];rfl,B5.o⟩
          | true =>
           (first|rw[HW.o]|rw[HW2.o]|rw[HW3.o]|skip)
           refine (saidEq (from_call HH.o .mem rfl HD.o (NdsR.to HA.o (sub_lo B4.o)) hll) H5.o).mono ?_
           rintro _ Z5 ⟨rfl,hb5⟩
           obtain⟨B5,Y5⟩:=zd2 (bel B4.o hb5) (hs_bel Y4.o hb5)
           clear hb5
           have y52:Z5.cell? ⟨w.heap.size,2,none⟩=some (.int .i64 n):=Y5.o.c 2
           have y54:Z5.cell? ⟨w.heap.size,4,none⟩=some (.slice (some ⟨b,off,none⟩) a.length cap):=Y5.o.c 4
           go_wp2
           go_ret
           exact⟨by rw[HQ.o];rfl,B5.o⟩
    · have u1:decide ((j:Int)<(a.length:Int))=false:=decide_eq_false ω
      go_wp2_with fail
      cases q1 with
      | false =>
       refine (saidEq (pred_said p_uppB s _ HS0.o) H1.o).mono ?_
       rintro _ Z1 ⟨rfl,hb1⟩
       obtain⟨B1,Y1⟩:=zd2 (bel B0.o hb1) (hs_bel Y0.o hb1)
       clear hb1
       have y12:Z1.cell? ⟨w.heap.size,2,none⟩=some (.int .i64 n):=Y1.o.c 2
       have y14:Z1.cell? ⟨w.heap.size,4,none⟩=some (.slice A a.length cap):=Y1.o.c 4
       go_wp2
       go_ret
       exact⟨by rw[HQ.o];rfl,B1.o⟩
      | true =>
       cases q2 with
       | false =>
        refine (saidEq (pred_said p_uppB s _ HS0.o) H1.o).mono ?_
        rintro _ Z1 ⟨rfl,hb1⟩
        obtain⟨B1,Y1⟩:=zd2 (bel B0.o hb1) (hs_bel Y0.o hb1)
        clear hb1
        have y12:Z1.cell? ⟨w.heap.size,2,none⟩=some (.int .i64 n):=Y1.o.c 2
        have y14:Z1.cell? ⟨w.heap.size,4,none⟩=some (.slice A a.length cap):=Y1.o.c 4
        go_wp2
        go_ret
        exact⟨by rw[HQ.o];rfl,B1.o⟩
       | true =>
        cases q3 with
        | false =>
         refine (saidEq (pred_said p_uppB s _ HS0.o) H1.o).mono ?_
         rintro _ Z1 ⟨rfl,hb1⟩
         obtain⟨B1,Y1⟩:=zd2 (bel B0.o hb1) (hs_bel Y0.o hb1)
         clear hb1
         have y12:Z1.cell? ⟨w.heap.size,2,none⟩=some (.int .i64 n):=Y1.o.c 2
         have y14:Z1.cell? ⟨w.heap.size,4,none⟩=some (.slice A a.length cap):=Y1.o.c 4
         go_wp2
         go_ret
         exact⟨by rw[HQ.o];rfl,B1.o⟩
        | true =>
         refine (saidEq (pred_said p_uppB s _ HS0.o) H1.o).mono ?_
         rintro _ Z1 ⟨rfl,hb1⟩
         obtain⟨B1,Y1⟩:=zd2 (bel B0.o hb1) (hs_bel Y0.o hb1)
         clear hb1
         have y12:Z1.cell? ⟨w.heap.size,2,none⟩=some (.int .i64 n):=Y1.o.c 2
         have y14:Z1.cell? ⟨w.heap.size,4,none⟩=some (.slice A a.length cap):=Y1.o.c 4
         go_wp2_with fail
         cases q4 with
         | false =>
          (first|rw[HW.o]|rw[HW2.o]|rw[HW3.o]|skip)
          refine (saidEq (upto_call HH.o .fld rfl HD.o (NdsR.to HA.o (sub_lo B1.o)) hll) H4.o).mono ?_
          rintro _ Z4 ⟨rfl,hb4⟩
          obtain⟨B4,Y4⟩:=zd2 (bel B1.o hb4) (hs_bel Y1.o hb4)
          clear hb4
          have y42:Z4.cell? ⟨w.heap.size,2,none⟩=some (.int .i64 n):=Y4.o.c 2
          have y44:Z4.cell? ⟨w.heap.size,4,none⟩=some (.slice A a.length cap):=Y4.o.c 4
          go_wp2
          go_ret
          exact⟨by rw[HQ.o];rfl,B4.o⟩
         | true =>
          (first|rw[HW.o]|rw[HW2.o]|rw[HW3.o]|skip)
          refine (saidEq (upto_call HH.o .fld rfl HD.o (NdsR.to HA.o (sub_lo B1.o)) hll) H4.o).mono ?_
          rintro _ Z4 ⟨rfl,hb4⟩
          obtain⟨B4,Y4⟩:=zd2 (bel B1.o hb4) (hs_bel Y1.o hb4)
          clear hb4
          have y42:Z4.cell? ⟨w.heap.size,2,none⟩=some (.int .i64 n):=Y4.o.c 2
          have y44:Z4.cell? ⟨w.heap.size,4,none⟩=some (.slice A a.length cap):=Y4.o.c 4
          go_wp2_with fail
          cases q5 with
          | false =>
           (first|rw[HW.o]|rw[HW2.o]|rw[HW3.o]|skip)
           refine (saidEq (from_call HH.o .mem rfl HD.o (NdsR.to HA.o (sub_lo B4.o)) hll) H5.o).mono ?_
           rintro _ Z5 ⟨rfl,hb5⟩
           obtain⟨B5,Y5⟩:=zd2 (bel B4.o hb5) (hs_bel Y4.o hb5)
           clear hb5
           have y52:Z5.cell? ⟨w.heap.size,2,none⟩=some (.int .i64 n):=Y5.o.c 2
           have y54:Z5.cell? ⟨w.heap.size,4,none⟩=some (.slice A a.length cap):=Y5.o.c 4
           go_wp2
           go_ret
           exact⟨by rw[HQ.o];rfl,B5.o⟩
          | true =>
           (first|rw[HW.o]|rw[HW2.o]|rw[HW3.o]|skip)
           refine (saidEq (from_call HH.o .mem rfl HD.o (NdsR.to HA.o (sub_lo B4.o)) hll) H5.o).mono ?_
           rintro _ Z5 ⟨rfl,hb5⟩
           obtain⟨B5,Y5⟩:=zd2 (bel B4.o hb5) (hs_bel Y4.o hb5)
           clear hb5
           have y52:Z5.cell? ⟨w.heap.size,2,none⟩=some (.int .i64 n):=Y5.o.c 2
           have y54:Z5.cell? ⟨w.heap.size,4,none⟩=some (.slice A a.length cap):=Y5.o.c 4
           go_wp2
           go_ret
           exact⟨by rw[HQ.o];rfl,B5.o⟩
theorem chg_71 {k:Nat} (H:AllS k) (s:Ê) (n p:Int) (a:List Nd) (A:Option Addr) (cap d:Nat) (w:À) (hd:d+(k+1)=41) (hs:s.size≤maxLen) (hn:NdR w (lo w) (cl 71 s n p A a.length cap) (.mk 71 s n p a)):Calls prog 64 #[.agg (cl 71 s n p A a.length cap).toArray,.int .i64 (d:Int)] w (EqSaid (uppB (ndT (Nd.mk 71 s n p a))&&ndN (Nd.mk 71 s n p a)==0&&(a.take (leadB a)).all (shp k .fld)&&(a.drop (leadB a)).all (shp k .set)) w):=by
 have ha:=nd_kids hn
 have lm:a.length≤9223372036854775807:=ha.len.2
 have lc:a.length≤cap:=ha.cap
 have hd2:(d+1)+k=41:=by omega
 obtain⟨HH,HN,HA,HS0,HD⟩:=zd5 H hn ha hs hd2
 obtain⟨HW,HW2,HW3⟩:=dw5 d ω
 have u0:decide ((40:Int)<(d:Int))=false:=decide_eq_false ω
 obtain⟨W1,hW1,B0,Y0,x0,x1,x2,x3,x4⟩:=nb5 w 71 s n p A a.length cap
 have z0:=belW x0;have z1:=belW x1;have z2:=belW x2;have z3:=belW x3;have z4:=belW x4
 obtain⟨tot,hV⟩:∃z,(uppB (ndT (Nd.mk 71 s n p a))&&ndN (Nd.mk 71 s n p a)==0&&(a.take (leadB a)).all (shp k .fld)&&(a.drop (leadB a)).all (shp k .set))=z:=⟨_,rfl⟩
 rw[hV]
 obtain⟨q1,h1⟩:∃q,(uppB (ndT (Nd.mk 71 s n p a))&&ndN (Nd.mk 71 s n p a)==0)=q:=⟨_,rfl⟩
 obtain⟨q2,h2⟩:∃q,(a.take (leadB a)).all (shp k .fld)=q:=⟨_,rfl⟩
 obtain⟨q3,h3⟩:∃q,(a.drop (leadB a)).all (shp k .set)=q:=⟨_,rfl⟩
 have HQ:Hid (tot=(q1&&q2&&q3)):=by show _=_;rw[←hV,h1,h2,h3]
 obtain⟨H1,H2,H3⟩:=zd3 h1 h2 h3
 have hll:=lead_le a
 have HLA:Hid (∀(j:Nat) (h:j<a.length),j<leadB a→ndK a[j]=7):=lead_at a
 have HLE:Hid (∀(h:leadB a<a.length),ndK a[leadB a]≠7):=lead_end a
 generalize leadB a=m at *
 clear hd hd2 hs hn ha hV h1 h2 h3 z0 z1 z2 z3 z4
 go_in
 go_upto_region 1 with fail
 rw[←hW1.o]
 clear hW1
 go_wp2_with fail
 go_loopw [6] (fun i wr=>∃(j:Nat),j≤m∧i=.int .i64 j∧wr=W1) (fun i _=>m-(intOf i).toNat)
 case atStart=>exact⟨0,by omega,rfl,rfl⟩
 case round =>
  obtain⟨j,hj,rfl,rfl⟩:=hrel
  by_cases hlt:j<m
  · have hla:j<a.length:=by omega
    have u1:decide ((j:Int)<(a.length:Int))=true:=decide_eq_true ω
    obtain⟨b,off,k1,s1,m1,p1,D1,l1,c1,rfl,hg,hr1,e0,e1,e2,e3,e4⟩:=nds_at (NdsR.to HA.o (sub_lo B0.o)) hla
    have v1:(k1==7)=true:=beq_iff_eq.2 ((nd_k hr1).symm.trans (HLA.o j hla hlt))
    have j0:(0:Int)≤(j:Int):=by omega
    have j1:(j:Int)<(a.length:Int):=by omega
    clear hr1 hg
    go_wp2_with fail
    exact⟨⟨j+1,by omega,by go_num,by first|exact rfl|trivial⟩,by simp[intOf];omega⟩
  · obtain rfl:j=m:=by omega
    clear hlt
    have hs1:∀W,(Instr.slice 81 (.slice A a.length cap) none (some (.int .i64 (j:Int))) none).run prog W=.ok (.slice A j cap) W:=fun W=>run_upto22 W A _ _ _ hll lc
    have hs2:∀W,(Instr.slice 81 (.slice A a.length cap) (some (.int .i64 (j:Int))) none none).run prog W=.ok (.slice (fromA A cap j 5) (a.length-j) (cap-j)) W:=fun W=>run_from22 W A _ _ _ hll
    by_cases hla:j<a.length
    · have u1:decide ((j:Int)<(a.length:Int))=true:=decide_eq_true ω
      obtain⟨b,off,k1,s1,m1,p1,D1,l1,c1,hA,hg,hr1,e0,e1,e2,e3,e4⟩:=nds_at (NdsR.to HA.o (sub_lo B0.o)) hla
      have v1:(k1==7)=false:=beq_eq_false_iff_ne.2 (fun e=>HLE.o hla ((nd_k hr1).trans e))
      have j0:(0:Int)≤(j:Int):=by omega
      have j1:(j:Int)<(a.length:Int):=by omega
      clear hr1 hg
      subst hA
      go_wp2_with fail
      cases q1 with
      | false =>
       refine (saidEq (named_any p_uppB _ _ _ (NdR.to HN.o (sub_lo B0.o))) H1.o).mono ?_
       rintro _ Z1 ⟨rfl,hb1⟩
       obtain⟨B1,Y1⟩:=zd2 (bel B0.o hb1) (hs_bel Y0.o hb1)
       clear hb1
       have y12:Z1.cell? ⟨w.heap.size,2,none⟩=some (.int .i64 n):=Y1.o.c 2
       have y14:Z1.cell? ⟨w.heap.size,4,none⟩=some (.slice (some ⟨b,off,none⟩) a.length cap):=Y1.o.c 4
       go_wp2
       go_ret
       exact⟨by rw[HQ.o];rfl,B1.o⟩
      | true =>
       refine (saidEq (named_any p_uppB _ _ _ (NdR.to HN.o (sub_lo B0.o))) H1.o).mono ?_
       rintro _ Z1 ⟨rfl,hb1⟩
       obtain⟨B1,Y1⟩:=zd2 (bel B0.o hb1) (hs_bel Y0.o hb1)
       clear hb1
       have y12:Z1.cell? ⟨w.heap.size,2,none⟩=some (.int .i64 n):=Y1.o.c 2
       have y14:Z1.cell? ⟨w.heap.size,4,none⟩=some (.slice (some ⟨b,off,none⟩) a.length cap):=Y1.o.c 4
       go_wp2_with fail
       cases q2 with
       | false =>
        (first|rw[HW.o]|rw[HW2.o]|rw[HW3.o]|skip)
        refine (saidEq (upto_call HH.o .fld rfl HD.o (NdsR.to HA.o (sub_lo B1.o)) hll) H2.o).mono ?_
        rintro _ Z2 ⟨rfl,hb2⟩
        obtain⟨B2,Y2⟩:=zd2 (bel B1.o hb2) (hs_bel Y1.o hb2)
        clear hb2
        have y22:Z2.cell? ⟨w.heap.size,2,none⟩=some (.int .i64 n):=Y2.o.c 2
        have y24:Z2.cell? ⟨w.heap.size,4,none⟩=some (.slice (some ⟨b,off,none⟩) a.length cap):=Y2.o.c 4
        go_wp2
        go_ret
        exact⟨by rw[HQ.o];rfl,B2.o⟩
       | true =>
        (first|rw[HW.o]|rw[HW2.o]|rw[HW3.o]|skip)
        refine (saidEq (upto_call HH.o .fld rfl HD.o (NdsR.to HA.o (sub_lo B1.o)) hll) H2.o).mono ?_
        rintro _ Z2 ⟨rfl,hb2⟩
        obtain⟨B2,Y2⟩:=zd2 (bel B1.o hb2) (hs_bel Y1.o hb2)
        clear hb2
        have y22:Z2.cell? ⟨w.heap.size,2,none⟩=some (.int .i64 n):=Y2.o.c 2
        have y24:Z2.cell? ⟨w.heap.size,4,none⟩=some (.slice (some ⟨b,off,none⟩) a.length cap):=Y2.o.c 4
        go_wp2_with fail
        cases q3 with
        | false =>
         (first|rw[HW.o]|rw[HW2.o]|rw[HW3.o]|skip)
         refine (saidEq (from_call HH.o .set rfl HD.o (NdsR.to HA.o (sub_lo B2.o)) hll) H3.o).mono ?_
         rintro _ Z3 ⟨rfl,hb3⟩
         obtain⟨B3,Y3⟩:=zd2 (bel B2.o hb3) (hs_bel Y2.o hb3)
         clear hb3
         have y32:Z3.cell? ⟨w.heap.size,2,none⟩=some (.int .i64 n):=Y3.o.c 2
         have y34:Z3.cell? ⟨w.heap.size,4,none⟩=some (.slice (some ⟨b,off,none⟩) a.length cap):=Y3.o.c 4
         go_wp2
         go_ret
         exact⟨by rw[HQ.o];rfl,B3.o⟩
        | true =>
         (first|rw[HW.o]|rw[HW2.o]|rw[HW3.o]|skip)
         refine (saidEq (from_call HH.o .set rfl HD.o (NdsR.to HA.o (sub_lo B2.o)) hll) H3.o).mono ?_
         rintro _ Z3 ⟨rfl,hb3⟩
         obtain⟨B3,Y3⟩:=zd2 (bel B2.o hb3) (hs_bel Y2.o hb3)
         clear hb3
         have y32:Z3.cell? ⟨w.heap.size,2,none⟩=some (.int .i64 n):=Y3.o.c 2
         have y34:Z3.cell? ⟨w.heap.size,4,none⟩=some (.slice (some ⟨b,off,none⟩) a.length cap):=Y3.o.c 4
         go_wp2
         go_ret
         exact⟨by rw[HQ.o];rfl,B3.o⟩
    · have u1:decide ((j:Int)<(a.length:Int))=false:=decide_eq_false ω
      go_wp2_with fail
      cases q1 with
      | false =>
       refine (saidEq (named_any p_uppB _ _ _ (NdR.to HN.o (sub_lo B0.o))) H1.o).mono ?_
       rintro _ Z1 ⟨rfl,hb1⟩
       obtain⟨B1,Y1⟩:=zd2 (bel B0.o hb1) (hs_bel Y0.o hb1)
       clear hb1
       have y12:Z1.cell? ⟨w.heap.size,2,none⟩=some (.int .i64 n):=Y1.o.c 2
       have y14:Z1.cell? ⟨w.heap.size,4,none⟩=some (.slice A a.length cap):=Y1.o.c 4
       go_wp2
       go_ret
       exact⟨by rw[HQ.o];rfl,B1.o⟩
      | true =>
       refine (saidEq (named_any p_uppB _ _ _ (NdR.to HN.o (sub_lo B0.o))) H1.o).mono ?_
       rintro _ Z1 ⟨rfl,hb1⟩
       obtain⟨B1,Y1⟩:=zd2 (bel B0.o hb1) (hs_bel Y0.o hb1)
       clear hb1
       have y12:Z1.cell? ⟨w.heap.size,2,none⟩=some (.int .i64 n):=Y1.o.c 2
       have y14:Z1.cell? ⟨w.heap.size,4,none⟩=some (.slice A a.length cap):=Y1.o.c 4
       go_wp2_with fail
       cases q2 with
       | false =>
        (first|rw[HW.o]|rw[HW2.o]|rw[HW3.o]|skip)
        refine (saidEq (upto_call HH.o .fld rfl HD.o (NdsR.to HA.o (sub_lo B1.o)) hll) H2.o).mono ?_
        rintro _ Z2 ⟨rfl,hb2⟩
        obtain⟨B2,Y2⟩:=zd2 (bel B1.o hb2) (hs_bel Y1.o hb2)
        clear hb2
        have y22:Z2.cell? ⟨w.heap.size,2,none⟩=some (.int .i64 n):=Y2.o.c 2
        have y24:Z2.cell? ⟨w.heap.size,4,none⟩=some (.slice A a.length cap):=Y2.o.c 4
        go_wp2
        go_ret
        exact⟨by rw[HQ.o];rfl,B2.o⟩
       | true =>
        (first|rw[HW.o]|rw[HW2.o]|rw[HW3.o]|skip)
        refine (saidEq (upto_call HH.o .fld rfl HD.o (NdsR.to HA.o (sub_lo B1.o)) hll) H2.o).mono ?_
        rintro _ Z2 ⟨rfl,hb2⟩
        obtain⟨B2,Y2⟩:=zd2 (bel B1.o hb2) (hs_bel Y1.o hb2)
        clear hb2
        have y22:Z2.cell? ⟨w.heap.size,2,none⟩=some (.int .i64 n):=Y2.o.c 2
        have y24:Z2.cell? ⟨w.heap.size,4,none⟩=some (.slice A a.length cap):=Y2.o.c 4
        go_wp2_with fail
        cases q3 with
        | false =>
         (first|rw[HW.o]|rw[HW2.o]|rw[HW3.o]|skip)
         refine (saidEq (from_call HH.o .set rfl HD.o (NdsR.to HA.o (sub_lo B2.o)) hll) H3.o).mono ?_
         rintro _ Z3 ⟨rfl,hb3⟩
         obtain⟨B3,Y3⟩:=zd2 (bel B2.o hb3) (hs_bel Y2.o hb3)
         clear hb3
         have y32:Z3.cell? ⟨w.heap.size,2,none⟩=some (.int .i64 n):=Y3.o.c 2
         have y34:Z3.cell? ⟨w.heap.size,4,none⟩=some (.slice A a.length cap):=Y3.o.c 4
         go_wp2
         go_ret
         exact⟨by rw[HQ.o];rfl,B3.o⟩
        | true =>
         (first|rw[HW.o]|rw[HW2.o]|rw[HW3.o]|skip)
         refine (saidEq (from_call HH.o .set rfl HD.o (NdsR.to HA.o (sub_lo B2.o)) hll) H3.o).mono ?_
         rintro _ Z3 ⟨rfl,hb3⟩
         obtain⟨B3,Y3⟩:=zd2 (bel B2.o hb3) (hs_bel Y2.o hb3)
         clear hb3
         have y32:Z3.cell? ⟨w.heap.size,2,none⟩=some (.int .i64 n):=Y3.o.c 2
         have y34:Z3.cell? ⟨w.heap.size,4,none⟩=some (.slice A a.length cap):=Y3.o.c 4
         go_wp2
         go_ret
         exact⟨by rw[HQ.o];rfl,B3.o⟩
end Go.Proofs.YtbmknjfgjphfbaaGreatDoor
