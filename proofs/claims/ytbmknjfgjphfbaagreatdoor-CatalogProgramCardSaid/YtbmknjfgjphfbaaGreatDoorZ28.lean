import Derived.Test.YtbmknjfgjphfbaaGreatDoorZ27
set_option linter.all false
namespace Go.Proofs.YtbmknjfgjphfbaaGreatDoor
open Proofs.Tryz RowKit Maps WideMaps ChangeMaps
set_option maxRecDepth 100000
set_option maxHeartbeats 8000000
theorem fxs_one (k:Nat) (s:Sh) (X:À):FxR (X.alloc (.cells #[s.fv] 209)) (lo (X.alloc (.cells #[s.fv] 209))) (.slice (some ⟨X.heap.size,0,none⟩) 1 1) [fxS k s]:=fxs_new X [fxS k s] (by show 1≤maxLen;decide)
theorem end_leaf {k:Nat} (H:AllS k) (last:Sh) (hl:last.pl=true) {K:Int} {pw:Wp} {w0 X:À} (hL:LfS K (pnum pw) w0 X) {g:Nat} (hq:FxR X (lo X) (.slice (some ⟨g,0,none⟩) 1 1) [fxS k last]) {a:List Nd} {A:Option Addr} {cap d:Nat} (hd:d+k=41) (ha:NdsR X (lo X) (.slice A a.length cap) a) :
 Calls prog 105 #[.slice A a.length cap,.int .i64 (d:Int),.func (.func 161) #[] (lfC w0),.slice (some ⟨g,0,none⟩) 1 1] X (EqSaid (endB (shp k) a (.leaf K pw) [last]) X):=
 saidEq (ended_any (k:=k) [fxS k last] a A (some ⟨g,0,none⟩) cap 1 d X hd ha hq (leaf_fv k K pw hL) (fun i hi=>by
  have e:i=0:=by simp at hi;exact hi
  subst e
  exact H.fv last hl X)) (endG_B a _ (.leaf K pw) _ [last] rfl rfl)
theorem beg_leaf {k:Nat} (H:AllS k) (rest:Sh) (hl:rest.pl=true) {K:Int} {pw:Wp} {w0 X:À} (hL:LfS K (pnum pw) w0 X) {a:List Nd} {A:Option Addr} {cap d:Nat} (hd:d+k=41) (ha:NdsR X (lo X) (.slice A a.length cap) a) :
 Calls prog 158 #[.slice A a.length cap,.int .i64 (d:Int),.func (.func 161) #[] (lfC w0),rest.fv] X (EqSaid (begB (shp k) (.leaf K pw) rest a) X):=
 saidEq (begun_any a A cap d X hd ha (leaf_fv k K pw hL) (H.fv rest hl X)) (begG_B a _ _ (.leaf K pw) rest rfl rfl)
theorem case_z (cs:List Value) (t:Nd) (d:Nat) (w:À) (F:FuncId) (hd:d+0=41) (h:NdR w (lo w) cs t):Calls prog 189 #[.agg cs.toArray,.int .i64 (d:Int),.func (.func F) #[] #[]] w (EqSaid false w):=by
 obtain⟨k0,s,n,p,a,A,cap,rfl,rfl,_,_,ha⟩:=nd_form h
 have lm:a.length≤9223372036854775807:=ha.len.2
 have u0:decide ((d:Int)≤40)=false:=decide_eq_false ω
 obtain⟨W1,hW1⟩:∃q,Hid (q=w.alloc (.cells (cl k0 s n p A a.length cap).toArray 83)):=⟨_,rfl⟩
 have B0:Hid (Below w.heap.size w W1):=by show Below _ _ _;rw[hW1.o];exact belA (belR _) _
 have Y0:Hid (Hs W1 w.heap.size 83 (cl k0 s n p A a.length cap).toArray):=by show Hs _ _ _ _;rw[hW1.o];exact Hs.new _ _ _
 have x1:W1.cell? ⟨w.heap.size,1,none⟩=some (.string s):=Y0.o.c 1
 have x4:W1.cell? ⟨w.heap.size,4,none⟩=some (.slice A a.length cap):=Y0.o.c 4
 obtain⟨q1,u1⟩:∃q,(s.toList==[95])=q:=⟨_,rfl⟩
 obtain⟨q2,u2⟩:∃q,((a.length:Int) != 1)=q:=⟨_,rfl⟩
 have z1:=belW x1
 have z4:=belW x4
 clear h ha hd
 go_in
 go_upto_region 1 with fail
 rw[←hW1.o]
 clear hW1
 have main:∀b:Bool,(q1=false∨q2=false)→True:=fun _ _=>trivial
 clear main
 rcases q1 with _|_<;>rcases q2 with _|_
 case true.true=>go_wp2;go_ret;exact⟨rfl,B0.o⟩
 all_goals
  go_upto_region 3 with fail
  clear x1 x4
  refine tkB (fun X=>Below W1.heap.size W1 X) (belDr W1) (fun HS=>?_)
  generalize W1.drew=X0 at HS ⊢
  refine θ ?_
  refine tkD ?_
  have HS:=η HS
  go_wp2
  go_ret
  exact⟨rfl,bel B0.o HS.o⟩
theorem case_s {k:Nat} (H:AllS k) (last:Sh) (hl:last.pl=true) (t:Nd) (cs:List Value) (d:Nat) (w:À) (hd:d+(k+1)=41) (h:NdR w (lo w) cs t):Calls prog 189 #[.agg cs.toArray,.int .i64 (d:Int),last.fv] w (EqSaid (casB (shp k) t last) w):=by
 have hn:=h
 obtain⟨k0,s,n,p,a,A,cap,rfl,rfl,_,_,ha⟩:=nd_form h
 have lm:a.length≤9223372036854775807:=ha.len.2
 have hd2:(d+1)+k=41:=by omega
 obtain⟨HH,HN,HA,HD,HL⟩:=zd5 H hn ha hd2 hl
 obtain⟨HW,HW2,HW3⟩:=dw5 d ω
 have u0:decide ((d:Int)≤40)=true:=decide_eq_true ω
 obtain⟨W1,hW1,B0,Y0,x0,x1,x2,x3,x4⟩:=nb5 w k0 s n p A a.length cap
 have z0:=belW x0;have z1:=belW x1;have z2:=belW x2;have z3:=belW x3;have z4:=belW x4
 obtain⟨q1,u1⟩:∃q,(s.toList==[95])=q:=⟨_,rfl⟩
 obtain⟨q2,u2⟩:∃q,((a.length:Int) != 1)=q:=⟨_,rfl⟩
 obtain⟨q3,h3⟩:∃q,(patB (ndT (.mk k0 s n p a))&&ndN (.mk k0 s n p a)==0)=q:=⟨_,rfl⟩
 obtain⟨q4,h4⟩:∃q,endB (shp k) a (.leaf 40 .bnd) [last]=q:=⟨_,rfl⟩
 have HT:Hid (casB (shp k) (.mk k0 s n p a) last=if q1=true∧q2=true then false else q3&&q4):=by
  show _=_
  have e1:ndT (.mk k0 s n p a)=[95]↔q1=true:=by rw[←u1,str_eq,beq_iff_eq];rfl
  have e2:(ndL (.mk k0 s n p a)).length≠1↔q2=true:=by
   rw[←u2,bne_iff_ne]
   show a.length≠1↔_
   omega
  unfold casB
  rw[←h3,←h4]
  simp only[e1,e2]
  rfl
 obtain⟨tot,hV⟩:∃z,casB (shp k) (.mk k0 s n p a) last=z:=⟨_,rfl⟩
 have HT2:Hid (tot=if q1=true∧q2=true then false else q3&&q4):=hV.symm.trans HT.o
 rw[hV]
 clear hV
 obtain⟨H3,H4⟩:=zd2 h3 h4
 clear h ha hd hd2 hn hl h3 h4 HT
 go_in
 go_upto_region 1 with fail
 rw[←hW1.o]
 clear hW1
 have main:(q1=false∨(q1=true∧q2=false))∨(q1=true∧q2=true):=by cases q1<;>cases q2<;>simp
 rcases main with (rfl|⟨rfl,rfl⟩)|⟨rfl,rfl⟩
 case inr=>go_wp2;go_ret;exact⟨by rw[HT2.o];rfl,B0.o⟩
 all_goals
  have HQ:Hid (tot=(q3&&q4)):=HT2.o.trans (if_neg (by simp))
  go_upto_region 3 with fail
  clear x0 x1 x2 x3 x4
  refine tkB (fun X=>Below W1.heap.size W1 X) (belDr W1) (fun HS=>?_)
  generalize W1.drew=X0 at HS ⊢
  refine θ ?_
  refine tkE 4 (fun K hK=>?_)
  go_simp
  refine (saidEq (named_any p_patB _ _ _ (NdR.to HN.o (sub_lo (bel B0.o HS)))) H3.o).mono ?_
  cases q3 with
  | false =>
   rintro _ X1 ⟨rfl,hb1⟩
   have HS:=bel HS hb1
   clear hb1
   refine tkR hK HS (fun _=>?_)
   clear hK K
   refine θ ?_
   refine tkD ?_
   have HS:=η HS
   go_wp2
   go_ret
   exact⟨by rw[HQ.o];rfl,bel B0.o HS.o⟩
  | true =>
   rintro _ X1 ⟨rfl,hb1⟩
   have HS:=bel HS hb1
   clear hb1
   refine tkR hK HS (fun _=>?_)
   clear hK K
   refine θ ?_
   refine tkE2 11 13 (fun K hK=>?_) (fun K hK=>?_)
   · go_simp
     refine (leaf_any 40 212 X1).mono ?_
     rintro _ X2 ⟨rfl,hL⟩
     have HS2:=bel HS hL.2.2
     refine tkR hK HS2 (fun _=>?_)
     clear hK K
     refine tkE 13 (fun K hK=>?_)
     go_simp
     have HS3:=belA HS2 (.cells #[last.fv] 209)
     refine tkR hK HS3 (fun _=>?_)
     clear hK K
     refine tkE 14 (fun K hK=>?_)
     go_simp
     (first|rw[HW.o]|rw[HW2.o]|rw[HW3.o])
     refine (saidEq (end_leaf HH.o last HL.o (hL.bel (belA (belR _) _)) (fxs_one k last X2) HD.o (NdsR.to HA.o (sub_lo (bel B0.o HS3)))) H4.o).mono ?_
     rintro _ X4 ⟨rfl,hb4⟩
     have HS4:=bel HS3 hb4
     refine tkR hK HS4 (fun _=>?_)
     clear hK K
     refine θ ?_
     refine tkD ?_
     have HS:=η HS4
     clear hL hb4 HS2 HS3 HS4
     go_wp2
     go_ret
     exact⟨by rw[HQ.o];rfl,bel B0.o HS.o⟩
   · go_simp
     have HS2:=belA HS (.cells #[last.fv] 209)
     refine tkR hK HS2 (fun _=>?_)
     clear hK K
     refine tkE 11 (fun K hK=>?_)
     go_simp
     refine (leaf_any 40 212 _).mono ?_
     rintro _ X2 ⟨rfl,hL⟩
     have HS3:=bel HS2 hL.2.2
     refine tkR hK HS3 (fun _=>?_)
     clear hK K
     refine tkE 14 (fun K hK=>?_)
     go_simp
     (first|rw[HW.o]|rw[HW2.o]|rw[HW3.o])
     refine (saidEq (end_leaf HH.o last HL.o hL (SlR.to' (fxs_one k last X1) (sub_lo hL.2.2) fun _ _ x=>x) HD.o (NdsR.to HA.o (sub_lo (bel B0.o HS3)))) H4.o).mono ?_
     rintro _ X4 ⟨rfl,hb4⟩
     have HS4:=bel HS3 hb4
     refine tkR hK HS4 (fun _=>?_)
     clear hK K
     refine θ ?_
     refine tkD ?_
     have HS:=η HS4
     clear hL hb4 HS2 HS3 HS4
     go_wp2
     go_ret
     exact⟨by rw[HQ.o];rfl,bel B0.o HS.o⟩
theorem arm_s {k:Nat} (H:AllS k) (k0:Int) (s:Ê) (n p:Int) (a:List Nd) (A:Option Addr) (cap d:Nat) (w:À) (hd:d+(k+1)=41) (hs:s.size≤maxLen) (hn:NdR w (lo w) (cl k0 s n p A a.length cap) (.mk k0 s n p a)):Calls prog 159 #[.agg (cl k0 s n p A a.length cap).toArray,.int .i64 (d:Int)] w (EqSaid ((k0==39)&&casB (shp k) (Nd.mk k0 s n p a) .exp) w):=by
 have ha:=nd_kids hn
 have lm:a.length≤9223372036854775807:=ha.len.2
 have hd2:(d+1)+k=41:=by omega
 obtain⟨HH,HN,HA,HS,HD,HD0⟩:=zd6 H hn ha hs hd2 hd
 obtain⟨HW,HW2,HW3⟩:=dw5 d ω
 obtain⟨W1,hW1,B0,Y0,x0,x1,x2,x3,x4⟩:=nb5 w k0 s n p A a.length cap
 obtain⟨q1,h1⟩:∃q,((k0==39))=q:=⟨_,rfl⟩
 obtain⟨q2,h2⟩:∃q,(casB (shp k) (Nd.mk k0 s n p a) .exp)=q:=⟨_,rfl⟩
 rw[h1,h2]
 have u1:(k0==39)=q1:=(rfl).trans h1
 clear h1
 have H2:=η h2
 clear h2
 clear hd hd2 hs hn ha
 go_in
 go_upto_region 1 with fail
 rw[←hW1.o]
 clear hW1
 cases q1 with
 | false =>
  go_wp2_with (refine lr5 Y0 ?_)
  go_ret
  exact⟨rfl,B0.o⟩
 | true =>
  cases q2<;>(go_wp2_with (first|(refine lr5 Y0 ?_)|(go_at_call 189;refine (saidEq (case_s HH.o .exp rfl _ _ _ _ HD0.o (NdR.to HN.o (sub_lo B0.o))) H2.o).mono ?_;rintro _ Z2 ⟨rfl,hb2⟩;obtain⟨B2,Y2,y20,y21,y22,y23,y24⟩:=nx5 B0 Y0 hb2));go_ret;exact⟨rfl,B2.o⟩)
theorem sarm_s {k:Nat} (H:AllS k) (k0:Int) (s:Ê) (n p:Int) (a:List Nd) (A:Option Addr) (cap d:Nat) (w:À) (hd:d+(k+1)=41) (hs:s.size≤maxLen) (hn:NdR w (lo w) (cl k0 s n p A a.length cap) (.mk k0 s n p a)):Calls prog 213 #[.agg (cl k0 s n p A a.length cap).toArray,.int .i64 (d:Int)] w (EqSaid ((k0==54)&&casB (shp k) (Nd.mk k0 s n p a) .blk) w):=by
 have ha:=nd_kids hn
 have lm:a.length≤9223372036854775807:=ha.len.2
 have hd2:(d+1)+k=41:=by omega
 obtain⟨HH,HN,HA,HS,HD,HD0⟩:=zd6 H hn ha hs hd2 hd
 obtain⟨HW,HW2,HW3⟩:=dw5 d ω
 obtain⟨W1,hW1,B0,Y0,x0,x1,x2,x3,x4⟩:=nb5 w k0 s n p A a.length cap
 obtain⟨q1,h1⟩:∃q,((k0==54))=q:=⟨_,rfl⟩
 obtain⟨q2,h2⟩:∃q,(casB (shp k) (Nd.mk k0 s n p a) .blk)=q:=⟨_,rfl⟩
 rw[h1,h2]
 have u1:(k0==54)=q1:=(rfl).trans h1
 clear h1
 have H2:=η h2
 clear h2
 clear hd hd2 hs hn ha
 go_in
 go_upto_region 1 with fail
 rw[←hW1.o]
 clear hW1
 cases q1 with
 | false =>
  go_wp2_with (refine lr5 Y0 ?_)
  go_ret
  exact⟨rfl,B0.o⟩
 | true =>
  cases q2<;>(go_wp2_with (first|(refine lr5 Y0 ?_)|(go_at_call 189;refine (saidEq (case_s HH.o .blk rfl _ _ _ _ HD0.o (NdR.to HN.o (sub_lo B0.o))) H2.o).mono ?_;rintro _ Z2 ⟨rfl,hb2⟩;obtain⟨B2,Y2,y20,y21,y22,y23,y24⟩:=nx5 B0 Y0 hb2));go_ret;exact⟨rfl,B2.o⟩)
theorem arm_z (cs:List Value) (t:Nd) (d:Nat) (w:À) (hd:d+0=41) (h:NdR w (lo w) cs t):Calls prog 159 #[.agg cs.toArray,.int .i64 (d:Int)] w (EqSaid false w):=by
 have hn:=h
 obtain⟨k0,s,n,p,a,A,cap,rfl,rfl,_,_,_⟩:=nd_form h
 obtain⟨HN,HD0⟩:=zd2 hn hd
 obtain⟨W1,hW1,B0,Y0,x0,x1,x2,x3,x4⟩:=nb5 w k0 s n p A a.length cap
 obtain⟨q1,u1⟩:∃q,(k0==39)=q:=⟨_,rfl⟩
 clear h hd hn
 go_in
 go_upto_region 1 with fail
 rw[←hW1.o]
 clear hW1
 cases q1 with
 | false =>
  go_wp2
  go_ret
  exact⟨rfl,B0.o⟩
 | true =>
  go_wp2_with (first|(refine lr5 Y0 ?_)|(go_at_call 189;refine (case_z _ _ _ _ 107 HD0.o (NdR.to HN.o (sub_lo B0.o))).mono ?_;rintro _ Z1 ⟨rfl,hb1⟩))
  go_ret
  exact⟨rfl,bel B0.o hb1⟩
theorem sarm_z (cs:List Value) (t:Nd) (d:Nat) (w:À) (hd:d+0=41) (h:NdR w (lo w) cs t):Calls prog 213 #[.agg cs.toArray,.int .i64 (d:Int)] w (EqSaid false w):=by
 have hn:=h
 obtain⟨k0,s,n,p,a,A,cap,rfl,rfl,_,_,_⟩:=nd_form h
 obtain⟨HN,HD0⟩:=zd2 hn hd
 obtain⟨W1,hW1,B0,Y0,x0,x1,x2,x3,x4⟩:=nb5 w k0 s n p A a.length cap
 obtain⟨q1,u1⟩:∃q,(k0==54)=q:=⟨_,rfl⟩
 clear h hd hn
 go_in
 go_upto_region 1 with fail
 rw[←hW1.o]
 clear hW1
 cases q1 with
 | false =>
  go_wp2
  go_ret
  exact⟨rfl,B0.o⟩
 | true =>
  go_wp2_with (first|(refine lr5 Y0 ?_)|(go_at_call 189;refine (case_z _ _ _ _ 160 HD0.o (NdR.to HN.o (sub_lo B0.o))).mono ?_;rintro _ Z1 ⟨rfl,hb1⟩))
  go_ret
  exact⟨rfl,bel B0.o hb1⟩
theorem stm_52 {k:Nat} (H:AllS k) (s:Ê) (n p:Int) (a:List Nd) (A:Option Addr) (cap d:Nat) (w:À) (hd:d+(k+1)=41) (hs:s.size≤maxLen) (hn:NdR w (lo w) (cl 52 s n p A a.length cap) (.mk 52 s n p a)):Calls prog 190 #[.agg (cl 52 s n p A a.length cap).toArray,.int .i64 (d:Int)] w (EqSaid (bareB (Nd.mk 52 s n p a)&&(serB (shp k) a [.exp,.blk]||serB (shp k) a [.exp,.blk,.blk])) w):=by
 have ha:=nd_kids hn
 have lm:a.length≤9223372036854775807:=ha.len.2
 have hd2:(d+1)+k=41:=by omega
 obtain⟨HH,HN,HA,HS,HD,HD0⟩:=zd6 H hn ha hs hd2 hd
 obtain⟨HW,HW2,HW3⟩:=dw5 d ω
 have u0:decide ((40:Int)<(d:Int))=false:=decide_eq_false ω
 obtain⟨W1,hW1,B0,Y0,x0,x1,x2,x3,x4⟩:=nb5 w 52 s n p A a.length cap
 obtain⟨q1,h1⟩:∃q,(bareB (Nd.mk 52 s n p a))=q:=⟨_,rfl⟩
 obtain⟨q2,h2⟩:∃q,(serB (shp k) a [.exp,.blk])=q:=⟨_,rfl⟩
 obtain⟨q3,h3⟩:∃q,(serB (shp k) a [.exp,.blk,.blk])=q:=⟨_,rfl⟩
 rw[h1,h2,h3]
 have H1:=η h1
 clear h1
 have H2:=η h2
 clear h2
 have H3:=η h3
 clear h3
 clear hd hd2 hs hn ha
 go_in
 go_upto_region 1 with fail
 rw[←hW1.o]
 clear hW1
 go_wp2_with fail
 cases q1 with
 | false =>
  refine (saidEq (bare_any _ _ _ (NdR.to HN.o (sub_lo B0.o))) H1.o).mono ?_
  rintro _ Z1 ⟨rfl,hb1⟩
  obtain⟨B1,Y1⟩:=zd2 (bel B0.o hb1) (hs_bel Y0.o hb1)
  clear hb1
  have y1:=Y1.o.c 4
  go_wp2
  go_ret
  exact⟨rfl,B1.o⟩
 | true =>
  refine (saidEq (bare_any _ _ _ (NdR.to HN.o (sub_lo B0.o))) H1.o).mono ?_
  rintro _ Z1 ⟨rfl,hb1⟩
  obtain⟨B1,Y1⟩:=zd2 (bel B0.o hb1) (hs_bel Y0.o hb1)
  clear hb1
  have y1:=Y1.o.c 4
  go_wp2_with fail
  cases q2 with
  | true =>
   (first|rw[HW.o]|rw[HW2.o]|rw[HW3.o]|skip)
   refine (saidEq (ser_call HH.o [.exp,.blk] π π HD.o (NdsR.to HA.o (sub_lo B1.o))) H2.o).mono ?_
   rintro _ Z2 ⟨rfl,hb2⟩
   obtain⟨B2,Y2⟩:=zd2 (bel B1.o hb2) (hs_bel Y1.o hb2)
   clear hb2
   have y2:=Y2.o.c 4
   go_wp2
   go_ret
   exact⟨rfl,B2.o⟩
  | false =>
   (first|rw[HW.o]|rw[HW2.o]|rw[HW3.o]|skip)
   refine (saidEq (ser_call HH.o [.exp,.blk] π π HD.o (NdsR.to HA.o (sub_lo B1.o))) H2.o).mono ?_
   rintro _ Z2 ⟨rfl,hb2⟩
   obtain⟨B2,Y2⟩:=zd2 (bel B1.o hb2) (hs_bel Y1.o hb2)
   clear hb2
   have y2:=Y2.o.c 4
   go_wp2_with fail
   cases q3 with
   | true =>
    (first|rw[HW.o]|rw[HW2.o]|rw[HW3.o]|skip)
    refine (saidEq (ser_call HH.o [.exp,.blk,.blk] π π HD.o (NdsR.to HA.o (sub_lo B2.o))) H3.o).mono ?_
    rintro _ Z3 ⟨rfl,hb3⟩
    obtain⟨B3,Y3⟩:=zd2 (bel B2.o hb3) (hs_bel Y2.o hb3)
    clear hb3
    have y3:=Y3.o.c 4
    go_wp2
    go_ret
    exact⟨rfl,B3.o⟩
   | false =>
    (first|rw[HW.o]|rw[HW2.o]|rw[HW3.o]|skip)
    refine (saidEq (ser_call HH.o [.exp,.blk,.blk] π π HD.o (NdsR.to HA.o (sub_lo B2.o))) H3.o).mono ?_
    rintro _ Z3 ⟨rfl,hb3⟩
    obtain⟨B3,Y3⟩:=zd2 (bel B2.o hb3) (hs_bel Y2.o hb3)
    clear hb3
    have y3:=Y3.o.c 4
    go_wp2
    go_ret
    exact⟨rfl,B3.o⟩
theorem stm_56 {k:Nat} (H:AllS k) (s:Ê) (n p:Int) (a:List Nd) (A:Option Addr) (cap d:Nat) (w:À) (hd:d+(k+1)=41) (hs:s.size≤maxLen) (hn:NdR w (lo w) (cl 56 s n p A a.length cap) (.mk 56 s n p a)):Calls prog 190 #[.agg (cl 56 s n p A a.length cap).toArray,.int .i64 (d:Int)] w (EqSaid (shp (k+1) .snd (Nd.mk 56 s n p a)) w):=by
 have ha:=nd_kids hn
 have lm:a.length≤9223372036854775807:=ha.len.2
 have hd2:(d+1)+k=41:=by omega
 obtain⟨HH,HN,HA,HS,HD,HD0⟩:=zd6 H hn ha hs hd2 hd
 obtain⟨HW,HW2,HW3⟩:=dw5 d ω
 have u0:decide ((40:Int)<(d:Int))=false:=decide_eq_false ω
 obtain⟨W1,hW1,B0,Y0,x0,x1,x2,x3,x4⟩:=nb5 w 56 s n p A a.length cap
 obtain⟨q1,h1⟩:∃q,(shp (k+1) .snd (Nd.mk 56 s n p a))=q:=⟨_,rfl⟩
 rw[h1]
 have H1:=η h1
 clear h1
 clear hd hd2 hs hn ha
 go_in
 go_upto_region 1 with fail
 rw[←hW1.o]
 clear hW1
 cases q1<;>(go_wp2_with (first|(refine lr5 Y0 ?_)|(go_at_call 214;refine (saidEq (snd_s HH.o _ _ _ _ _ _ _ _ _ HD0.o HS.o (NdR.to HN.o (sub_lo B0.o))) H1.o).mono ?_;rintro _ Z1 ⟨rfl,hb1⟩;obtain⟨B1,Y1,y10,y11,y12,y13,y14⟩:=nx5 B0 Y0 hb1));go_ret;exact⟨rfl,B1.o⟩)
theorem end_lleaf {k:Nat} (H:AllS k) (first:Sh) (hl:first.pl=true) {K:Int} {pw:Wp} {w0 X:À} (hL:LfS K (pnum pw) w0 X) {a:List Nd} {A:Option Addr} {cap d:Nat} (hd:d+k=41) (ha:NdsR (X.alloc (.cells #[.func (.func 161) #[] (lfC w0)] 209)) (lo (X.alloc (.cells #[.func (.func 161) #[] (lfC w0)] 209))) (.slice A a.length cap) a) :
 Calls prog 105 #[.slice A a.length cap,.int .i64 (d:Int),first.fv,.slice (some ⟨X.heap.size,0,none⟩) 1 1] (X.alloc (.cells #[.func (.func 161) #[] (lfC w0)] 209)) (EqSaid (endB (shp k) a first [.leaf K pw]) (X.alloc (.cells #[.func (.func 161) #[] (lfC w0)] 209))):=
 saidEq (ended_any (k:=k) [⟨161,lfC w0,shp k (.leaf K pw)⟩] a A (some ⟨X.heap.size,0,none⟩) cap 1 d (X.alloc (.cells #[.func (.func 161) #[] (lfC w0)] 209)) hd ha (fxs_new X [⟨161,lfC w0,shp k (.leaf K pw)⟩] (by show 1≤maxLen;decide)) (H.fv first hl _) (fun i hi=>by
  have e:i=0:=by simp at hi;exact hi
  subst e
  exact leaf_fv k K pw (hL.bel (belA (belR _) _)))) (endG_B a _ first _ [.leaf K pw] rfl rfl)
theorem stm_59 {k:Nat} (H:AllS k) (s:Ê) (n p:Int) (a:List Nd) (A:Option Addr) (cap d:Nat) (w:À) (hd:d+(k+1)=41) (hs:s.size≤maxLen) (hn:NdR w (lo w) (cl 59 s n p A a.length cap) (.mk 59 s n p a)):Calls prog 190 #[.agg (cl 59 s n p A a.length cap).toArray,.int .i64 (d:Int)] w (EqSaid ((lowB (ndT (Nd.mk 59 s n p a))&&ndN (Nd.mk 59 s n p a)==0)&&endB (shp k) a .exp [.leaf 75 .upp]) w):=by
 have ha:=nd_kids hn
 have lm:a.length≤9223372036854775807:=ha.len.2
 have hd2:(d+1)+k=41:=by omega
 obtain⟨HH,HN,HA,HS0,HD⟩:=zd5 H hn ha hs hd2
 obtain⟨HW,HW2,HW3⟩:=dw5 d ω
 have u0:decide ((40:Int)<(d:Int))=false:=decide_eq_false ω
 obtain⟨W1,hW1,B0,Y0,x0,x1,x2,x3,x4⟩:=nb5 w 59 s n p A a.length cap
 have z0:=belW x0;have z1:=belW x1;have z2:=belW x2;have z3:=belW x3;have z4:=belW x4
 obtain⟨q1,h1⟩:∃q,(lowB (ndT (Nd.mk 59 s n p a))&&ndN (Nd.mk 59 s n p a)==0)=q:=⟨_,rfl⟩
 obtain⟨q2,h2⟩:∃q,endB (shp k) a .exp [.leaf 75 .upp]=q:=⟨_,rfl⟩
 rw[h1,h2]
 obtain⟨H1,H2⟩:=zd2 h1 h2
 clear hd hd2 hs hn ha h1 h2
 go_in
 go_upto_region 1 with fail
 rw[←hW1.o]
 clear hW1
 go_upto_region 23 with fail
 clear x0 x1 x2 x3 x4
 refine tkB (fun X=>Below W1.heap.size W1 X) (belDr W1) (fun HS=>?_)
 generalize W1.drew=X0 at HS ⊢
 refine θ ?_
 refine tkE 1 (fun K hK=>?_)
 go_simp
 refine (saidEq (named_any p_lowB _ _ _ (NdR.to HN.o (sub_lo (bel B0.o HS)))) H1.o).mono ?_
 cases q1 with
 | false =>
  rintro _ X1 ⟨rfl,hb⟩
  have HS:=bel HS hb
  clear hb
  refine tkR hK HS (fun _=>?_)
  clear hK K
  refine θ ?_
  refine tkD ?_
  have HS:=η HS
  go_wp2
  go_ret
  exact⟨rfl,bel B0.o HS.o⟩
 | true =>
  rintro _ X1 ⟨rfl,hb⟩
  have HS:=bel HS hb
  clear hb
  refine tkR hK HS (fun _=>?_)
  clear hK K
  refine θ ?_
  refine tkE 6 (fun K hK=>?_)
  go_simp
  refine (leaf_any 75 100 X1).mono ?_
  rintro _ X2 ⟨rfl,hL⟩
  have HS:=bel HS hL.2.2
  refine tkR hK HS (fun _=>?_)
  clear hK K
  refine tkE 7 (fun K hK=>?_)
  go_simp
  have HS:=belA HS (.cells #[.func (.func 161) #[] (lfC X1)] 209)
  refine tkR hK HS (fun _=>?_)
  clear hK K
  refine tkE 8 (fun K hK=>?_)
  go_simp
  (first|rw[HW.o]|rw[HW2.o]|rw[HW3.o]|skip)
  refine (saidEq (end_lleaf HH.o .exp rfl hL HD.o (NdsR.to HA.o (sub_lo (bel B0.o HS)))) H2.o).mono ?_
  rintro _ X4 ⟨rfl,hb⟩
  have HS:=bel HS hb
  clear hb
  refine tkR hK HS (fun _=>?_)
  clear hK K
  clear hL
  refine θ ?_
  refine tkD ?_
  have HS:=η HS
  go_wp2
  go_ret
  exact⟨rfl,bel B0.o HS.o⟩
theorem stm_58 {k:Nat} (H:AllS k) (s:Ê) (n p:Int) (a:List Nd) (A:Option Addr) (cap d:Nat) (w:À) (hd:d+(k+1)=41) (hs:s.size≤maxLen) (hn:NdR w (lo w) (cl 58 s n p A a.length cap) (.mk 58 s n p a)):Calls prog 190 #[.agg (cl 58 s n p A a.length cap).toArray,.int .i64 (d:Int)] w (EqSaid (if n=1∧a.length<2 then false else uppB s.data.toList&&(n==0||n==1)&&begB (shp k) (.leaf 40 .bnd) .exp a) w):=by
 have ha:=nd_kids hn
 have lm:a.length≤9223372036854775807:=ha.len.2
 have hd2:(d+1)+k=41:=by omega
 obtain⟨HH,HN,HA,HS0,HD⟩:=zd5 H hn ha hs hd2
 obtain⟨HW,HW2,HW3⟩:=dw5 d ω
 have u0:decide ((40:Int)<(d:Int))=false:=decide_eq_false ω
 obtain⟨W1,hW1,B0,Y0,x0,x1,x2,x3,x4⟩:=nb5 w 58 s n p A a.length cap
 have z0:=belW x0;have z1:=belW x1;have z2:=belW x2;have z3:=belW x3;have z4:=belW x4
 obtain⟨q1,h1⟩:∃q,uppB s.data.toList=q:=⟨_,rfl⟩
 obtain⟨qa,ua⟩:∃q,(n==0)=q:=⟨_,rfl⟩
 obtain⟨qb,ub⟩:∃q,(n==1)=q:=⟨_,rfl⟩
 obtain⟨qc,uc⟩:∃q,decide ((a.length:Int)<2)=q:=⟨_,rfl⟩
 obtain⟨q2,h2⟩:∃q,begB (shp k) (.leaf 40 .bnd) .exp a=q:=⟨_,rfl⟩
 obtain⟨tot,hV⟩:∃z,(if n=1∧a.length<2 then false else uppB s.data.toList&&(n==0||n==1)&&begB (shp k) (.leaf 40 .bnd) .exp a)=z:=⟨_,rfl⟩
 have HT:Hid (tot=if qb=true∧qc=true then false else q1&&(qa||qb)&&q2):=by
  show _=_
  have e1:n=1↔qb=true:=by rw[←ub,beq_iff_eq]
  have e2:a.length<2↔qc=true:=by rw[←uc,decide_eq_true_eq];omega
  rw[←hV,←h1,←h2,←ua]
  simp only[e1,e2,ub]
 rw[hV]
 clear hV
 obtain⟨H1,H2⟩:=zd2 h1 h2
 clear hd hd2 hs hn ha h1 h2
 go_in
 go_upto_region 1 with fail
 rw[←hW1.o]
 clear hW1
 have main:((qb=false)∨(qb=true∧qc=false))∨(qb=true∧qc=true):=by cases qb<;>cases qc<;>simp
 rcases main with (rfl|⟨rfl,rfl⟩)|⟨rfl,rfl⟩
 case inr=>go_wp2;go_ret;exact⟨by rw[HT.o];rfl,B0.o⟩
 case inl.inl =>
  have HQ:Hid (tot=(q1&&(qa||false)&&q2)):=HT.o.trans (if_neg (by simp))
  go_upto_region 21 with fail
  clear x0 x1 x2 x3 x4
  refine tkB (fun X=>Below W1.heap.size W1 X) (belDr W1) (fun HS=>?_)
  generalize W1.drew=X0 at HS ⊢
  refine θ ?_
  refine tkE 2 (fun K hK=>?_)
  go_simp
  refine (saidEq (pred_said p_uppB s _ HS0.o) H1.o).mono ?_
  cases q1 with
  | false =>
   rintro _ X1 ⟨rfl,hb⟩
   have HS:=bel HS hb
   clear hb
   refine tkR hK HS (fun _=>?_)
   clear hK K
   refine θ ?_
   refine tkD ?_
   have HS:=η HS
   go_wp2
   go_ret
   exact⟨by rw[HQ.o];rfl,bel B0.o HS.o⟩
  | true =>
   rintro _ X1 ⟨rfl,hb⟩
   have HS:=bel HS hb
   clear hb
   refine tkR hK HS (fun _=>?_)
   clear hK K
   cases qa with
   | false =>
    refine θ ?_
    refine tkD ?_
    have HS:=η HS
    go_wp2
    go_ret
    exact⟨by rw[HQ.o];rfl,bel B0.o HS.o⟩
   | true =>
    refine θ ?_
    refine tkE 17 (fun K hK=>?_)
    go_simp
    refine (leaf_any 40 212 X1).mono ?_
    rintro _ X2 ⟨rfl,hL⟩
    have HS:=bel HS hL.2.2
    refine tkR hK HS (fun _=>?_)
    clear hK K
    refine tkE 18 (fun K hK=>?_)
    go_simp
    (first|rw[HW.o]|rw[HW2.o]|rw[HW3.o]|skip)
    refine (saidEq (beg_leaf HH.o .exp rfl hL HD.o (NdsR.to HA.o (sub_lo (bel B0.o HS)))) H2.o).mono ?_
    rintro _ X4 ⟨rfl,hb⟩
    have HS:=bel HS hb
    clear hb
    refine tkR hK HS (fun _=>?_)
    clear hK K
    clear hL
    refine θ ?_
    refine tkD ?_
    have HS:=η HS
    go_wp2
    go_ret
    exact⟨by rw[HQ.o];rfl,bel B0.o HS.o⟩
 case inl.inr =>
  have HQ:Hid (tot=(q1&&(qa||true)&&q2)):=HT.o.trans (if_neg (by simp))
  go_upto_region 21 with fail
  clear x0 x1 x2 x3 x4
  refine tkB (fun X=>Below W1.heap.size W1 X) (belDr W1) (fun HS=>?_)
  generalize W1.drew=X0 at HS ⊢
  refine θ ?_
  refine tkE 2 (fun K hK=>?_)
  go_simp
  refine (saidEq (pred_said p_uppB s _ HS0.o) H1.o).mono ?_
  cases q1 with
  | false =>
   rintro _ X1 ⟨rfl,hb⟩
   have HS:=bel HS hb
   clear hb
   refine tkR hK HS (fun _=>?_)
   clear hK K
   refine θ ?_
   refine tkD ?_
   have HS:=η HS
   go_wp2
   go_ret
   exact⟨by rw[HQ.o];rfl,bel B0.o HS.o⟩
  | true =>
   rintro _ X1 ⟨rfl,hb⟩
   have HS:=bel HS hb
   clear hb
   refine tkR hK HS (fun _=>?_)
   clear hK K
   cases qa with
   | false =>
    refine θ ?_
    refine tkE 17 (fun K hK=>?_)
    go_simp
    refine (leaf_any 40 212 X1).mono ?_
    rintro _ X2 ⟨rfl,hL⟩
    have HS:=bel HS hL.2.2
    refine tkR hK HS (fun _=>?_)
    clear hK K
    refine tkE 18 (fun K hK=>?_)
    go_simp
    (first|rw[HW.o]|rw[HW2.o]|rw[HW3.o]|skip)
    refine (saidEq (beg_leaf HH.o .exp rfl hL HD.o (NdsR.to HA.o (sub_lo (bel B0.o HS)))) H2.o).mono ?_
    rintro _ X4 ⟨rfl,hb⟩
    have HS:=bel HS hb
    clear hb
    refine tkR hK HS (fun _=>?_)
    clear hK K
    clear hL
    refine θ ?_
    refine tkD ?_
    have HS:=η HS
    go_wp2
    go_ret
    exact⟨by rw[HQ.o];rfl,bel B0.o HS.o⟩
   | true =>
    refine θ ?_
    refine tkE 17 (fun K hK=>?_)
    go_simp
    refine (leaf_any 40 212 X1).mono ?_
    rintro _ X2 ⟨rfl,hL⟩
    have HS:=bel HS hL.2.2
    refine tkR hK HS (fun _=>?_)
    clear hK K
    refine tkE 18 (fun K hK=>?_)
    go_simp
    (first|rw[HW.o]|rw[HW2.o]|rw[HW3.o]|skip)
    refine (saidEq (beg_leaf HH.o .exp rfl hL HD.o (NdsR.to HA.o (sub_lo (bel B0.o HS)))) H2.o).mono ?_
    rintro _ X4 ⟨rfl,hb⟩
    have HS:=bel HS hb
    clear hb
    refine tkR hK HS (fun _=>?_)
    clear hK K
    clear hL
    refine θ ?_
    refine tkD ?_
    have HS:=η HS
    go_wp2
    go_ret
    exact⟨by rw[HQ.o];rfl,bel B0.o HS.o⟩
end Go.Proofs.YtbmknjfgjphfbaaGreatDoor
