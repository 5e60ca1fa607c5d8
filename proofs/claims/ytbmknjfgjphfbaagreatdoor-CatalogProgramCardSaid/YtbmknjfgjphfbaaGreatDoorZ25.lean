import Derived.Test.YtbmknjfgjphfbaaGreatDoorZ24
set_option linter.all false
namespace Go.Proofs.YtbmknjfgjphfbaaGreatDoor
open Proofs.Tryz RowKit Maps WideMaps ChangeMaps
set_option maxRecDepth 100000
set_option maxHeartbeats 8000000
theorem nd_kids {w:À} {P:Nat→Prop} {k n p:Int} {s:Ê} {A:Option Addr} {l cap:Nat} {a:List Nd} (h:NdR w P (cl k s n p A l cap) (.mk k s n p a)):NdsR w P (.slice A a.length cap) a:=by
 obtain⟨k0,s0,n0,p0,a0,A0,c0,e1,e2,_,_,h⟩:=nd_form h
 injection e2 with _ _ _ _ e3
 subst e3
 injection e1 with _ e1
 injection e1 with _ e1
 injection e1 with _ e1
 injection e1 with _ e1
 injection e1 with e1 _
 injection e1 with e4 e5 e6
 rw[e4,e6];exact h
theorem pred_said {F:FuncId} {p:List UInt8→Bool} (hF:PredSaid F p) (s:Ê) (w:À) (hs:s.size≤maxLen):Calls prog F #[.string s] w (EqSaid (p s.data.toList) w):=(hF.2 s w hs).mono (by rintro e w' ⟨h1,rfl⟩;exact⟨h1,Below.refl _ _⟩)
theorem fld_s {k:Nat} (H:AllS k) (k0:Int) (s:Ê) (n p:Int) (a:List Nd) (A:Option Addr) (cap d:Nat) (w:À) (hd:d+(k+1)=41) (hs:s.size≤maxLen) (hn:NdR w (lo w) (cl k0 s n p A a.length cap) (.mk k0 s n p a)):Calls prog 102 #[.agg (cl k0 s n p A a.length cap).toArray,.int .i64 (d:Int)] w (EqSaid ((k0==7)&&(lowB (ndT (Nd.mk k0 s n p a))&&ndN (Nd.mk k0 s n p a)==0)&&serB (shp k) a [.typ]) w):=by
 have ha:=nd_kids hn
 have lm:a.length≤9223372036854775807:=ha.len.2
 have hd2:(d+1)+k=41:=by omega
 obtain⟨HH,HN,HA,HS,HD,HD0⟩:=zd6 H hn ha hs hd2 hd
 obtain⟨HW,HW2,HW3⟩:=dw5 d ω
 have u0:decide ((d:Int)≤40)=true:=decide_eq_true ω
 obtain⟨W1,hW1,B0,Y0,x0,x1,x2,x3,x4⟩:=nb5 w k0 s n p A a.length cap
 obtain⟨q1,h1⟩:∃q,((k0==7))=q:=⟨_,rfl⟩
 obtain⟨q2,h2⟩:∃q,((lowB (ndT (Nd.mk k0 s n p a))&&ndN (Nd.mk k0 s n p a)==0))=q:=⟨_,rfl⟩
 obtain⟨q3,h3⟩:∃q,(serB (shp k) a [.typ])=q:=⟨_,rfl⟩
 rw[h1,h2,h3]
 have u1:(k0==7)=q1:=(rfl).trans h1
 clear h1
 have H2:=η h2
 clear h2
 have H3:=η h3
 clear h3
 clear hd hd2 hs hn ha
 go_in
 go_upto_region 1 with fail
 rw[←hW1.o]
 clear hW1
 cases q1 with
 | false =>
  go_wp2_with (refine lr5 Y0 ?_)
  go_ret
  exact⟨rfl,B0.o⟩
 | true =>
  cases q2 with
  | false =>
   go_wp2_with (first|(refine lr5 Y0 ?_)|(go_at_call 99;refine (saidEq (named_any p_lowB _ _ _ (NdR.to HN.o (sub_lo B0.o))) H2.o).mono ?_;rintro _ Z2 ⟨rfl,hb2⟩;obtain⟨B2,Y2,y20,y21,y22,y23,y24⟩:=nx5 B0 Y0 hb2))
   go_ret
   exact⟨rfl,B2.o⟩
  | true =>
   cases q3<;>(go_wp2_with (first|(refine lr5 Y0 ?_)|(go_at_call 99;refine (saidEq (named_any p_lowB _ _ _ (NdR.to HN.o (sub_lo B0.o))) H2.o).mono ?_;rintro _ Z2 ⟨rfl,hb2⟩;obtain⟨B2,Y2,y20,y21,y22,y23,y24⟩:=nx5 B0 Y0 hb2)|(go_at_call 154;(first|rw[HW.o]|rw[HW2.o]|rw[HW3.o]|skip);refine (saidEq (ser_call HH.o [.typ] π π HD.o (NdsR.to HA.o (sub_lo B2.o))) H3.o).mono ?_;rintro _ Z3 ⟨rfl,hb3⟩;obtain⟨B3,Y3,y30,y31,y32,y33,y34⟩:=nx5 B2 Y2 hb3));go_ret;exact⟨rfl,B3.o⟩)
theorem fld_z (cs:List Value) (t:Nd) (d:Nat) (w:À) (hd:d+0=41) (h:NdR w (lo w) cs t):Calls prog 102 #[.agg cs.toArray,.int .i64 (d:Int)] w (EqSaid false w):=by
 obtain⟨k0,s,n,p,a,A,cap,rfl,rfl,_,_,_⟩:=nd_form h
 have u0:decide ((d:Int)≤40)=false:=decide_eq_false ω
 obtain⟨W1,hW1⟩:∃q,Hid (q=w.alloc (.cells (cl k0 s n p A a.length cap).toArray 83)):=⟨_,rfl⟩
 have B0:Hid (Below w.heap.size w W1):=by show Below _ _ _;rw[hW1.o];exact belA (belR _) _
 clear h hd
 go_in
 go_upto_region 1 with fail
 rw[←hW1.o]
 go_wp2
 go_ret
 exact⟨rfl,B0.o⟩
theorem ctor_s {k:Nat} (H:AllS k) (k0:Int) (s:Ê) (n p:Int) (a:List Nd) (A:Option Addr) (cap d:Nat) (w:À) (hd:d+(k+1)=41) (hs:s.size≤maxLen) (hn:NdR w (lo w) (cl k0 s n p A a.length cap) (.mk k0 s n p a)):Calls prog 103 #[.agg (cl k0 s n p A a.length cap).toArray,.int .i64 (d:Int)] w (EqSaid ((k0==8)&&(uppB (ndT (Nd.mk k0 s n p a))&&ndN (Nd.mk k0 s n p a)==0)&&a.all (shp k .typ)) w):=by
 have ha:=nd_kids hn
 have lm:a.length≤9223372036854775807:=ha.len.2
 have hd2:(d+1)+k=41:=by omega
 obtain⟨HH,HN,HA,HS,HD,HD0⟩:=zd6 H hn ha hs hd2 hd
 obtain⟨HW,HW2,HW3⟩:=dw5 d ω
 have u0:decide ((d:Int)≤40)=true:=decide_eq_true ω
 obtain⟨W1,hW1,B0,Y0,x0,x1,x2,x3,x4⟩:=nb5 w k0 s n p A a.length cap
 obtain⟨q1,h1⟩:∃q,((k0==8))=q:=⟨_,rfl⟩
 obtain⟨q2,h2⟩:∃q,((uppB (ndT (Nd.mk k0 s n p a))&&ndN (Nd.mk k0 s n p a)==0))=q:=⟨_,rfl⟩
 obtain⟨q3,h3⟩:∃q,(a.all (shp k .typ))=q:=⟨_,rfl⟩
 rw[h1,h2,h3]
 have u1:(k0==8)=q1:=(rfl).trans h1
 clear h1
 have H2:=η h2
 clear h2
 have H3:=η h3
 clear h3
 clear hd hd2 hs hn ha
 go_in
 go_upto_region 1 with fail
 rw[←hW1.o]
 clear hW1
 cases q1 with
 | false =>
  go_wp2_with (refine lr5 Y0 ?_)
  go_ret
  exact⟨rfl,B0.o⟩
 | true =>
  cases q2 with
  | false =>
   go_wp2_with (first|(refine lr5 Y0 ?_)|(go_at_call 99;refine (saidEq (named_any p_uppB _ _ _ (NdR.to HN.o (sub_lo B0.o))) H2.o).mono ?_;rintro _ Z2 ⟨rfl,hb2⟩;obtain⟨B2,Y2,y20,y21,y22,y23,y24⟩:=nx5 B0 Y0 hb2))
   go_ret
   exact⟨rfl,B2.o⟩
  | true =>
   cases q3<;>(go_wp2_with (first|(refine lr5 Y0 ?_)|(go_at_call 99;refine (saidEq (named_any p_uppB _ _ _ (NdR.to HN.o (sub_lo B0.o))) H2.o).mono ?_;rintro _ Z2 ⟨rfl,hb2⟩;obtain⟨B2,Y2,y20,y21,y22,y23,y24⟩:=nx5 B0 Y0 hb2)|(go_at_call 101;(first|rw[HW.o]|rw[HW2.o]|rw[HW3.o]|skip);refine (saidEq (all_call HH.o .typ rfl HD.o (NdsR.to HA.o (sub_lo B2.o))) H3.o).mono ?_;rintro _ Z3 ⟨rfl,hb3⟩;obtain⟨B3,Y3,y30,y31,y32,y33,y34⟩:=nx5 B2 Y2 hb3));go_ret;exact⟨rfl,B3.o⟩)
theorem ctor_z (cs:List Value) (t:Nd) (d:Nat) (w:À) (hd:d+0=41) (h:NdR w (lo w) cs t):Calls prog 103 #[.agg cs.toArray,.int .i64 (d:Int)] w (EqSaid false w):=by
 obtain⟨k0,s,n,p,a,A,cap,rfl,rfl,_,_,_⟩:=nd_form h
 have u0:decide ((d:Int)≤40)=false:=decide_eq_false ω
 obtain⟨W1,hW1⟩:∃q,Hid (q=w.alloc (.cells (cl k0 s n p A a.length cap).toArray 83)):=⟨_,rfl⟩
 have B0:Hid (Below w.heap.size w W1):=by show Below _ _ _;rw[hW1.o];exact belA (belR _) _
 clear h hd
 go_in
 go_upto_region 1 with fail
 rw[←hW1.o]
 go_wp2
 go_ret
 exact⟨rfl,B0.o⟩
theorem set_s {k:Nat} (H:AllS k) (k0:Int) (s:Ê) (n p:Int) (a:List Nd) (A:Option Addr) (cap d:Nat) (w:À) (hd:d+(k+1)=41) (hs:s.size≤maxLen) (hn:NdR w (lo w) (cl k0 s n p A a.length cap) (.mk k0 s n p a)):Calls prog 110 #[.agg (cl k0 s n p A a.length cap).toArray,.int .i64 (d:Int)] w (EqSaid ((k0==28)&&(lowB (ndT (Nd.mk k0 s n p a))&&ndN (Nd.mk k0 s n p a)==0)&&serB (shp k) a [.exp]) w):=by
 have ha:=nd_kids hn
 have lm:a.length≤9223372036854775807:=ha.len.2
 have hd2:(d+1)+k=41:=by omega
 obtain⟨HH,HN,HA,HS,HD,HD0⟩:=zd6 H hn ha hs hd2 hd
 obtain⟨HW,HW2,HW3⟩:=dw5 d ω
 have u0:decide ((d:Int)≤40)=true:=decide_eq_true ω
 obtain⟨W1,hW1,B0,Y0,x0,x1,x2,x3,x4⟩:=nb5 w k0 s n p A a.length cap
 obtain⟨q1,h1⟩:∃q,((k0==28))=q:=⟨_,rfl⟩
 obtain⟨q2,h2⟩:∃q,((lowB (ndT (Nd.mk k0 s n p a))&&ndN (Nd.mk k0 s n p a)==0))=q:=⟨_,rfl⟩
 obtain⟨q3,h3⟩:∃q,(serB (shp k) a [.exp])=q:=⟨_,rfl⟩
 rw[h1,h2,h3]
 have u1:(k0==28)=q1:=(rfl).trans h1
 clear h1
 have H2:=η h2
 clear h2
 have H3:=η h3
 clear h3
 clear hd hd2 hs hn ha
 go_in
 go_upto_region 1 with fail
 rw[←hW1.o]
 clear hW1
 cases q1 with
 | false =>
  go_wp2_with (refine lr5 Y0 ?_)
  go_ret
  exact⟨rfl,B0.o⟩
 | true =>
  cases q2 with
  | false =>
   go_wp2_with (first|(refine lr5 Y0 ?_)|(go_at_call 99;refine (saidEq (named_any p_lowB _ _ _ (NdR.to HN.o (sub_lo B0.o))) H2.o).mono ?_;rintro _ Z2 ⟨rfl,hb2⟩;obtain⟨B2,Y2,y20,y21,y22,y23,y24⟩:=nx5 B0 Y0 hb2))
   go_ret
   exact⟨rfl,B2.o⟩
  | true =>
   cases q3<;>(go_wp2_with (first|(refine lr5 Y0 ?_)|(go_at_call 99;refine (saidEq (named_any p_lowB _ _ _ (NdR.to HN.o (sub_lo B0.o))) H2.o).mono ?_;rintro _ Z2 ⟨rfl,hb2⟩;obtain⟨B2,Y2,y20,y21,y22,y23,y24⟩:=nx5 B0 Y0 hb2)|(go_at_call 154;(first|rw[HW.o]|rw[HW2.o]|rw[HW3.o]|skip);refine (saidEq (ser_call HH.o [.exp] π π HD.o (NdsR.to HA.o (sub_lo B2.o))) H3.o).mono ?_;rintro _ Z3 ⟨rfl,hb3⟩;obtain⟨B3,Y3,y30,y31,y32,y33,y34⟩:=nx5 B2 Y2 hb3));go_ret;exact⟨rfl,B3.o⟩)
theorem set_z (cs:List Value) (t:Nd) (d:Nat) (w:À) (hd:d+0=41) (h:NdR w (lo w) cs t):Calls prog 110 #[.agg cs.toArray,.int .i64 (d:Int)] w (EqSaid false w):=by
 obtain⟨k0,s,n,p,a,A,cap,rfl,rfl,_,_,_⟩:=nd_form h
 have u0:decide ((d:Int)≤40)=false:=decide_eq_false ω
 obtain⟨W1,hW1⟩:∃q,Hid (q=w.alloc (.cells (cl k0 s n p A a.length cap).toArray 83)):=⟨_,rfl⟩
 have B0:Hid (Below w.heap.size w W1):=by show Below _ _ _;rw[hW1.o];exact belA (belR _) _
 clear h hd
 go_in
 go_upto_region 1 with fail
 rw[←hW1.o]
 go_wp2
 go_ret
 exact⟨rfl,B0.o⟩
theorem ans_s {k:Nat} (H:AllS k) (k0:Int) (s:Ê) (n p:Int) (a:List Nd) (A:Option Addr) (cap d:Nat) (w:À) (hd:d+(k+1)=41) (hs:s.size≤maxLen) (hn:NdR w (lo w) (cl k0 s n p A a.length cap) (.mk k0 s n p a)):Calls prog 112 #[.agg (cl k0 s n p A a.length cap).toArray,.int .i64 (d:Int)] w (EqSaid ((k0==75)&&(msgB (ndT (Nd.mk k0 s n p a))&&ndN (Nd.mk k0 s n p a)==0)&&a.all (shp k .exp)) w):=by
 have ha:=nd_kids hn
 have lm:a.length≤9223372036854775807:=ha.len.2
 have hd2:(d+1)+k=41:=by omega
 obtain⟨HH,HN,HA,HS,HD,HD0⟩:=zd6 H hn ha hs hd2 hd
 obtain⟨HW,HW2,HW3⟩:=dw5 d ω
 have u0:decide ((d:Int)≤40)=true:=decide_eq_true ω
 obtain⟨W1,hW1,B0,Y0,x0,x1,x2,x3,x4⟩:=nb5 w k0 s n p A a.length cap
 obtain⟨q1,h1⟩:∃q,((k0==75))=q:=⟨_,rfl⟩
 obtain⟨q2,h2⟩:∃q,((msgB (ndT (Nd.mk k0 s n p a))&&ndN (Nd.mk k0 s n p a)==0))=q:=⟨_,rfl⟩
 obtain⟨q3,h3⟩:∃q,(a.all (shp k .exp))=q:=⟨_,rfl⟩
 rw[h1,h2,h3]
 have u1:(k0==75)=q1:=(rfl).trans h1
 clear h1
 have H2:=η h2
 clear h2
 have H3:=η h3
 clear h3
 clear hd hd2 hs hn ha
 go_in
 go_upto_region 1 with fail
 rw[←hW1.o]
 clear hW1
 cases q1 with
 | false =>
  go_wp2_with (refine lr5 Y0 ?_)
  go_ret
  exact⟨rfl,B0.o⟩
 | true =>
  cases q2 with
  | false =>
   go_wp2_with (first|(refine lr5 Y0 ?_)|(go_at_call 99;refine (saidEq (named_any p_msgB _ _ _ (NdR.to HN.o (sub_lo B0.o))) H2.o).mono ?_;rintro _ Z2 ⟨rfl,hb2⟩;obtain⟨B2,Y2,y20,y21,y22,y23,y24⟩:=nx5 B0 Y0 hb2))
   go_ret
   exact⟨rfl,B2.o⟩
  | true =>
   cases q3<;>(go_wp2_with (first|(refine lr5 Y0 ?_)|(go_at_call 99;refine (saidEq (named_any p_msgB _ _ _ (NdR.to HN.o (sub_lo B0.o))) H2.o).mono ?_;rintro _ Z2 ⟨rfl,hb2⟩;obtain⟨B2,Y2,y20,y21,y22,y23,y24⟩:=nx5 B0 Y0 hb2)|(go_at_call 101;(first|rw[HW.o]|rw[HW2.o]|rw[HW3.o]|skip);refine (saidEq (all_call HH.o .exp rfl HD.o (NdsR.to HA.o (sub_lo B2.o))) H3.o).mono ?_;rintro _ Z3 ⟨rfl,hb3⟩;obtain⟨B3,Y3,y30,y31,y32,y33,y34⟩:=nx5 B2 Y2 hb3));go_ret;exact⟨rfl,B3.o⟩)
theorem ans_z (cs:List Value) (t:Nd) (d:Nat) (w:À) (hd:d+0=41) (h:NdR w (lo w) cs t):Calls prog 112 #[.agg cs.toArray,.int .i64 (d:Int)] w (EqSaid false w):=by
 obtain⟨k0,s,n,p,a,A,cap,rfl,rfl,_,_,_⟩:=nd_form h
 have u0:decide ((d:Int)≤40)=false:=decide_eq_false ω
 obtain⟨W1,hW1⟩:∃q,Hid (q=w.alloc (.cells (cl k0 s n p A a.length cap).toArray 83)):=⟨_,rfl⟩
 have B0:Hid (Below w.heap.size w W1):=by show Below _ _ _;rw[hW1.o];exact belA (belR _) _
 clear h hd
 go_in
 go_upto_region 1 with fail
 rw[←hW1.o]
 go_wp2
 go_ret
 exact⟨rfl,B0.o⟩
theorem blk_s {k:Nat} (H:AllS k) (k0:Int) (s:Ê) (n p:Int) (a:List Nd) (A:Option Addr) (cap d:Nat) (w:À) (hd:d+(k+1)=41) (hs:s.size≤maxLen) (hn:NdR w (lo w) (cl k0 s n p A a.length cap) (.mk k0 s n p a)):Calls prog 160 #[.agg (cl k0 s n p A a.length cap).toArray,.int .i64 (d:Int)] w (EqSaid ((k0==11)&&bareB (Nd.mk k0 s n p a)&&a.all (shp k .stm)) w):=by
 have ha:=nd_kids hn
 have lm:a.length≤9223372036854775807:=ha.len.2
 have hd2:(d+1)+k=41:=by omega
 obtain⟨HH,HN,HA,HS,HD,HD0⟩:=zd6 H hn ha hs hd2 hd
 obtain⟨HW,HW2,HW3⟩:=dw5 d ω
 have u0:decide ((d:Int)≤40)=true:=decide_eq_true ω
 obtain⟨W1,hW1,B0,Y0,x0,x1,x2,x3,x4⟩:=nb5 w k0 s n p A a.length cap
 obtain⟨q1,h1⟩:∃q,((k0==11))=q:=⟨_,rfl⟩
 obtain⟨q2,h2⟩:∃q,(bareB (Nd.mk k0 s n p a))=q:=⟨_,rfl⟩
 obtain⟨q3,h3⟩:∃q,(a.all (shp k .stm))=q:=⟨_,rfl⟩
 rw[h1,h2,h3]
 have u1:(k0==11)=q1:=(rfl).trans h1
 clear h1
 have H2:=η h2
 clear h2
 have H3:=η h3
 clear h3
 clear hd hd2 hs hn ha
 go_in
 go_upto_region 1 with fail
 rw[←hW1.o]
 clear hW1
 cases q1 with
 | false =>
  go_wp2_with (refine lr5 Y0 ?_)
  go_ret
  exact⟨rfl,B0.o⟩
 | true =>
  cases q2 with
  | false =>
   go_wp2_with (first|(refine lr5 Y0 ?_)|(go_at_call 62;refine (saidEq (bare_any _ _ _ (NdR.to HN.o (sub_lo B0.o))) H2.o).mono ?_;rintro _ Z2 ⟨rfl,hb2⟩;obtain⟨B2,Y2,y20,y21,y22,y23,y24⟩:=nx5 B0 Y0 hb2))
   go_ret
   exact⟨rfl,B2.o⟩
  | true =>
   cases q3<;>(go_wp2_with (first|(refine lr5 Y0 ?_)|(go_at_call 62;refine (saidEq (bare_any _ _ _ (NdR.to HN.o (sub_lo B0.o))) H2.o).mono ?_;rintro _ Z2 ⟨rfl,hb2⟩;obtain⟨B2,Y2,y20,y21,y22,y23,y24⟩:=nx5 B0 Y0 hb2)|(go_at_call 101;(first|rw[HW.o]|rw[HW2.o]|rw[HW3.o]|skip);refine (saidEq (all_call HH.o .stm rfl HD.o (NdsR.to HA.o (sub_lo B2.o))) H3.o).mono ?_;rintro _ Z3 ⟨rfl,hb3⟩;obtain⟨B3,Y3,y30,y31,y32,y33,y34⟩:=nx5 B2 Y2 hb3));go_ret;exact⟨rfl,B3.o⟩)
theorem blk_z (cs:List Value) (t:Nd) (d:Nat) (w:À) (hd:d+0=41) (h:NdR w (lo w) cs t):Calls prog 160 #[.agg cs.toArray,.int .i64 (d:Int)] w (EqSaid false w):=by
 obtain⟨k0,s,n,p,a,A,cap,rfl,rfl,_,_,_⟩:=nd_form h
 have u0:decide ((d:Int)≤40)=false:=decide_eq_false ω
 obtain⟨W1,hW1⟩:∃q,Hid (q=w.alloc (.cells (cl k0 s n p A a.length cap).toArray 83)):=⟨_,rfl⟩
 have B0:Hid (Below w.heap.size w W1):=by show Below _ _ _;rw[hW1.o];exact belA (belR _) _
 clear h hd
 go_in
 go_upto_region 1 with fail
 rw[←hW1.o]
 go_wp2
 go_ret
 exact⟨rfl,B0.o⟩
theorem snd_s {k:Nat} (H:AllS k) (k0:Int) (s:Ê) (n p:Int) (a:List Nd) (A:Option Addr) (cap d:Nat) (w:À) (hd:d+(k+1)=41) (hs:s.size≤maxLen) (hn:NdR w (lo w) (cl k0 s n p A a.length cap) (.mk k0 s n p a)):Calls prog 214 #[.agg (cl k0 s n p A a.length cap).toArray,.int .i64 (d:Int)] w (EqSaid ((k0==56)&&(uppB (ndT (Nd.mk k0 s n p a))&&ndN (Nd.mk k0 s n p a)==0)&&begB (shp k) .exp .exp a) w):=by
 have ha:=nd_kids hn
 have lm:a.length≤9223372036854775807:=ha.len.2
 have hd2:(d+1)+k=41:=by omega
 obtain⟨HH,HN,HA,HS,HD,HD0⟩:=zd6 H hn ha hs hd2 hd
 obtain⟨HW,HW2,HW3⟩:=dw5 d ω
 have u0:decide ((d:Int)≤40)=true:=decide_eq_true ω
 obtain⟨W1,hW1,B0,Y0,x0,x1,x2,x3,x4⟩:=nb5 w k0 s n p A a.length cap
 obtain⟨q1,h1⟩:∃q,((k0==56))=q:=⟨_,rfl⟩
 obtain⟨q2,h2⟩:∃q,((uppB (ndT (Nd.mk k0 s n p a))&&ndN (Nd.mk k0 s n p a)==0))=q:=⟨_,rfl⟩
 obtain⟨q3,h3⟩:∃q,(begB (shp k) .exp .exp a)=q:=⟨_,rfl⟩
 rw[h1,h2,h3]
 have u1:(k0==56)=q1:=(rfl).trans h1
 clear h1
 have H2:=η h2
 clear h2
 have H3:=η h3
 clear h3
 clear hd hd2 hs hn ha
 go_in
 go_upto_region 1 with fail
 rw[←hW1.o]
 clear hW1
 cases q1 with
 | false =>
  go_wp2_with (refine lr5 Y0 ?_)
  go_ret
  exact⟨rfl,B0.o⟩
 | true =>
  cases q2 with
  | false =>
   go_wp2_with (first|(refine lr5 Y0 ?_)|(go_at_call 99;refine (saidEq (named_any p_uppB _ _ _ (NdR.to HN.o (sub_lo B0.o))) H2.o).mono ?_;rintro _ Z2 ⟨rfl,hb2⟩;obtain⟨B2,Y2,y20,y21,y22,y23,y24⟩:=nx5 B0 Y0 hb2))
   go_ret
   exact⟨rfl,B2.o⟩
  | true =>
   cases q3<;>(go_wp2_with (first|(refine lr5 Y0 ?_)|(go_at_call 99;refine (saidEq (named_any p_uppB _ _ _ (NdR.to HN.o (sub_lo B0.o))) H2.o).mono ?_;rintro _ Z2 ⟨rfl,hb2⟩;obtain⟨B2,Y2,y20,y21,y22,y23,y24⟩:=nx5 B0 Y0 hb2)|(go_at_call 158;(first|rw[HW.o]|rw[HW2.o]|rw[HW3.o]|skip);refine (saidEq (beg_call HH.o .exp .exp rfl rfl HD.o (NdsR.to HA.o (sub_lo B2.o))) H3.o).mono ?_;rintro _ Z3 ⟨rfl,hb3⟩;obtain⟨B3,Y3,y30,y31,y32,y33,y34⟩:=nx5 B2 Y2 hb3));go_ret;exact⟨rfl,B3.o⟩)
theorem snd_z (cs:List Value) (t:Nd) (d:Nat) (w:À) (hd:d+0=41) (h:NdR w (lo w) cs t):Calls prog 214 #[.agg cs.toArray,.int .i64 (d:Int)] w (EqSaid false w):=by
 obtain⟨k0,s,n,p,a,A,cap,rfl,rfl,_,_,_⟩:=nd_form h
 have u0:decide ((d:Int)≤40)=false:=decide_eq_false ω
 obtain⟨W1,hW1⟩:∃q,Hid (q=w.alloc (.cells (cl k0 s n p A a.length cap).toArray 83)):=⟨_,rfl⟩
 have B0:Hid (Below w.heap.size w W1):=by show Below _ _ _;rw[hW1.o];exact belA (belR _) _
 clear h hd
 go_in
 go_upto_region 1 with fail
 rw[←hW1.o]
 go_wp2
 go_ret
 exact⟨rfl,B0.o⟩
theorem typ_12 {k:Nat} (H:AllS k) (s:Ê) (n p:Int) (a:List Nd) (A:Option Addr) (cap d:Nat) (w:À) (hd:d+(k+1)=41) (hs:s.size≤maxLen) (hn:NdR w (lo w) (cl 12 s n p A a.length cap) (.mk 12 s n p a)):Calls prog 106 #[.agg (cl 12 s n p A a.length cap).toArray,.int .i64 (d:Int)] w (EqSaid ((typB (ndT (Nd.mk 12 s n p a))&&ndN (Nd.mk 12 s n p a)==0)&&(a.length==0)) w):=by
 have ha:=nd_kids hn
 have lm:a.length≤9223372036854775807:=ha.len.2
 have hd2:(d+1)+k=41:=by omega
 obtain⟨HH,HN,HA,HS,HD,HD0⟩:=zd6 H hn ha hs hd2 hd
 obtain⟨HW,HW2,HW3⟩:=dw5 d ω
 have u0:decide ((40:Int)<(d:Int))=false:=decide_eq_false ω
 obtain⟨W1,hW1,B0,Y0,x0,x1,x2,x3,x4⟩:=nb5 w 12 s n p A a.length cap
 obtain⟨q1,h1⟩:∃q,((typB (ndT (Nd.mk 12 s n p a))&&ndN (Nd.mk 12 s n p a)==0))=q:=⟨_,rfl⟩
 obtain⟨q2,h2⟩:∃q,((a.length==0))=q:=⟨_,rfl⟩
 rw[h1,h2]
 have H1:=η h1
 clear h1
 have u2:((a.length:Int)==0)=q2:=(len0 _).trans h2
 clear h2
 clear hd hd2 hs hn ha
 go_in
 go_upto_region 1 with fail
 rw[←hW1.o]
 clear hW1
 cases q1 with
 | false =>
  go_wp2_with (first|(refine lr5 Y0 ?_)|(go_at_call 99;refine (saidEq (named_any p_typB _ _ _ (NdR.to HN.o (sub_lo B0.o))) H1.o).mono ?_;rintro _ Z1 ⟨rfl,hb1⟩;obtain⟨B1,Y1,y10,y11,y12,y13,y14⟩:=nx5 B0 Y0 hb1))
  go_ret
  exact⟨rfl,B1.o⟩
 | true =>
  cases q2<;>(go_wp2_with (first|(refine lr5 Y0 ?_)|(go_at_call 99;refine (saidEq (named_any p_typB _ _ _ (NdR.to HN.o (sub_lo B0.o))) H1.o).mono ?_;rintro _ Z1 ⟨rfl,hb1⟩;obtain⟨B1,Y1,y10,y11,y12,y13,y14⟩:=nx5 B0 Y0 hb1));go_ret;exact⟨rfl,B1.o⟩)
theorem typ_13 {k:Nat} (H:AllS k) (s:Ê) (n p:Int) (a:List Nd) (A:Option Addr) (cap d:Nat) (w:À) (hd:d+(k+1)=41) (hs:s.size≤maxLen) (hn:NdR w (lo w) (cl 13 s n p A a.length cap) (.mk 13 s n p a)):Calls prog 106 #[.agg (cl 13 s n p A a.length cap).toArray,.int .i64 (d:Int)] w (EqSaid (bareB (Nd.mk 13 s n p a)&&serB (shp k) a [.typ]) w):=by
 have ha:=nd_kids hn
 have lm:a.length≤9223372036854775807:=ha.len.2
 have hd2:(d+1)+k=41:=by omega
 obtain⟨HH,HN,HA,HS,HD,HD0⟩:=zd6 H hn ha hs hd2 hd
 obtain⟨HW,HW2,HW3⟩:=dw5 d ω
 have u0:decide ((40:Int)<(d:Int))=false:=decide_eq_false ω
 obtain⟨W1,hW1,B0,Y0,x0,x1,x2,x3,x4⟩:=nb5 w 13 s n p A a.length cap
 obtain⟨q1,h1⟩:∃q,(bareB (Nd.mk 13 s n p a))=q:=⟨_,rfl⟩
 obtain⟨q2,h2⟩:∃q,(serB (shp k) a [.typ])=q:=⟨_,rfl⟩
 rw[h1,h2]
 have H1:=η h1
 clear h1
 have H2:=η h2
 clear h2
 clear hd hd2 hs hn ha
 go_in
 go_upto_region 1 with fail
 rw[←hW1.o]
 clear hW1
 cases q1 with
 | false =>
  go_wp2_with (first|(refine lr5 Y0 ?_)|(go_at_call 62;refine (saidEq (bare_any _ _ _ (NdR.to HN.o (sub_lo B0.o))) H1.o).mono ?_;rintro _ Z1 ⟨rfl,hb1⟩;obtain⟨B1,Y1,y10,y11,y12,y13,y14⟩:=nx5 B0 Y0 hb1))
  go_ret
  exact⟨rfl,B1.o⟩
 | true =>
  cases q2<;>(go_wp2_with (first|(refine lr5 Y0 ?_)|(go_at_call 62;refine (saidEq (bare_any _ _ _ (NdR.to HN.o (sub_lo B0.o))) H1.o).mono ?_;rintro _ Z1 ⟨rfl,hb1⟩;obtain⟨B1,Y1,y10,y11,y12,y13,y14⟩:=nx5 B0 Y0 hb1)|(go_at_call 154;(first|rw[HW.o]|rw[HW2.o]|rw[HW3.o]|skip);refine (saidEq (ser_call HH.o [.typ] π π HD.o (NdsR.to HA.o (sub_lo B1.o))) H2.o).mono ?_;rintro _ Z2 ⟨rfl,hb2⟩;obtain⟨B2,Y2,y20,y21,y22,y23,y24⟩:=nx5 B1 Y1 hb2));go_ret;exact⟨rfl,B2.o⟩)
theorem typ_14 {k:Nat} (H:AllS k) (s:Ê) (n p:Int) (a:List Nd) (A:Option Addr) (cap d:Nat) (w:À) (hd:d+(k+1)=41) (hs:s.size≤maxLen) (hn:NdR w (lo w) (cl 14 s n p A a.length cap) (.mk 14 s n p a)):Calls prog 106 #[.agg (cl 14 s n p A a.length cap).toArray,.int .i64 (d:Int)] w (EqSaid ((uppB (ndT (Nd.mk 14 s n p a))&&ndN (Nd.mk 14 s n p a)==0)&&(a.length==0)) w):=by
 have ha:=nd_kids hn
 have lm:a.length≤9223372036854775807:=ha.len.2
 have hd2:(d+1)+k=41:=by omega
 obtain⟨HH,HN,HA,HS,HD,HD0⟩:=zd6 H hn ha hs hd2 hd
 obtain⟨HW,HW2,HW3⟩:=dw5 d ω
 have u0:decide ((40:Int)<(d:Int))=false:=decide_eq_false ω
 obtain⟨W1,hW1,B0,Y0,x0,x1,x2,x3,x4⟩:=nb5 w 14 s n p A a.length cap
 obtain⟨q1,h1⟩:∃q,((uppB (ndT (Nd.mk 14 s n p a))&&ndN (Nd.mk 14 s n p a)==0))=q:=⟨_,rfl⟩
 obtain⟨q2,h2⟩:∃q,((a.length==0))=q:=⟨_,rfl⟩
 rw[h1,h2]
 have H1:=η h1
 clear h1
 have u2:((a.length:Int)==0)=q2:=(len0 _).trans h2
 clear h2
 clear hd hd2 hs hn ha
 go_in
 go_upto_region 1 with fail
 rw[←hW1.o]
 clear hW1
 cases q1 with
 | false =>
  go_wp2_with (first|(refine lr5 Y0 ?_)|(go_at_call 99;refine (saidEq (named_any p_uppB _ _ _ (NdR.to HN.o (sub_lo B0.o))) H1.o).mono ?_;rintro _ Z1 ⟨rfl,hb1⟩;obtain⟨B1,Y1,y10,y11,y12,y13,y14⟩:=nx5 B0 Y0 hb1))
  go_ret
  exact⟨rfl,B1.o⟩
 | true =>
  cases q2<;>(go_wp2_with (first|(refine lr5 Y0 ?_)|(go_at_call 99;refine (saidEq (named_any p_uppB _ _ _ (NdR.to HN.o (sub_lo B0.o))) H1.o).mono ?_;rintro _ Z1 ⟨rfl,hb1⟩;obtain⟨B1,Y1,y10,y11,y12,y13,y14⟩:=nx5 B0 Y0 hb1));go_ret;exact⟨rfl,B1.o⟩)
theorem typ_15 {k:Nat} (H:AllS k) (s:Ê) (n p:Int) (a:List Nd) (A:Option Addr) (cap d:Nat) (w:À) (hd:d+(k+1)=41) (hs:s.size≤maxLen) (hn:NdR w (lo w) (cl 15 s n p A a.length cap) (.mk 15 s n p a)):Calls prog 106 #[.agg (cl 15 s n p A a.length cap).toArray,.int .i64 (d:Int)] w (EqSaid (bareB (Nd.mk 15 s n p a)&&decide (0<a.length)&&a.all (shp k .typ)) w):=by
 have ha:=nd_kids hn
 have lm:a.length≤9223372036854775807:=ha.len.2
 have hd2:(d+1)+k=41:=by omega
 obtain⟨HH,HN,HA,HS,HD,HD0⟩:=zd6 H hn ha hs hd2 hd
 obtain⟨HW,HW2,HW3⟩:=dw5 d ω
 have u0:decide ((40:Int)<(d:Int))=false:=decide_eq_false ω
 obtain⟨W1,hW1,B0,Y0,x0,x1,x2,x3,x4⟩:=nb5 w 15 s n p A a.length cap
 obtain⟨q1,h1⟩:∃q,(bareB (Nd.mk 15 s n p a))=q:=⟨_,rfl⟩
 obtain⟨q2,h2⟩:∃q,(decide (0<a.length))=q:=⟨_,rfl⟩
 obtain⟨q3,h3⟩:∃q,(a.all (shp k .typ))=q:=⟨_,rfl⟩
 rw[h1,h2,h3]
 have H1:=η h1
 clear h1
 have u2:decide ((0:Int)<(a.length:Int))=q2:=(lenlt 0 _).trans h2
 have H3:=η h3
 clear h3
 clear hd hd2 hs hn ha
 go_in
 go_upto_region 1 with fail
 rw[←hW1.o]
 clear hW1
 cases q1 with
 | false =>
  go_wp2_with (first|(refine lr5 Y0 ?_)|(go_at_call 62;refine (saidEq (bare_any _ _ _ (NdR.to HN.o (sub_lo B0.o))) H1.o).mono ?_;rintro _ Z1 ⟨rfl,hb1⟩;obtain⟨B1,Y1,y10,y11,y12,y13,y14⟩:=nx5 B0 Y0 hb1))
  go_ret
  exact⟨rfl,B1.o⟩
 | true =>
  cases q2 with
  | false =>
   go_wp2_with (first|(refine lr5 Y0 ?_)|(go_at_call 62;refine (saidEq (bare_any _ _ _ (NdR.to HN.o (sub_lo B0.o))) H1.o).mono ?_;rintro _ Z1 ⟨rfl,hb1⟩;obtain⟨B1,Y1,y10,y11,y12,y13,y14⟩:=nx5 B0 Y0 hb1))
   go_ret
   exact⟨rfl,B1.o⟩
  | true =>
   cases q3<;>(go_wp2_with (first|(refine lr5 Y0 ?_)|(go_at_call 62;refine (saidEq (bare_any _ _ _ (NdR.to HN.o (sub_lo B0.o))) H1.o).mono ?_;rintro _ Z1 ⟨rfl,hb1⟩;obtain⟨B1,Y1,y10,y11,y12,y13,y14⟩:=nx5 B0 Y0 hb1)|(go_at_call 101;(first|rw[HW.o]|rw[HW2.o]|rw[HW3.o]|skip);refine (saidEq (all_call HH.o .typ rfl HD.o (NdsR.to HA.o (sub_lo B1.o))) H3.o).mono ?_;rintro _ Z3 ⟨rfl,hb3⟩;obtain⟨B3,Y3,y30,y31,y32,y33,y34⟩:=nx5 B1 Y1 hb3));go_ret;exact⟨rfl,B3.o⟩)
theorem typ_o (k0:Int) (cs:List Value) (t:Nd) (d:Nat) (w:À) (h40:d≤40) (hk:ndK t=k0) (hne:k0≠12∧k0≠13∧k0≠14∧k0≠15) (h:NdR w (lo w) cs t):Calls prog 106 #[.agg cs.toArray,.int .i64 (d:Int)] w (EqSaid false w):=by
 obtain⟨k0',s,n,p,a,A,cap,rfl,rfl,_,_,_⟩:=nd_form h
 obtain rfl:k0'=k0:=hk
 have u0:decide ((40:Int)<(d:Int))=false:=decide_eq_false ω
 obtain⟨e12,e13,e14,e15⟩:=hne
 have v12:(k0'==12)=false:=beq_eq_false_iff_ne.2 e12
 have v13:(k0'==13)=false:=beq_eq_false_iff_ne.2 e13
 have v14:(k0'==14)=false:=beq_eq_false_iff_ne.2 e14
 have v15:(k0'==15)=false:=beq_eq_false_iff_ne.2 e15
 have w1:Hid (IntKind.i64.wrap ((d:Int)+1)=((d:Int)+1)):=by show _=_;rw[IntKind.wrap_i64];omega
 obtain⟨W1,hW1⟩:∃q,Hid (q=w.alloc (.cells (cl k0' s n p A a.length cap).toArray 83)):=⟨_,rfl⟩
 have B0:Hid (Below w.heap.size w W1):=by show Below _ _ _;rw[hW1.o];exact belA (belR _) _
 have Y0:Hid (Hs W1 w.heap.size 83 (cl k0' s n p A a.length cap).toArray):=by show Hs _ _ _ _;rw[hW1.o];exact Hs.new _ _ _
 have x0:W1.cell? ⟨w.heap.size,0,none⟩=some (.int .i64 k0'):=Y0.o.c 0
 clear h e12 e13 e14 e15
 go_in
 go_upto_region 1 with fail
 rw[←hW1.o]
 clear hW1
 go_wp2
 go_ret
 exact⟨rfl,B0.o⟩
theorem typ_z (cs:List Value) (t:Nd) (d:Nat) (w:À) (hd:d+0=41) (h:NdR w (lo w) cs t):Calls prog 106 #[.agg cs.toArray,.int .i64 (d:Int)] w (EqSaid false w):=by
 obtain⟨k0,s,n,p,a,A,cap,rfl,rfl,_,_,_⟩:=nd_form h
 have u0:decide ((40:Int)<(d:Int))=true:=decide_eq_true ω
 obtain⟨W1,hW1⟩:∃q,Hid (q=w.alloc (.cells (cl k0 s n p A a.length cap).toArray 83)):=⟨_,rfl⟩
 have B0:Hid (Below w.heap.size w W1):=by show Below _ _ _;rw[hW1.o];exact belA (belR _) _
 clear h hd
 go_in
 go_upto_region 1 with fail
 rw[←hW1.o]
 go_wp2
 go_ret
 exact⟨rfl,B0.o⟩
theorem mem_9 {k:Nat} (H:AllS k) (s:Ê) (n p:Int) (a:List Nd) (A:Option Addr) (cap d:Nat) (w:À) (hd:d+(k+1)=41) (hs:s.size≤maxLen) (hn:NdR w (lo w) (cl 9 s n p A a.length cap) (.mk 9 s n p a)):Calls prog 108 #[.agg (cl 9 s n p A a.length cap).toArray,.int .i64 (d:Int)] w (EqSaid ((lowB (ndT (Nd.mk 9 s n p a))&&ndN (Nd.mk 9 s n p a)==0)&&serB (shp k) a [.typ,.exp]) w):=by
 have ha:=nd_kids hn
 have lm:a.length≤9223372036854775807:=ha.len.2
 have hd2:(d+1)+k=41:=by omega
 obtain⟨HH,HN,HA,HS,HD,HD0⟩:=zd6 H hn ha hs hd2 hd
 obtain⟨HW,HW2,HW3⟩:=dw5 d ω
 have u0:decide ((40:Int)<(d:Int))=false:=decide_eq_false ω
 obtain⟨W1,hW1,B0,Y0,x0,x1,x2,x3,x4⟩:=nb5 w 9 s n p A a.length cap
 obtain⟨q1,h1⟩:∃q,((lowB (ndT (Nd.mk 9 s n p a))&&ndN (Nd.mk 9 s n p a)==0))=q:=⟨_,rfl⟩
 obtain⟨q2,h2⟩:∃q,(serB (shp k) a [.typ,.exp])=q:=⟨_,rfl⟩
 rw[h1,h2]
 have H1:=η h1
 clear h1
 have H2:=η h2
 clear h2
 clear hd hd2 hs hn ha
 go_in
 go_upto_region 1 with fail
 rw[←hW1.o]
 clear hW1
 cases q1 with
 | false =>
  go_wp2_with (first|(refine lr5 Y0 ?_)|(go_at_call 99;refine (saidEq (named_any p_lowB _ _ _ (NdR.to HN.o (sub_lo B0.o))) H1.o).mono ?_;rintro _ Z1 ⟨rfl,hb1⟩;obtain⟨B1,Y1,y10,y11,y12,y13,y14⟩:=nx5 B0 Y0 hb1))
  go_ret
  exact⟨rfl,B1.o⟩
 | true =>
  cases q2<;>(go_wp2_with (first|(refine lr5 Y0 ?_)|(go_at_call 99;refine (saidEq (named_any p_lowB _ _ _ (NdR.to HN.o (sub_lo B0.o))) H1.o).mono ?_;rintro _ Z1 ⟨rfl,hb1⟩;obtain⟨B1,Y1,y10,y11,y12,y13,y14⟩:=nx5 B0 Y0 hb1)|(go_at_call 154;(first|rw[HW.o]|rw[HW2.o]|rw[HW3.o]|skip);refine (saidEq (ser_call HH.o [.typ,.exp] π π HD.o (NdsR.to HA.o (sub_lo B1.o))) H2.o).mono ?_;rintro _ Z2 ⟨rfl,hb2⟩;obtain⟨B2,Y2,y20,y21,y22,y23,y24⟩:=nx5 B1 Y1 hb2));go_ret;exact⟨rfl,B2.o⟩)
theorem mem_o {k:Nat} (H:AllS k) (k0:Int) (s:Ê) (n p:Int) (a:List Nd) (A:Option Addr) (cap d:Nat) (w:À) (hd:d+(k+1)=41) (hk:k0≠9) (hs:s.size≤maxLen) (hn:NdR w (lo w) (cl k0 s n p A a.length cap) (.mk k0 s n p a)):Calls prog 108 #[.agg (cl k0 s n p A a.length cap).toArray,.int .i64 (d:Int)] w (EqSaid ((k0==10)&&(uppB (ndT (Nd.mk k0 s n p a))&&ndN (Nd.mk k0 s n p a)==0)&&endB (shp k) a .fld [.blk]) w):=by
 have v9:(k0==9)=false:=beq_eq_false_iff_ne.2 hk
 clear hk
 have ha:=nd_kids hn
 have lm:a.length≤9223372036854775807:=ha.len.2
 have hd2:(d+1)+k=41:=by omega
 obtain⟨HH,HN,HA,HS,HD,HD0⟩:=zd6 H hn ha hs hd2 hd
 obtain⟨HW,HW2,HW3⟩:=dw5 d ω
 have u0:decide ((40:Int)<(d:Int))=false:=decide_eq_false ω
 obtain⟨W1,hW1,B0,Y0,x0,x1,x2,x3,x4⟩:=nb5 w k0 s n p A a.length cap
 obtain⟨q1,h1⟩:∃q,((k0==10))=q:=⟨_,rfl⟩
 obtain⟨q2,h2⟩:∃q,((uppB (ndT (Nd.mk k0 s n p a))&&ndN (Nd.mk k0 s n p a)==0))=q:=⟨_,rfl⟩
 obtain⟨q3,h3⟩:∃q,(endB (shp k) a .fld [.blk])=q:=⟨_,rfl⟩
 rw[h1,h2,h3]
 have u1:(k0==10)=q1:=(rfl).trans h1
 clear h1
 have H2:=η h2
 clear h2
 have H3:=η h3
 clear h3
 clear hd hd2 hs hn ha
 go_in
 go_upto_region 1 with fail
 rw[←hW1.o]
 clear hW1
 cases q1 with
 | false =>
  go_wp2_with (refine lr5 Y0 ?_)
  go_ret
  exact⟨rfl,B0.o⟩
 | true =>
  cases q2 with
  | false =>
   go_wp2_with (first|(refine lr5 Y0 ?_)|(go_at_call 99;refine (saidEq (named_any p_uppB _ _ _ (NdR.to HN.o (sub_lo B0.o))) H2.o).mono ?_;rintro _ Z2 ⟨rfl,hb2⟩;obtain⟨B2,Y2,y20,y21,y22,y23,y24⟩:=nx5 B0 Y0 hb2))
   go_ret
   exact⟨rfl,B2.o⟩
  | true =>
   cases q3<;>(go_wp2_with (first|(refine lr5 Y0 ?_)|(go_at_call 99;refine (saidEq (named_any p_uppB _ _ _ (NdR.to HN.o (sub_lo B0.o))) H2.o).mono ?_;rintro _ Z2 ⟨rfl,hb2⟩;obtain⟨B2,Y2,y20,y21,y22,y23,y24⟩:=nx5 B0 Y0 hb2)|(go_at_call 105;(first|rw[HW.o]|rw[HW2.o]|rw[HW3.o]|skip);refine (saidEq (end_call HH.o .fld rfl [.blk] π π HD.o (NdsR.to HA.o (sub_lo B2.o))) H3.o).mono ?_;rintro _ Z3 ⟨rfl,hb3⟩;obtain⟨B3,Y3,y30,y31,y32,y33,y34⟩:=nx5 B2 Y2 hb3));go_ret;exact⟨rfl,B3.o⟩)
theorem mem_z (cs:List Value) (t:Nd) (d:Nat) (w:À) (hd:d+0=41) (h:NdR w (lo w) cs t):Calls prog 108 #[.agg cs.toArray,.int .i64 (d:Int)] w (EqSaid false w):=by
 obtain⟨k0,s,n,p,a,A,cap,rfl,rfl,_,_,_⟩:=nd_form h
 have u0:decide ((40:Int)<(d:Int))=true:=decide_eq_true ω
 obtain⟨W1,hW1⟩:∃q,Hid (q=w.alloc (.cells (cl k0 s n p A a.length cap).toArray 83)):=⟨_,rfl⟩
 have B0:Hid (Below w.heap.size w W1):=by show Below _ _ _;rw[hW1.o];exact belA (belR _) _
 clear h hd
 go_in
 go_upto_region 1 with fail
 rw[←hW1.o]
 go_wp2
 go_ret
 exact⟨rfl,B0.o⟩
theorem cns_any (t:Nd) (cs:List Value) (w:À) (h:NdR w (lo w) cs t):Calls prog 157 #[.agg cs.toArray] w (EqSaid (cnsB t) w):=by
 have hn:=h
 obtain⟨k,s,n,p,a,A,cap,rfl,rfl,_,hs,ha⟩:=nd_form h
 have HN:=η hn
 have lm:s.size≤9223372036854775807:=hs
 obtain⟨tot,HV⟩:∃q,Hid (q=cnsB (.mk k s n p a)):=⟨_,rfl⟩
 rw[←HV.o]
 obtain⟨W1,hW1⟩:∃q,Hid (q=w.alloc (.cells (cl k s n p A a.length cap).toArray 83)):=⟨_,rfl⟩
 have B0:Hid (Below w.heap.size w W1):=by show Below _ _ _;rw[hW1.o];exact belA (belR _) _
 have Y0:Hid (Hs W1 w.heap.size 83 (cl k s n p A a.length cap).toArray):=by show Hs _ _ _ _;rw[hW1.o];exact Hs.new _ _ _
 have x0:W1.cell? ⟨w.heap.size,0,none⟩=some (.int .i64 k):=Y0.o.c 0
 have x1:W1.cell? ⟨w.heap.size,1,none⟩=some (.string s):=Y0.o.c 1
 have x2:W1.cell? ⟨w.heap.size,2,none⟩=some (.int .i64 n):=Y0.o.c 2
 clear h ha hs hn
 go_in
 go_upto_region 1 with fail
 rw[←hW1.o]
 clear hW1
 by_cases c1:k=20
 · subst c1
   obtain⟨q1,h1⟩:∃q,(s.toList==[])=q:=⟨_,rfl⟩
   obtain⟨q2,h2⟩:∃q,decide (0≤n)=q:=⟨_,rfl⟩
   obtain⟨q3,h3⟩:∃q,decide (n≤9007199254740992)=q:=⟨_,rfl⟩
   have HQ:Hid (tot=(q1&&q2&&q3)):=by show _=_;rw[HV.o,←h1,←h2,←h3,str_eq];rfl
   cases q1 with
   | false=>go_wp2;go_ret;exact⟨by rw[HQ.o];rfl,B0.o⟩
   | true =>
    cases q2 with
    | false=>go_wp2;go_ret;exact⟨by rw[HQ.o];rfl,B0.o⟩
    | true =>
     cases q3 with
     | false=>go_wp2;go_ret;exact⟨by rw[HQ.o];rfl,B0.o⟩
     | true=>go_wp2;go_ret;exact⟨by rw[HQ.o];rfl,B0.o⟩
 · have v1:(k==20)=false:=beq_eq_false_iff_ne.2 c1
   by_cases c2:k=21
   · subst c2
     obtain⟨q1,h1⟩:∃q,(n==0)=q:=⟨_,rfl⟩
     obtain⟨q2,h2⟩:∃q,decide ((s.size:Int)≤4096)=q:=⟨_,rfl⟩
     have HQ:Hid (tot=(q1&&q2)):=by
      have e:decide (s.size≤4096)=decide ((s.size:Int)≤4096):=by by_cases h:s.size≤4096<;>simp[h]<;>omega
      show _=_;rw[HV.o,←h1,←h2,←e];rfl
     replace c1:=η c1
     cases q1 with
     | false=>go_wp2;go_ret;exact⟨by rw[HQ.o];rfl,B0.o⟩
     | true =>
      cases q2 with
      | false=>go_wp2;go_ret;exact⟨by rw[HQ.o];rfl,B0.o⟩
      | true=>go_wp2;go_ret;exact⟨by rw[HQ.o];rfl,B0.o⟩
   · have v2:(k==21)=false:=beq_eq_false_iff_ne.2 c2
     by_cases c3:k=22
     · subst c3
       obtain⟨q1,h1⟩:∃q,(s.toList==[])=q:=⟨_,rfl⟩
       obtain⟨q2,h2⟩:∃q,(n==0)=q:=⟨_,rfl⟩
       obtain⟨q3,h3⟩:∃q,(n==1)=q:=⟨_,rfl⟩
       have HQ:Hid (tot=(q1&&(q2||q3))):=by show _=_;rw[HV.o,←h1,←h2,←h3,str_eq];rfl
       replace c1:=η c1
       replace c2:=η c2
       cases q1 with
       | false=>go_wp2;go_ret;exact⟨by rw[HQ.o];rfl,B0.o⟩
       | true =>
        cases q2 with
        | true=>go_wp2;go_ret;exact⟨by rw[HQ.o];rfl,B0.o⟩
        | false =>
         cases q3 with
         | false=>go_wp2;go_ret;exact⟨by rw[HQ.o];rfl,B0.o⟩
         | true=>go_wp2;go_ret;exact⟨by rw[HQ.o];rfl,B0.o⟩
     · have v3:(k==22)=false:=beq_eq_false_iff_ne.2 c3
       by_cases c4:k=24
       · subst c4
         have HQ:Hid ((lowB (ndT (.mk 24 s n p a))&&ndN (.mk 24 s n p a)==0)=tot):=HV.o.symm
         replace c1:=η c1
         replace c2:=η c2
         replace c3:=η c3
         go_wp2_with (first|(refine lr5 Y0 ?_)|(go_at_call 99;refine (saidEq (named_any p_lowB _ _ _ (NdR.to HN.o (sub_lo B0.o))) HQ.o).mono ?_;rintro _ Z1 ⟨rfl,hb1⟩))
         go_ret
         exact⟨rfl,bel B0.o hb1⟩
       · have v4:(k==24)=false:=beq_eq_false_iff_ne.2 c4
         have HQ:Hid (bareB (.mk k s n p a)=tot):=by show _=_;rw[HV.o];simp[cnsB,ndK,c1,c2,c3,c4]
         replace c1:=η c1
         replace c2:=η c2
         replace c3:=η c3
         replace c4:=η c4
         go_wp2_with (first|(refine lr5 Y0 ?_)|(go_at_call 62;refine (saidEq (bare_any _ _ _ (NdR.to HN.o (sub_lo B0.o))) HQ.o).mono ?_;rintro _ Z1 ⟨rfl,hb1⟩))
         go_ret
         exact⟨rfl,bel B0.o hb1⟩
end Go.Proofs.YtbmknjfgjphfbaaGreatDoor
