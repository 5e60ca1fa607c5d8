import Derived.Test.YtbmknjfgjphfbaaGreatDoorZ25
set_option linter.all false
namespace Go.Proofs.YtbmknjfgjphfbaaGreatDoor
open Proofs.Tryz RowKit Maps WideMaps ChangeMaps
set_option maxRecDepth 100000
set_option maxHeartbeats 8000000
theorem exp_20 {k:Nat} (H:AllS k) (s:Ê) (n p:Int) (a:List Nd) (A:Option Addr) (cap d:Nat) (w:À) (hd:d+(k+1)=41) (hs:s.size≤maxLen) (hn:NdR w (lo w) (cl 20 s n p A a.length cap) (.mk 20 s n p a)):Calls prog 107 #[.agg (cl 20 s n p A a.length cap).toArray,.int .i64 (d:Int)] w (EqSaid ((a.length==0)&&cnsB (Nd.mk 20 s n p a)) w):=by
 have ha:=nd_kids hn
 have lm:a.length≤9223372036854775807:=ha.len.2
 have hd2:(d+1)+k=41:=by omega
 obtain⟨HH,HN,HA,HS,HD,HD0⟩:=zd6 H hn ha hs hd2 hd
 obtain⟨HW,HW2,HW3⟩:=dw5 d ω
 have u0:decide ((40:Int)<(d:Int))=false:=decide_eq_false ω
 obtain⟨W1,hW1,B0,Y0,x0,x1,x2,x3,x4⟩:=nb5 w 20 s n p A a.length cap
 obtain⟨q1,h1⟩:∃q,((a.length==0))=q:=⟨_,rfl⟩
 obtain⟨q2,h2⟩:∃q,(cnsB (Nd.mk 20 s n p a))=q:=⟨_,rfl⟩
 rw[h1,h2]
 have u1:((a.length:Int)==0)=q1:=(len0 _).trans h1
 clear h1
 have H2:=η h2
 clear h2
 clear hd hd2 hs hn ha
 go_in
 go_upto_region 1 with fail
 rw[←hW1.o]
 clear hW1
 cases q1 with
 | false =>
  go_wp2_with (refine lr5 Y0 ?_)
  go_ret
  exact⟨rfl,B0.o⟩
 | true =>
  cases q2<;>(go_wp2_with (first|(refine lr5 Y0 ?_)|(go_at_call 157;refine (saidEq (cns_any _ _ _ (NdR.to HN.o (sub_lo B0.o))) H2.o).mono ?_;rintro _ Z2 ⟨rfl,hb2⟩;obtain⟨B2,Y2,y20,y21,y22,y23,y24⟩:=nx5 B0 Y0 hb2));go_ret;exact⟨rfl,B2.o⟩)
theorem exp_21 {k:Nat} (H:AllS k) (s:Ê) (n p:Int) (a:List Nd) (A:Option Addr) (cap d:Nat) (w:À) (hd:d+(k+1)=41) (hs:s.size≤maxLen) (hn:NdR w (lo w) (cl 21 s n p A a.length cap) (.mk 21 s n p a)):Calls prog 107 #[.agg (cl 21 s n p A a.length cap).toArray,.int .i64 (d:Int)] w (EqSaid ((a.length==0)&&cnsB (Nd.mk 21 s n p a)) w):=by
 have ha:=nd_kids hn
 have lm:a.length≤9223372036854775807:=ha.len.2
 have hd2:(d+1)+k=41:=by omega
 obtain⟨HH,HN,HA,HS,HD,HD0⟩:=zd6 H hn ha hs hd2 hd
 obtain⟨HW,HW2,HW3⟩:=dw5 d ω
 have u0:decide ((40:Int)<(d:Int))=false:=decide_eq_false ω
 obtain⟨W1,hW1,B0,Y0,x0,x1,x2,x3,x4⟩:=nb5 w 21 s n p A a.length cap
 obtain⟨q1,h1⟩:∃q,((a.length==0))=q:=⟨_,rfl⟩
 obtain⟨q2,h2⟩:∃q,(cnsB (Nd.mk 21 s n p a))=q:=⟨_,rfl⟩
 rw[h1,h2]
 have u1:((a.length:Int)==0)=q1:=(len0 _).trans h1
 clear h1
 have H2:=η h2
 clear h2
 clear hd hd2 hs hn ha
 go_in
 go_upto_region 1 with fail
 rw[←hW1.o]
 clear hW1
 cases q1 with
 | false =>
  go_wp2_with (refine lr5 Y0 ?_)
  go_ret
  exact⟨rfl,B0.o⟩
 | true =>
  cases q2<;>(go_wp2_with (first|(refine lr5 Y0 ?_)|(go_at_call 157;refine (saidEq (cns_any _ _ _ (NdR.to HN.o (sub_lo B0.o))) H2.o).mono ?_;rintro _ Z2 ⟨rfl,hb2⟩;obtain⟨B2,Y2,y20,y21,y22,y23,y24⟩:=nx5 B0 Y0 hb2));go_ret;exact⟨rfl,B2.o⟩)
theorem exp_22 {k:Nat} (H:AllS k) (s:Ê) (n p:Int) (a:List Nd) (A:Option Addr) (cap d:Nat) (w:À) (hd:d+(k+1)=41) (hs:s.size≤maxLen) (hn:NdR w (lo w) (cl 22 s n p A a.length cap) (.mk 22 s n p a)):Calls prog 107 #[.agg (cl 22 s n p A a.length cap).toArray,.int .i64 (d:Int)] w (EqSaid ((a.length==0)&&cnsB (Nd.mk 22 s n p a)) w):=by
 have ha:=nd_kids hn
 have lm:a.length≤9223372036854775807:=ha.len.2
 have hd2:(d+1)+k=41:=by omega
 obtain⟨HH,HN,HA,HS,HD,HD0⟩:=zd6 H hn ha hs hd2 hd
 obtain⟨HW,HW2,HW3⟩:=dw5 d ω
 have u0:decide ((40:Int)<(d:Int))=false:=decide_eq_false ω
 obtain⟨W1,hW1,B0,Y0,x0,x1,x2,x3,x4⟩:=nb5 w 22 s n p A a.length cap
 obtain⟨q1,h1⟩:∃q,((a.length==0))=q:=⟨_,rfl⟩
 obtain⟨q2,h2⟩:∃q,(cnsB (Nd.mk 22 s n p a))=q:=⟨_,rfl⟩
 rw[h1,h2]
 have u1:((a.length:Int)==0)=q1:=(len0 _).trans h1
 clear h1
 have H2:=η h2
 clear h2
 clear hd hd2 hs hn ha
 go_in
 go_upto_region 1 with fail
 rw[←hW1.o]
 clear hW1
 cases q1 with
 | false =>
  go_wp2_with (refine lr5 Y0 ?_)
  go_ret
  exact⟨rfl,B0.o⟩
 | true =>
  cases q2<;>(go_wp2_with (first|(refine lr5 Y0 ?_)|(go_at_call 157;refine (saidEq (cns_any _ _ _ (NdR.to HN.o (sub_lo B0.o))) H2.o).mono ?_;rintro _ Z2 ⟨rfl,hb2⟩;obtain⟨B2,Y2,y20,y21,y22,y23,y24⟩:=nx5 B0 Y0 hb2));go_ret;exact⟨rfl,B2.o⟩)
theorem exp_23 {k:Nat} (H:AllS k) (s:Ê) (n p:Int) (a:List Nd) (A:Option Addr) (cap d:Nat) (w:À) (hd:d+(k+1)=41) (hs:s.size≤maxLen) (hn:NdR w (lo w) (cl 23 s n p A a.length cap) (.mk 23 s n p a)):Calls prog 107 #[.agg (cl 23 s n p A a.length cap).toArray,.int .i64 (d:Int)] w (EqSaid ((a.length==0)&&cnsB (Nd.mk 23 s n p a)) w):=by
 have ha:=nd_kids hn
 have lm:a.length≤9223372036854775807:=ha.len.2
 have hd2:(d+1)+k=41:=by omega
 obtain⟨HH,HN,HA,HS,HD,HD0⟩:=zd6 H hn ha hs hd2 hd
 obtain⟨HW,HW2,HW3⟩:=dw5 d ω
 have u0:decide ((40:Int)<(d:Int))=false:=decide_eq_false ω
 obtain⟨W1,hW1,B0,Y0,x0,x1,x2,x3,x4⟩:=nb5 w 23 s n p A a.length cap
 obtain⟨q1,h1⟩:∃q,((a.length==0))=q:=⟨_,rfl⟩
 obtain⟨q2,h2⟩:∃q,(cnsB (Nd.mk 23 s n p a))=q:=⟨_,rfl⟩
 rw[h1,h2]
 have u1:((a.length:Int)==0)=q1:=(len0 _).trans h1
 clear h1
 have H2:=η h2
 clear h2
 clear hd hd2 hs hn ha
 go_in
 go_upto_region 1 with fail
 rw[←hW1.o]
 clear hW1
 cases q1 with
 | false =>
  go_wp2_with (refine lr5 Y0 ?_)
  go_ret
  exact⟨rfl,B0.o⟩
 | true =>
  cases q2<;>(go_wp2_with (first|(refine lr5 Y0 ?_)|(go_at_call 157;refine (saidEq (cns_any _ _ _ (NdR.to HN.o (sub_lo B0.o))) H2.o).mono ?_;rintro _ Z2 ⟨rfl,hb2⟩;obtain⟨B2,Y2,y20,y21,y22,y23,y24⟩:=nx5 B0 Y0 hb2));go_ret;exact⟨rfl,B2.o⟩)
theorem exp_24 {k:Nat} (H:AllS k) (s:Ê) (n p:Int) (a:List Nd) (A:Option Addr) (cap d:Nat) (w:À) (hd:d+(k+1)=41) (hs:s.size≤maxLen) (hn:NdR w (lo w) (cl 24 s n p A a.length cap) (.mk 24 s n p a)):Calls prog 107 #[.agg (cl 24 s n p A a.length cap).toArray,.int .i64 (d:Int)] w (EqSaid ((a.length==0)&&cnsB (Nd.mk 24 s n p a)) w):=by
 have ha:=nd_kids hn
 have lm:a.length≤9223372036854775807:=ha.len.2
 have hd2:(d+1)+k=41:=by omega
 obtain⟨HH,HN,HA,HS,HD,HD0⟩:=zd6 H hn ha hs hd2 hd
 obtain⟨HW,HW2,HW3⟩:=dw5 d ω
 have u0:decide ((40:Int)<(d:Int))=false:=decide_eq_false ω
 obtain⟨W1,hW1,B0,Y0,x0,x1,x2,x3,x4⟩:=nb5 w 24 s n p A a.length cap
 obtain⟨q1,h1⟩:∃q,((a.length==0))=q:=⟨_,rfl⟩
 obtain⟨q2,h2⟩:∃q,(cnsB (Nd.mk 24 s n p a))=q:=⟨_,rfl⟩
 rw[h1,h2]
 have u1:((a.length:Int)==0)=q1:=(len0 _).trans h1
 clear h1
 have H2:=η h2
 clear h2
 clear hd hd2 hs hn ha
 go_in
 go_upto_region 1 with fail
 rw[←hW1.o]
 clear hW1
 cases q1 with
 | false =>
  go_wp2_with (refine lr5 Y0 ?_)
  go_ret
  exact⟨rfl,B0.o⟩
 | true =>
  cases q2<;>(go_wp2_with (first|(refine lr5 Y0 ?_)|(go_at_call 157;refine (saidEq (cns_any _ _ _ (NdR.to HN.o (sub_lo B0.o))) H2.o).mono ?_;rintro _ Z2 ⟨rfl,hb2⟩;obtain⟨B2,Y2,y20,y21,y22,y23,y24⟩:=nx5 B0 Y0 hb2));go_ret;exact⟨rfl,B2.o⟩)
theorem exp_25 {k:Nat} (H:AllS k) (s:Ê) (n p:Int) (a:List Nd) (A:Option Addr) (cap d:Nat) (w:À) (hd:d+(k+1)=41) (hs:s.size≤maxLen) (hn:NdR w (lo w) (cl 25 s n p A a.length cap) (.mk 25 s n p a)):Calls prog 107 #[.agg (cl 25 s n p A a.length cap).toArray,.int .i64 (d:Int)] w (EqSaid ((a.length==0)&&cnsB (Nd.mk 25 s n p a)) w):=by
 have ha:=nd_kids hn
 have lm:a.length≤9223372036854775807:=ha.len.2
 have hd2:(d+1)+k=41:=by omega
 obtain⟨HH,HN,HA,HS,HD,HD0⟩:=zd6 H hn ha hs hd2 hd
 obtain⟨HW,HW2,HW3⟩:=dw5 d ω
 have u0:decide ((40:Int)<(d:Int))=false:=decide_eq_false ω
 obtain⟨W1,hW1,B0,Y0,x0,x1,x2,x3,x4⟩:=nb5 w 25 s n p A a.length cap
 obtain⟨q1,h1⟩:∃q,((a.length==0))=q:=⟨_,rfl⟩
 obtain⟨q2,h2⟩:∃q,(cnsB (Nd.mk 25 s n p a))=q:=⟨_,rfl⟩
 rw[h1,h2]
 have u1:((a.length:Int)==0)=q1:=(len0 _).trans h1
 clear h1
 have H2:=η h2
 clear h2
 clear hd hd2 hs hn ha
 go_in
 go_upto_region 1 with fail
 rw[←hW1.o]
 clear hW1
 cases q1 with
 | false =>
  go_wp2_with (refine lr5 Y0 ?_)
  go_ret
  exact⟨rfl,B0.o⟩
 | true =>
  cases q2<;>(go_wp2_with (first|(refine lr5 Y0 ?_)|(go_at_call 157;refine (saidEq (cns_any _ _ _ (NdR.to HN.o (sub_lo B0.o))) H2.o).mono ?_;rintro _ Z2 ⟨rfl,hb2⟩;obtain⟨B2,Y2,y20,y21,y22,y23,y24⟩:=nx5 B0 Y0 hb2));go_ret;exact⟨rfl,B2.o⟩)
theorem exp_26 {k:Nat} (H:AllS k) (s:Ê) (n p:Int) (a:List Nd) (A:Option Addr) (cap d:Nat) (w:À) (hd:d+(k+1)=41) (hs:s.size≤maxLen) (hn:NdR w (lo w) (cl 26 s n p A a.length cap) (.mk 26 s n p a)):Calls prog 107 #[.agg (cl 26 s n p A a.length cap).toArray,.int .i64 (d:Int)] w (EqSaid (bareB (Nd.mk 26 s n p a)&&a.all (shp k .exp)) w):=by
 have ha:=nd_kids hn
 have lm:a.length≤9223372036854775807:=ha.len.2
 have hd2:(d+1)+k=41:=by omega
 obtain⟨HH,HN,HA,HS,HD,HD0⟩:=zd6 H hn ha hs hd2 hd
 obtain⟨HW,HW2,HW3⟩:=dw5 d ω
 have u0:decide ((40:Int)<(d:Int))=false:=decide_eq_false ω
 obtain⟨W1,hW1,B0,Y0,x0,x1,x2,x3,x4⟩:=nb5 w 26 s n p A a.length cap
 obtain⟨q1,h1⟩:∃q,(bareB (Nd.mk 26 s n p a))=q:=⟨_,rfl⟩
 obtain⟨q2,h2⟩:∃q,(a.all (shp k .exp))=q:=⟨_,rfl⟩
 rw[h1,h2]
 have H1:=η h1
 clear h1
 have H2:=η h2
 clear h2
 clear hd hd2 hs hn ha
 go_in
 go_upto_region 1 with fail
 rw[←hW1.o]
 clear hW1
 cases q1 with
 | false =>
  go_wp2_with (first|(refine lr5 Y0 ?_)|(go_at_call 62;refine (saidEq (bare_any _ _ _ (NdR.to HN.o (sub_lo B0.o))) H1.o).mono ?_;rintro _ Z1 ⟨rfl,hb1⟩;obtain⟨B1,Y1,y10,y11,y12,y13,y14⟩:=nx5 B0 Y0 hb1))
  go_ret
  exact⟨rfl,B1.o⟩
 | true =>
  cases q2<;>(go_wp2_with (first|(refine lr5 Y0 ?_)|(go_at_call 62;refine (saidEq (bare_any _ _ _ (NdR.to HN.o (sub_lo B0.o))) H1.o).mono ?_;rintro _ Z1 ⟨rfl,hb1⟩;obtain⟨B1,Y1,y10,y11,y12,y13,y14⟩:=nx5 B0 Y0 hb1)|(go_at_call 101;(first|rw[HW.o]|rw[HW2.o]|rw[HW3.o]|skip);refine (saidEq (all_call HH.o .exp rfl HD.o (NdsR.to HA.o (sub_lo B1.o))) H2.o).mono ?_;rintro _ Z2 ⟨rfl,hb2⟩;obtain⟨B2,Y2,y20,y21,y22,y23,y24⟩:=nx5 B1 Y1 hb2));go_ret;exact⟨rfl,B2.o⟩)
theorem exp_27 {k:Nat} (H:AllS k) (s:Ê) (n p:Int) (a:List Nd) (A:Option Addr) (cap d:Nat) (w:À) (hd:d+(k+1)=41) (hs:s.size≤maxLen) (hn:NdR w (lo w) (cl 27 s n p A a.length cap) (.mk 27 s n p a)):Calls prog 107 #[.agg (cl 27 s n p A a.length cap).toArray,.int .i64 (d:Int)] w (EqSaid ((uppB (ndT (Nd.mk 27 s n p a))&&ndN (Nd.mk 27 s n p a)==0)&&a.all (shp k .set)) w):=by
 have ha:=nd_kids hn
 have lm:a.length≤9223372036854775807:=ha.len.2
 have hd2:(d+1)+k=41:=by omega
 obtain⟨HH,HN,HA,HS,HD,HD0⟩:=zd6 H hn ha hs hd2 hd
 obtain⟨HW,HW2,HW3⟩:=dw5 d ω
 have u0:decide ((40:Int)<(d:Int))=false:=decide_eq_false ω
 obtain⟨W1,hW1,B0,Y0,x0,x1,x2,x3,x4⟩:=nb5 w 27 s n p A a.length cap
 obtain⟨q1,h1⟩:∃q,((uppB (ndT (Nd.mk 27 s n p a))&&ndN (Nd.mk 27 s n p a)==0))=q:=⟨_,rfl⟩
 obtain⟨q2,h2⟩:∃q,(a.all (shp k .set))=q:=⟨_,rfl⟩
 rw[h1,h2]
 have H1:=η h1
 clear h1
 have H2:=η h2
 clear h2
 clear hd hd2 hs hn ha
 go_in
 go_upto_region 1 with fail
 rw[←hW1.o]
 clear hW1
 cases q1 with
 | false =>
  go_wp2_with (first|(refine lr5 Y0 ?_)|(go_at_call 99;refine (saidEq (named_any p_uppB _ _ _ (NdR.to HN.o (sub_lo B0.o))) H1.o).mono ?_;rintro _ Z1 ⟨rfl,hb1⟩;obtain⟨B1,Y1,y10,y11,y12,y13,y14⟩:=nx5 B0 Y0 hb1))
  go_ret
  exact⟨rfl,B1.o⟩
 | true =>
  cases q2<;>(go_wp2_with (first|(refine lr5 Y0 ?_)|(go_at_call 99;refine (saidEq (named_any p_uppB _ _ _ (NdR.to HN.o (sub_lo B0.o))) H1.o).mono ?_;rintro _ Z1 ⟨rfl,hb1⟩;obtain⟨B1,Y1,y10,y11,y12,y13,y14⟩:=nx5 B0 Y0 hb1)|(go_at_call 101;(first|rw[HW.o]|rw[HW2.o]|rw[HW3.o]|skip);refine (saidEq (all_call HH.o .set rfl HD.o (NdsR.to HA.o (sub_lo B1.o))) H2.o).mono ?_;rintro _ Z2 ⟨rfl,hb2⟩;obtain⟨B2,Y2,y20,y21,y22,y23,y24⟩:=nx5 B1 Y1 hb2));go_ret;exact⟨rfl,B2.o⟩)
theorem exp_29 {k:Nat} (H:AllS k) (s:Ê) (n p:Int) (a:List Nd) (A:Option Addr) (cap d:Nat) (w:À) (hd:d+(k+1)=41) (hs:s.size≤maxLen) (hn:NdR w (lo w) (cl 29 s n p A a.length cap) (.mk 29 s n p a)):Calls prog 107 #[.agg (cl 29 s n p A a.length cap).toArray,.int .i64 (d:Int)] w (EqSaid ((uppB (ndT (Nd.mk 29 s n p a))&&ndN (Nd.mk 29 s n p a)==0)&&a.all (shp k .exp)) w):=by
 have ha:=nd_kids hn
 have lm:a.length≤9223372036854775807:=ha.len.2
 have hd2:(d+1)+k=41:=by omega
 obtain⟨HH,HN,HA,HS,HD,HD0⟩:=zd6 H hn ha hs hd2 hd
 obtain⟨HW,HW2,HW3⟩:=dw5 d ω
 have u0:decide ((40:Int)<(d:Int))=false:=decide_eq_false ω
 obtain⟨W1,hW1,B0,Y0,x0,x1,x2,x3,x4⟩:=nb5 w 29 s n p A a.length cap
 obtain⟨q1,h1⟩:∃q,((uppB (ndT (Nd.mk 29 s n p a))&&ndN (Nd.mk 29 s n p a)==0))=q:=⟨_,rfl⟩
 obtain⟨q2,h2⟩:∃q,(a.all (shp k .exp))=q:=⟨_,rfl⟩
 rw[h1,h2]
 have H1:=η h1
 clear h1
 have H2:=η h2
 clear h2
 clear hd hd2 hs hn ha
 go_in
 go_upto_region 1 with fail
 rw[←hW1.o]
 clear hW1
 cases q1 with
 | false =>
  go_wp2_with (first|(refine lr5 Y0 ?_)|(go_at_call 99;refine (saidEq (named_any p_uppB _ _ _ (NdR.to HN.o (sub_lo B0.o))) H1.o).mono ?_;rintro _ Z1 ⟨rfl,hb1⟩;obtain⟨B1,Y1,y10,y11,y12,y13,y14⟩:=nx5 B0 Y0 hb1))
  go_ret
  exact⟨rfl,B1.o⟩
 | true =>
  cases q2<;>(go_wp2_with (first|(refine lr5 Y0 ?_)|(go_at_call 99;refine (saidEq (named_any p_uppB _ _ _ (NdR.to HN.o (sub_lo B0.o))) H1.o).mono ?_;rintro _ Z1 ⟨rfl,hb1⟩;obtain⟨B1,Y1,y10,y11,y12,y13,y14⟩:=nx5 B0 Y0 hb1)|(go_at_call 101;(first|rw[HW.o]|rw[HW2.o]|rw[HW3.o]|skip);refine (saidEq (all_call HH.o .exp rfl HD.o (NdsR.to HA.o (sub_lo B1.o))) H2.o).mono ?_;rintro _ Z2 ⟨rfl,hb2⟩;obtain⟨B2,Y2,y20,y21,y22,y23,y24⟩:=nx5 B1 Y1 hb2));go_ret;exact⟨rfl,B2.o⟩)
theorem exp_30 {k:Nat} (H:AllS k) (s:Ê) (n p:Int) (a:List Nd) (A:Option Addr) (cap d:Nat) (w:À) (hd:d+(k+1)=41) (hs:s.size≤maxLen) (hn:NdR w (lo w) (cl 30 s n p A a.length cap) (.mk 30 s n p a)):Calls prog 107 #[.agg (cl 30 s n p A a.length cap).toArray,.int .i64 (d:Int)] w (EqSaid ((lowB (ndT (Nd.mk 30 s n p a))&&ndN (Nd.mk 30 s n p a)==0)&&serB (shp k) a [.exp]) w):=by
 have ha:=nd_kids hn
 have lm:a.length≤9223372036854775807:=ha.len.2
 have hd2:(d+1)+k=41:=by omega
 obtain⟨HH,HN,HA,HS,HD,HD0⟩:=zd6 H hn ha hs hd2 hd
 obtain⟨HW,HW2,HW3⟩:=dw5 d ω
 have u0:decide ((40:Int)<(d:Int))=false:=decide_eq_false ω
 obtain⟨W1,hW1,B0,Y0,x0,x1,x2,x3,x4⟩:=nb5 w 30 s n p A a.length cap
 obtain⟨q1,h1⟩:∃q,((lowB (ndT (Nd.mk 30 s n p a))&&ndN (Nd.mk 30 s n p a)==0))=q:=⟨_,rfl⟩
 obtain⟨q2,h2⟩:∃q,(serB (shp k) a [.exp])=q:=⟨_,rfl⟩
 rw[h1,h2]
 have H1:=η h1
 clear h1
 have H2:=η h2
 clear h2
 clear hd hd2 hs hn ha
 go_in
 go_upto_region 1 with fail
 rw[←hW1.o]
 clear hW1
 cases q1 with
 | false =>
  go_wp2_with (first|(refine lr5 Y0 ?_)|(go_at_call 99;refine (saidEq (named_any p_lowB _ _ _ (NdR.to HN.o (sub_lo B0.o))) H1.o).mono ?_;rintro _ Z1 ⟨rfl,hb1⟩;obtain⟨B1,Y1,y10,y11,y12,y13,y14⟩:=nx5 B0 Y0 hb1))
  go_ret
  exact⟨rfl,B1.o⟩
 | true =>
  cases q2<;>(go_wp2_with (first|(refine lr5 Y0 ?_)|(go_at_call 99;refine (saidEq (named_any p_lowB _ _ _ (NdR.to HN.o (sub_lo B0.o))) H1.o).mono ?_;rintro _ Z1 ⟨rfl,hb1⟩;obtain⟨B1,Y1,y10,y11,y12,y13,y14⟩:=nx5 B0 Y0 hb1)|(go_at_call 154;(first|rw[HW.o]|rw[HW2.o]|rw[HW3.o]|skip);refine (saidEq (ser_call HH.o [.exp] π π HD.o (NdsR.to HA.o (sub_lo B1.o))) H2.o).mono ?_;rintro _ Z2 ⟨rfl,hb2⟩;obtain⟨B2,Y2,y20,y21,y22,y23,y24⟩:=nx5 B1 Y1 hb2));go_ret;exact⟨rfl,B2.o⟩)
theorem exp_31 {k:Nat} (H:AllS k) (s:Ê) (n p:Int) (a:List Nd) (A:Option Addr) (cap d:Nat) (w:À) (hd:d+(k+1)=41) (hs:s.size≤maxLen) (hn:NdR w (lo w) (cl 31 s n p A a.length cap) (.mk 31 s n p a)):Calls prog 107 #[.agg (cl 31 s n p A a.length cap).toArray,.int .i64 (d:Int)] w (EqSaid (bareB (Nd.mk 31 s n p a)&&decide (1<a.length)&&begB (shp k) .exp .set a) w):=by
 have ha:=nd_kids hn
 have lm:a.length≤9223372036854775807:=ha.len.2
 have hd2:(d+1)+k=41:=by omega
 obtain⟨HH,HN,HA,HS,HD,HD0⟩:=zd6 H hn ha hs hd2 hd
 obtain⟨HW,HW2,HW3⟩:=dw5 d ω
 have u0:decide ((40:Int)<(d:Int))=false:=decide_eq_false ω
 obtain⟨W1,hW1,B0,Y0,x0,x1,x2,x3,x4⟩:=nb5 w 31 s n p A a.length cap
 obtain⟨q1,h1⟩:∃q,(bareB (Nd.mk 31 s n p a))=q:=⟨_,rfl⟩
 obtain⟨q2,h2⟩:∃q,(decide (1<a.length))=q:=⟨_,rfl⟩
 obtain⟨q3,h3⟩:∃q,(begB (shp k) .exp .set a)=q:=⟨_,rfl⟩
 rw[h1,h2,h3]
 have H1:=η h1
 clear h1
 have u2:decide ((1:Int)<(a.length:Int))=q2:=(lenlt 1 _).trans h2
 clear h2
 have H3:=η h3
 clear h3
 clear hd hd2 hs hn ha
 go_in
 go_upto_region 1 with fail
 rw[←hW1.o]
 clear hW1
 cases q1 with
 | false =>
  go_wp2_with (first|(refine lr5 Y0 ?_)|(go_at_call 62;refine (saidEq (bare_any _ _ _ (NdR.to HN.o (sub_lo B0.o))) H1.o).mono ?_;rintro _ Z1 ⟨rfl,hb1⟩;obtain⟨B1,Y1,y10,y11,y12,y13,y14⟩:=nx5 B0 Y0 hb1))
  go_ret
  exact⟨rfl,B1.o⟩
 | true =>
  cases q2 with
  | false =>
   go_wp2_with (first|(refine lr5 Y0 ?_)|(go_at_call 62;refine (saidEq (bare_any _ _ _ (NdR.to HN.o (sub_lo B0.o))) H1.o).mono ?_;rintro _ Z1 ⟨rfl,hb1⟩;obtain⟨B1,Y1,y10,y11,y12,y13,y14⟩:=nx5 B0 Y0 hb1))
   go_ret
   exact⟨rfl,B1.o⟩
  | true =>
   cases q3<;>(go_wp2_with (first|(refine lr5 Y0 ?_)|(go_at_call 62;refine (saidEq (bare_any _ _ _ (NdR.to HN.o (sub_lo B0.o))) H1.o).mono ?_;rintro _ Z1 ⟨rfl,hb1⟩;obtain⟨B1,Y1,y10,y11,y12,y13,y14⟩:=nx5 B0 Y0 hb1)|(go_at_call 158;(first|rw[HW.o]|rw[HW2.o]|rw[HW3.o]|skip);refine (saidEq (beg_call HH.o .exp .set rfl rfl HD.o (NdsR.to HA.o (sub_lo B1.o))) H3.o).mono ?_;rintro _ Z3 ⟨rfl,hb3⟩;obtain⟨B3,Y3,y30,y31,y32,y33,y34⟩:=nx5 B1 Y1 hb3));go_ret;exact⟨rfl,B3.o⟩)
theorem exp_32 {k:Nat} (H:AllS k) (s:Ê) (n p:Int) (a:List Nd) (A:Option Addr) (cap d:Nat) (w:À) (hd:d+(k+1)=41) (hs:s.size≤maxLen) (hn:NdR w (lo w) (cl 32 s n p A a.length cap) (.mk 32 s n p a)):Calls prog 107 #[.agg (cl 32 s n p A a.length cap).toArray,.int .i64 (d:Int)] w (EqSaid (bareB (Nd.mk 32 s n p a)&&begB (shp k) .exp .exp a) w):=by
 have ha:=nd_kids hn
 have lm:a.length≤9223372036854775807:=ha.len.2
 have hd2:(d+1)+k=41:=by omega
 obtain⟨HH,HN,HA,HS,HD,HD0⟩:=zd6 H hn ha hs hd2 hd
 obtain⟨HW,HW2,HW3⟩:=dw5 d ω
 have u0:decide ((40:Int)<(d:Int))=false:=decide_eq_false ω
 obtain⟨W1,hW1,B0,Y0,x0,x1,x2,x3,x4⟩:=nb5 w 32 s n p A a.length cap
 obtain⟨q1,h1⟩:∃q,(bareB (Nd.mk 32 s n p a))=q:=⟨_,rfl⟩
 obtain⟨q2,h2⟩:∃q,(begB (shp k) .exp .exp a)=q:=⟨_,rfl⟩
 rw[h1,h2]
 have H1:=η h1
 clear h1
 have H2:=η h2
 clear h2
 clear hd hd2 hs hn ha
 go_in
 go_upto_region 1 with fail
 rw[←hW1.o]
 clear hW1
 cases q1 with
 | false =>
  go_wp2_with (first|(refine lr5 Y0 ?_)|(go_at_call 62;refine (saidEq (bare_any _ _ _ (NdR.to HN.o (sub_lo B0.o))) H1.o).mono ?_;rintro _ Z1 ⟨rfl,hb1⟩;obtain⟨B1,Y1,y10,y11,y12,y13,y14⟩:=nx5 B0 Y0 hb1))
  go_ret
  exact⟨rfl,B1.o⟩
 | true =>
  cases q2<;>(go_wp2_with (first|(refine lr5 Y0 ?_)|(go_at_call 62;refine (saidEq (bare_any _ _ _ (NdR.to HN.o (sub_lo B0.o))) H1.o).mono ?_;rintro _ Z1 ⟨rfl,hb1⟩;obtain⟨B1,Y1,y10,y11,y12,y13,y14⟩:=nx5 B0 Y0 hb1)|(go_at_call 158;(first|rw[HW.o]|rw[HW2.o]|rw[HW3.o]|skip);refine (saidEq (beg_call HH.o .exp .exp rfl rfl HD.o (NdsR.to HA.o (sub_lo B1.o))) H2.o).mono ?_;rintro _ Z2 ⟨rfl,hb2⟩;obtain⟨B2,Y2,y20,y21,y22,y23,y24⟩:=nx5 B1 Y1 hb2));go_ret;exact⟨rfl,B2.o⟩)
theorem exp_33 {k:Nat} (H:AllS k) (s:Ê) (n p:Int) (a:List Nd) (A:Option Addr) (cap d:Nat) (w:À) (hd:d+(k+1)=41) (hs:s.size≤maxLen) (hn:NdR w (lo w) (cl 33 s n p A a.length cap) (.mk 33 s n p a)):Calls prog 107 #[.agg (cl 33 s n p A a.length cap).toArray,.int .i64 (d:Int)] w (EqSaid (bareB (Nd.mk 33 s n p a)&&serB (shp k) a [.exp]) w):=by
 have ha:=nd_kids hn
 have lm:a.length≤9223372036854775807:=ha.len.2
 have hd2:(d+1)+k=41:=by omega
 obtain⟨HH,HN,HA,HS,HD,HD0⟩:=zd6 H hn ha hs hd2 hd
 obtain⟨HW,HW2,HW3⟩:=dw5 d ω
 have u0:decide ((40:Int)<(d:Int))=false:=decide_eq_false ω
 obtain⟨W1,hW1,B0,Y0,x0,x1,x2,x3,x4⟩:=nb5 w 33 s n p A a.length cap
 obtain⟨q1,h1⟩:∃q,(bareB (Nd.mk 33 s n p a))=q:=⟨_,rfl⟩
 obtain⟨q2,h2⟩:∃q,(serB (shp k) a [.exp])=q:=⟨_,rfl⟩
 rw[h1,h2]
 have H1:=η h1
 clear h1
 have H2:=η h2
 clear h2
 clear hd hd2 hs hn ha
 go_in
 go_upto_region 1 with fail
 rw[←hW1.o]
 clear hW1
 cases q1 with
 | false =>
  go_wp2_with (first|(refine lr5 Y0 ?_)|(go_at_call 62;refine (saidEq (bare_any _ _ _ (NdR.to HN.o (sub_lo B0.o))) H1.o).mono ?_;rintro _ Z1 ⟨rfl,hb1⟩;obtain⟨B1,Y1,y10,y11,y12,y13,y14⟩:=nx5 B0 Y0 hb1))
  go_ret
  exact⟨rfl,B1.o⟩
 | true =>
  cases q2<;>(go_wp2_with (first|(refine lr5 Y0 ?_)|(go_at_call 62;refine (saidEq (bare_any _ _ _ (NdR.to HN.o (sub_lo B0.o))) H1.o).mono ?_;rintro _ Z1 ⟨rfl,hb1⟩;obtain⟨B1,Y1,y10,y11,y12,y13,y14⟩:=nx5 B0 Y0 hb1)|(go_at_call 154;(first|rw[HW.o]|rw[HW2.o]|rw[HW3.o]|skip);refine (saidEq (ser_call HH.o [.exp] π π HD.o (NdsR.to HA.o (sub_lo B1.o))) H2.o).mono ?_;rintro _ Z2 ⟨rfl,hb2⟩;obtain⟨B2,Y2,y20,y21,y22,y23,y24⟩:=nx5 B1 Y1 hb2));go_ret;exact⟨rfl,B2.o⟩)
theorem exp_34 {k:Nat} (H:AllS k) (s:Ê) (n p:Int) (a:List Nd) (A:Option Addr) (cap d:Nat) (w:À) (hd:d+(k+1)=41) (hs:s.size≤maxLen) (hn:NdR w (lo w) (cl 34 s n p A a.length cap) (.mk 34 s n p a)):Calls prog 107 #[.agg (cl 34 s n p A a.length cap).toArray,.int .i64 (d:Int)] w (EqSaid (bareB (Nd.mk 34 s n p a)&&serB (shp k) a [.exp]) w):=by
 have ha:=nd_kids hn
 have lm:a.length≤9223372036854775807:=ha.len.2
 have hd2:(d+1)+k=41:=by omega
 obtain⟨HH,HN,HA,HS,HD,HD0⟩:=zd6 H hn ha hs hd2 hd
 obtain⟨HW,HW2,HW3⟩:=dw5 d ω
 have u0:decide ((40:Int)<(d:Int))=false:=decide_eq_false ω
 obtain⟨W1,hW1,B0,Y0,x0,x1,x2,x3,x4⟩:=nb5 w 34 s n p A a.length cap
 obtain⟨q1,h1⟩:∃q,(bareB (Nd.mk 34 s n p a))=q:=⟨_,rfl⟩
 obtain⟨q2,h2⟩:∃q,(serB (shp k) a [.exp])=q:=⟨_,rfl⟩
 rw[h1,h2]
 have H1:=η h1
 clear h1
 have H2:=η h2
 clear h2
 clear hd hd2 hs hn ha
 go_in
 go_upto_region 1 with fail
 rw[←hW1.o]
 clear hW1
 cases q1 with
 | false =>
  go_wp2_with (first|(refine lr5 Y0 ?_)|(go_at_call 62;refine (saidEq (bare_any _ _ _ (NdR.to HN.o (sub_lo B0.o))) H1.o).mono ?_;rintro _ Z1 ⟨rfl,hb1⟩;obtain⟨B1,Y1,y10,y11,y12,y13,y14⟩:=nx5 B0 Y0 hb1))
  go_ret
  exact⟨rfl,B1.o⟩
 | true =>
  cases q2<;>(go_wp2_with (first|(refine lr5 Y0 ?_)|(go_at_call 62;refine (saidEq (bare_any _ _ _ (NdR.to HN.o (sub_lo B0.o))) H1.o).mono ?_;rintro _ Z1 ⟨rfl,hb1⟩;obtain⟨B1,Y1,y10,y11,y12,y13,y14⟩:=nx5 B0 Y0 hb1)|(go_at_call 154;(first|rw[HW.o]|rw[HW2.o]|rw[HW3.o]|skip);refine (saidEq (ser_call HH.o [.exp] π π HD.o (NdsR.to HA.o (sub_lo B1.o))) H2.o).mono ?_;rintro _ Z2 ⟨rfl,hb2⟩;obtain⟨B2,Y2,y20,y21,y22,y23,y24⟩:=nx5 B1 Y1 hb2));go_ret;exact⟨rfl,B2.o⟩)
theorem exp_36 {k:Nat} (H:AllS k) (s:Ê) (n p:Int) (a:List Nd) (A:Option Addr) (cap d:Nat) (w:À) (hd:d+(k+1)=41) (hs:s.size≤maxLen) (hn:NdR w (lo w) (cl 36 s n p A a.length cap) (.mk 36 s n p a)):Calls prog 107 #[.agg (cl 36 s n p A a.length cap).toArray,.int .i64 (d:Int)] w (EqSaid (bareB (Nd.mk 36 s n p a)&&serB (shp k) a [.exp,.exp,.exp]) w):=by
 have ha:=nd_kids hn
 have lm:a.length≤9223372036854775807:=ha.len.2
 have hd2:(d+1)+k=41:=by omega
 obtain⟨HH,HN,HA,HS,HD,HD0⟩:=zd6 H hn ha hs hd2 hd
 obtain⟨HW,HW2,HW3⟩:=dw5 d ω
 have u0:decide ((40:Int)<(d:Int))=false:=decide_eq_false ω
 obtain⟨W1,hW1,B0,Y0,x0,x1,x2,x3,x4⟩:=nb5 w 36 s n p A a.length cap
 obtain⟨q1,h1⟩:∃q,(bareB (Nd.mk 36 s n p a))=q:=⟨_,rfl⟩
 obtain⟨q2,h2⟩:∃q,(serB (shp k) a [.exp,.exp,.exp])=q:=⟨_,rfl⟩
 rw[h1,h2]
 have H1:=η h1
 clear h1
 have H2:=η h2
 clear h2
 clear hd hd2 hs hn ha
 go_in
 go_upto_region 1 with fail
 rw[←hW1.o]
 clear hW1
 cases q1 with
 | false =>
  go_wp2_with (first|(refine lr5 Y0 ?_)|(go_at_call 62;refine (saidEq (bare_any _ _ _ (NdR.to HN.o (sub_lo B0.o))) H1.o).mono ?_;rintro _ Z1 ⟨rfl,hb1⟩;obtain⟨B1,Y1,y10,y11,y12,y13,y14⟩:=nx5 B0 Y0 hb1))
  go_ret
  exact⟨rfl,B1.o⟩
 | true =>
  cases q2<;>(go_wp2_with (first|(refine lr5 Y0 ?_)|(go_at_call 62;refine (saidEq (bare_any _ _ _ (NdR.to HN.o (sub_lo B0.o))) H1.o).mono ?_;rintro _ Z1 ⟨rfl,hb1⟩;obtain⟨B1,Y1,y10,y11,y12,y13,y14⟩:=nx5 B0 Y0 hb1)|(go_at_call 154;(first|rw[HW.o]|rw[HW2.o]|rw[HW3.o]|skip);refine (saidEq (ser_call HH.o [.exp,.exp,.exp] π π HD.o (NdsR.to HA.o (sub_lo B1.o))) H2.o).mono ?_;rintro _ Z2 ⟨rfl,hb2⟩;obtain⟨B2,Y2,y20,y21,y22,y23,y24⟩:=nx5 B1 Y1 hb2));go_ret;exact⟨rfl,B2.o⟩)
theorem exp_37 {k:Nat} (H:AllS k) (s:Ê) (n p:Int) (a:List Nd) (A:Option Addr) (cap d:Nat) (w:À) (hd:d+(k+1)=41) (hs:s.size≤maxLen) (hn:NdR w (lo w) (cl 37 s n p A a.length cap) (.mk 37 s n p a)):Calls prog 107 #[.agg (cl 37 s n p A a.length cap).toArray,.int .i64 (d:Int)] w (EqSaid ((lowB (ndT (Nd.mk 37 s n p a))&&ndN (Nd.mk 37 s n p a)==0)&&serB (shp k) a [.exp,.exp]) w):=by
 have ha:=nd_kids hn
 have lm:a.length≤9223372036854775807:=ha.len.2
 have hd2:(d+1)+k=41:=by omega
 obtain⟨HH,HN,HA,HS,HD,HD0⟩:=zd6 H hn ha hs hd2 hd
 obtain⟨HW,HW2,HW3⟩:=dw5 d ω
 have u0:decide ((40:Int)<(d:Int))=false:=decide_eq_false ω
 obtain⟨W1,hW1,B0,Y0,x0,x1,x2,x3,x4⟩:=nb5 w 37 s n p A a.length cap
 obtain⟨q1,h1⟩:∃q,((lowB (ndT (Nd.mk 37 s n p a))&&ndN (Nd.mk 37 s n p a)==0))=q:=⟨_,rfl⟩
 obtain⟨q2,h2⟩:∃q,(serB (shp k) a [.exp,.exp])=q:=⟨_,rfl⟩
 rw[h1,h2]
 have H1:=η h1
 clear h1
 have H2:=η h2
 clear h2
 clear hd hd2 hs hn ha
 go_in
 go_upto_region 1 with fail
 rw[←hW1.o]
 clear hW1
 cases q1 with
 | false =>
  go_wp2_with (first|(refine lr5 Y0 ?_)|(go_at_call 99;refine (saidEq (named_any p_lowB _ _ _ (NdR.to HN.o (sub_lo B0.o))) H1.o).mono ?_;rintro _ Z1 ⟨rfl,hb1⟩;obtain⟨B1,Y1,y10,y11,y12,y13,y14⟩:=nx5 B0 Y0 hb1))
  go_ret
  exact⟨rfl,B1.o⟩
 | true =>
  cases q2<;>(go_wp2_with (first|(refine lr5 Y0 ?_)|(go_at_call 99;refine (saidEq (named_any p_lowB _ _ _ (NdR.to HN.o (sub_lo B0.o))) H1.o).mono ?_;rintro _ Z1 ⟨rfl,hb1⟩;obtain⟨B1,Y1,y10,y11,y12,y13,y14⟩:=nx5 B0 Y0 hb1)|(go_at_call 154;(first|rw[HW.o]|rw[HW2.o]|rw[HW3.o]|skip);refine (saidEq (ser_call HH.o [.exp,.exp] π π HD.o (NdsR.to HA.o (sub_lo B1.o))) H2.o).mono ?_;rintro _ Z2 ⟨rfl,hb2⟩;obtain⟨B2,Y2,y20,y21,y22,y23,y24⟩:=nx5 B1 Y1 hb2));go_ret;exact⟨rfl,B2.o⟩)
theorem exp_38 {k:Nat} (H:AllS k) (s:Ê) (n p:Int) (a:List Nd) (A:Option Addr) (cap d:Nat) (w:À) (hd:d+(k+1)=41) (hs:s.size≤maxLen) (hn:NdR w (lo w) (cl 38 s n p A a.length cap) (.mk 38 s n p a)):Calls prog 107 #[.agg (cl 38 s n p A a.length cap).toArray,.int .i64 (d:Int)] w (EqSaid (bareB (Nd.mk 38 s n p a)&&decide (1<a.length)&&begB (shp k) .exp .arm a) w):=by
 have ha:=nd_kids hn
 have lm:a.length≤9223372036854775807:=ha.len.2
 have hd2:(d+1)+k=41:=by omega
 obtain⟨HH,HN,HA,HS,HD,HD0⟩:=zd6 H hn ha hs hd2 hd
 obtain⟨HW,HW2,HW3⟩:=dw5 d ω
 have u0:decide ((40:Int)<(d:Int))=false:=decide_eq_false ω
 obtain⟨W1,hW1,B0,Y0,x0,x1,x2,x3,x4⟩:=nb5 w 38 s n p A a.length cap
 obtain⟨q1,h1⟩:∃q,(bareB (Nd.mk 38 s n p a))=q:=⟨_,rfl⟩
 obtain⟨q2,h2⟩:∃q,(decide (1<a.length))=q:=⟨_,rfl⟩
 obtain⟨q3,h3⟩:∃q,(begB (shp k) .exp .arm a)=q:=⟨_,rfl⟩
 rw[h1,h2,h3]
 have H1:=η h1
 clear h1
 have u2:decide ((1:Int)<(a.length:Int))=q2:=(lenlt 1 _).trans h2
 clear h2
 have H3:=η h3
 clear h3
 clear hd hd2 hs hn ha
 go_in
 go_upto_region 1 with fail
 rw[←hW1.o]
 clear hW1
 cases q1 with
 | false =>
  go_wp2_with (first|(refine lr5 Y0 ?_)|(go_at_call 62;refine (saidEq (bare_any _ _ _ (NdR.to HN.o (sub_lo B0.o))) H1.o).mono ?_;rintro _ Z1 ⟨rfl,hb1⟩;obtain⟨B1,Y1,y10,y11,y12,y13,y14⟩:=nx5 B0 Y0 hb1))
  go_ret
  exact⟨rfl,B1.o⟩
 | true =>
  cases q2 with
  | false =>
   go_wp2_with (first|(refine lr5 Y0 ?_)|(go_at_call 62;refine (saidEq (bare_any _ _ _ (NdR.to HN.o (sub_lo B0.o))) H1.o).mono ?_;rintro _ Z1 ⟨rfl,hb1⟩;obtain⟨B1,Y1,y10,y11,y12,y13,y14⟩:=nx5 B0 Y0 hb1))
   go_ret
   exact⟨rfl,B1.o⟩
  | true =>
   cases q3<;>(go_wp2_with (first|(refine lr5 Y0 ?_)|(go_at_call 62;refine (saidEq (bare_any _ _ _ (NdR.to HN.o (sub_lo B0.o))) H1.o).mono ?_;rintro _ Z1 ⟨rfl,hb1⟩;obtain⟨B1,Y1,y10,y11,y12,y13,y14⟩:=nx5 B0 Y0 hb1)|(go_at_call 158;(first|rw[HW.o]|rw[HW2.o]|rw[HW3.o]|skip);refine (saidEq (beg_call HH.o .exp .arm rfl rfl HD.o (NdsR.to HA.o (sub_lo B1.o))) H3.o).mono ?_;rintro _ Z3 ⟨rfl,hb3⟩;obtain⟨B3,Y3,y30,y31,y32,y33,y34⟩:=nx5 B1 Y1 hb3));go_ret;exact⟨rfl,B3.o⟩)
theorem exp_41 {k:Nat} (H:AllS k) (s:Ê) (n p:Int) (a:List Nd) (A:Option Addr) (cap d:Nat) (w:À) (hd:d+(k+1)=41) (hs:s.size≤maxLen) (hn:NdR w (lo w) (cl 41 s n p A a.length cap) (.mk 41 s n p a)):Calls prog 107 #[.agg (cl 41 s n p A a.length cap).toArray,.int .i64 (d:Int)] w (EqSaid (bareB (Nd.mk 41 s n p a)&&endB (shp k) a .fld [.typ,.exp]) w):=by
 have ha:=nd_kids hn
 have lm:a.length≤9223372036854775807:=ha.len.2
 have hd2:(d+1)+k=41:=by omega
 obtain⟨HH,HN,HA,HS,HD,HD0⟩:=zd6 H hn ha hs hd2 hd
 obtain⟨HW,HW2,HW3⟩:=dw5 d ω
 have u0:decide ((40:Int)<(d:Int))=false:=decide_eq_false ω
 obtain⟨W1,hW1,B0,Y0,x0,x1,x2,x3,x4⟩:=nb5 w 41 s n p A a.length cap
 obtain⟨q1,h1⟩:∃q,(bareB (Nd.mk 41 s n p a))=q:=⟨_,rfl⟩
 obtain⟨q2,h2⟩:∃q,(endB (shp k) a .fld [.typ,.exp])=q:=⟨_,rfl⟩
 rw[h1,h2]
 have H1:=η h1
 clear h1
 have H2:=η h2
 clear h2
 clear hd hd2 hs hn ha
 go_in
 go_upto_region 1 with fail
 rw[←hW1.o]
 clear hW1
 cases q1 with
 | false =>
  go_wp2_with (first|(refine lr5 Y0 ?_)|(go_at_call 62;refine (saidEq (bare_any _ _ _ (NdR.to HN.o (sub_lo B0.o))) H1.o).mono ?_;rintro _ Z1 ⟨rfl,hb1⟩;obtain⟨B1,Y1,y10,y11,y12,y13,y14⟩:=nx5 B0 Y0 hb1))
  go_ret
  exact⟨rfl,B1.o⟩
 | true =>
  cases q2<;>(go_wp2_with (first|(refine lr5 Y0 ?_)|(go_at_call 62;refine (saidEq (bare_any _ _ _ (NdR.to HN.o (sub_lo B0.o))) H1.o).mono ?_;rintro _ Z1 ⟨rfl,hb1⟩;obtain⟨B1,Y1,y10,y11,y12,y13,y14⟩:=nx5 B0 Y0 hb1)|(go_at_call 105;(first|rw[HW.o]|rw[HW2.o]|rw[HW3.o]|skip);refine (saidEq (end_call HH.o .fld rfl [.typ,.exp] π π HD.o (NdsR.to HA.o (sub_lo B1.o))) H2.o).mono ?_;rintro _ Z2 ⟨rfl,hb2⟩;obtain⟨B2,Y2,y20,y21,y22,y23,y24⟩:=nx5 B1 Y1 hb2));go_ret;exact⟨rfl,B2.o⟩)
theorem exp_o (k0:Int) (cs:List Value) (t:Nd) (d:Nat) (w:À) (h40:d≤40) (hk:ndK t=k0) (hne:k0≠20∧k0≠21∧k0≠22∧k0≠23∧k0≠24∧k0≠25∧k0≠26∧k0≠27∧k0≠29∧k0≠30∧k0≠31∧k0≠32∧k0≠33∧k0≠34∧k0≠35∧k0≠36∧k0≠37∧k0≠38∧k0≠41) (h:NdR w (lo w) cs t):Calls prog 107 #[.agg cs.toArray,.int .i64 (d:Int)] w (EqSaid false w):=by
 obtain⟨k0',s,n,p,a,A,cap,rfl,rfl,_,_,_⟩:=nd_form h
 obtain rfl:k0'=k0:=hk
 have u0:decide ((40:Int)<(d:Int))=false:=decide_eq_false ω
 obtain⟨e20,e21,e22,e23,e24,e25,e26,e27,e29,e30,e31,e32,e33,e34,e35,e36,e37,e38,e41⟩:=hne
 have v20:(k0'==20)=false:=beq_eq_false_iff_ne.2 e20
 have v21:(k0'==21)=false:=beq_eq_false_iff_ne.2 e21
 have v22:(k0'==22)=false:=beq_eq_false_iff_ne.2 e22
 have v23:(k0'==23)=false:=beq_eq_false_iff_ne.2 e23
 have v24:(k0'==24)=false:=beq_eq_false_iff_ne.2 e24
 have v25:(k0'==25)=false:=beq_eq_false_iff_ne.2 e25
 have v26:(k0'==26)=false:=beq_eq_false_iff_ne.2 e26
 have v27:(k0'==27)=false:=beq_eq_false_iff_ne.2 e27
 have v29:(k0'==29)=false:=beq_eq_false_iff_ne.2 e29
 have v30:(k0'==30)=false:=beq_eq_false_iff_ne.2 e30
 have v31:(k0'==31)=false:=beq_eq_false_iff_ne.2 e31
 have v32:(k0'==32)=false:=beq_eq_false_iff_ne.2 e32
 have v33:(k0'==33)=false:=beq_eq_false_iff_ne.2 e33
 have v34:(k0'==34)=false:=beq_eq_false_iff_ne.2 e34
 have v35:(k0'==35)=false:=beq_eq_false_iff_ne.2 e35
 have v36:(k0'==36)=false:=beq_eq_false_iff_ne.2 e36
 have v37:(k0'==37)=false:=beq_eq_false_iff_ne.2 e37
 have v38:(k0'==38)=false:=beq_eq_false_iff_ne.2 e38
 have v41:(k0'==41)=false:=beq_eq_false_iff_ne.2 e41
 have w1:Hid (IntKind.i64.wrap ((d:Int)+1)=((d:Int)+1)):=by show _=_;rw[IntKind.wrap_i64];omega
 obtain⟨W1,hW1⟩:∃q,Hid (q=w.alloc (.cells (cl k0' s n p A a.length cap).toArray 83)):=⟨_,rfl⟩
 have B0:Hid (Below w.heap.size w W1):=by show Below _ _ _;rw[hW1.o];exact belA (belR _) _
 have Y0:Hid (Hs W1 w.heap.size 83 (cl k0' s n p A a.length cap).toArray):=by show Hs _ _ _ _;rw[hW1.o];exact Hs.new _ _ _
 have x0:W1.cell? ⟨w.heap.size,0,none⟩=some (.int .i64 k0'):=Y0.o.c 0
 clear h e20 e21 e22 e23 e24 e25 e26 e27 e29 e30 e31 e32 e33 e34 e35 e36 e37 e38 e41
 go_in
 go_upto_region 1 with fail
 rw[←hW1.o]
 clear hW1
 go_wp2
 go_ret
 exact⟨rfl,B0.o⟩
theorem exp_z (cs:List Value) (t:Nd) (d:Nat) (w:À) (hd:d+0=41) (h:NdR w (lo w) cs t):Calls prog 107 #[.agg cs.toArray,.int .i64 (d:Int)] w (EqSaid false w):=by
 obtain⟨k0,s,n,p,a,A,cap,rfl,rfl,_,_,_⟩:=nd_form h
 have u0:decide ((40:Int)<(d:Int))=true:=decide_eq_true ω
 obtain⟨W1,hW1⟩:∃q,Hid (q=w.alloc (.cells (cl k0 s n p A a.length cap).toArray 83)):=⟨_,rfl⟩
 have B0:Hid (Below w.heap.size w W1):=by show Below _ _ _;rw[hW1.o];exact belA (belR _) _
 clear h hd
 go_in
 go_upto_region 1 with fail
 rw[←hW1.o]
 go_wp2
 go_ret
 exact⟨rfl,B0.o⟩
end Go.Proofs.YtbmknjfgjphfbaaGreatDoor
