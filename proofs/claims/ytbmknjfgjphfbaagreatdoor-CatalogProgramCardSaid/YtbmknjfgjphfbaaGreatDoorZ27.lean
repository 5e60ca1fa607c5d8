import Derived.Test.YtbmknjfgjphfbaaGreatDoorZ25
set_option linter.all false
namespace Go.Proofs.YtbmknjfgjphfbaaGreatDoor
open Proofs.Tryz RowKit Maps WideMaps ChangeMaps
set_option maxRecDepth 100000
set_option maxHeartbeats 8000000
theorem stm_50 {k:Nat} (H:AllS k) (s:Ê) (n p:Int) (a:List Nd) (A:Option Addr) (cap d:Nat) (w:À) (hd:d+(k+1)=41) (hs:s.size≤maxLen) (hn:NdR w (lo w) (cl 50 s n p A a.length cap) (.mk 50 s n p a)):Calls prog 190 #[.agg (cl 50 s n p A a.length cap).toArray,.int .i64 (d:Int)] w (EqSaid ((lowB (ndT (Nd.mk 50 s n p a))&&ndN (Nd.mk 50 s n p a)==0)&&serB (shp k) a [.exp]) w):=by
 have ha:=nd_kids hn
 have lm:a.length≤9223372036854775807:=ha.len.2
 have hd2:(d+1)+k=41:=by omega
 obtain⟨HH,HN,HA,HS,HD,HD0⟩:=zd6 H hn ha hs hd2 hd
 obtain⟨HW,HW2,HW3⟩:=dw5 d ω
 have u0:decide ((40:Int)<(d:Int))=false:=decide_eq_false ω
 obtain⟨W1,hW1,B0,Y0,x0,x1,x2,x3,x4⟩:=nb5 w 50 s n p A a.length cap
 obtain⟨q1,h1⟩:∃q,((lowB (ndT (Nd.mk 50 s n p a))&&ndN (Nd.mk 50 s n p a)==0))=q:=⟨_,rfl⟩
 obtain⟨q2,h2⟩:∃q,(serB (shp k) a [.exp])=q:=⟨_,rfl⟩
 rw[h1,h2]
 have H1:=η h1
 clear h1
 have H2:=η h2
 clear h2
 clear hd hd2 hs hn ha
 go_in
 go_upto_region 1 with fail
 rw[←hW1.o]
 clear hW1
 cases q1 with
 | false =>
  go_wp2_with (first|(refine lr5 Y0 ?_)|(go_at_call 99;refine (saidEq (named_any p_lowB _ _ _ (NdR.to HN.o (sub_lo B0.o))) H1.o).mono ?_;rintro _ Z1 ⟨rfl,hb1⟩;obtain⟨B1,Y1,y10,y11,y12,y13,y14⟩:=nx5 B0 Y0 hb1))
  go_ret
  exact⟨rfl,B1.o⟩
 | true =>
  cases q2<;>(go_wp2_with (first|(refine lr5 Y0 ?_)|(go_at_call 99;refine (saidEq (named_any p_lowB _ _ _ (NdR.to HN.o (sub_lo B0.o))) H1.o).mono ?_;rintro _ Z1 ⟨rfl,hb1⟩;obtain⟨B1,Y1,y10,y11,y12,y13,y14⟩:=nx5 B0 Y0 hb1)|(go_at_call 154;(first|rw[HW.o]|rw[HW2.o]|rw[HW3.o]|skip);refine (saidEq (ser_call HH.o [.exp] π π HD.o (NdsR.to HA.o (sub_lo B1.o))) H2.o).mono ?_;rintro _ Z2 ⟨rfl,hb2⟩;obtain⟨B2,Y2,y20,y21,y22,y23,y24⟩:=nx5 B1 Y1 hb2));go_ret;exact⟨rfl,B2.o⟩)
theorem stm_51 {k:Nat} (H:AllS k) (s:Ê) (n p:Int) (a:List Nd) (A:Option Addr) (cap d:Nat) (w:À) (hd:d+(k+1)=41) (hs:s.size≤maxLen) (hn:NdR w (lo w) (cl 51 s n p A a.length cap) (.mk 51 s n p a)):Calls prog 190 #[.agg (cl 51 s n p A a.length cap).toArray,.int .i64 (d:Int)] w (EqSaid ((lowB (ndT (Nd.mk 51 s n p a))&&ndN (Nd.mk 51 s n p a)==0)&&serB (shp k) a [.exp]) w):=by
 have ha:=nd_kids hn
 have lm:a.length≤9223372036854775807:=ha.len.2
 have hd2:(d+1)+k=41:=by omega
 obtain⟨HH,HN,HA,HS,HD,HD0⟩:=zd6 H hn ha hs hd2 hd
 obtain⟨HW,HW2,HW3⟩:=dw5 d ω
 have u0:decide ((40:Int)<(d:Int))=false:=decide_eq_false ω
 obtain⟨W1,hW1,B0,Y0,x0,x1,x2,x3,x4⟩:=nb5 w 51 s n p A a.length cap
 obtain⟨q1,h1⟩:∃q,((lowB (ndT (Nd.mk 51 s n p a))&&ndN (Nd.mk 51 s n p a)==0))=q:=⟨_,rfl⟩
 obtain⟨q2,h2⟩:∃q,(serB (shp k) a [.exp])=q:=⟨_,rfl⟩
 rw[h1,h2]
 have H1:=η h1
 clear h1
 have H2:=η h2
 clear h2
 clear hd hd2 hs hn ha
 go_in
 go_upto_region 1 with fail
 rw[←hW1.o]
 clear hW1
 cases q1 with
 | false =>
  go_wp2_with (first|(refine lr5 Y0 ?_)|(go_at_call 99;refine (saidEq (named_any p_lowB _ _ _ (NdR.to HN.o (sub_lo B0.o))) H1.o).mono ?_;rintro _ Z1 ⟨rfl,hb1⟩;obtain⟨B1,Y1,y10,y11,y12,y13,y14⟩:=nx5 B0 Y0 hb1))
  go_ret
  exact⟨rfl,B1.o⟩
 | true =>
  cases q2<;>(go_wp2_with (first|(refine lr5 Y0 ?_)|(go_at_call 99;refine (saidEq (named_any p_lowB _ _ _ (NdR.to HN.o (sub_lo B0.o))) H1.o).mono ?_;rintro _ Z1 ⟨rfl,hb1⟩;obtain⟨B1,Y1,y10,y11,y12,y13,y14⟩:=nx5 B0 Y0 hb1)|(go_at_call 154;(first|rw[HW.o]|rw[HW2.o]|rw[HW3.o]|skip);refine (saidEq (ser_call HH.o [.exp] π π HD.o (NdsR.to HA.o (sub_lo B1.o))) H2.o).mono ?_;rintro _ Z2 ⟨rfl,hb2⟩;obtain⟨B2,Y2,y20,y21,y22,y23,y24⟩:=nx5 B1 Y1 hb2));go_ret;exact⟨rfl,B2.o⟩)
theorem stm_53 {k:Nat} (H:AllS k) (s:Ê) (n p:Int) (a:List Nd) (A:Option Addr) (cap d:Nat) (w:À) (hd:d+(k+1)=41) (hs:s.size≤maxLen) (hn:NdR w (lo w) (cl 53 s n p A a.length cap) (.mk 53 s n p a)):Calls prog 190 #[.agg (cl 53 s n p A a.length cap).toArray,.int .i64 (d:Int)] w (EqSaid (bareB (Nd.mk 53 s n p a)&&decide (1<a.length)&&begB (shp k) .exp .sarm a) w):=by
 have ha:=nd_kids hn
 have lm:a.length≤9223372036854775807:=ha.len.2
 have hd2:(d+1)+k=41:=by omega
 obtain⟨HH,HN,HA,HS,HD,HD0⟩:=zd6 H hn ha hs hd2 hd
 obtain⟨HW,HW2,HW3⟩:=dw5 d ω
 have u0:decide ((40:Int)<(d:Int))=false:=decide_eq_false ω
 obtain⟨W1,hW1,B0,Y0,x0,x1,x2,x3,x4⟩:=nb5 w 53 s n p A a.length cap
 obtain⟨q1,h1⟩:∃q,(bareB (Nd.mk 53 s n p a))=q:=⟨_,rfl⟩
 obtain⟨q2,h2⟩:∃q,(decide (1<a.length))=q:=⟨_,rfl⟩
 obtain⟨q3,h3⟩:∃q,(begB (shp k) .exp .sarm a)=q:=⟨_,rfl⟩
 rw[h1,h2,h3]
 have H1:=η h1
 clear h1
 have u2:decide ((1:Int)<(a.length:Int))=q2:=(lenlt 1 _).trans h2
 clear h2
 have H3:=η h3
 clear h3
 clear hd hd2 hs hn ha
 go_in
 go_upto_region 1 with fail
 rw[←hW1.o]
 clear hW1
 cases q1 with
 | false =>
  go_wp2_with (first|(refine lr5 Y0 ?_)|(go_at_call 62;refine (saidEq (bare_any _ _ _ (NdR.to HN.o (sub_lo B0.o))) H1.o).mono ?_;rintro _ Z1 ⟨rfl,hb1⟩;obtain⟨B1,Y1,y10,y11,y12,y13,y14⟩:=nx5 B0 Y0 hb1))
  go_ret
  exact⟨rfl,B1.o⟩
 | true =>
  cases q2 with
  | false =>
   go_wp2_with (first|(refine lr5 Y0 ?_)|(go_at_call 62;refine (saidEq (bare_any _ _ _ (NdR.to HN.o (sub_lo B0.o))) H1.o).mono ?_;rintro _ Z1 ⟨rfl,hb1⟩;obtain⟨B1,Y1,y10,y11,y12,y13,y14⟩:=nx5 B0 Y0 hb1))
   go_ret
   exact⟨rfl,B1.o⟩
  | true =>
   cases q3<;>(go_wp2_with (first|(refine lr5 Y0 ?_)|(go_at_call 62;refine (saidEq (bare_any _ _ _ (NdR.to HN.o (sub_lo B0.o))) H1.o).mono ?_;rintro _ Z1 ⟨rfl,hb1⟩;obtain⟨B1,Y1,y10,y11,y12,y13,y14⟩:=nx5 B0 Y0 hb1)|(go_at_call 158;(first|rw[HW.o]|rw[HW2.o]|rw[HW3.o]|skip);refine (saidEq (beg_call HH.o .exp .sarm rfl rfl HD.o (NdsR.to HA.o (sub_lo B1.o))) H3.o).mono ?_;rintro _ Z3 ⟨rfl,hb3⟩;obtain⟨B3,Y3,y30,y31,y32,y33,y34⟩:=nx5 B1 Y1 hb3));go_ret;exact⟨rfl,B3.o⟩)
theorem stm_55 {k:Nat} (H:AllS k) (s:Ê) (n p:Int) (a:List Nd) (A:Option Addr) (cap d:Nat) (w:À) (hd:d+(k+1)=41) (hs:s.size≤maxLen) (hn:NdR w (lo w) (cl 55 s n p A a.length cap) (.mk 55 s n p a)):Calls prog 190 #[.agg (cl 55 s n p A a.length cap).toArray,.int .i64 (d:Int)] w (EqSaid ((lowB (ndT (Nd.mk 55 s n p a))&&ndN (Nd.mk 55 s n p a)==0)&&serB (shp k) a [.exp,.blk]) w):=by
 have ha:=nd_kids hn
 have lm:a.length≤9223372036854775807:=ha.len.2
 have hd2:(d+1)+k=41:=by omega
 obtain⟨HH,HN,HA,HS,HD,HD0⟩:=zd6 H hn ha hs hd2 hd
 obtain⟨HW,HW2,HW3⟩:=dw5 d ω
 have u0:decide ((40:Int)<(d:Int))=false:=decide_eq_false ω
 obtain⟨W1,hW1,B0,Y0,x0,x1,x2,x3,x4⟩:=nb5 w 55 s n p A a.length cap
 obtain⟨q1,h1⟩:∃q,((lowB (ndT (Nd.mk 55 s n p a))&&ndN (Nd.mk 55 s n p a)==0))=q:=⟨_,rfl⟩
 obtain⟨q2,h2⟩:∃q,(serB (shp k) a [.exp,.blk])=q:=⟨_,rfl⟩
 rw[h1,h2]
 have H1:=η h1
 clear h1
 have H2:=η h2
 clear h2
 clear hd hd2 hs hn ha
 go_in
 go_upto_region 1 with fail
 rw[←hW1.o]
 clear hW1
 cases q1 with
 | false =>
  go_wp2_with (first|(refine lr5 Y0 ?_)|(go_at_call 99;refine (saidEq (named_any p_lowB _ _ _ (NdR.to HN.o (sub_lo B0.o))) H1.o).mono ?_;rintro _ Z1 ⟨rfl,hb1⟩;obtain⟨B1,Y1,y10,y11,y12,y13,y14⟩:=nx5 B0 Y0 hb1))
  go_ret
  exact⟨rfl,B1.o⟩
 | true =>
  cases q2<;>(go_wp2_with (first|(refine lr5 Y0 ?_)|(go_at_call 99;refine (saidEq (named_any p_lowB _ _ _ (NdR.to HN.o (sub_lo B0.o))) H1.o).mono ?_;rintro _ Z1 ⟨rfl,hb1⟩;obtain⟨B1,Y1,y10,y11,y12,y13,y14⟩:=nx5 B0 Y0 hb1)|(go_at_call 154;(first|rw[HW.o]|rw[HW2.o]|rw[HW3.o]|skip);refine (saidEq (ser_call HH.o [.exp,.blk] π π HD.o (NdsR.to HA.o (sub_lo B1.o))) H2.o).mono ?_;rintro _ Z2 ⟨rfl,hb2⟩;obtain⟨B2,Y2,y20,y21,y22,y23,y24⟩:=nx5 B1 Y1 hb2));go_ret;exact⟨rfl,B2.o⟩)
theorem stm_57 {k:Nat} (H:AllS k) (s:Ê) (n p:Int) (a:List Nd) (A:Option Addr) (cap d:Nat) (w:À) (hd:d+(k+1)=41) (hs:s.size≤maxLen) (hn:NdR w (lo w) (cl 57 s n p A a.length cap) (.mk 57 s n p a)):Calls prog 190 #[.agg (cl 57 s n p A a.length cap).toArray,.int .i64 (d:Int)] w (EqSaid (bareB (Nd.mk 57 s n p a)&&serB (shp k) a [.exp,.snd]) w):=by
 have ha:=nd_kids hn
 have lm:a.length≤9223372036854775807:=ha.len.2
 have hd2:(d+1)+k=41:=by omega
 obtain⟨HH,HN,HA,HS,HD,HD0⟩:=zd6 H hn ha hs hd2 hd
 obtain⟨HW,HW2,HW3⟩:=dw5 d ω
 have u0:decide ((40:Int)<(d:Int))=false:=decide_eq_false ω
 obtain⟨W1,hW1,B0,Y0,x0,x1,x2,x3,x4⟩:=nb5 w 57 s n p A a.length cap
 obtain⟨q1,h1⟩:∃q,(bareB (Nd.mk 57 s n p a))=q:=⟨_,rfl⟩
 obtain⟨q2,h2⟩:∃q,(serB (shp k) a [.exp,.snd])=q:=⟨_,rfl⟩
 rw[h1,h2]
 have H1:=η h1
 clear h1
 have H2:=η h2
 clear h2
 clear hd hd2 hs hn ha
 go_in
 go_upto_region 1 with fail
 rw[←hW1.o]
 clear hW1
 cases q1 with
 | false =>
  go_wp2_with (first|(refine lr5 Y0 ?_)|(go_at_call 62;refine (saidEq (bare_any _ _ _ (NdR.to HN.o (sub_lo B0.o))) H1.o).mono ?_;rintro _ Z1 ⟨rfl,hb1⟩;obtain⟨B1,Y1,y10,y11,y12,y13,y14⟩:=nx5 B0 Y0 hb1))
  go_ret
  exact⟨rfl,B1.o⟩
 | true =>
  cases q2<;>(go_wp2_with (first|(refine lr5 Y0 ?_)|(go_at_call 62;refine (saidEq (bare_any _ _ _ (NdR.to HN.o (sub_lo B0.o))) H1.o).mono ?_;rintro _ Z1 ⟨rfl,hb1⟩;obtain⟨B1,Y1,y10,y11,y12,y13,y14⟩:=nx5 B0 Y0 hb1)|(go_at_call 154;(first|rw[HW.o]|rw[HW2.o]|rw[HW3.o]|skip);refine (saidEq (ser_call HH.o [.exp,.snd] π π HD.o (NdsR.to HA.o (sub_lo B1.o))) H2.o).mono ?_;rintro _ Z2 ⟨rfl,hb2⟩;obtain⟨B2,Y2,y20,y21,y22,y23,y24⟩:=nx5 B1 Y1 hb2));go_ret;exact⟨rfl,B2.o⟩)
theorem stm_60 {k:Nat} (H:AllS k) (s:Ê) (n p:Int) (a:List Nd) (A:Option Addr) (cap d:Nat) (w:À) (hd:d+(k+1)=41) (hs:s.size≤maxLen) (hn:NdR w (lo w) (cl 60 s n p A a.length cap) (.mk 60 s n p a)):Calls prog 190 #[.agg (cl 60 s n p A a.length cap).toArray,.int .i64 (d:Int)] w (EqSaid (bareB (Nd.mk 60 s n p a)&&(a.length==0)) w):=by
 have ha:=nd_kids hn
 have lm:a.length≤9223372036854775807:=ha.len.2
 have hd2:(d+1)+k=41:=by omega
 obtain⟨HH,HN,HA,HS,HD,HD0⟩:=zd6 H hn ha hs hd2 hd
 obtain⟨HW,HW2,HW3⟩:=dw5 d ω
 have u0:decide ((40:Int)<(d:Int))=false:=decide_eq_false ω
 obtain⟨W1,hW1,B0,Y0,x0,x1,x2,x3,x4⟩:=nb5 w 60 s n p A a.length cap
 obtain⟨q1,h1⟩:∃q,(bareB (Nd.mk 60 s n p a))=q:=⟨_,rfl⟩
 obtain⟨q2,h2⟩:∃q,((a.length==0))=q:=⟨_,rfl⟩
 rw[h1,h2]
 have H1:=η h1
 clear h1
 have u2:((a.length:Int)==0)=q2:=(len0 _).trans h2
 clear h2
 clear hd hd2 hs hn ha
 go_in
 go_upto_region 1 with fail
 rw[←hW1.o]
 clear hW1
 cases q1 with
 | false =>
  go_wp2_with (first|(refine lr5 Y0 ?_)|(go_at_call 62;refine (saidEq (bare_any _ _ _ (NdR.to HN.o (sub_lo B0.o))) H1.o).mono ?_;rintro _ Z1 ⟨rfl,hb1⟩;obtain⟨B1,Y1,y10,y11,y12,y13,y14⟩:=nx5 B0 Y0 hb1))
  go_ret
  exact⟨rfl,B1.o⟩
 | true =>
  cases q2<;>(go_wp2_with (first|(refine lr5 Y0 ?_)|(go_at_call 62;refine (saidEq (bare_any _ _ _ (NdR.to HN.o (sub_lo B0.o))) H1.o).mono ?_;rintro _ Z1 ⟨rfl,hb1⟩;obtain⟨B1,Y1,y10,y11,y12,y13,y14⟩:=nx5 B0 Y0 hb1));go_ret;exact⟨rfl,B1.o⟩)
theorem stm_61 {k:Nat} (H:AllS k) (s:Ê) (n p:Int) (a:List Nd) (A:Option Addr) (cap d:Nat) (w:À) (hd:d+(k+1)=41) (hs:s.size≤maxLen) (hn:NdR w (lo w) (cl 61 s n p A a.length cap) (.mk 61 s n p a)):Calls prog 190 #[.agg (cl 61 s n p A a.length cap).toArray,.int .i64 (d:Int)] w (EqSaid (bareB (Nd.mk 61 s n p a)&&serB (shp k) a [.exp]) w):=by
 have ha:=nd_kids hn
 have lm:a.length≤9223372036854775807:=ha.len.2
 have hd2:(d+1)+k=41:=by omega
 obtain⟨HH,HN,HA,HS,HD,HD0⟩:=zd6 H hn ha hs hd2 hd
 obtain⟨HW,HW2,HW3⟩:=dw5 d ω
 have u0:decide ((40:Int)<(d:Int))=false:=decide_eq_false ω
 obtain⟨W1,hW1,B0,Y0,x0,x1,x2,x3,x4⟩:=nb5 w 61 s n p A a.length cap
 obtain⟨q1,h1⟩:∃q,(bareB (Nd.mk 61 s n p a))=q:=⟨_,rfl⟩
 obtain⟨q2,h2⟩:∃q,(serB (shp k) a [.exp])=q:=⟨_,rfl⟩
 rw[h1,h2]
 have H1:=η h1
 clear h1
 have H2:=η h2
 clear h2
 clear hd hd2 hs hn ha
 go_in
 go_upto_region 1 with fail
 rw[←hW1.o]
 clear hW1
 cases q1 with
 | false =>
  go_wp2_with (first|(refine lr5 Y0 ?_)|(go_at_call 62;refine (saidEq (bare_any _ _ _ (NdR.to HN.o (sub_lo B0.o))) H1.o).mono ?_;rintro _ Z1 ⟨rfl,hb1⟩;obtain⟨B1,Y1,y10,y11,y12,y13,y14⟩:=nx5 B0 Y0 hb1))
  go_ret
  exact⟨rfl,B1.o⟩
 | true =>
  cases q2<;>(go_wp2_with (first|(refine lr5 Y0 ?_)|(go_at_call 62;refine (saidEq (bare_any _ _ _ (NdR.to HN.o (sub_lo B0.o))) H1.o).mono ?_;rintro _ Z1 ⟨rfl,hb1⟩;obtain⟨B1,Y1,y10,y11,y12,y13,y14⟩:=nx5 B0 Y0 hb1)|(go_at_call 154;(first|rw[HW.o]|rw[HW2.o]|rw[HW3.o]|skip);refine (saidEq (ser_call HH.o [.exp] π π HD.o (NdsR.to HA.o (sub_lo B1.o))) H2.o).mono ?_;rintro _ Z2 ⟨rfl,hb2⟩;obtain⟨B2,Y2,y20,y21,y22,y23,y24⟩:=nx5 B1 Y1 hb2));go_ret;exact⟨rfl,B2.o⟩)
theorem stm_o (k0:Int) (cs:List Value) (t:Nd) (d:Nat) (w:À) (h40:d≤40) (hk:ndK t=k0) (hne:k0≠50∧k0≠51∧k0≠52∧k0≠53∧k0≠55∧k0≠56∧k0≠57∧k0≠58∧k0≠59∧k0≠60∧k0≠61) (h:NdR w (lo w) cs t):Calls prog 190 #[.agg cs.toArray,.int .i64 (d:Int)] w (EqSaid false w):=by
 obtain⟨k0',s,n,p,a,A,cap,rfl,rfl,_,_,_⟩:=nd_form h
 obtain rfl:k0'=k0:=hk
 have u0:decide ((40:Int)<(d:Int))=false:=decide_eq_false ω
 obtain⟨e50,e51,e52,e53,e55,e56,e57,e58,e59,e60,e61⟩:=hne
 have v50:(k0'==50)=false:=beq_eq_false_iff_ne.2 e50
 have v51:(k0'==51)=false:=beq_eq_false_iff_ne.2 e51
 have v52:(k0'==52)=false:=beq_eq_false_iff_ne.2 e52
 have v53:(k0'==53)=false:=beq_eq_false_iff_ne.2 e53
 have v55:(k0'==55)=false:=beq_eq_false_iff_ne.2 e55
 have v56:(k0'==56)=false:=beq_eq_false_iff_ne.2 e56
 have v57:(k0'==57)=false:=beq_eq_false_iff_ne.2 e57
 have v58:(k0'==58)=false:=beq_eq_false_iff_ne.2 e58
 have v59:(k0'==59)=false:=beq_eq_false_iff_ne.2 e59
 have v60:(k0'==60)=false:=beq_eq_false_iff_ne.2 e60
 have v61:(k0'==61)=false:=beq_eq_false_iff_ne.2 e61
 have w1:Hid (IntKind.i64.wrap ((d:Int)+1)=((d:Int)+1)):=by show _=_;rw[IntKind.wrap_i64];omega
 obtain⟨W1,hW1⟩:∃q,Hid (q=w.alloc (.cells (cl k0' s n p A a.length cap).toArray 83)):=⟨_,rfl⟩
 have B0:Hid (Below w.heap.size w W1):=by show Below _ _ _;rw[hW1.o];exact belA (belR _) _
 have Y0:Hid (Hs W1 w.heap.size 83 (cl k0' s n p A a.length cap).toArray):=by show Hs _ _ _ _;rw[hW1.o];exact Hs.new _ _ _
 have x0:W1.cell? ⟨w.heap.size,0,none⟩=some (.int .i64 k0'):=Y0.o.c 0
 clear h e50 e51 e52 e53 e55 e56 e57 e58 e59 e60 e61
 go_in
 go_upto_region 1 with fail
 rw[←hW1.o]
 clear hW1
 go_wp2
 go_ret
 exact⟨rfl,B0.o⟩
theorem stm_z (cs:List Value) (t:Nd) (d:Nat) (w:À) (hd:d+0=41) (h:NdR w (lo w) cs t):Calls prog 190 #[.agg cs.toArray,.int .i64 (d:Int)] w (EqSaid false w):=by
 obtain⟨k0,s,n,p,a,A,cap,rfl,rfl,_,_,_⟩:=nd_form h
 have u0:decide ((40:Int)<(d:Int))=true:=decide_eq_true ω
 obtain⟨W1,hW1⟩:∃q,Hid (q=w.alloc (.cells (cl k0 s n p A a.length cap).toArray 83)):=⟨_,rfl⟩
 have B0:Hid (Below w.heap.size w W1):=by show Below _ _ _;rw[hW1.o];exact belA (belR _) _
 clear h hd
 go_in
 go_upto_region 1 with fail
 rw[←hW1.o]
 go_wp2
 go_ret
 exact⟨rfl,B0.o⟩
theorem dcl_2 {k:Nat} (H:AllS k) (s:Ê) (n p:Int) (a:List Nd) (A:Option Addr) (cap d:Nat) (w:À) (hd:d+(k+1)=41) (hs:s.size≤maxLen) (hn:NdR w (lo w) (cl 2 s n p A a.length cap) (.mk 2 s n p a)):Calls prog 63 #[.agg (cl 2 s n p A a.length cap).toArray,.int .i64 (d:Int)] w (EqSaid ((uppB (ndT (Nd.mk 2 s n p a))&&ndN (Nd.mk 2 s n p a)==0)&&a.all (shp k .fld)) w):=by
 have ha:=nd_kids hn
 have lm:a.length≤9223372036854775807:=ha.len.2
 have hd2:(d+1)+k=41:=by omega
 obtain⟨HH,HN,HA,HS,HD,HD0⟩:=zd6 H hn ha hs hd2 hd
 obtain⟨HW,HW2,HW3⟩:=dw5 d ω
 have u0:decide ((40:Int)<(d:Int))=false:=decide_eq_false ω
 obtain⟨W1,hW1,B0,Y0,x0,x1,x2,x3,x4⟩:=nb5 w 2 s n p A a.length cap
 obtain⟨q1,h1⟩:∃q,((uppB (ndT (Nd.mk 2 s n p a))&&ndN (Nd.mk 2 s n p a)==0))=q:=⟨_,rfl⟩
 obtain⟨q2,h2⟩:∃q,(a.all (shp k .fld))=q:=⟨_,rfl⟩
 rw[h1,h2]
 have H1:=η h1
 clear h1
 have H2:=η h2
 clear h2
 clear hd hd2 hs hn ha
 go_in
 go_upto_region 1 with fail
 rw[←hW1.o]
 clear hW1
 cases q1 with
 | false =>
  go_wp2_with (first|(refine lr5 Y0 ?_)|(go_at_call 99;refine (saidEq (named_any p_uppB _ _ _ (NdR.to HN.o (sub_lo B0.o))) H1.o).mono ?_;rintro _ Z1 ⟨rfl,hb1⟩;obtain⟨B1,Y1,y10,y11,y12,y13,y14⟩:=nx5 B0 Y0 hb1))
  go_ret
  exact⟨rfl,B1.o⟩
 | true =>
  cases q2<;>(go_wp2_with (first|(refine lr5 Y0 ?_)|(go_at_call 99;refine (saidEq (named_any p_uppB _ _ _ (NdR.to HN.o (sub_lo B0.o))) H1.o).mono ?_;rintro _ Z1 ⟨rfl,hb1⟩;obtain⟨B1,Y1,y10,y11,y12,y13,y14⟩:=nx5 B0 Y0 hb1)|(go_at_call 101;(first|rw[HW.o]|rw[HW2.o]|rw[HW3.o]|skip);refine (saidEq (all_call HH.o .fld rfl HD.o (NdsR.to HA.o (sub_lo B1.o))) H2.o).mono ?_;rintro _ Z2 ⟨rfl,hb2⟩;obtain⟨B2,Y2,y20,y21,y22,y23,y24⟩:=nx5 B1 Y1 hb2));go_ret;exact⟨rfl,B2.o⟩)
theorem dcl_3 {k:Nat} (H:AllS k) (s:Ê) (n p:Int) (a:List Nd) (A:Option Addr) (cap d:Nat) (w:À) (hd:d+(k+1)=41) (hs:s.size≤maxLen) (hn:NdR w (lo w) (cl 3 s n p A a.length cap) (.mk 3 s n p a)):Calls prog 63 #[.agg (cl 3 s n p A a.length cap).toArray,.int .i64 (d:Int)] w (EqSaid ((uppB (ndT (Nd.mk 3 s n p a))&&ndN (Nd.mk 3 s n p a)==0)&&decide (0<a.length)&&a.all (shp k .ctor)) w):=by
 have ha:=nd_kids hn
 have lm:a.length≤9223372036854775807:=ha.len.2
 have hd2:(d+1)+k=41:=by omega
 obtain⟨HH,HN,HA,HS,HD,HD0⟩:=zd6 H hn ha hs hd2 hd
 obtain⟨HW,HW2,HW3⟩:=dw5 d ω
 have u0:decide ((40:Int)<(d:Int))=false:=decide_eq_false ω
 obtain⟨W1,hW1,B0,Y0,x0,x1,x2,x3,x4⟩:=nb5 w 3 s n p A a.length cap
 obtain⟨q1,h1⟩:∃q,((uppB (ndT (Nd.mk 3 s n p a))&&ndN (Nd.mk 3 s n p a)==0))=q:=⟨_,rfl⟩
 obtain⟨q2,h2⟩:∃q,(decide (0<a.length))=q:=⟨_,rfl⟩
 obtain⟨q3,h3⟩:∃q,(a.all (shp k .ctor))=q:=⟨_,rfl⟩
 rw[h1,h2,h3]
 have H1:=η h1
 clear h1
 have u2:decide ((0:Int)<(a.length:Int))=q2:=(lenlt 0 _).trans h2
 have H3:=η h3
 clear h3
 clear hd hd2 hs hn ha
 go_in
 go_upto_region 1 with fail
 rw[←hW1.o]
 clear hW1
 cases q1 with
 | false =>
  go_wp2_with (first|(refine lr5 Y0 ?_)|(go_at_call 99;refine (saidEq (named_any p_uppB _ _ _ (NdR.to HN.o (sub_lo B0.o))) H1.o).mono ?_;rintro _ Z1 ⟨rfl,hb1⟩;obtain⟨B1,Y1,y10,y11,y12,y13,y14⟩:=nx5 B0 Y0 hb1))
  go_ret
  exact⟨rfl,B1.o⟩
 | true =>
  cases q2 with
  | false =>
   go_wp2_with (first|(refine lr5 Y0 ?_)|(go_at_call 99;refine (saidEq (named_any p_uppB _ _ _ (NdR.to HN.o (sub_lo B0.o))) H1.o).mono ?_;rintro _ Z1 ⟨rfl,hb1⟩;obtain⟨B1,Y1,y10,y11,y12,y13,y14⟩:=nx5 B0 Y0 hb1))
   go_ret
   exact⟨rfl,B1.o⟩
  | true =>
   cases q3<;>(go_wp2_with (first|(refine lr5 Y0 ?_)|(go_at_call 99;refine (saidEq (named_any p_uppB _ _ _ (NdR.to HN.o (sub_lo B0.o))) H1.o).mono ?_;rintro _ Z1 ⟨rfl,hb1⟩;obtain⟨B1,Y1,y10,y11,y12,y13,y14⟩:=nx5 B0 Y0 hb1)|(go_at_call 101;(first|rw[HW.o]|rw[HW2.o]|rw[HW3.o]|skip);refine (saidEq (all_call HH.o .ctor rfl HD.o (NdsR.to HA.o (sub_lo B1.o))) H3.o).mono ?_;rintro _ Z3 ⟨rfl,hb3⟩;obtain⟨B3,Y3,y30,y31,y32,y33,y34⟩:=nx5 B1 Y1 hb3));go_ret;exact⟨rfl,B3.o⟩)
theorem dcl_4 {k:Nat} (H:AllS k) (s:Ê) (n p:Int) (a:List Nd) (A:Option Addr) (cap d:Nat) (w:À) (hd:d+(k+1)=41) (hs:s.size≤maxLen) (hn:NdR w (lo w) (cl 4 s n p A a.length cap) (.mk 4 s n p a)):Calls prog 63 #[.agg (cl 4 s n p A a.length cap).toArray,.int .i64 (d:Int)] w (EqSaid ((lowB (ndT (Nd.mk 4 s n p a))&&ndN (Nd.mk 4 s n p a)==0)&&endB (shp k) a .fld [.typ]) w):=by
 have ha:=nd_kids hn
 have lm:a.length≤9223372036854775807:=ha.len.2
 have hd2:(d+1)+k=41:=by omega
 obtain⟨HH,HN,HA,HS,HD,HD0⟩:=zd6 H hn ha hs hd2 hd
 obtain⟨HW,HW2,HW3⟩:=dw5 d ω
 have u0:decide ((40:Int)<(d:Int))=false:=decide_eq_false ω
 obtain⟨W1,hW1,B0,Y0,x0,x1,x2,x3,x4⟩:=nb5 w 4 s n p A a.length cap
 obtain⟨q1,h1⟩:∃q,((lowB (ndT (Nd.mk 4 s n p a))&&ndN (Nd.mk 4 s n p a)==0))=q:=⟨_,rfl⟩
 obtain⟨q2,h2⟩:∃q,(endB (shp k) a .fld [.typ])=q:=⟨_,rfl⟩
 rw[h1,h2]
 have H1:=η h1
 clear h1
 have H2:=η h2
 clear h2
 clear hd hd2 hs hn ha
 go_in
 go_upto_region 1 with fail
 rw[←hW1.o]
 clear hW1
 cases q1 with
 | false =>
  go_wp2_with (first|(refine lr5 Y0 ?_)|(go_at_call 99;refine (saidEq (named_any p_lowB _ _ _ (NdR.to HN.o (sub_lo B0.o))) H1.o).mono ?_;rintro _ Z1 ⟨rfl,hb1⟩;obtain⟨B1,Y1,y10,y11,y12,y13,y14⟩:=nx5 B0 Y0 hb1))
  go_ret
  exact⟨rfl,B1.o⟩
 | true =>
  cases q2<;>(go_wp2_with (first|(refine lr5 Y0 ?_)|(go_at_call 99;refine (saidEq (named_any p_lowB _ _ _ (NdR.to HN.o (sub_lo B0.o))) H1.o).mono ?_;rintro _ Z1 ⟨rfl,hb1⟩;obtain⟨B1,Y1,y10,y11,y12,y13,y14⟩:=nx5 B0 Y0 hb1)|(go_at_call 105;(first|rw[HW.o]|rw[HW2.o]|rw[HW3.o]|skip);refine (saidEq (end_call HH.o .fld rfl [.typ] π π HD.o (NdsR.to HA.o (sub_lo B1.o))) H2.o).mono ?_;rintro _ Z2 ⟨rfl,hb2⟩;obtain⟨B2,Y2,y20,y21,y22,y23,y24⟩:=nx5 B1 Y1 hb2));go_ret;exact⟨rfl,B2.o⟩)
theorem dcl_5 {k:Nat} (H:AllS k) (s:Ê) (n p:Int) (a:List Nd) (A:Option Addr) (cap d:Nat) (w:À) (hd:d+(k+1)=41) (hs:s.size≤maxLen) (hn:NdR w (lo w) (cl 5 s n p A a.length cap) (.mk 5 s n p a)):Calls prog 63 #[.agg (cl 5 s n p A a.length cap).toArray,.int .i64 (d:Int)] w (EqSaid ((lowB (ndT (Nd.mk 5 s n p a))&&ndN (Nd.mk 5 s n p a)==0)&&endB (shp k) a .fld [.typ,.exp]) w):=by
 have ha:=nd_kids hn
 have lm:a.length≤9223372036854775807:=ha.len.2
 have hd2:(d+1)+k=41:=by omega
 obtain⟨HH,HN,HA,HS,HD,HD0⟩:=zd6 H hn ha hs hd2 hd
 obtain⟨HW,HW2,HW3⟩:=dw5 d ω
 have u0:decide ((40:Int)<(d:Int))=false:=decide_eq_false ω
 obtain⟨W1,hW1,B0,Y0,x0,x1,x2,x3,x4⟩:=nb5 w 5 s n p A a.length cap
 obtain⟨q1,h1⟩:∃q,((lowB (ndT (Nd.mk 5 s n p a))&&ndN (Nd.mk 5 s n p a)==0))=q:=⟨_,rfl⟩
 obtain⟨q2,h2⟩:∃q,(endB (shp k) a .fld [.typ,.exp])=q:=⟨_,rfl⟩
 rw[h1,h2]
 have H1:=η h1
 clear h1
 have H2:=η h2
 clear h2
 clear hd hd2 hs hn ha
 go_in
 go_upto_region 1 with fail
 rw[←hW1.o]
 clear hW1
 cases q1 with
 | false =>
  go_wp2_with (first|(refine lr5 Y0 ?_)|(go_at_call 99;refine (saidEq (named_any p_lowB _ _ _ (NdR.to HN.o (sub_lo B0.o))) H1.o).mono ?_;rintro _ Z1 ⟨rfl,hb1⟩;obtain⟨B1,Y1,y10,y11,y12,y13,y14⟩:=nx5 B0 Y0 hb1))
  go_ret
  exact⟨rfl,B1.o⟩
 | true =>
  cases q2<;>(go_wp2_with (first|(refine lr5 Y0 ?_)|(go_at_call 99;refine (saidEq (named_any p_lowB _ _ _ (NdR.to HN.o (sub_lo B0.o))) H1.o).mono ?_;rintro _ Z1 ⟨rfl,hb1⟩;obtain⟨B1,Y1,y10,y11,y12,y13,y14⟩:=nx5 B0 Y0 hb1)|(go_at_call 105;(first|rw[HW.o]|rw[HW2.o]|rw[HW3.o]|skip);refine (saidEq (end_call HH.o .fld rfl [.typ,.exp] π π HD.o (NdsR.to HA.o (sub_lo B1.o))) H2.o).mono ?_;rintro _ Z2 ⟨rfl,hb2⟩;obtain⟨B2,Y2,y20,y21,y22,y23,y24⟩:=nx5 B1 Y1 hb2));go_ret;exact⟨rfl,B2.o⟩)
theorem dcl_o (k0:Int) (cs:List Value) (t:Nd) (d:Nat) (w:À) (h40:d≤40) (hk:ndK t=k0) (hne:k0≠2∧k0≠3∧k0≠4∧k0≠5∧k0≠6) (h:NdR w (lo w) cs t):Calls prog 63 #[.agg cs.toArray,.int .i64 (d:Int)] w (EqSaid false w):=by
 obtain⟨k0',s,n,p,a,A,cap,rfl,rfl,_,_,_⟩:=nd_form h
 obtain rfl:k0'=k0:=hk
 have u0:decide ((40:Int)<(d:Int))=false:=decide_eq_false ω
 obtain⟨e2,e3,e4,e5,e6⟩:=hne
 have v2:(k0'==2)=false:=beq_eq_false_iff_ne.2 e2
 have v3:(k0'==3)=false:=beq_eq_false_iff_ne.2 e3
 have v4:(k0'==4)=false:=beq_eq_false_iff_ne.2 e4
 have v5:(k0'==5)=false:=beq_eq_false_iff_ne.2 e5
 have v6:(k0'==6)=false:=beq_eq_false_iff_ne.2 e6
 have w1:Hid (IntKind.i64.wrap ((d:Int)+1)=((d:Int)+1)):=by show _=_;rw[IntKind.wrap_i64];omega
 obtain⟨W1,hW1⟩:∃q,Hid (q=w.alloc (.cells (cl k0' s n p A a.length cap).toArray 83)):=⟨_,rfl⟩
 have B0:Hid (Below w.heap.size w W1):=by show Below _ _ _;rw[hW1.o];exact belA (belR _) _
 have Y0:Hid (Hs W1 w.heap.size 83 (cl k0' s n p A a.length cap).toArray):=by show Hs _ _ _ _;rw[hW1.o];exact Hs.new _ _ _
 have x0:W1.cell? ⟨w.heap.size,0,none⟩=some (.int .i64 k0'):=Y0.o.c 0
 clear h e2 e3 e4 e5 e6
 go_in
 go_upto_region 1 with fail
 rw[←hW1.o]
 clear hW1
 go_wp2
 go_ret
 exact⟨rfl,B0.o⟩
theorem chg_73 {k:Nat} (H:AllS k) (s:Ê) (n p:Int) (a:List Nd) (A:Option Addr) (cap d:Nat) (w:À) (hd:d+(k+1)=41) (hs:s.size≤maxLen) (hn:NdR w (lo w) (cl 73 s n p A a.length cap) (.mk 73 s n p a)):Calls prog 64 #[.agg (cl 73 s n p A a.length cap).toArray,.int .i64 (d:Int)] w (EqSaid (uppB s.data.toList&&decide (0≤n)&&decide (n≤9007199254740992)&&(a.length==0)) w):=by
 have ha:=nd_kids hn
 have lm:a.length≤9223372036854775807:=ha.len.2
 have hd2:(d+1)+k=41:=by omega
 obtain⟨HH,HN,HA,HS,HD,HD0⟩:=zd6 H hn ha hs hd2 hd
 obtain⟨HW,HW2,HW3⟩:=dw5 d ω
 have u0:decide ((40:Int)<(d:Int))=false:=decide_eq_false ω
 obtain⟨W1,hW1,B0,Y0,x0,x1,x2,x3,x4⟩:=nb5 w 73 s n p A a.length cap
 obtain⟨q1,h1⟩:∃q,(uppB s.data.toList)=q:=⟨_,rfl⟩
 obtain⟨q2,h2⟩:∃q,(decide (0≤n))=q:=⟨_,rfl⟩
 obtain⟨q3,h3⟩:∃q,(decide (n≤9007199254740992))=q:=⟨_,rfl⟩
 obtain⟨q4,h4⟩:∃q,((a.length==0))=q:=⟨_,rfl⟩
 rw[h1,h2,h3,h4]
 have H1:=η h1
 clear h1
 have u2:decide ((0:Int)≤n)=q2:=(rfl).trans h2
 clear h2
 have u3:decide (n≤9007199254740992)=q3:=(rfl).trans h3
 clear h3
 have u4:((a.length:Int)==0)=q4:=(len0 _).trans h4
 clear h4
 clear hd hd2 hs hn ha
 go_in
 go_upto_region 1 with fail
 rw[←hW1.o]
 clear hW1
 cases q1 with
 | false =>
  go_wp2_with (first|(refine lr5 Y0 ?_)|(go_at_call 100;refine (saidEq (pred_said p_uppB s _ HS.o) H1.o).mono ?_;rintro _ Z1 ⟨rfl,hb1⟩;obtain⟨B1,Y1,y10,y11,y12,y13,y14⟩:=nx5 B0 Y0 hb1))
  go_ret
  exact⟨rfl,B1.o⟩
 | true =>
  cases q2 with
  | false =>
   go_wp2_with (first|(refine lr5 Y0 ?_)|(go_at_call 100;refine (saidEq (pred_said p_uppB s _ HS.o) H1.o).mono ?_;rintro _ Z1 ⟨rfl,hb1⟩;obtain⟨B1,Y1,y10,y11,y12,y13,y14⟩:=nx5 B0 Y0 hb1))
   go_ret
   exact⟨rfl,B1.o⟩
  | true =>
   cases q3 with
   | false =>
    go_wp2_with (first|(refine lr5 Y0 ?_)|(go_at_call 100;refine (saidEq (pred_said p_uppB s _ HS.o) H1.o).mono ?_;rintro _ Z1 ⟨rfl,hb1⟩;obtain⟨B1,Y1,y10,y11,y12,y13,y14⟩:=nx5 B0 Y0 hb1))
    go_ret
    exact⟨rfl,B1.o⟩
   | true =>
    cases q4<;>(go_wp2_with (first|(refine lr5 Y0 ?_)|(go_at_call 100;refine (saidEq (pred_said p_uppB s _ HS.o) H1.o).mono ?_;rintro _ Z1 ⟨rfl,hb1⟩;obtain⟨B1,Y1,y10,y11,y12,y13,y14⟩:=nx5 B0 Y0 hb1));go_ret;exact⟨rfl,B1.o⟩)
theorem chg_74 {k:Nat} (H:AllS k) (s:Ê) (n p:Int) (a:List Nd) (A:Option Addr) (cap d:Nat) (w:À) (hd:d+(k+1)=41) (hs:s.size≤maxLen) (hn:NdR w (lo w) (cl 74 s n p A a.length cap) (.mk 74 s n p a)):Calls prog 64 #[.agg (cl 74 s n p A a.length cap).toArray,.int .i64 (d:Int)] w (EqSaid ((uppB (ndT (Nd.mk 74 s n p a))&&ndN (Nd.mk 74 s n p a)==0)&&(a.length==0)) w):=by
 have ha:=nd_kids hn
 have lm:a.length≤9223372036854775807:=ha.len.2
 have hd2:(d+1)+k=41:=by omega
 obtain⟨HH,HN,HA,HS,HD,HD0⟩:=zd6 H hn ha hs hd2 hd
 obtain⟨HW,HW2,HW3⟩:=dw5 d ω
 have u0:decide ((40:Int)<(d:Int))=false:=decide_eq_false ω
 obtain⟨W1,hW1,B0,Y0,x0,x1,x2,x3,x4⟩:=nb5 w 74 s n p A a.length cap
 obtain⟨q1,h1⟩:∃q,((uppB (ndT (Nd.mk 74 s n p a))&&ndN (Nd.mk 74 s n p a)==0))=q:=⟨_,rfl⟩
 obtain⟨q2,h2⟩:∃q,((a.length==0))=q:=⟨_,rfl⟩
 rw[h1,h2]
 have H1:=η h1
 clear h1
 have u2:((a.length:Int)==0)=q2:=(len0 _).trans h2
 clear h2
 clear hd hd2 hs hn ha
 go_in
 go_upto_region 1 with fail
 rw[←hW1.o]
 clear hW1
 cases q1 with
 | false =>
  go_wp2_with (first|(refine lr5 Y0 ?_)|(go_at_call 99;refine (saidEq (named_any p_uppB _ _ _ (NdR.to HN.o (sub_lo B0.o))) H1.o).mono ?_;rintro _ Z1 ⟨rfl,hb1⟩;obtain⟨B1,Y1,y10,y11,y12,y13,y14⟩:=nx5 B0 Y0 hb1))
  go_ret
  exact⟨rfl,B1.o⟩
 | true =>
  cases q2<;>(go_wp2_with (first|(refine lr5 Y0 ?_)|(go_at_call 99;refine (saidEq (named_any p_uppB _ _ _ (NdR.to HN.o (sub_lo B0.o))) H1.o).mono ?_;rintro _ Z1 ⟨rfl,hb1⟩;obtain⟨B1,Y1,y10,y11,y12,y13,y14⟩:=nx5 B0 Y0 hb1));go_ret;exact⟨rfl,B1.o⟩)
theorem chg_o (k0:Int) (cs:List Value) (t:Nd) (d:Nat) (w:À) (h40:d≤40) (hk:ndK t=k0) (hne:k0≠70∧k0≠71∧k0≠72∧k0≠73∧k0≠74) (h:NdR w (lo w) cs t):Calls prog 64 #[.agg cs.toArray,.int .i64 (d:Int)] w (EqSaid false w):=by
 obtain⟨k0',s,n,p,a,A,cap,rfl,rfl,_,_,_⟩:=nd_form h
 obtain rfl:k0'=k0:=hk
 have u0:decide ((40:Int)<(d:Int))=false:=decide_eq_false ω
 obtain⟨e70,e71,e72,e73,e74⟩:=hne
 have v70:(k0'==70)=false:=beq_eq_false_iff_ne.2 e70
 have v71:(k0'==71)=false:=beq_eq_false_iff_ne.2 e71
 have v72:(k0'==72)=false:=beq_eq_false_iff_ne.2 e72
 have v73:(k0'==73)=false:=beq_eq_false_iff_ne.2 e73
 have v74:(k0'==74)=false:=beq_eq_false_iff_ne.2 e74
 have w1:Hid (IntKind.i64.wrap ((d:Int)+1)=((d:Int)+1)):=by show _=_;rw[IntKind.wrap_i64];omega
 obtain⟨W1,hW1⟩:∃q,Hid (q=w.alloc (.cells (cl k0' s n p A a.length cap).toArray 83)):=⟨_,rfl⟩
 have B0:Hid (Below w.heap.size w W1):=by show Below _ _ _;rw[hW1.o];exact belA (belR _) _
 have Y0:Hid (Hs W1 w.heap.size 83 (cl k0' s n p A a.length cap).toArray):=by show Hs _ _ _ _;rw[hW1.o];exact Hs.new _ _ _
 have x0:W1.cell? ⟨w.heap.size,0,none⟩=some (.int .i64 k0'):=Y0.o.c 0
 clear h e70 e71 e72 e73 e74
 go_in
 go_upto_region 1 with fail
 rw[←hW1.o]
 clear hW1
 go_wp2
 go_ret
 exact⟨rfl,B0.o⟩
theorem dcl_z (cs:List Value) (t:Nd) (d:Nat) (w:À) (hd:d+0=41) (h:NdR w (lo w) cs t):Calls prog 63 #[.agg cs.toArray,.int .i64 (d:Int)] w (EqSaid false w):=by
 obtain⟨k0,s,n,p,a,A,cap,rfl,rfl,_,_,_⟩:=nd_form h
 have u0:decide ((40:Int)<(d:Int))=true:=decide_eq_true ω
 obtain⟨W1,hW1⟩:∃q,Hid (q=w.alloc (.cells (cl k0 s n p A a.length cap).toArray 83)):=⟨_,rfl⟩
 have B0:Hid (Below w.heap.size w W1):=by show Below _ _ _;rw[hW1.o];exact belA (belR _) _
 clear h hd
 go_in
 go_upto_region 1 with fail
 rw[←hW1.o]
 go_wp2
 go_ret
 exact⟨rfl,B0.o⟩
theorem chg_z (cs:List Value) (t:Nd) (d:Nat) (w:À) (hd:d+0=41) (h:NdR w (lo w) cs t):Calls prog 64 #[.agg cs.toArray,.int .i64 (d:Int)] w (EqSaid false w):=by
 obtain⟨k0,s,n,p,a,A,cap,rfl,rfl,_,_,_⟩:=nd_form h
 have u0:decide ((40:Int)<(d:Int))=true:=decide_eq_true ω
 obtain⟨W1,hW1⟩:∃q,Hid (q=w.alloc (.cells (cl k0 s n p A a.length cap).toArray 83)):=⟨_,rfl⟩
 have B0:Hid (Below w.heap.size w W1):=by show Below _ _ _;rw[hW1.o];exact belA (belR _) _
 clear h hd
 go_in
 go_upto_region 1 with fail
 rw[←hW1.o]
 go_wp2
 go_ret
 exact⟨rfl,B0.o⟩
def pnum:Wp→FuncId
 | .upp=>100
 | .low=>104
 | .msg=>111
 | .bnd=>212
 | .pat=>211
 | .typ=>156
theorem p_of (p:Wp):PredSaid (pnum p) p.b:=by
 cases p
 · exact p_uppB
 · exact p_lowB
 · exact p_msgB
 · exact p_bndB
 · exact p_patB
 · exact p_typB
def lfC (w:À):Array Value:=#[.pointer (some ⟨w.heap.size,0,none⟩),.pointer (some ⟨w.heap.size+1,0,none⟩)]
def LfS (K:Int) (F:FuncId) (w X:À):Prop:=Hs X w.heap.size 3 #[.int .i64 K]∧Hs X (w.heap.size+1) 64 #[.func (.func F) #[] #[]]∧Below w.heap.size w X
theorem LfS.bel {K:Int} {F:FuncId} {w X Y:À} (h:LfS K F w X) (b:Below X.heap.size X Y):LfS K F w Y:=⟨hs_bel h.1 b,hs_bel h.2.1 b,Proofs.YtbmknjfgjphfbaaGreatDoor.bel h.2.2 b⟩
theorem leaf_any (K:Int) (F:FuncId) (w:À):Calls prog 109 #[.int .i64 K,.func (.func F) #[] #[]] w fun e w'=>e=.returned (.func (.func 161) #[] (lfC w))∧LfS K F w w':=by
 obtain⟨W1,hW1⟩:∃q,Hid (q=(w.alloc (.cells #[.int .i64 K] 3)).alloc (.cells #[.func (.func F) #[] #[]] 64)):=⟨_,rfl⟩
 have L:Hid (LfS K F w W1):=by
  show LfS _ _ _ _
  rw[hW1.o]
  exact⟨hs_bel (Hs.new _ _ _) (belA (belR _) _),by have:=Hs.new (w.alloc (.cells #[.int .i64 K] 3)) 64 #[.func (.func F) #[] #[]];simpa using this,belA (belA (belR _) _) _⟩
 go_in
 go_upto_region 1 with fail
 rw[←hW1.o]
 clear hW1
 go_wp2
 go_ret
 exact⟨rfl,L.o⟩
theorem leaf1_z {w0:À} (cs:List Value) (t:Nd) (d:Nat) (w:À) (hd:d+0=41) (h:NdR w (lo w) cs t):Calls prog 161 (#[.agg cs.toArray,.int .i64 (d:Int)]++lfC w0) w (EqSaid false w):=by
 obtain⟨k0,s,n,ps,a,A,cap,rfl,rfl,_,_,_⟩:=nd_form h
 have u0:decide ((d:Int)≤40)=false:=decide_eq_false ω
 obtain⟨W1,hW1⟩:∃q,Hid (q=w.alloc (.cells (cl k0 s n ps A a.length cap).toArray 83)):=⟨_,rfl⟩
 have B0:Hid (Below w.heap.size w W1):=by show Below _ _ _;rw[hW1.o];exact belA (belR _) _
 clear h hd
 show Calls prog 161 #[.agg (cl k0 s n ps A a.length cap).toArray,.int .i64 (d:Int),.pointer (some ⟨w0.heap.size,0,none⟩),.pointer (some ⟨w0.heap.size+1,0,none⟩)] w (EqSaid false w)
 go_in
 go_upto_region 1 with fail
 rw[←hW1.o]
 go_wp2
 go_ret
 exact⟨rfl,B0.o⟩
theorem leaf1_s {k:Nat} {K:Int} {pw:Wp} {w0:À} (cs:List Value) (t:Nd) (d:Nat) (w:À) (hd:d+(k+1)=41) (hL:LfS K (pnum pw) w0 w) (h:NdR w (lo w) cs t):Calls prog 161 (#[.agg cs.toArray,.int .i64 (d:Int)]++lfC w0) w (EqSaid (shp (k+1) (.leaf K pw) t) w):=by
 have hn:=h
 obtain⟨k0,s,n,p,a,A,cap,rfl,rfl,_,hs,ha⟩:=nd_form h
 have lm:a.length≤9223372036854775807:=ha.len.2
 have HN:=η hn
 have u0:decide ((d:Int)≤40)=true:=decide_eq_true ω
 obtain⟨W1,hW1,B0,Y0,x0,x1,x2,x3,x4⟩:=nb5 w k0 s n p A a.length cap
 have c0:W1.cell? ⟨w0.heap.size,0,none⟩=some (.int .i64 K):=(hs_bel hL.1 B0.o).c 0
 have c1:W1.cell? ⟨w0.heap.size+1,0,none⟩=some (.func (.func (pnum pw)) #[] #[]):=(hs_bel hL.2.1 B0.o).c 0
 have HP:=η (p_of pw)
 obtain⟨q1,h1⟩:∃q,(k0==K)=q:=⟨_,rfl⟩
 obtain⟨q2,h2⟩:∃q,(pw.b (ndT (.mk k0 s n p a))&&ndN (.mk k0 s n p a)==0)=q:=⟨_,rfl⟩
 obtain⟨q3,h3⟩:∃q,(a.length==0)=q:=⟨_,rfl⟩
 have u3:((a.length:Int)==0)=q3:=(len0 _).trans h3
 have HT:Hid (shp (k+1) (.leaf K pw) (.mk k0 s n p a)=(q1&&q2&&q3)):=by show _=_;rw[←h1,←h2,←h3];rfl
 rw[HT.o]
 have H2:=η h2
 generalize pnum pw=Fp at c1 HP
 clear h hs ha hd hL hn h2 h3
 show Calls prog 161 #[.agg (cl k0 s n p A a.length cap).toArray,.int .i64 (d:Int),.pointer (some ⟨w0.heap.size,0,none⟩),.pointer (some ⟨w0.heap.size+1,0,none⟩)] w (EqSaid (q1&&q2&&q3) w)
 go_in
 go_upto_region 1 with fail
 rw[←hW1.o]
 clear hW1
 cases q1 with
 | false =>
  go_wp2
  go_ret
  exact⟨rfl,B0.o⟩
 | true =>
  cases q2 with
  | false =>
   go_wp2_with (first|(refine lr5 Y0 ?_)|(go_at_call 99;refine (saidEq (named_any HP.o _ _ _ (NdR.to HN.o (sub_lo B0.o))) H2.o).mono ?_;rintro _ Z2 ⟨rfl,hb2⟩))
   go_ret
   exact⟨rfl,bel B0.o hb2⟩
  | true =>
   go_wp2_with (first|(refine lr5 Y0 ?_)|(go_at_call 99;refine (saidEq (named_any HP.o _ _ _ (NdR.to HN.o (sub_lo B0.o))) H2.o).mono ?_;rintro _ Z2 ⟨rfl,hb2⟩;obtain⟨B2,Y2⟩:=zd2 (bel B0.o hb2) (hs_bel Y0.o hb2);have y4:Z2.cell? ⟨w.heap.size,4,none⟩=some (.slice A a.length cap):=Y2.o.c 4))
   cases q3 with
   | false=>go_ret;exact⟨rfl,B2.o⟩
   | true=>go_ret;exact⟨rfl,B2.o⟩
theorem leaf_fv (k:Nat) (K:Int) (pw:Wp) {w0 w:À} (hL:LfS K (pnum pw) w0 w):FvS k 161 (lfC w0) (shp k (.leaf K pw)) w:=⟨fun _ _=>by kernel_rfl,fun X cs t d hX hd hn=>by
 cases k with
 | zero=>exact leaf1_z cs t d X hd hn
 | succ k=>exact leaf1_s cs t d X hd (hL.bel hX) hn⟩
end Go.Proofs.YtbmknjfgjphfbaaGreatDoor
