import Derived.Test.YtbjdcogmiggamaaGreatDoorCards
import Derived.Test.YtbjdcogmiggamaaGreatDoorTie
import Derived.ProofKit
import Derived.OpenShut
import Derived.ShutString
import Derived.Carry
import Derived.Deep.DeepHandedRow
import Derived.Deep.Fields
import Derived.Deep.Slices
import Derived.Lib.LaidTab
import Derived.LaidSub
import Derived.Test.YtbjdcogmiggamaaGreatDoorZ33
set_option linter.all false
namespace Go.Proofs.YtbjdcogmiggamaaGreatDoor
set_option maxRecDepth 100000
set_option maxHeartbeats 8000000
section
open Proofs.Tryz RowKit Maps WideMaps ChangeMaps
theorem nd_cells {w:À} {P:Nat→Prop} {k n p:Int} {s:Ê} {a:List Nd} {cs:List Value} (h:NdR w P cs (.mk k s n p a)):∃A cap,cs=cl k s n p A a.length cap∧NdsR w P (.slice A a.length cap) a:=by
 obtain⟨k0,s0,n0,p0,a0,A0,c0,e1,e2,_,_,h⟩:=nd_form h
 injection e2 with h1 h2 h3 h4 h5
 subst h1 h2 h3 h4 h5
 exact⟨A0,c0,e1,h⟩
def ParS (t:Nd) (K:Int) (l:Nat) (w:À) (e:Ending) (w':À):Prop:=∃A cap,e=.returned (.tuple #[.agg (cl K e0 0 0 A l cap).toArray,.int .i64 0,.int .i64 0])∧Below w.heap.size w w'∧NdR w' (lo w') (cl K e0 0 0 A l cap) t
theorem par_of {F:FuncId} {args:Array Value} {w:À} {t:Nd} {l:Nat} {a:List Nd} (ht:t=.mk 1 e0 0 0 a) (hl:a.length=l) (h:Calls prog F args w (RunV w (.ok t))):Calls prog F args w (ParS t 1 l w):=h.mono (by
 rintro e w' ⟨k,s,m,p,D,l',c,rfl,hb,hn⟩
 have hn2:NdR w' (lo w') (cl k s m p D l' c) t:=hn.to fun b hb=>⟨hb.2,rfl⟩
 have hn3:=hn2
 rw[ht] at hn3
 obtain⟨A,cap,e,_⟩:=nd_cells hn3
 rw[hl] at e
 rw[e] at hn2 ⊢
 exact⟨A,cap,rfl,hb,hn2⟩)
theorem bl (q:List UInt8):(⟨q.toArray⟩:Ê).data.toList=q:=by simp
theorem p1 (w:À):Calls prog 24 #[.string ⟨q1.toArray⟩] w (ParS T1 1 2 w):=par_of t1 rfl (by
 have h:=parse_any ⟨q1.toArray⟩ w Γ
 rw[bl,r1] at h;exact h)
theorem p3 (w:À):Calls prog 21 #[.string ⟨q3.toArray⟩] w (ParS T3 1 3 w):=par_of t3 rfl (by
 have h:=patch_any ⟨q3.toArray⟩ w Γ
 rw[bl,r3] at h;exact h)
theorem p2 (w:À):Calls prog 24 #[.string ⟨q2.toArray⟩] w fun e w'=>e=.returned (.tuple #[.agg zero5,.int .i64 2,.int .i64 13])∧Below w.heap.size w w':=by
 have h:=parse_any ⟨q2.toArray⟩ w Γ
 rw[bl,r2] at h;exact h
theorem p4 (w:À):Calls prog 24 #[.string ⟨q4.toArray⟩] w fun e w'=>e=.returned (.tuple #[.agg zero5,.int .i64 2,.int .i64 0])∧Below w.heap.size w w':=by
 have h:=parse_any ⟨q4.toArray⟩ w Γ
 rw[bl,r4] at h;exact h
structure SmM (b1 b3 g1 o1 c1 g3 o3 c3 gF oF cF gB oB cB:Nat) (AM:Option Addr) (cM:Nat) (AC:Option Addr) (lC cC:Nat) (AD:Option Addr) (lD cD:Nat) (X:À):Prop where
 f0:X.cell? ⟨b1,0,none⟩=some (.int .i64 1)
 f1:X.cell? ⟨b1,1,none⟩=some (.string e0)
 f2:X.cell? ⟨b1,2,none⟩=some (.int .i64 0)
 f3:X.cell? ⟨b1,3,none⟩=some (.int .i64 0)
 f4:X.cell? ⟨b1,4,none⟩=some (.slice (some ⟨g1,o1,none⟩) 2 c1)
 f5:X.cell? ⟨b3,0,none⟩=some (.int .i64 1)
 f6:X.cell? ⟨b3,1,none⟩=some (.string e0)
 f7:X.cell? ⟨b3,2,none⟩=some (.int .i64 0)
 f8:X.cell? ⟨b3,3,none⟩=some (.int .i64 0)
 f9:X.cell? ⟨b3,4,none⟩=some (.slice (some ⟨g3,o3,none⟩) 3 c3)
 f10:X.cell? ⟨g1,o1,none⟩=some (.int .i64 5)
 f11:X.cell? ⟨g1,o1+1,none⟩=some (.string (str [102]))
 f12:X.cell? ⟨g1,o1+2,none⟩=some (.int .i64 0)
 f13:X.cell? ⟨g1,o1+3,none⟩=some (.int .i64 0)
 f14:X.cell? ⟨g1,o1+4,none⟩=some (.slice (some ⟨gF,oF,none⟩) 3 cF)
 f15:X.cell? ⟨g1,o1+5,none⟩=some (.int .i64 6)
 f16:X.cell? ⟨g1,o1+6,none⟩=some (.string (ndS TM))
 f17:X.cell? ⟨g1,o1+7,none⟩=some (.int .i64 4)
 f18:X.cell? ⟨g1,o1+8,none⟩=some (.int .i64 (ndP TM))
 f19:X.cell? ⟨g1,o1+9,none⟩=some (.slice AM 2 cM)
 f20:X.cell? ⟨gF,oF+10,none⟩=some (.int .i64 35)
 f21:X.cell? ⟨gF,oF+11,none⟩=some (.string (str [43]))
 f22:X.cell? ⟨gF,oF+12,none⟩=some (.int .i64 0)
 f23:X.cell? ⟨gF,oF+13,none⟩=some (.int .i64 21)
 f24:X.cell? ⟨gF,oF+14,none⟩=some (.slice (some ⟨gB,oB,none⟩) 2 cB)
 f25:X.cell? ⟨gB,oB+5,none⟩=some (.int .i64 35)
 f26:X.cell? ⟨gB,oB+6,none⟩=some (.string (str [42]))
 f27:X.cell? ⟨gB,oB+7,none⟩=some (.int .i64 0)
 f28:X.cell? ⟨gB,oB+8,none⟩=some (.int .i64 (ndP (kid TB 1)))
 f29:X.cell? ⟨gB,oB+9,none⟩=some (.slice AC lC cC)
 f30:X.cell? ⟨g3,o3,none⟩=some (.int .i64 73)
 f31:X.cell? ⟨g3,o3+1,none⟩=some (.string (ndS (kid T3 0)))
 f32:X.cell? ⟨g3,o3+2,none⟩=some (.int .i64 2)
 f33:X.cell? ⟨g3,o3+3,none⟩=some (.int .i64 (ndP (kid T3 0)))
 f34:X.cell? ⟨g3,o3+4,none⟩=some (.slice AD lD cD)
theorem SmM.bel {b1 b3 g1 o1 c1 g3 o3 c3 gF oF cF gB oB cB:Nat} {AM:Option Addr} {cM:Nat} {AC:Option Addr} {lC cC:Nat} {AD:Option Addr} {lD cD:Nat} {X Y:À} (h:SmM b1 b3 g1 o1 c1 g3 o3 c3 gF oF cF gB oB cB AM cM AC lC cC AD lD cD X) (hb:Below X.heap.size X Y):SmM b1 b3 g1 o1 c1 g3 o3 c3 gF oF cF gB oB cB AM cM AC lC cC AD lD cD Y:=⟨belC hb h.f0,belC hb h.f1,belC hb h.f2,belC hb h.f3,belC hb h.f4,belC hb h.f5,belC hb h.f6,belC hb h.f7,belC hb h.f8,belC hb h.f9,belC hb h.f10,belC hb h.f11,belC hb h.f12,belC hb h.f13,belC hb h.f14,belC hb h.f15,belC hb h.f16,belC hb h.f17,belC hb h.f18,belC hb h.f19,belC hb h.f20,belC hb h.f21,belC hb h.f22,belC hb h.f23,belC hb h.f24,belC hb h.f25,belC hb h.f26,belC hb h.f27,belC hb h.f28,belC hb h.f29,belC hb h.f30,belC hb h.f31,belC hb h.f32,belC hb h.f33,belC hb h.f34⟩
theorem sm_of {X:À} {b1 b3 c1 c3:Nat} {A1 A3:Option Addr} (h1:Hs X b1 24 (cl 1 e0 0 0 A1 2 c1).toArray) (n1:NdR X (lo X) (cl 1 e0 0 0 A1 2 c1) T1) (h3:Hs X b3 24 (cl 1 e0 0 0 A3 3 c3).toArray) (n3:NdR X (lo X) (cl 1 e0 0 0 A3 3 c3) T3) :
 ∃g1 o1 g3 o3 gF oF cF gB oB cB AM cM AC lC cC AD lD cD,A1=some ⟨g1,o1,none⟩∧A3=some ⟨g3,o3,none⟩∧SmM b1 b3 g1 o1 c1 g3 o3 c3 gF oF cF gB oB cB AM cM AC lC cC AD lD cD X∧NdR X (lo X) (cl 35 (str [43]) 0 21 (some ⟨gB,oB,none⟩) 2 cB) TB∧NdsR X (lo X) (.slice A1 2 c1) [TF,TM]:=by
 have m1:=n1
 rw[t1] at m1
 obtain⟨A,cap,e,hk⟩:=nd_cells m1
 injection e with _ e;injection e with _ e;injection e with _ e;injection e with _ e;injection e with e _;injection e with e1 e2 e3
 subst e1 e3
 have m3:=n3
 rw[t3] at m3
 obtain⟨A',cap',e,hk3⟩:=nd_cells m3
 injection e with _ e;injection e with _ e;injection e with _ e;injection e with _ e;injection e with e _;injection e with e1 e2 e3
 subst e1 e3
 obtain⟨g1,o1,rfl⟩:=NdsR.some hk (by simp)
 obtain⟨g3,o3,rfl⟩:=NdsR.some hk3 (by simp)
 have K0:=kid_at hk (i:=0) (by simp)
 obtain⟨k,s,m,p,D,ln,c,hr,x0,x1,x2,x3,x4⟩:=K0
 have hr0:NdR X (lo X) (cl k s m p D ln c) TF:=hr
 rw[tF] at hr0
 obtain⟨AF,cF,e,hF⟩:=nd_cells hr0
 injection e with e1 e;injection e with e2 e;injection e with e3 e;injection e with e4 e;injection e with e5 _
 injection e1 with _ e1;injection e2 with e2;injection e3 with _ e3;injection e4 with _ e4;injection e5 with e5 e6 e7
 subst e1 e2 e3 e4 e5 e6 e7
 have K1:=kid_at hk (i:=1) (by simp)
 obtain⟨k,s,m,p,D,ln,c,hr,y0,y1,y2,y3,y4⟩:=K1
 have hr0:NdR X (lo X) (cl k s m p D ln c) TM:=hr
 rw[tM] at hr0
 obtain⟨AM,cM,e,hM⟩:=nd_cells hr0
 injection e with e1 e;injection e with e2 e;injection e with e3 e;injection e with e4 e;injection e with e5 _
 injection e1 with _ e1;injection e2 with e2;injection e3 with _ e3;injection e4 with _ e4;injection e5 with e5 e6 e7
 subst e1 e2 e3 e4 e5 e6 e7
 obtain⟨gF,oF,rfl⟩:=NdsR.some hF (by simp)
 have K2:=kid_at hF (i:=2) (by simp)
 obtain⟨k,s,m,p,D,ln,c,hr,z0,z1,z2,z3,z4⟩:=K2
 have hB:NdR X (lo X) (cl k s m p D ln c) TB:=hr
 have hr0:=hB
 rw[tB] at hr0
 obtain⟨AB,cB,e,hBk⟩:=nd_cells hr0
 injection e with e1 e;injection e with e2 e;injection e with e3 e;injection e with e4 e;injection e with e5 _
 injection e1 with _ e1;injection e2 with e2;injection e3 with _ e3;injection e4 with _ e4;injection e5 with e5 e6 e7
 subst e1 e2 e3 e4 e5 e6 e7
 obtain⟨gB,oB,rfl⟩:=NdsR.some hBk (by simp)
 have K3:=kid_at hBk (i:=1) (by simp)
 obtain⟨k,s,m,p,D,ln,c,hr,u0,u1,u2,u3,u4⟩:=K3
 have hr0:NdR X (lo X) (cl k s m p D ln c) (kid TB 1):=hr
 rw[tB1] at hr0
 obtain⟨AC,cC,e,_⟩:=nd_cells hr0
 injection e with e1 e;injection e with e2 e;injection e with e3 e;injection e with e4 e;injection e with e5 _
 injection e1 with _ e1;injection e2 with e2;injection e3 with _ e3;injection e4 with _ e4;injection e5 with e5 e6 e7
 have K4:=kid_at hk3 (i:=0) (by simp)
 obtain⟨k',s',m',p',D',ln',c',hr',v0,v1,v2,v3,v4⟩:=K4
 have hr0:NdR X (lo X) (cl k' s' m' p' D' ln' c') (kid T3 0):=hr'
 rw[t30] at hr0
 obtain⟨AD,cD,e,_⟩:=nd_cells hr0
 injection e with d1 e;injection e with d2 e;injection e with d3 e;injection e with d4 e;injection e with d5 _
 injection d1 with _ d1;injection d2 with d2;injection d3 with _ d3;injection d4 with _ d4;injection d5 with d5 d6 d7
 rw[e1] at u0;rw[e2] at u1;rw[e3] at u2;rw[e4] at u3;rw[e5,e6,e7] at u4
 rw[d1] at v0;rw[d2] at v1;rw[d3] at v2;rw[d4] at v3;rw[d5,d6,d7] at v4
 exact⟨_,_,_,_,_,_,_,_,_,_,_,_,_,_,_,_,_,_,rfl,rfl,⟨h1.c 0,h1.c 1,h1.c 2,h1.c 3,h1.c 4,h3.c 0,h3.c 1,h3.c 2,h3.c 3,h3.c 4,x0,x1,x2,x3,x4,y0,y1,y2,y3,y4,z0,z1,z2,z3,z4,u0,u1,u2,u3,u4,v0,v1,v2,v3,v4⟩,hB,hk⟩
end
section
open Proofs.Tryz RowKit Maps WideMaps ChangeMaps
abbrev cN (A:Option Addr) (l cap:Nat):List Value:=cl 1 e0 0 0 A l cap
theorem small_any (w:À) (ht:Tab w):Calls prog 10 #[] w (EqSaid true w):=by
 have HT:=η ht
 clear ht
 go_in
 go_wp2_with fail
 refine (p1 w).mono ?_
 rintro _ X1 ⟨A1,c1,rfl,hb1,n1⟩
 obtain⟨Y1,hY1⟩:∃q,Hid (q=X1.alloc (.cells (cN A1 2 c1).toArray 24)):=⟨_,η rfl⟩
 have by1:Below X1.heap.size X1 Y1:=by rw[hY1.o];exact belA (belR _) _
 have HB1:=η (bel hb1 by1)
 have H1:Hid (Hs Y1 X1.heap.size 24 (cN A1 2 c1).toArray):=by rw[hY1.o];exact η (Hs.new _ _ _)
 have N1:=η (NdR.to n1 (sub_lo by1))
 obtain⟨b1,hq1⟩:∃b,b=X1.heap.size:=⟨_,rfl⟩
 rw[←hq1] at H1
 clear hb1 n1 by1
 go_upto_region 2 with fail
 rw[←hY1.o,←hq1]
 clear hY1 hq1
 go_wp2_with fail
 refine (p2 Y1).mono ?_
 rintro _ X2 ⟨rfl,hb2⟩
 obtain⟨Y2,hY2⟩:∃q,Hid (q=X2.alloc (.cells zero5 24)):=⟨_,η rfl⟩
 have by2:Below Y1.heap.size Y1 Y2:=by rw[hY2.o];exact bel hb2 (belA (belR _) _)
 replace HB1:=η (bel HB1.o by2)
 replace H1:=η (hs_bel H1.o by2)
 replace N1:=η (NdR.to N1.o (sub_lo by2))
 clear hb2 by2
 go_upto_region 3 with fail
 rw[←hY2.o]
 clear hY2
 go_wp2_with fail
 refine (p3 Y2).mono ?_
 rintro _ X3 ⟨A3,c3,rfl,hb3,n3⟩
 obtain⟨Y3,hY3⟩:∃q,Hid (q=X3.alloc (.cells (cN A3 3 c3).toArray 24)):=⟨_,η rfl⟩
 have by3:Below X3.heap.size X3 Y3:=by rw[hY3.o];exact belA (belR _) _
 have H3:Hid (Hs Y3 X3.heap.size 24 (cN A3 3 c3).toArray):=by rw[hY3.o];exact η (Hs.new _ _ _)
 have N3:=η (NdR.to n3 (sub_lo by3))
 replace HB1:=η (bel HB1.o (bel hb3 by3))
 replace H1:=η (hs_bel H1.o (bel hb3 by3))
 replace N1:=η (NdR.to N1.o (sub_lo (bel hb3 by3)))
 obtain⟨b3,hq3⟩:∃b,b=X3.heap.size:=⟨_,rfl⟩
 rw[←hq3] at H3
 clear hb3 n3 by3
 go_upto_region 4 with fail
 rw[←hY3.o,←hq3]
 clear hY3 hq3
 go_wp2_with fail
 refine (p4 Y3).mono ?_
 rintro _ X4 ⟨rfl,hb4⟩
 obtain⟨Y4,hY4⟩:∃q,Hid (q=X4.alloc (.cells zero5 24)):=⟨_,η rfl⟩
 have by4:Below Y3.heap.size Y3 Y4:=by rw[hY4.o];exact bel hb4 (belA (belR _) _)
 replace HB1:=η (bel HB1.o by4)
 replace H1:=η (hs_bel H1.o by4)
 replace N1:=η (NdR.to N1.o (sub_lo by4))
 replace H3:=η (hs_bel H3.o by4)
 replace N3:=η (NdR.to N3.o (sub_lo by4))
 clear hb4 by4
 go_upto_region 5 with fail
 rw[←hY4.o]
 clear hY4
 obtain⟨g1,o1,g3,o3,gF,oF,cF,gB,oB,cB,AM,cM,AC,lC,cC,AD,lD,cD,rfl,rfl,hm,hB,hk⟩:=sm_of H1.o N1.o H3.o N3.o
 obtain⟨M,NB,NK⟩:=zd3 hm hB hk
 obtain⟨f0,f1,f2,f3,f4,f5,f6,f7,f8,f9,f10,f11,f12,f13,f14,f15,f16,f17,f18,f19,f20,f21,f22,f23,f24,f25,f26,f27,f28,f29,f30,f31,f32,f33,f34⟩:=hm
 clear hB hk
 obtain⟨Y5,hY5⟩:∃q,Hid (q=Y4.alloc (.cells (cl 35 (str [43]) 0 21 (some ⟨gB,oB,none⟩) 2 cB).toArray 24)):=⟨_,η rfl⟩
 have by5:Below Y4.heap.size Y4 Y5:=by rw[hY5.o];exact belA (belR _) _
 have H5:Hid (Hs Y5 Y4.heap.size 24 (cl 35 (str [43]) 0 21 (some ⟨gB,oB,none⟩) 2 cB).toArray):=by rw[hY5.o];exact η (Hs.new _ _ _)
 go_upto_region 8 with fail
 rw[←hY5.o]
 obtain⟨b5,hq5⟩:∃b,b=Y4.heap.size:=⟨_,rfl⟩
 rw[←hq5] at H5 ⊢
 replace HB1:=η (bel HB1.o by5)
 replace N1:=η (NdR.to N1.o (sub_lo by5))
 replace N3:=η (NdR.to N3.o (sub_lo by5))
 replace NB:=η (NdR.to NB.o (sub_lo by5))
 replace NK:=η (NdsR.to NK.o (sub_lo by5))
 replace M:=η (M.out.bel by5)
 clear f0 f1 f2 f3 f4 f5 f6 f7 f8 f9 f10 f11 f12 f13 f14 f15 f16 f17 f18 f19 f20 f21 f22 f23 f24 f25 f26 f27 f28 f29 f30 f31 f32 f33 f34 by5 hY5 hq5 H1 H3
 have hm:=M.out
 obtain⟨f0,f1,f2,f3,f4,f5,f6,f7,f8,f9,f10,f11,f12,f13,f14,f15,f16,f17,f18,f19,f20,f21,f22,f23,f24,f25,f26,f27,f28,f29,f30,f31,f32,f33,f34⟩:=hm
 obtain⟨x0,x1,x2,x3,x4⟩:=cf5 H5.o
 have s1:((str [43]).toList==[43])=true:=by rw[str_eq];rfl
 have s2:((str [42]).toList==[42])=true:=by rw[str_eq];rfl
 go_wp2_with fail
 refine (saidEq (tright_any T1 _ Y5 N1.o) right1).mono ?_
 rintro _ W6 ⟨rfl,kW6⟩
 replace HB1:=η (bel HB1.o kW6)
 replace N1:=η (NdR.to N1.o (sub_lo kW6))
 replace N3:=η (NdR.to N3.o (sub_lo kW6))
 replace NB:=η (NdR.to NB.o (sub_lo kW6))
 replace NK:=η (NdsR.to NK.o (sub_lo kW6))
 replace M:=η (M.out.bel kW6)
 replace H5:=η (hs_bel H5.o kW6)
 clear f0 f1 f2 f3 f4 f5 f6 f7 f8 f9 f10 f11 f12 f13 f14 f15 f16 f17 f18 f19 f20 f21 f22 f23 f24 f25 f26 f27 f28 f29 f30 f31 f32 f33 f34 x0 x1 x2 x3 x4 kW6
 have hm:=M.out
 obtain⟨f0,f1,f2,f3,f4,f5,f6,f7,f8,f9,_,_,_,_,_,_,_,_,_,_,_,_,_,_,_,_,_,_,_,_,_,_,_,_,_⟩:=hm
 obtain⟨x0,x1,x2,x3,x4⟩:=cf5 H5.o
 go_wp2_with fail
 refine (saidEq (tright_any T3 _ W6 N3.o) right3).mono ?_
 rintro _ W7 ⟨rfl,kW7⟩
 replace HB1:=η (bel HB1.o kW7)
 replace N1:=η (NdR.to N1.o (sub_lo kW7))
 replace N3:=η (NdR.to N3.o (sub_lo kW7))
 replace NB:=η (NdR.to NB.o (sub_lo kW7))
 replace NK:=η (NdsR.to NK.o (sub_lo kW7))
 replace M:=η (M.out.bel kW7)
 replace H5:=η (hs_bel H5.o kW7)
 clear f0 f1 f2 f3 f4 f5 f6 f7 f8 f9 x0 x1 x2 x3 x4 kW7
 have hm:=M.out
 obtain⟨f0,f1,f2,f3,f4,f5,f6,f7,f8,f9,_,_,_,_,_,_,_,_,_,_,_,_,_,_,_,_,_,_,_,_,_,_,_,_,_⟩:=hm
 obtain⟨x0,x1,x2,x3,x4⟩:=cf5 H5.o
 go_wp2_with fail
 refine (saidEq (tright_any TB _ W7 NB.o) rightB0).mono ?_
 rintro _ W8 ⟨rfl,kW8⟩
 replace HB1:=η (bel HB1.o kW8)
 replace N1:=η (NdR.to N1.o (sub_lo kW8))
 replace N3:=η (NdR.to N3.o (sub_lo kW8))
 replace NB:=η (NdR.to NB.o (sub_lo kW8))
 replace NK:=η (NdsR.to NK.o (sub_lo kW8))
 replace M:=η (M.out.bel kW8)
 replace H5:=η (hs_bel H5.o kW8)
 clear f0 f1 f2 f3 f4 f5 f6 f7 f8 f9 x0 x1 x2 x3 x4 kW8
 have hm:=M.out
 obtain⟨f0,f1,f2,f3,f4,f5,f6,f7,f8,f9,_,_,_,_,_,_,_,_,_,_,_,_,_,_,_,_,_,_,_,_,_,_,_,_,_⟩:=hm
 obtain⟨x0,x1,x2,x3,x4⟩:=cf5 H5.o
 have hsl:∀X:À,(Instr.slice 22 (.slice (some ⟨g1,o1,none⟩) 2 c1) none (some (.int .i64 ((1:Nat):Int))) none).run prog X=.ok (.slice (some ⟨g1,o1,none⟩) 1 c1) X:=fun X=>run_upto22 X _ _ _ _ π NK.o.cap
 have hsl2:∀X:À,(Instr.slice 22 (.slice (some ⟨g1,o1,none⟩) 2 c1) none (some (.int .i64 1)) none).run prog X=.ok (.slice (some ⟨g1,o1,none⟩) 1 c1) X:=hsl
 have nW:NdR W8 (lo W8) (cl 1 e0 0 0 (some ⟨g1,o1,none⟩) 1 c1) TW:=NdR.of ⟨by unfold i64;decide,by unfold i64;decide,by unfold i64;decide⟩ π (NdsR.upto NK.o 1 π)
 have so:((⟨qo.toArray⟩:Ê).toList==qo)=true:=by rw[str_eq];rfl
 go_wp2_with fail
 refine (swrite_any TW _ W8 nW rightW simW (by show tksW.length≤_;rw[lenW];decide) szW (HT.o.keep HB1.o) (by show (wTks tksW).length+_≤_;rw[wlenW];decide)).mono ?_
 rintro _ W9 ⟨e9,k9⟩
 rw[show writeL (toksP TW)=qo from writeW] at e9
 subst e9
 clear x0 x1 x2 x3 x4 hsl hsl2 nW H5 NB NK
 replace HB1:=η (bel HB1.o k9)
 replace N1:=η (NdR.to N1.o (sub_lo k9))
 replace N3:=η (NdR.to N3.o (sub_lo k9))
 replace M:=η (M.out.bel k9)
 clear f0 f1 f2 f3 f4 f5 f6 f7 f8 f9 k9
 have hm:=M.out
 obtain⟨f0,f1,f2,f3,f4,f5,f6,f7,f8,f9,_,_,_,_,_,_,_,_,_,_,_,_,_,_,_,_,_,_,_,_,_,_,_,_,_⟩:=hm
 go_wp2_with fail
 refine (saidEq (same_any (SizeOf.sizeOf T1+1) T1 T1 _ _ W9 (Nat.lt_succ_self _) N1.o N1.o) same11).mono ?_
 rintro _ Wa ⟨rfl,ka⟩
 replace HB1:=η (bel HB1.o ka)
 replace N1:=η (NdR.to N1.o (sub_lo ka))
 replace N3:=η (NdR.to N3.o (sub_lo ka))
 replace M:=η (M.out.bel ka)
 clear f0 f1 f2 f3 f4 f5 f6 f7 f8 f9 ka
 have hm:=M.out
 obtain⟨f0,f1,f2,f3,f4,f5,f6,f7,f8,f9,_,_,_,_,_,_,_,_,_,_,_,_,_,_,_,_,_,_,_,_,_,_,_,_,_⟩:=hm
 go_wp2_with fail
 refine (saidEq (same_any (SizeOf.sizeOf T1+1) T1 T3 _ _ Wa (Nat.lt_succ_self _) N1.o N3.o) same13).mono ?_
 rintro _ Wb ⟨rfl,kb⟩
 replace HB1:=η (bel HB1.o kb)
 go_wp2
 go_ret
 exact⟨rfl,HB1.o⟩
end
section
open Proofs.Tryz RowKit Maps WideMaps ChangeMaps
theorem nd_kp {w:À} {P:Nat→Prop} {k n p:Int} {s:Ê} {D:Option Addr} {ln c:Nat} {t:Nd} (h:NdR w P (cl k s n p D ln c) t):ndK t=k∧ndP t=p:=by
 obtain⟨k0,s0,n0,p0,a0,A0,c0,e1,rfl,_⟩:=nd_form h
 injection e1 with e1 e;injection e with _ e;injection e with _ e;injection e with e4 _
 injection e1 with _ e1;injection e4 with _ e4
 subst e1 e4
 exact⟨rfl,rfl⟩
theorem find_at {α:Type} {g:α→Bool} {l:List α} {j:Nat} (h:j<l.length):(l.drop j).find? g=(match g l[j] with|true=>some l[j]|false=>(l.drop (j+1)).find? g):=by
 rw[List.drop_eq_getElem_cons h,List.find?_cons]
 cases g l[j]<;>rfl
theorem eqN_self (t:Nd):eqN t t=true:=(eqN_iff t t).2 rfl
theorem patches_walk (s:Ê) (w:À) (hs:s.size≤maxLen) (ht:Tab w):Calls prog 7 #[.string s] w (EqSaid true w):=by
 obtain⟨HT,HS⟩:=zd2 ht hs
 clear ht hs
 go_in
 by_cases hl:3000<s.size
 · have u0:decide ((3000:Int)<(s.size:Int))=true:=decide_eq_true ω
   go_wp2_with fail
   refine (small_any w HT.o).mono ?_
   rintro _ X1 ⟨rfl,hb1⟩
   have HB:=η hb1
   clear hb1
   go_wp2
   go_ret
   exact⟨rfl,HB.o⟩
 have u0:decide ((3000:Int)<(s.size:Int))=false:=decide_eq_false ω
 go_wp2_with fail
 refine (small_any w HT.o).mono ?_
 rintro _ X1 ⟨rfl,hb1⟩
 have HB:=η hb1
 clear hb1
 have CP:Hid _:=η (patch_any s X1 HS.o)
 have CN:Hid (∀X,Calls prog 24 #[.string s] X (RunV X (runP false s.data.toList))):=fun X=>parse_any s X HS.o
 rcases patches_law s.data.toList with ⟨x,p,y,q,e1,hx,e2,hy⟩|⟨a,e1,hcase⟩
 · rw[e1] at CP
   rw[e2] at CN
   clear e1 e2
   have hx1:(x==(0:Int))=false:=beq_false_of_ne hx
   have hx2:decide (x=(0:Int))=false:=decide_eq_false hx
   have hy1:(y==(0:Int))=false:=beq_false_of_ne hy
   have hy2:decide (y=(0:Int))=false:=decide_eq_false hy
   have hy3:Hid ((y != (0:Int))=true):=by show _=_;rw[bne,hy1];rfl
   go_wp2_with fail
   refine CP.o.mono ?_
   rintro _ X2 ⟨rfl,hb2⟩
   obtain⟨Y2,hY2⟩:∃q,Hid (q=X2.alloc (.cells zero5 24)):=⟨_,η rfl⟩
   have by2:Below X1.heap.size X1 Y2:=by rw[hY2.o];exact bel hb2 (belA (belR _) _)
   replace HB:=η (bel HB.o by2)
   clear hb2 by2
   go_upto_region 5 with fail
   rw[←hY2.o]
   clear hY2
   go_wp2_with fail
   refine (CN.o Y2).mono ?_
   rintro _ X3 ⟨rfl,hb3⟩
   obtain⟨Y3,hY3⟩:∃q,Hid (q=X3.alloc (.cells zero5 24)):=⟨_,η rfl⟩
   have by3:Below Y2.heap.size Y2 Y3:=by rw[hY3.o];exact bel hb3 (belA (belR _) _)
   replace HB:=η (bel HB.o by3)
   clear hb3 by3
   go_upto_region 6 with fail
   rw[←hY3.o]
   clear hY3
   go_wp2
   go_ret
   exact⟨congrArg (fun b=>Ending.returned (.bool b)) hy3.o,HB.o⟩
 rw[e1] at CP
 clear e1
 go_wp2_with fail
 refine CP.o.mono ?_
 rintro _ X2 ⟨k,s1,n,p,D,l',c,rfl,hb2,hn⟩
 have hn2:NdR X2 (lo X2) (cl k s1 n p D l' c) a:=hn.to fun b hb=>⟨hb.2,rfl⟩
 clear hn
 obtain⟨k0,s0,n0,p0,ks,A,cap,ec,rfl,_,_,ha⟩:=nd_form hn2
 rw[ec] at hn2 ⊢
 clear ec
 have lm:ks.length≤9223372036854775807:=ha.len.2
 obtain⟨Y2,hY2⟩:∃q,Hid (q=X2.alloc (.cells (cl k0 s0 n0 p0 A ks.length cap).toArray 24)):=⟨_,η rfl⟩
 have by2:Below X2.heap.size X2 Y2:=by rw[hY2.o];exact belA (belR _) _
 have HX:Hid (Hs Y2 X2.heap.size 24 (cl k0 s0 n0 p0 A ks.length cap).toArray):=by rw[hY2.o];exact η (Hs.new _ _ _)
 obtain⟨HN,HA⟩:=zd2 (NdR.to hn2 (sub_lo by2)) (NdsR.to ha (sub_lo by2))
 replace HB:=η (bel HB.o (bel hb2 by2))
 obtain⟨b2,hq2⟩:∃b,b=X2.heap.size:=⟨_,rfl⟩
 rw[←hq2] at HX
 clear hb2 by2 hn2 ha CP
 go_upto_region 5 with fail
 rw[←hY2.o,←hq2]
 clear hY2 hq2
 rcases hcase with ⟨x,hf,e2⟩|⟨hf,e2⟩
 · rw[e2] at CN
   clear e2
   have HF:Hid ((ks.drop 0).find? (fun x=>decide (70≤ndK x))=some x):=hf
   clear hf
   go_wp2_with fail
   refine (CN.o Y2).mono ?_
   rintro _ X3 ⟨rfl,hb3⟩
   obtain⟨Y3,hY3⟩:∃q,Hid (q=X3.alloc (.cells zero5 24)):=⟨_,η rfl⟩
   have by3:Hid (Below Y2.heap.size Y2 Y3):=by show Below _ _ _;rw[hY3.o];exact bel hb3 (belA (belR _) _)
   replace HB:=η (bel HB.o by3.o)
   replace HX:=η (hs_bel HX.o by3.o)
   replace HN:=η (NdR.to HN.o (sub_lo by3.o))
   replace HA:=η (NdsR.to HA.o (sub_lo by3.o))
   clear hb3 by3
   go_upto_region 6 with fail
   rw[←hY3.o]
   clear hY3
   go_wp2_with fail
   go_loopw [10] (fun i wr=>∃(j:Nat),j≤ks.length∧i=.int .i64 j∧Hid ((ks.drop j).find? (fun x=>decide (70≤ndK x))=some x)∧Hid (Below Y3.heap.size Y3 wr)) (fun i _=>ks.length-(intOf i).toNat)
   case atStart=>exact⟨0,by omega,rfl,HF.o,Below.refl _ _⟩
   case round =>
    obtain⟨j,hj,rfl,HQ,HW⟩:=hrel
    have b4:wr.cell? ⟨b2,4,none⟩=some (.slice A ks.length cap):=(hs_bel HX.o HW.o).cell 4
    by_cases hlt:j<ks.length
    · have u1:decide ((j:Int)<(ks.length:Int))=true:=decide_eq_true ω
      have HAT:=η ((find_at hlt).symm.trans HQ.o)
      obtain⟨g,off,k1,s1,m1,p1,D1,l1,c1,rfl,hg,hr1,f0,f1,f2,f3,f4⟩:=nds_at (NdsR.to HA.o (sub_lo HW.o)) hlt
      obtain⟨hk,hp⟩:=nd_kp hr1
      have j0:(0:Int)≤(j:Int):=by omega
      have j1:(j:Int)<(ks.length:Int):=by omega
      clear hr1 hg HQ
      by_cases h70:(70:Int)≤k1
      · have u2:decide ((70:Int)≤k1)=true:=decide_eq_true h70
        have HP:Hid (ndP x=p1):=by
         have h:=HAT.o
         rw[hk,u2] at h
         show _=_
         rw[←hp]
         exact congrArg ndP (Option.some.inj h).symm
        clear hk hp h70 HAT
        rw[HP.o]
        go_wp2
        go_ret
        exact⟨rfl,bel HB.o HW.o⟩
      · have u2:decide ((70:Int)≤k1)=false:=decide_eq_false h70
        have HD:Hid ((ks.drop (j+1)).find? (fun x=>decide (70≤ndK x))=some x):=by
         have h:=HAT.o
         rw[hk,u2] at h
         exact h
        clear hk hp h70 HAT
        go_wp2_with fail
        exact⟨⟨j+1,by omega,by go_num,HD.o,HW.o⟩,by simp[intOf];omega⟩
    · exfalso
      have h:=HQ.o
      rw[List.drop_eq_nil_of_le ω] at h
      cases h
 · rw[e2] at CN
   clear e2
   have HF:Hid ((ks.drop 0).find? (fun x=>decide (70≤ndK x))=none):=hf
   clear hf
   go_wp2_with fail
   refine (CN.o Y2).mono ?_
   rintro _ X3 ⟨k',s',n',p',D',ln',c',rfl,hb3,hn⟩
   have hn2:NdR X3 (lo X3) (cl k' s' n' p' D' ln' c') (.mk k0 s0 n0 p0 ks):=hn.to fun b hb=>⟨hb.2,rfl⟩
   obtain⟨Y3,hY3⟩:∃q,Hid (q=X3.alloc (.cells (cl k' s' n' p' D' ln' c').toArray 24)):=⟨_,η rfl⟩
   have by4:Hid (Below X3.heap.size X3 Y3):=by show Below _ _ _;rw[hY3.o];exact belA (belR _) _
   have HX3:Hid (Hs Y3 X3.heap.size 24 (cl k' s' n' p' D' ln' c').toArray):=by rw[hY3.o];exact η (Hs.new _ _ _)
   have HN3:=η (NdR.to hn2 (sub_lo by4.o))
   have by3:Hid (Below Y2.heap.size Y2 Y3):=bel hb3 by4.o
   replace HB:=η (bel HB.o by3.o)
   replace HX:=η (hs_bel HX.o by3.o)
   replace HN:=η (NdR.to HN.o (sub_lo by3.o))
   replace HA:=η (NdsR.to HA.o (sub_lo by3.o))
   obtain⟨b3,hq3⟩:∃b,b=X3.heap.size:=⟨_,rfl⟩
   rw[←hq3] at HX3
   clear hb3 by3 by4 hn hn2
   go_upto_region 6 with fail
   rw[←hY3.o,←hq3]
   clear hY3 hq3
   go_wp2_with fail
   go_loopw [10] (fun i wr=>∃(j:Nat),j≤ks.length∧i=.int .i64 j∧Hid ((ks.drop j).find? (fun x=>decide (70≤ndK x))=none)∧Hid (Below Y3.heap.size Y3 wr)) (fun i _=>ks.length-(intOf i).toNat)
   case atStart=>exact⟨0,by omega,rfl,HF.o,Below.refl _ _⟩
   case round =>
    obtain⟨j,hj,rfl,HQ,HW⟩:=hrel
    have b4:wr.cell? ⟨b2,4,none⟩=some (.slice A ks.length cap):=(hs_bel HX.o HW.o).cell 4
    by_cases hlt:j<ks.length
    · have u1:decide ((j:Int)<(ks.length:Int))=true:=decide_eq_true ω
      have HAT:=η ((find_at hlt).symm.trans HQ.o)
      obtain⟨g,off,k1,s1,m1,p1,D1,l1,c1,rfl,hg,hr1,f0,f1,f2,f3,f4⟩:=nds_at (NdsR.to HA.o (sub_lo HW.o)) hlt
      obtain⟨hk,hp⟩:=nd_kp hr1
      have j0:(0:Int)≤(j:Int):=by omega
      have j1:(j:Int)<(ks.length:Int):=by omega
      clear hr1 hg HQ
      by_cases h70:(70:Int)≤k1
      · exfalso
        have u2:decide ((70:Int)≤k1)=true:=decide_eq_true h70
        have h:=HAT.o
        rw[hk,u2] at h
        cases h
      · have u2:decide ((70:Int)≤k1)=false:=decide_eq_false h70
        have HD:Hid ((ks.drop (j+1)).find? (fun x=>decide (70≤ndK x))=none):=by
         have h:=HAT.o
         rw[hk,u2] at h
         exact h
        clear hk hp h70 HAT
        go_wp2_with fail
        exact⟨⟨j+1,by omega,by go_num,HD.o,HW.o⟩,by simp[intOf];omega⟩
    · have u1:decide ((j:Int)<(ks.length:Int))=false:=decide_eq_false ω
      have H2:=hs_bel HX.o HW.o
      have H3:=hs_bel HX3.o HW.o
      have a0:wr.cell? ⟨b2,0,none⟩=some (.int .i64 k0):=H2.cell 0
      have a1:wr.cell? ⟨b2,1,none⟩=some (.string s0):=H2.cell 1
      have a2:wr.cell? ⟨b2,2,none⟩=some (.int .i64 n0):=H2.cell 2
      have a3:wr.cell? ⟨b2,3,none⟩=some (.int .i64 p0):=H2.cell 3
      have c0:wr.cell? ⟨b3,0,none⟩=some (.int .i64 k'):=H3.cell 0
      have c1:wr.cell? ⟨b3,1,none⟩=some (.string s'):=H3.cell 1
      have c2:wr.cell? ⟨b3,2,none⟩=some (.int .i64 n'):=H3.cell 2
      have c3:wr.cell? ⟨b3,3,none⟩=some (.int .i64 p'):=H3.cell 3
      have c4:wr.cell? ⟨b3,4,none⟩=some (.slice D' ln' c'):=H3.cell 4
      clear H2 H3
      go_wp2_with fail
      refine (saidEq (equal_any (SizeOf.sizeOf (Nd.mk k0 s0 n0 p0 ks)+1) (.mk k0 s0 n0 p0 ks) (.mk k0 s0 n0 p0 ks) _ _ wr (Nat.lt_succ_self _) (NdR.to HN.o (sub_lo HW.o)) (NdR.to HN3.o (sub_lo HW.o))) (eqN_self _)).mono ?_
      rintro _ W4 ⟨rfl,h4⟩
      have H4:=η h4
      clear h4
      go_wp2
      go_ret
      exact⟨rfl,bel (bel HB.o HW.o) H4.o⟩
end
section
open Proofs.Tryz RowKit
open Go.ChangeShapes Go.WideShapes Go.ChangeAt Go.RowKit Go.Deep
theorem own:ownKnob prog.godebug=none:=by kernel_rfl
theorem gTab:prog.globalNamed "internal/strconv.uint64pow10" = some 0:=by kernel_rfl
theorem gTabType:(prog.globals[0]?).map (·.type)=some 146:=by kernel_rfl
theorem cells146:prog.cellsOf 146=20:=by kernel_rfl
theorem cellsU:prog.cellsOf 136=1:=by kernel_rfl
def twenty (x:String×DataW Unit):Bool:=match x.2 with|.agg l=>l.length==20|_=>false
theorem tab_of {W:À} (h:laidMetH prog Rows.syntaxPatchesRow.laid W):Tab W:=
 Lib.tabIs_of_head (rest:=[]) gTab gTabType underlying146 underlying136 cellsU cells146 (h.filter twenty)
def layT (g:Nat) (cs:Array Value) (h:Array Obj):Array Obj:=h.modify g fun
 | .cells _ t frozen=>.cells cs t frozen
 | o=>o
noncomputable def laidWorld (os:Os):À:=
 { World.holding prog os ⟨#[],#[],[]⟩ with heap:=layT 0 #[.int .u64 1,.int .u64 10,.int .u64 100,.int .u64 1000,.int .u64 10000,.int .u64 100000,.int .u64 1000000,.int .u64 10000000,.int .u64 100000000,.int .u64 1000000000,.int .u64 10000000000,.int .u64 100000000000,.int .u64 1000000000000,.int .u64 10000000000000,.int .u64 100000000000000,.int .u64 1000000000000000,.int .u64 10000000000000000,.int .u64 100000000000000000,.int .u64 1000000000000000000,.int .u64 10000000000000000000] (layT 1 #[.int .u8 0,.int .u8 1,.int .u8 28,.int .u8 2,.int .u8 29,.int .u8 14,.int .u8 24,.int .u8 3,.int .u8 30,.int .u8 22,.int .u8 20,.int .u8 15,.int .u8 25,.int .u8 17,.int .u8 4,.int .u8 8,.int .u8 31,.int .u8 27,.int .u8 13,.int .u8 23,.int .u8 21,.int .u8 19,.int .u8 16,.int .u8 7,.int .u8 26,.int .u8 12,.int .u8 18,.int .u8 6,.int .u8 11,.int .u8 5,.int .u8 10,.int .u8 9] (layT 2 #[.int .u8 0,.int .u8 1,.int .u8 56,.int .u8 2,.int .u8 57,.int .u8 49,.int .u8 28,.int .u8 3,.int .u8 61,.int .u8 58,.int .u8 42,.int .u8 50,.int .u8 38,.int .u8 29,.int .u8 17,.int .u8 4,.int .u8 62,.int .u8 47,.int .u8 59,.int .u8 36,.int .u8 45,.int .u8 43,.int .u8 51,.int .u8 22,.int .u8 53,.int .u8 39,.int .u8 33,.int .u8 30,.int .u8 24,.int .u8 18,.int .u8 12,.int .u8 5,.int .u8 63,.int .u8 55,.int .u8 48,.int .u8 27,.int .u8 60,.int .u8 41,.int .u8 37,.int .u8 16,.int .u8 46,.int .u8 35,.int .u8 44,.int .u8 21,.int .u8 52,.int .u8 32,.int .u8 23,.int .u8 11,.int .u8 54,.int .u8 26,.int .u8 40,.int .u8 15,.int .u8 34,.int .u8 20,.int .u8 31,.int .u8 10,.int .u8 25,.int .u8 14,.int .u8 19,.int .u8 9,.int .u8 13,.int .u8 8,.int .u8 7,.int .u8 6] (World.holding prog os ⟨#[],#[],[]⟩).heap)) }
end
end Go.Proofs.YtbjdcogmiggamaaGreatDoor
