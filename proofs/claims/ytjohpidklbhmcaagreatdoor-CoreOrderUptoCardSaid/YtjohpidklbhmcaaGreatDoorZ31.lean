/- Core -/
import Derived.Test.YtjohpidklbhmcaaGreatDoorZ27
namespace Go.Proofs.YtjohpidklbhmcaaGreatDoor
set_option linter.all false
open Proofs.Tryz RowKit Maps WideMaps ChangeMaps
set_option maxRecDepth 100000
set_option maxHeartbeats 2000000
structure StPre (c:CB) (p:Pg) (mb M n:Nat):Prop where
 IH:xG c p mb M
 F:aO p M
 Fi:Fine p
 Ef:∀e∈p.effects,∀q∈e.params,ag q.type=true
 act:0<p.actors.length
 IS:eY c p mb M n
def kB {w w':À} {own:Nat->Prop} {mb sb:Nat} {sc:Sc} {b:Bool} (hs:Stm mb w w') (hc:b=true->ScS w' own mb sb sc):cj w own mb sb (okSc b sc) (.returned (.tuple #[.int .i64 (-1),b])) w':=by
 cases b with
 | false=>exact dc hs
 | true=>exact gl hs (hc rfl)
def mg {xs:List Ex} {f:Ex->Bool} (h:0<xs.length):kU xs f=f xs[0]:=by
 match xs,h with
 | x::ys,_=>rfl
def letP_eq {E:EF} {sc:Sc} {n:Int} {xs:List Ex} (h:0<xs.length):letP E sc n xs=match E sc xs[0] none with|none=>none|some t=>(sc.bind n t).map λsc'=>(n,sc'):=by
 match xs,h with
 | x::ys,_=>rfl
section
variable {c:CB} {p:Pg} {mb M n:Nat} {own:Nat->Prop} {sb:Nat} {sc:Sc} {x:Int} {s:Ê} {A0:Option Addr} {xs:List Ex} {c0:Nat} {w:À} (hq:StPre c p mb M n) (hd:∀e∈xs,Ex.deep e<=M) (he:Env w own mb sb c p sc) (ho:ScOk p sc) (ha0:0<=sc.actor) (hx:ExsR w (im own w) (.slice A0 xs c0) xs) (hix:i64 x) (hss:s.size<=maxLen)
include hq hd he ho ha0 hx hix hss
variable {u:Ê} {A1 A2 A3:Option Addr} {els arms:List St} {c1 c2 c3:Nat}
theorem stmt_4 {m:Int} {thn:List St} (hx0:0<xs.length) (hda:∀a∈arms,St.deeps a.thn<=n) (hal:arms.length<=1000000000) (har:StsR w (im own w) (.slice A3 arms c3) arms):
 Calls prog 143 #[c.b,sb,st9 4 x m s u A0 xs c0 A1 thn c1 A2 els c2 A3 arms c3] w (cj w own mb sb (cG p (aa p M) (aF p M n) sc (.mk 4 x m s u xs thn els arms))):=by
 obtain⟨j,t,HO⟩:=zd3 hq ho he.mb.1;obtain⟨i,f,g,d⟩:=κ w (st9 4 x m s u A0 xs c0 A1 thn c1 A2 els c2 A3 arms c3) 120
 obtain⟨G,E,A,r⟩:=zd4 (he.bel g) (ExsR.to hx (sof (own:=own) g).sub) g f
 obtain⟨F,L,J,z⟩:=zd4 hd hix hss ha0;have b0:=d.c 0;obtain⟨l,v,y,B⟩:=zd4 hx0 hda hal (StsR.to har (sof (own:=own) g).sub);have Z:=d.c 1;have Y:=d.c 2;have X:=d.c 3;have W:=d.c 4;have V:=d.c 5;have U:=d.c 6;have T:=d.c 7;have R:=d.c 8;clear hq hd he ho hx f g ha0 hix hss hx0 hda hal har;go_in;go_upto_region 1 with fail;rw[<-r.o];go_upto_region 10 with fail;go_wp2_with (go_at_call 190;refine (cases_at j.IH j.Fi j.IS l F v y G t z E B).mono ?_;rintro O N ⟨rfl,k,h⟩);go_ret2;exact kB ((Stm.of_below A).trans k) h
theorem stmt_6 {m:Int} {thn:List St} (hx0:0<xs.length) (hdt:St.deeps thn<=n) (hth:StsR w (im own w) (.slice A1 thn c1) thn):
 Calls prog 143 #[c.b,sb,st9 6 x m s u A0 xs c0 A1 thn c1 A2 els c2 A3 arms c3] w (cj w own mb sb (cG p (aa p M) (aF p M n) sc (.mk 6 x m s u xs thn els arms))):=by
 obtain⟨i,t,HO⟩:=zd3 hq ho he.mb.1;obtain⟨h,d,f,a⟩:=κ w (st9 6 x m s u A0 xs c0 A1 thn c1 A2 els c2 A3 arms c3) 120
 obtain⟨G,D,A,r⟩:=zd4 (he.bel f) (ExsR.to hx (sof (own:=own) f).sub) f d
 obtain⟨E,v,J,z⟩:=zd4 hd hix hss ha0;have Z:=a.c 0;obtain⟨l,y,k⟩:=zd3 hx0 hdt (StsR.to hth (sof (own:=own) f).sub);have Y:=a.c 1;have X:=a.c 2;have W:=a.c 3;have V:=a.c 4;have U:=a.c 5;have T:=a.c 6;have R:=a.c 7;have O:=a.c 8;clear hq hd he ho hx d f ha0 hix hss hx0 hdt hth;go_in;go_upto_region 1 with fail;rw[<-r.o];go_upto_region 12 with fail;go_wp2_with (go_at_call 191;refine (loop_at i.IH i.F i.IS l E y G t z D k v).mono ?_;rintro N L ⟨rfl,j,g⟩);go_ret2;exact kB ((Stm.of_below A).trans j) g
theorem stmt_7 {m:Int} {thn:List St} (hx0:0<xs.length):
 Calls prog 143 #[c.b,sb,st9 7 x m s u A0 xs c0 A1 thn c1 A2 els c2 A3 arms c3] w (cj w own mb sb (cG p (aa p M) (aF p M n) sc (.mk 7 x m s u xs thn els arms))):=by
 obtain⟨i,r,X⟩:=zd3 hq ho he.mb.1;obtain⟨h,d,f,a⟩:=κ w (st9 7 x m s u A0 xs c0 A1 thn c1 A2 els c2 A3 arms c3) 120
 obtain⟨A,y,t,l⟩:=zd4 (he.bel f) (ExsR.to hx (sof (own:=own) f).sub) f d
 obtain⟨z,F,E,G⟩:=zd4 hd hix hss ha0;have W:=a.c 0;have k:=η hx0;have T:=a.c 3;have O:=a.c 5;clear hq hd he ho hx d f ha0 hix hss hx0;go_in;go_upto_region 1 with fail;rw[<-l.o];go_upto_region 14 with fail;go_wp2_with (go_at_call 192;refine (uQ i.IH i.Fi i.act k z A r y).mono ?_;rintro I H ⟨rfl,j,g⟩);go_ret2;exact kB ((Stm.of_below t).trans j) g
theorem stmt_10 {m:Int} {thn:List St}:
 Calls prog 143 #[c.b,sb,st9 10 x m s u A0 xs c0 A1 thn c1 A2 els c2 A3 arms c3] w (cj w own mb sb (cG p (aa p M) (aF p M n) sc (.mk 10 x m s u xs thn els arms))):=by
 obtain⟨l,r,W⟩:=zd3 hq ho he.mb.1;obtain⟨h,d,f,a⟩:=κ w (st9 10 x m s u A0 xs c0 A1 thn c1 A2 els c2 A3 arms c3) 120
 obtain⟨B,z,v,j⟩:=zd4 (he.bel f) (ExsR.to hx (sof (own:=own) f).sub) f d
 obtain⟨A,F,k,t⟩:=zd4 hd hix hss ha0;have V:=a.c 0;have U:=a.c 1;have T:=a.c 2;have R:=a.c 3;have O:=a.c 4;have N:=a.c 5;have L:=a.c 6;have J:=a.c 7;have I:=a.c 8;clear hq hd he ho hx d f ha0 hix hss;go_in;go_upto_region 1 with fail;rw[<-j.o];go_upto_region 20 with fail;go_wp2_with (go_at_call 194;refine (do_at l.IH l.Ef A B r t z k).mono ?_;rintro H G ⟨rfl,i,g⟩);go_ret2;exact kB ((Stm.of_below v).trans i) g
theorem stmt_9 {m:Int} {thn:List St}:
 Calls prog 143 #[c.b,sb,st9 9 x m s u A0 xs c0 A1 thn c1 A2 els c2 A3 arms c3] w (cj w own mb sb (cG p (aa p M) (aF p M n) sc (.mk 9 x m s u xs thn els arms))):=by
 obtain⟨h,l,HO⟩:=zd3 hq ho he.mb.1;obtain⟨y,d,i,a⟩:=κ w (st9 9 x m s u A0 xs c0 A1 thn c1 A2 els c2 A3 arms c3) 120
 obtain⟨D,A,t,j⟩:=zd4 (he.bel i) (ExsR.to hx (sof (own:=own) i).sub) i d
 obtain⟨B,r,k,N⟩:=zd4 hd hix hss ha0;have b0:=a.c 0;have Z:=a.c 1;have Y:=a.c 2;have X:=a.c 3;have W:=a.c 4;have V:=a.c 5;have U:=a.c 6;have T:=a.c 7;have R:=a.c 8;clear hq hd he ho hx d i ha0 hix hss
 cases hr:cJ p (aa p M) sc x m s xs with
 | none =>
  have g:=η hr;have z:Hid (cG p (aa p M) (aF p M n) sc (.mk 9 x m s u xs thn els arms)=none):=hr;clear hr;go_in;go_upto_region 1 with fail;rw[<-j.o];go_upto_region 18 with fail;go_wp2_with (go_at_call 193;refine (sK h.IH h.Fi B D l A r k).mono ?_;rw[g.o];rintro I E ⟨f,O,rfl⟩);go_ret2;rw[z.o];exact dc ((Stm.of_below t).trans f)
 | some q =>
  obtain⟨G,F⟩:=q;have g:=η hr;have z:Hid (cG p (aa p M) (aF p M n) sc (.mk 9 x m s u xs thn els arms)=some (G,F)):=hr;clear hr;go_in;go_upto_region 1 with fail;rw[<-j.o];go_upto_region 18 with fail;go_wp2_with (go_at_call 193;refine (sK h.IH h.Fi B D l A r k).mono ?_;rw[g.o];rintro I E ⟨f,rfl,v⟩);go_ret2;rw[z.o];exact gl ((Stm.of_below t).trans f) v
theorem stmt_11 {m:Int} {thn:List St}:
 Calls prog 143 #[c.b,sb,st9 11 x m s u A0 xs c0 A1 thn c1 A2 els c2 A3 arms c3] w (cj w own mb sb (cG p (aa p M) (aF p M n) sc (.mk 11 x m s u xs thn els arms))):=by
 obtain⟨f,a,d,h⟩:=κ w (st9 11 x m s u A0 xs c0 A1 thn c1 A2 els c2 A3 arms c3) 120
 obtain⟨k,B,i,g⟩:=zd4 (he.bel d) (ExsR.to hx (sof (own:=own) d).sub) d a
 have A:=h.c 0;clear hq hd he ho hx a d ha0 hix hss;go_in;go_upto_region 1 with fail;rw[<-g.o];go_upto_region 22 with fail;go_wp2;go_ret2;exact gl (Stm.of_below i) k.sco
theorem stmt_12 {m:Int} {thn:List St} (hx0:0<xs.length):
 Calls prog 143 #[c.b,sb,st9 12 x m s u A0 xs c0 A1 thn c1 A2 els c2 A3 arms c3] w (cj w own mb sb (cG p (aa p M) (aF p M n) sc (.mk 12 x m s u xs thn els arms))):=by
 have af:=hx.le9;obtain⟨V,H,X⟩:=zd3 hq ho he.mb.1;have ae:=he.mb.2;obtain⟨j,f,k,r⟩:=κ w (st9 12 x m s u A0 xs c0 A1 thn c1 A2 els c2 A3 arms c3) 120
 obtain⟨E1,R,J,G⟩:=zd4 (he.bel k) (ExsR.to hx (sof (own:=own) k).sub) k f
 obtain⟨Z,ai,ah,aj⟩:=zd4 hd hix hss ha0;have b0:=r.c 0;obtain⟨g,ac,o1,x1,m1,s1,a1,ak,ag,rfl,E,N,A,z,y,v,t,D⟩:=aQ R (i:=0) hx0;simp only[Nat.zero_mul,Nat.add_zero] at A z y v t;obtain⟨U,I⟩:=zd2 D (Z _ (ν hx0));have a:g≠mb:=λe=>E.2 (by rw[e];exact X);clear D N E;have F:=r.c 5;obtain⟨O,h⟩:=γ (isE (aa p M) sc xs[0] (bTy 4))
 have Y:=η h.symm;have T:Hid (cG p (aa p M) (aF p M n) sc (.mk 12 x m s u xs thn els arms)=okSc O sc):=by show okSc (kU xs _) sc=_;rw[mg hx0,h]
 clear h;clear hq hd he ho hx f k ha0 hix hss;go_in;go_upto_region 1 with fail;rw[<-G.o];go_upto_region 24 with fail;replace F:=stpC (mb:=mb) F Φ;replace A:=stpC (mb:=mb) A a;replace z:=stpC (mb:=mb) z a;replace y:=stpC (mb:=mb) y a;replace v:=stpC (mb:=mb) v a;replace t:=stpC (mb:=mb) t a;refine tkB (λW=>Stm mb j W) (smDr _ _) (λhHeld=>?_);refine θ ?_;refine tkE 6 (λK hK=>?_);go_simp;(refine (aU _ _).mono ?_;rintro e2 w2 ⟨rfl,d⟩);refine tkR hK ?_ (λhHeld=>?_)
 ·first|exact hHeld.trans (Stm.of_below d)|exact hHeld.trans (Stp.of_below d)
 clear hK K;refine tkE 7 (λK hK=>?_);go_simp;(refine (bA V.IH I (E1.bel (bel (ad _) d)) H (U.to (sof (bel (ad _) d)).sub) (cO _ _ 4 Ψ) (cY ω)).mono ?_;rw[Y.o];rintro e3 w3 ⟨rfl,l,B⟩);refine tkR hK ?_ (λhHeld=>?_)
 ·exact hHeld.trans l
 clear hK K;refine θ ?_;refine tkD ?_;go_wp2;go_ret2;rw[T.o];exact kB ((Stm.of_below J).trans ((Stm.of_below (bel (ad _) d)).trans l)) B
theorem stmt_3 {m:Int} {thn:List St} (hx0:0<xs.length) (hdt:St.deeps thn<=n) (hth:StsR w (im own w) (.slice A1 thn c1) thn) (hde:St.deeps els<=n) (hel:StsR w (im own w) (.slice A2 els c2) els):
 Calls prog 143 #[c.b,sb,st9 3 x m s u A0 xs c0 A1 thn c1 A2 els c2 A3 arms c3] w (cj w own mb sb (cG p (aa p M) (aF p M n) sc (.mk 3 x m s u xs thn els arms))):=by
 have a5:=hx.le9;obtain⟨v,j,I⟩:=zd3 hq ho he.mb.1;have a4:=he.mb.2;obtain⟨f,r,z,t⟩:=κ w (st9 3 x m s u A0 xs c0 A1 thn c1 A2 els c2 A3 arms c3) 120
 obtain⟨y,X1,H,ap⟩:=zd4 (he.bel z) (ExsR.to hx (sof (own:=own) z).sub) z r
 obtain⟨HD,a8,a7,G⟩:=zd4 hd hix hss ha0;have b0:=t.c 0;obtain⟨N,L,aq,au⟩:=zd4 hdt (StsR.to hth (sof (own:=own) z).sub) hde (StsR.to hel (sof (own:=own) z).sub);obtain⟨g,a3,o1,x1,m1,s1,a1,a9,a6,rfl,hg,e1,X,V,U,T,R,hr⟩:=aQ X1 (i:=0) hx0;simp only[Nat.zero_mul,Nat.add_zero] at X V U T R;obtain⟨HR,F⟩:=zd2 hr (HD _ (ν hx0));have l:g≠mb:=λe=>hg.2 (by rw[e];exact I);clear hr e1 hg;have b5:=t.c 5;have b6:=t.c 6;have b7:=t.c 7;obtain⟨bI,D⟩:=γ (isE (aa p M) sc xs[0] (bTy 2))
 have HI:=η D.symm;obtain⟨bT,B⟩:=γ (aF p M n sc thn)
 obtain⟨bE,E⟩:=γ (aF p M n sc els)
 obtain⟨O,ar⟩:=zd2 B.symm E.symm;have Z:Hid (cG p (aa p M) (aF p M n) sc (.mk 3 x m s u xs thn els arms)=okSc (bI&&(bT&&bE)) sc):=by show okSc (kU xs _&&_) sc=_;rw[mg hx0,D,B,E]
 clear D B E;clear hq hd he ho hx r z ha0 hix hss hdt hth hde hel;go_in;go_upto_region 1 with fail;rw[<-ap.o];go_upto_region 8 with fail;replace b5:=stpC (mb:=mb) b5 Φ;replace b6:=stpC (mb:=mb) b6 Φ;replace b7:=stpC (mb:=mb) b7 Φ;replace X:=stpC (mb:=mb) X l;replace V:=stpC (mb:=mb) V l;replace U:=stpC (mb:=mb) U l;replace T:=stpC (mb:=mb) T l;replace R:=stpC (mb:=mb) R l
 cases bI with
 | false =>
  refine tkB (λW=>Stm mb f W) (smDr _ _) (λhHeld=>?_);refine θ ?_;refine tkE 6 (λK hK=>?_);go_simp;(refine (aU _ _).mono ?_;rintro e2 w2 ⟨rfl,a⟩);refine tkR hK ?_ (λhHeld=>?_)
  ·first|exact hHeld.trans (Stm.of_below a)|exact hHeld.trans (Stp.of_below a)
  clear hK K;refine tkE 7 (λK hK=>?_);go_simp;(refine (bA v.IH F (y.bel (bel (ad _) a)) j (HR.to (sof (bel (ad _) a)).sub) (cO _ _ 2 Ψ) (cY ω)).mono ?_;rw[HI.o];rintro e3 w3 ⟨rfl,d,k⟩);refine tkR hK ?_ (λhHeld=>?_)
  ·exact hHeld.trans d
  clear hK K;refine θ ?_;refine tkD ?_;go_wp2;go_ret2;rw[Z.o];exact dc ((Stm.of_below H).trans ((Stm.of_below (bel (ad f) a)).trans d))
 | true =>
 cases bT with
 | false =>
  refine tkB (λW=>Stm mb f W) (smDr _ _) (λhHeld=>?_);refine θ ?_;refine tkE 6 (λK hK=>?_);go_simp;(refine (aU _ _).mono ?_;rintro e2 w2 ⟨rfl,a⟩);refine tkR hK ?_ (λhHeld=>?_)
  ·first|exact hHeld.trans (Stm.of_below a)|exact hHeld.trans (Stp.of_below a)
  clear hK K;refine tkE 7 (λK hK=>?_);go_simp;(refine (bA v.IH F (y.bel (bel (ad _) a)) j (HR.to (sof (bel (ad _) a)).sub) (cO _ _ 2 Ψ) (cY ω)).mono ?_;rw[HI.o];rintro e3 w3 ⟨rfl,d,k⟩);refine tkR hK ?_ (λhHeld=>?_)
  ·exact hHeld.trans d
  clear hK K;refine θ ?_;refine tkE 13 (λK hK=>?_);go_simp;(refine (v.IS own sb sc _ thn _ N (y.stp ((Stm.of_below (bel (ad f) a)).trans d) (k Υ)) j G (StsR.to L (Stm.subO ((Stm.of_below (bel (ad f) a)).trans d) I))).mono ?_;rw[O.o];rintro e4 w4 ⟨rfl,h,A⟩);refine tkR hK ?_ (λhHeld=>?_)
  ·exact hHeld.trans h
  clear hK K;refine θ ?_;refine tkD ?_;go_wp2;go_ret2;rw[Z.o];exact dc ((Stm.of_below H).trans (((Stm.of_below (bel (ad f) a)).trans d).trans h))
 | true =>
  refine tkB (λW=>Stm mb f W) (smDr _ _) (λhHeld=>?_);refine θ ?_;refine tkE 6 (λK hK=>?_);go_simp;(refine (aU _ _).mono ?_;rintro e2 w2 ⟨rfl,a⟩);refine tkR hK ?_ (λhHeld=>?_)
  ·first|exact hHeld.trans (Stm.of_below a)|exact hHeld.trans (Stp.of_below a)
  clear hK K;refine tkE 7 (λK hK=>?_);go_simp;(refine (bA v.IH F (y.bel (bel (ad _) a)) j (HR.to (sof (bel (ad _) a)).sub) (cO _ _ 2 Ψ) (cY ω)).mono ?_;rw[HI.o];rintro e3 w3 ⟨rfl,d,k⟩);refine tkR hK ?_ (λhHeld=>?_)
  ·exact hHeld.trans d
  clear hK K;refine θ ?_;refine tkE 13 (λK hK=>?_);go_simp;(refine (v.IS own sb sc _ thn _ N (y.stp ((Stm.of_below (bel (ad f) a)).trans d) (k Υ)) j G (StsR.to L (Stm.subO ((Stm.of_below (bel (ad f) a)).trans d) I))).mono ?_;rw[O.o];rintro e4 w4 ⟨rfl,h,A⟩);refine tkR hK ?_ (λhHeld=>?_)
  ·exact hHeld.trans h
  clear hK K;refine θ ?_;refine tkE 20 (λK hK=>?_);go_simp;(refine (v.IS own sb sc _ els _ aq (y.stp (((Stm.of_below (bel (ad f) a)).trans d).trans h) (A Υ)) j G (StsR.to au (Stm.subO (((Stm.of_below (bel (ad f) a)).trans d).trans h) I))).mono ?_;rw[ar.o];rintro e5 w5 ⟨rfl,J,Y⟩);refine tkR hK ?_ (λhHeld=>?_)
  ·exact hHeld.trans J
  clear hK K;refine θ ?_;refine tkD ?_;go_wp2;go_ret2;rw[Z.o];exact kB ((Stm.of_below H).trans ((((Stm.of_below (bel (ad f) a)).trans d).trans h).trans J)) Y
theorem stmt_1 {m:Int} {thn:List St} (hx0:0<xs.length):
 Calls prog 143 #[c.b,sb,st9 1 x m s u A0 xs c0 A1 thn c1 A2 els c2 A3 arms c3] w (cj w own mb sb (cG p (aa p M) (aF p M n) sc (.mk 1 x m s u xs thn els arms))):=by
 have bb:=hx.le9;obtain⟨HQ,T,HO⟩:=zd3 hq ho he.mb.1;have ba:=he.mb.2;obtain⟨v,k,L,r⟩:=κ w (st9 1 x m s u A0 xs c0 A1 thn c1 A2 els c2 A3 arms c3) 120
 obtain⟨E1,X1,G,am⟩:=zd4 (he.bel L) (ExsR.to hx (sof (own:=own) L).sub) L k;have a0:w.heap.size<v:=by rw[k];simp
 obtain⟨HD,U,be,bf⟩:=zd4 hd hix hss ha0;have b0:=r.c 0;have HV:=η (letP_eq (E:=aa p M) (sc:=sc) (n:=x) hx0);obtain⟨g,a8,o1,x1,m1,s1,a1,bg,bd,rfl,hg,e1,p0,p1,p2,p3,p4,hr⟩:=aQ X1 (i:=0) hx0;simp only[Nat.zero_mul,Nat.add_zero] at p0 p1 p2 p3 p4;obtain⟨HR,V⟩:=zd2 hr (HD _ (ν hx0));clear hr e1 hg;have b5:=r.c 5;obtain⟨Y,B⟩:=γ (aa p M sc xs[0] none)
 have R:=η B;rw[<-B] at HV;clear B;clear hq hd he ho hx k L ha0 hix hss;go_in;go_upto_region 1 with fail;rw[<-am.o];go_upto_region 3 with fail
 cases Y with
 | none =>
  have I:Hid (cG p (aa p M) (aF p M n) sc (.mk 1 x m s u xs thn els arms)=none):=HV.o;go_upto_region 4 with (go_at_call 170;refine (fk HQ.IH V E1 T HR).mono ?_;rw[<-R.o];rintro e2 t ⟨f,rfl⟩);obtain⟨d,a⟩:=γ (t.alloc (.cells z3 40))
  rw[<-a];have y:Hid (Stm mb v d):=by rw[a];exact smA f _
  have F:=η (r.stp y Ω);have ak:=belW (F.c 1);clear a f;refine tkB (λW=>Below d d W) (ad _) (λhHeld=>?_);refine θ ?_;refine tkD ?_;go_wp2;go_ret2;rw[I.o];exact dc ((Stm.of_below G).trans (y.trans (smDr _ _)))
 | some t0 =>
  have I:Hid (cG p (aa p M) (aF p M n) sc (.mk 1 x m s u xs thn els arms)=(sc.bind x t0).map λsc'=>(x,sc')):=HV.o;go_upto_region 4 with (go_at_call 170;refine (fk HQ.IH V E1 T HR).mono ?_;rw[<-R.o];rintro e2 t ⟨f,k2,X,H,Z,l,rfl,O,A⟩);obtain⟨d,a⟩:=γ (t.alloc (.cells (ty3 k2 X H Z l) 40))
  rw[<-a];have y:Hid (Stm mb v d):=by rw[a];exact smA f _
  have T3:Hid (TyR d (im own d) [.int .i64 k2,.string X,.slice H Z l] t0):=by rw[a];exact O.to (sof ζ1).sub
  have C3:Hid (ScS d own mb sb sc):=by rw[a];exact A.below ζ1
  have ap:Hid (Hs d t 40 (ty3 k2 X H Z l)):=by rw[a];exact Hs.new _ _ _
  have a9:v.heap.size<=t:=f.size;have F:=η (r.stp y Ω);have ak:=stpC (mb:=mb) (F.c 1) Φ;obtain⟨y0,y1,y2,_,_,_⟩:=ap.facts;have z:t≠mb:=ω;replace y0:=stpC (mb:=mb) y0 z;replace y1:=stpC (mb:=mb) y1 z;replace y2:=stpC (mb:=mb) y2 z;clear a f O A
  cases hbd:sc.bindB x with
  | false =>
   have J:=η hbd;have D:Hid (cG p (aa p M) (aF p M n) sc (.mk 1 x m s u xs thn els arms)=none):=by show _=_;rw[I.o];unfold Sc.bind;rw[hbd];rfl
   clear hbd;refine tkB (λW=>Stm mb d W) (smDr _ _) (λhHeld=>?_);refine θ ?_;refine tkE 8 (λK hK=>?_);go_simp;(refine (da own mb sb sc x _ t0 _ (C3.below (ad _)) U (T3.to (sof (ad _)).sub)).mono ?_;rintro e4 w4 ⟨j,h,N,ai⟩;rw[J.o] at j;subst j);refine tkR hK ?_ (λhHeld=>?_)
   ·exact hHeld.trans h
   clear hK K;refine θ ?_;refine tkD ?_;go_wp2;go_ret2;rw[D.o];exact dc ((Stm.of_below G).trans (y.trans ((smDr _ _).trans h)))
  | true =>
   have J:=η hbd;have D:Hid (cG p (aa p M) (aF p M n) sc (.mk 1 x m s u xs thn els arms)=some (x,sc.set x t0)):=by show _=_;rw[I.o];unfold Sc.bind;rw[hbd];rfl
   clear hbd;refine tkB (λW=>Stm mb d W) (smDr _ _) (λhHeld=>?_);refine θ ?_;refine tkE 8 (λK hK=>?_);go_simp;(refine (da own mb sb sc x _ t0 _ (C3.below (ad _)) U (T3.to (sof (ad _)).sub)).mono ?_;rintro e4 w4 ⟨j,h,N,ai⟩;rw[J.o] at j;subst j);refine tkR hK ?_ (λhHeld=>?_)
   ·exact hHeld.trans h
   clear hK K;refine θ ?_;refine tkD ?_;go_wp2;go_ret2;rw[D.o];exact gl ((Stm.of_below G).trans (y.trans ((smDr _ _).trans h))) (N (by first|rfl|trivial|exact J))
theorem stmt_2 {m:Int} {thn:List St} (hx0:0<xs.length):
 Calls prog 143 #[c.b,sb,st9 2 x m s u A0 xs c0 A1 thn c1 A2 els c2 A3 arms c3] w (cj w own mb sb (cG p (aa p M) (aF p M n) sc (.mk 2 x m s u xs thn els arms))):=by
 have bc:=hx.le9;obtain⟨HQ,E,HO⟩:=zd3 hq ho he.mb.1;have bb:=he.mb.2;obtain⟨t,h,y,v⟩:=κ w (st9 2 x m s u A0 xs c0 A1 thn c1 A2 els c2 A3 arms c3) 120
 obtain⟨E1,X1,F,af⟩:=zd4 (he.bel y) (ExsR.to hx (sof (own:=own) y).sub) y h
 obtain⟨HD,bg,bf,bh⟩:=zd4 hd hix hss ha0;have b0:=v.c 0;obtain⟨g,a9,o1,x1,m1,s1,a1,bi,be,rfl,Z,e1,L,J,I,H,G,Y⟩:=aQ X1 (i:=0) hx0;simp only[Nat.zero_mul,Nat.add_zero] at L J I H G;obtain⟨HR,ai⟩:=zd2 Y (HD _ (ν hx0));have f:g≠mb:=λe=>Z.2 (by rw[e];exact HO);clear Y e1 Z;have b1:=v.c 1;have b5:=v.c 5;obtain⟨n',f',va,ks,a⟩:=E1.sco;obtain⟨AV,qV,eV⟩:=a.vars.form;subst eV;have cv:=a.c2;have l:=a.vars;have X:sb≠mb:=λe=>a.isb.2 (by rw[e];exact a.om);clear a;obtain⟨bW,d⟩:=γ (az x sc.vars)
 have D:=η d.symm;clear hq hd he ho hx h y ha0 hix hss;go_in;go_upto_region 1 with fail;rw[<-af.o];go_upto_region 6 with fail;replace b1:=stpC (mb:=mb) b1 Φ;replace b5:=stpC (mb:=mb) b5 Φ;replace L:=stpC (mb:=mb) L f;replace J:=stpC (mb:=mb) J f;replace I:=stpC (mb:=mb) I f;replace H:=stpC (mb:=mb) H f;replace G:=stpC (mb:=mb) G f;replace cv:=stpC (mb:=mb) cv X
 cases bW with
 | false =>
  have O:Hid (cG p (aa p M) (aF p M n) sc (.mk 2 x m s u xs thn els arms)=none):=by show okSc (nA _ _ _ _) sc=_;unfold nA;rw[<-d];rfl
  clear d l;refine tkB (λW=>Stm mb t W) (smDr _ _) (λhHeld=>?_);refine θ ?_;refine tkE 7 (λK hK=>?_);go_simp;(refine (ay _ _ _).mono ?_;rw[D.o];rintro e2 w2 ⟨rfl,rfl⟩);refine tkR hK ?_ (λhHeld=>?_)
  ·exact hHeld
  clear hK K;refine θ ?_;refine tkD ?_;go_wp2;go_ret2;rw[O.o];exact dc ((Stm.of_below F).trans (smDr _ _))
 | true =>
  have V:0<=x/\x<(sc.vars.length:Int):=by have:=d.symm;unfold az at this;simpa using this
  obtain⟨j,rfl⟩:∃j:Nat,x=(j:Int):=⟨x.toNat,ω⟩
  have r:j<sc.vars:=ω;have k0:(0:Int)<=(j:Int):=ω;have k1:(j:Int)<(sc.vars.length:Int):=ω
  have O:Hid (cG p (aa p M) (aF p M n) sc (.mk 2 j m s u xs thn els arms)=okSc (isE (aa p M) sc xs[0] sc.vars[j].type) sc):=by
   show okSc (nA _ _ _ _) sc=_;unfold nA;rw[<-d];simp only[Int.toNat_natCast,ξ r,mg hx0,Bool.true_and]
  have ah:=η (E.vars _ (ν r));obtain⟨gv,ar,kv,sv,av,Bv,bd,ov,xv,mv,rv,ev,Dv,dv,rfl,B,v0,U,T,R,v4,v5,v6,v7,v8,_,_,z,_⟩:=ku l r;have TV:=η z;have k:gv≠mb:=λe=>B.2 (by rw[e];exact HO);clear d l z B v0 v4 v5 v6 v7 v8 V;replace U:=stpC (mb:=mb) U k;replace T:=stpC (mb:=mb) T k;replace R:=stpC (mb:=mb) R k;refine tkB (λW=>Stm mb t W) (smDr _ _) (λhHeld=>?_);refine θ ?_;refine tkE 7 (λK hK=>?_);go_simp;(refine (ay _ _ _).mono ?_;rw[D.o];rintro e2 w2 ⟨rfl,rfl⟩);refine tkR hK ?_ (λhHeld=>?_)
  ·exact hHeld
  clear hK K;refine θ ?_;refine tkE 24 (λK hK=>?_);go_simp;(refine (bA HQ.IH ai (E1.bel (ad _)) E (HR.to (sof (ad _)).sub) (TV.to (sof (ad _)).sub) ah).mono ?_;rintro e3 w3 ⟨rfl,A,N⟩);refine tkR hK ?_ (λhHeld=>?_)
  ·exact hHeld.trans A
  clear hK K;refine θ ?_;refine tkD ?_;go_wp2;go_ret2;rw[O.o];exact kB ((Stm.of_below F).trans ((smDr _ _).trans A)) N
theorem stmt_8 {m:Int} {thn:List St} (hx1:1<xs.length):
 Calls prog 143 #[c.b,sb,st9 8 x m s u A0 xs c0 A1 thn c1 A2 els c2 A3 arms c3] w (cj w own mb sb (cG p (aa p M) (aF p M n) sc (.mk 8 x m s u xs thn els arms))):=by
 have ax:=hx.le9;obtain⟨A,B,HO⟩:=zd3 hq ho he.mb.1;have aw:=he.mb.2;obtain⟨f,l,E,D⟩:=κ w (st9 8 x m s u A0 xs c0 A1 thn c1 A2 els c2 A3 arms c3) 120
 obtain⟨Y,V,J,ah⟩:=zd4 (he.bel E) (ExsR.to hx (sof (own:=own) E).sub) E l
 obtain⟨HD,a3,a2,a4⟩:=zd4 hd hix hss ha0;have b0:=D.c 0;have t:0<xs.length:=ω;obtain⟨g,r,o1,x1,m1,s1,a1,a5,a0,rfl,hg,e1,T,R,O,N,L,hr⟩:=aQ V (i:=0) t;simp only[Nat.zero_mul,Nat.add_zero] at T R O N L;obtain⟨HR,I⟩:=zd2 hr (HD _ (ν t));have k:g≠mb:=λe=>hg.2 (by rw[e];exact HO);clear hr e1 hg;have b3:=D.c 3;have b5:=D.c 5;obtain⟨bI,y⟩:=γ (isE (aa p M) sc xs[0] (bTy 3))
 have HI:=η y.symm;have X:Hid (cG p (aa p M) (aF p M n) sc (.mk 8 x m s u xs thn els arms)=okSc (bI&&jG p (aa p M) sc s (xs.drop 1)) sc):=by show okSc (kU xs _&&_) sc=_;rw[mg t,y]
 obtain⟨h,j⟩:=γ (xs.drop 1)
 have G:xs.length-1=h:=by rw[j,List.length_drop]
 have ak:Hid (0<h.length):=by show 0<h.length;omega
 have H:Hid (ExsR f (im own f) (.slice (fd (some ⟨g,r,none⟩) c0 1 5) h (c0-1)) h):=by rw[j];exact SlR.from V 1 ω
 have am:Hid (∀e∈h,Ex.deep e<=M):=λe he=>HD e (by rw[j] at he;exact List.mem_of_mem_drop he);obtain⟨Z,z⟩:=γ (fd (some ⟨g,r,none⟩) c0 1 5)
 have ay:∀W,(Instr.slice 41 (.slice (some ⟨g,r,none⟩) xs c0) (some (.int .i64 1)) none none).run prog W=.ok (.slice Z h (c0-1)) W:=λW=>by
  rw[z,<-G];exact eH W _ _ _ 1 ω
 rw[<-z] at H;rw[<-j] at X;clear j G z y;clear hq hd he ho hx l E ha0 hix hss;go_in;go_upto_region 1 with fail;rw[<-ah.o];go_upto_region 16 with fail;replace b3:=stpC (mb:=mb) b3 Φ;replace b5:=stpC (mb:=mb) b5 Φ;replace T:=stpC (mb:=mb) T k;replace R:=stpC (mb:=mb) R k;replace O:=stpC (mb:=mb) O k;replace N:=stpC (mb:=mb) N k;replace L:=stpC (mb:=mb) L k
 cases bI with
 | false =>
  refine tkB (λW=>Stm mb f W) (smDr _ _) (λhHeld=>?_);refine θ ?_;refine tkE 6 (λK hK=>?_);go_simp;(refine (aU _ _).mono ?_;rintro e2 w2 ⟨rfl,a⟩);refine tkR hK ?_ (λhHeld=>?_)
  ·first|exact hHeld.trans (Stm.of_below a)|exact hHeld.trans (Stp.of_below a)
  clear hK K;refine tkE 7 (λK hK=>?_);go_simp;(refine (bA A.IH I (Y.bel (bel (ad _) a)) B (HR.to (sof (bel (ad _) a)).sub) (cO _ _ 3 Ψ) (cY ω)).mono ?_;rw[HI.o];rintro e3 w3 ⟨rfl,d,v⟩);refine tkR hK ?_ (λhHeld=>?_)
  ·exact hHeld.trans d
  clear hK K;refine θ ?_;refine tkD ?_;go_wp2;go_ret2;rw[X.o];exact dc ((Stm.of_below J).trans ((Stm.of_below (bel (ad f) a)).trans d))
 | true =>
  refine tkB (λW=>Stm mb f W) (smDr _ _) (λhHeld=>?_);refine θ ?_;refine tkE 6 (λK hK=>?_);go_simp;(refine (aU _ _).mono ?_;rintro e2 w2 ⟨rfl,a⟩);refine tkR hK ?_ (λhHeld=>?_)
  ·first|exact hHeld.trans (Stm.of_below a)|exact hHeld.trans (Stp.of_below a)
  clear hK K;refine tkE 7 (λK hK=>?_);go_simp;(refine (bA A.IH I (Y.bel (bel (ad _) a)) B (HR.to (sof (bel (ad _) a)).sub) (cO _ _ 3 Ψ) (cY ω)).mono ?_;rw[HI.o];rintro e3 w3 ⟨rfl,d,v⟩);refine tkR hK ?_ (λhHeld=>?_)
  ·exact hHeld.trans d
  clear hK K;refine θ ?_;refine tkE 16 (λK hK=>?_);go_simp;(refine (uQ A.IH A.Fi A.act ak am (Y.stp ((Stm.of_below (bel (ad f) a)).trans d) (v Υ)) B (ExsR.to H (Stm.subO ((Stm.of_below (bel (ad f) a)).trans d) HO))).mono ?_;rintro e4 w4 ⟨rfl,F,U⟩);refine tkR hK ?_ (λhHeld=>?_)
  ·exact hHeld.trans F
  clear hK K;refine θ ?_;refine tkD ?_;go_wp2;go_ret2;rw[X.o];exact kB ((Stm.of_below J).trans (((Stm.of_below (bel (ad f) a)).trans d).trans F)) U
end
