/- Core -/
import Derived.Test.YtjohpidklbhmcaaGreatDoorZ5
namespace Go.Proofs.YtjohpidklbhmcaaGreatDoor
set_option linter.all false
open Proofs.Tryz RowKit Maps WideMaps ChangeMaps
set_option maxRecDepth 100000
set_option maxHeartbeats 2000000
def clo_cat {c:CB} {p:Pg} {mb n:Nat} (IH:xG c p mb n) (hF:aO p n) (hFi:Fine p) {own:Nat->Prop} {sb kc:Nat} {sc:Sc} {op x m:Int} {s:Ê} {A:Option Addr} {kids:List Ex} {cap:Nat} {wv:Value} {want:Option Ty} {w:À}
 (hd:∀k∈kids,Ex.deep k<=n) (he:Env w own mb sb c p sc) (ho:ScOk p sc) (hk:im own w kc) (hkc:w.cell? kc=some (c.b:Vl)) (hx:ExsR w (im own w) (.slice A kids cap) kids) (hw:WantR w (im own w) wv want) (hwo:aL want) (hix:i64 x) (hss:s.size<=maxLen) (hl:kids.length=2) :
 Calls prog 182 #[sb,ex5 op x m s A kids cap,wv,kc] w (ResF w own mb sb sc (fCat (aa p n) sc want kids)):=by
 obtain⟨HP,V,HD,HF,cd,M,HO,HW⟩:=zd8 (Pre.start (op:=op) (x:=x) (m:=m) (s:=s) he hk hkc hx hw) IH hd hF hFi ho he.mb.1 hwo;have b9:=he.mb.2;have ca:kc<w:=hk.1;have i0:0<kids.length:=ω;have i1:1<kids.length:=ω;have j0:(0:Int)<(kids.length:Int):=ω;have j1:(1:Int)<(kids.length:Int):=ω
 have HV:Hid (fCat (aa p n) sc want kids=match aa p n sc kids[0] want with|none=>none|some t=>if ju t&&isE (aa p n) sc kids[1] t then some t else none):=by
  match kids,hl with
  | [a,b],_=>rfl
 obtain⟨y,J⟩:=γ ((w.alloc (.cells #[op,x,m,s,.slice A kids cap] 43)).alloc (.cells #[(0:Int),"",()] 40))
 have u:Hid (Pre y (plus own (w+1)) mb sb w (w+1) kc c p sc op x m s A kids cap wv want):=by rw[J];exact HP
 have U:Hid (Stm mb w y):=by rw[J];exact Stm.of_below ζ2
 have b8:w.heap.size+2<=y:=by rw[J];simp
 have bg:=η J;have ap:kc≠mb:=λe=>hk.2 (by rw[e];exact he.mb.1);clear hd he ho hk hkc hx hw hwo IH HP J hF hFi hix hss hl;go_in;go_upto_region 1 with fail;rw[<-bg.o];have c1:=stpC (mb:=mb) u.kc ap;obtain⟨g,X,o1,x1,m1,s1,a1,B1,bd,rfl,hg,e1,G,F,E,D,B,Z⟩:=aQ u.kids i0;have j:g≠mb:=λe=>hg.2 (by rw[e];exact .inl HO);have I:g≠w+1:=λe=>hg.2 (.inr e);simp only[Nat.zero_mul,Nat.add_zero] at G F E D B;replace G:=stpC G j;replace F:=stpC F j;replace E:=stpC E j;replace D:=stpC D j;replace B:=stpC B j;have HR:=η Z;clear Z e1;have b4:=stpC (mb:=mb) (u.bx.c 4) Φ;obtain⟨r1,ao⟩:=γ (aa p n sc kids[0] want)
 have z:=η ao;clear ao;go_cut [9,10] (λv1 v2 W=>Hid (Got y (plus own (w+1)) mb sb sc r1 v1 v2 W))
 case first =>
  go_region_held3 (λW=>Stm mb y W) (first|exact bq _ _|exact smDr _ _|exact l|exact smA ι _|exact (smA (Stm.refl _ _) _).trans (smDr _ _)|exact smS l (υ _) ω _ _ _ _ _)
   (first|(go_at_call 141;refine (exprB V u M HW (HD _ (ν i0)) HR).mono ?_;rw[<-z.o];rintro e3 w3 ⟨k3,s3,A3,n3,a0,rfl,l,H,v⟩;obtain⟨z0,z1,z2,q0,q1,q2⟩:=H.facts)|(go_at_call 141;refine (exprA V u M HW (HD _ (ν i0)) HR).mono ?_;rw[<-z.o];rintro e3 w3 ⟨k3,s3,A3,n3,a0,rfl,l,v⟩))
  all_goals
   go_wp2;go_meet;first|exact gotA l v|exact gotB l ω (.inl HO) H v
 case rest =>
 clear c1 b4 G F E D B HR;obtain⟨l,an,k2,s2,A2,n2,b1,rfl,bv,H,rfl,v⟩:=hcut.o;obtain⟨R,bj,r⟩:=zd3 l H v;clear hcut l H v;obtain⟨f,rfl⟩:=γ wc
 have q:=η (u.rs.stp R Ω);have O:an≠mb:=ω;have N:an≠w+1:=ω;obtain⟨y0,y1,y2,_,_,_⟩:=bj.facts;replace y0:=aD (mb:=mb) (rb:=w+1) y0 O N;replace y1:=aD (mb:=mb) (rb:=w+1) y1 O N;replace y2:=aD (mb:=mb) (rb:=w+1) y2 O N
 cases r1 with
 | none =>
  have T:Hid (fCat (aa p n) sc want kids=none):=by show _=_;rw[HV.o,<-z.o]
  obtain⟨z0,z1,z2,q0,q1,q2⟩:=q.facts;go_wp2_with fail;refine tkB (λW=>Stp (plus (only mb) (w+1)) f W) Λ (λhHeld=>?_);refine θ ?_;refine tkE 16 (λK hK=>?_);go_simp;refine tkR hK ?_ (λhHeld=>?_)
  ·exact stpR ι _ _ _ _ _
  clear hK K;refine tkQ 17 ?_;refine tkD ?_;clear hHeld;go_wp2;rw[T.o];exact bodyPost_ret (am results182 _ _ (w+1) _ _ _ _ _ rfl ((q.stp (smDr mb _) Ω).set3 _ _ _ _ _)) rfl (aB ((U.trans R).trans (smDr _ _)) ω ω)
 | some t =>
  have ar:Hid (fCat (aa p n) sc want kids=if ju t&&isE (aa p n) sc kids[1] t then some t else none):=by show _=_;rw[HV.o,<-z.o]
  obtain⟨av,L⟩:=zd2 (HF sc kids[0] want t M HW z.symm) (u.stp R (r t rfl).2)
  cases h2:ju t with
  | false =>
   have T:Hid (fCat (aa p n) sc want kids=none):=by show _=_;rw[ar.o,h2];rfl
   have H2:=η h2;clear h2;go_wp2_with fail;refine tkB (λW=>Stp (plus (only mb) (w+1)) f W) Λ (λhHeld=>?_);refine θ ?_;refine tkE 4 (λK hK=>?_);go_simp;(refine (jj _ t _ _ ((r t rfl).1.to (sof (own:=(plus own (w+1))) (ad f)).imlo)).mono ?_;rw[H2.o];rintro e4 w4 ⟨rfl,d⟩;obtain⟨z0,z1,z2,q0,q1,q2⟩:=(q.stp (Stm.of_below (mb:=mb) (bel (ad f) d)) Ω).facts);refine tkR hK ?_ (λhHeld=>?_)
   ·first|exact hHeld.trans (Stm.of_below d)|exact hHeld.trans (Stp.of_below d)
   clear hK K;refine θ ?_;refine tkE 16 (λK hK=>?_);go_simp;refine tkR hK ?_ (λhHeld=>?_)
   ·exact stpR ι _ _ _ _ _
   clear hK K;refine tkQ 17 ?_;refine tkD ?_;clear hHeld;go_wp2;rw[T.o];exact bodyPost_ret (am results182 _ _ (w+1) _ _ _ _ _ rfl ((q.stp (Stm.of_below (mb:=mb) (bel (ad f) d)) Ω).set3 _ _ _ _ _)) rfl (aB ((U.trans R).trans (Stm.of_below (bel (ad _) d))) ω ω)
  | true =>
   have aq:Hid (fCat (aa p n) sc want kids=if isE (aa p n) sc kids[1] t then some t else none):=by show _=_;rw[ar.o,h2];rfl
   have H2:=η h2;clear h2;have c1:=aD (mb:=mb) (rb:=w+1) L.kc ap Φ;have b4:=aD (mb:=mb) (rb:=w+1) (L.bx.c 4) Φ Θ;obtain⟨g',aw,o1,x1,m1,s1,a1,B1,bd,hA,a9,e1,G,F,E,D,B,Z⟩:=aQ L.kids i1;obtain⟨rfl,rfl⟩:g=g'/\X=aw:=by simpa using hA
   simp only[Nat.one_mul] at G F E D B;replace G:=aD G j I;replace F:=aD F j I;replace E:=aD E j I;replace D:=aD D j I;replace B:=aD B j I;have au:=η Z;clear Z e1 hA a9
   cases h5:isE (aa p n) sc kids[1] t with
   | false =>
    have T:Hid (fCat (aa p n) sc want kids=none):=by show _=_;rw[aq.o,h5];rfl
    have H5:=η h5;clear h5;go_wp2_with fail;refine tkB (λW=>Stp (plus (only mb) (w+1)) f W) Λ (λhHeld=>?_);refine θ ?_;refine tkE 4 (λK hK=>?_);go_simp;(refine (jj _ t _ _ ((r t rfl).1.to (sof (own:=(plus own (w+1))) (ad f)).imlo)).mono ?_;rw[H2.o];rintro e4 w4 ⟨rfl,d⟩);refine tkR hK ?_ (λhHeld=>?_)
    ·first|exact hHeld.trans (Stm.of_below d)|exact hHeld.trans (Stp.of_below d)
    clear hK K;refine θ ?_;refine tkE 14 (λK hK=>?_);go_simp;(refine (bA V (HD _ (ν i1)) (L.env.bel (bel (ad _) d)) M (au.to (sof (bel (ad _) d)).sub) ((r t rfl).1.to (sof (bel (ad _) d)).sub) av).mono ?_;rw[H5.o];rintro e5 w5 ⟨rfl,i,Y⟩;obtain⟨z0,z1,z2,q0,q1,q2⟩:=(q.stp ((Stm.of_below (bel (ad f) d)).trans i) Ω).facts);refine tkR hK ?_ (λhHeld=>?_)
    ·exact hHeld.trans (i.s.wk (λ_ h=>.inl h))
    clear hK K;refine tkQ 15 ?_;refine tkE 16 (λK hK=>?_);go_simp;refine tkR hK ?_ (λhHeld=>?_)
    ·exact stpR ι _ _ _ _ _
    clear hK K;refine tkQ 17 ?_;refine tkD ?_;clear hHeld;go_wp2;rw[T.o];exact bodyPost_ret (am results182 _ _ (w+1) _ _ _ _ _ rfl ((q.stp ((Stm.of_below (bel (ad f) d)).trans i) Ω).set3 _ _ _ _ _)) rfl (aB (((U.trans R).trans (Stm.of_below (bel (ad _) d))).trans i) ω ω)
   | true =>
    have T:Hid (fCat (aa p n) sc want kids=some t):=by show _=_;rw[aq.o,h5];rfl
    have H5:=η h5;clear h5;go_wp2_with fail;refine tkB (λW=>Stp (plus (only mb) (w+1)) f W) Λ (λhHeld=>?_);refine θ ?_;refine tkE 4 (λK hK=>?_);go_simp;(refine (jj _ t _ _ ((r t rfl).1.to (sof (own:=(plus own (w+1))) (ad f)).imlo)).mono ?_;rw[H2.o];rintro e4 w4 ⟨rfl,d⟩);refine tkR hK ?_ (λhHeld=>?_)
    ·first|exact hHeld.trans (Stm.of_below d)|exact hHeld.trans (Stp.of_below d)
    clear hK K;refine θ ?_;refine tkE 14 (λK hK=>?_);go_simp;(refine (bA V (HD _ (ν i1)) (L.env.bel (bel (ad _) d)) M (au.to (sof (bel (ad _) d)).sub) ((r t rfl).1.to (sof (bel (ad _) d)).sub) av).mono ?_;rw[H5.o];rintro e5 w5 ⟨rfl,i,Y⟩;obtain⟨z0,z1,z2,q0,q1,q2⟩:=(q.stp ((Stm.of_below (bel (ad f) d)).trans i) Ω).facts);refine tkR hK ?_ (λhHeld=>?_)
    ·exact hHeld.trans (i.s.wk (λ_ h=>.inl h))
    clear hK K;refine tkQ 15 ?_;refine tkE 16 (λK hK=>?_);go_simp;refine tkR hK ?_ (λhHeld=>?_)
    ·exact stpR ι _ _ _ _ _
    clear hK K;refine tkQ 17 ?_;refine tkD ?_;clear hHeld;go_wp2;rw[T.o];exact bodyPost_ret (am results182 _ _ (w+1) _ _ _ _ _ rfl ((q.stp ((Stm.of_below (bel (ad f) d)).trans i) Ω).set3 _ _ _ _ _)) rfl (bo (((U.trans R).trans (Stm.of_below (bel (ad _) d))).trans i) ω ω HO ((r t rfl).1.to (((Stm.of_below (bel (ad f) d)).trans i).subO (.inl HO))) (Y Υ))
