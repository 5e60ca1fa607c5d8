/- Core -/
import Derived.Test.YtjohpidklbhmcaaGreatDoorZ10
namespace Go.Proofs.YtjohpidklbhmcaaGreatDoor
set_option linter.all false
open Go.Proofs.Tryz
set_option maxRecDepth 100000
set_option maxHeartbeats 2000000
open Go.RowKit Go.Maps Go.WideMaps Go.ChangeMaps
section
variable {W:World} {own:Nat->Prop} {mb sb:Nat} {c:CB} {p:Pg} {sc:Sc} {n:Nat}
section
variable {cs:List Value}
def hasAe (IH:xG c p mb n) (h:Env W own mb sb c p sc) (ho:ScOk p sc) {e:Ex} (hd:Ex.deep e<=n) (hr:ExR W (im own W) cs e):
 Calls prog 170 #[c.b,sb,.agg cs.toArray] W.drew (rK W own mb sb sc (aa p n sc e none)):=
 (fk IH hd (h.bel (ad W)) ho (hr.to (sof (ad W)).sub)).mono λ_ _ hx=>fV hx (ad W)
def hasBe (IH:xG c p mb n) (h:Env W own mb sb c p sc) (ho:ScOk p sc) {e:Ex} (hd:Ex.deep e<=n) (hr:ExR W (im own W) cs e):
 Calls prog 170 #[c.b,sb,.agg cs.toArray] ((W.alloc (.cells z3 40)).drew) (rJ W own mb sb sc (aa p n sc e none)):=
 have B:Below W W ((W.alloc (.cells z3 40)).drew):=belA (ad W) _
 (fk IH hd (h.plus B (υ _) Θ) ho (hr.to (aV B (υ _)))).mono λ_ _ hx=>fg hx h.mb.2
end
end
set_option maxRecDepth 1000000 in
def zfPair {p:Prop} (h:p:=by
 obtain⟨U,bk,HD,L,HO⟩:=zd5 IH hF hd ho he.mb.1;have bx:=he.mb.2;have Z:gc≠mb:=λe=>hg.2 (by rw[e];exact he.mb.1);have aq:gk≠mb:=λe=>hh.2 (by rw[e];exact he.mb.1);have i0:0<kids.length:=ω;have i1:1<kids.length:=ω;have j0:(0:Int)<(kids.length:Int):=ω;have j1:(1:Int)<(kids.length:Int):=ω
 first
  | guard_hyp kk0:True
    have HV:Hid (gd (aa p n) sc dB kids=match aa p n sc kids[0] none with|none=>false|some t=>dB t&&isE (aa p n) sc kids[1] t):=by
     match kids,hl with
      | [a,b],_=>rfl
  | have HV:Hid (gd (aa p n) sc cX kids=match aa p n sc kids[0] none with|none=>false|some t=>cX t&&isE (aa p n) sc kids[1] t):=by
     match kids,hl with
      | [a,b],_=>rfl
 obtain⟨D,H,X,_⟩:=κ w #[op,x,m,s,.slice A kids cap] 43
 have ar:Hs D w 43 (ex5 op x m s A kids cap):=by rw[H];exact Hs.new _ _ _
 obtain⟨aj,ai,BB,k,aw,bj⟩:=zd6 ar (he.bel X) X (ExsR.to hx (sof (own:=own) X).sub) (belC X hgc) (belC X hgk);have bw:w.heap.size+1<=D:=by rw[H];simp
 have bh:=η H;clear IH hF hd he ho hx hgc hgk hg hh hl ar X H;go_enter func201,ntmps201;go_wp2_with fail;rw[<-bh.o];have c1:=stpC (mb:=mb) aw Z;have b4:=stpC (mb:=mb) (aj.c 4) Φ;obtain⟨g,T,o1,x1,m1,s1,a1,B1,au,rfl,hg,e1,z,y,v,r,q,F⟩:=aQ k i0;have f:g≠mb:=λe=>hg.2 (by rw[e];exact HO);simp only[Nat.zero_mul,Nat.add_zero] at z y v r q;replace z:=stpC z f;replace y:=stpC y f;replace v:=stpC v f;replace r:=stpC r f;replace q:=stpC q f;have HR:=η F;clear F e1;obtain⟨r1,ap⟩:=γ (aa p n sc kids[0] none)
 have i:=η ap;clear ap;go_cut [7,8] (λv1 v2 W=>Hid (Got D own mb sb sc r1 v1 v2 W))
 case first =>
  go_region_held3 (λW=>Stm mb D W) (first|exact bq _ _|exact smDr _ _|exact l|exact smA ι _|exact (smA (Stm.refl _ _) _).trans (smDr _ _)|exact smS l (υ _) ω _ _ _ _ _)
   (first|(go_at_call 170;refine (hasBe U ai L (HD _ (ν i0)) HR).mono ?_;rw[<-i.o];rintro e3 w3 ⟨k3,s3,A3,n3,af,rfl,l,G,B⟩;obtain⟨z0,z1,z2,q0,q1,q2⟩:=G.facts)|(go_at_call 170;refine (hasAe U ai L (HD _ (ν i0)) HR).mono ?_;rw[<-i.o];rintro e3 w3 ⟨k3,s3,A3,n3,af,rfl,l,B⟩))
  all_goals
   go_wp2_with fail;go_meet;first|exact gotA l B|exact gotB l ω HO G B
 case rest =>
 clear c1 b4 z y v r q HR;obtain⟨l,tb,k3,s3,A3,n3,af,rfl,bv,G,rfl,B⟩:=hcut.o;obtain⟨j,bi,av⟩:=zd3 l G B;clear hcut l G B;have bu:D.heap.size<=wc:=j.size;obtain⟨y0,y1,y2,_,_,_⟩:=bi.facts;have Y:tb≠mb:=ω;replace y0:=stpC (mb:=mb) y0 Y;replace y1:=stpC (mb:=mb) y1 Y;replace y2:=stpC (mb:=mb) y2 Y;have g1:=stpC (mb:=mb) (stpC (mb:=mb) aw Z wc j) Z;have g2:=stpC (mb:=mb) (stpC (mb:=mb) bj aq wc j) aq
 cases r1 with
  | none =>
   first
    | guard_hyp kk0:True
      have k:Hid (gd (aa p n) sc dB kids=false):=by show _=_;rw[HV.o,<-i.o]
    | have k:Hid (gd (aa p n) sc cX kids=false):=by show _=_;rw[HV.o,<-i.o]
   go_wp2_with fail;refine tkB (λW=>Stm mb wc W) Λ (λhHeld=>?_);refine θ ?_;refine tkD ?_;go_wp2_with fail;go_ret;exact⟨by rw[k.o];rfl,((Stm.of_below BB).trans j).trans (smDr _ _),λh=>by rw[k.o] at h;cases h⟩
  | some t =>
   have V:=η (av t rfl).1;obtain⟨ay,ax⟩:=zd2 (ai.stp j (av t rfl).2) (bk sc kids[0] none t L (λu h=>by cases h) i.symm)
   first
    | guard_hyp kk0:True
      have J:Hid (gd (aa p n) sc dB kids=(dB t&&isE (aa p n) sc kids[1] t)):=by show _=_;rw[HV.o,<-i.o]
      cases h2:dB t with
       | false =>
        have k:Hid (gd (aa p n) sc dB kids=false):=by show _=_;rw[J.o,h2];rfl
        have R:=η h2;clear h2;go_wp2_with fail;refine tkB (λW=>Stm mb wc W) Λ (λhHeld=>?_);refine θ ?_;refine tkE 4 (λK hK=>?_);go_simp;(refine (qW (V.to (sof (own:=own) (ad wc)).imlo)).mono ?_;rw[R.o];rintro e4 w4 ⟨rfl,d⟩);refine tkR hK ?_ (λhHeld=>?_)
        ·first|exact hHeld.trans (Stm.of_below d)|exact hHeld.trans (Stp.of_below d)
        clear hK K;refine θ ?_;refine tkD ?_;go_wp2_with fail;go_ret;exact⟨by rw[k.o];rfl,((Stm.of_below BB).trans j).trans (Stm.of_below (bel (ad _) d)),λh=>by rw[k.o] at h;cases h⟩
       | true =>
        have I:Hid (gd (aa p n) sc dB kids=isE (aa p n) sc kids[1] t):=by show _=_;rw[J.o,h2];rfl
        have R:=η h2;clear h2;have b4:=stpC (mb:=mb) (show wc.cell? ⟨w,4,none⟩=some (.slice (some ⟨g,T,none⟩) kids cap) from (aj.stp j Ω).cell 4) Φ;obtain⟨g',M,o1,x1,m1,s1,a1,B1,au,hA,ab,e1,z,y,v,r,q,F⟩:=aQ (ExsR.to k (j.subO HO)) i1;obtain⟨rfl,rfl⟩:g=g'/\T=M:=by simpa using hA
        simp only[Nat.one_mul] at z y v r q;replace z:=stpC z f;replace y:=stpC y f;replace v:=stpC v f;replace r:=stpC r f;replace q:=stpC q f;have ah:=η F;clear F e1 hA ab
        cases h5:isE (aa p n) sc kids[1] t
        all_goals
         have O:=η h5;clear h5;go_wp2_with fail;refine tkB (λW=>Stm mb wc W) Λ (λhHeld=>?_);refine θ ?_;refine tkE 4 (λK hK=>?_);go_simp;(refine (qW (V.to (sof (own:=own) (ad wc)).imlo)).mono ?_;rw[R.o];rintro e4 w4 ⟨rfl,d⟩);refine tkR hK ?_ (λhHeld=>?_)
         ·first|exact hHeld.trans (Stm.of_below d)|exact hHeld.trans (Stp.of_below d)
         clear hK K;refine θ ?_;refine tkE 14 (λK hK=>?_);go_simp;(refine (bA U (HD _ (ν i1)) (ay.bel (bel (ad _) d)) L (ah.to (sof (bel (ad _) d)).sub) (V.to (sof (bel (ad _) d)).sub) ax).mono ?_;rw[O.o];rintro e5 w5 ⟨rfl,E,N⟩);refine tkR hK ?_ (λhHeld=>?_)
         ·exact hHeld.trans E
         clear hK K;refine θ ?_;refine tkD ?_;go_wp2_with fail;go_ret;exact⟨by rw[I.o,O.o];rfl,((Stm.of_below BB).trans j).trans ((Stm.of_below (bel (ad _) d)).trans E),λh=>by first|(rw[I.o,O.o] at h;cases h;done)|exact N Υ⟩
    | have J:Hid (gd (aa p n) sc cX kids=(cX t&&isE (aa p n) sc kids[1] t)):=by show _=_;rw[HV.o,<-i.o]
      cases h2:cX t with
       | false =>
        have k:Hid (gd (aa p n) sc cX kids=false):=by show _=_;rw[J.o,h2];rfl
        have R:=η h2;clear h2;go_wp2_with fail;refine tkB (λW=>Stm mb wc W) Λ (λhHeld=>?_);refine θ ?_;refine tkE 4 (λK hK=>?_);go_simp;(refine (nj _ t _ _ (V.to (sof (own:=own) (ad wc)).imlo)).mono ?_;rw[R.o];rintro e4 w4 ⟨rfl,d⟩);refine tkR hK ?_ (λhHeld=>?_)
        ·first|exact hHeld.trans (Stm.of_below d)|exact hHeld.trans (Stp.of_below d)
        clear hK K;refine θ ?_;refine tkD ?_;go_wp2_with fail;go_ret;exact⟨by rw[k.o];rfl,((Stm.of_below BB).trans j).trans (Stm.of_below (bel (ad _) d)),λh=>by rw[k.o] at h;cases h⟩
       | true =>
        have I:Hid (gd (aa p n) sc cX kids=isE (aa p n) sc kids[1] t):=by show _=_;rw[J.o,h2];rfl
        have R:=η h2;clear h2;have b4:=stpC (mb:=mb) (show wc.cell? ⟨w,4,none⟩=some (.slice (some ⟨g,T,none⟩) kids cap) from (aj.stp j Ω).cell 4) Φ;obtain⟨g',M,o1,x1,m1,s1,a1,B1,au,hA,ab,e1,z,y,v,r,q,F⟩:=aQ (ExsR.to k (j.subO HO)) i1;obtain⟨rfl,rfl⟩:g=g'/\T=M:=by simpa using hA
        simp only[Nat.one_mul] at z y v r q;replace z:=stpC z f;replace y:=stpC y f;replace v:=stpC v f;replace r:=stpC r f;replace q:=stpC q f;have ah:=η F;clear F e1 hA ab
        cases h5:isE (aa p n) sc kids[1] t
        all_goals
         have O:=η h5;clear h5;go_wp2_with fail;refine tkB (λW=>Stm mb wc W) Λ (λhHeld=>?_);refine θ ?_;refine tkE 4 (λK hK=>?_);go_simp;(refine (nj _ t _ _ (V.to (sof (own:=own) (ad wc)).imlo)).mono ?_;rw[R.o];rintro e4 w4 ⟨rfl,d⟩);refine tkR hK ?_ (λhHeld=>?_)
         ·first|exact hHeld.trans (Stm.of_below d)|exact hHeld.trans (Stp.of_below d)
         clear hK K;refine θ ?_;refine tkE 14 (λK hK=>?_);go_simp;(refine (bA U (HD _ (ν i1)) (ay.bel (bel (ad _) d)) L (ah.to (sof (bel (ad _) d)).sub) (V.to (sof (bel (ad _) d)).sub) ax).mono ?_;rw[O.o];rintro e5 w5 ⟨rfl,E,N⟩);refine tkR hK ?_ (λhHeld=>?_)
         ·exact hHeld.trans E
         clear hK K;refine θ ?_;refine tkD ?_;go_wp2_with fail;go_ret;exact⟨by rw[I.o,O.o];rfl,((Stm.of_below BB).trans j).trans ((Stm.of_below (bel (ad _) d)).trans E),λh=>by first|(rw[I.o,O.o] at h;cases h;done)|exact N Υ⟩) :p:=h
section
variable {c:CB} {p:Pg} {mb n:Nat} {own:Nat->Prop} {sb gc gk:Nat} {sc:Sc} {A:Option Addr} {kids:List Ex} {cap:Nat} {w:World} (IH:xG c p mb n) (hF:aO p n) (hd:∀e∈kids,Ex.deep e<=n) (he:Env w own mb sb c p sc) (ho:ScOk p sc) (hx:ExsR w (im own w) (.slice A kids cap) kids) (hl:kids.length=2) (hg:im own w gc) (hh:im own w gk) (hgc:w.cell? gc=some (c.b:Vl))
include IH hF hd he ho hx hl hg hh hgc
theorem pair_storP {op x m:Int} {s:ByteArray} (hgk:w.cell? gk=some (.func (.func 139) #[] #[])):
 Calls prog 201 #[sb,.agg (ex5 op x m s A kids cap),gc,gk] w (ResB w own mb sb sc (gd (aa p n) sc dB kids)):=by
 have kk0:=trivial;exact zfPair
theorem pair_orderedP {op x m:Int} {s:ByteArray} (hgk:w.cell? gk=some (.func (.func 181) #[] #[])):
 Calls prog 201 #[sb,.agg (ex5 op x m s A kids cap),gc,gk] w (ResB w own mb sb sc (gd (aa p n) sc cX kids)):=by
 have kk1:=trivial;exact zfPair
end
end Go.Proofs.YtjohpidklbhmcaaGreatDoor
