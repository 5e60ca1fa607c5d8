/- Core -/
import Derived.Test.YtjohpidklbhmcaaGreatDoorZ17
namespace Go.Proofs.YtjohpidklbhmcaaGreatDoor
set_option linter.all false
open Go.Proofs.Tryz
set_option maxRecDepth 100000
set_option maxHeartbeats 2000000
open Go.RowKit Go.Maps Go.WideMaps Go.ChangeMaps
def eY (c:CB) (p:Pg) (mb M n:Nat):Prop:=∀(own:Nat->Prop) (sb:Nat) (sc:Sc) (v:Value) (l:List St) (w:World),St.deeps l<=n->Env w own mb sb c p sc->ScOk p sc->0<=sc.actor->StsR w (im own w) v l ->
 Calls prog 106 #[c.b,sb,v] w (ResB w own mb sb sc (aF p M n sc l))
def loopP_eq {E:EF} {B:Sc->List St->Bool} {sc:Sc} {n:Int} {xs:List Ex} {thn:List St} (h:0<xs.length):jH E B sc n xs thn=match E sc xs[0] none with|none=>false|some t=>if t.kind=5 then oG B sc n thn t.args else false:=by
 match xs,h with
 | x::ys,_=>rfl
def rY {k:Int} {s:ByteArray} {a:List Ty} (h:ag (.mk k s a)=true) (hk:k=5):∃u,a=[u]/\ag u=true:=by
 subst hk;match a,h with
 | [],h=>simp[ag] at h
 | [u],h=>exact⟨u,rfl,by simp[ag,eh] at h;exact h.2⟩
 | _::_::_,h=>simp[ag] at h
def loop_at {c:CB} {p:Pg} {mb M n:Nat} (IH:xG c p mb M) (hF:aO p M) (IS:eY c p mb M n) {own:Nat->Prop} {sb:Nat} {sc:Sc} {op x m:Int} {s u:ByteArray} {A0 A1 A2 A3:Option Addr} {xs:List Ex} {thn els arms:List St} {c0 c1 c2 c3:Nat} {w:World}
 (hx0:0<xs.length) (hd:∀e∈xs,Ex.deep e<=M) (hdt:St.deeps thn<=n) (he:Env w own mb sb c p sc) (ho:ScOk p sc) (ha0:0<=sc.actor) (hx:ExsR w (im own w) (.slice A0 xs c0) xs) (ht:StsR w (im own w) (.slice A1 thn c1) thn) (hix:i64 x) :
 Calls prog 191 #[c.b,sb,.agg (st9 op x m s u A0 xs c0 A1 thn c1 A2 els c2 A3 arms c3)] w (ResB w own mb sb sc (jH (aa p M) (aF p M n) sc x xs thn)):=by
 have HV:=η (loopP_eq (E:=aa p M) (B:=aF p M n) (sc:=sc) (n:=x) (thn:=thn) hx0);have dd:=hx.le9;obtain⟨be,L,HO⟩:=zd3 IH ho he.mb.1;have dc:=he.mb.2;obtain⟨U,A,B1,ax⟩:=κ w (st9 op x m s u A0 xs c0 A1 thn c1 A2 els c2 A3 arms c3) 120
 obtain⟨E1,X1,D,bb⟩:=zd4 (he.bel B1) (ExsR.to hx (sof (own:=own) B1).sub) B1 A;have cr:w.heap.size<U:=by rw[A];simp
 obtain⟨bg,HF,bd,bf,N,cf,b7⟩:=zd7 (hd _ (ν hx0)) hF IS hdt hix ha0 (StsR.to ht (sof (own:=own) B1).sub);clear IH hF IS hd hdt he ho hx A B1 ha0 ht hix;obtain⟨g,c9,o1,x1,m1,s1,a1,dh,dg,rfl,hg,e1,p0,p1,p2,p3,p4,hr⟩:=aQ X1 (i:=0) hx0;simp only[Nat.zero_mul,Nat.add_zero] at p0 p1 p2 p3 p4;have HR:=η hr;have de:g≠mb:=λe=>hg.2 (by rw[e];exact HO);have j0:(0:Int)<(xs.length:Int):=ω;clear hr e1;have b5:=ax.c 5;obtain⟨r1,an⟩:=γ (aa p M sc xs[0] none)
 have ar:=η an;rw[<-an] at HV;clear an
 cases r1 with
 | none =>
  go_enter func191,ntmps191;go_upto_region 1 with fail;rw[<-bb.o];go_upto_region 2 with (go_at_call 170;refine (fk be bg E1 L HR).mono ?_;rw[<-ar.o];rintro e2 R ⟨y,rfl⟩);obtain⟨f,d⟩:=γ (R.alloc (.cells z3 40))
  rw[<-d];have V:Hid (Stm mb U f):=by rw[d];exact smA y _
  clear d y;refine tkB (λW=>Below f f W) (ad _) (λhHeld=>?_);refine θ ?_;refine tkD ?_;go_wp2_with fail;go_ret;rw[HV.o];exact du ((Stm.of_below D).trans (V.trans (smDr _ _)))
 | some t =>
  have cb:=η (HF sc xs[0] none t L (λu h=>by cases h) ar.symm);obtain⟨k,T,a⟩:=t;have J:Hid (jH (aa p M) (aF p M n) sc x xs thn=if k=5 then oG (aF p M n) sc x thn a else false):=HV.o;clear HV;go_enter func191,ntmps191;go_upto_region 1 with fail;rw[<-bb.o];go_upto_region 2 with (go_at_call 170;refine (fk be bg E1 L HR).mono ?_;rw[<-ar.o];rintro e2 R ⟨y,k2,s2,O,n2,v,rfl,ah,aj⟩;have S2:=η y;have T2:=η ah;have bj:=η aj;obtain⟨rfl,rfl⟩:k=k2/\T=s2:=(by cases ah;exact⟨rfl,rfl⟩);clear y ah aj);obtain⟨f,d⟩:=γ (R.alloc (.cells (ty3 k T O n2 v) 40))
  rw[<-d];have V:Hid (Stm mb U f):=by rw[d];exact smA S2 _
  have ce:Hid (Hs f R 40 (ty3 k T O n2 v)):=by rw[d];exact Hs.new _ _ _
  have C2:Hid (ScS f own mb sb sc):=by rw[d];exact bj.below ζ1
  have T3:Hid (TyR f (im own f) [.int .i64 k,.string T,.slice O n2 v] (.mk k T a)):=by rw[d];exact T2.to (sof ζ1).sub
  have db:U.heap.size<=R:=S2.size;clear d S2 T2 bj;obtain⟨Z,Y,X,_,_,_⟩:=ce.facts;by_cases H:k=5
  ·have k5:(k != 5)=false:=by simpa using H
   obtain⟨l,rfl,a7⟩:=rY cb H;have cc:=η a7;have bc:Hid (jH (aa p M) (aF p M n) sc x xs thn=oG (aF p M n) sc x thn [l]):=by show _=_;rw[J.o,if_pos H]
   clear a7 H J;obtain⟨k9,s9,a9,A9,bn,e9,a8,_,_,af⟩:=ap T3;obtain⟨rfl,b0,rfl⟩:O=A9/\n2=a9/\v=bn:=by simp at e9;exact e9.2.2
   obtain⟨rfl,rfl,rfl⟩:k=k9/\T=s9/\[l]=a9:=by simpa using a8
   obtain rfl:n2=1:=b0;obtain⟨g5,cn,k6,s6,a6,B6,df,rfl,a5,e5,q0,q1,q2,am⟩:=cS af (i:=0) Θ;simp only[Nat.zero_mul,Nat.add_zero,List.getElem_cons_zero] at q0 q1 q2 am;have U2:=η am;have G:g5≠mb:=λe=>a5.2 (by rw[e];exact HO);have ag:R≠mb:=ω;replace q0:=stpC (mb:=mb) q0 G;replace q1:=stpC (mb:=mb) q1 G;replace q2:=stpC (mb:=mb) q2 G;replace Z:=stpC (mb:=mb) Z ag;replace Y:=stpC (mb:=mb) Y ag;replace X:=stpC (mb:=mb) X ag;have ci:=η (ax.stp V Ω);have b1:=stpC (mb:=mb) (ci.c 1) Φ;clear e9 a8 af e5 am a5 b5 p0 p1 p2 p3 p4
   cases hbd:sc.bindB x with
   | false =>
    have H4:=η hbd;have I:Hid (jH (aa p M) (aF p M n) sc x xs thn=false):=by show _=_;rw[bc.o];unfold oG Sc.bind;rw[hbd];rfl
    clear hbd;refine tkB (λW=>Stm mb f W) (smDr _ _) (λhHeld=>?_);refine θ ?_;refine tkE 15 (λK hK=>?_);go_simp;(refine (da own mb sb sc x _ l _ (C2.below (ad _)) N (U2.to (sof (ad _)).sub)).mono ?_;rintro e4 w4 ⟨z,r,ae,a4⟩;rw[H4.o] at z;subst z);refine tkR hK ?_ (λhHeld=>?_)
    ·exact hHeld.trans r
    clear hK K;refine θ ?_;refine tkD ?_;go_wp2_with fail;go_ret;rw[I.o];exact du ((Stm.of_below D).trans (V.trans ((smDr _ _).trans r)))
   | true =>
    have H4:=η hbd;have I:Hid (jH (aa p M) (aF p M n) sc x xs thn=aF p M n (sc.set x l) thn):=by show _=_;rw[bc.o];unfold oG Sc.bind;rw[hbd];rfl
    clear hbd;refine tkB (λW=>Stm mb f W) (smDr _ _) (λhHeld=>?_);refine θ ?_;refine tkE 15 (λK hK=>?_);go_simp;(refine (da own mb sb sc x _ l _ (C2.below (ad _)) N (U2.to (sof (ad _)).sub)).mono ?_;rintro e4 w4 ⟨z,r,ae,a4⟩;rw[H4.o] at z;subst z);refine tkR hK ?_ (λhHeld=>?_)
    ·exact hHeld.trans r
    clear hK K;refine θ ?_;refine tkD ?_;obtain⟨S4,C4⟩:=zd2 (V.trans ((smDr _ _).trans r)) (ae (by first|rfl|trivial|exact H4));obtain⟨E4,au,aw,ba⟩:=zd4 (E1.stp S4 C4) (L.set (i:=x) cc) (ax.stp S4 Ω) (StsR.to b7 (S4.subO HO));have bi:Hid (0<=(sc.set x l).actor):=cf.o;clear r ae a4 hHeld q0 q1 q2 Z Y X b1;have b6:=aw.c 6;obtain⟨bB,ao⟩:=γ (aF p M n (sc.set x l) thn)
    rw[<-ao] at I;have bh:=η ao.symm;clear ao
    cases bB with
    | false =>
     go_upto_region 5 with (go_at_call 106;refine (bd own sb (sc.set x l) _ thn _ bf E4 au bi ba).mono ?_;rw[bh.o];rintro e5 w5 ⟨rfl,j,F⟩)
     have cd:Hid (w5.cell? ⟨sb,1,none⟩=some (.map (some mb))):=by
      obtain⟨_,_,_,_,ak⟩:=C4.o;exact stpC (mb:=mb) ak.c1 (λe=>ak.isb.2 (by rw[show sb=mb from e];exact ak.om)) w5 j
     have ca:=η (j.m C4.mapW);have b1:w5.cell? ⟨w,1,none⟩=some (x:Vl):=(aw.stp j Ω).cell 1;clear b6;go_wp2_with (go_at_call 144;refine (free_w mb sb x _ cd ca N).mono ?_;rintro e6 w6 ⟨rfl,al⟩);go_ret;rw[I.o];exact du ((Stm.of_below D).trans (S4.trans (j.trans al)))
    | true =>
     go_upto_region 5 with (go_at_call 106;refine (bd own sb (sc.set x l) _ thn _ bf E4 au bi ba).mono ?_;rw[bh.o];rintro e5 w5 ⟨rfl,j,F⟩);have C5:=η (F Υ);have b1:w5.cell? ⟨w,1,none⟩=some (x:Vl):=(aw.stp j Ω).cell 1;clear b6 F;go_wp2_with (go_at_call 144;refine (jS own mb sb (sc.set x l) x _ C5 N).mono ?_;rintro e6 w6 ⟨rfl,al,ai⟩;rw[mI H4.o] at ai);go_ret;rw[I.o];exact i8 ((Stm.of_below D).trans (S4.trans (j.trans al))) (λ_=>ai)
  have k5:(k != 5)=true:=by simpa using H
  have I:Hid (jH (aa p M) (aF p M n) sc x xs thn=false):=by show _=_;rw[J.o,if_neg H]
  replace Z:=belW Z;replace Y:=belW Y;replace X:=belW X;clear H J;refine tkB (λW=>Below f f W) (ad _) (λhHeld=>?_);refine θ ?_;refine tkD ?_;go_wp2_with fail;go_ret;rw[I.o];exact du ((Stm.of_below D).trans (V.trans (smDr _ _)))
end Go.Proofs.YtjohpidklbhmcaaGreatDoor
