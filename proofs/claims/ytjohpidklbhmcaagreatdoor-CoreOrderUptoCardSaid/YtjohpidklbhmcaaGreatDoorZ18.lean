/- Core -/
import Derived.Test.YtjohpidklbhmcaaGreatDoorZ16
namespace Go.Proofs.YtjohpidklbhmcaaGreatDoor
set_option linter.all false
open Proofs.Tryz RowKit Maps WideMaps ChangeMaps
set_option maxRecDepth 100000
set_option maxHeartbeats 2000000
section
def eY (c:CB) (p:Pg) (mb M n:Nat):Prop:=∀(own:Nat->Prop) (sb:Nat) (sc:Sc) (v:Value) (l:List St) (w:À),St.deeps l<=n->Env w own mb sb c p sc->ScOk p sc->0<=sc.actor->StsR w (im own w) v l ->
 Calls prog 106 #[c.b,sb,v] w (ResB w own mb sb sc (aF p M n sc l))
def loopP_eq {E:EF} {B:Sc->List St->Bool} {sc:Sc} {n:Int} {xs:List Ex} {thn:List St} (h:0<xs.length):jH E B sc n xs thn=match E sc xs[0] none with|none=>false|some t=>if t.kind=5 then oG B sc n thn t.args else false:=by
 match xs,h with
 | x::ys,_=>rfl
def rY {k:Int} {s:Ê} {a:List Ty} (h:ag (.mk k s a)=true) (hk:k=5):∃u,a=[u]/\ag u=true:=by
 subst hk;match a,h with
 | [],h=>simp[ag] at h
 | [u],h=>exact⟨u,rfl,by simp[ag,eh] at h;exact h.2⟩
 | _::_::_,h=>simp[ag] at h
def loop_at {c:CB} {p:Pg} {mb M n:Nat} (IH:xG c p mb M) (hF:aO p M) (IS:eY c p mb M n) {own:Nat->Prop} {sb:Nat} {sc:Sc} {op x m:Int} {s u:Ê} {A0 A1 A2 A3:Option Addr} {xs:List Ex} {thn els arms:List St} {c0 c1 c2 c3:Nat} {w:À}
 (hx0:0<xs.length) (hd:∀e∈xs,Ex.deep e<=M) (hdt:St.deeps thn<=n) (he:Env w own mb sb c p sc) (ho:ScOk p sc) (ha0:0<=sc.actor) (hx:ExsR w (im own w) (.slice A0 xs c0) xs) (ht:StsR w (im own w) (.slice A1 thn c1) thn) (hix:i64 x) :
 Calls prog 191 #[c.b,sb,st9 op x m s u A0 xs c0 A1 thn c1 A2 els c2 A3 arms c3] w (ResB w own mb sb sc (jH (aa p M) (aF p M n) sc x xs thn)):=by
 have HV:=η (loopP_eq (E:=aa p M) (B:=aF p M n) (sc:=sc) (n:=x) (thn:=thn) hx0);have dd:=hx.le9;obtain⟨be,L,HO⟩:=zd3 IH ho he.mb.1;have dc:=he.mb.2;obtain⟨U,A,B1,ax⟩:=κ w (st9 op x m s u A0 xs c0 A1 thn c1 A2 els c2 A3 arms c3) 120
 obtain⟨E1,X1,D,bb⟩:=zd4 (he.bel B1) (ExsR.to hx (sof (own:=own) B1).sub) B1 A;have cr:w.heap.size<U:=by rw[A];simp
 obtain⟨bg,HF,bd,bf,N,cf,b7⟩:=zd7 (hd _ (ν hx0)) hF IS hdt hix ha0 (StsR.to ht (sof (own:=own) B1).sub);clear IH hF IS hd hdt he ho hx A B1 ha0 ht hix;obtain⟨g,c9,o1,x1,m1,s1,a1,dh,dg,rfl,hg,e1,p0,p1,p2,p3,p4,hr⟩:=aQ X1 (i:=0) hx0;simp only[Nat.zero_mul,Nat.add_zero] at p0 p1 p2 p3 p4;have HR:=η hr;clear hr e1;have b5:=ax.c 5;obtain⟨r1,an⟩:=γ (aa p M sc xs[0] none)
 have ar:=η an;rw[<-an] at HV;clear an
 cases r1 with
 | none =>
  go_in;go_upto_region 1 with fail;rw[<-bb.o];go_upto_region 2 with (go_at_call 170;refine (fk be bg E1 L HR).mono ?_;rw[<-ar.o];rintro e2 R ⟨y,rfl⟩);obtain⟨f,d⟩:=γ (R.alloc (.cells z3 40))
  rw[<-d];have V:Hid (Stm mb U f):=by rw[d];exact smA y _
  clear d y;refine tkB (λW=>Below f f W) (ad _) (λhHeld=>?_);refine θ ?_;refine tkD ?_;go_wp2;go_ret;rw[HV.o];exact du ((Stm.of_below D).trans (V.trans (smDr _ _)))
 | some t =>
  have cb:=η (HF sc xs[0] none t L (λu h=>by cases h) ar.symm);obtain⟨k,T,a⟩:=t;have J:Hid (jH (aa p M) (aF p M n) sc x xs thn=if k=5 then oG (aF p M n) sc x thn a else false):=HV.o;clear HV;go_in;go_upto_region 1 with fail;rw[<-bb.o];go_upto_region 2 with (go_at_call 170;refine (fk be bg E1 L HR).mono ?_;rw[<-ar.o];rintro e2 R ⟨y,k2,s2,O,n2,v,rfl,ah,aj⟩;have S2:=η y;have T2:=η ah;have bj:=η aj;obtain⟨rfl,rfl⟩:k=k2/\T=s2:=(by cases ah;exact⟨rfl,rfl⟩);clear y ah aj);obtain⟨f,d⟩:=γ (R.alloc (.cells (ty3 k T O n2 v) 40))
  rw[<-d];have V:Hid (Stm mb U f):=by rw[d];exact smA S2 _
  have ce:Hid (Hs f R 40 (ty3 k T O n2 v)):=by rw[d];exact Hs.new _ _ _
  have C2:Hid (ScS f own mb sb sc):=by rw[d];exact bj.below ζ1
  have T3:Hid (TyR f (im own f) [.int .i64 k,.string T,.slice O n2 v] (.mk k T a)):=by rw[d];exact T2.to (sof ζ1).sub
  have db:U.heap.size<=R:=S2.size;clear d S2 T2 bj;obtain⟨Z,Y,X,_,_,_⟩:=ce.facts;by_cases H:k=5
  ·have k5:(k != 5)=false:=by simpa using H
   obtain⟨l,rfl,a7⟩:=rY cb H;have cc:=η a7;have bc:Hid (jH (aa p M) (aF p M n) sc x xs thn=oG (aF p M n) sc x thn [l]):=by show _=_;rw[J.o,if_pos H]
   clear a7 H J;obtain⟨k9,s9,a9,A9,bn,e9,a8,_,_,af⟩:=ap T3;obtain⟨rfl,b0,rfl⟩:O=A9/\n2=a9/\v=bn:=by simp at e9;exact e9.2.2
   obtain⟨rfl,rfl,rfl⟩:k=k9/\T=s9/\[l]=a9:=by simpa using a8
   obtain rfl:n2=1:=b0;obtain⟨g5,cn,k6,s6,a6,B6,df,rfl,a5,e5,q0,q1,q2,am⟩:=cS af (i:=0) Θ;simp only[Nat.zero_mul,Nat.add_zero,List.getElem_cons_zero] at q0 q1 q2 am;have U2:=η am;have G:g5≠mb:=λe=>a5.2 (by rw[e];exact HO);have ag:R≠mb:=ω;replace q0:=stpC (mb:=mb) q0 G;replace q1:=stpC (mb:=mb) q1 G;replace q2:=stpC (mb:=mb) q2 G;replace Z:=stpC (mb:=mb) Z ag;replace Y:=stpC (mb:=mb) Y ag;replace X:=stpC (mb:=mb) X ag;have ci:=η (ax.stp V Ω);have b1:=stpC (mb:=mb) (ci.c 1) Φ;clear e9 a8 af e5 am a5 b5 p0 p1 p2 p3 p4
   cases hbd:sc.bindB x with
   | false =>
    have H4:=η hbd;have I:Hid (jH (aa p M) (aF p M n) sc x xs thn=false):=by show _=_;rw[bc.o];unfold oG Sc.bind;rw[hbd];rfl
    clear hbd;refine tkB (λW=>Stm mb f W) (smDr _ _) (λhHeld=>?_);refine θ ?_;refine tkE 15 (λK hK=>?_);go_simp;(refine (da own mb sb sc x _ l _ (C2.below (ad _)) N (U2.to (sof (ad _)).sub)).mono ?_;rintro e4 w4 ⟨z,r,ae,a4⟩;rw[H4.o] at z;subst z);refine tkR hK ?_ (λhHeld=>?_)
    ·exact hHeld.trans r
    clear hK K;refine θ ?_;refine tkD ?_;go_wp2;go_ret;rw[I.o];exact du ((Stm.of_below D).trans (V.trans ((smDr _ _).trans r)))
   | true =>
    have H4:=η hbd;have I:Hid (jH (aa p M) (aF p M n) sc x xs thn=aF p M n (sc.set x l) thn):=by show _=_;rw[bc.o];unfold oG Sc.bind;rw[hbd];rfl
    clear hbd;refine tkB (λW=>Stm mb f W) (smDr _ _) (λhHeld=>?_);refine θ ?_;refine tkE 15 (λK hK=>?_);go_simp;(refine (da own mb sb sc x _ l _ (C2.below (ad _)) N (U2.to (sof (ad _)).sub)).mono ?_;rintro e4 w4 ⟨z,r,ae,a4⟩;rw[H4.o] at z;subst z);refine tkR hK ?_ (λhHeld=>?_)
    ·exact hHeld.trans r
    clear hK K;refine θ ?_;refine tkD ?_;obtain⟨S4,C4⟩:=zd2 (V.trans ((smDr _ _).trans r)) (ae (by first|rfl|trivial|exact H4));obtain⟨E4,au,aw,ba⟩:=zd4 (E1.stp S4 C4) (L.set (i:=x) cc) (ax.stp S4 Ω) (StsR.to b7 (S4.subO HO));have bi:Hid (0<=(sc.set x l).actor):=cf.o;clear r ae a4 hHeld q0 q1 q2 Z Y X b1;have b6:=aw.c 6;obtain⟨bB,ao⟩:=γ (aF p M n (sc.set x l) thn)
    rw[<-ao] at I;have bh:=η ao.symm;clear ao
    cases bB with
    | false =>
     go_upto_region 5 with (go_at_call 106;refine (bd own sb (sc.set x l) _ thn _ bf E4 au bi ba).mono ?_;rw[bh.o];rintro e5 w5 ⟨rfl,j,F⟩)
     have cd:Hid (w5.cell? ⟨sb,1,none⟩=some (.map (some mb))):=by
      obtain⟨_,_,_,_,ak⟩:=C4.o;exact stpC (mb:=mb) ak.c1 (λe=>ak.isb.2 (by rw[show sb=mb from e];exact ak.om)) w5 j
     have ca:=η (j.m C4.mapW);have b1:w5.cell? ⟨w,1,none⟩=some (x:Vl):=(aw.stp j Ω).cell 1;clear b6;go_wp2_with (go_at_call 144;refine (free_w mb sb x _ cd ca N).mono ?_;rintro e6 w6 ⟨rfl,al⟩);go_ret;rw[I.o];exact du ((Stm.of_below D).trans (S4.trans (j.trans al)))
    | true =>
     go_upto_region 5 with (go_at_call 106;refine (bd own sb (sc.set x l) _ thn _ bf E4 au bi ba).mono ?_;rw[bh.o];rintro e5 w5 ⟨rfl,j,F⟩);have C5:=η (F Υ);have b1:w5.cell? ⟨w,1,none⟩=some (x:Vl):=(aw.stp j Ω).cell 1;clear b6 F;go_wp2_with (go_at_call 144;refine (jS own mb sb (sc.set x l) x _ C5 N).mono ?_;rintro e6 w6 ⟨rfl,al,ai⟩;rw[mI H4.o] at ai);go_ret;rw[I.o];exact i8 ((Stm.of_below D).trans (S4.trans (j.trans al))) (λ_=>ai)
  have k5:(k != 5)=true:=by simpa using H
  have I:Hid (jH (aa p M) (aF p M n) sc x xs thn=false):=by show _=_;rw[J.o,if_neg H]
  replace Z:=belW Z;replace Y:=belW Y;replace X:=belW X;clear H J;refine tkB (λW=>Below f f W) (ad _) (λhHeld=>?_);refine θ ?_;refine tkD ?_;go_wp2;go_ret;rw[I.o];exact du ((Stm.of_below D).trans (V.trans (smDr _ _)))
end
section
def cj (w:À) (own:Nat->Prop) (mb sb:Nat) (r:Option (Int×Sc)) (e:Ending) (w':À):Prop:=
 Stm mb w w'/\match r with
  | none=>∃i:Int,e=.returned (.tuple #[i,false])
  | some q=>e=.returned (.tuple #[.int .i64 q.1,true])/\ScS w' own mb sb q.2
def dc {w w':À} {own:Nat->Prop} {mb sb:Nat} {i:Int} (hs:Stm mb w w'):cj w own mb sb none (.returned (.tuple #[i,false])) w':=⟨hs,i,rfl⟩
section
variable {sc:Sc}
def gl {w w':À} {own:Nat->Prop} {mb sb:Nat} {i:Int} (hs:Stm mb w w') (hc:ScS w' own mb sb sc):cj w own mb sb (some (i,sc)) (.returned (.tuple #[i,true])) w':=⟨hs,rfl,hc⟩
variable {E:EF} {xs:List Ex}
def gV {p:Pg} {n m:Int} {s:Ê} (h:bL p E sc m s xs=false):cJ p E sc n m s xs=none:=by unfold cJ;rw[h];rfl
def oh {p:Pg} {n m:Int} {s:Ê} (h:bL p E sc m s xs=true):cJ p E sc n m s xs=if n=-1 then some (-1,sc) else (sc.bind n (refT s)).map λsc'=>(n,sc'):=by unfold cJ;rw[h];rfl
def qz {p:Pg} {m:Int} {s:Ê} (h:idxP p.acNames s.data.toList=none):bL p E sc m s xs=false:=by unfold bL;rw[h]
variable {i:Nat}
def vT {p:Pg} {s:Ê} (h:idxP p.acNames s.data.toList=some i) (hi:i<p.actors):bL p E sc 0 s xs=bl E sc (xs.drop 0) p.actors[i].params:=by
 unfold bL;rw[h];simp only[ξ hi];rfl
def vS {p:Pg} {s:Ê} (h:idxP p.acNames s.data.toList=some i) (hi:i<p.actors) (h0:0<xs.length):bL p E sc 1 s xs=(isE E sc xs[0] (bTy 3)&&bl E sc (xs.drop 1) p.actors[i].params):=by
 match xs,h0 with
 | x::ys,_=>unfold bL;rw[h];simp only[ξ hi];rfl
def tD {p:Pg} {s:Ê} (h0:¬0<xs.length):bL p E sc 1 s xs=false:=by
 match xs,h0 with
 | [],_ =>
  unfold bL;split
  ·rfl
  split<;>rfl
 | x::ys,h=>simp at h
def vR {p:Pg} {m:Int} {s:Ê} (h0:m≠0) (h1:m≠1):bL p E sc m s xs=false:=by
 unfold bL;split
 ·rfl
 split
 ·rfl
 rw[if_neg h0,if_neg h1]
section
variable {c:CB} {p:Pg} {mb M:Nat} {own:Nat->Prop} {sb:Nat} {sc:Sc} {x:Int} {s:Ê} {A0:Option Addr} {xs:List Ex} {c0:Nat} {w:À} (IH:xG c p mb M) (hFi:Fine p) (hd:∀e∈xs,Ex.deep e<=M) (he:Env w own mb sb c p sc) (ho:ScOk p sc) (hx:ExsR w (im own w) (.slice A0 xs c0) xs) (hix:i64 x) (hss:s.size<=maxLen)
include IH hFi hd he ho hx hix hss
variable {u:Ê} {A1 A2 A3:Option Addr} {els arms:List St} {c1 c2 c3:Nat}
theorem zr {op m:Int} {thn:List St} (hno:idxP p.acNames s.data.toList=none):
 Calls prog 193 #[c.b,sb,st9 op x m s u A0 xs c0 A1 thn c1 A2 els c2 A3 arms c3] w (cj w own mb sb (cJ p (aa p M) sc x m s xs)):=by
 obtain⟨a,d,h,j⟩:=κ w (st9 op x m s u A0 xs c0 A1 thn c1 A2 els c2 A3 arms c3) 120
 obtain⟨r,U,y,v⟩:=zd4 (he.bel h) (ExsR.to hx (sof (own:=own) h).sub) h d;have g:w.heap.size<a:=by rw[d];simp
 clear IH hFi hd he ho hx d h hix;have A:=belW r.chk.c5;have B:=belW (j.c 3)
 have t:∀W,Below a a W->(Instr.lookup 101 (.map (some c.ba)) (s:Vl) true).run prog W=.ok (.tuple #[.int .i64 (((idxP p.acNames s.data.toList).getD 0:Nat):Int),.bool (idxP p.acNames s.data.toList).isSome]) W:=λW hb=>by
  have:=ck (r.chk.ma.below hb r.chk.qa.1) hss;rw[gy,eU] at this;exact this
 clear hss;rw[hno] at t;have D:=η (gV (n:=x) (qz (E:=aa p M) (sc:=sc) (m:=m) (xs:=xs) hno));clear hno;go_in;go_upto_region 1 with fail;rw[<-v.o];go_region_held3 (λW=>Below a a W) (first|exact ad _) (fail);go_upto_region 2 with fail;obtain⟨l,f⟩:=γ a.drew
 rw[<-f];have k:Hid (Below a a l):=by rw[f];exact ad _
 have F:=η (bel y k)
 have i:=η (show Hs l w 120 (st9 op x m s u A0 xs c0 A1 thn c1 A2 els c2 A3 arms c3) from (k.block _ g).trans j);clear f A B t;go_wp2;go_ret2;rw[D.o];exact dc (Stm.of_below F)
theorem spawn_m {op m:Int} {thn:List St} (hno:idxP p.acNames s.data.toList=some i) (hm0:m≠0) (hm1:m≠1):
 Calls prog 193 #[c.b,sb,st9 op x m s u A0 xs c0 A1 thn c1 A2 els c2 A3 arms c3] w (cj w own mb sb (cJ p (aa p M) sc x m s xs)):=by
 obtain⟨a,d,h,k⟩:=κ w (st9 op x m s u A0 xs c0 A1 thn c1 A2 els c2 A3 arms c3) 120
 obtain⟨t,X1,z,y⟩:=zd4 (he.bel h) (ExsR.to hx (sof (own:=own) h).sub) h d;have g:w.heap.size<a:=by rw[d];simp
 clear IH hFi hd he ho hx d h hix;have B:=belW t.chk.c5;have D:=belW (k.c 3)
 have v:∀W,Below a a W->(Instr.lookup 101 (.map (some c.ba)) (s:Vl) true).run prog W=.ok (.tuple #[.int .i64 (((idxP p.acNames s.data.toList).getD 0:Nat):Int),.bool (idxP p.acNames s.data.toList).isSome]) W:=λW hb=>by
  have:=ck (t.chk.ma.below hb t.chk.qa.1) hss;rw[gy,eU] at this;exact this
 clear hss;rw[hno] at v;have F:=η (gV (n:=x) (vR (p:=p) (E:=aa p M) (sc:=sc) (s:=s) (xs:=xs) hm0 hm1));have U:(m != 0)=true:=by simpa using hm0
 have T:(m != 1)=true:=by simpa using hm1
 clear hno hm0 hm1;go_in;go_upto_region 1 with fail;rw[<-y.o];go_region_held3 (λW=>Below a a W) (first|exact ad _) (fail);go_upto_region 2 with fail;obtain⟨r,f⟩:=γ a.drew
 rw[<-f];have l:Hid (Below a a r):=by rw[f];exact ad _
 have G:=η (bel z l)
 have j:=η (show Hs r w 120 (st9 op x m s u A0 xs c0 A1 thn c1 A2 els c2 A3 arms c3) from (l.block _ g).trans k);clear f B D v;have Z:=j.c 2;go_wp2;go_ret2;rw[F.o];exact dc (Stm.of_below G)
theorem spawn_1e {op:Int} {thn:List St} (hno:idxP p.acNames s.data.toList=some i) (hl:¬0<xs.length):
 Calls prog 193 #[c.b,sb,.agg (st9 op x (1) s u A0 xs c0 A1 thn c1 A2 els c2 A3 arms c3)] w (cj w own mb sb (cJ p (aa p M) sc x (1) s xs)):=by
 obtain⟨a,d,h,k⟩:=κ w (st9 op x (1) s u A0 xs c0 A1 thn c1 A2 els c2 A3 arms c3) 120
 obtain⟨t,Y,z,y⟩:=zd4 (he.bel h) (ExsR.to hx (sof (own:=own) h).sub) h d;have g:w.heap.size<a:=by rw[d];simp
 clear IH hFi hd he ho hx d h hix;have B:=belW t.chk.c5;have D:=belW (k.c 3)
 have v:∀W,Below a a W->(Instr.lookup 101 (.map (some c.ba)) (s:Vl) true).run prog W=.ok (.tuple #[.int .i64 (((idxP p.acNames s.data.toList).getD 0:Nat):Int),.bool (idxP p.acNames s.data.toList).isSome]) W:=λW hb=>by
  have:=ck (t.chk.ma.below hb t.chk.qa.1) hss;rw[gy,eU] at this;exact this
 clear hss;rw[hno] at v;have F:=η (gV (n:=x) (tD (p:=p) (E:=aa p M) (sc:=sc) (s:=s) hl));have T:(xs.length:Int)<1:=ω;clear hno hl;go_in;go_upto_region 1 with fail;rw[<-y.o];go_region_held3 (λW=>Below a a W) (first|exact ad _) (fail);go_upto_region 2 with fail;obtain⟨r,f⟩:=γ a.drew
 rw[<-f];have l:Hid (Below a a r):=by rw[f];exact ad _
 have G:=η (bel z l)
 have j:=η (show Hs r w 120 (st9 op x (1) s u A0 xs c0 A1 thn c1 A2 els c2 A3 arms c3) from (l.block _ g).trans k);clear f B D v;have X:=j.c 2;have V:=j.c 5;go_wp2;go_ret2;rw[F.o];exact dc (Stm.of_below G)
theorem spawn_0 {op:Int} {thn:List St} (hno:idxP p.acNames s.data.toList=some i) (hi:i<p.actors):
 Calls prog 193 #[c.b,sb,.agg (st9 op x (0) s u A0 xs c0 A1 thn c1 A2 els c2 A3 arms c3)] w (cj w own mb sb (cJ p (aa p M) sc x (0) s xs)):=by
 have bw:=hx.le9;obtain⟨ag,ae,HO⟩:=zd3 IH ho he.mb.1;have bv:=he.mb.2;obtain⟨d,l,U,al⟩:=κ w (st9 op x (0) s u A0 xs c0 A1 thn c1 A2 els c2 A3 arms c3) 120
 obtain⟨T,X1,a7,a3⟩:=zd4 (he.bel U) (ExsR.to hx (sof (own:=own) U).sub) U l;have G:w.heap.size<d:=by rw[l];simp
 obtain⟨HD,a5,af,ac⟩:=zd4 hd hFi hix hss;clear IH hFi hd he ho hx l U hix;have d1:=belW T.chk.c5;have b3:=belW (al.c 3)
 have lk:∀W,Below d d W->(Instr.lookup 101 (.map (some c.ba)) (s:Vl) true).run prog W=.ok (.tuple #[.int .i64 (((idxP p.acNames s.data.toList).getD 0:Nat):Int),.bool (idxP p.acNames s.data.toList).isSome]) W:=λW hb=>by
  have:=ck (T.chk.ma.below hb T.chk.qa.1) hss;rw[gy,eU] at this;exact this
 clear hss;rw[hno] at lk;have A:=η (vT (E:=aa p M) (sc:=sc) (xs:=xs) hno hi);have i0:(0:Int)<=(i:Int):=ω;have i1:(i:Int)<(p.actors.length:Int):=ω;have u3:¬(xs.length:Int)<0:=ω;clear hno;go_in;go_upto_region 1 with fail;rw[<-a3.o];go_region_held3 (λW=>Below d d W) (first|exact ad _) (fail);go_upto_region 2 with fail;obtain⟨t,y⟩:=γ d.drew
 rw[<-y];have B:Hid (Below d d t):=by rw[y];exact ad _
 have B3:=η (bel a7 B)
 have N:=η (show Hs t w 120 (st9 op x (0) s u A0 xs c0 A1 thn c1 A2 els c2 A3 arms c3) from (B.block _ G).trans al);clear y d1 b3 lk;have b2:=N.c 2;have b5:=N.c 5;go_upto_region 4 with fail;obtain⟨E3,X3⟩:=zd2 (T.bel B) (ExsR.to X1 (sof (own:=own) B).sub);have r:=E3.chk;obtain⟨AE,qE,eE⟩:=r.actors.form;have ca:=r.c3;rw[eE] at ca;have z:=r.actors;rw[eE] at z;have az:c.b≠mb:=λe=>r.qb.2 (by rw[e];exact HO);obtain⟨g9,bi,A9,q9,B9,c9,D9,d9,rfl,Y,v0,v1,v2,v3,v4,v5,v6,a0,_,_,Z,_,_⟩:=fR z hi;have aj:=η Z;have ah:=η (a5.acts _ (ν hi)).1;have am:g9≠mb:=λe=>Y.2 (by rw[e];exact HO);replace ca:=stpC (mb:=mb) ca az;replace v1:=stpC (mb:=mb) v1 am;clear r z Z a0 Y v0 v2 v3 v4 v5 v6 eE;obtain⟨g,j⟩:=γ (xs.drop 0)
 have X:xs.length-0=g:=by rw[j,List.length_drop]
 have L:Hid (ExsR t (im own t) (.slice (fd A0 c0 0 5) g (c0-0)) g):=by rw[j];exact SlR.from X3 0 ω
 have ai:Hid (∀e∈g,Ex.deep e<=M):=λe he=>HD e (by rw[j] at he;exact List.mem_of_mem_drop he);obtain⟨AK,I⟩:=γ (fd A0 c0 0 5)
 have bx:∀W,(Instr.slice 41 (.slice A0 xs c0) (some (.int .i64 0)) none none).run prog W=.ok (.slice AK g (c0-0)) W:=λW=>by
  rw[I,<-X];exact eH W _ _ _ 0 ω
 rw[<-I] at L;rw[<-j] at A;clear j X I;replace b2:=stpC (mb:=mb) b2 Φ;replace b5:=stpC (mb:=mb) b5 Φ;obtain⟨bE,H⟩:=γ (bl (aa p M) sc g p.actors[i].params)
 rw[<-H] at A;have H4:=η H.symm;clear H
 cases bE with
 | false =>
  have F:=η (gV (n:=x) A);refine tkB (λW=>Stm mb t W) (smDr _ _) (λhHeld=>?_);refine θ ?_;refine tkE 31 (λK hK=>?_);go_simp;(refine (fD ag ai (E3.bel (ad _)) ae (ExsR.to L (sof (ad _)).sub) (FldsR.to aj (sof (ad _)).sub) ah).mono ?_;rw[H4.o];rintro e6 D ⟨rfl,a,v⟩);refine tkR hK ?_ (λhHeld=>?_)
  ·exact hHeld.trans a
  clear hK K;refine θ ?_;refine tkD ?_;go_wp2;go_ret2;rw[F.o];exact dc ((Stm.of_below B3).trans ((smDr _ _).trans a))
 | true =>
  have aq:=η A.o;refine tkB (λW=>Stm mb t W) (smDr _ _) (λhHeld=>?_);refine θ ?_;refine tkE 31 (λK hK=>?_);go_simp;(refine (fD ag ai (E3.bel (ad _)) ae (ExsR.to L (sof (ad _)).sub) (FldsR.to aj (sof (ad _)).sub) ah).mono ?_;rw[H4.o];rintro e6 D ⟨rfl,a,v⟩);refine tkR hK ?_ (λhHeld=>?_)
  ·exact hHeld.trans a
  clear hK K;refine θ ?_;refine tkD ?_;obtain⟨ST,CT,ak,O⟩:=zd4 (show Stm mb w D from (Stm.of_below B3).trans ((smDr _ _).trans a)) (v Υ) (show Hs D w 120 (st9 op x (0) s u A0 xs c0 A1 thn c1 A2 els c2 A3 arms c3) from N.stp ((smDr _ _).trans a) Ω) (oh (n:=x) aq);clear a v hHeld;have ab:=ak.c 1;by_cases f:x=-1
  ·have x1:(x==-1)=true:=beq_iff_eq.2 f;have F:Hid (cJ p (aa p M) sc x 0 s xs=some (-1,sc)):=by show _=_;rw[O.o,if_pos f]
   clear f O;go_wp2;go_ret2;rw[F.o];exact gl ST CT
  have x1:(x==-1)=false:=beq_eq_false_iff_ne.2 f;have bz:=stpC (mb:=mb) (ak.c 3) Φ;have F:Hid (cJ p (aa p M) sc x 0 s xs=(sc.bind x (refT s)).map λsc'=>(x,sc')):=by show _=_;rw[O.o,if_neg f]
  clear f O;go_upto_region 8 with fail;replace ab:=stpC (mb:=mb) ab Φ
  cases hbd:sc.bindB x with
  | false =>
   have R:=η hbd;have J:Hid (cJ p (aa p M) sc x 0 s xs=none):=by show _=_;rw[F.o];unfold Sc.bind;rw[hbd];rfl
   clear hbd;go_region_held3 (λW=>Stm mb D W) (first|exact smDr _ _|exact Stm.trans ι h) (first|(go_at_call 178;refine (da own mb sb sc x _ (refT s) _ (CT.below (ad _)) af (TyR.of Ψ ac SlR.nil)).mono ?_;rintro e8 w8 ⟨k,h,V,ay⟩;rw[R.o] at k;subst k));go_wp2;go_ret2;rw[J.o];exact dc (ST.trans ((smDr _ _).trans h))
  | true =>
   have R:=η hbd;have J:Hid (cJ p (aa p M) sc x 0 s xs=some (x,sc.set x (refT s))):=by show _=_;rw[F.o];unfold Sc.bind;rw[hbd];rfl
   clear hbd;go_region_held3 (λW=>Stm mb D W) (first|exact smDr _ _|exact Stm.trans ι h) (first|(go_at_call 178;refine (da own mb sb sc x _ (refT s) _ (CT.below (ad _)) af (TyR.of Ψ ac SlR.nil)).mono ?_;rintro e8 w8 ⟨k,h,V,ay⟩;rw[R.o] at k;subst k));go_wp2;go_ret2;rw[J.o];exact gl (ST.trans ((smDr _ _).trans h)) (V (by first|rfl|trivial|exact R))
theorem spawn_1 {op:Int} {thn:List St} (hno:idxP p.acNames s.data.toList=some i) (hi:i<p.actors) (hx0:0<xs.length):
 Calls prog 193 #[c.b,sb,.agg (st9 op x (1) s u A0 xs c0 A1 thn c1 A2 els c2 A3 arms c3)] w (cj w own mb sb (cJ p (aa p M) sc x (1) s xs)):=by
 have cr:=hx.le9;obtain⟨H,G,J⟩:=zd3 IH ho he.mb.1;have cq:=he.mb.2;obtain⟨j,B,B1,ax⟩:=κ w (st9 op x (1) s u A0 xs c0 A1 thn c1 A2 els c2 A3 arms c3) 120
 obtain⟨E1,X1,b0,bv⟩:=zd4 (he.bel B1) (ExsR.to hx (sof (own:=own) B1).sub) B1 B;have V:w.heap.size<j:=by rw[B];simp
 obtain⟨HD,bw,aq,ap⟩:=zd4 hd hFi hix hss;clear IH hFi hd he ho hx B B1 hix;have d1:=belW E1.chk.c5;have b3:=belW (ax.c 3)
 have lk:∀W,Below j j W->(Instr.lookup 101 (.map (some c.ba)) (s:Vl) true).run prog W=.ok (.tuple #[.int .i64 (((idxP p.acNames s.data.toList).getD 0:Nat):Int),.bool (idxP p.acNames s.data.toList).isSome]) W:=λW hb=>by
  have:=ck (E1.chk.ma.below hb E1.chk.qa.1) hss;rw[gy,eU] at this;exact this
 clear hss;rw[hno] at lk;have l:=η (vS (E:=aa p M) (sc:=sc) (xs:=xs) hno hi hx0);have i0:(0:Int)<=(i:Int):=ω;have i1:(i:Int)<(p.actors.length:Int):=ω;have u3:¬(xs.length:Int)<1:=ω;have ae:=η (HD _ (ν hx0));clear hno;go_in;go_upto_region 1 with fail;rw[<-bv.o];go_region_held3 (λW=>Below j j W) (first|exact ad _) (fail);go_upto_region 2 with fail;obtain⟨f,N⟩:=γ j.drew
 rw[<-N];have R:Hid (Below j j f):=by rw[N];exact ad _
 have B3:=η (bel b0 R)
 have af:=η (show Hs f w 120 (st9 op x (1) s u A0 xs c0 A1 thn c1 A2 els c2 A3 arms c3) from (R.block _ V).trans ax);clear N d1 b3 lk;have b2:=af.c 2;have b5:=af.c 5;go_upto_region 4 with fail;obtain⟨U,X3⟩:=zd2 (E1.bel R) (ExsR.to X1 (sof (own:=own) R).sub);have D:=U.chk;obtain⟨AE,qE,eE⟩:=D.actors.form;have ca:=D.c3;rw[eE] at ca;have O:=D.actors;rw[eE] at O;have bp:c.b≠mb:=λe=>D.qb.2 (by rw[e];exact J);obtain⟨g9,cc,A9,q9,B9,c9,D9,d9,rfl,am,v0,v1,v2,v3,v4,v5,v6,bq,_,_,an,_,_⟩:=fR O hi;have av:=η an;have ar:=η (bw.acts _ (ν hi)).1;have a4:g9≠mb:=λe=>am.2 (by rw[e];exact J);replace ca:=stpC (mb:=mb) ca bp;replace v1:=stpC (mb:=mb) v1 a4;clear D O an bq am v0 v2 v3 v4 v5 v6 eE;obtain⟨g,L,o1,x1,m1,s1,a1,cw,cu,rfl,hg,e1,p0,p1,p2,p3,p4,hr⟩:=aQ X3 (i:=0) hx0;simp only[Nat.zero_mul,Nat.add_zero] at p0 p1 p2 p3 p4;have HR:=η hr;have z:g≠mb:=λe=>hg.2 (by rw[e];exact J);clear hr e1 hg;obtain⟨t,y⟩:=γ (xs.drop 1)
 have al:xs.length-1=t:=by rw[y,List.length_drop]
 have ac:Hid (ExsR f (im own f) (.slice (fd (some ⟨g,L,none⟩) c0 1 5) t (c0-1)) t):=by rw[y];exact SlR.from X3 1 ω
 have au:Hid (∀e∈t,Ex.deep e<=M):=λe he=>HD e (by rw[y] at he;exact List.mem_of_mem_drop he);obtain⟨AK,Z⟩:=γ (fd (some ⟨g,L,none⟩) c0 1 5)
 have cs:∀W,(Instr.slice 41 (.slice (some ⟨g,L,none⟩) xs c0) (some (.int .i64 1)) none none).run prog W=.ok (.slice AK t (c0-1)) W:=λW=>by
  rw[Z,<-al];exact eH W _ _ _ 1 ω
 rw[<-Z] at ac;rw[<-y] at l;clear y al Z;replace p0:=stpC (mb:=mb) p0 z;replace p1:=stpC (mb:=mb) p1 z;replace p2:=stpC (mb:=mb) p2 z;replace p3:=stpC (mb:=mb) p3 z;replace p4:=stpC (mb:=mb) p4 z;replace b2:=stpC (mb:=mb) b2 Φ;replace b5:=stpC (mb:=mb) b5 Φ;obtain⟨bI,X⟩:=γ (isE (aa p M) sc xs[0] (bTy 3))
 rw[<-X] at l;have H3:=η X.symm;clear X;obtain⟨bE,Y⟩:=γ (bl (aa p M) sc t p.actors[i].params)
 rw[<-Y] at l;have H4:=η Y.symm;clear Y
 cases bI with
 | false =>
  have F:=η (gV (n:=x) l);refine tkB (λW=>Stm mb f W) (smDr _ _) (λhHeld=>?_);refine θ ?_;refine tkE 10 (λK hK=>?_);go_simp;(refine (aU _ _).mono ?_;rintro e4 w4 ⟨rfl,a⟩);refine tkR hK ?_ (λhHeld=>?_)
  ·first|exact hHeld.trans (Stm.of_below a)|exact hHeld.trans (Stp.of_below a)
  clear hK K;refine tkE 11 (λK hK=>?_);go_simp;(refine (bA H ae (U.bel (bel (ad _) a)) G (HR.to (sof (bel (ad _) a)).sub) (cO _ _ 3 Ψ) (cY ω)).mono ?_;rw[H3.o];rintro e5 w5 ⟨rfl,d,r⟩);refine tkR hK ?_ (λhHeld=>?_)
  ·exact hHeld.trans d
  clear hK K;refine θ ?_;refine tkD ?_;go_wp2;go_ret2;rw[F.o];exact dc ((Stm.of_below B3).trans ((Stm.of_below (bel (ad f) a)).trans d))
 | true =>
 cases bE with
 | false =>
  have F:=η (gV (n:=x) l);refine tkB (λW=>Stm mb f W) (smDr _ _) (λhHeld=>?_);refine θ ?_;refine tkE 10 (λK hK=>?_);go_simp;(refine (aU _ _).mono ?_;rintro e4 w4 ⟨rfl,a⟩);refine tkR hK ?_ (λhHeld=>?_)
  ·first|exact hHeld.trans (Stm.of_below a)|exact hHeld.trans (Stp.of_below a)
  clear hK K;refine tkE 11 (λK hK=>?_);go_simp;(refine (bA H ae (U.bel (bel (ad _) a)) G (HR.to (sof (bel (ad _) a)).sub) (cO _ _ 3 Ψ) (cY ω)).mono ?_;rw[H3.o];rintro e5 w5 ⟨rfl,d,r⟩);refine tkR hK ?_ (λhHeld=>?_)
  ·exact hHeld.trans d
  clear hK K;refine θ ?_;refine tkE 31 (λK hK=>?_);go_simp;(refine (fD H au (U.stp ((Stm.of_below (bel (ad f) a)).trans d) (r Υ)) G (ExsR.to ac (Stm.subO ((Stm.of_below (bel (ad f) a)).trans d) J)) (FldsR.to av (Stm.subO ((Stm.of_below (bel (ad f) a)).trans d) J)) ar).mono ?_;rw[H4.o];rintro e6 T ⟨rfl,h,I⟩);refine tkR hK ?_ (λhHeld=>?_)
  ·exact hHeld.trans h
  clear hK K;refine θ ?_;refine tkD ?_;go_wp2;go_ret2;rw[F.o];exact dc ((Stm.of_below B3).trans (((Stm.of_below (bel (ad f) a)).trans d).trans h))
 | true =>
  have bb:=η l.o;refine tkB (λW=>Stm mb f W) (smDr _ _) (λhHeld=>?_);refine θ ?_;refine tkE 10 (λK hK=>?_);go_simp;(refine (aU _ _).mono ?_;rintro e4 w4 ⟨rfl,a⟩);refine tkR hK ?_ (λhHeld=>?_)
  ·first|exact hHeld.trans (Stm.of_below a)|exact hHeld.trans (Stp.of_below a)
  clear hK K;refine tkE 11 (λK hK=>?_);go_simp;(refine (bA H ae (U.bel (bel (ad _) a)) G (HR.to (sof (bel (ad _) a)).sub) (cO _ _ 3 Ψ) (cY ω)).mono ?_;rw[H3.o];rintro e5 w5 ⟨rfl,d,r⟩);refine tkR hK ?_ (λhHeld=>?_)
  ·exact hHeld.trans d
  clear hK K;refine θ ?_;refine tkE 31 (λK hK=>?_);go_simp;(refine (fD H au (U.stp ((Stm.of_below (bel (ad f) a)).trans d) (r Υ)) G (ExsR.to ac (Stm.subO ((Stm.of_below (bel (ad f) a)).trans d) J)) (FldsR.to av (Stm.subO ((Stm.of_below (bel (ad f) a)).trans d) J)) ar).mono ?_;rw[H4.o];rintro e6 T ⟨rfl,h,I⟩);refine tkR hK ?_ (λhHeld=>?_)
  ·exact hHeld.trans h
  clear hK K;refine θ ?_;refine tkD ?_;obtain⟨ST,CT,aw,HS⟩:=zd4 (show Stm mb w T from (Stm.of_below B3).trans (((Stm.of_below (bel (ad f) a)).trans d).trans h)) (I Υ) (show Hs T w 120 (st9 op x 1 s u (some ⟨g,L,none⟩) xs c0 A1 thn c1 A2 els c2 A3 arms c3) from af.stp (((Stm.of_below (bel (ad f) a)).trans d).trans h) Ω) (oh (n:=x) bb);clear h I hHeld;have ao:=aw.c 1;by_cases k:x=-1
  ·have x1:(x==-1)=true:=beq_iff_eq.2 k;have F:Hid (cJ p (aa p M) sc x 1 s xs=some (-1,sc)):=by show _=_;rw[HS.o,if_pos k]
   clear k HS;go_wp2;go_ret2;rw[F.o];exact gl ST CT
  have x1:(x==-1)=false:=beq_eq_false_iff_ne.2 k;have cv:=stpC (mb:=mb) (aw.c 3) Φ;have F:Hid (cJ p (aa p M) sc x 1 s xs=(sc.bind x (refT s)).map λsc'=>(x,sc')):=by show _=_;rw[HS.o,if_neg k]
  clear k HS;go_upto_region 8 with fail;replace ao:=stpC (mb:=mb) ao Φ
  cases hbd:sc.bindB x with
  | false =>
   have H8:=η hbd;have ab:Hid (cJ p (aa p M) sc x 1 s xs=none):=by show _=_;rw[F.o];unfold Sc.bind;rw[hbd];rfl
   clear hbd;go_region_held3 (λW=>Stm mb T W) (first|exact smDr _ _|exact Stm.trans ι v) (first|(go_at_call 178;refine (da own mb sb sc x _ (refT s) _ (CT.below (ad _)) aq (TyR.of Ψ ap SlR.nil)).mono ?_;rintro e8 w8 ⟨A,v,ak,bn⟩;rw[H8.o] at A;subst A));go_wp2;go_ret2;rw[ab.o];exact dc (ST.trans ((smDr _ _).trans v))
  | true =>
   have H8:=η hbd;have ab:Hid (cJ p (aa p M) sc x 1 s xs=some (x,sc.set x (refT s))):=by show _=_;rw[F.o];unfold Sc.bind;rw[hbd];rfl
   clear hbd;go_region_held3 (λW=>Stm mb T W) (first|exact smDr _ _|exact Stm.trans ι v) (first|(go_at_call 178;refine (da own mb sb sc x _ (refT s) _ (CT.below (ad _)) aq (TyR.of Ψ ap SlR.nil)).mono ?_;rintro e8 w8 ⟨A,v,ak,bn⟩;rw[H8.o] at A;subst A));go_wp2;go_ret2;rw[ab.o];exact gl (ST.trans ((smDr _ _).trans v)) (ak (by first|rfl|trivial|exact H8))
theorem sK {op m:Int} {thn:List St}:
 Calls prog 193 #[c.b,sb,st9 op x m s u A0 xs c0 A1 thn c1 A2 els c2 A3 arms c3] w (cj w own mb sb (cJ p (aa p M) sc x m s xs)):=by
 cases hno:idxP p.acNames s.data.toList with
 | none=>exact zr IH hFi hd he ho hx hix hss hno
 | some i =>
  by_cases f:m=0
  ·subst f;exact spawn_0 IH hFi hd he ho hx hix hss hno (ac_lt hno)
  by_cases d:m=1
  ·subst d;by_cases a:0<xs.length
   ·exact spawn_1 IH hFi hd he ho hx hix hss hno (ac_lt hno) a
   exact spawn_1e IH hFi hd he ho hx hix hss hno a
  exact spawn_m IH hFi hd he ho hx hix hss hno f d
end
end
end
