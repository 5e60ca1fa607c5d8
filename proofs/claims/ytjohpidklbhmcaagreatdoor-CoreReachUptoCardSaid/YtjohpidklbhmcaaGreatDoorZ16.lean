/- Core -/
import Derived.Test.YtjohpidklbhmcaaGreatDoorZ13
import Derived.Lib.VarintBits
import Derived.Test.YtjohpidklbhmcaaGreatDoorZ9
namespace Go.Proofs.YtjohpidklbhmcaaGreatDoor
set_option linter.all false
open Go.Proofs.Tryz
set_option maxRecDepth 100000
set_option maxHeartbeats 2000000
open Go.RowKit Go.Maps Go.WideMaps Go.ChangeMaps
variable {σ:Type} {N:Nm σ} {B b:Nat} {fv nv:Value} {rel:World->σ->Nat->Prop} {E:WEnv N B b fv nv rel} {out:List UInt8} {st:σ} {w:World}
def pf {n:Int} (h:0<=n):0<(numB n).length:=by
 refine List.length_pos_iff.2 ?_;unfold numB;rw[if_neg ω];show varN 9 _≠[];rw[varN];split<;>simp
def kt {s:ByteArray} (h:WS E out st w) (hlen:out<=wTop) (hs:s.size<=wTop):Calls prog 64 #[b,s] w (λe w'=>e=.returned (.tuple #[])/\WS E (out++aM s) st w'/\Ch (wM B b) w w'/\rel w' st out):=
 (sm h.wr (by unfold wTop at hlen hs;omega)).mono λ_ _ ⟨he,hw,hc⟩=>⟨he,h.next hw hc,hc.wM,E.keep _ _ _ _ h.rel hc⟩
def w_numR {n:Int} (h:WrAt B b fv nv out w) (hr:rel w st (out+1)) (h1:i64 n) (h0:0<=n) (hlen:out<=wTop):Calls prog 29 #[b,n] w (bG E (out++numB n) st w):=
 (qN h h1.1 h1.2 (by unfold wTop at hlen;omega)).mono λ_ _ ⟨he,hw,hc⟩=>⟨he,⟨hw,E.mono _ _ _ _ (E.keep _ _ _ _ hr hc) (by have:=pf h0;rw[μ];omega)⟩,hc.wM⟩
structure NmS (b g i:Nat) (nv sv:Value) (X:World):Prop where
 f:X.cell? ⟨b,3,none⟩=some nv
 s:X.cell? ⟨g,i,none⟩=some sv
def aS (s:ByteArray):s.size<=(aM s).length/\0<(aM s).length:=by
 have a:0<(numB (s.size:Nat)).length:=pf ω;unfold aM;rw[μ];have:s.data.toList=s.size:=by simp
 omega
def wtyp_any (n:Nat):∀(cs:List Value) (t:Ty) (w:World) (st:σ) (out:List UInt8),SizeOf.sizeOf t<=n->TyR w (uo (wM B b) w) cs t->WS E out st w->out.length+(wTy N st t).1.length<=wTop->Calls prog 68 #[b,.agg cs.toArray] w (bG E (out++(wTy N st t).1) (wTy N st t).2 w):=by
 induction n with
 | zero=>intro cs t w st out hn;cases t;simp at hn
 | succ n ih =>
  intro cs t w st out hn u r x;obtain⟨k,s,a,A,cap,rfl,rfl,aj,ae,ha⟩:=ap u
  have IH:Hid (∀(i:Nat) (h:i<a.length) (cs:List Value) (w:World) (st:σ) (out:List UInt8),TyR w (uo (wM B b) w) cs a[i]->WS E out st w->out.length+(wTy N st a[i]).1.length<=wTop->Calls prog 68 #[b,.agg cs.toArray] w (bG E (out++(wTy N st a[i]).1) (wTy N st a[i]).2 w)):=λi h cs w st out u r hl =>
   ih cs a[i] w st out (by have:=List.sizeOf_lt_of_mem (ν h);simp at hn;omega) u r hl
  obtain⟨a4,a7,HA⟩:=zd3 ae aj ha;have U:Hid ((wTy N st (.mk k s a)).1=numB k++(aM s++(ah (wTy N) (if k=6 then N.nam st s else st) a).1)/\(wTy N st (.mk k s a)).2=(ah (wTy N) (if k=6 then N.nam st s else st) a).2):=⟨by rw[wTy,oZ];rfl,by rw[wTy,oZ];rfl⟩
  have g:Hid (out.length+((numB k).length+((aM s).length+(ah (wTy N) (if k=6 then N.nam st s else st) a).1.length))<=wTop):=by show _<=_;rw[U.o.1] at x;simpa only[μ] using x
  have al:=η (aS s);have H:w≠b:=λe=>Nat.lt_irrefl b (e▸r.wr.lt);obtain⟨W1,I,B1,D⟩:=κ w #[k,s,.slice A a cap] 40
  have ao:Hid (Ch (wM B b) w W1):=Ch.of_below B1;have Y:Hid (WS E out st W1):=r.bel B1;have ak:=η I;clear r I B1 ih hn u ae aj ha x;go_enter func68,ntmps68;go_upto_region 1 with fail;rw[<-ak.o];clear ak;have j:=D.c 0;go_wp2_with fail;refine (eG Y a7 (by have:=g.o;omega)).mono ?_;rintro e2 W2 ⟨rfl,ag,T⟩;obtain⟨V,y,an⟩:=zd3 ag (ax Y T D H rfl) (ao.trans T);clear ag T j D Y ao;have j:=y.c 1;go_wp2_with fail;refine (kt V (by have:=g.o;simp only[μ];omega) (by have:=g.o;have:=al.1;omega)).mono ?_;rintro e3 W3 ⟨rfl,af,R,ai⟩;have a1:=η ai;clear ai;obtain⟨q,d,J⟩:=zd3 af (ax V R y H rfl) (an.trans R);clear af R j y V an;by_cases L:k=6
  ·have t6:(k==6)=true:=by simpa using L
   have Z:Hid ((if k=6 then N.nam st s else st)=N.nam st s):=by show _=_;rw[if_pos L]
   clear L;have j:=d.c 0;have ac:=d.c 1;obtain⟨l,p,rfl,ba,G⟩:=E.nam;have a6:=η G;clear G;have KS:Hid (∀X,Ch (wM B b) W3 X->WrAt B b fv (.func (.func l) #[] p) (out++numB k++aM s) X->NmS b w 1 (.func (.func l) #[] p) (s:Vl) X):=λX hc hw=>⟨hw.fn.2,(ax q hc d H rfl).cell 1⟩
   have bd:∀X,NmS b w 1 (.func (.func l) #[] p) (s:Vl) X->X.cell? ⟨b,3,none⟩=some (.func (.func l) #[] p):=λX h=>h.1;have bc:∀X,NmS b w 1 (.func (.func l) #[] p) (s:Vl) X->X.cell? ⟨w,1,none⟩=some (s:Vl):=λX h=>h.2;go_upto_region 4 with fail
   go_region_held3 (λX=>NmS b w 1 (.func (.func l) #[] p) (s:Vl) X) (first|exact KS _ (Ch.of_below (ad _)) (q.wr.bel (ad _))|exact KS _ ((Ch.of_below (ad _)).trans O) M)
    (first|(refine (a6 _ _ _ _ _ a4 (by have:=g.o;simp only[μ];omega) (q.wr.bel (ad _)) (E.keep _ _ _ _ a1 (Ch.of_below (ad _)))).mono ?_;rintro e4 W4 ⟨rfl,M,aq,O⟩))
   have v:=(Ch.of_below (may:=wM B b) (ad W3)).trans O;have F:WS E (out++numB k++aM s) (N.nam st s) W4:=⟨M,E.mono _ _ _ _ aq (by have:=al.2;simp only[μ];omega)⟩
   obtain⟨a5,ar,am⟩:=zd3 F (ax q v d H rfl) (J.trans v);clear F v j ac d q J;have j:=ar.c 2;go_wp2_with fail;refine (wl_119 (f:=wTy N) (TysR.to HA am.sub) a5 (by have:=g.o;rw[Z.o] at this;simp only[μ];omega) (λi hi cs W st out u r hl=>IH i hi cs W st out u r hl)).mono ?_;rintro e5 W5 ⟨rfl,av,aw⟩;go_wp2_with fail;go_end0;refine⟨rfl,?_,am.trans aw⟩;rw[U.o.1,U.o.2,Z.o];simpa only[χ] using av
  have t6:(k==6)=false:=by simpa using L
  have Z:Hid ((if k=6 then N.nam st s else st)=st):=by show _=_;rw[if_neg L]
  clear L;have j:=d.c 0;have ac:=d.c 1;have j:=d.c 2;go_wp2_with fail;refine (wl_119 (f:=wTy N) (TysR.to HA J.sub) q (by have:=g.o;rw[Z.o] at this;simp only[μ];omega) (λi hi cs W st out u r hl=>IH i hi cs W st out u r hl)).mono ?_;rintro e4 W4 ⟨rfl,F,v⟩;go_wp2_with fail;go_end0;refine⟨rfl,?_,J.trans v⟩;rw[U.o.1,U.o.2,Z.o];simpa only[χ] using F
variable {cs:List Value}
def w_typ {t:Ty} (hr:TyR w (uo (wM B b) w) cs t) (hs:WS E out st w) (hlen:out.length+(wTy N st t).1.length<=wTop):Calls prog 68 #[b,.agg cs.toArray] w (bG E (out++(wTy N st t).1) (wTy N st t).2 w):=wtyp_any _ cs t w st out (υ _) hr hs hlen
variable {σ:Type} {N:Nm σ} {B b:Nat} {fv nv:Value} {rel:World->σ->Nat->Prop} {E:WEnv N B b fv nv rel} {out:List UInt8} {st:σ} {w:World}
variable {w':World} {cs:Array Value}
def vk {w:World} (hc:Ch (wM B b) w w') {g:Nat} {t:TypeId} (hg:Hs w g t cs) (hb:g≠b) (ht:(t==5||(t==3||t==104))=false):Hs w' g t cs:=
 hc.block _ _ hg λhm=>by
  rcases hm.2 with h|h
  ·exact hb h
  rw[show wTag (Obj.cells cs t (0,0))=(t==5||(t==3||t==104)) from rfl,ht] at h;exact absurd h Θ
section
variable {op n m:Int} {s:ByteArray} {a:List Ex}
def su (h:jb op=true) (h2:gu op=false):(wEx N st (.mk op n m s a)).1=(numB op++(intB (N.num st n).1++(intB m++(aM s++(ah (wEx N) (N.num st n).2 a).1))))/\(wEx N st (.mk op n m s a)).2=(ah (wEx N) (N.num st n).2 a).2:=by
 rw[wEx,lM];unfold eNum eNam;rw[h,h2];exact⟨rfl,rfl⟩
def uF (h:jb op=false) (h2:gu op=true):(wEx N st (.mk op n m s a)).1=(numB op++(intB n++(intB m++(aM s++(ah (wEx N) (N.nam st s) a).1))))/\(wEx N st (.mk op n m s a)).2=(ah (wEx N) (N.nam st s) a).2:=by
 rw[wEx,lM];unfold eNum eNam;rw[h,h2];exact⟨rfl,rfl⟩
def wEx_else (h:jb op=false) (h2:gu op=false):(wEx N st (.mk op n m s a)).1=(numB op++(intB n++(intB m++(aM s++(ah (wEx N) st a).1))))/\(wEx N st (.mk op n m s a)).2=(ah (wEx N) st a).2:=by
 rw[wEx,lM];unfold eNum eNam;rw[h,h2];exact⟨rfl,rfl⟩
end
def vA (k:Nat):∀(cs:List Value) (t:Ex) (w:World) (st:σ) (out:List UInt8),SizeOf.sizeOf t<=k->ExR w (uo (wM B b) w) cs t->WS E out st w->out.length+(wEx N st t).1.length<=wTop->Calls prog 69 #[b,.agg cs.toArray] w (bG E (out++(wEx N st t).1) (wEx N st t).2 w):=by
 induction k with
 | zero=>intro cs t w st out hn;cases t;simp at hn
 | succ k ih =>
  intro cs t w st out hn hr O D;obtain⟨op,n,m,s,a,A,cap,rfl,rfl,b3,b2,ha⟩:=dJ hr
  have IH:Hid (∀(i:Nat) (h:i<a.length) (cs:List Value) (w:World) (st:σ) (out:List UInt8),ExR w (uo (wM B b) w) cs a[i]->WS E out st w->out.length+(wEx N st a[i]).1.length<=wTop->Calls prog 69 #[b,.agg cs.toArray] w (bG E (out++(wEx N st a[i]).1) (wEx N st a[i]).2 w)):=λi h cs w st out hr O hl =>
   ih cs a[i] w st out (by have:=List.sizeOf_lt_of_mem (ν h);simp at hn;omega) hr O hl
  obtain⟨b4,ao,HA,a2⟩:=zd4 b2 b3 ha (aS s);clear ih hn hr b2 b3 ha;by_cases bh:op=33
  ·subst bh;have HV:Hid ((wEx N st (.mk 33 n m s a)).1=(numB 33++(intB (N.num st n).1++(intB m++(aM s++(ah (wEx N) (N.num st n).2 a).1))))/\(wEx N st (.mk 33 n m s a)).2=(ah (wEx N) (N.num st n).2 a).2):=su π π;have d:Hid (out.length+((numB 33).length+((intB (N.num st n).1).length+((intB m).length+((aM s).length+(ah (wEx N) (N.num st n).2 a).1.length))))<=wTop):=by show _<=_;rw[HV.o.1] at D;simpa only[μ] using D
   have p:w≠b:=λe=>Nat.lt_irrefl b (e▸O.wr.lt);obtain⟨U,r,B1,l⟩:=κ w #[(33:Int),n,m,s,.slice A a cap] 43
   have ag:Hid (Ch (wM B b) w U):=Ch.of_below B1;have v:Hid (WS E out st U):=O.bel B1;have aa:=η r;clear O r B1 D;go_enter func69,ntmps69;go_upto_region 1 with fail;rw[<-aa.o];clear aa;have g:=l.c 0;have F:=l.c 1;obtain⟨ca,cb,rfl,be,ar⟩:=E.num;have a5:=η ar;clear ar;have bk:=v.wr.fn.1;go_wp2_with fail;refine (a5 _ _ _ _ _ ao.2.1 (by have:=d.o;omega) v.wr v.rel).mono ?_;rintro e2 W2 ⟨rfl,a9,a6,a8,J⟩;obtain⟨bp,bb,bc,x,af⟩:=zd5 a9 a6 a8 (ax v J l p rfl) (ag.trans J);clear a9 a6 a8 J l ag v g F bk;have g:=x.c 0;go_wp2_with fail;refine (w_numR (E:=E) bb bc (by unfold i64;decide) π (by have:=d.o;omega)).mono ?_;rintro e3 W3 ⟨rfl,Z,I⟩;obtain⟨M,u,ae⟩:=zd3 Z (vk I x p rfl) (af.trans I);clear Z I x af bb bc g;go_wp2_with fail;refine (jX M bp (by have:=d.o;simp only[μ];omega)).mono ?_;rintro e4 W4 ⟨rfl,Y,H⟩;obtain⟨L,q,ac⟩:=zd3 Y (ax M H u p rfl) (ae.trans H);clear Y H u M ae;have g:=q.c 2;go_wp2_with fail;refine (jX L ao.2.2 (by have:=d.o;simp only[μ];omega)).mono ?_;rintro e5 W5 ⟨rfl,V,G⟩;obtain⟨y,j,ab⟩:=zd3 V (ax L G q p rfl) (ac.trans G);clear V G g q L ac;have g:=j.c 3;go_wp2_with fail;refine (kt y (by have:=d.o;simp only[μ];omega) (by have:=d.o;have:=a2.1;omega)).mono ?_;rintro e6 W6 ⟨rfl,ai,T,a7⟩;have a4:=η a7;clear a7;obtain⟨a3,R,ap⟩:=zd3 ai (ax y T j p rfl) (ab.trans T);clear ai T g j y ab;have g:=R.c 0;have F:=R.c 3
   have g:=R.c 4;have F:=R.c 0;go_wp2_with fail;refine (wl_121 (f:=wEx N) (ExsR.to HA ap.sub) a3 (by have:=d.o;simp only[μ];omega) (λi hi cs W st out hr O hl=>IH i hi cs W st out hr O hl)).mono ?_;rintro e7 W7 ⟨rfl,az,a1⟩;go_wp2_with fail;go_end0;refine⟨rfl,?_,ap.trans a1⟩;rw[HV.o.1,HV.o.2];simpa only[χ] using az
  by_cases bg:op=34
  ·subst bg;have HV:Hid ((wEx N st (.mk 34 n m s a)).1=(numB 34++(intB (N.num st n).1++(intB m++(aM s++(ah (wEx N) (N.num st n).2 a).1))))/\(wEx N st (.mk 34 n m s a)).2=(ah (wEx N) (N.num st n).2 a).2):=su π π;have d:Hid (out.length+((numB 34).length+((intB (N.num st n).1).length+((intB m).length+((aM s).length+(ah (wEx N) (N.num st n).2 a).1.length))))<=wTop):=by show _<=_;rw[HV.o.1] at D;simpa only[μ] using D
   have p:w≠b:=λe=>Nat.lt_irrefl b (e▸O.wr.lt);obtain⟨U,r,B1,l⟩:=κ w #[(34:Int),n,m,s,.slice A a cap] 43
   have ag:Hid (Ch (wM B b) w U):=Ch.of_below B1;have v:Hid (WS E out st U):=O.bel B1;have aa:=η r;clear O r B1 D;go_enter func69,ntmps69;go_upto_region 1 with fail;rw[<-aa.o];clear aa;have g:=l.c 0;have F:=l.c 1;obtain⟨ca,cb,rfl,be,ar⟩:=E.num;have a5:=η ar;clear ar;have bk:=v.wr.fn.1;go_wp2_with fail;refine (a5 _ _ _ _ _ ao.2.1 (by have:=d.o;omega) v.wr v.rel).mono ?_;rintro e2 W2 ⟨rfl,a9,a6,a8,J⟩;obtain⟨bp,bb,bc,x,af⟩:=zd5 a9 a6 a8 (ax v J l p rfl) (ag.trans J);clear a9 a6 a8 J l ag v g F bk;have g:=x.c 0;go_wp2_with fail;refine (w_numR (E:=E) bb bc (by unfold i64;decide) π (by have:=d.o;omega)).mono ?_;rintro e3 W3 ⟨rfl,Z,I⟩;obtain⟨M,u,ae⟩:=zd3 Z (vk I x p rfl) (af.trans I);clear Z I x af bb bc g;go_wp2_with fail;refine (jX M bp (by have:=d.o;simp only[μ];omega)).mono ?_;rintro e4 W4 ⟨rfl,Y,H⟩;obtain⟨L,q,ac⟩:=zd3 Y (ax M H u p rfl) (ae.trans H);clear Y H u M ae;have g:=q.c 2;go_wp2_with fail;refine (jX L ao.2.2 (by have:=d.o;simp only[μ];omega)).mono ?_;rintro e5 W5 ⟨rfl,V,G⟩;obtain⟨y,j,ab⟩:=zd3 V (ax L G q p rfl) (ac.trans G);clear V G g q L ac;have g:=j.c 3;go_wp2_with fail;refine (kt y (by have:=d.o;simp only[μ];omega) (by have:=d.o;have:=a2.1;omega)).mono ?_;rintro e6 W6 ⟨rfl,ai,T,a7⟩;have a4:=η a7;clear a7;obtain⟨a3,R,ap⟩:=zd3 ai (ax y T j p rfl) (ab.trans T);clear ai T g j y ab;have g:=R.c 0;have F:=R.c 3
   have g:=R.c 4;have F:=R.c 0;go_wp2_with fail;refine (wl_121 (f:=wEx N) (ExsR.to HA ap.sub) a3 (by have:=d.o;simp only[μ];omega) (λi hi cs W st out hr O hl=>IH i hi cs W st out hr O hl)).mono ?_;rintro e7 W7 ⟨rfl,az,a1⟩;go_wp2_with fail;go_end0;refine⟨rfl,?_,ap.trans a1⟩;rw[HV.o.1,HV.o.2];simpa only[χ] using az
  by_cases h9:op=9
  ·subst h9;have HV:Hid ((wEx N st (.mk 9 n m s a)).1=(numB 9++(intB n++(intB m++(aM s++(ah (wEx N) (N.nam st s) a).1))))/\(wEx N st (.mk 9 n m s a)).2=(ah (wEx N) (N.nam st s) a).2):=uF π π;have d:Hid (out.length+((numB 9).length+((intB n).length+((intB m).length+((aM s).length+(ah (wEx N) (N.nam st s) a).1.length))))<=wTop):=by show _<=_;rw[HV.o.1] at D;simpa only[μ] using D
   have p:w≠b:=λe=>Nat.lt_irrefl b (e▸O.wr.lt);obtain⟨U,r,B1,l⟩:=κ w #[(9:Int),n,m,s,.slice A a cap] 43
   have ag:Hid (Ch (wM B b) w U):=Ch.of_below B1;have v:Hid (WS E out st U):=O.bel B1;have aa:=η r;clear O r B1 D;go_enter func69,ntmps69;go_upto_region 1 with fail;rw[<-aa.o];clear aa;have g:=l.c 0;have F:=l.c 1;go_wp2_with fail;refine (eG v (by unfold i64;decide) (by have:=d.o;omega)).mono ?_;rintro e2 W2 ⟨rfl,av,J⟩;obtain⟨an,x,af⟩:=zd3 av (ax v J l p rfl) (ag.trans J);clear av J g F l v ag;go_wp2_with fail;refine (jX an ao.2.1 (by have:=d.o;simp only[μ];omega)).mono ?_;rintro e3 W3 ⟨rfl,Z,I⟩;obtain⟨M,u,ae⟩:=zd3 Z (ax an I x p rfl) (af.trans I);clear Z I x an af;have g:=u.c 2;go_wp2_with fail;refine (jX M ao.2.2 (by have:=d.o;simp only[μ];omega)).mono ?_;rintro e4 W4 ⟨rfl,Y,H⟩;obtain⟨L,q,ac⟩:=zd3 Y (ax M H u p rfl) (ae.trans H);clear Y H g u M ae;have g:=q.c 3;go_wp2_with fail;refine (kt L (by have:=d.o;simp only[μ];omega) (by have:=d.o;have:=a2.1;omega)).mono ?_;rintro e5 W5 ⟨rfl,V,G,aw⟩;have a4:=η aw;clear aw;obtain⟨y,j,ab⟩:=zd3 V (ax L G q p rfl) (ac.trans G);clear V G g q L ac;have g:=j.c 0;have F:=j.c 3;obtain⟨aj,ak,rfl,be,au⟩:=E.nam;have bo:=η au;clear au;have KS:Hid (∀X,Ch (wM B b) W5 X->WrAt B b fv (.func (.func aj) #[] ak) (out++numB 9++intB n++intB m++aM s) X->NmS b w 3 (.func (.func aj) #[] ak) (s:Vl) X):=λX hc hw=>⟨hw.fn.2,(ax y hc j p rfl).cell 3⟩
   have b8:∀X,NmS b w 3 (.func (.func aj) #[] ak) (s:Vl) X->X.cell? ⟨b,3,none⟩=some (.func (.func aj) #[] ak):=λX h=>h.1;have b7:∀X,NmS b w 3 (.func (.func aj) #[] ak) (s:Vl) X->X.cell? ⟨w,3,none⟩=some (s:Vl):=λX h=>h.2;go_upto_region 9 with fail
   go_region_held3 (λX=>NmS b w 3 (.func (.func aj) #[] ak) (s:Vl) X) (first|exact KS _ (Ch.of_below (ad _)) (y.wr.bel (ad _))|exact KS _ ((Ch.of_below (ad _)).trans a0) ay)
    (first|(refine (bo _ _ _ _ _ b4 (by have:=d.o;simp only[μ];omega) (y.wr.bel (ad _)) (E.keep _ _ _ _ a4 (Ch.of_below (ad _)))).mono ?_;rintro e6 W6 ⟨rfl,ay,bd,a0⟩))
   have T:=(Ch.of_below (may:=wM B b) (ad W5)).trans a0;have ai:WS E (out++numB 9++intB n++intB m++aM s) (N.nam st s) W6:=⟨ay,E.mono _ _ _ _ bd (by have:=a2.2;simp only[μ];omega)⟩
   obtain⟨a3,R,ap⟩:=zd3 ai (ax y T j p rfl) (ab.trans T);clear ai T g F j y ab;have g:=R.c 4;go_wp2_with fail;refine (wl_121 (f:=wEx N) (ExsR.to HA ap.sub) a3 (by have:=d.o;simp only[μ];omega) (λi hi cs W st out hr O hl=>IH i hi cs W st out hr O hl)).mono ?_;rintro e7 W7 ⟨rfl,az,a1⟩;go_wp2_with fail;go_end0;refine⟨rfl,?_,ap.trans a1⟩;rw[HV.o.1,HV.o.2];simpa only[χ] using az
  by_cases bi:op=12
  ·subst bi;have HV:Hid ((wEx N st (.mk 12 n m s a)).1=(numB 12++(intB n++(intB m++(aM s++(ah (wEx N) (N.nam st s) a).1))))/\(wEx N st (.mk 12 n m s a)).2=(ah (wEx N) (N.nam st s) a).2):=uF π π;have d:Hid (out.length+((numB 12).length+((intB n).length+((intB m).length+((aM s).length+(ah (wEx N) (N.nam st s) a).1.length))))<=wTop):=by show _<=_;rw[HV.o.1] at D;simpa only[μ] using D
   have p:w≠b:=λe=>Nat.lt_irrefl b (e▸O.wr.lt);obtain⟨U,r,B1,l⟩:=κ w #[(12:Int),n,m,s,.slice A a cap] 43
   have ag:Hid (Ch (wM B b) w U):=Ch.of_below B1;have v:Hid (WS E out st U):=O.bel B1;have aa:=η r;clear O r B1 D;go_enter func69,ntmps69;go_upto_region 1 with fail;rw[<-aa.o];clear aa;have g:=l.c 0;have F:=l.c 1;go_wp2_with fail;refine (eG v (by unfold i64;decide) (by have:=d.o;omega)).mono ?_;rintro e2 W2 ⟨rfl,av,J⟩;obtain⟨an,x,af⟩:=zd3 av (ax v J l p rfl) (ag.trans J);clear av J g F l v ag;go_wp2_with fail;refine (jX an ao.2.1 (by have:=d.o;simp only[μ];omega)).mono ?_;rintro e3 W3 ⟨rfl,Z,I⟩;obtain⟨M,u,ae⟩:=zd3 Z (ax an I x p rfl) (af.trans I);clear Z I x an af;have g:=u.c 2;go_wp2_with fail;refine (jX M ao.2.2 (by have:=d.o;simp only[μ];omega)).mono ?_;rintro e4 W4 ⟨rfl,Y,H⟩;obtain⟨L,q,ac⟩:=zd3 Y (ax M H u p rfl) (ae.trans H);clear Y H g u M ae;have g:=q.c 3;go_wp2_with fail;refine (kt L (by have:=d.o;simp only[μ];omega) (by have:=d.o;have:=a2.1;omega)).mono ?_;rintro e5 W5 ⟨rfl,V,G,aw⟩;have a4:=η aw;clear aw;obtain⟨y,j,ab⟩:=zd3 V (ax L G q p rfl) (ac.trans G);clear V G g q L ac;have g:=j.c 0;have F:=j.c 3;obtain⟨aj,ak,rfl,be,au⟩:=E.nam;have bo:=η au;clear au;have KS:Hid (∀X,Ch (wM B b) W5 X->WrAt B b fv (.func (.func aj) #[] ak) (out++numB 12++intB n++intB m++aM s) X->NmS b w 3 (.func (.func aj) #[] ak) (s:Vl) X):=λX hc hw=>⟨hw.fn.2,(ax y hc j p rfl).cell 3⟩
   have b8:∀X,NmS b w 3 (.func (.func aj) #[] ak) (s:Vl) X->X.cell? ⟨b,3,none⟩=some (.func (.func aj) #[] ak):=λX h=>h.1;have b7:∀X,NmS b w 3 (.func (.func aj) #[] ak) (s:Vl) X->X.cell? ⟨w,3,none⟩=some (s:Vl):=λX h=>h.2;go_upto_region 9 with fail
   go_region_held3 (λX=>NmS b w 3 (.func (.func aj) #[] ak) (s:Vl) X) (first|exact KS _ (Ch.of_below (ad _)) (y.wr.bel (ad _))|exact KS _ ((Ch.of_below (ad _)).trans a0) ay)
    (first|(refine (bo _ _ _ _ _ b4 (by have:=d.o;simp only[μ];omega) (y.wr.bel (ad _)) (E.keep _ _ _ _ a4 (Ch.of_below (ad _)))).mono ?_;rintro e6 W6 ⟨rfl,ay,bd,a0⟩))
   have T:=(Ch.of_below (may:=wM B b) (ad W5)).trans a0;have ai:WS E (out++numB 12++intB n++intB m++aM s) (N.nam st s) W6:=⟨ay,E.mono _ _ _ _ bd (by have:=a2.2;simp only[μ];omega)⟩
   obtain⟨a3,R,ap⟩:=zd3 ai (ax y T j p rfl) (ab.trans T);clear ai T g F j y ab;have g:=R.c 4;go_wp2_with fail;refine (wl_121 (f:=wEx N) (ExsR.to HA ap.sub) a3 (by have:=d.o;simp only[μ];omega) (λi hi cs W st out hr O hl=>IH i hi cs W st out hr O hl)).mono ?_;rintro e7 W7 ⟨rfl,az,a1⟩;go_wp2_with fail;go_end0;refine⟨rfl,?_,ap.trans a1⟩;rw[HV.o.1,HV.o.2];simpa only[χ] using az
  have bf:jb op=false:=by unfold jb;simp[bh,bg]
  have bl:gu op=false:=by unfold gu;simp[h9,bi]
  have cd:(op==33)=false:=by simpa using bh
  have cc:(op==34)=false:=by simpa using bg
  have t9:(op==9)=false:=by simpa using h9
  have ce:(op==12)=false:=by simpa using bi
  clear bh bg h9 bi;have HV:Hid ((wEx N st (.mk op n m s a)).1=(numB op++(intB n++(intB m++(aM s++(ah (wEx N) st a).1))))/\(wEx N st (.mk op n m s a)).2=(ah (wEx N) st a).2):=wEx_else bf bl;clear bf bl;have d:Hid (out.length+((numB op).length+((intB n).length+((intB m).length+((aM s).length+(ah (wEx N) st a).1.length))))<=wTop):=by show _<=_;rw[HV.o.1] at D;simpa only[μ] using D
  have p:w≠b:=λe=>Nat.lt_irrefl b (e▸O.wr.lt);obtain⟨U,r,B1,l⟩:=κ w #[op,n,m,s,.slice A a cap] 43
  have ag:Hid (Ch (wM B b) w U):=Ch.of_below B1;have v:Hid (WS E out st U):=O.bel B1;have aa:=η r;clear O r B1 D;go_enter func69,ntmps69;go_upto_region 1 with fail;rw[<-aa.o];clear aa;have g:=l.c 0;have F:=l.c 1;go_wp2_with fail;refine (eG v ao.1 (by have:=d.o;omega)).mono ?_;rintro e2 W2 ⟨rfl,av,J⟩;obtain⟨an,x,af⟩:=zd3 av (ax v J l p rfl) (ag.trans J);clear av J g F l v ag;go_wp2_with fail;refine (jX an ao.2.1 (by have:=d.o;simp only[μ];omega)).mono ?_;rintro e3 W3 ⟨rfl,Z,I⟩;obtain⟨M,u,ae⟩:=zd3 Z (ax an I x p rfl) (af.trans I);clear Z I x an af;have g:=u.c 2;go_wp2_with fail;refine (jX M ao.2.2 (by have:=d.o;simp only[μ];omega)).mono ?_;rintro e4 W4 ⟨rfl,Y,H⟩;obtain⟨L,q,ac⟩:=zd3 Y (ax M H u p rfl) (ae.trans H);clear Y H g u M ae;have g:=q.c 3;go_wp2_with fail;refine (kt L (by have:=d.o;simp only[μ];omega) (by have:=d.o;have:=a2.1;omega)).mono ?_;rintro e5 W5 ⟨rfl,V,G,aw⟩;have a4:=η aw;clear aw;obtain⟨y,j,ab⟩:=zd3 V (ax L G q p rfl) (ac.trans G);clear V G g q L ac;have g:=j.c 0;have F:=j.c 3;have g:=j.c 4;have F:=j.c 0;go_wp2_with fail;refine (wl_121 (f:=wEx N) (ExsR.to HA ab.sub) y (by have:=d.o;simp only[μ];omega) (λi hi cs W st out hr O hl=>IH i hi cs W st out hr O hl)).mono ?_;rintro e6 W6 ⟨rfl,ai,T⟩;go_wp2_with fail;go_end0;refine⟨rfl,?_,ab.trans T⟩;rw[HV.o.1,HV.o.2];simpa only[χ] using ai
variable {cs:List Value}
def ur {t:Ex} (hr:ExR w (uo (wM B b) w) cs t) (hs:WS E out st w) (hlen:out.length+(wEx N st t).1.length<=wTop):Calls prog 69 #[b,.agg cs.toArray] w (bG E (out++(wEx N st t).1) (wEx N st t).2 w):=vA _ cs t w st out (υ _) hr hs hlen
variable {σ:Type} {N:Nm σ} {B b:Nat} {fv nv:Value} {rel:World->σ->Nat->Prop} {E:WEnv N B b fv nv rel} {out:List UInt8} {st:σ} {w:World}
def fu {w:World} {g:Nat} {t:TypeId} {cs:Array Value} (h:Hs w g t cs) (o:Obj):Hs (w.alloc o) g t cs:=((belA (belR w) o).block g h.lt).trans h
set_option maxRecDepth 1000000 in
def zfWfld {p:Prop} (h:p:=by
 first
  | guard_hyp kk1:True
    obtain⟨A,q,rfl,-,I⟩:=jV hr;have J:Hid ((wCtr N st t).1=aM t.name++((bJ N st t.fields).1)/\(wCtr N st t).2=(bJ N st t.fields).2):=⟨rfl,rfl⟩
    have f:Hid (out.length+((aM t.name).length+(((bJ N st t.fields).1).length))<=wTop):=by show _<=_;rw[J.o.1] at hlen;simpa only[μ] using hlen
    obtain⟨Z,O⟩:=zd2 (aS t.name) I
  | guard_hyp kk0:True
    obtain⟨k,s,n,B_,c,rfl,I⟩:=mh hr;have J:Hid ((wFld N st t).1=aM t.name++((wTy N st t.type).1)/\(wFld N st t).2=(wTy N st t.type).2):=⟨rfl,rfl⟩
    have f:Hid (out.length+((aM t.name).length+(((wTy N st t.type).1).length))<=wTop):=by show _<=_;rw[J.o.1] at hlen;simpa only[μ] using hlen
    obtain⟨Z,O⟩:=zd2 (aS t.name) I
  | obtain⟨k,s,u,B_,c,o,x,m,r,e,D,d,rfl,-,I,h2⟩:=mu hr
    have J:Hid ((wVr N st t).1=aM t.name++((wTy N st t.type).1++((wEx N (wTy N st t.type).2 t.init).1))/\(wVr N st t).2=(wEx N (wTy N st t.type).2 t.init).2):=⟨rfl,rfl⟩
    have f:Hid (out.length+((aM t.name).length+(((wTy N st t.type).1).length+(((wEx N (wTy N st t.type).2 t.init).1).length)))<=wTop):=by show _<=_;rw[J.o.1] at hlen;simpa only[μ] using hlen
    obtain⟨Z,O,am⟩:=zd3 (aS t.name) I h2
 have Y:w≠b:=λe=>Nat.lt_irrefl b (e▸hs.wr.lt)
 first
  | guard_hyp kk1:True
    obtain⟨y,g⟩:=γ (w.alloc (.cells #[t.name,.slice A t.fields q] 122))
  | guard_hyp kk0:True
    obtain⟨y,g⟩:=γ (w.alloc (.cells #[t.name,k,s,.slice B_ n c] 118))
  | obtain⟨y,g⟩:=γ (w.alloc (.cells #[t.name,k,s,.slice B_ u c,o,x,m,r,.slice D e d] 61))
 have B1:Below w w y:=by rw[g];exact belA (belR _) _
 first
  | guard_hyp kk1:True
    have j:Hid (Hs y w 122 #[t.name,.slice A t.fields q]):=by rw[g];exact (Hs.new _ _ _)
  | guard_hyp kk0:True
    have j:Hid (Hs y w 118 #[t.name,k,s,.slice B_ n c]):=by rw[g];exact (Hs.new _ _ _)
  | have j:Hid (Hs y w 61 #[t.name,k,s,.slice B_ u c,o,x,m,r,.slice D e d]):=by rw[g];exact (Hs.new _ _ _)
 have ab:Hid (Ch (wM B b) w y):=Ch.of_below B1;have aa:Hid (WS E out st y):=hs.bel B1;have ad:Hid (CapW B b gc y):=hcap.to ab;have ai:=η g
 first
  | guard_hyp kk2:True
    clear hs g B1 I h2 hlen hcap;go_enter func71,ntmps71
  | clear hs g B1 I hlen hcap
    first
     | guard_hyp kk1:True
       go_enter func66,ntmps66
     | go_enter func118,ntmps118
 go_upto_region 1 with fail;rw[<-ai.o];clear ai;have v:=j.c 0;have p:=ad.2;go_wp2_with fail;refine (iy aa (by have:=f.o;(try simp only[μ]);omega) (by have:=f.o;have:=Z.1;omega)).mono ?_;rintro e2 W2 ⟨rfl,ah,M⟩;obtain⟨G,i,H,U⟩:=zd4 ah (ax aa M j Y rfl) (ab.trans M) (ad.to M);clear ah M v p j aa ab ad;have v:=i.c 1
 first
  | done
  | guard_hyp kk1:True
  | have W:=i.c 2
    have V:=i.c 3
 have p:=U.2;go_wp2_with fail
 first
  | guard_hyp kk1:True
    refine (pw (FldsR.to O H.sub) G (by have:=f.o;(try simp only[μ]);omega)).mono ?_
  | refine (w_typ (O.to H.sub) G (by have:=f.o;(try simp only[μ]);omega)).mono ?_
 rintro e3 W3 ⟨rfl,X,F⟩;obtain⟨R,a,T,ac⟩:=zd4 X (ax G F i Y rfl) (H.trans F) (U.to F)
 first
  | guard_hyp kk1:True
    clear X F v p i G H U
  | clear X F v W V p i G H U
    first
     | done
     | guard_hyp kk0:True
     | have v:=a.c 4
       have W:=a.c 5;have V:=a.c 6;have ak:=a.c 7;have aj:=a.c 8;have p:=ac.2
 go_wp2_with fail
 first
  | guard_hyp kk2:True
    refine (ur (am.to T.sub) R (by have:=f.o;(try simp only[μ]);omega)).mono ?_;rintro e4 W4 ⟨rfl,ag,L⟩;obtain⟨an,ap,ao,aq⟩:=zd4 ag (ax R L a Y rfl) (T.trans L) (ac.to L);clear ag L v W V ak aj p a R T ac;go_wp2_with fail
  | skip
 go_end0
 first
  | guard_hyp kk2:True
    refine⟨rfl,?_,ao⟩
  | refine⟨rfl,?_,T⟩
 rw[J.o.1,J.o.2]
 first
  | guard_hyp kk2:True
    simpa only[χ] using an.o
  | simpa only[χ] using R.o) :p:=h
variable {gc:Nat}
def w_fld {t:Fld} (hcap:CapW B b gc w) (hr:FldR w (uo (wM B b) w) cs t) (hs:WS E out st w) (hlen:out.length+(wFld N st t).1.length<=wTop):Calls prog 118 #[.agg cs.toArray,gc] w (bG E (out++(wFld N st t).1) (wFld N st t).2 w):=by
 have kk0:=trivial;exact zfWfld
def pw {A:Option Addr} {q:Nat} {l:List Fld} (h:FldsR w (uo (wM B b) w) (.slice A l q) l) (hs:WS E out st w) (hlen:out.length+(bJ N st l).1.length<=wTop):Calls prog 67 #[b,.slice A l q] w (bG E (out++(bJ N st l).1) (bJ N st l).2 w):=by
 obtain⟨H,G⟩:=zd2 hlen h;have t:w≠b:=λe=>Nat.lt_irrefl b (e▸hs.wr.lt);obtain⟨p,d⟩:=γ (w.alloc (.cells #[b] 66))
 have v:Below w w p:=by rw[d];exact belA (belR _) _
 have a:Hid (Hs p w 66 #[b]):=by rw[d];exact (Hs.new _ _ _)
 have k:Hid (Ch (wM B b) w p):=Ch.of_below v;have j:Hid (WS E out st p):=hs.bel v;have u:=η d;clear hs d v h hlen;go_enter func67,ntmps67;go_upto_region 1 with fail;rw[<-u.o];clear u;have x:=a.c 0;go_wp2_with fail;refine (wl_117 (f:=wFld N) (FldsR.to G k.sub) j ⟨nG a t rfl,a.cell 0⟩ H (λi hi cs W st out hcp hr hs hl=>w_fld hcp hr hs hl)).mono ?_;rintro I J ⟨rfl,r,g⟩;obtain⟨y,F,D⟩:=zd3 r (ax j g a t rfl) (k.trans g);clear r g x a j k;go_wp2_with fail;go_end0;exact⟨rfl,y,D⟩
def w_ctr {t:Ctr} (hcap:CapW B b gc w) (hr:CtrR w (uo (wM B b) w) cs t) (hs:WS E out st w) (hlen:out.length+(wCtr N st t).1.length<=wTop):Calls prog 66 #[.agg cs.toArray,gc] w (bG E (out++(wCtr N st t).1) (wCtr N st t).2 w):=by
 have kk1:=trivial;exact zfWfld
set_option maxRecDepth 1000000 in
def zfWdcl {p:Prop} (h:p:=by
 obtain⟨A,q,rfl,-,h1⟩:=gG hr;rw[hrec]
 first
  | guard_hyp kk0:True
    have T:Hid ((wDcl N st t).1=aM t.name++(numB 1++((ah (wCtr N) st t.ctors).1))/\(wDcl N st t).2=(ah (wCtr N) st t.ctors).2):=by unfold Hid wDcl;rw[hrec];exact⟨rfl,rfl⟩
    have j:Hid (out.length+((aM t.name).length+((numB 1).length+(((ah (wCtr N) st t.ctors).1).length)))<=wTop):=by show _<=_;rw[T.o.1] at hlen;simpa only[μ] using hlen
  | have T:Hid ((wDcl N st t).1=aM t.name++(numB 0++((ah (wCtr N) st t.ctors).1))/\(wDcl N st t).2=(ah (wCtr N) st t.ctors).2):=by unfold Hid wDcl;rw[hrec];exact⟨rfl,rfl⟩
    have j:Hid (out.length+((aM t.name).length+((numB 0).length+(((ah (wCtr N) st t.ctors).1).length)))<=wTop):=by show _<=_;rw[T.o.1] at hlen;simpa only[μ] using hlen
 obtain⟨af,ae⟩:=zd2 (aS t.name) h1;have G:w≠b:=λe=>Nat.lt_irrefl b (e▸hs.wr.lt);have r:w+1≠b:=λe=>by have:=hs.wr.lt;omega
 first
  | guard_hyp kk0:True
    obtain⟨F,a⟩:=γ ((w.alloc (.cells #[b] 66)).alloc (.cells #[t.name,true,.slice A t.ctors q] 48))
  | obtain⟨F,a⟩:=γ ((w.alloc (.cells #[b] 66)).alloc (.cells #[t.name,false,.slice A t.ctors q] 48))
 have B1:Below w w F:=by rw[a];exact belA (belA (belR _) _) _
 have D:Hid (Hs F w 66 #[b]):=by rw[a];exact (fu (Hs.new _ _ _) _)
 first
  | guard_hyp kk0:True
    have d:Hid (Hs F (w+1) 48 #[t.name,true,.slice A t.ctors q]):=by rw[a];exact (η (by have:=Hs.new (w.alloc (.cells #[b] 66)) 48 #[t.name,true,.slice A t.ctors q];simpa using this))
  | have d:Hid (Hs F (w+1) 48 #[t.name,false,.slice A t.ctors q]):=by rw[a];exact (η (by have:=Hs.new (w.alloc (.cells #[b] 66)) 48 #[t.name,false,.slice A t.ctors q];simpa using this))
 have aa:Hid (Ch (wM B b) w F):=Ch.of_below B1;have O:Hid (WS E out st F):=hs.bel B1;have Y:=η a;clear hs a B1 hrec h1 hlen;go_enter func21,ntmps21;go_upto_region 1 with fail;rw[<-Y.o];clear Y;have p:=d.c 0;have k:=d.c 1;have ac:=D.c 0;go_wp2_with fail;refine (iy O (by have:=j.o;(try simp only[μ]);omega) (by have:=j.o;have:=af.1;omega)).mono ?_;rintro e2 W2 ⟨rfl,X,J⟩;obtain⟨M,y,v,Z⟩:=zd4 X (ax O J D G rfl) (ax O J d r rfl) (aa.trans J);clear X J p k ac D d O aa;have p:=v.c 1;have k:=y.c 0;go_wp2_with fail;refine (eG M (by unfold i64;decide) (by have:=j.o;(try simp only[μ]);omega)).mono ?_;rintro e3 W3 ⟨rfl,V,I⟩;obtain⟨L,g,u,R⟩:=zd4 V (ax M I y G rfl) (ax M I v r rfl) (Z.trans I);clear V I p k y v M Z;have p:=u.c 2;have k:=g.c 0;go_wp2_with fail;refine (wl_65 (f:=wCtr N) (SlR.to' ae R.sub (λ_ _ x=>x.to R.sub)) L ⟨nG g G rfl,g.cell 0⟩ (by have:=j.o;(try simp only[μ]);omega) (λi hi cs W st out hcp hr hs hl=>w_ctr hcp hr hs hl)).mono ?_;rintro e4 W4 ⟨rfl,U,H⟩;obtain⟨ag,ak,aj,ai⟩:=zd4 U (ax L H g G rfl) (ax L H u r rfl) (R.trans H);clear U H p k g u L R;go_wp2_with fail;go_end0;refine⟨rfl,?_,ai⟩;rw[T.o.1,T.o.2];simpa only[χ] using ag.o) :p:=h
variable {t:Dcl}
def w_decl_true (hr:DclR w (uo (wM B b) w) cs t) (hs:WS E out st w) (hrec:t.record=true) (hlen:out.length+(wDcl N st t).1.length<=wTop):Calls prog 21 #[b,.agg cs.toArray] w (bG E (out++(wDcl N st t).1) (wDcl N st t).2 w):=by
 have kk0:=trivial;exact zfWdcl
def w_decl_false (hr:DclR w (uo (wM B b) w) cs t) (hs:WS E out st w) (hrec:t.record=false) (hlen:out.length+(wDcl N st t).1.length<=wTop):Calls prog 21 #[b,.agg cs.toArray] w (bG E (out++(wDcl N st t).1) (wDcl N st t).2 w):=by
 have kk1:=trivial;exact zfWdcl
def w_decl (hr:DclR w (uo (wM B b) w) cs t) (hs:WS E out st w) (hlen:out.length+(wDcl N st t).1.length<=wTop):Calls prog 21 #[b,.agg cs.toArray] w (bG E (out++(wDcl N st t).1) (wDcl N st t).2 w):=by
 cases hrec:t.record with
 | true=>exact w_decl_true hr hs hrec hlen
 | false=>exact w_decl_false hr hs hrec hlen
set_option maxRecDepth 1000000 in
def zfWeff {p:Prop} (h:p:=by
 first
  | guard_hyp kk0:True
    obtain⟨A,q,k,s,u,B_,c,rfl,-,V,U⟩:=jU hr;have W:Hid ((wEff N st t).1=aM t.name++((bJ N st t.params).1++((wTy N (bJ N st t.params).2 t.answer).1))/\(wEff N st t).2=(wTy N (bJ N st t.params).2 t.answer).2):=⟨rfl,rfl⟩
    have f:Hid (out.length+((aM t.name).length+(((bJ N st t.params).1).length+(((wTy N (bJ N st t.params).2 t.answer).1).length)))<=wTop):=by show _<=_;rw[W.o.1] at hlen;simpa only[μ] using hlen
    obtain⟨aq,ao,an⟩:=zd3 (aS t.name) V U
  | obtain⟨A,q,k,s,u,B_,c,o,x,m,r,e,D,d,rfl,ah,-,V,U,h3⟩:=jB hr
    have W:Hid ((wFn N st t).1=aM t.name++((bJ N st t.params).1++((wTy N (bJ N st t.params).2 t.result).1++(numB t.slots++((wEx N (wTy N (bJ N st t.params).2 t.result).2 t.body).1))))/\(wFn N st t).2=(wEx N (wTy N (bJ N st t.params).2 t.result).2 t.body).2):=⟨rfl,rfl⟩
    have f:Hid (out.length+((aM t.name).length+(((bJ N st t.params).1).length+(((wTy N (bJ N st t.params).2 t.result).1).length+((numB t.slots).length+(((wEx N (wTy N (bJ N st t.params).2 t.result).2 t.body).1).length)))))<=wTop):=by show _<=_;rw[W.o.1] at hlen;simpa only[μ] using hlen
    obtain⟨aq,au,ao,an,az⟩:=zd5 (aS t.name) ah V U h3
 have v:w≠b:=λe=>Nat.lt_irrefl b (e▸hs.wr.lt)
 first
  | guard_hyp kk0:True
    obtain⟨H,i⟩:=γ (w.alloc (.cells #[t.name,.slice A t.params q,k,s,.slice B_ u c] 50))
  | obtain⟨H,i⟩:=γ (w.alloc (.cells #[t.name,.slice A t.params q,k,s,.slice B_ u c,t.slots,o,x,m,r,.slice D e d] 45))
 have B1:Below w w H:=by rw[i];exact belA (belR _) _
 first
  | guard_hyp kk0:True
    have p:Hid (Hs H w 50 #[t.name,.slice A t.params q,k,s,.slice B_ u c]):=by rw[i];exact (Hs.new _ _ _)
  | have p:Hid (Hs H w 45 #[t.name,.slice A t.params q,k,s,.slice B_ u c,t.slots,o,x,m,r,.slice D e d]):=by rw[i];exact (Hs.new _ _ _)
 have ar:Hid (Ch (wM B b) w H):=Ch.of_below B1;have aa:Hid (WS E out st H):=hs.bel B1;have ap:=η i
 first
  | guard_hyp kk0:True
    clear hs i B1 V U hlen;go_enter func23,ntmps23
  | clear hs i B1 ah V U h3 hlen
    go_enter func25,ntmps25
 go_upto_region 1 with fail;rw[<-ap.o];clear ap;have g:=p.c 0;go_wp2_with fail;refine (iy aa (by have:=f.o;(try simp only[μ]);omega) (by have:=f.o;have:=aq.1;omega)).mono ?_;rintro e2 W2 ⟨rfl,am,T⟩;obtain⟨Z,F,ae⟩:=zd3 am (ax aa T p v rfl) (ar.trans T);clear am T g p aa ar;have g:=F.c 1;go_wp2_with fail;refine (pw (FldsR.to ao ae.sub) Z (by have:=f.o;(try simp only[μ]);omega)).mono ?_;rintro e3 W3 ⟨rfl,al,R⟩;obtain⟨Y,j,ad⟩:=zd3 al (ax Z R F v rfl) (ae.trans R);clear al R g F Z ae;have g:=j.c 2;have J:=j.c 3;have I:=j.c 4;go_wp2_with fail;refine (w_typ (an.to ad.sub) Y (by have:=f.o;(try simp only[μ]);omega)).mono ?_;rintro e4 W4 ⟨rfl,ak,O⟩;obtain⟨G,y,ac⟩:=zd3 ak (ax Y O j v rfl) (ad.trans O);clear ak O g J I j Y ad
 first
  | done
  | guard_hyp kk0:True
  | have g:=y.c 5
 go_wp2_with fail
 first
  | done
  | guard_hyp kk0:True
  | refine (eG G au (by have:=f.o;(try simp only[μ]);omega)).mono ?_
    rintro e5 W5 ⟨rfl,aj,M⟩;obtain⟨X,a,ab⟩:=zd3 aj (ax G M y v rfl) (ac.trans M);clear aj M g y G ac;have g:=a.c 6;have J:=a.c 7;have I:=a.c 8;have aw:=a.c 9;have av:=a.c 10;go_wp2_with fail;refine (ur (az.to ab.sub) X (by have:=f.o;(try simp only[μ]);omega)).mono ?_;rintro e6 W6 ⟨rfl,ai,L⟩;obtain⟨a0,a2,a1⟩:=zd3 ai (ax X L a v rfl) (ab.trans L);clear ai L g J I aw av a X ab;go_wp2_with fail
 go_end0
 first
  | guard_hyp kk0:True
    refine⟨rfl,?_,ac⟩
  | refine⟨rfl,?_,a1⟩
 rw[W.o.1,W.o.2]
 first
  | guard_hyp kk0:True
    simpa only[χ] using G.o
  | simpa only[χ] using a0.o) :p:=h
def w_effect {t:Eff} (hr:EffR w (uo (wM B b) w) cs t) (hs:WS E out st w) (hlen:out.length+(wEff N st t).1.length<=wTop):Calls prog 23 #[b,.agg cs.toArray] w (bG E (out++(wEff N st t).1) (wEff N st t).2 w):=by
 have kk0:=trivial;exact zfWeff
def w_fn {t:Fn} (hr:FnR w (uo (wM B b) w) cs t) (hs:WS E out st w) (hlen:out.length+(wFn N st t).1.length<=wTop):Calls prog 25 #[b,.agg cs.toArray] w (bG E (out++(wFn N st t).1) (wFn N st t).2 w):=by
 have kk1:=trivial;exact zfWeff
def w_vr {t:Vr} (hcap:CapW B b gc w) (hr:VrR w (uo (wM B b) w) cs t) (hs:WS E out st w) (hlen:out.length+(wVr N st t).1.length<=wTop):Calls prog 71 #[.agg cs.toArray,gc] w (bG E (out++(wVr N st t).1) (wVr N st t).2 w):=by
 have kk2:=trivial;exact zfWfld
def bstr (l:List UInt8):ByteArray:=⟨l.toArray⟩
def fU (l:List UInt8):(bstr l).size=l:=by show l.toArray.size=_;simp
def ly (l:List UInt8) (i j:Nat):(bstr l).extract i j=bstr ((l.take j).drop i):=by
 unfold bstr;apply ByteArray.ext;apply Array.toList_inj.1;simp[ByteArray.extract,ByteArray.copySlice,List.drop_take]
def qp (l:List UInt8) (i:Nat):(bstr l).extract i (bstr l).size=bstr (l.drop i):=by rw[ly,fU,List.take_length]
def xx (l:List UInt8) (j:Nat):(bstr l).extract 0 j=bstr (l.take j):=by rw[ly,List.drop_zero]
def rT (l:List UInt8) (i:Nat) (h:i<l) (w:World):(Instr.index 9 (.string (bstr l)) (.int .i64 (i:Int))).run prog w=.ok (.int .u8 (l[i].toNat:Int)) w:=by
 rw[run_index_string w 9 (bstr l) .i64 i underlying9,dif_pos ⟨ω,by rw[fU];omega⟩];congr 3
structure RdAt (rb db:Nat) (l:List UInt8) (fl:Bool) (d:Int) (w:World):Prop where
 r:Hs w rb 145 #[.string (bstr l),fl]
 d:Hs w db 90 #[rb,d]
variable {rb db:Nat} {l:List UInt8} {fl:Bool} {d:Int}
def RdAt.bel {w:World} (h:RdAt rb db l fl d w) (hb:Below w w w'):RdAt rb db l fl d w':=⟨(hb.block _ h.r.lt).trans h.r,(hb.block _ h.d.lt).trans h.d⟩
def RdAt.ne {w:World} (h:RdAt rb db l fl d w):rb≠db:=by
 rintro rfl;have:=Option.some.inj (h.r.symm.trans h.d);injection this with _ h2;exact absurd h2 π
def RdAt.rest {l':List UInt8} {w:World} (h:RdAt rb db l fl d w):RdAt rb db l' fl d (w.setCell rb (.string (bstr l'))):=
 ⟨(heap_setCell_same _ _ _ _ _ _ h.r).trans rfl,(Below.heap_setCell _ _ _ _ (λe=>h.ne e.symm)).trans h.d⟩
def rO (rb:Nat) (k:Nat):Prop:=k=rb
def rdO (rb db:Nat) (k:Nat):Prop:=k=rb\/k=db
def bu {w:World} (h:Stp (rO rb) w w'):Stp (rdO rb db) w w':=⟨h.os,h.tape,h.output,h.size,λk hk hn=>h.block k hk λe=>hn (.inl e)⟩
def lQ (rb:Nat) (w:World) (v:Value) (i:Nat):Stp (rO rb) w (w.setCell ⟨rb,i,none⟩ v):=⟨rfl,rfl,rfl,by simp[World.setCell],λk _ hk=>Below.heap_setCell _ _ _ _ (λe=>hk e)⟩
section
variable {rb db:Nat} {l tl:List UInt8} {fl:Bool} {d:Int} {w:World}
def ij (h:RdAt rb db l fl d w):Calls prog 79 #[rb] w λe w'=>e=.returned (.int .i64 (l.length:Nat))/\w=w':=by
 have b:=h.r.c 0;have a:=fU l;go_enter func79,ntmps79;go_wp2_with fail;go_ret;exact⟨rfl,rfl⟩
def qK (l:List UInt8):(bstr l).toList.isEmpty=l.isEmpty:=by
 rw[ByteArray.toList_eq]
 cases l<;>rfl
def s7 (h:RdAt rb db l fl d w):Calls prog 40 #[rb] w λe w'=>e=.returned (.bool (!fl&&l.isEmpty))/\w=w':=by
 have f:=h.r.c 0;have b:=h.r.c 1;have a:=qK l
 cases fl with
 | true =>
  go_enter func40,ntmps40;go_wp2_with fail;go_ret;exact⟨rfl,rfl⟩
 | false =>
  go_enter func40,ntmps40;go_wp2_with fail;all_goals go_ret
  all_goals exact⟨by first|rfl|(simp;done),rfl⟩
def wS (h:RdAt rb db l false d w):Calls prog 81 #[db] w λe w'=>e=.returned (false:Vl)/\w=w':=by
 have r:=h.d.c 0;have b:=η h;clear h;by_cases a:l.length=0
 ·have i:((l.length:Int)==0)=true:=by simp[a]
  have f:l.isEmpty=true:=by cases l<;>simp at a ⊢
  have k:=η f;clear a f;go_enter func81,ntmps81;go_wp2_with (first|(go_at_call 79;refine (ij b).mono ?_;rintro j g ⟨rfl,rfl⟩)|(go_at_call 40;refine (s7 b).mono ?_;rw[k.o];rintro q p ⟨rfl,rfl⟩));go_ret;exact⟨rfl,rfl⟩
 have i:((l.length:Int)==0)=false:=by simpa using a
 clear a;go_enter func81,ntmps81;go_wp2_with (go_at_call 79;refine (ij b).mono ?_;rintro j g ⟨rfl,rfl⟩);go_ret;exact⟨rfl,rfl⟩
def yQ (l:List UInt8) (w:World):Calls prog 31 #[.string (bstr l)] w λe w'=>e=.returned (w:Vl)/\w'=w.alloc (.cells #[.string (bstr l),false] 145):=by
 go_enter func31,ntmps31;go_wp2_with fail;go_ret;exact⟨rfl,rfl⟩
def pP (v:Value) (rb db:Nat) (tl:List UInt8) (d:Int) (w:World) (e:Ending) (w':World):Prop:=e=.returned v/\RdAt rb db tl false d w'/\Stp (rO rb) w w'
def take_any {n:Nat} (h:RdAt rb db l false d w) (hn:n<=l) (hl:l.length<=9223372036854775807):Calls prog 124 #[rb,.int .i64 (n:Nat)] w (pP (.string (bstr (l.take n))) rb db (l.drop n) d w):=by
 have u:=h.r.c 0;have t:=h.r.c 1;have p:w.frozen? rb=false:=Lib.frozen_of_heap h.r 0;have k:=fU l;have g:decide ((n:Int)<0)=false:=decide_eq_false ω;have f:decide ((n:Int)>(l.length:Int))=false:=decide_eq_false ω;have q:=xx l n;have b:=qp l n;rw[fU] at b;have j:(0:Int)<=(n:Int):=ω;have i:(n:Int)<=(l.length:Int):=ω;obtain⟨e,a⟩:=zd2 (h.rest (l':=l.drop n)) (lQ rb w (.string (bstr (l.drop n))) 0);clear h;go_enter func124,ntmps124;go_wp2_with fail;go_ret;exact⟨rfl,e,a⟩
end
def tj {k m:Nat} (h:m<128):varN (k+1) m=[UInt8.ofNat m]:=by rw[varN,if_pos h]
def varN_big {k m:Nat} (h:¬m<128):varN (k+1) m=UInt8.ofNat (m%128+128)::varN k (m/128):=by rw[varN,if_neg h]
def qd {acc x i n:Nat} (hac:acc<128 ^ i) (hx:x*128 ^ i<=n) (hn:n<=9223372036854775807) {r:Nat} (hr:r=acc+x*128 ^ i) (hr2:r<=9223372036854775807:=by omega):bits .or .i64 (acc:Int) (wrap64 (((x:Nat):Int)*2 ^ (7*i)))=((r:Nat):Int):=by
 have b:(128:Nat) ^ i=2 ^ (7*i):=by rw[Nat.pow_mul]
 rw[b] at hac hx hr
 have a:wrap64 (((x:Nat):Int)*2 ^ (7*i))=((x*2 ^ (7*i):Nat):Int):=by
  have:(((x:Nat):Int)*2 ^ (7*i))=((x*2 ^ (7*i):Nat):Int):=by push_cast;rfl
  rw[this];unfold wrap64;omega
 rw[a,i64_or (7*i) acc _ hac (by rw[Nat.mul_mod_left]) ω,hr]
def NumL (n:Nat) (l tl:List UInt8) (v3 v4:Value):Prop:=∃i m acc:Nat,v3=.int .i64 acc/\v4=.int .i64 i/\i<=8/\l.drop i=varN (9-i) m++tl/\n=acc+m*128 ^ i/\acc<128 ^ i/\(0<i->0<m)/\m<128 ^ (9-i)
section
variable {rb db:Nat} {l tl:List UInt8} {fl:Bool} {d:Int} {w:World}
def rnum_nat {n:Nat} (h:RdAt rb db (varN 9 n++tl) false d w) (hn:n<=9223372036854775807) (hl:(varN 9 n++tl).length<=549755813888):Calls prog 78 #[rb] w (pP (.int .i64 (n:Nat)) rb db tl d w):=by
 obtain⟨l,B⟩:=γ (varN 9 n++tl)
 rw[<-B] at h hl;have c0:=h.r.c 0;have f0:w.frozen? rb=false:=Lib.frozen_of_heap h.r 0;have hs:=fU l;obtain⟨R,F⟩:=zd2 (h.rest (l':=tl)) (lQ rb w (.string (bstr tl)) 0);have O:Hid (NumL n l tl (.int .i64 0) (.int .i64 0)):=⟨0,n,0,rfl,rfl,ω,by rw[B];rfl,by simp,by simp,λh=>absurd h ω,by show n<128 ^ 9;omega⟩
 have U:=η hn;clear h B hn;go_enter func78,ntmps78;go_wp2_with fail;go_loopw [3,4] (λv3 v4 wr=>Hid (NumL n l tl v3 v4)/\wr=w) (λ_ v _=>9-(intOf v).toNat)
 case atStart=>exact⟨O.o,rfl⟩
 case round =>
  obtain⟨V,rfl⟩:=hrel;obtain⟨i,m,a,rfl,rfl,L,p,t,j,f,b⟩:=V.o;obtain⟨k,H⟩:∃k,9-i=k+1:=⟨8-i,ω⟩
  have E:i<l.length:=by
   have Y:=congrArg List.length p;rw[List.length_drop,H,μ] at Y;have h3:0<(varN (k+1) m).length:=by rw[varN];split<;>simp
   omega
  have D:128 ^ i<=128 ^ 8:=Nat.pow_le_pow_right π L;have y:m*128 ^ i<=n:=ω;have G:=U.o;have u0:=zT i l.length;have u1:decide ((i:Int)<9)=true:=decide_eq_true ω;have i0:(0:Int)<=(i:Int):=ω;have i1:(i:Int)<(l.length:Int):=ω;have ix:∀W,(Instr.index 9 (.string (bstr l)) (.int .i64 (i:Int))).run prog W=.ok (.int .u8 (l[i].toNat:Int)) W:=λW=>rT l i E W;rw[List.drop_eq_getElem_cons E,H] at p;by_cases J:m<128
  ·rw[tj J,List.singleton_append] at p;injection p with hb ht;have g:l[i].toNat=m:=by rw[hb];simp;omega
   have N:bits .and .u8 (l[i].toNat:Int) 127=(m:Int):=by rw[u8_and127 _ ω ω];omega
   have X:decide ((l[i].toNat:Int)≥128)=false:=decide_eq_false ω;have b1:bits .or .i64 (a:Int) (wrap64 ((m:Int)*2 ^ (7*i)))=((n:Nat):Int):=by rw[qd j y G t]
   have e1:=qp l (i+1);rw[fU,ht] at e1;have i2:((i:Int)+1)<=(l.length:Int):=ω;have i3:(0:Int)<=(i:Int)+1:=ω;have i4:((i:Int)+1).toNat=i+1:=ω;clear hb ht b t j y D;by_cases M:0<i
   ·have hz:¬l[i].toNat=0:=by have:=f M;omega
    clear g f;go_wp2_with fail;go_ret;exact⟨rfl,R.o,F.o⟩
   clear g f;go_wp2_with fail;all_goals go_ret
   all_goals exact⟨rfl,R.o,F.o⟩
  rw[varN_big J,List.cons_append] at p;injection p with hb ht;have g:l[i].toNat=m%128+128:=by rw[hb];simp;omega
  have N:bits .and .u8 (l[i].toNat:Int) 127=((m%128:Nat):Int):=by rw[u8_and127 _ ω ω];omega
  have I:((m%128:Nat):Int)=(m:Int)%128:=ω;rw[I] at N;have X:decide ((l[i].toNat:Int)≥128)=true:=decide_eq_true ω
  have ac:i<=7:=by
   rcases Nat.lt_or_ge i 8 with x|x
   ·omega
   have e:9-i=1:=ω;rw[e] at b;omega
  have q:m*128 ^ i=m%128*128 ^ i+m/128*128 ^ (i+1):=by
   rw[Nat.pow_succ,Nat.mul_comm (128 ^ i) 128,<-Nat.mul_assoc,<-Nat.add_mul];congr 1;omega
  have u:m%128*128 ^ i<=n:=ω
  have b1:bits .or .i64 (a:Int) (wrap64 ((m:Int)%128*2 ^ (7*i)))=((a+m%128*128 ^ i:Nat):Int):=by
   have:=qd (x:=m%128) j u G rfl;rw[I] at this;exact this
  have A:a+m%128*128 ^ i<128 ^ (i+1):=by
   have Z:(m%128+1)*128 ^ i<=128*128 ^ i:=Nat.mul_le_mul_right _ ω;rw[Nat.add_mul,Nat.one_mul] at Z;rw[Nat.pow_succ,Nat.mul_comm (128 ^ i) 128];omega
  have T:Hid (NumL n l tl (.int .i64 ((a+m%128*128 ^ i:Nat):Int)) (.int .i64 ((i:Int)+1))):=by
   refine⟨i+1,m/128,_,rfl,by simp,ω,?_,ω,A,λ_=>ω,?_⟩
   ·have e:9-(i+1)=k:=ω;rw[e,<-ht]
   have e:9-(i+1)=k:=ω;rw[e];rw[H,Nat.pow_succ] at b;omega
  clear hb ht b t j y D f A q u I g;go_wp2_with fail;exact⟨⟨T.o,by first|rfl|trivial⟩,by simp[intOf];omega⟩
def nOk (n:Int):Prop:=0<=n/\n<=9223372036854775807
def dH {n:Int} (h:RdAt rb db (numB n++tl) false d w) (hn:nOk n) (hl:(numB n++tl).length<=549755813888):Calls prog 78 #[rb] w (pP (n:Vl) rb db tl d w):=by
 obtain⟨k,rfl⟩:∃k:Nat,n=(k:Int):=⟨n.toNat,by have:=hn.1;omega⟩
 have e:numB (k:Int)=varN 9 k:=by unfold numB;rw[if_neg ω];rfl
 rw[e] at h hl;exact rnum_nat h (by have:=hn.2;omega) hl
def cM {s:ByteArray} (h:RdAt rb db (aM s++tl) false d w) (hl:(aM s++tl).length<=549755813888):Calls prog 82 #[rb] w (pP (s:Vl) rb db tl d w):=by
 have e:aM s++tl=numB (s.size:Nat)++(s.data.toList++tl):=by unfold aM;rw[χ]
 rw[e] at h hl;have q:=η hl;have f:s.data.toList=s.size:=by simp
 have b:bstr ((s.data.toList++tl).take s.size)=s:=by
  rw[List.take_append_of_le_length ω,List.take_of_length_le ω];rfl
 have l:(s.data.toList++tl).drop s.size=tl:=by
  rw[List.drop_append_of_le_length ω,ε ω,List.nil_append]
 obtain⟨r,u,t⟩:=zd3 h b l
 have a:Hid (s.size<=(s.data.toList++tl).length/\(s.data.toList++tl).length<=9223372036854775807):=by
  show _/\_;simp only[μ] at hl ⊢;omega
 have p:Hid (nOk ((s.size:Nat):Int)):=by
  show nOk _;unfold nOk;simp only[μ] at hl;omega
 clear h hl e f b l;go_enter func82,ntmps82;go_wp2_with (first|(go_at_call 78;refine (dH r p q).mono ?_;rintro y x ⟨rfl,k,i⟩)|(go_at_call 124;refine (take_any k a.1 a.2).mono ?_;rw[u.o,t.o];rintro b v ⟨rfl,j,g⟩));go_ret;exact⟨rfl,j,i.trans g⟩
def iOk (n:Int):Prop:=-1152921504606846976<=n/\n<=1152921504606846976
def ox {n:Int} (h:RdAt rb db (intB n++tl) false d w) (hn:iOk n) (hl:(intB n++tl).length<=549755813888):Calls prog 126 #[rb] w (pP (n:Vl) rb db tl d w):=by
 have x:=hn.1;have v:=hn.2;have D:decide (n < -1152921504606846976)=false:=decide_eq_false ω;have B:decide (n>1152921504606846976)=false:=decide_eq_false ω;by_cases p:n<0
 ·have e:intB n=numB (-2*n-1):=by unfold intB;rw[if_neg ω,if_pos p]
  rw[e] at h hl;obtain⟨z,a⟩:=γ (-2*n-1)
  rw[<-a] at h hl;obtain⟨j,i⟩:=zd2 h hl;have g:Hid (nOk z):=by show nOk _;unfold nOk;omega
  have r:0<=z:=ω;have q:z<=9223372036854775807:=ω;have l:z/2=-n-1:=ω;have t:z%2=1:=ω;have k:IntKind.i64.wrap (-(-n-1))=-(-n-1):=by rw[IntKind.wrap_i64];omega
  have A:IntKind.i64.wrap (-(-n-1)-1)=n:=by rw[IntKind.wrap_i64];omega
  have y:-(-n-1)-1=n:=ω;clear h hl e a hn;go_enter func126,ntmps126;go_wp2_with (go_at_call 78;refine (dH j g i).mono ?_;rintro u k ⟨rfl,f,b⟩);go_ret;exact⟨by first|rfl|(congr 1;congr 1;omega),f,b⟩
 have e:intB n=numB (2*n):=by unfold intB;rw[if_neg ω,if_neg p]
 rw[e] at h hl;obtain⟨z,a⟩:=γ (2*n)
 rw[<-a] at h hl;obtain⟨j,i⟩:=zd2 h hl;have g:Hid (nOk z):=by show nOk _;unfold nOk;omega
 have r:0<=z:=ω;have q:z<=9223372036854775807:=ω;have l:z/2=n:=ω;have t:z%2=0:=ω;clear h hl e a hn;go_enter func126,ntmps126;go_wp2_with (go_at_call 78;refine (dH j g i).mono ?_;rintro u k ⟨rfl,f,b⟩);go_ret;exact⟨by show Ending.returned (.int .i64 (z/2))=_;rw[l],f,b⟩
end
variable {cs':List Value} {r_:Bool}
def v9 {a b:Fn} {w:World} (hq_:gY a b=r_) (hr:FnR w (lo w) cs a) (hr':FnR w (lo w) cs' b):Calls prog 53 #[.agg cs.toArray,.agg cs'.toArray] w (aE r_ w):=by
 subst hq_;obtain⟨A,q,k,s,u,B,c,o,x,m,r,e,D,d,rfl,-,-,X,W,V⟩:=jB hr;obtain⟨A',q',k',s',u',B',c',o',x',m',r',e',D',d',rfl,-,-,M,L,J⟩:=jB hr';obtain⟨i,v⟩:=γ (bEq a.name b.name)
 obtain⟨I,t⟩:=γ (eqL cy a.params b.params)
 obtain⟨H,p⟩:=γ (bO a.result b.result)
 obtain⟨h,l⟩:=γ (a.slots==b.slots)
 obtain⟨G,j⟩:=γ (df a.body b.body)
 have HV:Hid (gY a b=(i&&(I&&(H&&(h&&(G)))))):=by show _=_;rw[v,t,p,l,j];rfl
 have ak:(ByteArray.toList a.name==ByteArray.toList b.name)=i:=v.symm;obtain⟨aa,Z⟩:=zd2 t.symm p.symm;have aj:(a.slots==b.slots)=h:=l.symm;obtain⟨Y,ad⟩:=zd2 j.symm X;have T:=η M;have ac:=η W;have R:=η L;have ab:=η V;have O:=η J;clear v t p l j X M W L V J
 rcases ch5 i I H h G with rfl|⟨rfl,rfl⟩|⟨rfl,rfl,rfl⟩|⟨rfl,rfl,rfl,rfl⟩|⟨rfl,rfl,rfl,rfl,rfl⟩|⟨rfl,rfl,rfl,rfl,rfl⟩ <;>
  (go_enter func53,ntmps53;go_wp2_with (first|(go_at_call 110;refine (eq aa (SlR.to' ad (ae ζ2) (λ_ _ x=>x.to (ae ζ2))) (SlR.to' T (ae ζ2) (λ_ _ x=>x.to (ae ζ2)))).mono ?_;rintro an F ⟨rfl,f⟩;have ap:=jJ f;have y:w.heap.size+1<F:=(by have:=f.size;simp at this;omega);have ah:w.heap.size<F:=Nat.lt_of_succ_lt y)|(go_at_call 111;refine (nZ Z (ac.to (ae (bel ζ2 f))) (R.to (ae (bel ζ2 f)))).mono ?_;rintro am E ⟨rfl,g⟩;have ao:=jJ g;have U:w.heap.size+1<E:=ρ y g.size;have ag:w.heap.size<E:=Nat.lt_of_succ_lt U)|(go_at_call 112;refine (jM Y (ab.to (ae (bel (bel ζ2 f) g))) (O.to (ae (bel (bel ζ2 f) g)))).mono ?_;rintro al ai ⟨rfl,N⟩));go_ret;exact⟨by rw[HV.o];first|rfl|(simp;done),by first|exact (bel (bel (bel ζ2 f) g) N)|exact (bel (bel ζ2 f) g)|exact (bel ζ2 f)|exact ζ2⟩)
def vW {a b:Vr} {w:World} (hq_:gW a b=r_) (hr:VrR w (lo w) cs a) (hr':VrR w (lo w) cs' b):Calls prog 114 #[.agg cs.toArray,.agg cs'.toArray] w (aE r_ w):=by
 subst hq_;obtain⟨k,s,u,B,c,o,x,m,r,e,D,d,rfl,-,H,G⟩:=mu hr;obtain⟨k',Z,Y,B',c',o',X,m',r',e',D',d',rfl,-,v,t⟩:=mu hr';obtain⟨g,j⟩:=γ (bEq a.name b.name)
 obtain⟨q,i⟩:=γ (bO a.type b.type)
 obtain⟨p,h⟩:=γ (df a.init b.init)
 have N:Hid (gW a b=(g&&(q&&(p)))):=by show _=_;rw[j,i,h];rfl
 have T:(ByteArray.toList a.name==ByteArray.toList b.name)=g:=j.symm;obtain⟨J,I,M⟩:=zd3 i.symm h.symm H;have E:=η v;have L:=η G;have A:=η t;clear j i h H v G t
 rcases ch3 g q p with rfl|⟨rfl,rfl⟩|⟨rfl,rfl,rfl⟩|⟨rfl,rfl,rfl⟩ <;>
  (go_enter func114,ntmps114;go_wp2_with (first|(go_at_call 111;refine (nZ J (M.to (ae ζ2)) (E.to (ae ζ2))).mono ?_;rintro V l ⟨rfl,f⟩;have W:=jJ f;have F:w.heap.size+1<l:=(by have:=f.size;simp at this;omega);have O:w.heap.size<l:=Nat.lt_of_succ_lt F)|(go_at_call 112;refine (jM I (L.to (ae (bel ζ2 f))) (A.to (ae (bel ζ2 f)))).mono ?_;rintro U R ⟨rfl,y⟩));go_ret;exact⟨by rw[N.o];first|rfl|(simp;done),by first|exact (bel (bel ζ2 f) y)|exact (bel ζ2 f)|exact ζ2⟩)
def vZ {a b:Hd} {w:World} (hq_:gX a b=r_) (hr:HdR w (lo w) cs a) (hr':HdR w (lo w) cs' b):Calls prog 116 #[.agg cs.toArray,.agg cs'.toArray] w (aE r_ w):=by
 subst hq_;obtain⟨A,q,D,d,rfl,-,-,F,E⟩:=mB hr;obtain⟨Z,W,Y,X,rfl,-,-,t,r⟩:=mB hr';obtain⟨f,j⟩:=γ (bEq a.msg b.msg)
 obtain⟨p,i⟩:=γ (eqL cy a.params b.params)
 obtain⟨e,h⟩:=γ (a.slots==b.slots)
 obtain⟨l,g⟩:=γ (eqL cU a.body b.body)
 have L:Hid (gX a b=(f&&(p&&(e&&(l))))):=by show _=_;rw[j,i,h,g];rfl
 have R:(ByteArray.toList a.msg==ByteArray.toList b.msg)=f:=j.symm;have H:=η i.symm;have O:(a.slots==b.slots)=e:=h.symm;obtain⟨G,J⟩:=zd2 g.symm F;have y:=η t;have I:=η E;have v:=η r;clear j i h g F t E r
 rcases ch4 f p e l with rfl|⟨rfl,rfl⟩|⟨rfl,rfl,rfl⟩|⟨rfl,rfl,rfl,rfl⟩|⟨rfl,rfl,rfl,rfl⟩ <;>
  (go_enter func116,ntmps116;go_wp2_with (first|(go_at_call 110;refine (eq H (SlR.to' J (ae ζ2) (λ_ _ x=>x.to (ae ζ2))) (SlR.to' y (ae ζ2) (λ_ _ x=>x.to (ae ζ2)))).mono ?_;rintro U k ⟨rfl,c⟩;have V:=jJ c;have B:w.heap.size+1<k:=(by have:=c.size;simp at this;omega);have M:w.heap.size<k:=Nat.lt_of_succ_lt B)|(go_at_call 149;refine (qD G (SlR.to' I (ae (bel ζ2 c)) (λ_ _ x=>x.to (ae (bel ζ2 c)))) (SlR.to' v (ae (bel ζ2 c)) (λ_ _ x=>x.to (ae (bel ζ2 c))))).mono ?_;rintro T N ⟨rfl,u⟩));go_ret;exact⟨by rw[L.o];first|rfl|(simp;done),by first|exact (bel (bel ζ2 c) u)|exact (bel ζ2 c)|exact ζ2⟩)
def we {a b:Ac} {w:World} (hq_:gZ a b=r_) (hr:AcR w (lo w) cs a) (hr':AcR w (lo w) cs' b):Calls prog 55 #[.agg cs.toArray,.agg cs'.toArray] w (aE r_ w):=by
 subst hq_;obtain⟨A,q,B,c,D,d,rfl,-,-,h,g,h3⟩:=jD hr;obtain⟨A',q',B',c',D',d',rfl,-,-,T,R,O⟩:=jD hr';obtain⟨p,G⟩:=γ (bEq a.name b.name)
 obtain⟨N,F⟩:=γ (eqL cy a.params b.params)
 obtain⟨l,E⟩:=γ (a.slots==b.slots)
 obtain⟨k,y⟩:=γ (a.policy==b.policy)
 obtain⟨j,v⟩:=γ (a.most==b.most)
 obtain⟨M,u⟩:=γ (eqL gW a.vars b.vars)
 obtain⟨L,t⟩:=γ (eqL gX a.on b.on)
 have HV:Hid (gZ a b=(p&&(N&&(l&&(k&&(j&&(M&&(L)))))))):=by show _=_;rw[G,F,E,y,v,u,t];rfl
 have ap:(ByteArray.toList a.name==ByteArray.toList b.name)=p:=G.symm;have ad:=η F.symm;have ao:(a.slots==b.slots)=l:=E.symm;have an:(a.policy==b.policy)=k:=y.symm;have am:(a.most==b.most)=j:=v.symm;obtain⟨ac,ab,ah⟩:=zd3 u.symm t.symm h;have Y:=η T;have ag:=η g;have X:=η R;have af:=η h3;have V:=η O;clear G F E y v u t h T g R h3 O
 rcases ch7 p N l k j M L with rfl|⟨rfl,rfl⟩|⟨rfl,rfl,rfl⟩|⟨rfl,rfl,rfl,rfl⟩|⟨rfl,rfl,rfl,rfl,rfl⟩|⟨rfl,rfl,rfl,rfl,rfl,rfl⟩|⟨rfl,rfl,rfl,rfl,rfl,rfl,rfl⟩|⟨rfl,rfl,rfl,rfl,rfl,rfl,rfl⟩ <;>
  (go_enter func55,ntmps55;go_wp2_with (first|(go_at_call 110;refine (eq ad (SlR.to' ah (ae ζ2) (λ_ _ x=>x.to (ae ζ2))) (SlR.to' Y (ae ζ2) (λ_ _ x=>x.to (ae ζ2)))).mono ?_;rintro au J ⟨rfl,e⟩;have aw:=jJ e;have H:w.heap.size+1<J:=(by have:=e.size;simp at this;omega);have ak:w.heap.size<J:=Nat.lt_of_succ_lt H)|(go_at_call 113;refine (fB ac (eqf_113 (SlR.to' ag (ae (bel ζ2 e)) (λ_ _ x=>x.to (ae (bel ζ2 e)))) (SlR.to' X (ae (bel ζ2 e)) (λ_ _ x=>x.to (ae (bel ζ2 e)))) (λi hi hi' _ _ W r hq h g=>vW hq h g))).mono ?_;rintro ar I ⟨rfl,f⟩;have av:=jJ f;have Z:w.heap.size+1<I:=ρ H f.size;have aj:w.heap.size<I:=Nat.lt_of_succ_lt Z)|(go_at_call 115;refine (fB ab (eqf_115 (SlR.to' af (ae (bel (bel ζ2 e) f)) (λ_ _ x=>x.to (ae (bel (bel ζ2 e) f)))) (SlR.to' V (ae (bel (bel ζ2 e) f)) (λ_ _ x=>x.to (ae (bel (bel ζ2 e) f)))) (λi hi hi' _ _ W r hq h g=>vZ hq h g))).mono ?_;rintro aq al ⟨rfl,U⟩));go_ret;exact⟨by rw[HV.o];first|rfl|(simp;done),by first|exact (bel (bel (bel ζ2 e) f) U)|exact (bel (bel ζ2 e) f)|exact (bel ζ2 e)|exact ζ2⟩)
def q7 {w:World} {P:Nat->Prop} {p:Pg} (h:PgR w P cs p):∃A0 q0 A1 q1 A2 q2 A3 q3,cs=[.slice A0 p.types q0,.slice A1 p.effects q1,.slice A2 p.funs q2,.slice A3 p.actors q3]/\SlR w P 3 (DclR w P) (.slice A0 p.types q0) p.types/\SlR w P 5 (EffR w P) (.slice A1 p.effects q1) p.effects/\SlR w P 11 (FnR w P) (.slice A2 p.funs q2) p.funs/\SlR w P 7 (AcR w P) (.slice A3 p.actors q3) p.actors:=by
 obtain⟨a,b,c,d,rfl,i,g,f,e⟩:=h;obtain⟨A0,q0,rfl⟩:=i.form;obtain⟨A1,q1,rfl⟩:=g.form;obtain⟨A2,q2,rfl⟩:=f.form;obtain⟨A3,q3,rfl⟩:=e.form;exact⟨A0,q0,A1,q1,A2,q2,A3,q3,rfl,i,g,f,e⟩
def uR {a b:Pg} {w:World} (hq_:rC a b=r_) (hr:PgR w (lo w) cs a) (hr':PgR w (lo w) cs' b):Calls prog 13 #[.agg cs.toArray,.agg cs'.toArray] w (aE r_ w):=by
 subst hq_;obtain⟨A0,q0,A1,q1,A2,q2,A3,q3,rfl,T,g,f,R⟩:=q7 hr;obtain⟨az,am,ay,al,ax,ak,aw,aj,rfl,H,G,F,E⟩:=q7 hr';obtain⟨D,l⟩:=γ (eqL eP a.types b.types)
 obtain⟨B,k⟩:=γ (eqL eO a.effects b.effects)
 obtain⟨A,j⟩:=γ (eqL gY a.funs b.funs)
 obtain⟨y,h⟩:=γ (eqL gZ a.actors b.actors)
 have HV:Hid (rC a b=(D&&(B&&(A&&(y))))):=by show _=_;rw[l,k,j,h];rfl
 obtain⟨Y,X,V,U,ac⟩:=zd5 l.symm k.symm j.symm h.symm T;have N:=η H;have ab:=η g;have M:=η G;have aa:=η f;have L:=η F;have Z:=η R;have J:=η E;clear l k j h T H g G f F R E
 rcases ch4 D B A y with rfl|⟨rfl,rfl⟩|⟨rfl,rfl,rfl⟩|⟨rfl,rfl,rfl,rfl⟩|⟨rfl,rfl,rfl,rfl⟩ <;>
  (go_enter func13,ntmps13;go_wp2_with (first|(go_at_call 48;refine (fB Y (eqf_48 (SlR.to' ac (ae ζ2) (λ_ _ x=>x.to (ae ζ2))) (SlR.to' N (ae ζ2) (λ_ _ x=>x.to (ae ζ2))) (λi hi hi' _ _ W r hq g f=>tJ hq g f))).mono ?_;rintro aq v ⟨rfl,c⟩;have av:=jJ c;have q:w.heap.size+1<v:=(by have:=c.size;simp at this;omega);have ah:w.heap.size<v:=Nat.lt_of_succ_lt q)|(go_at_call 50;refine (fB X (eqf_50 (SlR.to' ab (ae (bel ζ2 c)) (λ_ _ x=>x.to (ae (bel ζ2 c)))) (SlR.to' M (ae (bel ζ2 c)) (λ_ _ x=>x.to (ae (bel ζ2 c)))) (λi hi hi' _ _ W r hq g f=>tI hq g f))).mono ?_;rintro ap u ⟨rfl,d⟩;have au:=jJ d;have p:w.heap.size+1<u:=ρ q d.size;have ag:w.heap.size<u:=Nat.lt_of_succ_lt p)|(go_at_call 52;refine (fB V (eqf_52 (SlR.to' aa (ae (bel (bel ζ2 c) d)) (λ_ _ x=>x.to (ae (bel (bel ζ2 c) d)))) (SlR.to' L (ae (bel (bel ζ2 c) d)) (λ_ _ x=>x.to (ae (bel (bel ζ2 c) d)))) (λi hi hi' _ _ W r hq g f=>v9 hq g f))).mono ?_;rintro ao t ⟨rfl,e⟩;have ar:=jJ e;have O:w.heap.size+1<t:=ρ p e.size;have af:w.heap.size<t:=Nat.lt_of_succ_lt O)|(go_at_call 54;refine (fB U (eqf_54 (SlR.to' Z (ae (bel (bel (bel ζ2 c) d) e)) (λ_ _ x=>x.to (ae (bel (bel (bel ζ2 c) d) e)))) (SlR.to' J (ae (bel (bel (bel ζ2 c) d) e)) (λ_ _ x=>x.to (ae (bel (bel (bel ζ2 c) d) e)))) (λi hi hi' _ _ W r hq g f=>we hq g f))).mono ?_;rintro an ai ⟨rfl,I⟩));go_ret;exact⟨by rw[HV.o];first|rfl|(simp;done),by first|exact (bel (bel (bel (bel ζ2 c) d) e) I)|exact (bel (bel (bel ζ2 c) d) e)|exact (bel (bel ζ2 c) d)|exact (bel ζ2 c)|exact ζ2⟩)
end Go.Proofs.YtjohpidklbhmcaaGreatDoor
