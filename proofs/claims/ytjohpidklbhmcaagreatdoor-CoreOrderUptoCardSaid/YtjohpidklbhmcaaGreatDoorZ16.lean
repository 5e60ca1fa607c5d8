/- Core -/
import Derived.Test.YtjohpidklbhmcaaGreatDoorZ13
import Derived.Lib.VarintBits
import Derived.Test.YtjohpidklbhmcaaGreatDoorZ9
import Derived.Test.YtjohpidklbhmcaaGreatDoorZ7
namespace Go.Proofs.YtjohpidklbhmcaaGreatDoor
set_option linter.all false
set_option maxRecDepth 100000
set_option maxHeartbeats 2000000
section
open Proofs.Tryz RowKit Maps WideMaps ChangeMaps
variable {σ:Type} {N:Nm σ} {B b:Nat} {fv nv:Value} {rel:À->σ->Nat->Prop} {E:WEnv N B b fv nv rel} {out:List UInt8} {st:σ} {w:À}
def pf {n:Int} (h:0<=n):0<(numB n).length:=by
 refine List.length_pos_iff.2 ?_;unfold numB;rw[if_neg ω];show varN 9 _≠[];rw[varN];split<;>simp
def kt {s:Ê} (h:WS E out st w) (hlen:out<=wTop) (hs:s.size<=wTop):Calls prog 64 #[b,s] w (λe w'=>e=.returned (.tuple #[])/\WS E (out++aM s) st w'/\Ch (wM B b) w w'/\rel w' st out):=
 (sm h.wr (by unfold wTop at hlen hs;omega)).mono λ_ _ ⟨he,hw,hc⟩=>⟨he,h.next hw hc,hc.wM,E.keep _ _ _ _ h.rel hc⟩
def w_numR {n:Int} (h:WrAt B b fv nv out w) (hr:rel w st (out+1)) (h1:i64 n) (h0:0<=n) (hlen:out<=wTop):Calls prog 29 #[b,n] w (bG E (out++numB n) st w):=
 (qN h h1.1 h1.2 (by unfold wTop at hlen;omega)).mono λ_ _ ⟨he,hw,hc⟩=>⟨he,⟨hw,E.mono _ _ _ _ (E.keep _ _ _ _ hr hc) (by have:=pf h0;rw[μ];omega)⟩,hc.wM⟩
structure NmS (b g i:Nat) (nv sv:Value) (X:À):Prop where
 f:X.cell? ⟨b,3,none⟩=some nv
 s:X.cell? ⟨g,i,none⟩=some sv
def aS (s:Ê):s.size<=(aM s).length/\0<(aM s).length:=by
 have a:0<(numB (s.size:Nat)).length:=pf ω;unfold aM;rw[μ];have:s.data.toList=s.size:=by simp
 omega
def wtyp_any (n:Nat):∀(cs:List Value) (t:Ty) (w:À) (st:σ) (out:List UInt8),SizeOf.sizeOf t<=n->TyR w (uo (wM B b) w) cs t->WS E out st w->out.length+(wTy N st t).1.length<=wTop->Calls prog 68 #[b,cs.toArray] w (bG E (out++(wTy N st t).1) (wTy N st t).2 w):=by
 induction n with
 | zero=>intro cs t w st out hn;cases t;simp at hn
 | succ n ih =>
  intro cs t w st out hn u r x;obtain⟨k,s,a,A,cap,rfl,rfl,aj,ae,ha⟩:=ap u
  have IH:Hid (∀(i:Nat) (h:i<a.length) (cs:List Value) (w:À) (st:σ) (out:List UInt8),TyR w (uo (wM B b) w) cs a[i]->WS E out st w->out.length+(wTy N st a[i]).1.length<=wTop->Calls prog 68 #[b,cs.toArray] w (bG E (out++(wTy N st a[i]).1) (wTy N st a[i]).2 w)):=λi h cs w st out u r hl =>
   ih cs a[i] w st out (by have:=List.sizeOf_lt_of_mem (ν h);simp at hn;omega) u r hl
  obtain⟨a4,a7,HA⟩:=zd3 ae aj ha;have U:Hid ((wTy N st (.mk k s a)).1=numB k++(aM s++(ah (wTy N) (if k=6 then N.nam st s else st) a).1)/\(wTy N st (.mk k s a)).2=(ah (wTy N) (if k=6 then N.nam st s else st) a).2):=⟨by rw[wTy,oZ];rfl,by rw[wTy,oZ];rfl⟩
  have g:Hid (out.length+((numB k).length+((aM s).length+(ah (wTy N) (if k=6 then N.nam st s else st) a).1.length))<=wTop):=by show _<=_;rw[U.o.1] at x;simpa only[μ] using x
  have al:=η (aS s);have H:w≠b:=λe=>Nat.lt_irrefl b (e▸r.wr.lt);obtain⟨W1,I,B1,D⟩:=κ w #[k,s,.slice A a cap] 40
  have ao:Hid (Ch (wM B b) w W1):=Ch.of_below B1;have Y:Hid (WS E out st W1):=r.bel B1;have ak:=η I;clear r I B1 ih hn u ae aj ha x;go_in;go_upto_region 1 with fail;rw[<-ak.o];clear ak;have j:=D.c 0;go_wp2_with fail;refine (eG Y a7 (by have:=g.o;omega)).mono ?_;rintro e2 W2 ⟨rfl,ag,T⟩;obtain⟨V,y,an⟩:=zd3 ag (ax Y T D H rfl) (ao.trans T);clear ag T j D Y ao;have j:=y.c 1;go_wp2_with fail;refine (kt V (Qm g) (by have:=g.o;have:=al.1;omega)).mono ?_;rintro e3 W3 ⟨rfl,af,R,ai⟩;have a1:=η ai;clear ai;obtain⟨q,d,J⟩:=zd3 af (ax V R y H rfl) (an.trans R);clear af R j y V an;by_cases L:k=6
  ·have t6:(k==6)=true:=by simpa using L
   have Z:Hid ((if k=6 then N.nam st s else st)=N.nam st s):=by show _=_;rw[if_pos L]
   clear L;have j:=d.c 0;obtain⟨l,p,rfl,ba,G⟩:=E.nam;have a6:=η G;clear G;have KS:Hid (∀X,Ch (wM B b) W3 X->WrAt B b fv (.func (.func l) #[] p) (out++numB k++aM s) X->NmS b w 1 (.func (.func l) #[] p) (s:Vl) X):=λX hc hw=>⟨hw.fn.2,(ax q hc d H rfl).cell 1⟩
   have bd:∀X,NmS b w 1 (.func (.func l) #[] p) (s:Vl) X->X.cell? ⟨b,3,none⟩=some (.func (.func l) #[] p):=λX h=>h.1;have bc:∀X,NmS b w 1 (.func (.func l) #[] p) (s:Vl) X->X.cell? ⟨w,1,none⟩=some (s:Vl):=λX h=>h.2;go_upto_region 4 with fail
   go_region_held3 (λX=>NmS b w 1 (.func (.func l) #[] p) (s:Vl) X) (first|exact KS _ (Ch.of_below (ad _)) (q.wr.bel (ad _))|exact KS _ ((Ch.of_below (ad _)).trans O) M)
    (first|(refine (a6 _ _ _ _ _ a4 (Qm g) (q.wr.bel (ad _)) (E.keep _ _ _ _ a1 (Ch.of_below (ad _)))).mono ?_;rintro e4 W4 ⟨rfl,M,aq,O⟩))
   have v:=(Ch.of_below (may:=wM B b) (ad W3)).trans O;have F:WS E (out++numB k++aM s) (N.nam st s) W4:=⟨M,E.mono _ _ _ _ aq (by have:=al.2;simp only[μ];omega)⟩
   obtain⟨a5,ar,am⟩:=zd3 F (ax q v d H rfl) (J.trans v);clear F v j d q J;have j:=ar.c 2;go_wp2_with fail;refine (wl_119 (f:=wTy N) (TysR.to HA am.sub) a5 (by have:=g.o;rw[Z.o] at this;simp only[μ];omega) (λi hi cs W st out u r hl=>IH i hi cs W st out u r hl)).mono ?_;rintro e5 W5 ⟨rfl,av,aw⟩;go_wp2;go_end0;refine⟨rfl,?_,am.trans aw⟩;rw[U.o.1,U.o.2,Z.o];simpa only[χ] using av
  have t6:(k==6)=false:=by simpa using L
  have Z:Hid ((if k=6 then N.nam st s else st)=st):=by show _=_;rw[if_neg L]
  clear L;have j:=d.c 0;have j:=d.c 2;go_wp2_with fail;refine (wl_119 (f:=wTy N) (TysR.to HA J.sub) q (by have:=g.o;rw[Z.o] at this;simp only[μ];omega) (λi hi cs W st out u r hl=>IH i hi cs W st out u r hl)).mono ?_;rintro e4 W4 ⟨rfl,F,v⟩;go_wp2;go_end0;refine⟨rfl,?_,J.trans v⟩;rw[U.o.1,U.o.2,Z.o];simpa only[χ] using F
variable {cs:List Value}
def w_typ {t:Ty} (hr:TyR w (uo (wM B b) w) cs t) (hs:WS E out st w) (hlen:out.length+(wTy N st t).1.length<=wTop):Calls prog 68 #[b,cs.toArray] w (bG E (out++(wTy N st t).1) (wTy N st t).2 w):=wtyp_any _ cs t w st out (υ _) hr hs hlen
variable {σ:Type} {N:Nm σ} {B b:Nat} {fv nv:Value} {rel:À->σ->Nat->Prop} {E:WEnv N B b fv nv rel} {out:List UInt8} {st:σ} {w:À}
variable {w':À} {cs:Array Value}
def vk {w:À} (hc:Ch (wM B b) w w') {g:Nat} {t:TypeId} (hg:Hs w g t cs) (hb:g≠b) (ht:(t==5||(t==3||t==104))=false):Hs w' g t cs:=
 hc.block _ _ hg λhm=>by
  rcases hm.2 with h|h
  ·exact hb h
  rw[show wTag (Obj.cells cs t (0,0))=(t==5||(t==3||t==104)) from rfl,ht] at h;exact absurd h Θ
section
variable {op n m:Int} {s:Ê} {a:List Ex}
def su (h:jb op=true) (h2:gu op=false):(wEx N st (.mk op n m s a)).1=(numB op++(intB (N.num st n).1++(intB m++(aM s++(ah (wEx N) (N.num st n).2 a).1))))/\(wEx N st (.mk op n m s a)).2=(ah (wEx N) (N.num st n).2 a).2:=by
 rw[wEx,lM];unfold eNum eNam;rw[h,h2];exact⟨rfl,rfl⟩
def uF (h:jb op=false) (h2:gu op=true):(wEx N st (.mk op n m s a)).1=(numB op++(intB n++(intB m++(aM s++(ah (wEx N) (N.nam st s) a).1))))/\(wEx N st (.mk op n m s a)).2=(ah (wEx N) (N.nam st s) a).2:=by
 rw[wEx,lM];unfold eNum eNam;rw[h,h2];exact⟨rfl,rfl⟩
def wEx_else (h:jb op=false) (h2:gu op=false):(wEx N st (.mk op n m s a)).1=(numB op++(intB n++(intB m++(aM s++(ah (wEx N) st a).1))))/\(wEx N st (.mk op n m s a)).2=(ah (wEx N) st a).2:=by
 rw[wEx,lM];unfold eNum eNam;rw[h,h2];exact⟨rfl,rfl⟩
end
def vA (k:Nat):∀(cs:List Value) (t:Ex) (w:À) (st:σ) (out:List UInt8),SizeOf.sizeOf t<=k->ExR w (uo (wM B b) w) cs t->WS E out st w->out.length+(wEx N st t).1.length<=wTop->Calls prog 69 #[b,cs.toArray] w (bG E (out++(wEx N st t).1) (wEx N st t).2 w):=by
 induction k with
 | zero=>intro cs t w st out hn;cases t;simp at hn
 | succ k ih =>
  intro cs t w st out hn hr O D;obtain⟨op,n,m,s,a,A,cap,rfl,rfl,b3,b2,ha⟩:=dJ hr
  have IH:Hid (∀(i:Nat) (h:i<a.length) (cs:List Value) (w:À) (st:σ) (out:List UInt8),ExR w (uo (wM B b) w) cs a[i]->WS E out st w->out.length+(wEx N st a[i]).1.length<=wTop->Calls prog 69 #[b,cs.toArray] w (bG E (out++(wEx N st a[i]).1) (wEx N st a[i]).2 w)):=λi h cs w st out hr O hl =>
   ih cs a[i] w st out (by have:=List.sizeOf_lt_of_mem (ν h);simp at hn;omega) hr O hl
  obtain⟨b4,ao,HA,a2⟩:=zd4 b2 b3 ha (aS s);clear ih hn hr b2 b3 ha;by_cases bh:op=33
  ·subst bh;have HV:Hid ((wEx N st (.mk 33 n m s a)).1=(numB 33++(intB (N.num st n).1++(intB m++(aM s++(ah (wEx N) (N.num st n).2 a).1))))/\(wEx N st (.mk 33 n m s a)).2=(ah (wEx N) (N.num st n).2 a).2):=su π π;have d:Hid (out.length+((numB 33).length+((intB (N.num st n).1).length+((intB m).length+((aM s).length+(ah (wEx N) (N.num st n).2 a).1.length))))<=wTop):=by show _<=_;rw[HV.o.1] at D;simpa only[μ] using D
   have p:w≠b:=λe=>Nat.lt_irrefl b (e▸O.wr.lt);obtain⟨U,r,B1,l⟩:=κ w #[(33:Int),n,m,s,.slice A a cap] 43
   have ag:Hid (Ch (wM B b) w U):=Ch.of_below B1;have v:Hid (WS E out st U):=O.bel B1;have aa:=η r;clear O r B1 D;go_in;go_upto_region 1 with fail;rw[<-aa.o];clear aa;have g:=l.c 0;have F:=l.c 1;obtain⟨ca,cb,rfl,be,ar⟩:=E.num;have a5:=η ar;clear ar;have bk:=v.wr.fn.1;go_wp2_with fail;refine (a5 _ _ _ _ _ ao.2.1 (by have:=d.o;omega) v.wr v.rel).mono ?_;rintro e2 W2 ⟨rfl,a9,a6,a8,J⟩;obtain⟨bp,bb,bc,x,af⟩:=zd5 a9 a6 a8 (ax v J l p rfl) (ag.trans J);clear a9 a6 a8 J l ag v g F bk;have g:=x.c 0;go_wp2_with fail;refine (w_numR (E:=E) bb bc (by unfold i64;decide) π (by have:=d.o;omega)).mono ?_;rintro e3 W3 ⟨rfl,Z,I⟩;obtain⟨M,u,ae⟩:=zd3 Z (vk I x p rfl) (af.trans I);clear Z I x af bb bc g;go_wp2_with fail;refine (jX M bp (Qm d)).mono ?_;rintro e4 W4 ⟨rfl,Y,H⟩;obtain⟨L,q,ac⟩:=zd3 Y (ax M H u p rfl) (ae.trans H);clear Y H u M ae;have g:=q.c 2;go_wp2_with fail;refine (jX L ao.2.2 (Qm d)).mono ?_;rintro e5 W5 ⟨rfl,V,G⟩;obtain⟨y,j,ab⟩:=zd3 V (ax L G q p rfl) (ac.trans G);clear V G g q L ac;have g:=j.c 3;go_wp2_with fail;refine (kt y (Qm d) (by have:=d.o;have:=a2.1;omega)).mono ?_;rintro e6 W6 ⟨rfl,ai,T,a7⟩;clear a7;obtain⟨a3,R,ap⟩:=zd3 ai (ax y T j p rfl) (ab.trans T);clear ai T g j y ab;have g:=R.c 0
   have g:=R.c 4;go_wp2_with fail;refine (wl_121 (f:=wEx N) (ExsR.to HA ap.sub) a3 (Qm d) (λi hi cs W st out hr O hl=>IH i hi cs W st out hr O hl)).mono ?_;rintro e7 W7 ⟨rfl,az,a1⟩;go_wp2;go_end0;refine⟨rfl,?_,ap.trans a1⟩;rw[HV.o.1,HV.o.2];simpa only[χ] using az
  by_cases bg:op=34
  ·subst bg;have HV:Hid ((wEx N st (.mk 34 n m s a)).1=(numB 34++(intB (N.num st n).1++(intB m++(aM s++(ah (wEx N) (N.num st n).2 a).1))))/\(wEx N st (.mk 34 n m s a)).2=(ah (wEx N) (N.num st n).2 a).2):=su π π;have d:Hid (out.length+((numB 34).length+((intB (N.num st n).1).length+((intB m).length+((aM s).length+(ah (wEx N) (N.num st n).2 a).1.length))))<=wTop):=by show _<=_;rw[HV.o.1] at D;simpa only[μ] using D
   have p:w≠b:=λe=>Nat.lt_irrefl b (e▸O.wr.lt);obtain⟨U,r,B1,l⟩:=κ w #[(34:Int),n,m,s,.slice A a cap] 43
   have ag:Hid (Ch (wM B b) w U):=Ch.of_below B1;have v:Hid (WS E out st U):=O.bel B1;have aa:=η r;clear O r B1 D;go_in;go_upto_region 1 with fail;rw[<-aa.o];clear aa;have g:=l.c 0;have F:=l.c 1;obtain⟨ca,cb,rfl,be,ar⟩:=E.num;have a5:=η ar;clear ar;have bk:=v.wr.fn.1;go_wp2_with fail;refine (a5 _ _ _ _ _ ao.2.1 (by have:=d.o;omega) v.wr v.rel).mono ?_;rintro e2 W2 ⟨rfl,a9,a6,a8,J⟩;obtain⟨bp,bb,bc,x,af⟩:=zd5 a9 a6 a8 (ax v J l p rfl) (ag.trans J);clear a9 a6 a8 J l ag v g bk;have g:=x.c 0;go_wp2_with fail;refine (w_numR (E:=E) bb bc (by unfold i64;decide) π (by have:=d.o;omega)).mono ?_;rintro e3 W3 ⟨rfl,Z,I⟩;obtain⟨M,u,ae⟩:=zd3 Z (vk I x p rfl) (af.trans I);clear Z I x af bb bc g;go_wp2_with fail;refine (jX M bp (Qm d)).mono ?_;rintro e4 W4 ⟨rfl,Y,H⟩;obtain⟨L,q,ac⟩:=zd3 Y (ax M H u p rfl) (ae.trans H);clear Y H u M ae;have g:=q.c 2;go_wp2_with fail;refine (jX L ao.2.2 (Qm d)).mono ?_;rintro e5 W5 ⟨rfl,V,G⟩;obtain⟨y,j,ab⟩:=zd3 V (ax L G q p rfl) (ac.trans G);clear V G g q L ac;have g:=j.c 3;go_wp2_with fail;refine (kt y (Qm d) (by have:=d.o;have:=a2.1;omega)).mono ?_;rintro e6 W6 ⟨rfl,ai,T,a7⟩;clear a7;obtain⟨a3,R,ap⟩:=zd3 ai (ax y T j p rfl) (ab.trans T);clear ai T g j y ab;have g:=R.c 0
   have g:=R.c 4;go_wp2_with fail;refine (wl_121 (f:=wEx N) (ExsR.to HA ap.sub) a3 (Qm d) (λi hi cs W st out hr O hl=>IH i hi cs W st out hr O hl)).mono ?_;rintro e7 W7 ⟨rfl,az,a1⟩;go_wp2;go_end0;refine⟨rfl,?_,ap.trans a1⟩;rw[HV.o.1,HV.o.2];simpa only[χ] using az
  by_cases h9:op=9
  ·subst h9;have HV:Hid ((wEx N st (.mk 9 n m s a)).1=(numB 9++(intB n++(intB m++(aM s++(ah (wEx N) (N.nam st s) a).1))))/\(wEx N st (.mk 9 n m s a)).2=(ah (wEx N) (N.nam st s) a).2):=uF π π;have d:Hid (out.length+((numB 9).length+((intB n).length+((intB m).length+((aM s).length+(ah (wEx N) (N.nam st s) a).1.length))))<=wTop):=by show _<=_;rw[HV.o.1] at D;simpa only[μ] using D
   have p:w≠b:=λe=>Nat.lt_irrefl b (e▸O.wr.lt);obtain⟨U,r,B1,l⟩:=κ w #[(9:Int),n,m,s,.slice A a cap] 43
   have ag:Hid (Ch (wM B b) w U):=Ch.of_below B1;have v:Hid (WS E out st U):=O.bel B1;have aa:=η r;clear O r B1 D;go_in;go_upto_region 1 with fail;rw[<-aa.o];clear aa;have g:=l.c 0;have F:=l.c 1;go_wp2_with fail;refine (eG v (by unfold i64;decide) (by have:=d.o;omega)).mono ?_;rintro e2 W2 ⟨rfl,av,J⟩;obtain⟨an,x,af⟩:=zd3 av (ax v J l p rfl) (ag.trans J);clear av J g l v ag;go_wp2_with fail;refine (jX an ao.2.1 (Qm d)).mono ?_;rintro e3 W3 ⟨rfl,Z,I⟩;obtain⟨M,u,ae⟩:=zd3 Z (ax an I x p rfl) (af.trans I);clear Z I x an af;have g:=u.c 2;go_wp2_with fail;refine (jX M ao.2.2 (Qm d)).mono ?_;rintro e4 W4 ⟨rfl,Y,H⟩;obtain⟨L,q,ac⟩:=zd3 Y (ax M H u p rfl) (ae.trans H);clear Y H g u M ae;have g:=q.c 3;go_wp2_with fail;refine (kt L (Qm d) (by have:=d.o;have:=a2.1;omega)).mono ?_;rintro e5 W5 ⟨rfl,V,G,aw⟩;have a4:=η aw;clear aw;obtain⟨y,j,ab⟩:=zd3 V (ax L G q p rfl) (ac.trans G);clear V G g q L ac;have g:=j.c 0;obtain⟨aj,ak,rfl,be,au⟩:=E.nam;have bo:=η au;clear au;have KS:Hid (∀X,Ch (wM B b) W5 X->WrAt B b fv (.func (.func aj) #[] ak) (out++numB 9++intB n++intB m++aM s) X->NmS b w 3 (.func (.func aj) #[] ak) (s:Vl) X):=λX hc hw=>⟨hw.fn.2,(ax y hc j p rfl).cell 3⟩
   have b8:∀X,NmS b w 3 (.func (.func aj) #[] ak) (s:Vl) X->X.cell? ⟨b,3,none⟩=some (.func (.func aj) #[] ak):=λX h=>h.1;have b7:∀X,NmS b w 3 (.func (.func aj) #[] ak) (s:Vl) X->X.cell? ⟨w,3,none⟩=some (s:Vl):=λX h=>h.2;go_upto_region 9 with fail
   go_region_held3 (λX=>NmS b w 3 (.func (.func aj) #[] ak) (s:Vl) X) (first|exact KS _ (Ch.of_below (ad _)) (y.wr.bel (ad _))|exact KS _ ((Ch.of_below (ad _)).trans a0) ay)
    (first|(refine (bo _ _ _ _ _ b4 (Qm d) (y.wr.bel (ad _)) (E.keep _ _ _ _ a4 (Ch.of_below (ad _)))).mono ?_;rintro e6 W6 ⟨rfl,ay,bd,a0⟩))
   have T:=(Ch.of_below (may:=wM B b) (ad W5)).trans a0;have ai:WS E (out++numB 9++intB n++intB m++aM s) (N.nam st s) W6:=⟨ay,E.mono _ _ _ _ bd (by have:=a2.2;simp only[μ];omega)⟩
   obtain⟨a3,R,ap⟩:=zd3 ai (ax y T j p rfl) (ab.trans T);clear ai T g j y ab;have g:=R.c 4;go_wp2_with fail;refine (wl_121 (f:=wEx N) (ExsR.to HA ap.sub) a3 (Qm d) (λi hi cs W st out hr O hl=>IH i hi cs W st out hr O hl)).mono ?_;rintro e7 W7 ⟨rfl,az,a1⟩;go_wp2;go_end0;refine⟨rfl,?_,ap.trans a1⟩;rw[HV.o.1,HV.o.2];simpa only[χ] using az
  by_cases bi:op=12
  ·subst bi;have HV:Hid ((wEx N st (.mk 12 n m s a)).1=(numB 12++(intB n++(intB m++(aM s++(ah (wEx N) (N.nam st s) a).1))))/\(wEx N st (.mk 12 n m s a)).2=(ah (wEx N) (N.nam st s) a).2):=uF π π;have d:Hid (out.length+((numB 12).length+((intB n).length+((intB m).length+((aM s).length+(ah (wEx N) (N.nam st s) a).1.length))))<=wTop):=by show _<=_;rw[HV.o.1] at D;simpa only[μ] using D
   have p:w≠b:=λe=>Nat.lt_irrefl b (e▸O.wr.lt);obtain⟨U,r,B1,l⟩:=κ w #[(12:Int),n,m,s,.slice A a cap] 43
   have ag:Hid (Ch (wM B b) w U):=Ch.of_below B1;have v:Hid (WS E out st U):=O.bel B1;have aa:=η r;clear O r B1 D;go_in;go_upto_region 1 with fail;rw[<-aa.o];clear aa;have g:=l.c 0;have F:=l.c 1;go_wp2_with fail;refine (eG v (by unfold i64;decide) (by have:=d.o;omega)).mono ?_;rintro e2 W2 ⟨rfl,av,J⟩;obtain⟨an,x,af⟩:=zd3 av (ax v J l p rfl) (ag.trans J);clear av J g F l v ag;go_wp2_with fail;refine (jX an ao.2.1 (Qm d)).mono ?_;rintro e3 W3 ⟨rfl,Z,I⟩;obtain⟨M,u,ae⟩:=zd3 Z (ax an I x p rfl) (af.trans I);clear Z I x an af;have g:=u.c 2;go_wp2_with fail;refine (jX M ao.2.2 (Qm d)).mono ?_;rintro e4 W4 ⟨rfl,Y,H⟩;obtain⟨L,q,ac⟩:=zd3 Y (ax M H u p rfl) (ae.trans H);clear Y H g u M ae;have g:=q.c 3;go_wp2_with fail;refine (kt L (Qm d) (by have:=d.o;have:=a2.1;omega)).mono ?_;rintro e5 W5 ⟨rfl,V,G,aw⟩;have a4:=η aw;clear aw;obtain⟨y,j,ab⟩:=zd3 V (ax L G q p rfl) (ac.trans G);clear V G g q L ac;have g:=j.c 0;obtain⟨aj,ak,rfl,be,au⟩:=E.nam;have bo:=η au;clear au;have KS:Hid (∀X,Ch (wM B b) W5 X->WrAt B b fv (.func (.func aj) #[] ak) (out++numB 12++intB n++intB m++aM s) X->NmS b w 3 (.func (.func aj) #[] ak) (s:Vl) X):=λX hc hw=>⟨hw.fn.2,(ax y hc j p rfl).cell 3⟩
   have b8:∀X,NmS b w 3 (.func (.func aj) #[] ak) (s:Vl) X->X.cell? ⟨b,3,none⟩=some (.func (.func aj) #[] ak):=λX h=>h.1;have b7:∀X,NmS b w 3 (.func (.func aj) #[] ak) (s:Vl) X->X.cell? ⟨w,3,none⟩=some (s:Vl):=λX h=>h.2;go_upto_region 9 with fail
   go_region_held3 (λX=>NmS b w 3 (.func (.func aj) #[] ak) (s:Vl) X) (first|exact KS _ (Ch.of_below (ad _)) (y.wr.bel (ad _))|exact KS _ ((Ch.of_below (ad _)).trans a0) ay)
    (first|(refine (bo _ _ _ _ _ b4 (Qm d) (y.wr.bel (ad _)) (E.keep _ _ _ _ a4 (Ch.of_below (ad _)))).mono ?_;rintro e6 W6 ⟨rfl,ay,bd,a0⟩))
   have T:=(Ch.of_below (may:=wM B b) (ad W5)).trans a0;have ai:WS E (out++numB 12++intB n++intB m++aM s) (N.nam st s) W6:=⟨ay,E.mono _ _ _ _ bd (by have:=a2.2;simp only[μ];omega)⟩
   obtain⟨a3,R,ap⟩:=zd3 ai (ax y T j p rfl) (ab.trans T);clear ai T g j y ab;have g:=R.c 4;go_wp2_with fail;refine (wl_121 (f:=wEx N) (ExsR.to HA ap.sub) a3 (Qm d) (λi hi cs W st out hr O hl=>IH i hi cs W st out hr O hl)).mono ?_;rintro e7 W7 ⟨rfl,az,a1⟩;go_wp2;go_end0;refine⟨rfl,?_,ap.trans a1⟩;rw[HV.o.1,HV.o.2];simpa only[χ] using az
  have bf:jb op=false:=by unfold jb;simp[bh,bg]
  have bl:gu op=false:=by unfold gu;simp[h9,bi]
  have cd:(op==33)=false:=by simpa using bh
  have cc:(op==34)=false:=by simpa using bg
  have t9:(op==9)=false:=by simpa using h9
  have ce:(op==12)=false:=by simpa using bi
  clear bh bg h9 bi;have HV:Hid ((wEx N st (.mk op n m s a)).1=(numB op++(intB n++(intB m++(aM s++(ah (wEx N) st a).1))))/\(wEx N st (.mk op n m s a)).2=(ah (wEx N) st a).2):=wEx_else bf bl;clear bf bl;have d:Hid (out.length+((numB op).length+((intB n).length+((intB m).length+((aM s).length+(ah (wEx N) st a).1.length))))<=wTop):=by show _<=_;rw[HV.o.1] at D;simpa only[μ] using D
  have p:w≠b:=λe=>Nat.lt_irrefl b (e▸O.wr.lt);obtain⟨U,r,B1,l⟩:=κ w #[op,n,m,s,.slice A a cap] 43
  have ag:Hid (Ch (wM B b) w U):=Ch.of_below B1;have v:Hid (WS E out st U):=O.bel B1;have aa:=η r;clear O r B1 D;go_in;go_upto_region 1 with fail;rw[<-aa.o];clear aa;have g:=l.c 0;have F:=l.c 1;go_wp2_with fail;refine (eG v ao.1 (by have:=d.o;omega)).mono ?_;rintro e2 W2 ⟨rfl,av,J⟩;obtain⟨an,x,af⟩:=zd3 av (ax v J l p rfl) (ag.trans J);clear av J g F l v ag;go_wp2_with fail;refine (jX an ao.2.1 (Qm d)).mono ?_;rintro e3 W3 ⟨rfl,Z,I⟩;obtain⟨M,u,ae⟩:=zd3 Z (ax an I x p rfl) (af.trans I);clear Z I x an af;have g:=u.c 2;go_wp2_with fail;refine (jX M ao.2.2 (Qm d)).mono ?_;rintro e4 W4 ⟨rfl,Y,H⟩;obtain⟨L,q,ac⟩:=zd3 Y (ax M H u p rfl) (ae.trans H);clear Y H g u M ae;have g:=q.c 3;go_wp2_with fail;refine (kt L (Qm d) (by have:=d.o;have:=a2.1;omega)).mono ?_;rintro e5 W5 ⟨rfl,V,G,aw⟩;clear aw;obtain⟨y,j,ab⟩:=zd3 V (ax L G q p rfl) (ac.trans G);clear V G g q L ac;have g:=j.c 0;have g:=j.c 4;go_wp2_with fail;refine (wl_121 (f:=wEx N) (ExsR.to HA ab.sub) y (Qm d) (λi hi cs W st out hr O hl=>IH i hi cs W st out hr O hl)).mono ?_;rintro e6 W6 ⟨rfl,ai,T⟩;go_wp2;go_end0;refine⟨rfl,?_,ab.trans T⟩;rw[HV.o.1,HV.o.2];simpa only[χ] using ai
variable {cs:List Value}
def ur {t:Ex} (hr:ExR w (uo (wM B b) w) cs t) (hs:WS E out st w) (hlen:out.length+(wEx N st t).1.length<=wTop):Calls prog 69 #[b,cs.toArray] w (bG E (out++(wEx N st t).1) (wEx N st t).2 w):=vA _ cs t w st out (υ _) hr hs hlen
variable {σ:Type} {N:Nm σ} {B b:Nat} {fv nv:Value} {rel:À->σ->Nat->Prop} {E:WEnv N B b fv nv rel} {out:List UInt8} {st:σ} {w:À}
def fu {w:À} {g:Nat} {t:TypeId} {cs:Array Value} (h:Hs w g t cs) (o:Obj):Hs (w.alloc o) g t cs:=((belA (belR w) o).block g h.lt).trans h
set_option maxRecDepth 1000000 in
def zfWfld {p:Prop} (h:p:=by
 first
  | guard_hyp kk1:True
    obtain⟨A,q,rfl,-,I⟩:=jV hr;have J:Hid ((wCtr N st t).1=aM t.name++((bJ N st t.fields).1)/\(wCtr N st t).2=(bJ N st t.fields).2):=⟨rfl,rfl⟩
    have f:Hid (out.length+((aM t.name).length+(((bJ N st t.fields).1).length))<=wTop):=by show _<=_;rw[J.o.1] at hlen;simpa only[μ] using hlen
    obtain⟨Z,O⟩:=zd2 (aS t.name) I
  | guard_hyp kk0:True
    obtain⟨k,s,n,B_,c,rfl,I⟩:=mh hr;have J:Hid ((wFld N st t).1=aM t.name++((wTy N st t.type).1)/\(wFld N st t).2=(wTy N st t.type).2):=⟨rfl,rfl⟩
    have f:Hid (out.length+((aM t.name).length+(((wTy N st t.type).1).length))<=wTop):=by show _<=_;rw[J.o.1] at hlen;simpa only[μ] using hlen
    obtain⟨Z,O⟩:=zd2 (aS t.name) I
  | obtain⟨k,s,u,B_,c,o,x,m,r,e,D,d,rfl,-,I,h2⟩:=mu hr
    have J:Hid ((wVr N st t).1=aM t.name++((wTy N st t.type).1++((wEx N (wTy N st t.type).2 t.init).1))/\(wVr N st t).2=(wEx N (wTy N st t.type).2 t.init).2):=⟨rfl,rfl⟩
    have f:Hid (out.length+((aM t.name).length+(((wTy N st t.type).1).length+(((wEx N (wTy N st t.type).2 t.init).1).length)))<=wTop):=by show _<=_;rw[J.o.1] at hlen;simpa only[μ] using hlen
    obtain⟨Z,O,am⟩:=zd3 (aS t.name) I h2
 have Y:w≠b:=λe=>Nat.lt_irrefl b (e▸hs.wr.lt)
 first
  | guard_hyp kk1:True
    obtain⟨y,g⟩:=γ (w.alloc (.cells #[t.name,.slice A t.fields q] 122))
  | guard_hyp kk0:True
    obtain⟨y,g⟩:=γ (w.alloc (.cells #[t.name,k,s,.slice B_ n c] 118))
  | obtain⟨y,g⟩:=γ (w.alloc (.cells #[t.name,k,s,.slice B_ u c,o,x,m,r,.slice D e d] 61))
 have B1:Below w w y:=by rw[g];exact belA (belR _) _
 first
  | guard_hyp kk1:True
    have j:Hid (Hs y w 122 #[t.name,.slice A t.fields q]):=by rw[g];exact (Hs.new _ _ _)
  | guard_hyp kk0:True
    have j:Hid (Hs y w 118 #[t.name,k,s,.slice B_ n c]):=by rw[g];exact (Hs.new _ _ _)
  | have j:Hid (Hs y w 61 #[t.name,k,s,.slice B_ u c,o,x,m,r,.slice D e d]):=by rw[g];exact (Hs.new _ _ _)
 have ab:Hid (Ch (wM B b) w y):=Ch.of_below B1;have aa:Hid (WS E out st y):=hs.bel B1;have ad:Hid (CapW B b gc y):=hcap.to ab;have ai:=η g
 first
  | guard_hyp kk2:True
    clear hs g B1 I h2 hlen hcap;go_in
  | clear hs g B1 I hlen hcap
    first
     | guard_hyp kk1:True
       go_in
     | go_in
 go_upto_region 1 with fail;rw[<-ai.o];clear ai;have v:=j.c 0;have p:=ad.2;go_wp2_with fail;refine (iy aa (Qm f) (by have:=f.o;have:=Z.1;omega)).mono ?_;rintro e2 W2 ⟨rfl,ah,M⟩;obtain⟨G,i,H,U⟩:=zd4 ah (ax aa M j Y rfl) (ab.trans M) (ad.to M);clear ah M v p j aa ab ad;have v:=i.c 1
 first
  | done
  | guard_hyp kk1:True
  | have W:=i.c 2
    have V:=i.c 3
 have p:=U.2;go_wp2_with fail
 first
  | guard_hyp kk1:True
    refine (pw (FldsR.to O H.sub) G (Qm f)).mono ?_
  | refine (w_typ (O.to H.sub) G (Qm f)).mono ?_
 rintro e3 W3 ⟨rfl,X,F⟩;obtain⟨R,a,T,ac⟩:=zd4 X (ax G F i Y rfl) (H.trans F) (U.to F)
 first
  | guard_hyp kk1:True
    clear X F v p i G H U
  | clear X F v W V p i G H U
    first
     | done
     | guard_hyp kk0:True
     | have v:=a.c 4
       have W:=a.c 5;have V:=a.c 6;have ak:=a.c 7;have aj:=a.c 8;have p:=ac.2
 go_wp2_with fail
 first
  | guard_hyp kk2:True
    refine (ur (am.to T.sub) R (Qm f)).mono ?_;rintro e4 W4 ⟨rfl,ag,L⟩;obtain⟨an,ap,ao,aq⟩:=zd4 ag (ax R L a Y rfl) (T.trans L) (ac.to L);clear ag L v W V ak aj p a R T ac;go_wp2_with fail
  | skip
 go_end0
 first
  | guard_hyp kk2:True
    refine⟨rfl,?_,ao⟩
  | refine⟨rfl,?_,T⟩
 rw[J.o.1,J.o.2]
 first
  | guard_hyp kk2:True
    simpa only[χ] using an.o
  | simpa only[χ] using R.o) :p:=h
variable {gc:Nat}
def w_fld {t:Fld} (hcap:CapW B b gc w) (hr:FldR w (uo (wM B b) w) cs t) (hs:WS E out st w) (hlen:out.length+(wFld N st t).1.length<=wTop):Calls prog 118 #[cs.toArray,gc] w (bG E (out++(wFld N st t).1) (wFld N st t).2 w):=by
 have kk0:=trivial;exact zfWfld
def pw {A:Option Addr} {q:Nat} {l:List Fld} (h:FldsR w (uo (wM B b) w) (.slice A l q) l) (hs:WS E out st w) (hlen:out.length+(bJ N st l).1.length<=wTop):Calls prog 67 #[b,.slice A l q] w (bG E (out++(bJ N st l).1) (bJ N st l).2 w):=by
 obtain⟨H,G⟩:=zd2 hlen h;have t:w≠b:=λe=>Nat.lt_irrefl b (e▸hs.wr.lt);obtain⟨p,d⟩:=γ (w.alloc (.cells #[b] 66))
 have v:Below w w p:=by rw[d];exact belA (belR _) _
 have a:Hid (Hs p w 66 #[b]):=by rw[d];exact (Hs.new _ _ _)
 have k:Hid (Ch (wM B b) w p):=Ch.of_below v;have j:Hid (WS E out st p):=hs.bel v;have u:=η d;clear hs d v h hlen;go_in;go_upto_region 1 with fail;rw[<-u.o];clear u;have x:=a.c 0;go_wp2_with fail;refine (wl_117 (f:=wFld N) (FldsR.to G k.sub) j ⟨nG a t rfl,a.cell 0⟩ H (λi hi cs W st out hcp hr hs hl=>w_fld hcp hr hs hl)).mono ?_;rintro I J ⟨rfl,r,g⟩;obtain⟨y,F,D⟩:=zd3 r (ax j g a t rfl) (k.trans g);clear r g x a j k;go_wp2;go_end0;exact⟨rfl,y,D⟩
def w_ctr {t:Ctr} (hcap:CapW B b gc w) (hr:CtrR w (uo (wM B b) w) cs t) (hs:WS E out st w) (hlen:out.length+(wCtr N st t).1.length<=wTop):Calls prog 66 #[cs.toArray,gc] w (bG E (out++(wCtr N st t).1) (wCtr N st t).2 w):=by
 have kk1:=trivial;exact zfWfld
set_option maxRecDepth 1000000 in
def zfWdcl {p:Prop} (h:p:=by
 obtain⟨A,q,rfl,-,h1⟩:=gG hr;rw[hrec]
 first
  | guard_hyp kk0:True
    have T:Hid ((wDcl N st t).1=aM t.name++(numB 1++((ah (wCtr N) st t.ctors).1))/\(wDcl N st t).2=(ah (wCtr N) st t.ctors).2):=by unfold Hid wDcl;rw[hrec];exact⟨rfl,rfl⟩
    have j:Hid (out.length+((aM t.name).length+((numB 1).length+(((ah (wCtr N) st t.ctors).1).length)))<=wTop):=by show _<=_;rw[T.o.1] at hlen;simpa only[μ] using hlen
  | have T:Hid ((wDcl N st t).1=aM t.name++(numB 0++((ah (wCtr N) st t.ctors).1))/\(wDcl N st t).2=(ah (wCtr N) st t.ctors).2):=by unfold Hid wDcl;rw[hrec];exact⟨rfl,rfl⟩
    have j:Hid (out.length+((aM t.name).length+((numB 0).length+(((ah (wCtr N) st t.ctors).1).length)))<=wTop):=by show _<=_;rw[T.o.1] at hlen;simpa only[μ] using hlen
 obtain⟨af,ae⟩:=zd2 (aS t.name) h1;have G:w≠b:=λe=>Nat.lt_irrefl b (e▸hs.wr.lt);have r:w+1≠b:=λe=>by have:=hs.wr.lt;omega
 first
  | guard_hyp kk0:True
    obtain⟨F,a⟩:=γ ((w.alloc (.cells #[b] 66)).alloc (.cells #[t.name,true,.slice A t.ctors q] 48))
  | obtain⟨F,a⟩:=γ ((w.alloc (.cells #[b] 66)).alloc (.cells #[t.name,false,.slice A t.ctors q] 48))
 have B1:Below w w F:=by rw[a];exact belA (belA (belR _) _) _
 have D:Hid (Hs F w 66 #[b]):=by rw[a];exact (fu (Hs.new _ _ _) _)
 first
  | guard_hyp kk0:True
    have d:Hid (Hs F (w+1) 48 #[t.name,true,.slice A t.ctors q]):=by rw[a];exact (η (by have:=Hs.new (w.alloc (.cells #[b] 66)) 48 #[t.name,true,.slice A t.ctors q];simpa using this))
  | have d:Hid (Hs F (w+1) 48 #[t.name,false,.slice A t.ctors q]):=by rw[a];exact (η (by have:=Hs.new (w.alloc (.cells #[b] 66)) 48 #[t.name,false,.slice A t.ctors q];simpa using this))
 have aa:Hid (Ch (wM B b) w F):=Ch.of_below B1;have O:Hid (WS E out st F):=hs.bel B1;have Y:=η a;clear hs a B1 hrec h1 hlen;go_in;go_upto_region 1 with fail;rw[<-Y.o];clear Y;have p:=d.c 0;have k:=d.c 1;have ac:=D.c 0;go_wp2_with fail;refine (iy O (Qm j) (by have:=j.o;have:=af.1;omega)).mono ?_;rintro e2 W2 ⟨rfl,X,J⟩;obtain⟨M,y,v,Z⟩:=zd4 X (ax O J D G rfl) (ax O J d r rfl) (aa.trans J);clear X J p k ac D d O aa;have p:=v.c 1;have k:=y.c 0;go_wp2_with fail;refine (eG M (by unfold i64;decide) (Qm j)).mono ?_;rintro e3 W3 ⟨rfl,V,I⟩;obtain⟨L,g,u,R⟩:=zd4 V (ax M I y G rfl) (ax M I v r rfl) (Z.trans I);clear V I p k y v M Z;have p:=u.c 2;have k:=g.c 0;go_wp2_with fail;refine (wl_65 (f:=wCtr N) (SlR.to' ae R.sub (λ_ _ x=>x.to R.sub)) L ⟨nG g G rfl,g.cell 0⟩ (Qm j) (λi hi cs W st out hcp hr hs hl=>w_ctr hcp hr hs hl)).mono ?_;rintro e4 W4 ⟨rfl,U,H⟩;obtain⟨ag,ak,aj,ai⟩:=zd4 U (ax L H g G rfl) (ax L H u r rfl) (R.trans H);clear U H p k g u L R;go_wp2;go_end0;refine⟨rfl,?_,ai⟩;rw[T.o.1,T.o.2];simpa only[χ] using ag.o) :p:=h
variable {t:Dcl}
def w_decl_true (hr:DclR w (uo (wM B b) w) cs t) (hs:WS E out st w) (hrec:t.record=true) (hlen:out.length+(wDcl N st t).1.length<=wTop):Calls prog 21 #[b,.agg cs.toArray] w (bG E (out++(wDcl N st t).1) (wDcl N st t).2 w):=by
 have kk0:=trivial;exact zfWdcl
def w_decl_false (hr:DclR w (uo (wM B b) w) cs t) (hs:WS E out st w) (hrec:t.record=false) (hlen:out.length+(wDcl N st t).1.length<=wTop):Calls prog 21 #[b,.agg cs.toArray] w (bG E (out++(wDcl N st t).1) (wDcl N st t).2 w):=by
 have kk1:=trivial;exact zfWdcl
def w_decl (hr:DclR w (uo (wM B b) w) cs t) (hs:WS E out st w) (hlen:out.length+(wDcl N st t).1.length<=wTop):Calls prog 21 #[b,cs.toArray] w (bG E (out++(wDcl N st t).1) (wDcl N st t).2 w):=by
 cases hrec:t.record with
 | true=>exact w_decl_true hr hs hrec hlen
 | false=>exact w_decl_false hr hs hrec hlen
set_option maxRecDepth 1000000 in
def zfWeff {p:Prop} (h:p:=by
 first
  | guard_hyp kk0:True
    obtain⟨A,q,k,s,u,B_,c,rfl,-,V,U⟩:=jU hr;have W:Hid ((wEff N st t).1=aM t.name++((bJ N st t.params).1++((wTy N (bJ N st t.params).2 t.answer).1))/\(wEff N st t).2=(wTy N (bJ N st t.params).2 t.answer).2):=⟨rfl,rfl⟩
    have f:Hid (out.length+((aM t.name).length+(((bJ N st t.params).1).length+(((wTy N (bJ N st t.params).2 t.answer).1).length)))<=wTop):=by show _<=_;rw[W.o.1] at hlen;simpa only[μ] using hlen
    obtain⟨aq,ao,an⟩:=zd3 (aS t.name) V U
  | obtain⟨A,q,k,s,u,B_,c,o,x,m,r,e,D,d,rfl,ah,-,V,U,h3⟩:=jB hr
    have W:Hid ((wFn N st t).1=aM t.name++((bJ N st t.params).1++((wTy N (bJ N st t.params).2 t.result).1++(numB t.slots++((wEx N (wTy N (bJ N st t.params).2 t.result).2 t.body).1))))/\(wFn N st t).2=(wEx N (wTy N (bJ N st t.params).2 t.result).2 t.body).2):=⟨rfl,rfl⟩
    have f:Hid (out.length+((aM t.name).length+(((bJ N st t.params).1).length+(((wTy N (bJ N st t.params).2 t.result).1).length+((numB t.slots).length+(((wEx N (wTy N (bJ N st t.params).2 t.result).2 t.body).1).length)))))<=wTop):=by show _<=_;rw[W.o.1] at hlen;simpa only[μ] using hlen
    obtain⟨aq,au,ao,an,az⟩:=zd5 (aS t.name) ah V U h3
 have v:w≠b:=λe=>Nat.lt_irrefl b (e▸hs.wr.lt)
 first
  | guard_hyp kk0:True
    obtain⟨H,i⟩:=γ (w.alloc (.cells #[t.name,.slice A t.params q,k,s,.slice B_ u c] 50))
  | obtain⟨H,i⟩:=γ (w.alloc (.cells #[t.name,.slice A t.params q,k,s,.slice B_ u c,t.slots,o,x,m,r,.slice D e d] 45))
 have B1:Below w w H:=by rw[i];exact belA (belR _) _
 first
  | guard_hyp kk0:True
    have p:Hid (Hs H w 50 #[t.name,.slice A t.params q,k,s,.slice B_ u c]):=by rw[i];exact (Hs.new _ _ _)
  | have p:Hid (Hs H w 45 #[t.name,.slice A t.params q,k,s,.slice B_ u c,t.slots,o,x,m,r,.slice D e d]):=by rw[i];exact (Hs.new _ _ _)
 have ar:Hid (Ch (wM B b) w H):=Ch.of_below B1;have aa:Hid (WS E out st H):=hs.bel B1;have ap:=η i
 first
  | guard_hyp kk0:True
    clear hs i B1 V U hlen;go_in
  | clear hs i B1 ah V U h3 hlen
    go_in
 go_upto_region 1 with fail;rw[<-ap.o];clear ap;have g:=p.c 0;go_wp2_with fail;refine (iy aa (Qm f) (by have:=f.o;have:=aq.1;omega)).mono ?_;rintro e2 W2 ⟨rfl,am,T⟩;obtain⟨Z,F,ae⟩:=zd3 am (ax aa T p v rfl) (ar.trans T);clear am T g p aa ar;have g:=F.c 1;go_wp2_with fail;refine (pw (FldsR.to ao ae.sub) Z (Qm f)).mono ?_;rintro e3 W3 ⟨rfl,al,R⟩;obtain⟨Y,j,ad⟩:=zd3 al (ax Z R F v rfl) (ae.trans R);clear al R g F Z ae;have g:=j.c 2;have J:=j.c 3;have I:=j.c 4;go_wp2_with fail;refine (w_typ (an.to ad.sub) Y (Qm f)).mono ?_;rintro e4 W4 ⟨rfl,ak,O⟩;obtain⟨G,y,ac⟩:=zd3 ak (ax Y O j v rfl) (ad.trans O);clear ak O g J I j Y ad
 first
  | done
  | guard_hyp kk0:True
  | have g:=y.c 5
 go_wp2_with fail
 first
  | done
  | guard_hyp kk0:True
  | refine (eG G au (Qm f)).mono ?_
    rintro e5 W5 ⟨rfl,aj,M⟩;obtain⟨X,a,ab⟩:=zd3 aj (ax G M y v rfl) (ac.trans M);clear aj M g y G ac;have g:=a.c 6;have J:=a.c 7;have I:=a.c 8;have aw:=a.c 9;have av:=a.c 10;go_wp2_with fail;refine (ur (az.to ab.sub) X (Qm f)).mono ?_;rintro e6 W6 ⟨rfl,ai,L⟩;obtain⟨a0,a2,a1⟩:=zd3 ai (ax X L a v rfl) (ab.trans L);clear ai L g J I aw av a X ab;go_wp2
 go_end0
 first
  | guard_hyp kk0:True
    refine⟨rfl,?_,ac⟩
  | refine⟨rfl,?_,a1⟩
 rw[W.o.1,W.o.2]
 first
  | guard_hyp kk0:True
    simpa only[χ] using G.o
  | simpa only[χ] using a0.o) :p:=h
def w_effect {t:Eff} (hr:EffR w (uo (wM B b) w) cs t) (hs:WS E out st w) (hlen:out.length+(wEff N st t).1.length<=wTop):Calls prog 23 #[b,.agg cs.toArray] w (bG E (out++(wEff N st t).1) (wEff N st t).2 w):=by
 have kk0:=trivial;exact zfWeff
def w_fn {t:Fn} (hr:FnR w (uo (wM B b) w) cs t) (hs:WS E out st w) (hlen:out.length+(wFn N st t).1.length<=wTop):Calls prog 25 #[b,cs.toArray] w (bG E (out++(wFn N st t).1) (wFn N st t).2 w):=by
 have kk1:=trivial;exact zfWeff
def w_vr {t:Vr} (hcap:CapW B b gc w) (hr:VrR w (uo (wM B b) w) cs t) (hs:WS E out st w) (hlen:out.length+(wVr N st t).1.length<=wTop):Calls prog 71 #[.agg cs.toArray,gc] w (bG E (out++(wVr N st t).1) (wVr N st t).2 w):=by
 have kk2:=trivial;exact zfWfld
def bstr (l:List UInt8):Ê:=⟨l.toArray⟩
def fU (l:List UInt8):(bstr l).size=l:=by show l.toArray.size=_;simp
def ly (l:List UInt8) (i j:Nat):(bstr l).extract i j=bstr ((l.take j).drop i):=by
 unfold bstr;apply ByteArray.ext;apply Array.toList_inj.1;simp[ByteArray.extract,ByteArray.copySlice,List.drop_take]
def qp (l:List UInt8) (i:Nat):(bstr l).extract i (bstr l).size=bstr (l.drop i):=by rw[ly,fU,List.take_length]
def xx (l:List UInt8) (j:Nat):(bstr l).extract 0 j=bstr (l.take j):=by rw[ly,List.drop_zero]
def rT (l:List UInt8) (i:Nat) (h:i<l) (w:À):(Instr.index 9 (.string (bstr l)) (.int .i64 (i:Int))).run prog w=.ok (.int .u8 (l[i].toNat:Int)) w:=by
 rw[run_index_string w 9 (bstr l) .i64 i underlying9,dif_pos ⟨ω,by rw[fU];omega⟩];congr 3
structure RdAt (rb db:Nat) (l:List UInt8) (fl:Bool) (d:Int) (w:À):Prop where
 r:Hs w rb 145 #[.string (bstr l),fl]
 d:Hs w db 90 #[rb,d]
variable {rb db:Nat} {l:List UInt8} {fl:Bool} {d:Int}
def RdAt.bel {w:À} (h:RdAt rb db l fl d w) (hb:Below w w w'):RdAt rb db l fl d w':=⟨(hb.block _ h.r.lt).trans h.r,(hb.block _ h.d.lt).trans h.d⟩
def RdAt.ne {w:À} (h:RdAt rb db l fl d w):rb≠db:=by
 rintro rfl;have:=Option.some.inj (h.r.symm.trans h.d);injection this with _ h2;exact absurd h2 π
def RdAt.rest {l':List UInt8} {w:À} (h:RdAt rb db l fl d w):RdAt rb db l' fl d (w.setCell rb (.string (bstr l'))):=
 ⟨(heap_setCell_same _ _ _ _ _ _ h.r).trans rfl,(Below.heap_setCell _ _ _ _ (λe=>h.ne e.symm)).trans h.d⟩
def rO (rb:Nat) (k:Nat):Prop:=k=rb
def rdO (rb db:Nat) (k:Nat):Prop:=k=rb\/k=db
def bu {w:À} (h:Stp (rO rb) w w'):Stp (rdO rb db) w w':=⟨h.os,h.tape,h.output,h.size,λk hk hn=>h.block k hk λe=>hn (.inl e)⟩
def lQ (rb:Nat) (w:À) (v:Value) (i:Nat):Stp (rO rb) w (w.setCell ⟨rb,i,none⟩ v):=⟨rfl,rfl,rfl,by simp[World.setCell],λk _ hk=>Below.heap_setCell _ _ _ _ (λe=>hk e)⟩
section
variable {rb db:Nat} {l tl:List UInt8} {fl:Bool} {d:Int} {w:À}
def ij (h:RdAt rb db l fl d w):Calls prog 79 #[rb] w λe w'=>e=.returned (.int .i64 (l.length:Nat))/\w=w':=by
 have b:=h.r.c 0;have a:=fU l;go_in;go_wp2;go_ret;exact⟨rfl,rfl⟩
def qK (l:List UInt8):(bstr l).toList.isEmpty=l.isEmpty:=by
 rw[ByteArray.toList_eq]
 cases l<;>rfl
def s7 (h:RdAt rb db l fl d w):Calls prog 40 #[rb] w λe w'=>e=.returned (.bool (!fl&&l.isEmpty))/\w=w':=by
 have f:=h.r.c 0;have b:=h.r.c 1;have a:=qK l
 cases fl with
 | true =>
  go_in;go_wp2;go_ret;exact⟨rfl,rfl⟩
 | false =>
  go_in;go_wp2_with fail;all_goals go_ret
  all_goals exact⟨by first|rfl|(simp;done),rfl⟩
def wS (h:RdAt rb db l false d w):Calls prog 81 #[db] w λe w'=>e=.returned (false:Vl)/\w=w':=by
 have r:=h.d.c 0;have b:=η h;by_cases a:l.length=0
 ·have i:((l.length:Int)==0)=true:=by simp[a]
  have f:l.isEmpty=true:=by cases l<;>simp at a ⊢
  have k:=η f;go_in;go_wp2_with (first|(go_at_call 79;refine (ij b).mono ?_;rintro j g ⟨rfl,rfl⟩)|(go_at_call 40;refine (s7 b).mono ?_;rw[k.o];rintro q p ⟨rfl,rfl⟩));go_ret;exact⟨rfl,rfl⟩
 have i:((l.length:Int)==0)=false:=by simpa using a
 go_in;go_wp2_with (go_at_call 79;refine (ij b).mono ?_;rintro j g ⟨rfl,rfl⟩);go_ret;exact⟨rfl,rfl⟩
def yQ (l:List UInt8) (w:À):Calls prog 31 #[.string (bstr l)] w λe w'=>e=.returned (w:Vl)/\w'=w.alloc (.cells #[.string (bstr l),false] 145):=by
 go_in;go_wp2;go_ret;exact⟨rfl,rfl⟩
def pP (v:Value) (rb db:Nat) (tl:List UInt8) (d:Int) (w:À) (e:Ending) (w':À):Prop:=e=.returned v/\RdAt rb db tl false d w'/\Stp (rO rb) w w'
def take_any {n:Nat} (h:RdAt rb db l false d w) (hn:n<=l) (hl:l.length<=9223372036854775807):Calls prog 124 #[rb,.int .i64 (n:Nat)] w (pP (.string (bstr (l.take n))) rb db (l.drop n) d w):=by
 have u:=h.r.c 0;have t:=h.r.c 1;have p:w.frozen? rb=false:=Lib.frozen_of_heap h.r 0;have k:=fU l;have g:decide ((n:Int)<0)=false:=decide_eq_false ω;have q:=xx l n;have b:=qp l n;rw[fU] at b;have j:(0:Int)<=(n:Int):=ω;have i:(n:Int)<=(l.length:Int):=ω;obtain⟨e,a⟩:=zd2 (h.rest (l':=l.drop n)) (lQ rb w (.string (bstr (l.drop n))) 0);go_in;go_wp2;go_ret;exact⟨rfl,e,a⟩
end
def tj {k m:Nat} (h:m<128):varN (k+1) m=[UInt8.ofNat m]:=by rw[varN,if_pos h]
def varN_big {k m:Nat} (h:¬m<128):varN (k+1) m=UInt8.ofNat (m%128+128)::varN k (m/128):=by rw[varN,if_neg h]
def qd {acc x i n:Nat} (hac:acc<128 ^ i) (hx:x*128 ^ i<=n) (hn:n<=9223372036854775807) {r:Nat} (hr:r=acc+x*128 ^ i) (hr2:r<=9223372036854775807:=by omega):bits .or .i64 (acc:Int) (wrap64 (((x:Nat):Int)*2 ^ (7*i)))=((r:Nat):Int):=by
 have b:(128:Nat) ^ i=2 ^ (7*i):=by rw[Nat.pow_mul]
 rw[b] at hac hx hr
 have a:wrap64 (((x:Nat):Int)*2 ^ (7*i))=((x*2 ^ (7*i):Nat):Int):=by
  have:(((x:Nat):Int)*2 ^ (7*i))=((x*2 ^ (7*i):Nat):Int):=by push_cast;rfl
  rw[this];unfold wrap64;omega
 rw[a,i64_or (7*i) acc _ hac (by rw[Nat.mul_mod_left]) ω,hr]
def NumL (n:Nat) (l tl:List UInt8) (v3 v4:Value):Prop:=∃i m acc:Nat,v3=.int .i64 acc/\v4=.int .i64 i/\i<=8/\l.drop i=varN (9-i) m++tl/\n=acc+m*128 ^ i/\acc<128 ^ i/\(0<i->0<m)/\m<128 ^ (9-i)
section
variable {rb db:Nat} {l tl:List UInt8} {fl:Bool} {d:Int} {w:À}
def rnum_nat {n:Nat} (h:RdAt rb db (varN 9 n++tl) false d w) (hn:n<=9223372036854775807) (hl:(varN 9 n++tl).length<=549755813888):Calls prog 78 #[rb] w (pP (.int .i64 (n:Nat)) rb db tl d w):=by
 obtain⟨l,B⟩:=γ (varN 9 n++tl)
 rw[<-B] at h hl;have c0:=h.r.c 0;have f0:w.frozen? rb=false:=Lib.frozen_of_heap h.r 0;have hs:=fU l;obtain⟨R,F⟩:=zd2 (h.rest (l':=tl)) (lQ rb w (.string (bstr tl)) 0);have O:Hid (NumL n l tl (.int .i64 0) (.int .i64 0)):=⟨0,n,0,rfl,rfl,ω,by rw[B];rfl,by simp,by simp,λh=>absurd h ω,by show n<128 ^ 9;omega⟩
 have U:=η hn;clear h B hn;go_in;go_wp2_with fail;go_loopw [3,4] (λv3 v4 wr=>Hid (NumL n l tl v3 v4)/\wr=w) (λ_ v _=>9-(intOf v).toNat)
 case atStart=>exact⟨O.o,rfl⟩
 case round =>
  obtain⟨V,rfl⟩:=hrel;obtain⟨i,m,a,rfl,rfl,L,p,t,j,f,b⟩:=V.o;obtain⟨k,H⟩:∃k,9-i=k+1:=⟨8-i,ω⟩
  have E:i<l.length:=by
   have Y:=congrArg List.length p;rw[List.length_drop,H,μ] at Y;have h3:0<(varN (k+1) m).length:=by rw[varN];split<;>simp
   omega
  have D:128 ^ i<=128 ^ 8:=Nat.pow_le_pow_right π L;have y:m*128 ^ i<=n:=ω;have G:=U.o;have u0:=zT i l.length;have u1:decide ((i:Int)<9)=true:=decide_eq_true ω;have i0:(0:Int)<=(i:Int):=ω;have i1:(i:Int)<(l.length:Int):=ω;have ix:∀W,(Instr.index 9 (.string (bstr l)) (.int .i64 (i:Int))).run prog W=.ok (.int .u8 (l[i].toNat:Int)) W:=λW=>rT l i E W;rw[List.drop_eq_getElem_cons E,H] at p;by_cases J:m<128
  ·rw[tj J,List.singleton_append] at p;injection p with hb ht;have g:l[i].toNat=m:=by rw[hb];simp;omega
   have N:bits .and .u8 (l[i].toNat:Int) 127=(m:Int):=by rw[u8_and127 _ ω ω];omega
   have X:decide ((l[i].toNat:Int)≥128)=false:=decide_eq_false ω;have b1:bits .or .i64 (a:Int) (wrap64 ((m:Int)*2 ^ (7*i)))=((n:Nat):Int):=by rw[qd j y G t]
   have e1:=qp l (i+1);rw[fU,ht] at e1;have i2:((i:Int)+1)<=(l.length:Int):=ω;have i3:(0:Int)<=(i:Int)+1:=ω;have i4:((i:Int)+1).toNat=i+1:=ω;clear hb ht b t j y D;by_cases M:0<i
   ·have hz:¬l[i].toNat=0:=by have:=f M;omega
    clear g f;go_wp2;go_ret;exact⟨rfl,R.o,F.o⟩
   clear g f;go_wp2_with fail;all_goals go_ret
   all_goals exact⟨rfl,R.o,F.o⟩
  rw[varN_big J,List.cons_append] at p;injection p with hb ht;have g:l[i].toNat=m%128+128:=by rw[hb];simp;omega
  have N:bits .and .u8 (l[i].toNat:Int) 127=((m%128:Nat):Int):=by rw[u8_and127 _ ω ω];omega
  have I:((m%128:Nat):Int)=(m:Int)%128:=ω;rw[I] at N;have X:decide ((l[i].toNat:Int)≥128)=true:=decide_eq_true ω
  have ac:i<=7:=by
   rcases Nat.lt_or_ge i 8 with x|x
   ·omega
   have e:9-i=1:=ω;rw[e] at b;omega
  have q:m*128 ^ i=m%128*128 ^ i+m/128*128 ^ (i+1):=by
   rw[Nat.pow_succ,Nat.mul_comm (128 ^ i) 128,<-Nat.mul_assoc,<-Nat.add_mul];congr 1;omega
  have u:m%128*128 ^ i<=n:=ω
  have b1:bits .or .i64 (a:Int) (wrap64 ((m:Int)%128*2 ^ (7*i)))=((a+m%128*128 ^ i:Nat):Int):=by
   have:=qd (x:=m%128) j u G rfl;rw[I] at this;exact this
  have A:a+m%128*128 ^ i<128 ^ (i+1):=by
   have Z:(m%128+1)*128 ^ i<=128*128 ^ i:=Nat.mul_le_mul_right _ ω;rw[Nat.add_mul,Nat.one_mul] at Z;rw[Nat.pow_succ,Nat.mul_comm (128 ^ i) 128];omega
  have T:Hid (NumL n l tl (.int .i64 ((a+m%128*128 ^ i:Nat):Int)) (.int .i64 ((i:Int)+1))):=by
   refine⟨i+1,m/128,_,rfl,by simp,ω,?_,ω,A,λ_=>ω,?_⟩
   ·have e:9-(i+1)=k:=ω;rw[e,<-ht]
   have e:9-(i+1)=k:=ω;rw[e];rw[H,Nat.pow_succ] at b;omega
  clear hb ht b t j y D f A q u I g;go_wp2_with fail;exact⟨⟨T.o,by first|rfl|trivial⟩,by simp[intOf];omega⟩
def nOk (n:Int):Prop:=0<=n/\n<=9223372036854775807
def dH {n:Int} (h:RdAt rb db (numB n++tl) false d w) (hn:nOk n) (hl:(numB n++tl).length<=549755813888):Calls prog 78 #[rb] w (pP (n:Vl) rb db tl d w):=by
 obtain⟨k,rfl⟩:∃k:Nat,n=(k:Int):=⟨n.toNat,by have:=hn.1;omega⟩
 have e:numB (k:Int)=varN 9 k:=by unfold numB;rw[if_neg ω];rfl
 rw[e] at h hl;exact rnum_nat h (by have:=hn.2;omega) hl
def cM {s:Ê} (h:RdAt rb db (aM s++tl) false d w) (hl:(aM s++tl).length<=549755813888):Calls prog 82 #[rb] w (pP (s:Vl) rb db tl d w):=by
 have e:aM s++tl=numB (s.size:Nat)++(s.data.toList++tl):=by unfold aM;rw[χ]
 rw[e] at h hl;have q:=η hl;have f:s.data.toList=s.size:=by simp
 have b:bstr ((s.data.toList++tl).take s.size)=s:=by
  rw[List.take_append_of_le_length ω,List.take_of_length_le ω];rfl
 have l:(s.data.toList++tl).drop s.size=tl:=by
  rw[List.drop_append_of_le_length ω,ε ω,List.nil_append]
 obtain⟨r,u,t⟩:=zd3 h b l
 have a:Hid (s.size<=(s.data.toList++tl).length/\(s.data.toList++tl).length<=9223372036854775807):=by
  show _/\_;simp only[μ] at hl ⊢;omega
 have p:Hid (nOk ((s.size:Nat):Int)):=by
  show nOk _;unfold nOk;simp only[μ] at hl;omega
 go_in;go_wp2_with (first|(go_at_call 78;refine (dH r p q).mono ?_;rintro y x ⟨rfl,k,i⟩)|(go_at_call 124;refine (take_any k a.1 a.2).mono ?_;rw[u.o,t.o];rintro b v ⟨rfl,j,g⟩));go_ret;exact⟨rfl,j,i.trans g⟩
def iOk (n:Int):Prop:=-1152921504606846976<=n/\n<=1152921504606846976
def ox {n:Int} (h:RdAt rb db (intB n++tl) false d w) (hn:iOk n) (hl:(intB n++tl).length<=549755813888):Calls prog 126 #[rb] w (pP (n:Vl) rb db tl d w):=by
 have x:=hn.1;have v:=hn.2;have D:decide (n < -1152921504606846976)=false:=decide_eq_false ω;have B:decide (n>1152921504606846976)=false:=decide_eq_false ω;by_cases p:n<0
 ·have e:intB n=numB (-2*n-1):=by unfold intB;rw[if_neg ω,if_pos p]
  rw[e] at h hl;obtain⟨z,a⟩:=γ (-2*n-1)
  rw[<-a] at h hl;obtain⟨j,i⟩:=zd2 h hl;have g:Hid (nOk z):=by show nOk _;unfold nOk;omega
  have l:z/2=-n-1:=ω;have t:z%2=1:=ω;have k:IntKind.i64.wrap (-(-n-1))=-(-n-1):=by rw[IntKind.wrap_i64];omega
  have A:IntKind.i64.wrap (-(-n-1)-1)=n:=by rw[IntKind.wrap_i64];omega
  have y:-(-n-1)-1=n:=ω;clear h hl e a hn;go_in;go_wp2_with (go_at_call 78;refine (dH j g i).mono ?_;rintro u k ⟨rfl,f,b⟩);go_ret;exact⟨by first|rfl|(congr 1;congr 1;omega),f,b⟩
 have e:intB n=numB (2*n):=by unfold intB;rw[if_neg ω,if_neg p]
 rw[e] at h hl;obtain⟨z,a⟩:=γ (2*n)
 rw[<-a] at h hl;obtain⟨j,i⟩:=zd2 h hl;have g:Hid (nOk z):=by show nOk _;unfold nOk;omega
 have r:0<=z:=ω;have q:z<=9223372036854775807:=ω;have l:z/2=n:=ω;have t:z%2=0:=ω;clear h hl e a hn;go_in;go_wp2_with (go_at_call 78;refine (dH j g i).mono ?_;rintro u k ⟨rfl,f,b⟩);go_ret;exact⟨by show Ending.returned (.int .i64 (z/2))=_;rw[l],f,b⟩
end
variable {cs':List Value} {r_:Bool}
def v9 {a b:Fn} {w:À} (hq_:gY a b=r_) (hr:FnR w (lo w) cs a) (hr':FnR w (lo w) cs' b):Calls prog 53 #[cs.toArray,.agg cs'.toArray] w (aE r_ w):=by
 subst hq_;obtain⟨A,q,k,s,u,B,c,o,x,m,r,e,D,d,rfl,-,-,X,W,V⟩:=jB hr;obtain⟨A',q',k',s',u',B',c',o',x',m',r',e',D',d',rfl,-,-,M,L,J⟩:=jB hr';obtain⟨i,v⟩:=γ (bEq a.name b.name)
 obtain⟨I,t⟩:=γ (eqL cy a.params b.params)
 obtain⟨H,p⟩:=γ (bO a.result b.result)
 obtain⟨h,l⟩:=γ (a.slots==b.slots)
 obtain⟨G,j⟩:=γ (df a.body b.body)
 have HV:Hid (gY a b=(i&&(I&&(H&&(h&&(G)))))):=by show _=_;rw[v,t,p,l,j];rfl
 have ak:(ByteArray.toList a.name==ByteArray.toList b.name)=i:=v.symm;obtain⟨aa,Z⟩:=zd2 t.symm p.symm;have aj:(a.slots==b.slots)=h:=l.symm;obtain⟨Y,ad⟩:=zd2 j.symm X;have T:=η M;have ac:=η W;have R:=η L;have ab:=η V;have O:=η J;clear v t p l j X M W L V J
 rcases ch5 i I H h G with rfl|⟨rfl,rfl⟩|⟨rfl,rfl,rfl⟩|⟨rfl,rfl,rfl,rfl⟩|⟨rfl,rfl,rfl,rfl,rfl⟩|⟨rfl,rfl,rfl,rfl,rfl⟩ <;>
  (go_in;go_wp2_with (first|(go_at_call 110;refine (eq aa (SlR.to' ad (ae ζ2) (λ_ _ x=>x.to (ae ζ2))) (SlR.to' T (ae ζ2) (λ_ _ x=>x.to (ae ζ2)))).mono ?_;rintro an F ⟨rfl,f⟩;have ap:=jJ f;have y:w.heap.size+1<F:=(by have:=f.size;simp at this;omega);have ah:w.heap.size<F:=Nat.lt_of_succ_lt y)|(go_at_call 111;refine (nZ Z (ac.to (ae (bel ζ2 f))) (R.to (ae (bel ζ2 f)))).mono ?_;rintro am E ⟨rfl,g⟩;have ao:=jJ g;have U:w.heap.size+1<E:=ρ y g.size)|(go_at_call 112;refine (jM Y (ab.to (ae (bel (bel ζ2 f) g))) (O.to (ae (bel (bel ζ2 f) g)))).mono ?_;rintro al ai ⟨rfl,N⟩));go_ret;exact⟨by rw[HV.o];first|rfl|(simp;done),by first|exact (bel (bel (bel ζ2 f) g) N)|exact (bel (bel ζ2 f) g)|exact (bel ζ2 f)|exact ζ2⟩)
def vW {a b:Vr} {w:À} (hq_:gW a b=r_) (hr:VrR w (lo w) cs a) (hr':VrR w (lo w) cs' b):Calls prog 114 #[cs.toArray,.agg cs'.toArray] w (aE r_ w):=by
 subst hq_;obtain⟨k,s,u,B,c,o,x,m,r,e,D,d,rfl,-,H,G⟩:=mu hr;obtain⟨k',Z,Y,B',c',o',X,m',r',e',D',d',rfl,-,v,t⟩:=mu hr';obtain⟨g,j⟩:=γ (bEq a.name b.name)
 obtain⟨q,i⟩:=γ (bO a.type b.type)
 obtain⟨p,h⟩:=γ (df a.init b.init)
 have N:Hid (gW a b=(g&&(q&&(p)))):=by show _=_;rw[j,i,h];rfl
 have T:(ByteArray.toList a.name==ByteArray.toList b.name)=g:=j.symm;obtain⟨J,I,M⟩:=zd3 i.symm h.symm H;have E:=η v;have L:=η G;have A:=η t;clear j i h H v G t
 rcases ch3 g q p with rfl|⟨rfl,rfl⟩|⟨rfl,rfl,rfl⟩|⟨rfl,rfl,rfl⟩ <;>
  (go_in;go_wp2_with (first|(go_at_call 111;refine (nZ J (M.to (ae ζ2)) (E.to (ae ζ2))).mono ?_;rintro V l ⟨rfl,f⟩;have W:=jJ f;have F:w.heap.size+1<l:=(by have:=f.size;simp at this;omega))|(go_at_call 112;refine (jM I (L.to (ae (bel ζ2 f))) (A.to (ae (bel ζ2 f)))).mono ?_;rintro U R ⟨rfl,y⟩));go_ret;exact⟨by rw[N.o];first|rfl|(simp;done),by first|exact (bel (bel ζ2 f) y)|exact (bel ζ2 f)|exact ζ2⟩)
def vZ {a b:Hd} {w:À} (hq_:gX a b=r_) (hr:HdR w (lo w) cs a) (hr':HdR w (lo w) cs' b):Calls prog 116 #[cs.toArray,.agg cs'.toArray] w (aE r_ w):=by
 subst hq_;obtain⟨A,q,D,d,rfl,-,-,F,E⟩:=mB hr;obtain⟨Z,W,Y,X,rfl,-,-,t,r⟩:=mB hr';obtain⟨f,j⟩:=γ (bEq a.msg b.msg)
 obtain⟨p,i⟩:=γ (eqL cy a.params b.params)
 obtain⟨e,h⟩:=γ (a.slots==b.slots)
 obtain⟨l,g⟩:=γ (eqL cU a.body b.body)
 have L:Hid (gX a b=(f&&(p&&(e&&(l))))):=by show _=_;rw[j,i,h,g];rfl
 have R:(ByteArray.toList a.msg==ByteArray.toList b.msg)=f:=j.symm;have H:=η i.symm;have O:(a.slots==b.slots)=e:=h.symm;obtain⟨G,J⟩:=zd2 g.symm F;have y:=η t;have I:=η E;have v:=η r;clear j i h g F t E r
 rcases ch4 f p e l with rfl|⟨rfl,rfl⟩|⟨rfl,rfl,rfl⟩|⟨rfl,rfl,rfl,rfl⟩|⟨rfl,rfl,rfl,rfl⟩ <;>
  (go_in;go_wp2_with (first|(go_at_call 110;refine (eq H (SlR.to' J (ae ζ2) (λ_ _ x=>x.to (ae ζ2))) (SlR.to' y (ae ζ2) (λ_ _ x=>x.to (ae ζ2)))).mono ?_;rintro U k ⟨rfl,c⟩;have V:=jJ c;have B:w.heap.size+1<k:=(by have:=c.size;simp at this;omega))|(go_at_call 149;refine (qD G (SlR.to' I (ae (bel ζ2 c)) (λ_ _ x=>x.to (ae (bel ζ2 c)))) (SlR.to' v (ae (bel ζ2 c)) (λ_ _ x=>x.to (ae (bel ζ2 c))))).mono ?_;rintro T N ⟨rfl,u⟩));go_ret;exact⟨by rw[L.o];first|rfl|(simp;done),by first|exact (bel (bel ζ2 c) u)|exact (bel ζ2 c)|exact ζ2⟩)
def we {a b:Ac} {w:À} (hq_:gZ a b=r_) (hr:AcR w (lo w) cs a) (hr':AcR w (lo w) cs' b):Calls prog 55 #[cs.toArray,.agg cs'.toArray] w (aE r_ w):=by
 subst hq_;obtain⟨A,q,B,c,D,d,rfl,-,-,h,g,h3⟩:=jD hr;obtain⟨A',q',B',c',D',d',rfl,-,-,T,R,O⟩:=jD hr';obtain⟨p,G⟩:=γ (bEq a.name b.name)
 obtain⟨N,F⟩:=γ (eqL cy a.params b.params)
 obtain⟨l,E⟩:=γ (a.slots==b.slots)
 obtain⟨k,y⟩:=γ (a.policy==b.policy)
 obtain⟨j,v⟩:=γ (a.most==b.most)
 obtain⟨M,u⟩:=γ (eqL gW a.vars b.vars)
 obtain⟨L,t⟩:=γ (eqL gX a.on b.on)
 have HV:Hid (gZ a b=(p&&(N&&(l&&(k&&(j&&(M&&(L)))))))):=by show _=_;rw[G,F,E,y,v,u,t];rfl
 have ap:(ByteArray.toList a.name==ByteArray.toList b.name)=p:=G.symm;have ad:=η F.symm;have ao:(a.slots==b.slots)=l:=E.symm;have an:(a.policy==b.policy)=k:=y.symm;have am:(a.most==b.most)=j:=v.symm;obtain⟨ac,ab,ah⟩:=zd3 u.symm t.symm h;have Y:=η T;have ag:=η g;have X:=η R;have af:=η h3;have V:=η O;clear G F E y v u t h T g R h3 O
 rcases ch7 p N l k j M L with rfl|⟨rfl,rfl⟩|⟨rfl,rfl,rfl⟩|⟨rfl,rfl,rfl,rfl⟩|⟨rfl,rfl,rfl,rfl,rfl⟩|⟨rfl,rfl,rfl,rfl,rfl,rfl⟩|⟨rfl,rfl,rfl,rfl,rfl,rfl,rfl⟩|⟨rfl,rfl,rfl,rfl,rfl,rfl,rfl⟩ <;>
  (go_in;go_wp2_with (first|(go_at_call 110;refine (eq ad (SlR.to' ah (ae ζ2) (λ_ _ x=>x.to (ae ζ2))) (SlR.to' Y (ae ζ2) (λ_ _ x=>x.to (ae ζ2)))).mono ?_;rintro au J ⟨rfl,e⟩;have aw:=jJ e;have H:w.heap.size+1<J:=(by have:=e.size;simp at this;omega);have ak:w.heap.size<J:=Nat.lt_of_succ_lt H)|(go_at_call 113;refine (fB ac (eqf_113 (SlR.to' ag (ae (bel ζ2 e)) (λ_ _ x=>x.to (ae (bel ζ2 e)))) (SlR.to' X (ae (bel ζ2 e)) (λ_ _ x=>x.to (ae (bel ζ2 e)))) (λi hi hi' _ _ W r hq h g=>vW hq h g))).mono ?_;rintro ar I ⟨rfl,f⟩;have av:=jJ f;have Z:w.heap.size+1<I:=ρ H f.size)|(go_at_call 115;refine (fB ab (eqf_115 (SlR.to' af (ae (bel (bel ζ2 e) f)) (λ_ _ x=>x.to (ae (bel (bel ζ2 e) f)))) (SlR.to' V (ae (bel (bel ζ2 e) f)) (λ_ _ x=>x.to (ae (bel (bel ζ2 e) f)))) (λi hi hi' _ _ W r hq h g=>vZ hq h g))).mono ?_;rintro aq al ⟨rfl,U⟩));go_ret;exact⟨by rw[HV.o];first|rfl|(simp;done),by first|exact (bel (bel (bel ζ2 e) f) U)|exact (bel (bel ζ2 e) f)|exact (bel ζ2 e)|exact ζ2⟩)
def q7 {w:À} {P:Nat->Prop} {p:Pg} (h:PgR w P cs p):∃A0 q0 A1 q1 A2 q2 A3 q3,cs=[.slice A0 p.types q0,.slice A1 p.effects q1,.slice A2 p.funs q2,.slice A3 p.actors q3]/\SlR w P 3 (DclR w P) (.slice A0 p.types q0) p.types/\SlR w P 5 (EffR w P) (.slice A1 p.effects q1) p.effects/\SlR w P 11 (FnR w P) (.slice A2 p.funs q2) p.funs/\SlR w P 7 (AcR w P) (.slice A3 p.actors q3) p.actors:=by
 obtain⟨a,b,c,d,rfl,i,g,f,e⟩:=h;obtain⟨A0,q0,rfl⟩:=i.form;obtain⟨A1,q1,rfl⟩:=g.form;obtain⟨A2,q2,rfl⟩:=f.form;obtain⟨A3,q3,rfl⟩:=e.form;exact⟨A0,q0,A1,q1,A2,q2,A3,q3,rfl,i,g,f,e⟩
def uR {a b:Pg} {w:À} (hq_:rC a b=r_) (hr:PgR w (lo w) cs a) (hr':PgR w (lo w) cs' b):Calls prog 13 #[cs.toArray,.agg cs'.toArray] w (aE r_ w):=by
 subst hq_;obtain⟨A0,q0,A1,q1,A2,q2,A3,q3,rfl,T,g,f,R⟩:=q7 hr;obtain⟨az,am,ay,al,ax,ak,aw,aj,rfl,H,G,F,E⟩:=q7 hr';obtain⟨D,l⟩:=γ (eqL eP a.types b.types)
 obtain⟨B,k⟩:=γ (eqL eO a.effects b.effects)
 obtain⟨A,j⟩:=γ (eqL gY a.funs b.funs)
 obtain⟨y,h⟩:=γ (eqL gZ a.actors b.actors)
 have HV:Hid (rC a b=(D&&(B&&(A&&(y))))):=by show _=_;rw[l,k,j,h];rfl
 obtain⟨Y,X,V,U,ac⟩:=zd5 l.symm k.symm j.symm h.symm T;have N:=η H;have ab:=η g;have M:=η G;have aa:=η f;have L:=η F;have Z:=η R;have J:=η E;clear l k j h T H g G f F R E
 rcases ch4 D B A y with rfl|⟨rfl,rfl⟩|⟨rfl,rfl,rfl⟩|⟨rfl,rfl,rfl,rfl⟩|⟨rfl,rfl,rfl,rfl⟩ <;>
  (go_in;go_wp2_with (first|(go_at_call 48;refine (fB Y (eqf_48 (SlR.to' ac (ae ζ2) (λ_ _ x=>x.to (ae ζ2))) (SlR.to' N (ae ζ2) (λ_ _ x=>x.to (ae ζ2))) (λi hi hi' _ _ W r hq g f=>tJ hq g f))).mono ?_;rintro aq v ⟨rfl,c⟩;have av:=jJ c;have q:w.heap.size+1<v:=(by have:=c.size;simp at this;omega);have ah:w.heap.size<v:=Nat.lt_of_succ_lt q)|(go_at_call 50;refine (fB X (eqf_50 (SlR.to' ab (ae (bel ζ2 c)) (λ_ _ x=>x.to (ae (bel ζ2 c)))) (SlR.to' M (ae (bel ζ2 c)) (λ_ _ x=>x.to (ae (bel ζ2 c)))) (λi hi hi' _ _ W r hq g f=>tI hq g f))).mono ?_;rintro ap u ⟨rfl,d⟩;have au:=jJ d;have p:w.heap.size+1<u:=ρ q d.size;have ag:w.heap.size<u:=Nat.lt_of_succ_lt p)|(go_at_call 52;refine (fB V (eqf_52 (SlR.to' aa (ae (bel (bel ζ2 c) d)) (λ_ _ x=>x.to (ae (bel (bel ζ2 c) d)))) (SlR.to' L (ae (bel (bel ζ2 c) d)) (λ_ _ x=>x.to (ae (bel (bel ζ2 c) d)))) (λi hi hi' _ _ W r hq g f=>v9 hq g f))).mono ?_;rintro ao t ⟨rfl,e⟩;have ar:=jJ e;have O:w.heap.size+1<t:=ρ p e.size)|(go_at_call 54;refine (fB U (eqf_54 (SlR.to' Z (ae (bel (bel (bel ζ2 c) d) e)) (λ_ _ x=>x.to (ae (bel (bel (bel ζ2 c) d) e)))) (SlR.to' J (ae (bel (bel (bel ζ2 c) d) e)) (λ_ _ x=>x.to (ae (bel (bel (bel ζ2 c) d) e)))) (λi hi hi' _ _ W r hq g f=>we hq g f))).mono ?_;rintro an ai ⟨rfl,I⟩));go_ret;exact⟨by rw[HV.o];first|rfl|(simp;done),by first|exact (bel (bel (bel (bel ζ2 c) d) e) I)|exact (bel (bel (bel ζ2 c) d) e)|exact (bel (bel ζ2 c) d)|exact (bel ζ2 c)|exact ζ2⟩)
end
section
open Proofs.Tryz
open Go.RowKit
def St.op:St->Int|.mk o _ _ _ _ _ _ _ _=>o
def St.n:St->Int|.mk _ n _ _ _ _ _ _ _=>n
def St.m:St->Int|.mk _ _ m _ _ _ _ _ _=>m
def St.thn:St->List St|.mk _ _ _ _ _ _ h _ _=>h
mutual
def St.deep:St->Nat
 | .mk _ _ _ _ _ xs h e a=>1+Ex.deeps xs+St.deeps h+St.deeps e+St.deeps a
def St.deeps:List St->Nat
 | []=>0
 | x::xs=>St.deep x+St.deeps xs
end
def il (l:List St):∀x∈l,St.deep x<=St.deeps l:=by
 induction l with
 | nil=>intro x h;cases h
 | cons y l ih =>
  intro x h;rw[St.deeps];rcases List.mem_cons.1 h with rfl|h
  ·omega
  have:=ih x h;omega
def jh (l:List St):l<=St.deeps l:=by
 induction l with
 | nil=>simp
 | cons y l ih =>
  rw[St.deeps,δ];have:1<=St.deep y:=by cases y;rw[St.deep];omega
  omega
def hdP (p:Pg) (i:Nat) (msg:Ê):Option (List Fld):=
 match p.actors[i]? with
 | none=>none
 | some a=>(a.on.find? λh=>h.msg.toList==msg.toList).map (·.params)
def jG (p:Pg) (E:EF) (sc:Sc) (msg:Ê):List Ex->Bool
 | []=>false
 | x::xs=>match E sc x none with
  | none=>false
  | some t=>if t.kind=7 then (match hdP p ((idxP p.acNames t.name.data.toList).getD 0) msg with|none=>false|some fs=>bl E sc xs fs) else false
def bL (p:Pg) (E:EF) (sc:Sc) (m:Int) (s:Ê) (xs:List Ex):Bool:=
 match idxP p.acNames s.data.toList with
 | none=>false
 | some i=>match p.actors[i]? with
  | none=>false
  | some a=>if m=0 then bl E sc xs a.params else if m=1 then (match xs with|[]=>false|x::xs=>isE E sc x (bTy 3)&&bl E sc xs a.params) else false
def cJ (p:Pg) (E:EF) (sc:Sc) (n m:Int) (s:Ê) (xs:List Ex):Option (Int×Sc):=
 if bL p E sc m s xs then (if n=-1 then some (-1,sc) else (sc.bind n (refT s)).map λsc'=>(n,sc')) else none
def mo (r:Option (List Fld)) (t:Ty):Bool:=match r with|some [f]=>bO f.type t|_=>false
def doP (p:Pg) (E:EF) (sc:Sc) (s t:Ê) (xs:List Ex):Bool:=
 match idxP p.efNames s.data.toList with
 | none=>false
 | some i=>match p.effects[i]? with
  | none=>false
  | some e=>bl E sc xs e.params&&mo (hdP p sc.actor.toNat t) e.answer
def dr (B:Sc->List St->Bool) (arms:List St) (_:Unit) (i:Nat) (sc:Sc):Option Unit:=
 match arms[i]? with
 | none=>none
 | some a=>if B sc a.thn then some () else none
def fP (a:St):Bool:=decide (a.op=5)&&aJ a
def fO (p:Pg) (E:EF) (B:Sc->List St->Bool) (sc:Sc) (xs:List Ex) (arms:List St):Bool:=
 match xs with
 | []=>false
 | x::_=>match E sc x none with
  | none=>false
  | some t=>arms.all fP&&(bX p sc t (dr B arms) () (arms.map λa=>(a.n,a.m))).isSome
def oG (B:Sc->List St->Bool) (sc:Sc) (n:Int) (thn:List St):List Ty->Bool
 | []=>false
 | u::_=>match sc.bind n u with|none=>false|some sc'=>B sc' thn
def jH (E:EF) (B:Sc->List St->Bool) (sc:Sc) (n:Int) (xs:List Ex) (thn:List St):Bool:=
 match xs with
 | []=>false
 | x::_=>match E sc x none with
  | none=>false
  | some t=>if t.kind=5 then oG B sc n thn t.args else false
def kU (xs:List Ex) (f:Ex->Bool):Bool:=match xs with|[]=>false|x::_=>f x
def okSc (b:Bool) (sc:Sc):Option (Int×Sc):=if b then some (-1,sc) else none
def nA (E:EF) (sc:Sc) (n:Int) (xs:List Ex):Bool:=az n sc.vars&&(match sc.vars[n.toNat]? with|none=>false|some v=>kU xs λx=>isE E sc x v.type)
def letP (E:EF) (sc:Sc) (n:Int):List Ex->Option (Int×Sc)
 | []=>none
 | x::_=>match E sc x none with
  | none=>none
  | some t=>(sc.bind n t).map λsc'=>(n,sc')
def cG (p:Pg) (E:EF) (B:Sc->List St->Bool) (sc:Sc):St->Option (Int×Sc)
 | .mk op n m s t xs thn els arms =>
  if op=1 then letP E sc n xs
  else if op=2 then okSc (nA E sc n xs) sc
  else if op=3 then okSc (kU xs (λx=>isE E sc x (bTy 2))&&(B sc thn&&B sc els)) sc
  else if op=4 then okSc (fO p E B sc xs arms) sc
  else if op=6 then okSc (jH E B sc n xs thn) sc
  else if op=7 then okSc (jG p E sc s xs) sc
  else if op=8 then okSc (kU xs (λx=>isE E sc x (bTy 3))&&jG p E sc s (xs.drop 1)) sc
  else if op=9 then cJ p E sc n m s xs
  else if op=10 then okSc (doP p E sc s t xs) sc
  else if op=11 then some (-1,sc)
  else if op=12 then okSc (kU xs λx=>isE E sc x (bTy 4)) sc
  else none
def dt (S:Sc->St->Option (Int×Sc)):Sc->List St->Bool
 | _,[]=>true
 | sc,st::rest=>aJ st&&match S sc st with
  | none=>false
  | some (_,sc')=>dt S sc' rest
def aF (p:Pg) (N:Nat):Nat->Sc->List St->Bool
 | 0,_,l=>l.isEmpty
 | n+1,sc,l=>dt (cG p (aa p N) (aF p N n)) sc l
set_option maxRecDepth 100000
set_option maxHeartbeats 2000000
open Go.Maps Go.WideMaps Go.ChangeMaps
def HdSaid (w:À) (Q:Nat->Prop) (r:Option (List Fld)) (e:Ending) (w':À):Prop:=
 Below w w w'/\match r with
  | none=>e=.returned (.tuple #[(),false])
  | some fs=>∃A cap,e=.returned (.tuple #[.slice A fs cap,true])/\FldsR w Q (.slice A fs cap) fs
def find_at {l:List Hd} {q:Hd->Bool} {j:Nat} (h:j<l):(l.drop j).find? q=if q l[j] then some l[j] else (l.drop (j+1)).find? q:=by
 rw[bk h,List.find?_cons];split<;>simp_all
def find_end {l:List Hd} {q:Hd->Bool} {j:Nat} (h:¬j<l):(l.drop j).find? q=none:=by
 rw[ε ω];rfl
def ir (c:CB) (p:Pg) (Q:Nat->Prop) (w:À) (i:Nat) (msg:Ê) (hck:ChkR w Q c p) (hQ:∀b,Q b->b<w.heap.size) (hi:i<p.actors.length):Calls prog 204 #[c.b,.int .i64 (i:Int),msg] w (HdSaid w Q (hdP p i msg)):=by
 obtain⟨A0,q0,z⟩:=hck.actors.form;have c3:=hck.c3;rw[z] at c3;have f:=hck.actors;rw[z] at f;have ag:=f.le9;obtain⟨g,af,A,q,B,c',D,d,rfl,hg,Y,X,W,V,J,U,T,M,_,_,_,_,e⟩:=fR f hi;obtain⟨l,y⟩:=γ (p.actors[i].on)
 have N:Hid (hdP p i msg=(l.find? λh=>h.msg.toList==msg.toList).map (·.params)):=by show hdP _ _ _=_;unfold hdP;rw[ξ hi,y]
 rw[<-y] at J e;have ab:=e.le9;obtain⟨O,HQ⟩:=zd2 e hQ;have i0:(0:Int)<=(i:Int):=ω;have i1:(i:Int)<(p.actors.length:Int):=ω;clear hck f z y e M hQ Y X W V U T;go_in;go_wp2_with fail;go_loopw [20] (λi wr=>∃j:Nat,j<=l/\i=.int .i64 j/\Hid ((l.find? λh=>h.msg.toList==msg.toList)=((l.drop j).find? λh=>h.msg.toList==msg.toList))/\Hid (Below w w wr)) (λi _=>l.length-(intOf i).toNat)
 case atStart=>exact⟨0,ω,rfl,rfl,belR _⟩
 case round =>
  obtain⟨j,hj,rfl,E,a⟩:=hrel;clear J;by_cases hlt:j<l
  ·have Z:=zT j l;have j0:(0:Int)<=(j:Int):=ω;have j2:(j:Int)<(l.length:Int):=ω;have v:=η (find_at (q:=λh=>h.msg.toList==msg.toList) hlt);obtain⟨g2,aa,A2,q2,D2,d2,rfl,t,I,H,G,F,_,_,_,u,_⟩:=lG O hlt;have R:=η u;have L:g2<w:=HQ _ t;replace I:=belC a I;replace H:=belC a H;replace G:=belC a G;replace F:=belC a F;clear u t L;by_cases r:l[j].msg.toList=msg.toList
   ·have x:(l[j].msg.toList==msg.toList)=true:=by simpa using r
    have k:Hid (hdP p i msg=some l[j].params):=by show _=_;rw[N.o,E.o,v.o];simp only[x];rfl
    clear r;go_wp2;go_ret2;rw[k.o];exact⟨belA a _,_,_,rfl,R⟩
   have x:(l[j].msg.toList==msg.toList)=false:=by simpa using r
   have k:Hid ((l.find? λh=>h.msg.toList==msg.toList)=((l.drop (j+1)).find? λh=>h.msg.toList==msg.toList)):=by show _=_;rw[E.o,v.o];simp only[x];rfl
   clear r;go_wp2_with fail;exact⟨⟨j+1,ω,by go_num,k,belA a _⟩,by simp[intOf];omega⟩
  have Z:=zF j l;have k:Hid (hdP p i msg=none):=by show _=_;rw[N.o,E.o,find_end hlt];rfl
  go_wp2;go_ret2;rw[k.o];exact⟨a,rfl⟩
section
variable {i:Nat} {msg:Ê}
def wJ {p:Pg} (hFi:Fine p) {fs:List Fld} (h:hdP p i msg=some fs):∀f∈fs,ag f.type=true:=by
 unfold hdP at h;split at h
 ·cases h
 rename_i a b
 cases hf:a.on.find? (λh=>h.msg.toList==msg.toList) with
 | none=>rw[hf] at h;cases h
 | some g =>
  rw[hf] at h;injection h with h;subst h;exact (hFi.acts a (List.mem_of_getElem? b)).2.2 g (List.mem_of_find?_eq_some hf)
def gy (l:List (List UInt8)) (s:List UInt8):(idxF l l s).getD (.int .i64 0)=.int .i64 (((idxP l s).getD 0:Nat):Int):=by
 unfold idxF idxP
 cases cB l l s<;>rfl
def ac_lt0 {p:Pg} {s:List UInt8} (h0:0<p.actors.length):(idxP p.acNames s).getD 0<p.actors.length:=by
 cases h:idxP p.acNames s with
 | none=>exact h0
 | some i=>exact ac_lt h
variable {sb:Nat} {sc:Sc}
def du {w w':À} {own:Nat->Prop} {mb:Nat} (hs:Stm mb w w'):ResB w own mb sb sc false (.returned (false:Vl)) w':=⟨rfl,hs,λh=>by cases h⟩
def i8 {w w':À} {own:Nat->Prop} {mb:Nat} {b:Bool} (hs:Stm mb w w') (hc:b=true->ScS w' own mb sb sc):ResB w own mb sb sc b (.returned (b:Vl)) w':=⟨rfl,hs,hc⟩
variable {xs:List Ex}
def uQ {c:CB} {p:Pg} {mb n:Nat} (IH:xG c p mb n) (hFi:Fine p) (h0:0<p.actors.length) {own:Nat->Prop} {A:Option Addr} {cap:Nat} {w:À} (hx0:0<xs.length) (hd:∀e∈xs,Ex.deep e<=n) (he:Env w own mb sb c p sc) (ho:ScOk p sc) (hx:ExsR w (im own w) (.slice A xs cap) xs):
 Calls prog 192 #[c.b,sb,msg,.slice A xs cap] w (ResB w own mb sb sc (jG p (aa p n) sc msg xs)):=by
 have br:=hx.le9;have bt:=hx.cap
 have f:Hid (jG p (aa p n) sc msg xs=match aa p n sc xs[0] none with|none=>false|some t=>if t.kind=7 then (match hdP p ((idxP p.acNames t.name.data.toList).getD 0) msg with|none=>false|some fs=>bl (aa p n) sc (xs.drop 1) fs) else false):=by
  show _=_;match xs,hx0 with
  | x::ys,_=>rfl
 obtain⟨g,J,o1,x1,m1,s1,a1,B1,bu,rfl,hg,e1,p0,p1,p2,p3,p4,hr⟩:=aQ hx (i:=0) hx0;simp only[Nat.zero_mul,Nat.add_zero] at p0 p1 p2 p3 p4;obtain⟨HR,E,a2,HD,X,D,HX,HO⟩:=zd8 hr IH hFi hd he ho hx he.mb.1;have U:=η (hd _ (ν hx0));obtain⟨r1,M⟩:=γ (aa p n sc xs[0] none)
 have T:=η M;rw[<-M] at f;clear IH hFi hd he ho hx hr M e1
 cases r1 with
 | none =>
  go_in;go_wp2_with (go_at_call 170;refine (fk E U X D HR).mono ?_;rw[<-T.o];rintro e2 I ⟨l,rfl⟩);go_ret;rw[f.o];exact du (smA l _)
 | some t =>
  obtain⟨k,s,a⟩:=t;have B:Hid (jG p (aa p n) sc msg xs=if k=7 then (match hdP p ((idxP p.acNames s.data.toList).getD 0) msg with|none=>false|some fs=>bl (aa p n) sc (xs.drop 1) fs) else false):=f.o;clear f;by_cases F:k=7
  ·have k7:(k==7)=true:=by simpa using F
   have f:Hid (jG p (aa p n) sc msg xs=match hdP p ((idxP p.acNames s.data.toList).getD 0) msg with|none=>false|some fs=>bl (aa p n) sc (xs.drop 1) fs):=by show _=_;rw[B.o,if_pos F]
   clear B F;go_in;go_upto_region 4 with (go_at_call 170;refine (fk E U X D HR).mono ?_;rw[<-T.o];rintro e2 I ⟨l,k2,s2,A2,n2,z,rfl,j,r⟩;have S2:=η l;have T2:=η j;have C2:=η r;obtain⟨rfl,rfl,L⟩:k=k2/\s=s2/\s.size<=maxLen:=(by cases j with|mk _ _ _ _ _ _ _ L=>exact⟨rfl,rfl,L⟩);clear l j r);obtain⟨d,u⟩:=γ (I.alloc (.cells (ty3 k s A2 n2 z) 40))
   rw[<-u];have V:Hid (Stm mb w d):=by rw[u];exact smA S2 _
   have a7:Hid (Hs d I 40 (ty3 k s A2 n2 z)):=by rw[u];exact Hs.new _ _ _
   have C3:Hid (ScS d own mb sb sc):=by rw[u];exact C2.below ζ1
   have H:=η (X.stp V C3);clear u S2 T2 C2;obtain⟨y0,y1,y2,_,_,_⟩:=a7.facts;replace y0:=belW y0;replace y1:=belW y1;replace y2:=belW y2;have s1:=belW H.chk.c5
   have lk:∀W,Below d d W->(Instr.lookup 101 (.map (some c.ba)) (s:Vl) false).run prog W=.ok (.int .i64 (((idxP p.acNames s.data.toList).getD 0:Nat):Int)) W:=λW hb=>by
    have:=cR (H.chk.ma.below hb H.chk.qa.1) L;rw[gy] at this;exact this
   obtain⟨G,O⟩:=γ ((idxP p.acNames s.data.toList).getD 0)
   have Z:G<p.actors:=by rw[O];exact ac_lt0 h0
   rw[<-O] at lk f;clear O;have ac:=η Z;clear Z
   cases hh:hdP p G msg with
   | none =>
    rw[hh] at f;have HH:=η hh;clear hh
    go_region_held3 (λW=>Below d d W) (first|exact ad _|exact bel ι h)
     (first|(go_at_call 204;refine (ir c p (im own d.drew) d.drew G msg (H.chk.to (sof (ad _)).sub) (λb hb=>hb.1) ac).mono ?_;rw[HH.o];rintro e4 w4 ⟨h,rfl⟩))
    go_wp2;go_ret;rw[f.o];exact du (V.trans (Stm.of_below (bel (ad _) h)))
   | some fs =>
    rw[hh] at f;obtain⟨HH,a3⟩:=zd2 hh (wJ a2 hh);clear hh
    go_region_held3 (λW=>Below d d W) (first|exact ad _|exact bel ι h)
     (first|(go_at_call 204;refine (ir c p (im own d.drew) d.drew G msg (H.chk.to (sof (ad _)).sub) (λb hb=>hb.1) ac).mono ?_;rw[HH.o];rintro e4 w4 ⟨h,A4,bh,rfl,N⟩))
    obtain⟨B4,a5⟩:=zd2 (bel (ad d) h) (FldsR.to N (sof (own:=own) h).sub);clear h N y0 y1 y2 s1 lk;obtain⟨y,v⟩:=γ (xs.drop 1)
    have Y:xs.length-1=y:=by rw[v,List.length_drop]
    have ab:Hid (ExsR w4 (im own w4) (.slice (fd (some ⟨g,J,none⟩) cap 1 5) y (cap-1)) y):=by rw[v];exact SlR.from (ExsR.to HX ((V.trans (Stm.of_below B4)).subO HO)) 1 ω
    have a4:Hid (∀e∈y,Ex.deep e<=n):=λe he=>HD e (by rw[v] at he;exact List.mem_of_mem_drop he);have E4:=η (H.bel B4);obtain⟨A1,R⟩:=γ (fd (some ⟨g,J,none⟩) cap 1 5)
    have bs:∀W,(Instr.slice 41 (.slice (some ⟨g,J,none⟩) xs cap) (some (.int .i64 1)) none none).run prog W=.ok (.slice A1 y (cap-1)) W:=λW=>by
     rw[R,<-Y];exact eH W _ _ _ 1 ω
    rw[<-R] at ab;rw[<-v] at f;clear v Y R;go_wp2_with (go_at_call 168;refine (fD E a4 E4 D ab a5 a3).mono ?_;rintro e5 w5 ⟨rfl,ay,an⟩);go_ret;rw[f.o];exact i8 (V.trans ((Stm.of_below B4).trans ay)) an
  have k7:(k==7)=false:=by simpa using F
  have f:Hid (jG p (aa p n) sc msg xs=false):=by show _=_;rw[B.o,if_neg F]
  clear B F;go_in;go_wp2_with (go_at_call 170;refine (fk E U X D HR).mono ?_;rw[<-T.o];rintro e2 I ⟨l,k2,s2,A2,n2,z,rfl,j,r⟩;obtain⟨rfl,rfl⟩:k=k2/\s=s2:=(by cases j;exact⟨rfl,rfl⟩);clear j r);go_ret;rw[f.o];exact du (smA l _)
abbrev st9 (op n m:Int) (s u:Ê) (A0:Option Addr) (lx c0:Nat) (A1:Option Addr) (l1 c1:Nat) (A2:Option Addr) (l2 c2:Nat) (A3:Option Addr) (l3 c3:Nat):Array Value:=
 #[op,n,m,s,u,.slice A0 lx c0,.slice A1 l1 c1,.slice A2 l2 c2,.slice A3 l3 c3]
def ef_lt {p:Pg} {s:List UInt8} (h:idxP p.efNames s=some i):i<p.effects:=by
 have:=(cg _ _ _ _ h).1;simpa[Pg.efNames] using this
variable {u:Ê}
def doP_none {p:Pg} {E:EF} {s:Ê} (h:idxP p.efNames s.data.toList=none):doP p E sc s u xs=false:=by unfold doP;rw[h]
def doP_some {p:Pg} {E:EF} {s:Ê} (h:idxP p.efNames s.data.toList=some i) (hi:i<p.effects):doP p E sc s u xs=(bl E sc xs p.effects[i].params&&mo (hdP p sc.actor.toNat u) p.effects[i].answer):=by
 unfold doP;rw[h];simp only[ξ hi]
def uh {p:Pg} (hD:cH p=true):∀e∈p.effects,(∀q∈e.params,ag q.type=true)/\ag e.answer=true:=by
 unfold cH at hD;split at hD
 ·cases hD
 simp only[τ] at hD;intro e a;have:=(cI _ _ hD.2.1 e a).2;unfold iu at this;simp only[τ] at this;exact⟨fI this.1,dD this.2⟩
def do_at {c:CB} {p:Pg} {mb n:Nat} (IH:xG c p mb n) (hEf:∀e∈p.effects,∀q∈e.params,ag q.type=true) {own:Nat->Prop} {op x m:Int} {s:Ê} {A0 A1 A2 A3:Option Addr} {c0 l1 c1 l2 c2 l3 c3:Nat} {w:À} (hd:∀e∈xs,Ex.deep e<=n) (he:Env w own mb sb c p sc) (ho:ScOk p sc) (ha0:0<=sc.actor) (hx:ExsR w (im own w) (.slice A0 xs c0) xs) (hss:s.size<=maxLen):
 Calls prog 194 #[c.b,sb,st9 op x m s u A0 xs c0 A1 l1 c1 A2 l2 c2 A3 l3 c3] w (ResB w own mb sb sc (doP p (aa p n) sc s u xs)):=by
 obtain⟨H,ae⟩:∃H:Nat,sc.actor=(H:Int):=⟨sc.actor.toNat,ω⟩
 have aq:H<p.actors:=by have:=ho.actor;omega
 have ay:Hid (sc.actor.toNat=H):=by show _=_;rw[ae];rfl
 obtain⟨bs,az,aw,bp,HD,av,HO⟩:=zd7 ae aq IH hEf hd ho he.mb.1;have cn:=he.mb.2;obtain⟨d,D,B1,a2⟩:=κ w (st9 op x m s u A0 xs c0 A1 l1 c1 A2 l2 c2 A3 l3 c3) 120
 obtain⟨E1,X1,a3,ar⟩:=zd4 (he.bel B1) (ExsR.to hx (sof (own:=own) B1).sub) B1 D;have Z:w.heap.size<d:=by rw[D];simp
 clear IH hEf hd he ho hx D B1 aq ae ha0;have d1:=belW E1.chk.c6;have b3:=belW (a2.c 3)
 have lk:∀W,Below d d W->(Instr.lookup 101 (.map (some c.be)) (s:Vl) true).run prog W=.ok (.tuple #[.int .i64 (((idxP p.efNames s.data.toList).getD 0:Nat):Int),.bool (idxP p.efNames s.data.toList).isSome]) W:=λW hb=>by
  have:=ck (E1.chk.me.below hb E1.chk.qe.1) hss;rw[gy,eU] at this;exact this
 have cr:=η hss;clear hss
 cases hix:idxP p.efNames s.data.toList with
 | none =>
  rw[hix] at lk;have I:=η (doP_none (E:=aa p n) (sc:=sc) (u:=u) (xs:=xs) hix);clear hix;go_in;go_upto_region 1 with fail;rw[<-ar.o];go_region_held3 (λW=>Below d d W) (first|exact ad _) (fail);go_upto_region 2 with fail;obtain⟨y,k⟩:=γ d.drew
  rw[<-k];have V:Hid (Below w w y):=by rw[k];exact bel a3 (ad _)
  clear k;refine tkB (λW=>Stm mb y W) (smDr _ _) (λhHeld=>?_);refine θ ?_;refine tkD ?_;go_wp2;go_ret;rw[I.o];exact du (Stm.of_below (bel V (ad _)))
 | some i =>
  have hi:=ef_lt hix;rw[hix] at lk;obtain⟨I,ax⟩:=zd2 (doP_some (E:=aa p n) (sc:=sc) (u:=u) (xs:=xs) hix hi) (bp _ (ν hi));have i0:(0:Int)<=(i:Int):=ω;have i1:(i:Int)<(p.effects.length:Int):=ω;obtain⟨bE,ac⟩:=γ (bl (aa p n) sc xs p.effects[i].params)
  rw[<-ac] at I;have H4:=η ac.symm;clear hix ac;go_in;go_upto_region 1 with fail;rw[<-ar.o];go_region_held3 (λW=>Below d d W) (first|exact ad _) (fail);go_upto_region 2 with fail;obtain⟨y,k⟩:=γ d.drew
  rw[<-k];have O:Hid (Below d d y):=by rw[k];exact ad _
  obtain⟨V,E3,X3,a1⟩:=zd4 (bel a3 O) (E1.bel O) (ExsR.to X1 (sof (own:=own) O).sub) (show Hs y w 120 (st9 op x m s u A0 xs c0 A1 l1 c1 A2 l2 c2 A3 l3 c3) from (O.block _ Z).trans a2);clear k d1 b3 lk;have bj:=E3.sco;obtain⟨_,_,_,_,B⟩:=bj;have ak:=B.c3;rw[bs.o] at ak;have bi:sb≠mb:=λe=>B.isb.2 (by rw[e];exact B.om);have al:=stpC (mb:=mb) ak bi;clear B ak;have F:=E3.chk;obtain⟨AE,qE,eE⟩:=F.effects.form;have c1:=F.c1;rw[eE] at c1;have N:=F.effects;rw[eE] at N;have bm:c.b≠mb:=λe=>F.qb.2 (by rw[e];exact HO);obtain⟨g,cm,A,q,k5,s5,a5,B5,c5,rfl,hg,v0,X,U,T,R,_,_,ao,ap⟩:=jC N hi;obtain⟨a0,br⟩:=zd2 ao ap;have M:g≠mb:=λe=>hg.2 (by rw[e];exact HO);replace c1:=stpC (mb:=mb) c1 bm;replace X:=stpC (mb:=mb) X M;replace U:=stpC (mb:=mb) U M;replace T:=stpC (mb:=mb) T M;replace R:=stpC (mb:=mb) R M;have b5:=stpC (mb:=mb) (a1.c 5) Φ;have b4:=stpC (mb:=mb) (a1.c 4) Φ;clear F N ao ap v0 hg eE
  cases bE with
  | false =>
   refine tkB (λW=>Stm mb y W) (smDr _ _) (λhHeld=>?_);refine θ ?_;refine tkE 16 (λK hK=>?_);go_simp;(refine (fD aw HD (E3.bel (ad _)) av (ExsR.to X3 (sof (ad _)).sub) (FldsR.to a0 (sof (ad _)).sub) ax).mono ?_;rw[H4.o];rintro e4 j ⟨rfl,z,G⟩);refine tkR hK ?_ (λhHeld=>?_)
   ·exact hHeld.trans z
   clear hK K;refine θ ?_;refine tkD ?_;go_wp2;go_ret;rw[I.o];exact du ((Stm.of_below (bel V (ad _))).trans z)
  | true =>
   refine tkB (λW=>Stm mb y W) (smDr _ _) (λhHeld=>?_);refine θ ?_;refine tkE 16 (λK hK=>?_);go_simp;(refine (fD aw HD (E3.bel (ad _)) av (ExsR.to X3 (sof (ad _)).sub) (FldsR.to a0 (sof (ad _)).sub) ax).mono ?_;rw[H4.o];rintro e4 j ⟨rfl,z,G⟩);refine tkR hK ?_ (λhHeld=>?_)
   ·exact hHeld.trans z
   clear hK K;refine θ ?_;refine tkD ?_;obtain⟨r,C4⟩:=zd2 ((smDr mb y).trans z) (G Υ);have E4:=η (E3.stp r C4);clear z G hHeld;replace c1:=belW (c1 _ r);replace X:=belW (X _ r);replace U:=belW (U _ r);replace T:=belW (T _ r);replace R:=belW (R _ r);replace b4:=belW (b4 _ r);replace al:=belW (al _ r);clear b5 X;go_upto_region 4 with fail
   cases hh:hdP p H u with
   | none =>
    have ah:Hid (doP p (aa p n) sc s u xs=false):=by show _=_;rw[I.o,ay.o,hh];rfl
    have HH:=η hh;clear hh
    go_region_held3 (λW=>Below j j W) (first|exact ad _|exact bel ι l)
     (first|(go_at_call 204;refine (ir c p (im own j.drew) j.drew H u (E4.chk.to (sof (ad _)).sub) (λb hb=>hb.1) az).mono ?_;rw[HH.o];rintro e5 w5 ⟨l,rfl⟩))
    obtain⟨t,rfl⟩:=γ w5
    have J:=η (bel (ad j) l);clear l;go_upto_region 5 with fail;refine tkB (λW=>Below t t W) (ad _) (λhHeld=>?_);refine θ ?_;refine tkD ?_;go_wp2;go_ret;rw[ah.o];exact du ((Stm.of_below V).trans (r.trans (Stm.of_below (bel J (ad _)))))
   | some fs =>
    have HH:=η hh
    have au:Hid (doP p (aa p n) sc s u xs=mo (some fs) p.effects[i].answer):=by
     show _=_;rw[I.o,ay.o,hh];rfl
    clear hh I
    go_region_held3 (λW=>Below j j W) (first|exact ad _|exact bel ι l)
     (first|(go_at_call 204;refine (ir c p (im own j.drew) j.drew H u (E4.chk.to (sof (ad _)).sub) (λb hb=>hb.1) az).mono ?_;rw[HH.o];rintro e5 w5 ⟨l,A5,ca,rfl,ab⟩))
    obtain⟨t,rfl⟩:=γ w5
    obtain⟨J,bu⟩:=zd2 (bel (ad j) l) (FldsR.to ab (sof (own:=own) l).sub);obtain⟨C6,U6⟩:=zd2 (C4.below J) ((br.to (r.subO HO)).to (sof (own:=own) J).sub);have bw:∀{a:Addr} {v:Value},(∀W,Below j j W->W.cell? a=some v)->∀W,Below t t W->W.cell? a=some v:=λh W hb=>h W (bel J hb);have cq:=bw c1;have cl:=bw U;have cj:=bw T;have ci:=bw R;clear l ab c1 U T R bw b4 al;go_upto_region 5 with fail;by_cases L:fs.length=1
    ·obtain⟨f,rfl⟩:∃f,fs=[f]:=List.length_eq_one_iff.1 L;obtain⟨g6,b0,k6,s6,a6,cs,c6,rfl,cp,e6,y0,y1,y2,y3,_,Y⟩:=dw bu (i:=0) Θ;simp only[Nat.zero_mul,Nat.add_zero,List.getElem_cons_zero] at y0 y1 y2 y3 Y;have T6:=η Y;replace y1:=belW y1;replace y2:=belW y2;replace y3:=belW y3;clear L y0 Y e6;refine tkB (λW=>Below t t W) (ad _) (λhHeld=>?_);refine θ ?_;refine tkE 20 (λK hK=>?_);go_simp;(refine (lN (T6.to (sof (own:=own) (ad t)).imlo) (U6.to (sof (own:=own) (ad t)).imlo)).mono ?_;rintro e7 w7 ⟨rfl,bn⟩);refine tkR hK ?_ (λhHeld=>?_)
     ·exact bel hHeld bn
     clear hK K;refine θ ?_;refine tkD ?_;go_wp2;go_ret;rw[au.o];exact i8 ((Stm.of_below V).trans (r.trans (Stm.of_below (bel J hHeld)))) (λ_=>C6.below hHeld)
    have l1:((fs.length:Int)==1)=false:=beq_eq_false_iff_ne.2 ω
    have ah:Hid (doP p (aa p n) sc s u xs=false):=by
     show _=_;rw[au.o];match fs,L with
     | [],_=>rfl
     | [f],h=>exact absurd rfl h
     | _::_::_,_=>rfl
    clear L;refine tkB (λW=>Below t t W) (ad _) (λhHeld=>?_);refine θ ?_;refine tkD ?_;go_wp2;go_ret;rw[ah.o];exact du ((Stm.of_below V).trans (r.trans (Stm.of_below (bel J (ad _)))))
variable {σ:Type} {N:Nm σ} {B b:Nat} {fv nv:Value} {rel:À->σ->Nat->Prop} {E:WEnv N B b fv nv rel} {out:List UInt8} {st:σ} {w:À}
def ut {o x m:Int} {s:Ê} {y:List Ex} {h e a:List St}:(wSt N st (.mk o x m s u y h e a)).1=numB o++(intB x++(intB m++(aM s++(aM u++((ah (wEx N) st y).1++((ah (wSt N) (ah (wEx N) st y).2 h).1++((ah (wSt N) (ah (wSt N) (ah (wEx N) st y).2 h).2 e).1++(ah (wSt N) (ah (wSt N) (ah (wSt N) (ah (wEx N) st y).2 h).2 e).2 a).1)))))))/\(wSt N st (.mk o x m s u y h e a)).2=(ah (wSt N) (ah (wSt N) (ah (wSt N) (ah (wEx N) st y).2 h).2 e).2 a).2:=by
 rw[wSt];simp only[yK];exact⟨rfl,rfl⟩
def vz (n:Nat):∀(cs:List Value) (t:St) (w:À) (st:σ) (out:List UInt8),SizeOf.sizeOf t<=n->StR w (uo (wM B b) w) cs t->WS E out st w->out.length+(wSt N st t).1.length<=wTop->Calls prog 75 #[b,cs.toArray] w (bG E (out++(wSt N st t).1) (wSt N st t).2 w):=by
 induction n with
 | zero=>intro cs t w st out hn;cases t;simp at hn
 | succ n ih =>
  intro cs t w st out hn p k q;obtain⟨o,x,m,s,u,y,h,e,a,D0,d0,D1,d1,D2,d2,D3,d3,rfl,rfl,a6,T,R,h1,h2,h3,h4⟩:=kA p
  have IH:Hid (∀(l:List St),SizeOf.sizeOf l<=n->∀(i:Nat) (hi:i<l.length) (cs:List Value) (w:À) (st:σ) (out:List UInt8),StR w (uo (wM B b) w) cs l[i]->WS E out st w->out.length+(wSt N st l[i]).1.length<=wTop->Calls prog 75 #[b,cs.toArray] w (bG E (out++(wSt N st l[i]).1) (wSt N st l[i]).2 w)):=λl hl i hi cs w st out p k hln =>
   ih cs l[i] w st out (by have:=List.sizeOf_lt_of_mem (ν hi);omega) p k hln
  obtain⟨ao,ap,bt,bs,br,bq⟩:=zd6 (show SizeOf.sizeOf h<=n/\SizeOf.sizeOf e<=n/\SizeOf.sizeOf a<=n by simp at hn;omega) a6 h1 h2 h3 h4;clear ih hn p a6 h1 h2 h3 h4;have HV:Hid ((wSt N st (.mk o x m s u y h e a)).1=numB o++(intB x++(intB m++(aM s++(aM u++((ah (wEx N) st y).1++((ah (wSt N) (ah (wEx N) st y).2 h).1++((ah (wSt N) (ah (wSt N) (ah (wEx N) st y).2 h).2 e).1++((ah (wSt N) (ah (wSt N) (ah (wSt N) (ah (wEx N) st y).2 h).2 e).2 a).1))))))))/\(wSt N st (.mk o x m s u y h e a)).2=(ah (wSt N) (ah (wSt N) (ah (wSt N) (ah (wEx N) st y).2 h).2 e).2 a).2):=ut;have g:Hid (out.length+((numB o).length+((intB x).length+((intB m).length+((aM s).length+((aM u).length+(((ah (wEx N) st y).1).length+(((ah (wSt N) (ah (wEx N) st y).2 h).1).length+(((ah (wSt N) (ah (wSt N) (ah (wEx N) st y).2 h).2 e).1).length+(((ah (wSt N) (ah (wSt N) (ah (wSt N) (ah (wEx N) st y).2 h).2 e).2 a).1).length)))))))))<=wTop):=by show _<=_;rw[HV.o.1] at q;simpa only[μ] using q
  obtain⟨bv,bu,b3,b2⟩:=zd4 (aS s) (aS u) T R;have j:w≠b:=λe=>Nat.lt_irrefl b (e▸k.wr.lt);obtain⟨W1,M,B1,L⟩:=κ w #[o,x,m,s,u,.slice D0 y d0,.slice D1 h d1,.slice D2 e d2,.slice D3 a d3] 120
  have bc:Hid (Ch (wM B b) w W1):=Ch.of_below B1;have an:Hid (WS E out st W1):=k.bel B1;have a7:=η M;clear k M B1 T R q;go_in;go_upto_region 1 with fail;rw[<-a7.o];clear a7;have d:=L.c 0;go_wp2_with fail;refine (eG an ap.1 (Qm g)).mono ?_;rintro e2 W2 ⟨rfl,a5,ad⟩;obtain⟨am,J,bb⟩:=zd3 a5 (ax an ad L j rfl) (bc.trans ad);clear a5 ad d L an bc;have d:=J.c 1;go_wp2_with fail;refine (jX am ap.2.1 (Qm g)).mono ?_;rintro e3 W3 ⟨rfl,a4,ac⟩;obtain⟨al,I,ba⟩:=zd3 a4 (ax am ac J j rfl) (bb.trans ac);clear a4 ac d J am bb;have d:=I.c 2;go_wp2_with fail;refine (jX al ap.2.2 (Qm g)).mono ?_;rintro e4 W4 ⟨rfl,a3,ab⟩;obtain⟨ak,H,a9⟩:=zd3 a3 (ax al ab I j rfl) (ba.trans ab);clear a3 ab d I al ba;have d:=H.c 3;go_wp2_with fail;refine (iy ak (Qm g) (by have:=g.o;have:=bv.1;omega)).mono ?_;rintro e5 W5 ⟨rfl,a2,aa⟩;obtain⟨aj,G,a8⟩:=zd3 a2 (ax ak aa H j rfl) (a9.trans aa);clear a2 aa d H ak a9;have d:=G.c 4;go_wp2_with fail;refine (iy aj (Qm g) (by have:=g.o;have:=bu.1;omega)).mono ?_;rintro e6 W6 ⟨rfl,a1,Z⟩;obtain⟨ai,F,O⟩:=zd3 a1 (ax aj Z G j rfl) (a8.trans Z);clear a1 Z d G aj a8;have d:=F.c 5;go_wp2_with fail
  refine (wl_121 (f:=wEx N) (SlR.to' bt O.sub (λ_ _ x=>x.to O.sub)) ai (Qm g) (λi hi cs W st out p k hl=>ur p k hl)).mono ?_;rintro e7 W7 ⟨rfl,a0,Y⟩;obtain⟨ag,D,au⟩:=zd3 a0 (ax ai Y F j rfl) (O.trans Y);clear a0 Y d F ai O;have d:=D.c 6;go_wp2_with fail;refine (wl_74 (f:=wSt N) (StsR.to bs au.sub) ag (Qm g) (λi hi cs W st out p k hl=>IH _ ao.1 i hi cs W st out p k hl)).mono ?_;rintro e8 W8 ⟨rfl,az,X⟩;obtain⟨af,A,ar⟩:=zd3 az (ax ag X D j rfl) (au.trans X);clear az X d D ag au;have d:=A.c 7;go_wp2_with fail;refine (wl_74 (f:=wSt N) (StsR.to br ar.sub) af (Qm g) (λi hi cs W st out p k hl=>IH _ ao.2.1 i hi cs W st out p k hl)).mono ?_;rintro e9 W9 ⟨rfl,ay,V⟩;obtain⟨ae,v,aq⟩:=zd3 ay (ax af V A j rfl) (ar.trans V);clear ay V d A af ar;have d:=v.c 8;go_wp2_with fail;refine (wl_74 (f:=wSt N) (StsR.to bq aq.sub) ae (Qm g) (λi hi cs W st out p k hl=>IH _ ao.2.2 i hi cs W st out p k hl)).mono ?_;rintro b4 b5 ⟨rfl,U,r⟩;obtain⟨bf,b1,bg⟩:=zd3 U (ax ae r v j rfl) (aq.trans r);clear U r d v ae aq;go_wp2;go_end0;refine⟨rfl,?_,bg⟩;rw[HV.o.1,HV.o.2];simpa only[χ] using bf.o
variable {cs:List Value}
def w_stmt {t:St} (hr:StR w (uo (wM B b) w) cs t) (hs:WS E out st w) (hlen:out.length+(wSt N st t).1.length<=wTop):Calls prog 75 #[b,cs.toArray] w (bG E (out++(wSt N st t).1) (wSt N st t).2 w):=vz _ cs t w st out (υ _) hr hs hlen
def w_hd {gc:Nat} {t:Hd} (hcap:CapW B b gc w) (hr:HdR w (uo (wM B b) w) cs t) (hs:WS E out st w) (hlen:out.length+(wHd N st t).1.length<=wTop):Calls prog 73 #[cs.toArray,gc] w (bG E (out++(wHd N st t).1) (wHd N st t).2 w):=by
 obtain⟨A,q,D,d,rfl,Z,-,h1,h2⟩:=mB hr;have HV:Hid ((wHd N st t).1=aM t.msg++((bJ N st t.params).1++(numB t.slots++((ah (wSt N) (bJ N st t.params).2 t.body).1)))/\(wHd N st t).2=(ah (wSt N) (bJ N st t.params).2 t.body).2):=⟨rfl,rfl⟩
 have h:Hid (out.length+((aM t.msg).length+(((bJ N st t.params).1).length+((numB t.slots).length+(((ah (wSt N) (bJ N st t.params).2 t.body).1).length))))<=wTop):=by show _<=_;rw[HV.o.1] at hlen;simpa only[μ] using hlen
 obtain⟨ao,ag,an,am⟩:=zd4 (aS t.msg) Z h1 h2;have r:w≠b:=λe=>Nat.lt_irrefl b (e▸hs.wr.lt);obtain⟨I,G,B1,p⟩:=κ w #[t.msg,.slice A t.params q,t.slots,.slice D t.body d] 64
 have T:Hid (Ch (wM B b) w I):=Ch.of_below B1;have O:Hid (WS E out st I):=hs.bel B1;have Y:Hid (CapW B b gc I):=hcap.to T;have ae:=η G;clear hs G B1 Z h1 h2 hlen hcap;go_in;go_upto_region 1 with fail;rw[<-ae.o];clear ae;have g:=p.c 0;have a:=Y.2;go_wp2_with fail;refine (iy O (Qm h) (by have:=h.o;have:=ao.1;omega)).mono ?_;rintro e2 W2 ⟨rfl,ad,F⟩;obtain⟨M,l,R,X⟩:=zd4 ad (ax O F p r rfl) (T.trans F) (Y.to F);clear ad F g a p O T Y;have g:=l.c 1;have a:=X.2;go_wp2_with fail;refine (pw (FldsR.to an R.sub) M (Qm h)).mono ?_;rintro e3 W3 ⟨rfl,ac,y⟩;obtain⟨L,k,af,V⟩:=zd4 ac (ax M y l r rfl) (R.trans y) (X.to y);clear ac y g a l M R X;have g:=k.c 2;have a:=V.2;go_wp2_with fail;refine (eG L ag (Qm h)).mono ?_;rintro e4 W4 ⟨rfl,ab,v⟩;obtain⟨J,j,H,U⟩:=zd4 ab (ax L v k r rfl) (af.trans v) (V.to v);clear ab v g a k L af V;have g:=j.c 3;have a:=U.2;go_wp2_with fail;refine (wl_74 (f:=wSt N) (SlR.to' am H.sub (λ_ _ x=>x.to H.sub)) J (Qm h) (λi hi cs W st out hr hs hl=>w_stmt hr hs hl)).mono ?_;rintro e5 W5 ⟨rfl,aa,u⟩;obtain⟨ap,ar,aq,au⟩:=zd4 aa (ax J u j r rfl) (H.trans u) (U.to u);clear aa u g a j J H U;go_wp2;go_end0;refine⟨rfl,?_,aq⟩;rw[HV.o.1,HV.o.2]
 simpa only[χ] using ap.o
def uB {t:Ac} (hr:AcR w (uo (wM B b) w) cs t) (hs:WS E out st w) (hlen:out.length+(wAc N st t).1.length<=wTop):Calls prog 28 #[b,cs.toArray] w (bG E (out++(wAc N st t).1) (wAc N st t).2 w):=by
 obtain⟨A,q,B_,c,D,d,rfl,ae,-,h1,h2,h3⟩:=jD hr;have HV:Hid ((wAc N st t).1=aM t.name++((bJ N st t.params).1++(numB t.slots++((ah (wVr N) (bJ N st t.params).2 t.vars).1++((ah (wHd N) (ah (wVr N) (bJ N st t.params).2 t.vars).2 t.on).1))))/\(wAc N st t).2=(ah (wHd N) (ah (wVr N) (bJ N st t.params).2 t.vars).2 t.on).2):=⟨rfl,rfl⟩
 have h:Hid (out.length+((aM t.name).length+(((bJ N st t.params).1).length+((numB t.slots).length+(((ah (wVr N) (bJ N st t.params).2 t.vars).1).length+(((ah (wHd N) (ah (wVr N) (bJ N st t.params).2 t.vars).2 t.on).1).length)))))<=wTop):=by show _<=_;rw[HV.o.1] at hlen;simpa only[μ] using hlen
 obtain⟨a1,ao,a0,az,ay⟩:=zd5 (aS t.name) ae h1 h2 h3;have k:w≠b:=λe=>Nat.lt_irrefl b (e▸hs.wr.lt);have j:w+1≠b:=λe=>by have:=hs.wr.lt;omega
 obtain⟨W1,r⟩:=γ ((w.alloc (.cells #[b] 66)).alloc (.cells #[t.name,.slice A t.params q,t.slots,.slice B_ t.vars c,.slice D t.on d,t.policy,t.most] 54))
 have B1:Below w w W1:=by rw[r];exact ζ2
 have J:Hid (Hs W1 w 66 #[b]):=by rw[r];exact (fu (Hs.new _ _ _) _)
 have G:Hid (Hs W1 (w+1) 54 #[t.name,.slice A t.params q,t.slots,.slice B_ t.vars c,.slice D t.on d,t.policy,t.most]):=by rw[r];exact (η (by have:=Hs.new (w.alloc (.cells #[b] 66)) 54 #[t.name,.slice A t.params q,t.slots,.slice B_ t.vars c,.slice D t.on d,t.policy,t.most];simpa using this))
 have an:Hid (Ch (wM B b) w W1):=Ch.of_below B1;have Z:Hid (WS E out st W1):=hs.bel B1;have al:=η r;clear hs r B1 ae h1 h2 h3 hlen;go_in;go_upto_region 1 with fail;rw[<-al.o];clear al;have g:=G.c 0;have a:=J.c 0;go_wp2_with fail;refine (iy Z (Qm h) (by have:=h.o;have:=a1.1;omega)).mono ?_;rintro e2 W2 ⟨rfl,ak,T⟩;obtain⟨Y,I,F,ad⟩:=zd4 ak (ax Z T J k rfl) (ax Z T G j rfl) (an.trans T);clear ak T g a J G Z an;have g:=F.c 1;have a:=I.c 0;go_wp2_with fail;refine (pw (FldsR.to a0 ad.sub) Y (Qm h)).mono ?_;rintro e3 W3 ⟨rfl,aj,R⟩;obtain⟨X,H,y,am⟩:=zd4 aj (ax Y R I k rfl) (ax Y R F j rfl) (ad.trans R);clear aj R g a I F Y ad;have g:=y.c 2;have a:=H.c 0;go_wp2_with fail;refine (eG X ao.1 (Qm h)).mono ?_;rintro e4 W4 ⟨rfl,ai,O⟩;obtain⟨V,p,v,ab⟩:=zd4 ai (ax X O H k rfl) (ax X O y j rfl) (am.trans O);clear ai O g a H y X am;have g:=v.c 3;have a:=p.c 0;go_wp2_with fail;refine (wl_70 (f:=wVr N) (SlR.to' az ab.sub (λ_ _ x=>x.to ab.sub)) V ⟨nG p k rfl,p.cell 0⟩ (Qm h) (λi hi cs W st out hcp hr hs hl=>w_vr hcp hr hs hl)).mono ?_;rintro e5 W5 ⟨rfl,ag,M⟩;obtain⟨U,l,u,aa⟩:=zd4 ag (ax V M p k rfl) (ax V M v j rfl) (ab.trans M);clear ag M g a p v V ab;have g:=u.c 4
 have a:=l.c 0;go_wp2_with fail;refine (wl_72 (f:=wHd N) (SlR.to' ay aa.sub (λ_ _ x=>x.to aa.sub)) U ⟨nG l k rfl,l.cell 0⟩ (Qm h) (λi hi cs W st out hcp hr hs hl=>w_hd hcp hr hs hl)).mono ?_;rintro e6 W6 ⟨rfl,af,L⟩;obtain⟨a2,a5,a4,a3⟩:=zd4 af (ax U L l k rfl) (ax U L u j rfl) (aa.trans L);clear af L g a l u U aa;go_wp2;go_end0;refine⟨rfl,?_,a3⟩;rw[HV.o.1,HV.o.2];simpa only[χ] using a2.o
def w_actorP {gc:Nat} {t:Ac} (hcap:CapW B b gc w) (hr:AcR w (uo (wM B b) w) cs t) (hs:WS E out st w) (hlen:out.length+(wAcP N st t).1.length<=wTop):Calls prog 27 #[cs.toArray,gc] w (bG E (out++(wAcP N st t).1) (wAcP N st t).2 w):=by
 obtain⟨A,q,B_,c,D,d,rfl,M,-,-,-,-⟩:=jD hr;have ag:=η hr;clear hr;have X:Hid ((wAcP N st t).1=(wAc N st t).1++(numB t.policy++(numB t.most))/\(wAcP N st t).2=(wAc N st t).2):=⟨rfl,rfl⟩
 have j:Hid (out.length+(((wAc N st t).1).length+((numB t.policy).length+((numB t.most).length)))<=wTop):=by show _<=_;rw[X.o.1] at hlen;simpa only[μ] using hlen
 have y:=η M;have v:w≠b:=λe=>Nat.lt_irrefl b (e▸hs.wr.lt);obtain⟨x,r,Y,a⟩:=κ w #[t.name,.slice A t.params q,t.slots,.slice B_ t.vars c,.slice D t.on d,t.policy,t.most] 54
 have u:Hid (Ch (wM B b) w x):=Ch.of_below Y;have H:Hid (WS E out st x):=hs.bel Y;have L:Hid (CapW B b gc x):=hcap.to u;have U:=η r;clear hs r Y M hlen hcap;go_in;go_upto_region 1 with fail;rw[<-U.o];clear U;have g:=a.c 0;have ae:=a.c 1;have ad:=a.c 2;have ac:=a.c 3;have ab:=a.c 4;have aa:=a.c 5;have Z:=a.c 6;have f:=L.2;go_wp2_with fail;refine (uB (ag.to u.sub) H (Qm j)).mono ?_;rintro e2 W2 ⟨rfl,T,p⟩;obtain⟨G,i,W,J⟩:=zd4 T (ax H p a v rfl) (u.trans p) (L.to p);clear T p g ae ad ac ab aa Z f a H u L;have g:=i.c 5;have f:=J.2;go_wp2_with fail;refine (eG G y.2.1 (Qm j)).mono ?_;rintro e3 W3 ⟨rfl,R,l⟩;obtain⟨F,h,V,I⟩:=zd4 R (ax G l i v rfl) (W.trans l) (J.to l);clear R l g f i G W J;have g:=h.c 6;have f:=I.2;go_wp2_with fail;refine (eG F y.2.2 (Qm j)).mono ?_;rintro e4 W4 ⟨rfl,O,k⟩;obtain⟨af,aj,ah,ak⟩:=zd4 O (ax F k h v rfl) (V.trans k) (I.to k);clear O k g f h F V I;go_wp2;go_end0;refine⟨rfl,?_,ah⟩;rw[X.o.1,X.o.2];simpa only[χ] using af.o
mutual
def ren (φ:Int->Int):Ex->Ex
 | .mk op x m s kids=>.mk op (if op=33\/op=34 then φ x else x) m s (rens φ kids)
def rens (φ:Int->Int):List Ex->List Ex
 | []=>[]
 | x::xs=>ren φ x::rens φ xs
end
def lU (φ:Int->Int) (l:List Ex):rens φ l=l.map (ren φ):=by
 induction l with
 | nil=>rfl
 | cons x l ih=>rw[rens,ih];rfl
def ren_op (φ:Int->Int) (e:Ex):(ren φ e).op=e.op:=by cases e;rfl
def ren_m (φ:Int->Int) (e:Ex):(ren φ e).m=e.m:=by cases e;rfl
def ren_s (φ:Int->Int) (e:Ex):(ren φ e).s=e.s:=by cases e;rfl
def sQ (φ:Int->Int) (e:Ex):(ren φ e).kids=e.kids.map (ren φ):=by cases e;exact lU _ _
def ren_n (φ:Int->Int) (e:Ex) (h:e.op=14):(ren φ e).n=e.n:=by
 cases e with
 | mk op x m s kids=>show (if _ then _ else _)=_;rw[if_neg (by simp only[Ex.op] at h;omega)];rfl
mutual
theorem rE:∀e:Ex,ren (λx=>x) e=e
 | .mk op x m s kids=>by rw[ren,qZ,ite_self]
theorem qZ:∀l:List Ex,rens (λx=>x) l=l
 | []=>rfl
 | x::xs=>by rw[rens,rE,qZ]
end
mutual
theorem ren_deep (φ:Int->Int):∀e:Ex,(ren φ e).deep=e.deep
 | .mk op x m s kids=>by rw[ren,Ex.deep,Ex.deep,mM]
theorem mM (φ:Int->Int):∀l:List Ex,Ex.deeps (rens φ l)=Ex.deeps l
 | []=>rfl
 | x::xs=>by rw[rens,Ex.deeps,Ex.deeps,ren_deep,mM]
end
def fsig (p:Pg) (x:Int):Option (List Fld×Ty):=if az x p.funs then (p.funs[x.toNat]?).map λf=>(f.params,f.result) else none
structure Sig (p p':Pg) (φ:Int->Int):Prop where
 rcd:∀t,recP p t=recP p' t
 var:∀t,varP p t=varP p' t
 fn:∀x,fsig p x=fsig p' (φ x)
structure ScEq (p p':Pg) (sc sc':Sc):Prop where
 slots:sc.slots=sc'.slots
 bound:sc.bound=sc'.bound
 vars:sc.vars.map (·.type)=sc'.vars.map (·.type)
 self:iL p sc=iL p' sc'
 hd:0<=sc.actor->∀t,hdP p sc.actor.toNat t=hdP p' sc'.actor.toNat t
def kM {α β:Type} (R:α->β->Prop) (a:Option α) (b:Option β):Prop:=(a=none/\b=none)\/∃x y,a=some x/\b=some y/\R x y
section
variable {p p':Pg} {φ:Int->Int} {sc sc':Sc}
def ScEq.set (h:ScEq p p' sc sc') (i:Int) (t:Ty):ScEq p p' (sc.set i t) (sc'.set i t):=
 ⟨h.slots,by unfold Sc.set;rw[h.bound],h.vars,h.self,h.hd⟩
def ScEq.bind (h:ScEq p p' sc sc') (i:Int) (t:Ty):kM (ScEq p p') (sc.bind i t) (sc'.bind i t):=by
 have a:sc.bindB i=sc'.bindB i:=by unfold Sc.bindB;rw[h.bound,h.slots]
 unfold Sc.bind;rw[a]
 cases sc'.bindB i with
 | false=>exact .inl ⟨rfl,rfl⟩
 | true=>exact .inr ⟨_,_,rfl,rfl,h.set i t⟩
theorem ScEq.bindAll:∀(fs:List Fld) (m:Int) {sc sc':Sc},ScEq p p' sc sc'->kM (ScEq p p') (bindAll sc m fs) (bindAll sc' m fs)
 | [],m,sc,sc',h=>.inr ⟨_,_,rfl,rfl,h⟩
 | f::fs,m,sc,sc',h=>by
  rw[Go.Proofs.YtjohpidklbhmcaaGreatDoor.bindAll,Go.Proofs.YtjohpidklbhmcaaGreatDoor.bindAll]
  rcases h.bind m f.type with ⟨h1,h2⟩|⟨a,b,h1,h2,hr⟩
  ·rw[h1,h2];exact .inl ⟨rfl,rfl⟩
  rw[h1,h2];exact ScEq.bindAll fs (m+1) hr
def ERel (p p':Pg) (φ:Int->Int) (n:Nat) (E E':EF):Prop:=∀sc sc' e want,ScEq p p' sc sc'->Ex.deep e<=n->E sc e want=E' sc' (ren φ e) want
variable {n:Nat} {E E':EF} (hE:ERel p p' φ n E E') (hs:ScEq p p' sc sc')
include hE hs
theorem dR {e:Ex} (h:Ex.deep e<=n) (t:Ty):isE E sc e t=isE E' sc' (ren φ e) t:=by unfold isE;rw[hE _ _ _ _ hs h]
theorem en:∀(kids:List Ex) (fs:List Fld),(∀e∈kids,Ex.deep e<=n)->bl E sc kids fs=bl E' sc' (kids.map (ren φ)) fs
 | [],[],_=>rfl
 | [],_::_,_=>rfl
 | e::es,[],_=>rfl
 | e::es,f::fs,h=>by
  rw[List.map_cons,bl,bl,dR hE hs (h e List.mem_cons_self),en es fs λx hx=>h x (List.mem_cons_of_mem _ hx)]
theorem mR:∀(kids:List Ex) (fs:List Ty),(∀e∈kids,Ex.deep e<=n)->aR E sc kids fs=aR E' sc' (kids.map (ren φ)) fs
 | [],_,_=>by rw[List.map_nil,aR,aR]
 | e::es,[],_=>rfl
 | e::es,f::fs,h=>by
  rw[List.map_cons,aR,aR,dR hE hs (h e List.mem_cons_self),mR es fs λx hx=>h x (List.mem_cons_of_mem _ hx)]
theorem jW (t:Ty):∀(kids:List Ex),(∀e∈kids,Ex.deep e<=n)->(kids.all λe=>isE E sc e t)=((kids.map (ren φ)).all λe=>isE E' sc' e t)
 | [],_=>rfl
 | e::es,h=>by
  rw[List.map_cons,List.all_cons,List.all_cons,dR hE hs (h e List.mem_cons_self),jW t es λx hx=>h x (List.mem_cons_of_mem _ hx)]
theorem pZ (right:Ty->Bool) (kids:List Ex) (h:∀e∈kids,Ex.deep e<=n):gd E sc right kids=gd E' sc' right (kids.map (ren φ)):=by
 match kids,h with
 | [],_=>rfl
 | [_],_=>rfl
 | [a,b],h =>
  show (match E sc a none with|none=>false|some t=>right t&&isE E sc b t)=match E' sc' (ren φ a) none with|none=>false|some t=>right t&&isE E' sc' (ren φ b) t
  rw[hE _ _ _ _ hs (h a Θ)]
  cases E' sc' (ren φ a) none with
  | none=>rfl
  | some t=>show (right t&&isE E sc b t)=_;rw[dR hE hs (h b Θ)]
 | _::_::_::_,_=>rfl
theorem wY (kids:List Ex) (want:Option Ty) (h:∀e∈kids,Ex.deep e<=n):fw E sc kids want=fw E' sc' (kids.map (ren φ)) want:=by
 unfold fw;split
 ·rw[jW hE hs _ kids h]
 ·rfl
 match kids,h with
 | [],_=>rfl
 | k0::ks,h =>
  simp only[List.map_cons];rw[hE _ _ _ _ hs (h k0 Θ)]
  cases E' sc' (ren φ k0) none with
  | none=>rfl
  | some t=>simp only;rw[jW hE hs _ ks λx hx=>h x (List.mem_cons_of_mem _ hx)]
theorem fIf_ren (kids:List Ex) (want:Option Ty) (h:∀e∈kids,Ex.deep e<=n):fIf E sc want kids=fIf E' sc' want (kids.map (ren φ)):=by
 match kids,h with
 | [],_=>rfl
 | [_],_=>rfl
 | [_,_],_=>rfl
 | [a,b,c],h =>
  simp only[List.map_cons,List.map_nil,fIf];rw[dR hE hs (h a Θ),hE _ _ _ _ hs (h b Θ)]
  cases E' sc' (ren φ b) want with
  | none=>rfl
  | some t=>simp only;rw[dR hE hs (h c Θ)]
 | _::_::_::_::_,_=>rfl
theorem fLet_ren (x:Int) (kids:List Ex) (want:Option Ty) (h:∀e∈kids,Ex.deep e<=n):fLet E sc x want kids=fLet E' sc' x want (kids.map (ren φ)):=by
 match kids,h with
 | [],_=>rfl
 | [_],_=>rfl
 | [a,b],h =>
  simp only[List.map_cons,List.map_nil,fLet];rw[hE _ _ _ _ hs (h a Θ)]
  cases E' sc' (ren φ a) none with
  | none=>rfl
  | some t =>
   simp only;rcases hs.bind x t with ⟨h1,h2⟩|⟨s1,s2,h1,h2,hr⟩
   ·rw[h1,h2]
   rw[h1,h2];exact hE _ _ _ _ hr (h b Θ)
 | _::_::_::_,_=>rfl
theorem fCat_ren (kids:List Ex) (want:Option Ty) (h:∀e∈kids,Ex.deep e<=n):fCat E sc want kids=fCat E' sc' want (kids.map (ren φ)):=by
 match kids,h with
 | [],_=>rfl
 | [_],_=>rfl
 | [a,b],h =>
  simp only[List.map_cons,List.map_nil,fCat];rw[hE _ _ _ _ hs (h a Θ)]
  cases E' sc' (ren φ a) want with
  | none=>rfl
  | some t=>simp only;rw[dR hE hs (h b Θ)]
 | _::_::_::_,_=>rfl
theorem ud (kids:List Ex) (h:∀e∈kids,Ex.deep e<=n):dY E sc kids=dY E' sc' (kids.map (ren φ)):=by
 match kids,h with
 | [],_=>rfl
 | k0::ks,h =>
  simp only[List.map_cons,dY];rw[hE _ _ _ _ hs (h k0 Θ)]
  cases E' sc' (ren φ k0) none with
  | none=>rfl
  | some t=>simp only[List.length_map];rw[mR hE hs ks _ λx hx=>h x (List.mem_cons_of_mem _ hx)]
theorem pG (x:Int) (want:Option Ty) {k0:Ex} (h:Ex.deep k0<=n):aY E sc x want k0=aY E' sc' x want (ren φ k0):=by
 unfold aY;rw[hE _ _ _ _ hs h,hE _ _ _ _ hs h,hE _ _ _ _ hs h]
theorem wV (x:Int) (want:Option Ty) (kids:List Ex) (h:∀e∈kids,Ex.deep e<=n):aP E sc x want kids=aP E' sc' x want (kids.map (ren φ)):=by
 match kids,h with
 | [],_=>rfl
 | k0::ks,h =>
  simp only[List.map_cons,aP];rw[pG hE hs x want (h k0 Θ)]
  cases aY E' sc' x want (ren φ k0) with
  | none=>rfl
  | some t =>
   simp only
   cases bi x t with
   | none=>rfl
   | some q=>simp only[List.length_map];rw[mR hE hs ks _ λx hx=>h x (List.mem_cons_of_mem _ hx)]
variable (hp:Sig p p' φ)
include hp
theorem fRec_ren (s:Ê) (kids:List Ex) (h:∀e∈kids,Ex.deep e<=n):fRec p E sc s kids=fRec p' E' sc' s (kids.map (ren φ)):=by
 unfold fRec;rw[hp.rcd]
 cases recP p' (cN s) with
 | none=>rfl
 | some fs=>simp only;rw[en hE hs kids fs h]
theorem fGet_ren (x:Int) (kids:List Ex) (h:∀e∈kids,Ex.deep e<=n):fGet p E sc x kids=fGet p' E' sc' x (kids.map (ren φ)):=by
 match kids,h with
 | [],_=>rfl
 | [a],h =>
  simp only[List.map_cons,List.map_nil,fGet];rw[hE _ _ _ _ hs (h a Θ)]
  cases E' sc' (ren φ a) none with
  | none=>rfl
  | some t=>simp only;rw[hp.rcd]
 | _::_::_,_=>rfl
theorem wT (x:Int) (want:Option Ty) (kids:List Ex) (h:∀e∈kids,Ex.deep e<=n):gL p E sc x want kids=gL p' E' sc' x want (kids.map (ren φ)):=by
 match kids,h with
 | [],_=>rfl
 | [_],_=>rfl
 | [a,b],h =>
  simp only[List.map_cons,List.map_nil,gL];rw[hE _ _ _ _ hs (h a Θ)]
  cases E' sc' (ren φ a) want with
  | none=>rfl
  | some t =>
   simp only;rw[hp.rcd]
   cases recP p' t with
   | none=>rfl
   | some fs =>
    simp only
    cases fs[x.toNat]? with
    | none=>rfl
    | some f=>simp only;rw[dR hE hs (h b Θ)]
 | _::_::_::_,_=>rfl
theorem xa (x:Int) (s:Ê) (kids:List Ex) (h:∀e∈kids,Ex.deep e<=n):jx p E sc x s kids=jx p' E' sc' x s (kids.map (ren φ)):=by
 unfold jx;rw[hp.var]
 cases varP p' (cN s) with
 | none=>rfl
 | some cs =>
  simp only
  cases cs[x.toNat]? with
  | none=>rfl
  | some c=>simp only;rw[en hE hs kids _ h]
theorem xc (x:Int) (kids:List Ex) (h:∀e∈kids,Ex.deep e<=n):jI p E sc x kids=jI p' E' sc' (φ x) (kids.map (ren φ)):=by
 have a:∀(q:Pg) (E:EF) (sc:Sc) (x:Int) (l:List Ex),jI q E sc x l=match fsig q x with|none=>none|some r=>if bl E sc l r.1 then some r.2 else none:=by
  intro q E sc x l;unfold jI fsig;split
  ·cases q.funs[x.toNat]?<;>rfl
  rfl
 rw[a,a,hp.fn]
 cases fsig p' (φ x) with
 | none=>rfl
 | some r=>simp only;rw[en hE hs kids _ h]
theorem fFun_ren (x:Int) (kids:List Ex) (h:∀e∈kids,Ex.deep e<=n):fFun p E sc x kids=fFun p' E' sc' (φ x) (kids.map (ren φ)):=by
 have a:∀(q:Pg) (E:EF) (sc:Sc) (x:Int) (l:List Ex),fFun q E sc x l=match fsig q x with|none=>none|some r=>if l.length<=r.1.length then (if bl E sc l (r.1.take l) then some (.mk 8 nm0 ((r.1.drop l).map (·.type)++[r.2])) else none) else none:=by
  intro q E sc x l;unfold fFun fsig;split
  ·cases q.funs[x.toNat]?<;>rfl
  rfl
 rw[a,a,hp.fn]
 cases fsig p' (φ x) with
 | none=>rfl
 | some r=>simp only[List.length_map];rw[en hE hs kids _ h]
end
def rI (ctors:List Ctr) (n:Int):List Fld:=if n=-1 then [] else (match ctors[n.toNat]? with|none=>[]|some c=>c.fields)
def nF (sc:Sc) (ctors:List Ctr) (seen:List Int) (n m:Int):Bool:=(decide (n≠-1)&&!az n ctors)||decide (m<0)||decide (sc.slots<m)||decide (-1∈seen)||decide (n∈seen)
def fZ (sc:Sc) (ctors:List Ctr) (body:σ->Nat->Sc->Option σ) (i:Nat) (seen:List Int) (st:σ) (n m:Int) (rest:List (Int×Int)):
 bz sc ctors body i seen st ((n,m)::rest)=if nF sc ctors seen n m then none else (bindAll sc m (rI ctors n)).bind λsc'=>(body st i sc').bind λst'=>bz sc ctors body (i+1) (n::seen) st' rest:=by
 rw[bz];unfold nF rI;split
 ·rfl
 cases bindAll sc m _ with
 | none=>rfl
 | some s1=>show (match body st i s1 with|none=>none|some st'=>_)=(body st i s1).bind _;cases body st i s1<;>rfl
theorem oV {p p':Pg} {σ:Type} {ctors:List Ctr} {body body':σ->Nat->Sc->Option σ} (hb:∀st i sc sc',ScEq p p' sc sc'->body st i sc=body' st i sc') {sc sc':Sc} (hs:ScEq p p' sc sc') :
 ∀(rest:List (Int×Int)) (i:Nat) (seen:List Int) (st:σ),bz sc ctors body i seen st rest=bz sc' ctors body' i seen st rest
 | [],i,seen,st=>rfl
 | (n,m)::rest,i,seen,st=>by
  have hbad:nF sc ctors seen n m=nF sc' ctors seen n m:=by unfold nF;rw[hs.slots]
  rw[fZ,fZ,hbad]
  split
  ·rfl
  rcases hs.bindAll (rI ctors n) m with ⟨h1,h2⟩|⟨a,b,h1,h2,hr⟩
  ·rw[h1,h2];rfl
  rw[h1,h2]
  show (body st i a).bind _=(body' st i b).bind _
  rw[hb st i a b hr]
  congr 1
  funext st'
  exact oV hb hs rest _ _ _
variable {p':Pg} {φ:Int->Int} {sc':Sc}
def xA {p:Pg} (hp:Sig p p' φ) {body body':σ->Nat->Sc->Option σ} (hb:∀st i sc sc',ScEq p p' sc sc'->body st i sc=body' st i sc') (hs:ScEq p p' sc sc') (t:Ty) (st:σ) (arms:List (Int×Int)):
 bX p sc t body st arms=bX p' sc' t body' st arms:=by
 unfold bX;rw[hp.var]
 cases varP p' t with
 | none=>rfl
 | some cs=>simp only;rw[oV hb hs]
def xB (φ:Int->Int) (a:Ex):fy (ren φ a)=fy a:=by
 unfold fy;rw[ren_op,ren_s,sQ,List.length_map]
def kid_deep {a k:Ex} (h:k∈a.kids):Ex.deep k+1<=Ex.deep a:=by
 cases a with
 | mk o x m s l=>have:=fY l k h;rw[Ex.deep];omega
def ua {p:Pg} (hp:Sig p p' φ) {n:Nat} {E E':EF} (hE:ERel p p' φ n E E') (hs:ScEq p p' sc sc') (want:Option Ty) (kids:List Ex) (h:∀e∈kids,Ex.deep e<=n):
 dX p E sc want kids=dX p' E' sc' want (kids.map (ren φ)):=by
 match kids,h with
 | [],_=>rfl
 | k0::arms,h =>
  simp only[List.map_cons,dX];rw[hE _ _ _ _ hs (h k0 Θ)]
  cases E' sc' (ren φ k0) none with
  | none=>rfl
  | some t =>
   simp only
   have l:((arms.map (ren φ)).all fy)=arms.all fy:=by
    rw[List.all_map];congr 1;funext a;exact xB φ a
   rw[l];by_cases b:arms.all fy=true
   ·rw[if_pos b,if_pos b]
    have j:((arms.map (ren φ)).map λa=>(a.n,a.m))=arms.map λa=>(a.n,a.m):=by
     rw[List.map_map];refine List.map_congr_left λa ha=>?_;have d:a.op=14:=by have:=List.all_eq_true.1 b a ha;simp[fy] at this;exact this.1
     show ((ren φ a).n,(ren φ a).m)=_;rw[ren_n φ a d,ren_m]
    rw[j];refine xA hp (λst i s1 s2 hr=>?_) hs t _ _;unfold cE;rw[List.getElem?_map]
    cases ha:arms[i]? with
    | none=>rfl
    | some a =>
     have g:a∈arms:=List.mem_of_getElem? ha;simp only[Option.map_some,sQ];match hk:a.kids with
     | []=>rfl
     | [k] =>
      have f:Ex.deep k<=n:=by have:=kid_deep (a:=a) (k:=k) (by rw[hk];simp);have:=h a (List.mem_cons_of_mem _ g);omega
      simp only[List.map_cons,List.map_nil];rw[hE _ _ _ _ hr f,dR hE hr f]
     | _::_::_=>rfl
   rw[if_neg b,if_neg b]
def form_ren {p:Pg} (hp:Sig p p' φ) {n:Nat} {E E':EF} (hE:ERel p p' φ n E E') (hs:ScEq p p' sc sc') (op x:Int) (s:Ê) (kids:List Ex) (want:Option Ty) (h:∀e∈kids,Ex.deep e<=n):
 bP p E sc op x s kids want=bP p' E' sc' op (if op=33\/op=34 then φ x else x) s (kids.map (ren φ)) want:=by
 by_cases b:op=33
 ·subst b;exact xc hE hs hp x kids h
 by_cases a:op=34
 ·subst a;exact fFun_ren hE hs hp x kids h
 have g:(if op=33\/op=34 then φ x else x)=x:=if_neg ω;rw[g];unfold bP ic
 rw[if_neg b,if_neg b,if_neg a,if_neg a,hs.bound,hs.self,wY hE hs kids want h,fRec_ren hE hs hp s kids h,fGet_ren hE hs hp x kids h,wT hE hs hp x want kids h,xa hE hs hp x s kids h,
  ua hp hE hs want kids h,fIf_ren hE hs kids want h,fLet_ren hE hs x kids want h,fCat_ren hE hs kids want h,ud hE hs kids h,wV hE hs x want kids h,
  pZ hE hs dB kids h,pZ hE hs cX kids h,jW hE hs (bTy 2) kids h,jW hE hs (bTy 3) kids h]
 have f:sc.vars.length=sc'.vars.length:=by have:=congrArg List.length hs.vars;simpa using this
 have d:((sc.vars[x.toNat]?).map (·.type))=(sc'.vars[x.toNat]?).map (·.type):=by rw[<-List.getElem?_map,<-List.getElem?_map,hs.vars]
 rw[f,d]
theorem iX {p p':Pg} {φ:Int->Int} (hp:Sig p p' φ):∀(d n n':Nat),d<=n->d<=n'->ERel p p' φ d (aa p n) (aa p' n')
 | 0,n,n',_,_,sc,sc',.mk op x m s kids,want,_,hd=>by rw[Ex.deep] at hd;omega
 | d+1,0,n',h,_,_,_,_,_,_,_=>by omega
 | d+1,n+1,0,_,h,_,_,_,_,_,_=>by omega
 | d+1,n+1,n'+1,h,h',sc,sc',.mk op x m s kids,want,hs,hd=>by
  rw[Ex.deep] at hd
  have hk:∀e∈kids,Ex.deep e<=d:=λe he=>by have:=fY kids e he;omega
  have hf:=form_ren hp (iX hp d n n' ω ω) hs op x s kids want hk
  rw[ren,lU,aa,aa]
  cases hr:bK op with
  | none=>rfl
  | some q =>
   obtain⟨k,nb,sb⟩:=q
   simp only[List.length_map]
   have hsh:bj k (if op=33\/op=34 then φ x else x) m s kids nb sb=bj k x m s kids nb sb:=by
    by_cases a:op=33\/op=34
    ·have b:nb=true:=by
      rcases a with rfl|rfl
      ·have:(-1,true,false)=(k,nb,sb):=Option.some.inj hr;simp only[Prod.mk.injEq] at this;exact this.2.1.symm
      have:(-1,true,false)=(k,nb,sb):=Option.some.inj hr;simp only[Prod.mk.injEq] at this;exact this.2.1.symm
     subst b;unfold bj;simp
    rw[if_neg a]
   rw[hsh,hf]
mutual
def renS (φ:Int->Int):St->St
 | .mk op n m s t xs thn els arms=>.mk op n m s t (rens φ xs) (lX φ thn) (lX φ els) (lX φ arms)
def lX (φ:Int->Int):List St->List St
 | []=>[]
 | x::xs=>renS φ x::lX φ xs
end
def eR (φ:Int->Int) (l:List St):lX φ l=l.map (renS φ):=by
 induction l with
 | nil=>rfl
 | cons x l ih=>rw[lX,ih];rfl
mutual
theorem renS_id:∀e:St,renS (λx=>x) e=e
 | .mk op n m s t xs thn els arms=>by rw[renS,qZ,jR,jR,jR]
theorem jR:∀l:List St,lX (λx=>x) l=l
 | []=>rfl
 | x::xs=>by rw[lX,renS_id,jR]
end
mutual
theorem wu (φ:Int->Int):∀e:St,(renS φ e).deep=e.deep
 | .mk op n m s t xs thn els arms=>by rw[renS,St.deep,St.deep,mM,jr,jr,jr]
theorem jr (φ:Int->Int):∀l:List St,St.deeps (lX φ l)=St.deeps l
 | []=>rfl
 | x::xs=>by rw[lX,St.deeps,St.deeps,wu,jr]
end
def oi (φ:Int->Int) (e:St):aJ (renS φ e)=aJ e:=by
 cases e with
 | mk op n m s t xs thn els arms=>rw[renS,lU,eR,eR,eR,aJ,aJ];simp only[List.length_map]
def renS_op (φ:Int->Int) (e:St):(renS φ e).op=e.op:=by cases e;rfl
def renS_n (φ:Int->Int) (e:St):(renS φ e).n=e.n:=by cases e;rfl
def renS_m (φ:Int->Int) (e:St):(renS φ e).m=e.m:=by cases e;rfl
def renS_thn (φ:Int->Int) (e:St):(renS φ e).thn=e.thn.map (renS φ):=by cases e;exact eR _ _
structure GOk (p:Pg) (G:Ty->Prop):Prop where
 arg:∀t u,G t->t.kind=5->u∈t.args->G u
 ref:∀s:Ê,s.data.toList∈p.acNames->G (refT s)
 fld:∀t cs c f,G t->varP p t=some cs->c∈cs->f∈c.fields->G f.type
structure ScG (G:Ty->Prop) (sc:Sc):Prop where
 bound:∀i t,sc.bound i=some t->G t
 vars:∀v∈sc.vars,G v.type
 act:0<=sc.actor
def EG (G:Ty->Prop) (E:EF):Prop:=∀sc e t,ScG G sc->E sc e none=some t->G t
def actP (p:Pg) (s:Ê):Option (List Fld):=match idxP p.acNames s.data.toList with|none=>none|some i=>(p.actors[i]?).map (·.params)
def effP (p:Pg) (s:Ê):Option (List Fld×Ty):=match idxP p.efNames s.data.toList with|none=>none|some i=>(p.effects[i]?).map λe=>(e.params,e.answer)
structure SigS (p p':Pg) (φ:Int->Int) (G:Ty->Prop):Prop where
 e:Sig p p' φ
 act:∀s,actP p s=actP p' s
 eff:∀s,effP p s=effP p' s
 hd:∀t msg,G t->t.kind=7->hdP p ((idxP p.acNames t.name.data.toList).getD 0) msg=hdP p' ((idxP p'.acNames t.name.data.toList).getD 0) msg
variable {G:Ty->Prop}
def ScG.set (h:ScG G sc) {i:Int} {t:Ty} (ht:G t):ScG G (sc.set i t):=
 ⟨λj u hu=>by
  by_cases e:j=i
  ·have hu':(if j=i then some t else sc.bound j)=some u:=hu
   rw[if_pos e] at hu';injection hu' with hu';exact hu'▸ht
  have hu':(if j=i then some t else sc.bound j)=some u:=hu
  rw[if_neg e] at hu';exact h.bound j u hu',h.vars,h.act⟩
def ScG.bind (h:ScG G sc) {i:Int} {t:Ty} (ht:G t) (hb:sc.bind i t=some sc'):ScG G sc':=by
 unfold Sc.bind at hb;split at hb
 ·injection hb with hb;subst hb;exact h.set ht
 cases hb
theorem ScG.bindAll:∀(fs:List Fld) (m:Int) {sc sc':Sc},ScG G sc->(∀f∈fs,G f.type)->bindAll sc m fs=some sc'->ScG G sc'
 | [],m,sc,sc',h,_,hb=>by rw[Go.Proofs.YtjohpidklbhmcaaGreatDoor.bindAll] at hb;injection hb with hb;exact hb▸h
 | f::fs,m,sc,sc',h,hf,hb=>by
  rw[Go.Proofs.YtjohpidklbhmcaaGreatDoor.bindAll] at hb
  cases hx:sc.bind m f.type with
  | none=>rw[hx] at hb;cases hb
  | some s1=>rw[hx] at hb;exact ScG.bindAll fs (m+1) (h.bind (hf f List.mem_cons_self) hx) (λg hg=>hf g (List.mem_cons_of_mem _ hg)) hb
section
variable {p p':Pg} {φ:Int->Int} {G:Ty->Prop} {sc sc':Sc}
def ScB (p p':Pg) (G:Ty->Prop) (a b:Int×Sc):Prop:=a.1=b.1/\ScEq p p' a.2 b.2/\ScG G a.2
def BRel (p p':Pg) (φ:Int->Int) (G:Ty->Prop) (n:Nat) (B B':Sc->List St->Bool):Prop:=∀sc sc' l,ScEq p p' sc sc'->ScG G sc->St.deeps l<=n->B sc l=B' sc' (l.map (renS φ))
variable {d n:Nat} {E E':EF} {B B':Sc->List St->Bool}
def gq (hs:ScEq p p' sc sc') (hg:ScG G sc) {b b':Bool} (h:b=b'):kM (ScB p p' G) (okSc b sc) (okSc b' sc'):=by
 subst h
 cases b with
 | false=>exact .inl ⟨rfl,rfl⟩
 | true=>exact .inr ⟨_,_,rfl,rfl,rfl,hs,hg⟩
def ko (hs:ScEq p p' sc sc') {f f':Ex->Bool} (h:∀x∈xs,f x=f' (ren φ x)):kU xs f=kU (xs.map (ren φ)) f':=by
 cases xs with
 | nil=>rfl
 | cons x xs=>exact h x List.mem_cons_self
def lp (hs:ScEq p p' sc sc') (hg:ScG G sc) {t:Ty} (ht:G t) (n:Int):kM (ScB p p' G) ((sc.bind n t).map λs1=>(n,s1)) ((sc'.bind n t).map λs1=>(n,s1)):=by
 rcases hs.bind n t with ⟨h1,h2⟩|⟨a,b,h1,h2,hr⟩
 ·rw[h1,h2];exact .inl ⟨rfl,rfl⟩
 have:=hg.bind ht h1;rw[h1,h2];exact .inr ⟨_,_,rfl,rfl,rfl,hr,this⟩
variable (hE:ERel p p' φ d E E') (hs:ScEq p p' sc sc') (hg:ScG G sc) (hEG:EG G E) (hp:SigS p p' φ G) (hG:GOk p G) (hB:BRel p p' φ G n B B')
include hE hs
theorem letP_ren (hg:ScG G sc) (hEG:EG G E) (x:Int) (xs:List Ex) (h:∀e∈xs,Ex.deep e<=d):kM (ScB p p' G) (letP E sc x xs) (letP E' sc' x (xs.map (ren φ))):=by
 match xs,h with
 | [],_=>exact .inl ⟨rfl,rfl⟩
 | e::es,h =>
  simp only[List.map_cons,letP];have a:=hE _ _ _ none hs (h e List.mem_cons_self);rw[<-a]
  cases hx:E sc e none with
  | none=>exact .inl ⟨rfl,rfl⟩
  | some t=>exact lp hs hg (hEG _ _ _ hg hx) x
theorem vV (x:Int) (xs:List Ex) (h:∀e∈xs,Ex.deep e<=d):nA E sc x xs=nA E' sc' x (xs.map (ren φ)):=by
 have b:sc.vars.length=sc'.vars.length:=by have:=congrArg List.length hs.vars;simpa using this
 have a:((sc.vars[x.toNat]?).map (·.type))=(sc'.vars[x.toNat]?).map (·.type):=by rw[<-List.getElem?_map,<-List.getElem?_map,hs.vars]
 unfold nA;rw[b];congr 1
 cases h1:sc.vars[x.toNat]? with
 | none=>rw[h1] at a;cases h2:sc'.vars[x.toNat]? with
  | none=>rfl
  | some v=>rw[h2] at a;cases a
 | some v=>rw[h1] at a;cases h2:sc'.vars[x.toNat]? with
  | none=>rw[h2] at a;cases a
  | some u =>
   rw[h2] at a;have:v.type=u.type:=by simpa using a
   simp only;rw[this];exact ko hs λe he=>dR hE hs (h e he) _
include hg hEG hp in
theorem pV (msg:Ê) (xs:List Ex) (h:∀e∈xs,Ex.deep e<=d):jG p E sc msg xs=jG p' E' sc' msg (xs.map (ren φ)):=by
 match xs,h with
 | [],_=>rfl
 | e::es,h =>
  simp only[List.map_cons,jG];rw[<-hE _ _ _ none hs (h e List.mem_cons_self)]
  cases hx:E sc e none with
  | none=>rfl
  | some t =>
   simp only;by_cases a:t.kind=7
   ·rw[if_pos a,if_pos a,hp.hd t msg (hEG _ _ _ hg hx) a]
    cases hdP p' _ msg with
    | none=>rfl
    | some fs=>exact en hE hs es fs λx hx=>h x (List.mem_cons_of_mem _ hx)
   rw[if_neg a,if_neg a]
include hg hp in
theorem doP_ren (s t:Ê) (xs:List Ex) (h:∀e∈xs,Ex.deep e<=d):doP p E sc s t xs=doP p' E' sc' s t (xs.map (ren φ)):=by
 have a:∀(q:Pg) (E:EF) (sc:Sc) (l:List Ex),doP q E sc s t l=match effP q s with|none=>false|some r=>bl E sc l r.1&&mo (hdP q sc.actor.toNat t) r.2:=by
  intro q E sc l;unfold doP effP
  cases idxP q.efNames s.data.toList with
  | none=>rfl
  | some i=>simp only;cases q.effects[i]?<;>rfl
 rw[a,a,hp.eff,hs.hd hg.act]
 cases effP p' s with
 | none=>rfl
 | some r=>simp only;rw[en hE hs xs _ h]
include hg hp hG in
theorem tC (n m:Int) (s:Ê) (xs:List Ex) (h:∀e∈xs,Ex.deep e<=d):kM (ScB p p' G) (cJ p E sc n m s xs) (cJ p' E' sc' n m s (xs.map (ren φ))):=by
 have b:∀(q:Pg) (E:EF) (sc:Sc) (l:List Ex),bL q E sc m s l=match actP q s with|none=>false|some r=>if m=0 then bl E sc l r else if m=1 then (match l with|[]=>false|x::xs=>isE E sc x (bTy 3)&&bl E sc xs r) else false:=by
  intro q E sc l;unfold bL actP
  cases idxP q.acNames s.data.toList with
  | none=>rfl
  | some i=>simp only;cases q.actors[i]?<;>rfl
 have g:bL p E sc m s xs=bL p' E' sc' m s (xs.map (ren φ)):=by
  rw[b,b,hp.act]
  cases actP p' s with
  | none=>rfl
  | some r =>
   simp only;rw[en hE hs xs _ h];match xs,h with
   | [],_=>rfl
   | x::xs,h=>simp only[List.map_cons];rw[dR hE hs (h x List.mem_cons_self),en hE hs xs _ λy hy=>h y (List.mem_cons_of_mem _ hy)]
 have f:bL p E sc m s xs=true->G (refT s):=λhb=>by
  rw[b] at hb;unfold actP at hb
  cases hi:idxP p.acNames s.data.toList with
  | none=>rw[hi] at hb;cases hb
  | some i=>exact hG.ref s (List.mem_of_getElem? (cg _ _ _ _ hi).2)
 unfold cJ;rw[<-g]
 cases hb:bL p E sc m s xs with
 | false=>exact .inl ⟨rfl,rfl⟩
 | true =>
  simp only[if_true];by_cases a:n=-1
  ·rw[if_pos a,if_pos a];exact .inr ⟨_,_,rfl,rfl,rfl,hs,hg⟩
  rw[if_neg a,if_neg a];exact lp hs hg (f hb) n
include hg hEG hG hB in
theorem wF (x:Int) (xs:List Ex) (thn:List St) (h:∀e∈xs,Ex.deep e<=d) (ht:St.deeps thn<=n):jH E B sc x xs thn=jH E' B' sc' x (xs.map (ren φ)) (thn.map (renS φ)):=by
 match xs,h with
 | [],_=>rfl
 | e::es,h =>
  simp only[List.map_cons,jH];rw[<-hE _ _ _ none hs (h e List.mem_cons_self)]
  cases hx:E sc e none with
  | none=>rfl
  | some t =>
   simp only;by_cases f:t.kind=5
   ·rw[if_pos f,if_pos f]
    cases ha:t.args with
    | nil=>rfl
    | cons u us =>
     have g:G u:=hG.arg t u (hEG _ _ _ hg hx) f (by rw[ha];simp);simp only[oG];rcases hs.bind x u with ⟨h1,h2⟩|⟨a,b,h1,h2,hr⟩
     ·rw[h1,h2]
     rw[h1,h2];exact hB _ _ _ hr (hg.bind g h1) ht
   rw[if_neg f,if_neg f]
end
def rP (a:St):St.deeps a.thn+1<=a.deep:=by cases a;simp only[St.thn,St.deep];omega
theorem nu {p p':Pg} {G:Ty->Prop} {ctors:List Ctr} {body body':Unit->Nat->Sc->Option Unit} (hc:∀c∈ctors,∀f∈c.fields,G f.type) (hb:∀st i sc sc',ScEq p p' sc sc'->ScG G sc->body st i sc=body' st i sc') {sc sc':Sc} (hs:ScEq p p' sc sc') (hg:ScG G sc) :
 ∀(rest:List (Int×Int)) (i:Nat) (seen:List Int) (st:Unit),bz sc ctors body i seen st rest=bz sc' ctors body' i seen st rest
 | [],i,seen,st=>rfl
 | (n,m)::rest,i,seen,st=>by
  have hbad:nF sc ctors seen n m=nF sc' ctors seen n m:=by unfold nF;rw[hs.slots]
  rw[fZ,fZ,hbad]
  split
  ·rfl
  rcases hs.bindAll (rI ctors n) m with ⟨h1,h2⟩|⟨a,b,h1,h2,hr⟩
  ·rw[h1,h2];rfl
  have hg1:ScG G a:=hg.bindAll _ _ (λf hf=>by
   unfold rI at hf
   split at hf
   ·cases hf
   split at hf
   ·cases hf
   rename_i c hcc;exact hc c (List.mem_of_getElem? hcc) f hf) h1
  rw[h1,h2]
  show (body st i a).bind _=(body' st i b).bind _
  rw[hb st i a b hr hg1]
  congr 1
  funext st'
  exact nu hc hb hs hg rest _ _ _
section
variable {p p':Pg} {φ:Int->Int} {G:Ty->Prop} {sc sc':Sc} {d n:Nat} {E E':EF} {B B':Sc->List St->Bool}
variable (hE:ERel p p' φ d E E') (hs:ScEq p p' sc sc') (hg:ScG G sc) (hEG:EG G E) (hp:SigS p p' φ G) (hG:GOk p G) (hB:BRel p p' φ G n B B')
include hE hs hg hEG hp hG hB
theorem uk (xs:List Ex) (arms:List St) (h:∀e∈xs,Ex.deep e<=d) (ha:St.deeps arms<=n):fO p E B sc xs arms=fO p' E' B' sc' (xs.map (ren φ)) (arms.map (renS φ)):=by
 match xs,h with
 | [],_=>rfl
 | e::es,h =>
  simp only[List.map_cons,fO];rw[<-hE _ _ _ none hs (h e List.mem_cons_self)]
  cases hx:E sc e none with
  | none=>rfl
  | some t =>
   simp only
   have k:((arms.map (renS φ)).all fP)=arms.all fP:=by
    rw[List.all_map];congr 1;funext a;show (decide ((renS φ a).op=5)&&aJ (renS φ a))=_;rw[renS_op,oi];rfl
   have j:((arms.map (renS φ)).map λa=>(a.n,a.m))=arms.map λa=>(a.n,a.m):=by
    rw[List.map_map];refine List.map_congr_left λa _=>?_;show ((renS φ a).n,(renS φ a).m)=_;rw[renS_n,renS_m]
   have g:bX p sc t (dr B arms) () (arms.map λa=>(a.n,a.m))=bX p' sc' t (dr B' (arms.map (renS φ))) () (arms.map λa=>(a.n,a.m)):=by
    unfold bX;rw[<-hp.e.var]
    cases hv:varP p t with
    | none=>rfl
    | some cs =>
     simp only;rw[nu (G:=G) (λc hc f hf=>hG.fld t cs c f (hEG _ _ _ hg hx) hv hc hf) (λst i s1 s2 hr hg1=>?_) hs hg];unfold dr;rw[List.getElem?_map]
     cases hq:arms[i]? with
     | none=>rfl
     | some a =>
      have b:a∈arms:=List.mem_of_getElem? hq;simp only[Option.map_some,renS_thn];rw[hB _ _ _ hr hg1 (by have:=il arms a b;have:=rP a;omega)]
   rw[k,j,g]
theorem vP (st:St) (hx:St.deep st<=d+1) (hn:St.deep st<=n+1):kM (ScB p p' G) (cG p E B sc st) (cG p' E' B' sc' (renS φ st)):=by
 cases st with
 | mk op x m s t xs thn els arms =>
  rw[St.deep] at hx hn;have b:∀e∈xs,Ex.deep e<=d:=λe he=>by have:=fY xs e he;omega
  rw[renS,lU,eR,eR,eR];unfold cG;simp only[List.drop_one,<-List.map_tail];have f:∀e∈xs.tail,Ex.deep e<=d:=λe he=>b e (List.mem_of_mem_tail he);by_cases a:op=1
  ·rw[if_pos a,if_pos a];exact letP_ren hE hs hg hEG x xs b
  rw[if_neg a,if_neg a];by_cases a:op=2
  ·rw[if_pos a,if_pos a];exact gq hs hg (vV hE hs x xs b)
  rw[if_neg a,if_neg a];by_cases a:op=3
  ·rw[if_pos a,if_pos a];exact gq hs hg (by rw[ko hs (f':=λx=>isE E' sc' x (bTy 2)) (λe he=>dR hE hs (b e he) (bTy 2)),hB _ _ _ hs hg ω,hB _ _ els hs hg ω])
  rw[if_neg a,if_neg a];by_cases a:op=4
  ·rw[if_pos a,if_pos a];exact gq hs hg (uk hE hs hg hEG hp hG hB xs arms b ω)
  rw[if_neg a,if_neg a];by_cases a:op=6
  ·rw[if_pos a,if_pos a];exact gq hs hg (wF hE hs hg hEG hG hB x xs thn b ω)
  rw[if_neg a,if_neg a];by_cases a:op=7
  ·rw[if_pos a,if_pos a];exact gq hs hg (pV hE hs hg hEG hp s xs b)
  rw[if_neg a,if_neg a];by_cases a:op=8
  ·rw[if_pos a,if_pos a];exact gq hs hg (by rw[ko hs (f':=λx=>isE E' sc' x (bTy 3)) (λe he=>dR hE hs (b e he) (bTy 3)),pV hE hs hg hEG hp s xs.tail f])
  rw[if_neg a,if_neg a];by_cases a:op=9
  ·rw[if_pos a,if_pos a];exact tC hE hs hg hp hG x m s xs b
  rw[if_neg a,if_neg a];by_cases a:op=10
  ·rw[if_pos a,if_pos a];exact gq hs hg (doP_ren hE hs hg hp s t xs b)
  rw[if_neg a,if_neg a];by_cases a:op=11
  ·rw[if_pos a,if_pos a];exact .inr ⟨_,_,rfl,rfl,rfl,hs,hg⟩
  rw[if_neg a,if_neg a];by_cases a:op=12
  ·rw[if_pos a,if_pos a];exact gq hs hg (ko hs (λe he=>dR hE hs (b e he) (bTy 4)))
  rw[if_neg a,if_neg a];exact .inl ⟨rfl,rfl⟩
end
theorem nc {p p':Pg} {φ:Int->Int} {G:Ty->Prop} {S S':Sc->St->Option (Int×Sc)}:∀(l:List St),(∀st∈l,∀sc sc',ScEq p p' sc sc'->ScG G sc->kM (ScB p p' G) (S sc st) (S' sc' (renS φ st)))->∀{sc sc':Sc},ScEq p p' sc sc'->ScG G sc->dt S sc l=dt S' sc' (l.map (renS φ))
 | [],_,_,_,_,_=>rfl
 | st::rest,h,sc,sc',hs,hg=>by
  rw[List.map_cons,dt,dt,oi]
  congr 1
  rcases h st List.mem_cons_self sc sc' hs hg with ⟨h1,h2⟩|⟨⟨i,a⟩,⟨j,b⟩,h1,h2,_,hr,hg1⟩
  ·rw[h1,h2]
  rw[h1,h2];exact nc rest (λx hx=>h x (List.mem_cons_of_mem _ hx)) hr hg1
theorem oe {p p':Pg} {φ:Int->Int} {G:Ty->Prop} (hp:SigS p p' φ G) (hG:GOk p G) {N N':Nat} (hEG:EG G (aa p N)):∀(d n n':Nat),d<=n->d<=n'->d<=N->d<=N'->BRel p p' φ G d (aF p N n) (aF p' N' n')
 | 0,n,n',_,_,_,_,sc,sc',l,hs,hg,hd=>by
  cases l with
  | nil=>cases n<;>cases n'<;>rfl
  | cons x l =>
   have:1<=St.deep x:=by cases x;rw[St.deep];omega
   rw[St.deeps] at hd;omega
 | d+1,0,_,h,_,_,_,_,_,_,_,_,_=>by omega
 | d+1,n+1,0,_,h,_,_,_,_,_,_,_,_=>by omega
 | d+1,n+1,n'+1,h,h',hN,hN',sc,sc',l,hs,hg,hd=>by
  rw[aF,aF]
  refine nc l (λst hst s1 s2 hr hg1=>?_) hs hg
  have:=il l st hst
  exact vP (d:=d) (n:=d) (iX hp.e d N N' ω ω) hr hg1 hEG hp hG (oe hp hG hEG d n n' ω ω ω ω) st ω ω
end
end
