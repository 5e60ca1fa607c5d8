/- Core -/
import Derived.Test.YtjohpidklbhmcaaGreatDoorZ5
namespace Go.Proofs.YtjohpidklbhmcaaGreatDoor
set_option linter.all false
open Proofs.Tryz RowKit Maps WideMaps ChangeMaps
set_option maxRecDepth 100000
set_option maxHeartbeats 2000000
def qH (n:Nat):∀(cs cs':List Value) (t t':Ex) (w:À) (r_:Bool),SizeOf.sizeOf t<=n->df t t'=r_->ExR w (lo w) cs t->ExR w (lo w) cs' t'->Calls prog 112 #[cs.toArray,.agg cs'.toArray] w (aE r_ w):=by
 induction n with
 | zero=>intro cs cs' t t' w r u;cases t;simp at u
 | succ n ih =>
  intro cs cs' t t' w r_ u L J y;subst L;obtain⟨o,x,m,s,a,A,q,rfl,rfl,-,-,b⟩:=dJ J;obtain⟨F,D,G,E,M,A',q',rfl,rfl,-,-,B⟩:=dJ y
  have R:Hid (∀(i:Nat) (h:i<a.length) (cs cs':List Value) (t':Ex) (W:À) (r:Bool),df a[i] t'=r->ExR W (lo W) cs a[i]->ExR W (lo W) cs' t'->Calls prog 112 #[cs.toArray,.agg cs'.toArray] W (aE r W)):=λi h cs cs' t' W r hq b h2 =>
   ih cs cs' a[i] t' W r (by have:=List.sizeOf_lt_of_mem (ν h);simp at u;omega) hq b h2
  clear ih u J y;obtain⟨f,p⟩:=γ (o==F)
  obtain⟨e,l⟩:=γ (x==D)
  obtain⟨d,k⟩:=γ (m==G)
  obtain⟨c,j⟩:=γ (bEq s E)
  obtain⟨v,g⟩:=γ (eqL df a M)
  have T:Hid (df (.mk o x m s a) (.mk F D G E M)=(f&&(e&&(d&&(c&&(v)))))):=by show _=_;rw[p,l,k,j,g];rw[df,wg]
  have O:=η b;have I:=η B;clear b B;have Z:(o==F)=f:=p.symm;have Y:(x==D)=e:=l.symm;have X:(m==G)=d:=k.symm;have V:(ByteArray.toList s==ByteArray.toList E)=c:=j.symm;have N:=η g.symm;clear p l k j g
  rcases ch5 f e d c v with rfl|⟨rfl,rfl⟩|⟨rfl,rfl,rfl⟩|⟨rfl,rfl,rfl,rfl⟩|⟨rfl,rfl,rfl,rfl,rfl⟩|⟨rfl,rfl,rfl,rfl,rfl⟩ <;>
   (go_in;go_wp2_with (go_at_call 148;refine (fB N (eqf_148 (SlR.to' O (ae ζ2) (λ_ _ x=>x.to (ae ζ2))) (SlR.to' I (ae ζ2) (λ_ _ x=>x.to (ae ζ2))) (λi hi hi' _ _ W r hq b h2=>R i hi _ _ _ W r hq b h2))).mono ?_;rintro aa U ⟨rfl,H⟩);go_ret;exact⟨by rw[T.o];first|rfl|(simp;done),by first|exact (bel ζ2 H)|exact ζ2⟩)
variable {cs cs':List Value} {r:Bool}
def jM {t t':Ex} {w:À} (hq:df t t'=r) (hr:ExR w (lo w) cs t) (hr':ExR w (lo w) cs' t'):Calls prog 112 #[cs.toArray,.agg cs'.toArray] w (aE r w):=qH _ cs cs' t t' w r (υ _) hq hr hr'
variable {A A':Option Addr}
def kD {q q':Nat} {a b:List St} {w:À} (hq:eqL cU a b=r) (h:StsR w (lo w) (.slice A a q) a) (h':StsR w (lo w) (.slice A' b q') b) (HC:∀(i:Nat) (hi:i<a.length) (cs cs':List Value) (t':St) (W:À) (r:Bool),cU a[i] t'=r->StR W (lo W) cs a[i]->StR W (lo W) cs' t'->Calls prog 196 #[cs.toArray,.agg cs'.toArray] W (aE r W)):Calls prog 149 #[.slice A a q,.slice A' b q'] w (aE r w):=by
 have HC:=η (fB hq (eqf_195 h h' (λi hi hi' _ _ W r hq h1 h2=>HC i hi _ _ _ W r hq h1 h2)));go_in;go_wp2_with (go_at_call 195;refine HC.mono ?_;rintro e d ⟨rfl,c⟩);go_ret;exact⟨rfl,c⟩
def qG (n:Nat):∀(cs cs':List Value) (t t':St) (w:À) (r_:Bool),SizeOf.sizeOf t<=n->cU t t'=r_->StR w (lo w) cs t->StR w (lo w) cs' t'->Calls prog 196 #[cs.toArray,.agg cs'.toArray] w (aE r_ w):=by
 induction n with
 | zero=>intro cs cs' t t' w r O;cases t;simp at O
 | succ n ih =>
  intro cs cs' t t' w r_ O ay hr ac;subst ay;obtain⟨o,x,m,s,u,y,h,e,a,D0,d0,D1,d1,D2,d2,D3,d3,rfl,rfl,-,-,-,g,f,h3,h4⟩:=kA hr;obtain⟨o',x',m',s',u',y',h',e',a',b1,bt,b0,bs,bz,br,bx,bq,rfl,rfl,-,-,-,ah,ag,af,ad⟩:=kA ac
  have IH:Hid (∀(l:List St),SizeOf.sizeOf l<=n->∀(l':List St) (A A':Option Addr) (q q':Nat) (W:À) (r:Bool),eqL cU l l'=r->StsR W (lo W) (.slice A l q) l->StsR W (lo W) (.slice A' l' q') l'->Calls prog 149 #[.slice A l q,.slice A' l' q'] W (aE r W)):=λl hl l' A A' q q' W r hq g f =>
   kD hq g f (λi hi cs cs' t' W r hq g f=>ih cs cs' l[i] t' W r (by have:=List.sizeOf_lt_of_mem (ν hi);omega) hq g f)
  have N:=η (show SizeOf.sizeOf h<=n/\SizeOf.sizeOf e<=n/\SizeOf.sizeOf a<=n by simp at O;omega);clear ih O hr ac;obtain⟨B,M⟩:=γ (o==o')
  obtain⟨v,L⟩:=γ (x==x')
  obtain⟨p,J⟩:=γ (m==m')
  obtain⟨k,I⟩:=γ (bEq s s')
  obtain⟨j,H⟩:=γ (bEq u u')
  obtain⟨ab,G⟩:=γ (eqL df y y')
  obtain⟨aa,F⟩:=γ (eqL cU h h')
  obtain⟨Z,E⟩:=γ (eqL cU e e')
  obtain⟨Y,D⟩:=γ (eqL cU a a')
  have HV:Hid (cU (.mk o x m s u y h e a) (.mk o' x' m' s' u' y' h' e' a')=(B&&(v&&(p&&(k&&(j&&(ab&&(aa&&(Z&&(Y)))))))))):=by show _=_;rw[M,L,J,I,H,G,F,E,D];rw[cU,mL,mL,mL]
  have bb:=η g;have au:=η ah;have ba:=η f;have ar:=η ag;have a9:=η h3;have aq:=η af;have a8:=η h4;have ap:=η ad;clear g ah f ag h3 af h4 ad;have bl:(o==o')=B:=M.symm;have bk:(x==x')=v:=L.symm;have bj:(m==m')=p:=J.symm;have bi:(ByteArray.toList s==ByteArray.toList s')=k:=I.symm;have bh:(ByteArray.toList u==ByteArray.toList u')=j:=H.symm;obtain⟨a7,a6,a5,a4⟩:=zd4 G.symm F.symm E.symm D.symm;clear M L J I H G F E D
  rcases ch9 B v p k j ab aa Z Y with rfl|⟨rfl,rfl⟩|⟨rfl,rfl,rfl⟩|⟨rfl,rfl,rfl,rfl⟩|⟨rfl,rfl,rfl,rfl,rfl⟩|⟨rfl,rfl,rfl,rfl,rfl,rfl⟩|⟨rfl,rfl,rfl,rfl,rfl,rfl,rfl⟩|⟨rfl,rfl,rfl,rfl,rfl,rfl,rfl,rfl⟩|⟨rfl,rfl,rfl,rfl,rfl,rfl,rfl,rfl,rfl⟩|⟨rfl,rfl,rfl,rfl,rfl,rfl,rfl,rfl,rfl⟩ <;>
   (go_in;go_wp2_with (first|(go_at_call 148;refine (fB a7 (eqf_148 (SlR.to' bb (ae ζ2) (λ_ _ x=>x.to (ae ζ2))) (SlR.to' au (ae ζ2) (λ_ _ x=>x.to (ae ζ2))) (λi hi hi' _ _ W r hq g f=>jM hq g f))).mono ?_;rintro bp X ⟨rfl,b⟩;have bw:=jJ b;have T:w.heap.size+1<X:=(by have:=b.size;simp at this;omega);have bf:w.heap.size<X:=Nat.lt_of_succ_lt T)|(go_at_call 149;refine (IH _ N.1 _ _ _ _ _ _ _ a6 (StsR.to ba (ae (bel ζ2 b))) (StsR.to ar (ae (bel ζ2 b)))).mono ?_;rintro bo V ⟨rfl,c⟩;have bv:=jJ c;have R:w.heap.size+1<V:=ρ T c.size;have be:w.heap.size<V:=Nat.lt_of_succ_lt R)|(go_at_call 149;refine (IH _ N.2.1 _ _ _ _ _ _ _ a5 (StsR.to a9 (ae (bel (bel ζ2 b) c))) (StsR.to aq (ae (bel (bel ζ2 b) c)))).mono ?_;rintro bn U ⟨rfl,d⟩;have bu:=jJ d;have av:w.heap.size+1<U:=ρ R d.size)|(go_at_call 149;refine (IH _ N.2.2 _ _ _ _ _ _ _ a4 (StsR.to a8 (ae (bel (bel (bel ζ2 b) c) d))) (StsR.to ap (ae (bel (bel (bel ζ2 b) c) d)))).mono ?_;rintro bm bg ⟨rfl,an⟩));go_ret;exact⟨by rw[HV.o];first|rfl|(simp;done),by first|exact (bel (bel (bel (bel ζ2 b) c) d) an)|exact (bel (bel (bel ζ2 b) c) d)|exact (bel (bel ζ2 b) c)|exact (bel ζ2 b)|exact ζ2⟩)
def rR {t t':St} {w:À} (hq:cU t t'=r) (hr:StR w (lo w) cs t) (hr':StR w (lo w) cs' t'):Calls prog 196 #[cs.toArray,.agg cs'.toArray] w (aE r w):=qG _ cs cs' t t' w r (υ _) hq hr hr'
def qD {q q':Nat} {a b:List St} {w:À} (hq:eqL cU a b=r) (h:StsR w (lo w) (.slice A a q) a) (h':StsR w (lo w) (.slice A' b q') b):Calls prog 149 #[.slice A a q,.slice A' b q'] w (aE r w):=kD hq h h' λi hi _ _ _ W r hq h1 h2=>rR hq h1 h2
