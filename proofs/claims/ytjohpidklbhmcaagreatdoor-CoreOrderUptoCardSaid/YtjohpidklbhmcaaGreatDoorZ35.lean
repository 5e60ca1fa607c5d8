/- Core -/
import Derived.Test.YtjohpidklbhmcaaGreatDoorZ25
import Derived.Test.YtjohpidklbhmcaaGreatDoorZ11
import Derived.Test.YtjohpidklbhmcaaGreatDoorZ12
import Derived.Test.YtjohpidklbhmcaaGreatDoorZ33
namespace Go.Proofs.YtjohpidklbhmcaaGreatDoor
set_option linter.all false
open Proofs.Tryz RowKit Maps WideMaps ChangeMaps
set_option maxRecDepth 100000
set_option maxHeartbeats 2000000
section
variable {c:CB} {p:Pg} {mb n:Nat} {own:Nat->Prop} {sb:Nat} {sc:Sc} {A:Option Addr} {kids:List Ex} {cap:Nat} {wv:Value} {want:Option Ty} {w:À} (IH:xG c p mb n) (hF:aO p n) (hd:∀k∈kids,Ex.deep k<=n) (he:Env w own mb sb c p sc) (ho:ScOk p sc) (hx:ExsR w (im own w) (.slice A kids cap) kids) (hw:WantR w (im own w) wv want) (hwo:aL want)
include IH hF hd he ho hx hw hwo
theorem xo {op x m:Int} {s:Ê} (hxk:¬(x=1\/x=2\/x=3\/x=4\/x=5\/x=6\/x=7)):
 Calls prog 187 #[c.b,sb,ex5 op x m s A kids cap,wv] w (ResF w own mb sb sc (aP (aa p n) sc x want kids)):=by
 have M:=η hxk;clear hxk;obtain⟨bi,HD,HF,bh,HO,HW⟩:=zd6 IH hd hF ho he.mb.1 hwo;have Z:=he.mb.2;have al:=hx.cap;have a4:=hx.le9;obtain⟨a,d⟩:=γ ((w.alloc (.cells #[op,x,m,s,.slice A kids cap] 43)).alloc (.cells #[(0:Int),"",()] 40))
 have V:Below w w a:=by rw[d];exact ζ2
 have bd:w.heap.size+2=a:=by rw[d];simp
 have H:Hs a (w+1) 40 z3:=by rw[d];exact Hs.new' _ _ _
 have l:Hs a w 43 (ex5 op x m s A kids cap):=by rw[d];exact (Hs.new _ _ _).alloc _
 obtain⟨D,BX,BB,ad,HE,ag,ae⟩:=zd7 H l V (Stm.of_below (mb:=mb) V) he hx hw;have b4:=l.c 4;have af:=η d;clear hd he ho hx hw hwo IH hF d V H l;go_in;go_upto_region 1 with fail;rw[<-af.o];by_cases R:kids.length=0
 ·have U:Hid (aP (aa p n) sc x want kids=none):=by
   show _=_;match kids,R with
   | [],_=>rfl
  have X:((kids.length:Int)==0)=true:=beq_iff_eq.2 ω;clear R;obtain⟨z0,z1,z2,q0,q1,q2⟩:=D.facts;go_wp2;rw[U.o];exact bodyPost_ret (am results187 _ _ (w+1) _ _ _ _ _ rfl (D.set3 _ _ _ _ _)) rfl (aB ad ω ω)
 have X:((kids.length:Int)==0)=false:=beq_eq_false_iff_ne.2 ω;have Y:0<kids.length:=ω;have HV:=η (gA (E:=aa p n) (sc:=sc) (x:=x) (want:=want) Y);clear R;go_upto_region 4 with fail;obtain⟨e,i,B,_⟩:=κ a #[(0:Int),"",()] 40
 have a3:a.heap.size+1=e:=by rw[i];simp
 have J:Hs e a 40 z3:=by rw[i];exact Hs.new _ _ _
 have z:=bel BB B;obtain⟨bk,ac⟩:=zd2 z (Stm.of_below (mb:=mb) z);have y:Hid (Pm e own w mb w (w+1) (ex5 op x m s A kids cap)):=⟨ac,(B.block _ BX.lt).trans BX,(B.block _ D.lt).trans D⟩
 have O:=η J;have f:Sub (im own w) (im (plus (plus own (w+1)) a) e) w e:=eg z ω ω;obtain⟨ah,bf⟩:=zd2 (ExsR.to ag f) (ae.to f);rw[<-i];clear i B J z f b4 X;have b1:=y.bx.c 1;go_upto_block 0 with fail;obtain⟨r,j⟩:=γ (aY (aa p n) sc x want kids[0])
 have T:=η j;clear j;go_cut [11] (λv W=>Hid (Fst own w mb sb w (w+1) a (ex5 op x m s A kids cap) sc r v W))
 case first =>
  have b4:=y.bx.c 4;obtain⟨g,bb,o1,x1,m1,s1,a1,B,be,rfl,hg,e1,p0,p1,p2,p3,p4,j⟩:=aQ ah Y;simp only[Nat.zero_mul,Nat.add_zero] at p0 p1 p2 p3 p4;clear j e1;have F:=M.o;have N:Hid (r=none):=by show _=_;rw[T.o];exact pp F
  have x1:(x==1)=false:=beq_eq_false_iff_ne.2 ω;have x2:(x==2)=false:=beq_eq_false_iff_ne.2 ω;have x3:(x==3)=false:=beq_eq_false_iff_ne.2 ω;have x4:(x==4)=false:=beq_eq_false_iff_ne.2 ω;have x5:(x==5)=false:=beq_eq_false_iff_ne.2 ω;have x6:(x==6)=false:=beq_eq_false_iff_ne.2 ω;have x7:(x==7)=false:=beq_eq_false_iff_ne.2 ω;clear F;go_wp2;go_meet;exact⟨by rw[N.o];rfl,y,_,_,_,_,_,O,λt h=>by rw[N.o] at h;cases h⟩
 case rest =>
 obtain⟨rfl,I,k3,s3,A3,n3,a6,L,G⟩:=hcut.o;obtain⟨u,aj,bg⟩:=zd3 I L G;clear hcut I L G b1;obtain⟨w3,rfl⟩:=γ wc
 cases r with
 | none =>
  have U:Hid (aP (aa p n) sc x want kids=none):=by show _=_;rw[HV.o,<-T.o]
  obtain⟨z0,z1,z2,q0,q1,q2⟩:=u.rs.facts;go_wp2;rw[U.o];exact bodyPost_ret (am results187 _ _ (w+1) _ _ _ _ _ rfl (u.rs.set3 _ _ _ _ _)) rfl (aB u.st ω ω)
 | some t=>exact absurd T.o (by rw[pp M.o];simp)
theorem clo_prim {op x m:Int} {s:Ê}:
 Calls prog 187 #[c.b,sb,ex5 op x m s A kids cap,wv] w (ResF w own mb sb sc (aP (aa p n) sc x want kids)):=by
 by_cases h:x=1\/x=2\/x=3\/x=4\/x=5\/x=6\/x=7
 ·rcases h with h|h|h|h|h|h|h
  ·exact clo_prim1 IH hF hd he ho hx hw hwo h
  ·exact clo_prim2 IH hF hd he ho hx hw hwo h
  ·exact clo_prim3 IH hF hd he ho hx hw hwo h
  ·exact clo_prim4 IH hF hd he ho hx hw hwo h
  ·exact clo_prim5 IH hF hd he ho hx hw hwo h
  ·exact clo_prim6 IH hF hd he ho hx hw hwo h
  exact clo_prim7 IH hF hd he ho hx hw hwo h
 exact xo IH hF hd he ho hx hw hwo h
end
def fS {k x m:Int} {s:Ê} {len:Nat} {nb sb:Bool} (h:bj k x m s len nb sb=true) (hk:k≠-1):(len:Int)=k:=by
 unfold bj at h;simp only[τ,Bool.not_eq_true',Bool.and_eq_false_iff,decide_eq_false_iff_not,Decidable.not_not] at h;rcases h.1 with h1|h1
 ·exact absurd h1 hk
 exact h1
def ite_of {c:Prop} [Decidable c] {A B C:Prop} (h:if c then A else B) (ha:A->C) (hb:B->C):C:=by
 by_cases e:c
 ·rw[if_pos e] at h;exact ha h
 rw[if_neg e] at h;exact hb h
def clo_form {w:À} {Q:Nat->Prop} {c:CB} {op:Int} {fv:Value} (h:CloR w Q c op fv):∃f first caps,fv=.func (.func f) first caps:=by
 unfold CloR at h;repeat (refine ite_of h (λh=>by first|(obtain⟨g,a,r,e,_⟩:=h;exact⟨_,_,_,e⟩)|(obtain⟨g,e,_⟩:=h;exact⟨_,_,_,e⟩)|exact⟨_,_,_,h⟩) (λh=>?_))
 exact h.elim
def bN (fv:Value) (args:Array Value) (W:À) (Q:Ending->À->Prop):Prop:=
 ∃f first caps,fv=.func (.func f) first caps/\(∀a W',(callFunc f a).run prog W'=.ok (.enter f a) W')/\Calls prog f (first++(args++caps)) W Q
def oy {w w':À} {own:Nat->Prop} {mb sb:Nat} {sc:Sc} {b:Bool} {e:Ending} (he:e=.returned (b:Vl)) (hb:Below w w w') (hs:ScS w own mb sb sc):ResB w own mb sb sc b e w':=⟨he,Stm.of_below hb,λ_=>hs.below hb⟩
section
variable {c:CB} {p:Pg} {mb n:Nat} {own:Nat->Prop} {sb:Nat} {sc:Sc} {op x m:Int} {s:Ê} {A:Option Addr} {kids:List Ex} {cap:Nat} {wv:Value} {want:Option Ty} {w:À} {fv:Value} {k:Int} {nb sb':Bool} (IH:xG c p mb n) (hF:aO p n) (hFi:Fine p) (hn:n<=1000000000) (hd:∀k∈kids,Ex.deep k<=n) (hlk:kids<=n) (he:Env w own mb sb c p sc) (ho:ScOk p sc) (hx:ExsR w (im own w) (.slice A kids cap) kids) (hw:WantR w (im own w) wv want) (hwo:aL want) (hix:i64 x) (hss:s.size<=maxLen) (hcl:CloR w (im own w) c op fv) (hk:bK op=some (k,nb,sb')) (hsh:bj k x m s kids nb sb'=true)
include IH hF hFi hn hd hlk he ho hx hw hwo hix hss hcl hk hsh
theorem rule_7 (hop:op=7):
 bN fv #[sb,ex5 op x m s A kids cap,wv] w (ResF w own mb sb sc (bP p (aa p n) sc op x s kids want)):=by
 subst hop;obtain⟨g,rfl,b,d⟩:CapR w (im own w) c 163 fv:=hcl;exact⟨163,#[],#[_],rfl,(λa W'=>by kernel_rfl),clo_self he ho b d⟩
theorem rule_9 (hop:op=9):
 bN fv #[sb,ex5 op x m s A kids cap,wv] w (ResF w own mb sb sc (bP p (aa p n) sc op x s kids want)):=by
 subst hop;obtain⟨g,rfl,b,d⟩:CapR w (im own w) c 165 fv:=hcl;exact⟨165,#[],#[_],rfl,(λa W'=>by kernel_rfl),clo_rec IH hF hFi hd he ho b d hx hw hwo hix hss⟩
theorem rule_10 (hop:op=10):
 bN fv #[sb,ex5 op x m s A kids cap,wv] w (ResF w own mb sb sc (bP p (aa p n) sc op x s kids want)):=by
 subst hop;obtain⟨g,rfl,d,e⟩:CapR w (im own w) c 169 fv:=hcl;obtain rfl:1=k:=by have:=hk;simp[bK] at this;exact this.1
 have f:=fS hsh π;have b:kids.length=1:=ω;exact⟨169,#[],#[_],rfl,(λa W'=>by kernel_rfl),clo_get IH hF hFi hd he ho d e hx hw hwo hix hss b⟩
theorem rule_11 (hop:op=11):
 bN fv #[sb,ex5 op x m s A kids cap,wv] w (ResF w own mb sb sc (bP p (aa p n) sc op x s kids want)):=by
 subst hop;obtain⟨g,rfl,d,e⟩:CapR w (im own w) c 171 fv:=hcl;obtain rfl:2=k:=by have:=hk;simp[bK] at this;exact this.1
 have f:=fS hsh π;have b:kids.length=2:=ω;exact⟨171,#[],#[_],rfl,(λa W'=>by kernel_rfl),clo_with IH hF hFi hd he ho d e hx hw hwo hix hss b⟩
theorem rule_12 (hop:op=12):
 bN fv #[sb,ex5 op x m s A kids cap,wv] w (ResF w own mb sb sc (bP p (aa p n) sc op x s kids want)):=by
 subst hop;obtain⟨g,rfl,b,d⟩:CapR w (im own w) c 172 fv:=hcl;exact⟨172,#[],#[_],rfl,(λa W'=>by kernel_rfl),clo_ctor IH hF hFi hd he ho b d hx hw hwo hix hss⟩
theorem rule_15 (hop:op=15):
 bN fv #[sb,ex5 op x m s A kids cap,wv] w (ResF w own mb sb sc (bP p (aa p n) sc op x s kids want)):=by
 subst hop;obtain⟨g,rfl,d,e⟩:CapR w (im own w) c 175 fv:=hcl;obtain rfl:3=k:=by have:=hk;simp[bK] at this;exact this.1
 have f:=fS hsh π;have b:kids.length=3:=ω;exact⟨175,#[],#[_],rfl,(λa W'=>by kernel_rfl),clo_if IH hF hd he ho d e hx hw hwo b⟩
theorem rule_25 (hop:op=25):
 bN fv #[sb,ex5 op x m s A kids cap,wv] w (ResF w own mb sb sc (bP p (aa p n) sc op x s kids want)):=by
 subst hop;obtain⟨g,rfl,d,e⟩:CapR w (im own w) c 182 fv:=hcl;obtain rfl:2=k:=by have:=hk;simp[bK] at this;exact this.1
 have f:=fS hsh π;have b:kids.length=2:=ω;exact⟨182,#[],#[_],rfl,(λa W'=>by kernel_rfl),clo_cat IH hF hFi hd he ho d e hx hw hwo hix hss b⟩
theorem rule_32 (hop:op=32):
 bN fv #[sb,ex5 op x m s A kids cap,wv] w (ResF w own mb sb sc (bP p (aa p n) sc op x s kids want)):=by
 subst hop;obtain⟨g,rfl,d,e⟩:CapR w (im own w) c 177 fv:=hcl;obtain rfl:2=k:=by have:=hk;simp[bK] at this;exact this.1
 have f:=fS hsh π;have b:kids.length=2:=ω;exact⟨177,#[],#[_],rfl,(λa W'=>by kernel_rfl),clo_let IH hF hFi hd he ho d e hx hw hwo hix hss b⟩
theorem rule_33 (hop:op=33):
 bN fv #[sb,ex5 op x m s A kids cap,wv] w (ResF w own mb sb sc (bP p (aa p n) sc op x s kids want)):=by
 subst hop;obtain⟨g,rfl,b,d⟩:CapR w (im own w) c 184 fv:=hcl;exact⟨184,#[],#[_],rfl,(λa W'=>by kernel_rfl),clo_call IH hF hFi hd he ho b d hx hw hwo hix hss⟩
theorem rule_34 (hop:op=34):
 bN fv #[sb,ex5 op x m s A kids cap,wv] w (ResF w own mb sb sc (bP p (aa p n) sc op x s kids want)):=by
 subst hop;obtain⟨g,rfl,b,d⟩:CapR w (im own w) c 185 fv:=hcl;exact⟨185,#[],#[_],rfl,(λa W'=>by kernel_rfl),clo_fun IH hF hFi hd he ho b d hx hw hwo hix hss (λf hf=>(hFi.funs f hf).2.2)⟩
theorem rule_35 (hop:op=35):
 bN fv #[sb,ex5 op x m s A kids cap,wv] w (ResF w own mb sb sc (bP p (aa p n) sc op x s kids want)):=by
 subst hop;obtain⟨g,rfl,b,d⟩:CapR w (im own w) c 186 fv:=hcl;exact⟨186,#[],#[_],rfl,(λa W'=>by kernel_rfl),xr IH hF hFi hd he ho b d hx hw hwo hix hss⟩
theorem rule_8 (hop:op=8):
 bN fv #[sb,ex5 op x m s A kids cap,wv] w (ResF w own mb sb sc (bP p (aa p n) sc op x s kids want)):=by
 subst hop;obtain rfl:BndR c 164 fv:=hcl;exact⟨164,#[_],#[],rfl,(λa W'=>by kernel_rfl),clo_list IH hF hd he ho hx hw hwo⟩
theorem rule_13 (hop:op=13):
 bN fv #[sb,ex5 op x m s A kids cap,wv] w (ResF w own mb sb sc (bP p (aa p n) sc op x s kids want)):=by
 subst hop;obtain rfl:BndR c 174 fv:=hcl;exact⟨174,#[_],#[],rfl,(λa W'=>by kernel_rfl),xp IH hF hFi hd ω he ho hx hw hwo⟩
theorem rule_36 (hop:op=36):
 bN fv #[sb,ex5 op x m s A kids cap,wv] w (ResF w own mb sb sc (bP p (aa p n) sc op x s kids want)):=by
 subst hop;obtain rfl:BndR c 187 fv:=hcl;exact⟨187,#[_],#[],rfl,(λa W'=>by kernel_rfl),clo_prim IH hF hd he ho hx hw hwo⟩
theorem rule_5 (hop:op=5):
 bN fv #[sb,ex5 op x m s A kids cap,wv] w (ResF w own mb sb sc (bP p (aa p n) sc op x s kids want)):=by
 subst hop;obtain rfl:fv=.func (.func 160) #[] #[]:=hcl;exact⟨160,#[],#[],rfl,(λa W'=>by kernel_rfl),xq he hix⟩
theorem rule_6 (hop:op=6):
 bN fv #[sb,ex5 op x m s A kids cap,wv] w (ResF w own mb sb sc (bP p (aa p n) sc op x s kids want)):=by
 subst hop;obtain rfl:fv=.func (.func 161) #[] #[]:=hcl;exact⟨161,#[],#[],rfl,(λa W'=>by kernel_rfl),clo_state he⟩
theorem rule_1 (hop:op=1):
 bN fv #[sb,ex5 op x m s A kids cap,wv] w (ResF w own mb sb sc (bP p (aa p n) sc op x s kids want)):=by
 subst hop;obtain⟨g,h,r,rfl,f,e,d,b,rfl⟩:FixR w (im own w) 1 (λr=>r=.func (.func 156) #[] #[]) fv:=hcl;exact⟨197,#[],#[_,_],rfl,(λa W'=>by kernel_rfl),fixed156 he hx Ψ f e d b (λW hb hs=>(c1_any sb _ x m s A kids cap W).mono λ_ _ hx=>oy hx.1 hx.2 (he.plus hb (Nat.le_succ _) hs).sco)⟩
theorem rule_2 (hop:op=2):
 bN fv #[sb,ex5 op x m s A kids cap,wv] w (ResF w own mb sb sc (bP p (aa p n) sc op x s kids want)):=by
 subst hop;obtain⟨g,h,r,rfl,f,e,d,b,rfl⟩:FixR w (im own w) 2 (λr=>r=.func (.func 157) #[] #[]) fv:=hcl;exact⟨197,#[],#[_,_],rfl,(λa W'=>by kernel_rfl),fixed157 he hx Ψ f e d b (λW hb hs=>(c2_any sb _ x m s A kids cap W).mono λ_ _ hx=>oy hx.1 hx.2 (he.plus hb (Nat.le_succ _) hs).sco)⟩
theorem rule_3 (hop:op=3):
 bN fv #[sb,ex5 op x m s A kids cap,wv] w (ResF w own mb sb sc (bP p (aa p n) sc op x s kids want)):=by
 subst hop;obtain⟨g,h,r,rfl,f,e,d,b,rfl⟩:FixR w (im own w) 3 (λr=>r=.func (.func 158) #[] #[]) fv:=hcl;exact⟨197,#[],#[_,_],rfl,(λa W'=>by kernel_rfl),fixed158 he hx Ψ f e d b (λW hb hs=>(c3_any sb _ x m s A kids cap W).mono λ_ _ hx=>oy hx.1 hx.2 (he.plus hb (Nat.le_succ _) hs).sco)⟩
theorem rule_4 (hop:op=4):
 bN fv #[sb,ex5 op x m s A kids cap,wv] w (ResF w own mb sb sc (bP p (aa p n) sc op x s kids want)):=by
 subst hop;obtain⟨g,h,r,rfl,f,e,d,b,rfl⟩:FixR w (im own w) 4 (λr=>r=.func (.func 159) #[] #[]) fv:=hcl;exact⟨197,#[],#[_,_],rfl,(λa W'=>by kernel_rfl),fixed159 he hx Ψ f e d b (λW hb hs=>(c4_any sb _ x m s A kids cap W).mono λ_ _ hx=>oy hx.1 hx.2 (he.plus hb (Nat.le_succ _) hs).sco)⟩
theorem tQ (hop:op=16\/op=17\/op=18):
 bN fv #[sb,ex5 op x m s A kids cap,wv] w (ResF w own mb sb sc (bP p (aa p n) sc op x s kids want)):=by
 have e:FixR w (im own w) 2 (KidsR w (im own w) c 2) fv:=by rcases hop with rfl|rfl|rfl<;>exact hcl
 have j:bP p (aa p n) sc op x s kids want=fixT 2 (ic (aa p n) sc 2 kids):=by rcases hop with rfl|rfl|rfl<;>rfl
 rw[j];obtain⟨g,h,r,rfl,u,t,i,f,y,v,rfl,d,b,q,l⟩:=e;refine⟨197,#[],#[_,_],rfl,(λa W'=>by kernel_rfl),fixed200 he hx Ψ u t i f (λW hb hs=>?_)⟩;have S:=aV (own:=own) (g:=w+1) hb (Nat.le_succ _);exact uW IH hd (he.plus hb (Nat.le_succ _) hs) ho (ExsR.to hx S) ω (S _ d).1 (S _ b).1 (au q S d) (au l S b)
theorem tP (hop:op=19\/op=20\/op=21\/op=22\/op=23\/op=24):
 bN fv #[sb,ex5 op x m s A kids cap,wv] w (ResF w own mb sb sc (bP p (aa p n) sc op x s kids want)):=by
 have e:FixR w (im own w) 3 (KidsR w (im own w) c 3) fv:=by rcases hop with rfl|rfl|rfl|rfl|rfl|rfl<;>exact hcl
 have j:bP p (aa p n) sc op x s kids want=fixT 3 (ic (aa p n) sc 3 kids):=by rcases hop with rfl|rfl|rfl|rfl|rfl|rfl<;>rfl
 rw[j];obtain⟨g,h,r,rfl,u,t,i,f,y,v,rfl,d,b,q,l⟩:=e;refine⟨197,#[],#[_,_],rfl,(λa W'=>by kernel_rfl),fixed200 he hx Ψ u t i f (λW hb hs=>?_)⟩;have S:=aV (own:=own) (g:=w+1) hb (Nat.le_succ _);exact uW IH hd (he.plus hb (Nat.le_succ _) hs) ho (ExsR.to hx S) ω (S _ d).1 (S _ b).1 (au q S d) (au l S b)
theorem tN (hop:op=26\/op=27):
 bN fv #[sb,ex5 op x m s A kids cap,wv] w (ResF w own mb sb sc (bP p (aa p n) sc op x s kids want)):=by
 have e:FixR w (im own w) 2 (PairR w (im own w) c 139) fv:=by rcases hop with rfl|rfl<;>exact hcl
 have q:bP p (aa p n) sc op x s kids want=fixT 2 (gd (aa p n) sc dB kids):=by rcases hop with rfl|rfl<;>rfl
 have f:kids.length=2:=by
  have i:bK op=some (2,false,false):=by rcases hop with rfl|rfl<;>rfl
  rw[i] at hk;obtain rfl:2=k:=by simp at hk;exact hk.1
  have z:=fS hsh π;omega
 rw[q];obtain⟨g,h,r,rfl,y,v,l,j,D,B,rfl,d,b,u,t⟩:=e;refine⟨197,#[],#[_,_],rfl,(λa W'=>by kernel_rfl),fixed201 he hx Ψ y v l j (λW hb hs=>?_)⟩;have S:=aV (own:=own) (g:=w+1) hb (Nat.le_succ _);exact pair_storP IH hF hd (he.plus hb (Nat.le_succ _) hs) ho (ExsR.to hx S) f (S _ d).1 (S _ b).1 (au u S d) (au t S b)
theorem tO (hop:op=28\/op=29\/op=30\/op=31):
 bN fv #[sb,ex5 op x m s A kids cap,wv] w (ResF w own mb sb sc (bP p (aa p n) sc op x s kids want)):=by
 have e:FixR w (im own w) 2 (PairR w (im own w) c 181) fv:=by rcases hop with rfl|rfl|rfl|rfl<;>exact hcl
 have q:bP p (aa p n) sc op x s kids want=fixT 2 (gd (aa p n) sc cX kids):=by rcases hop with rfl|rfl|rfl|rfl<;>rfl
 have f:kids.length=2:=by
  have i:bK op=some (2,false,false):=by rcases hop with rfl|rfl|rfl|rfl<;>rfl
  rw[i] at hk;obtain rfl:2=k:=by simp at hk;exact hk.1
  have z:=fS hsh π;omega
 rw[q];obtain⟨g,h,r,rfl,y,v,l,j,D,B,rfl,d,b,u,t⟩:=e;refine⟨197,#[],#[_,_],rfl,(λa W'=>by kernel_rfl),fixed201 he hx Ψ y v l j (λW hb hs=>?_)⟩;have S:=aV (own:=own) (g:=w+1) hb (Nat.le_succ _);exact pair_orderedP IH hF hd (he.plus hb (Nat.le_succ _) hs) ho (ExsR.to hx S) f (S _ d).1 (S _ b).1 (au u S d) (au t S b)
theorem rule_any:
 bN fv #[sb,ex5 op x m s A kids cap,wv] w (ResF w own mb sb sc (bP p (aa p n) sc op x s kids want)):=by
 by_cases I:op=1
 ·exact rule_1 IH hF hFi hn hd hlk he ho hx hw hwo hix hss hcl hk hsh I
 by_cases H:op=2
 ·exact rule_2 IH hF hFi hn hd hlk he ho hx hw hwo hix hss hcl hk hsh H
 by_cases G:op=3
 ·exact rule_3 IH hF hFi hn hd hlk he ho hx hw hwo hix hss hcl hk hsh G
 by_cases F:op=4
 ·exact rule_4 IH hF hFi hn hd hlk he ho hx hw hwo hix hss hcl hk hsh F
 by_cases E:op=5
 ·exact rule_5 IH hF hFi hn hd hlk he ho hx hw hwo hix hss hcl hk hsh E
 by_cases D:op=6
 ·exact rule_6 IH hF hFi hn hd hlk he ho hx hw hwo hix hss hcl hk hsh D
 by_cases B:op=7
 ·exact rule_7 IH hF hFi hn hd hlk he ho hx hw hwo hix hss hcl hk hsh B
 by_cases z:op=8
 ·exact rule_8 IH hF hFi hn hd hlk he ho hx hw hwo hix hss hcl hk hsh z
 by_cases y:op=9
 ·exact rule_9 IH hF hFi hn hd hlk he ho hx hw hwo hix hss hcl hk hsh y
 by_cases v:op=10
 ·exact rule_10 IH hF hFi hn hd hlk he ho hx hw hwo hix hss hcl hk hsh v
 by_cases u:op=11
 ·exact rule_11 IH hF hFi hn hd hlk he ho hx hw hwo hix hss hcl hk hsh u
 by_cases t:op=12
 ·exact rule_12 IH hF hFi hn hd hlk he ho hx hw hwo hix hss hcl hk hsh t
 by_cases r:op=13
 ·exact rule_13 IH hF hFi hn hd hlk he ho hx hw hwo hix hss hcl hk hsh r
 by_cases q:op=15
 ·exact rule_15 IH hF hFi hn hd hlk he ho hx hw hwo hix hss hcl hk hsh q
 by_cases l:op=25
 ·exact rule_25 IH hF hFi hn hd hlk he ho hx hw hwo hix hss hcl hk hsh l
 by_cases j:op=32
 ·exact rule_32 IH hF hFi hn hd hlk he ho hx hw hwo hix hss hcl hk hsh j
 by_cases i:op=33
 ·exact rule_33 IH hF hFi hn hd hlk he ho hx hw hwo hix hss hcl hk hsh i
 by_cases h:op=34
 ·exact rule_34 IH hF hFi hn hd hlk he ho hx hw hwo hix hss hcl hk hsh h
 by_cases g:op=35
 ·exact rule_35 IH hF hFi hn hd hlk he ho hx hw hwo hix hss hcl hk hsh g
 by_cases f:op=36
 ·exact rule_36 IH hF hFi hn hd hlk he ho hx hw hwo hix hss hcl hk hsh f
 by_cases e:op=16\/op=17\/op=18
 ·exact tQ IH hF hFi hn hd hlk he ho hx hw hwo hix hss hcl hk hsh e
 by_cases d:op=19\/op=20\/op=21\/op=22\/op=23\/op=24
 ·exact tP IH hF hFi hn hd hlk he ho hx hw hwo hix hss hcl hk hsh d
 by_cases a:op=26\/op=27
 ·exact tN IH hF hFi hn hd hlk he ho hx hw hwo hix hss hcl hk hsh a
 by_cases b:op=28\/op=29\/op=30\/op=31
 ·exact tO IH hF hFi hn hd hlk he ho hx hw hwo hix hss hcl hk hsh b
 exfalso;unfold CloR at hcl;simp only[I,H,G,F,E,D,B,z,y,v,u,t,r,q,l,j,i,h,g,f,e,d,a,b,if_false] at hcl
end
def xg {c:CB} {p:Pg} {mb n:Nat} (IH:xG c p mb n) (hF:aO p n) (hFi:Fine p) (hn:n<=1000000000):xG c p mb (n+1):=by
 intro own Z u cs e Y b w L B V U F E;obtain⟨op,x,m,s,kids,A,cap,rfl,rfl,⟨H,t,I⟩,j,T⟩:=dJ U;obtain⟨nn,O,l⟩:=B.rul
 have z:aa p (n+1) u (.mk op x m s kids) b=dG op x m s kids (bP p (aa p n) u op x s kids b) b:=by
  rw[aa];unfold dG
  cases bK op with
  | none=>rfl
  | some q =>
   obtain⟨k,h,a⟩:=q;simp only;split
   ·unfold oE;cases bP p (aa p n) u op x s kids b<;>rfl
   rfl
 rw[z]
 have r:=λv (hv:O op=some v)=>by
  have:=l.rule op;rw[hv] at this;exact this
 have J:∀v,O op=some v->∃k h a f first d,v=.agg (rule4 k h a (.func (.func f) first d)):=λv hv=>by
  obtain⟨k,h,a,N,e,G,i⟩:=r v hv;obtain⟨f,first,d,X⟩:=clo_form i;exact⟨k,h,a,f,first,d,by rw[e,X]⟩
 refine xf B l F H t I j J (λk h a N hv hsh W hb hs=>?_);obtain⟨R,D,y,M,e,G,i⟩:=r _ hv;obtain⟨rfl,rfl,rfl,rfl⟩:k=R/\h=D/\a=y/\N=M:=by simpa using e
 have S:=aV (own:=own) (g:=w+1) hb (Nat.le_succ _);exact rule_any IH hF hFi hn (ex_kid L) (ex_len L) (B.plus hb (Nat.le_succ _) hs) V (ExsR.to T S) (F.to S) E t j (i.to S) G hsh
def sY {c:CB} {p:Pg} {mb:Nat} (hF:∀n,aO p n) (hFi:Fine p) (n:Nat) (hn:n<=1000000001):xG c p mb n:=by
 induction n with
 | zero =>
  intro d h g i e f a w b;exfalso
  cases e
  rw[Ex.deep] at b;omega
 | succ n ih=>exact xg (ih ω) (hF n) hFi ω
def funB (p:Pg) (M:Nat) (f:Fn):Bool:=isE (aa p M) (dC f.slots (-1) f.params) f.body f.result
def varB (p:Pg) (M i:Nat) (a:Ac) (v:Vr):Bool:=isE (aa p M) (dC a.slots (i:Nat) a.params) v.init v.type
def hdSc (i:Nat) (a:Ac) (h:Hd):Sc:={ dC h.slots (i:Nat) h.params with vars:=a.vars }
def hdB (p:Pg) (M i:Nat) (a:Ac) (h:Hd):Bool:=aF p M M (hdSc i a h) h.body
def acB (p:Pg) (M i:Nat) (a:Ac):Bool:=a.vars.all (varB p M i a)&&a.on.all (hdB p M i a)
def fQ (p:Pg) (M:Nat):Nat->List Ac->Bool
 | _,[]=>true
 | i,a::rest=>acB p M i a&&fQ p M (i+1) rest
def dy (p:Pg) (M:Nat):Bool:=p.funs.all (funB p M)&&fQ p M 0 p.actors
structure Pg.Deep (p:Pg) (M:Nat):Prop where
 funs:∀f∈p.funs,Ex.deep f.body<=M
 vars:∀a∈p.actors,∀v∈a.vars,Ex.deep v.init<=M
 on:∀a∈p.actors,∀h∈a.on,St.deeps h.body<=M
structure Fits (p:Pg):Prop where
 funs:∀f∈p.funs,(f.params.length:Int)<=f.slots/\f.slots<=32768
 acts:∀a∈p.actors,(a.params.length:Int)<=a.slots/\a.slots<=32768
 on:∀a∈p.actors,∀h∈a.on,(h.params.length:Int)<=h.slots/\h.slots<=32768
def iW {s:Int} {n:Nat} (h:gg s n=true):(n:Int)<=s/\s<=32768:=by
 unfold gg at h;simp only[τ,decide_eq_true_eq] at h;omega
def fits_of {p:Pg} (h:cH p=true):Fits p:=by
 obtain⟨j,e,i⟩:=dV h;refine⟨λf hf=>?_,λa ha=>?_,λa ha g hg=>?_⟩
 ·have b:=i f hf;unfold funP at b;simp only[τ] at b;exact iW b.2.2
 ·have b:=(e a ha).2;unfold acP at b;simp only[τ] at b;exact iW b.1.2
 have b:=(e a ha).2;unfold acP at b;simp only[τ] at b;have d:=(cI _ _ b.2.2.1 g hg).2;unfold hdOk at d;simp only[τ] at d;exact iW d.2
def main_act {p:Pg} (h:cH p=true):0<p.actors.length:=by
 unfold cH at h;split at h
 ·cases h
 simp only[τ] at h;have a:=h.2.2.2;unfold iO at a;split at a
 ·cases a
 rename_i i b;have:=ac_lt b;omega
def pi {p:Pg} {slots actor:Int} {l:List Fld} (hl:∀q∈l,ag q.type=true) (ha:actor<p.actors):ScOk p (dC slots actor l):=by
 refine⟨λi t hi=>?_,λv hv=>(by cases hv),ha⟩;unfold dC at hi;simp only at hi;split at hi
 ·cases hi
 cases hx:l[i.toNat]? with
 | none=>rw[hx] at hi;cases hi
 | some f =>
  rw[hx] at hi;injection hi with hi;rw[<-hi];exact hl f (List.mem_of_getElem? hx)
variable {W w2:À}
def ky {w:À} (h:Below w w W) (k:Below W W w2):Sub (lo w) (im (only W.heap.size) w2) w w2:=λb hb=>by
 unfold lo at hb
 have:=h.size
 exact⟨⟨ρ hb (ψ h.size k.size),λe=>by unfold only at e;omega⟩,(k.block b ω).trans (h.block b hb)⟩
def rp {w:À} {c:CB} {p:Pg} {sc:Sc} (hck:ChkR w (lo w) c p) (hru:∃n f,RulesR w (lo w) c n f) (h:Below w w W) (k:Below W W w2) (hsc:ScS w2 (only W.heap.size) W (W+1) sc):Env w2 (only W.heap.size) W (W+1) c p sc:=by
 obtain⟨n,f,a⟩:=hru;exact⟨hck.to (ky h k),⟨n,f,a.to (ky h k)⟩,hsc,λb hb=>by unfold only at hb;subst hb;obtain⟨_,_,_,_,x⟩:=hsc;exact x.map.lt⟩
def mF {w w3:À} (h:Below w w W) (k:Below W W w2) (s:Stm W w2 w3):Below w w w3:=mE (bel h k) s.s h.size
variable {j:Nat}
def rz {α:Type} {f:α->Bool} {l:List α} (h:j<l):(l.drop j).all f=(f l[j]&&(l.drop (j+1)).all f):=by
 rw[bk h,List.all_cons]
def pt {α:Type} {f:α->Bool} {l:List α} (h:¬j<l):(l.drop j).all f=true:=by
 rw[ε ω];rfl
variable {M:Nat}
def actsB_at {p:Pg} {l:List Ac} (h:j<l):fQ p M j (l.drop j)=(acB p M j l[j]&&fQ p M (j+1) (l.drop (j+1))):=by
 rw[bk h,fQ]
def xD {p:Pg} {l:List Ac} (h:¬j<l):fQ p M j (l.drop j)=true:=by
 rw[ε ω,fQ]
def cL {w6:À} {a:Addr} {v:Value} (h:Below W W w6) (ha:W<=a.block):Below W W (w6.setCell a v):=
 ⟨h.os,h.tape,h.output,by simp[World.setCell];exact h.size,λi hi=>(Below.heap_setCell _ _ _ _ ω).trans (h.block i hi)⟩
structure BodPre (w:À) (c:CB) (p:Pg) (M:Nat):Prop where
 chk:ChkR w (lo w) c p
 rul:∃n f,RulesR w (lo w) c n f
 exp:∀mb,xG c p mb M
 stm:∀mb,eY c p mb M M
 fine:Fine p
 fits:Fits p
 deep:p.Deep M
def ul {c:CB} {p:Pg} {w:À} (hp:BodPre w c p M):Calls prog 44 #[c.b] w λe w'=>e=.returned (.bool (dy p M))/\Below w w w':=by
 obtain⟨AF,qF,eF⟩:=hp.chk.funs.form;obtain⟨AA,qA,eA⟩:=hp.chk.actors.form;have cF:=hp.chk.c2;have cA:=hp.chk.c3;rw[eF] at cF;rw[eA] at cA;have hF:=hp.chk.funs;have hA:=hp.chk.actors;rw[eF] at hF;rw[eA] at hA;obtain⟨HF,HA,t⟩:=zd3 hF hA hp;have lF:=hF.le9;have lA:=hA.le9;have es:=η cA;have eo:Hid (dy p M=((p.funs.drop 0).all (funB p M)&&fQ p M 0 p.actors)):=rfl;clear hp hF hA eF eA cA;go_in;go_wp2_with fail;clear cF;go_loopw [19] (λi wr=>∃j:Nat,j<=p.funs.length/\i=.int .i64 j/\Hid (dy p M=((p.funs.drop j).all (funB p M)&&fQ p M 0 p.actors))/\Hid (Below w w wr)) (λi _=>p.funs.length-(intOf i).toNat)
 case atStart=>exact⟨0,ω,rfl,eo.o,belR _⟩
 case round =>
  obtain⟨j,hj,rfl,Y,d⟩:=hrel;by_cases hlt:j<p.funs.length
  ·have u1:=zT j p.funs;have L:=η (rz (f:=funB p M) hlt);obtain⟨g1,di,C1,W,k1,s1,a1,Z,V,o1,x1,m1,r1,e1,C3,d3,rfl,bl,c0,c1,c2,c3,c4,c5,c6,c7,c8,c9,bp,_,bi,_,F,ca,cd⟩:=jd HF.o hlt;obtain⟨FL,TY,EX⟩:=zd3 F ca cd;have j0:(0:Int)<=(j:Int):=ω;have j1:(j:Int)<(p.funs.length:Int):=ω;replace c0:=belC d.o c0;replace c1:=belC d.o c1;replace c2:=belC d.o c2;replace c3:=belC d.o c3;replace c4:=belC d.o c4;replace c5:=belC d.o c5;replace c6:=belC d.o c6;replace c7:=belC d.o c7;replace c8:=belC d.o c8;replace c9:=belC d.o c9;replace bp:=belC d.o bp;have u:=ν hlt;obtain⟨D,R,co⟩:=zd3 (t.fine.funs _ u) (t.fits.funs _ u) (t.deep.funs _ u);obtain⟨W1,B,B1,E⟩:=κ wr #[.string p.funs[j].name,.slice C1 p.funs[j].params.length W,k1,s1,.slice Z a1 V,.int .i64 p.funs[j].slots,o1,x1,m1,r1,.slice C3 e1 d3] 45
   obtain⟨G,a9⟩:=zd2 (bel d.o B1) B;have gn:wr.heap.size<W1.heap.size:=E.lt;clear F ca cd u B B1 bl;go_upto_region 4 with fail;rw[<-a9.o];clear c0 c1 c2 c3 c4 c5 c6 c7 c8 c9 bp;have b1:=E.c 1;have b5:=E.c 5;obtain⟨bb,v⟩:=γ (funB p M p.funs[j])
   have br:Hid ((p.funs.drop j).all (funB p M)=(bb&&(p.funs.drop (j+1)).all (funB p M))):=by show _=_;rw[L.o,v]
   have J:=η v.symm;clear v L;go_upto_region 5 with (go_at_call 104;refine (iz p.funs[j].slots (-1) _ p.funs[j].params _ (FldsR.to FL.o (ae G.o)) R.1 R.2 Ψ).mono ?_;rintro e2 w2 ⟨rfl,ah,bg,dl⟩);obtain⟨B2,E2,H⟩:=zd3 ah (rp t.chk t.rul G.o ah bg.scs) (aH E.o ah);have SN:=ky G.o ah;obtain⟨cu,ce,ch⟩:=zd3 (EX.to SN) (TY.to SN) (pi (p:=p) (slots:=p.funs[j].slots) (actor:=-1) D.1 ω);clear ah bg dl SN b1 b5;have f2:=H.c 2;have f3:=H.c 3;have f4:=H.c 4;have f6:=H.c 6;have f7:=H.c 7;have f8:=H.c 8;have f9:=H.c 9;have go:=H.c 10
   cases bb with
   | false =>
    have y:Hid (dy p M=false):=by show _=_;rw[Y.o,br.o];rfl
    go_wp2_with (go_at_call 105;refine (bA (t.exp _) co.o E2.o ch.o cu.o ce.o D.2.1).mono ?_;rw[show isE (aa p M) (dC p.funs[j].slots (-1) p.funs[j].params) p.funs[j].body p.funs[j].result=_ from J.o];rintro e3 w3 ⟨rfl,bh,dn⟩);go_ret;rw[y.o];exact⟨rfl,mF G.o B2.o bh⟩
   | true =>
    have y:Hid (dy p M=((p.funs.drop (j+1)).all (funB p M)&&fQ p M 0 p.actors)):=by show _=_;rw[Y.o,br.o];rfl
    go_wp2_with (go_at_call 105;refine (bA (t.exp _) co.o E2.o ch.o cu.o ce.o D.2.1).mono ?_;rw[show isE (aa p M) (dC p.funs[j].slots (-1) p.funs[j].params) p.funs[j].body p.funs[j].result=_ from J.o];rintro e3 w3 ⟨rfl,bh,dn⟩);exact⟨⟨j+1,ω,by go_num,y.o,mF G.o B2.o bh⟩,by simp[intOf];omega⟩
  have u1:=zF j p.funs;have en:Hid (dy p M=fQ p M 0 (p.actors.drop 0)):=by show _=_;rw[Y.o,pt hlt];rfl
  obtain⟨wA,rfl⟩:=γ wr
  have cA:wA.cell? ⟨c.b,3,none⟩=some (.slice AA p.actors qA):=belC d.o es.o;have eu:=d;clear Y d;go_wp2_with fail;clear cA;go_loopw [43] (λi wr=>∃j:Nat,j<=p.actors.length/\i=.int .i64 j/\Hid (dy p M=fQ p M j (p.actors.drop j))/\Hid (Below w w wr)) (λi _=>p.actors.length-(intOf i).toNat)
  case atStart=>exact⟨0,ω,rfl,en.o,eu.o⟩
  case round =>
   obtain⟨k,hk,rfl,Y,d⟩:=hrel;by_cases a7:k<p.actors.length
   ·have v1:=zT k p.actors;have L:=η (actsB_at (p:=p) (M:=M) a7);obtain⟨g1,di,C1,W,Z,V,C3,d3,rfl,bl,c0,c1,c2,c3,c4,c5,c6,_,bi,_,F,bf,bj⟩:=fR HA.o a7;obtain⟨FL,VS,HS⟩:=zd3 F bf bj;have lV:=bf.le9;have lH:=bj.le9;have k0:(0:Int)<=(k:Int):=ω;have k1:(k:Int)<(p.actors.length:Int):=ω;replace c0:=belC d.o c0;replace c1:=belC d.o c1;replace c2:=belC d.o c2;replace c3:=belC d.o c3;replace c4:=belC d.o c4;replace c5:=belC d.o c5;replace c6:=belC d.o c6;have u:=ν a7;obtain⟨D,R,cm,cn,cq⟩:=zd5 (t.fine.acts _ u) (t.fits.acts _ u) (t.fits.on _ u) (t.deep.vars _ u) (t.deep.on _ u);have ck:Hid (i64 (k:Int)):=by show i64 _;unfold i64;omega
    have bq:Hid (((k:Nat):Int)<p.actors.length):=k1;obtain⟨a,bm⟩:=γ (p.actors[k])
    have gp:=η bm;rw[<-bm] at L FL VS HS lV lH c0 c1 c2 c3 c4 c5 c6 D R cm cn cq;obtain⟨W1,B,B1,E⟩:=κ wr #[a.name,.slice C1 a.params W,a.slots,.slice Z a.vars V,.slice C3 a.on d3,a.policy,a.most] 54
    obtain⟨G,a9⟩:=zd2 (bel d.o B1) B;obtain⟨ab,bn⟩:=γ wr
    have cs:=η bn;have cj:Hid (acB p M k a=((a.vars.drop 0).all (varB p M k a)&&a.on.all (hdB p M k a))):=rfl;clear F bf bj u B B1 bl bm bi;go_upto_region 11 with fail;rw[<-a9.o,<-cs.o];rw[<-bn] at E;clear bn cs a9 c0 c1 c2 c3 c4 c5 c6;have b3:=E.c 3;go_wp2_with fail;clear b3;have et:=d;clear d;go_loopw [51] (λi wr=>∃j:Nat,j<=a.vars.length/\i=.int .i64 j/\Hid (acB p M k a=((a.vars.drop j).all (varB p M k a)&&a.on.all (hdB p M k a)))/\Hid (Below w w wr)/\Hid (Hs wr ab 54 #[a.name,.slice C1 a.params W,a.slots,.slice Z a.vars V,.slice C3 a.on d3,a.policy,a.most])) (λi _=>a.vars.length-(intOf i).toNat)
    case atStart=>exact⟨0,ω,rfl,cj.o,G.o,E.o⟩
    case round =>
     clear cj G E et;obtain⟨q,hq,rfl,HW,d,BX⟩:=hrel;by_cases ag:q<a.vars.length
     ·have x1:=zT q a.vars;have z:=η (rz (f:=varB p M k a) ag);obtain⟨g2,be,kv,sv,av,Bv,cv,ov,xv,mv,rv,ev,Dv,dv,rfl,bk,z0,z1,z2,I,z4,z5,z6,z7,z8,_,_,cb,b9⟩:=ku VS.o ag;obtain⟨TV,XV⟩:=zd2 cb b9;have q0:(0:Int)<=(q:Int):=ω;have q1:(q:Int)<(a.vars.length:Int):=ω;replace z0:=belC d.o z0;replace z1:=belC d.o z1;replace z2:=belC d.o z2;replace I:=belC d.o I;replace z4:=belC d.o z4;replace z5:=belC d.o z5;replace z6:=belC d.o z6;replace z7:=belC d.o z7;replace z8:=belC d.o z8;obtain⟨eq,d8⟩:=zd2 (D.2.1 _ (ν ag)) (cn.o _ (ν ag));obtain⟨bb,v⟩:=γ (varB p M k a a.vars[q])
      rw[<-v] at z;have J:=η v.symm;obtain⟨g,A,B5,l⟩:=κ wr #[.string a.vars[q].name,kv,sv,.slice Bv av cv,ov,xv,mv,rv,.slice Dv ev dv] 61
      obtain⟨h,T,ar⟩:=zd3 (bel d.o B5) (aH BX.o B5) A;clear cb b9 bk v A B5;go_upto_region 14 with fail;rw[<-ar.o];clear ar z0 z1 z2 I z4 z5 z6 z7 z8;have b1:=belW (T.c 1);have b2:=belW (T.c 2);have gj:=belW (l.c 1);have gi:=belW (l.c 2);have gh:=belW (l.c 3);have gg:=belW (l.c 4);have gf:=belW (l.c 5);have ge:=belW (l.c 6);have gd:=belW (l.c 7);have gc:=belW (l.c 8)
      go_region_held3 (λX=>Below g g X) (first|exact ad _|exact bel ι x|exact a8)
       (first|(go_at_call 104;refine (iz a.slots (k:Nat) _ a.params _ (FldsR.to FL.o (ae (bel h.o (ad _)))) R.1 R.2 ck.o).mono ?_;rintro e6 w6 ⟨rfl,x,U,az⟩)|(go_at_call 105;refine (bA (t.exp _) d8.o (rp t.chk t.rul (bel h.o (ad _)) x U.scs) (pi D.1 bq.o) (XV.to (ky (bel h.o (ad _)) x)) (TV.to (ky (bel h.o (ad _)) x)) eq.o).mono ?_;rw[show isE (aa p M) (dC a.slots ((k:Nat):Int) a.params) a.vars[q].init a.vars[q].type=_ from J.o];rintro e7 w7 ⟨rfl,eg,fj⟩;have a8:=mF (ad g) x eg))
      cases bb with
      | false =>
       have y:Hid (dy p M=false):=by show _=_;rw[Y.o,L.o,HW.o,z.o];rfl
       go_wp2;go_ret;rw[y.o];exact⟨rfl,bel h.o a8⟩
      | true =>
       have y:Hid (acB p M k a=((a.vars.drop (q+1)).all (varB p M k a)&&a.on.all (hdB p M k a))):=by show _=_;rw[HW.o,z.o];rfl
       go_wp2_with fail;exact⟨⟨q+1,ω,by go_num,y.o,bel h.o a8,aH T.o a8⟩,by simp[intOf];omega⟩
     have x1:=zF q a.vars;have ci:Hid (acB p M k a=(a.on.drop 0).all (hdB p M k a)):=by show _=_;rw[HW.o,pt ag];rfl
     obtain⟨wH,rfl⟩:=γ wr
     have b4:=BX.c 4;have cr:=d;have cw:=BX;clear HW d BX;go_wp2_with fail;clear b4;go_loopw [72] (λi wr=>∃j:Nat,j<=a.on.length/\i=.int .i64 j/\Hid (acB p M k a=(a.on.drop j).all (hdB p M k a))/\Hid (Below w w wr)/\Hid (Hs wr ab 54 #[a.name,.slice C1 a.params W,a.slots,.slice Z a.vars V,.slice C3 a.on d3,a.policy,a.most])) (λi _=>a.on.length-(intOf i).toNat)
     case atStart=>exact⟨0,ω,rfl,ci.o,cr.o,cw.o⟩
     case round =>
      clear ci cr cw;obtain⟨r,hr,rfl,HW,d,BX⟩:=hrel;by_cases N:r<a.on.length
      ·have y1:=zT r a.on;have z:=η (rz (f:=hdB p M k a) N);obtain⟨g2,be,E1,f1,bs,f2,rfl,bk,z0,z1,z2,I,_,dp,_,F,cc⟩:=lG HS.o N;obtain⟨FH,SH⟩:=zd2 F cc;have r0:(0:Int)<=(r:Int):=ω;have gk:(r:Int)<(a.on.length:Int):=ω;replace z0:=belC d.o z0;replace z1:=belC d.o z1;replace z2:=belC d.o z2;replace I:=belC d.o I;obtain⟨er,cl,cp⟩:=zd3 (D.2.2 _ (ν N)) (cm.o _ (ν N)) (cq.o _ (ν N));obtain⟨bb,v⟩:=γ (hdB p M k a a.on[r])
       rw[<-v] at z;have J:=η v.symm;obtain⟨g,A,B5,l⟩:=κ wr #[.string a.on[r].msg,.slice E1 a.on[r].params.length f1,.int .i64 a.on[r].slots,.slice bs a.on[r].body.length f2] 64
       obtain⟨h,T,ar⟩:=zd3 (bel d.o B5) (aH BX.o B5) A;have gm:wr.heap.size<g.heap.size:=l.lt;have gl:ab<g.heap.size:=T.lt;clear F cc bk v A B5 dp;go_upto_region 20 with fail;rw[<-ar.o];clear ar z0 z1 z2 I;have b1:=l.c 1;have b2:=l.c 2;go_upto_region 21 with (go_at_call 104;refine (iz a.on[r].slots (k:Nat) _ a.on[r].params _ (FldsR.to FH.o (ae h.o)) cl.1 cl.2 ck.o).mono ?_;rintro e6 w6 ⟨rfl,x,U,az⟩);obtain⟨B6,N6,X6,ez,cx⟩:=zd5 x U az (aH l.o x) (aH T.o x);have a3:=cx.c 3;have a4:=X6.c 2;have a5:w6.frozen? ⟨g+1,2,none⟩=false:=X6.free 2;clear x U az b1 b2;go_upto_region 22 with fail;obtain⟨W7,O⟩:=γ (w6.setCell ⟨g+1,2,none⟩ (.slice Z a.vars V))
       rw[<-O];have S7:Hid (ScS W7 (only g.heap.size) g (g+1) (hdSc k a a.on[r])):=by rw[O];exact N6.vars B6.o X6.o Θ (VrsR.to VS.o (ae h.o))
       have B7:Hid (Below g g W7):=by rw[O];exact cL B6.o (by show g.heap.size<=g.heap.size+1;omega)
       have ey:Hid (Hs W7 wr 64 #[.string a.on[r].msg,.slice E1 a.on[r].params.length f1,.int .i64 a.on[r].slots,.slice bs a.on[r].body.length f2]):=by rw[O];exact (Below.heap_setCell _ _ _ _ Φ).trans ez.o
       have e0:Hid (Hs W7 ab 54 #[a.name,.slice C1 a.params W,a.slots,.slice Z a.vars V,.slice (some ⟨g2,be,none⟩) a.on d3,a.policy,a.most]):=by rw[O];exact (Below.heap_setCell _ _ _ _ Φ).trans cx.o
       obtain⟨E7,cf⟩:=zd2 (rp t.chk t.rul h.o B7.o S7.o) (StsR.to SH.o (ky h.o B7.o));have cg:Hid (ScOk p (hdSc k a a.on[r])):=⟨(pi (p:=p) (slots:=a.on[r].slots) er.o bq.o).bound,D.2.1,bq.o⟩
       have b3:=ey.c 3;have ct:Hid (0<=(hdSc k a a.on[r]).actor):=k0;clear O a3 a4 a5
       cases bb with
       | false =>
        have y:Hid (dy p M=false):=by show _=_;rw[Y.o,L.o,HW.o,z.o];rfl
        go_wp2_with (go_at_call 106;refine (t.stm _ _ _ _ _ a.on[r].body _ cp.o E7.o cg.o ct.o cf.o).mono ?_;rw[show aF p M M (hdSc k a a.on[r]) a.on[r].body=_ from J.o];rintro e8 w8 ⟨rfl,a6,dm⟩);go_ret;rw[y.o];exact⟨rfl,mF h.o B7.o a6⟩
       | true =>
        have y:Hid (acB p M k a=(a.on.drop (r+1)).all (hdB p M k a)):=by show _=_;rw[HW.o,z.o];rfl
        go_wp2_with (go_at_call 106;refine (t.stm _ _ _ _ _ a.on[r].body _ cp.o E7.o cg.o ct.o cf.o).mono ?_;rw[show aF p M M (hdSc k a a.on[r]) a.on[r].body=_ from J.o];rintro e8 w8 ⟨rfl,a6,dm⟩);exact⟨⟨r+1,ω,by go_num,y.o,mF h.o B7.o a6,e0.stp a6 Ω⟩,by simp[intOf];omega⟩
      have y1:=zF r a.on;have y:Hid (dy p M=fQ p M (k+1) (p.actors.drop (k+1))):=by show _=_;rw[Y.o,L.o,HW.o,pt N];rfl
      go_wp2_with fail;exact⟨⟨k+1,ω,by go_num,y.o,d.o⟩,by simp[intOf];omega⟩
   have v1:=zF k p.actors;have y:Hid (dy p M=true):=by show _=_;rw[Y.o];exact xD a7
   go_wp2;go_ret;rw[y.o];exact⟨rfl,d.o⟩
