/- Core -/
import Derived.Test.YtjohpidklbhmcaaGreatDoorZ36
import Derived.ArgAppend
import Derived.Test.YtjohpidklbhmcaaGreatDoorCards
import Derived.Test.YtjohpidklbhmcaaGreatDoorTie
import Derived.ProofKit
import Derived.OpenShut
import Derived.ShutString
import Derived.Carry
import Derived.Deep.DeepHandedRow
import Derived.Deep.Fields
import Derived.Deep.Slices
import Derived.Lib.LaidTab
import Derived.LaidSub
namespace Go.Proofs.YtjohpidklbhmcaaGreatDoor
set_option linter.all false
set_option maxRecDepth 100000
set_option maxHeartbeats 2000000
section
open Proofs.Tryz RowKit Maps WideMaps ChangeMaps
def okN (p:Pg) (n:Int):Prop:=0<=n/\n<(p.funs.length:Int)
def okS (p:Pg) (s:Ê):Prop:=s.data.toList∈p.tyNames
structure Lim (p:Pg):Prop where
 ctors:∀d∈p.types,d.ctors.length<=1000000
 flds:∀d∈p.types,∀c∈d.ctors,c.fields.length<=1000000
 funs:p.funs.length<=1000000
 vars:∀a∈p.actors,a.vars.length<=1000000
structure ScI (sc:Sc):Prop where
 slots:sc.slots<=1000000
 bound:∀i t,sc.bound i=some t->0<=i/\i<=1000000
 vars:sc.vars.length<=1000000
mutual
def Ex.ok (p:Pg):Ex->Prop
 | .mk op n m s a=>(jb op=true->okN p n)/\(gu op=true->okS p s)/\nOk op/\iOk n/\iOk m/\Ex.oks p a
def Ex.oks (p:Pg):List Ex->Prop
 | []=>True
 | x::xs=>Ex.ok p x/\Ex.oks p xs
end
def Ex.oks_iff (p:Pg) (l:List Ex):Ex.oks p l↔∀x∈l,x.ok p:=by
 induction l with
 | nil=>simp[Ex.oks]
 | cons x l ih=>simp[Ex.oks,ih]
def iok {n:Int} (h:-9007199254740992<=n) (h2:n<=9007199254740992):iOk n:=⟨ω,ω⟩
section
variable {x:Int}
def dA {n:Nat} (h:az x n=true):0<=x/\x<n:=by unfold az at h;simpa using h
variable {sc:Sc} {i:Int} {t:Ty}
def bind_has {sc':Sc} (h:sc.bind i t=some sc'):0<=i/\i<sc.slots/\sc'=sc.set i t:=by
 unfold Sc.bind at h;split at h
 ·rename_i a;unfold Sc.bindB at a;simp only[Bool.not_eq_true',Bool.or_eq_false_iff,decide_eq_false_iff_not] at a;injection h with h;exact⟨ω,ω,h.symm⟩
 cases h
def ScI.bind {sc':Sc} (h:ScI sc) (hb:sc.bind i t=some sc'):ScI sc'/\0<=i/\i<=1000000:=by
 obtain⟨d,g,rfl⟩:=bind_has hb;have:=h.slots;refine⟨⟨h.slots,λj u hu=>?_,h.vars⟩,d,ω⟩;have a:(if j=i then some t else sc.bound j)=some u:=hu;split at a
 ·rename_i e;subst e;exact⟨d,ω⟩
 exact h.bound j u a
theorem ScI.bindAll:∀(fs:List Fld) (m:Int) {sc sc':Sc},ScI sc->bindAll sc m fs=some sc'->ScI sc'
 | [],m,sc,sc',h,hb=>by rw[Go.Proofs.YtjohpidklbhmcaaGreatDoor.bindAll] at hb;injection hb with hb;exact hb▸h
 | f::fs,m,sc,sc',h,hb=>by
  rw[Go.Proofs.YtjohpidklbhmcaaGreatDoor.bindAll] at hb
  cases hx:sc.bind m f.type with
  | none=>rw[hx] at hb;cases hb
  | some s1=>rw[hx] at hb;exact ScI.bindAll fs (m+1) (h.bind hx).1 hb
theorem kY {σ:Type} {ctors:List Ctr} {body:σ->Nat->Sc->Option σ} {sc:Sc} (hs:ScI sc):∀(l:List (Int×Int)) (i:Nat) (seen:List Int) (st r:σ),bz sc ctors body i seen st l=some r ->
 ∀j (h:j<l.length),(l[j].1=-1\/az l[j].1 ctors=true)/\0<=l[j].2/\l[j].2<=sc.slots/\∃st1 sc1 st2,ScI sc1/\body st1 (i+j) sc1=some st2
 | [],i,seen,st,r,_,j,h=>by simp at h
 | (n,m)::rest,i,seen,st,r,hr,j,h=>by
  rw[fZ] at hr
  split at hr
  ·cases hr
  rename_i hbad
  cases hx:bindAll sc m (rI ctors n) with
  | none=>rw[hx] at hr;cases hr
  | some s1 =>
   rw[hx] at hr
   have hr':(body st i s1).bind (λst'=>bz sc ctors body (i+1) (n::seen) st' rest)=some r:=hr
   cases hy:body st i s1 with
   | none=>rw[hy] at hr';cases hr'
   | some st' =>
    rw[hy] at hr'
    cases j with
    | zero =>
     unfold nF at hbad
     simp only[Bool.or_eq_true,τ,decide_eq_true_eq,Bool.not_eq_true',not_or,not_and] at hbad
     obtain⟨⟨⟨⟨h1,h2⟩,h3⟩,_⟩,_⟩:=hbad
     refine⟨?_,by show 0<=m;omega,by show m<=sc.slots;omega,st,s1,st',hs.bindAll _ _ hx,hy⟩
     show n=-1\/az n ctors=true
     by_cases e:n=-1
     ·exact .inl e
     right;have:=h1 e;simpa using this
    | succ j =>
     have:=kY hs rest (i+1) (n::seen) st' r hr' j (by simpa using h)
     have e:i+(j+1)=i+1+j:=ω
     rw[e];exact this
section
variable {p:Pg} {E:EF} {sc:Sc} (hE:∀sc e w t,ScI sc->E sc e w=some t->e.ok p) (hs:ScI sc)
include hE hs
theorem fM {e:Ex} (h:isE E sc e t=true):e.ok p:=by
 unfold isE at h;obtain⟨u,a⟩:=Option.isSome_iff_exists.1 h;exact hE _ _ _ _ hs a
theorem fx:∀(kids:List Ex) (fs:List Fld),bl E sc kids fs=true->Ex.oks p kids
 | [],_,_=>by rw[Ex.oks];trivial
 | e::es,[],h=>by simp[bl] at h
 | e::es,f::fs,h=>by
  rw[bl] at h;simp only[τ] at h
  rw[Ex.oks];exact⟨fM hE hs h.1,fx es fs h.2⟩
theorem pr:∀(kids:List Ex) (fs:List Ty),aR E sc kids fs=true->Ex.oks p kids
 | [],_,_=>by rw[Ex.oks];trivial
 | e::es,[],h=>by simp[aR] at h
 | e::es,f::fs,h=>by
  rw[aR] at h;simp only[τ] at h
  rw[Ex.oks];exact⟨fM hE hs h.1,pr es fs h.2⟩
theorem oY (kids:List Ex) (h:(kids.all λe=>isE E sc e t)=true):Ex.oks p kids:=by
 rw[Ex.oks_iff];exact λx hx=>fM hE hs (List.all_eq_true.1 h x hx)
theorem sR {right:Ty->Bool} (kids:List Ex) (h:gd E sc right kids=true):Ex.oks p kids:=by
 match kids,h with
 | [a,b],h =>
  have d:(match E sc a none with|none=>false|some t=>right t&&isE E sc b t)=true:=h;split at d
  ·cases d
  rename_i t g;simp only[τ] at d;simp only[Ex.oks,and_true];exact⟨hE _ _ _ _ hs g,fM hE hs d.2⟩
theorem wZ (kids:List Ex) (want:Option Ty) (h:fw E sc kids want=some t):Ex.oks p kids:=by
 unfold fw at h;split at h
 ·split at h
  ·split at h
   ·rename_i a;exact oY hE hs kids a
   cases h
  cases h
 ·cases h
 split at h
 ·cases h
 split at h
 ·cases h
 rename_i u d;split at h
 ·rename_i a;rw[Ex.oks];exact⟨hE _ _ _ _ hs d,oY hE hs _ a⟩
 cases h
theorem fIf_ok' (kids:List Ex) (want:Option Ty) (h:fIf E sc want kids=some t):Ex.oks p kids:=by
 unfold fIf at h;split at h
 ·split at h
  ·rename_i g;split at h
   ·cases h
   rename_i u a;split at h
   ·rename_i d;simp only[Ex.oks,and_true];exact⟨fM hE hs g,hE _ _ _ _ hs a,fM hE hs d⟩
   cases h
  cases h
 cases h
theorem fLet_ok' (x:Int) (kids:List Ex) (want:Option Ty) (h:fLet E sc x want kids=some t):Ex.oks p kids/\0<=x/\x<=1000000:=by
 unfold fLet at h;split at h
 ·split at h
  ·cases h
  rename_i u d;split at h
  ·cases h
  rename_i i g;have a:=hs.bind g;simp only[Ex.oks,and_true];exact⟨⟨hE _ _ _ _ hs d,hE _ _ _ _ a.1 h⟩,a.2⟩
 cases h
theorem fCat_ok' (kids:List Ex) (want:Option Ty) (h:fCat E sc want kids=some t):Ex.oks p kids:=by
 unfold fCat at h;split at h
 ·split at h
  ·cases h
  rename_i u d;split at h
  ·rename_i a;simp only[τ] at a;simp only[Ex.oks,and_true];exact⟨hE _ _ _ _ hs d,fM hE hs a.2⟩
  cases h
 cases h
theorem ue (kids:List Ex) (h:dY E sc kids=some t):Ex.oks p kids:=by
 unfold dY at h;split at h
 ·cases h
 split at h
 ·cases h
 rename_i u a;split at h
 ·split at h
  ·rename_i d;rw[Ex.oks];exact⟨hE _ _ _ _ hs a,pr hE hs _ _ d⟩
  cases h
 cases h
theorem wW (x:Int) (want:Option Ty) (kids:List Ex) (h:aP E sc x want kids=some t):Ex.oks p kids/\0<=x/\x<=1000000:=by
 unfold aP at h;split at h
 ·cases h
 rename_i g j;split at h
 ·cases h
 rename_i u a
 have d:g.ok p/\0<=x/\x<=1000000:=by
  unfold aY at a;split at a
  ·rename_i hx;split at a
   ·cases a
   rename_i v hv;exact⟨hE _ _ _ _ hs hv,ω⟩
  split at a
  ·rename_i hx;exact⟨hE _ _ _ _ hs a,ω⟩
  split at a
  ·rename_i hx;exact⟨hE _ _ _ _ hs a,ω⟩
  cases a
 split at h
 ·cases h
 split at h
 ·split at h
  ·rename_i i;rw[Ex.oks];exact⟨⟨d.1,pr hE hs _ _ i⟩,d.2⟩
  cases h
 cases h
theorem fRec_ok' (s:Ê) (kids:List Ex) (h:fRec p E sc s kids=some t):Ex.oks p kids/\okS p s:=by
 unfold fRec at h;split at h
 ·cases h
 rename_i j a;split at h
 ·rename_i g;refine⟨fx hE hs _ _ g,?_⟩;unfold recP at a;split at a
  ·split at a
   ·cases a
   rename_i i d;exact List.mem_of_getElem? (cg _ _ _ _ d).2
  cases a
 cases h
omit hE hs in
theorem uS (hL:Lim p) {fs:List Fld} (hf:recP p t=some fs):fs.length<=1000000:=by
 unfold recP at hf;split at hf
 ·split at hf
  ·cases hf
  split at hf
  ·cases hf
  rename_i d g;split at hf
  ·split at hf
   ·cases hf
   rename_i c l a;injection hf with hf;subst hf;exact hL.flds d (List.mem_of_getElem? g) c (by rw[a];exact List.mem_cons_self)
  cases hf
 cases hf
omit hE hs in
theorem qO (hL:Lim p) {cs:List Ctr} (hf:varP p t=some cs):cs.length<=1000000:=by
 unfold varP at hf;split at hf
 ·split at hf
  ·cases hf
  split at hf
  ·cases hf
  rename_i d a;split at hf
  ·cases hf
  injection hf with hf;subst hf;exact hL.ctors d (List.mem_of_getElem? a)
 cases hf
omit hE hs in
theorem var_name {s:Ê} {cs:List Ctr} (hf:varP p (cN s)=some cs):okS p s:=by
 unfold varP at hf;split at hf
 ·split at hf
  ·cases hf
  rename_i i a;exact List.mem_of_getElem? (cg _ _ _ _ a).2
 cases hf
variable (hL:Lim p)
include hL
theorem fGet_ok' (x:Int) (kids:List Ex) (h:fGet p E sc x kids=some t):Ex.oks p kids/\0<=x/\x<=1000000:=by
 unfold fGet at h;split at h
 ·split at h
  ·cases h
  rename_i u d;split at h
  ·cases h
  rename_i i g;split at h
  ·rename_i a;have:=uS hL g;have:=dA a;simp only[Ex.oks,and_true];exact⟨hE _ _ _ _ hs d,ω⟩
  cases h
 cases h
theorem wU (x:Int) (want:Option Ty) (kids:List Ex) (h:gL p E sc x want kids=some t):Ex.oks p kids/\0<=x/\x<=1000000:=by
 unfold gL at h;split at h
 ·split at h
  ·cases h
  rename_i u d;split at h
  ·cases h
  rename_i j g;split at h
  ·rename_i a;have:=uS hL g;have:=dA a;split at h
   ·cases h
   split at h
   ·rename_i i;simp only[Ex.oks,and_true];exact⟨⟨hE _ _ _ _ hs d,fM hE hs i⟩,ω⟩
   cases h
  cases h
 cases h
theorem xb (x:Int) (s:Ê) (kids:List Ex) (h:jx p E sc x s kids=some t):Ex.oks p kids/\okS p s/\0<=x/\x<=1000000:=by
 unfold jx at h;split at h
 ·cases h
 rename_i i a;split at h
 ·rename_i d;have:=qO hL a;have:=dA d;split at h
  ·cases h
  split at h
  ·rename_i g;exact⟨fx hE hs _ _ g,var_name a,ω⟩
  cases h
 cases h
theorem ub (want:Option Ty) (kids:List Ex) (h:dX p E sc want kids=some t):Ex.oks p kids:=by
 unfold dX at h;split at h
 ·cases h
 rename_i N g;split at h
 ·cases h
 rename_i u D;split at h
 ·rename_i r;rw[Ex.oks];refine⟨hE _ _ _ _ hs D,?_⟩;unfold bX at h;split at h
  ·cases h
  rename_i O x;split at h
  ·cases h
  rw[Ex.oks_iff];intro a y;obtain⟨j,v,rfl⟩:=List.mem_iff_getElem.1 y;obtain⟨B,A,z,I,J,H,i,d⟩:=kY hs _ _ _ _ _ h j (by simpa using v);simp only[List.getElem_map] at B A z;have q:=List.all_eq_true.1 r _ y;unfold cE at d;rw[Nat.zero_add,ξ v] at d;simp only at d;have M:=qO hL x;have L:=hs.slots
  have F:-1<=g[j].n/\g[j].n<=1000000:=by
   rcases B with e|e
   ·omega
   have:=dA e;omega
  generalize g[j]=a at *
  cases a with
  | mk o n m s l =>
   simp only[fy,Ex.op,Ex.s,Ex.kids,Ex.n,Ex.m,τ,decide_eq_true_eq] at q d F A z;obtain⟨ho,_,_⟩:=q;have ho:=of_decide_eq_true ho;subst ho;rw[Ex.ok];refine⟨λe=>by simp[jb] at e,λe=>by simp[gu] at e,⟨ω,ω⟩,iok ω ω,iok ω ω,?_⟩;split at d
   ·rename_i k;simp only[Ex.oks,and_true];split at d
    ·exact hE _ _ _ _ i d
    split at d
    ·rename_i G;exact fM hE i G
    cases d
   cases d
 cases h
theorem xd (x:Int) (kids:List Ex) (h:jI p E sc x kids=some t):Ex.oks p kids/\okN p x:=by
 unfold jI at h;split at h
 ·rename_i a;split at h
  ·cases h
  split at h
  ·rename_i d;exact⟨fx hE hs _ _ d,dA a⟩
  cases h
 cases h
theorem fFun_ok' (x:Int) (kids:List Ex) (h:fFun p E sc x kids=some t):Ex.oks p kids/\okN p x:=by
 unfold fFun at h;split at h
 ·rename_i a;split at h
  ·cases h
  split at h
  ·split at h
   ·rename_i d;exact⟨fx hE hs _ _ d,dA a⟩
   cases h
  cases h
 cases h
end
def hH {k:Int} {b:Bool} (h:fixT k b=some t):b=true:=by
 unfold fixT at h;split at h
 ·assumption
 cases h
def iok6 (h:0<=x/\x<=1000000):iOk x:=⟨ω,ω⟩
def ra {p:Pg} {kids:List Ex} (h:kids.length=0):Ex.oks p kids:=by rw[List.eq_nil_of_length_eq_zero h,Ex.oks];trivial
theorem oO {p:Pg} (hL:Lim p):∀(n:Nat) (sc:Sc) (e:Ex) (w:Option Ty) (t:Ty),ScI sc->aa p n sc e w=some t->e.ok p
 | 0,sc,e,w,t,_,h=>by simp[aa] at h
 | n+1,sc,.mk op x m s kids,w,t,hs,h=>by
  have hE:=oO hL n
  rw[aa] at h
  split at h
  ·cases h
  rename_i k nb sb hr
  split at h
  ·rename_i hsh
   cases hf:bP p (aa p n) sc op x s kids w with
   | none=>rw[hf] at h;cases h
   | some u =>
    unfold bj at hsh
    simp only[τ,Bool.not_eq_true',Bool.and_eq_false_iff,Bool.or_eq_false_iff,decide_eq_false_iff_not,Bool.not_eq_false'] at hsh
    obtain⟨hk,⟨hx,hm⟩,-⟩:=hsh
    have hm0:iOk m:=by
     have:m=0:=ω;subst this;exact iok ω ω
    have a:(jb op=true->okN p x)->(gu op=true->okS p s)->nOk op->(nb=true->iOk x)->Ex.oks p kids->(Ex.mk op x m s kids).ok p:=λh1 i g h4 h5=>by
     rw[Ex.ok];refine⟨h1,i,g,?_,hm0,h5⟩
     cases nb with
     | true=>exact h4 rfl
     | false =>
      have:x=0:=by rcases hx with e|e<;>simp_all
      subst this;exact iok ω ω
    have d:k=0->Ex.oks p kids:=λe=>ra (by rcases hk with e2|e2<;>omega);unfold bP at hf;by_cases c:op=1
    ·subst c;injection hr with hr;injection hr with e1 hr;exact a (λe=>by cases e) (λe=>by cases e) ⟨ω,ω⟩ (λe=>by injection hr with e2;rw[<-e2] at e;cases e) (d e1.symm)
    rw[if_neg c] at hf;by_cases c:op=2
    ·subst c;injection hr with hr;injection hr with e1 hr;rw[if_pos rfl] at hf;have:=hH hf;simp only[Bool.or_eq_true,decide_eq_true_eq] at this;exact a (λe=>by cases e) (λe=>by cases e) ⟨ω,ω⟩ (λ_=>iok ω ω) (d e1.symm)
    rw[if_neg c] at hf;by_cases c:op=3
    ·subst c;injection hr with hr;injection hr with e1 hr;rw[if_pos rfl] at hf;have:=hH hf;simp only[τ,decide_eq_true_eq] at this;exact a (λe=>by cases e) (λe=>by cases e) ⟨ω,ω⟩ (λ_=>iok this.1 this.2) (d e1.symm)
    rw[if_neg c] at hf;by_cases c:op=4
    ·subst c;injection hr with hr;injection hr with e1 hr;exact a (λe=>by cases e) (λe=>by cases e) ⟨ω,ω⟩ (λe=>by injection hr with e2;rw[<-e2] at e;cases e) (d e1.symm)
    rw[if_neg c] at hf;by_cases c:op=5
    ·subst c;injection hr with hr;injection hr with e1 hr;rw[if_pos rfl] at hf;exact a (λe=>by cases e) (λe=>by cases e) ⟨ω,ω⟩ (λ_=>iok6 (hs.bound _ _ hf)) (d e1.symm)
    rw[if_neg c] at hf;by_cases c:op=6
    ·subst c;injection hr with hr;injection hr with e1 hr;rw[if_pos rfl] at hf;split at hf
     ·rename_i j;have:=dA j;have:=hs.vars;exact a (λe=>by cases e) (λe=>by cases e) ⟨ω,ω⟩ (λ_=>iok ω ω) (d e1.symm)
     cases hf
    rw[if_neg c] at hf;by_cases c:op=7
    ·subst c;injection hr with hr;injection hr with e1 hr;exact a (λe=>by cases e) (λe=>by cases e) ⟨ω,ω⟩ (λe=>by injection hr with e2;rw[<-e2] at e;cases e) (d e1.symm)
    rw[if_neg c] at hf;by_cases c:op=8
    ·subst c;injection hr with hr;injection hr with e1 hr;rw[if_pos rfl] at hf;exact a (λe=>by cases e) (λe=>by cases e) ⟨ω,ω⟩ (λe=>by injection hr with e2;rw[<-e2] at e;cases e) (wZ hE hs _ _ hf)
    rw[if_neg c] at hf;by_cases c:op=9
    ·subst c;injection hr with hr;injection hr with e1 hr;rw[if_pos rfl] at hf;have:=fRec_ok' hE hs _ _ hf;exact a (λe=>by cases e) (λ_=>this.2) ⟨ω,ω⟩ (λe=>by injection hr with e2;rw[<-e2] at e;cases e) this.1
    rw[if_neg c] at hf;by_cases c:op=10
    ·subst c;rw[if_pos rfl] at hf;have:=fGet_ok' hE hs hL _ _ hf;exact a (λe=>by cases e) (λe=>by cases e) ⟨ω,ω⟩ (λ_=>iok6 this.2) this.1
    rw[if_neg c] at hf;by_cases c:op=11
    ·subst c;rw[if_pos rfl] at hf;have:=wU hE hs hL _ _ _ hf;exact a (λe=>by cases e) (λe=>by cases e) ⟨ω,ω⟩ (λ_=>iok6 this.2) this.1
    rw[if_neg c] at hf;by_cases c:op=12
    ·subst c;rw[if_pos rfl] at hf;have:=xb hE hs hL _ _ _ hf;exact a (λe=>by cases e) (λ_=>this.2.1) ⟨ω,ω⟩ (λ_=>iok6 this.2.2) this.1
    rw[if_neg c] at hf;by_cases c:op=13
    ·subst c;injection hr with hr;injection hr with e1 hr;rw[if_pos rfl] at hf;exact a (λe=>by cases e) (λe=>by cases e) ⟨ω,ω⟩ (λe=>by injection hr with e2;rw[<-e2] at e;cases e) (ub hE hs hL _ _ hf)
    rw[if_neg c] at hf;by_cases c:op=15
    ·subst c;injection hr with hr;injection hr with e1 hr;rw[if_pos rfl] at hf;exact a (λe=>by cases e) (λe=>by cases e) ⟨ω,ω⟩ (λe=>by injection hr with e2;rw[<-e2] at e;cases e) (fIf_ok' hE hs _ _ hf)
    rw[if_neg c] at hf;by_cases c:op=16\/op=17\/op=18
    ·rw[if_pos c] at hf;have:=oY hE hs _ (hH hf);rcases c with rfl|rfl|rfl<;>(injection hr with hr;injection hr with e1 hr;exact a (λe=>by cases e) (λe=>by cases e) ⟨ω,ω⟩ (λe=>by injection hr with e2;rw[<-e2] at e;cases e) this)
    rw[if_neg c] at hf;by_cases c:op=19\/op=20\/op=21\/op=22\/op=23\/op=24
    ·rw[if_pos c] at hf;have:=oY hE hs _ (hH hf);rcases c with rfl|rfl|rfl|rfl|rfl|rfl<;>(injection hr with hr;injection hr with e1 hr;exact a (λe=>by cases e) (λe=>by cases e) ⟨ω,ω⟩ (λe=>by injection hr with e2;rw[<-e2] at e;cases e) this)
    rw[if_neg c] at hf;by_cases c:op=25
    ·subst c;injection hr with hr;injection hr with e1 hr;rw[if_pos rfl] at hf;exact a (λe=>by cases e) (λe=>by cases e) ⟨ω,ω⟩ (λe=>by injection hr with e2;rw[<-e2] at e;cases e) (fCat_ok' hE hs _ _ hf)
    rw[if_neg c] at hf;by_cases c:op=26\/op=27
    ·rw[if_pos c] at hf;have:=sR hE hs _ (hH hf);rcases c with rfl|rfl<;>(injection hr with hr;injection hr with e1 hr;exact a (λe=>by cases e) (λe=>by cases e) ⟨ω,ω⟩ (λe=>by injection hr with e2;rw[<-e2] at e;cases e) this)
    rw[if_neg c] at hf;by_cases c:op=28\/op=29\/op=30\/op=31
    ·rw[if_pos c] at hf;have:=sR hE hs _ (hH hf);rcases c with rfl|rfl|rfl|rfl<;>(injection hr with hr;injection hr with e1 hr;exact a (λe=>by cases e) (λe=>by cases e) ⟨ω,ω⟩ (λe=>by injection hr with e2;rw[<-e2] at e;cases e) this)
    rw[if_neg c] at hf;by_cases c:op=32
    ·subst c;rw[if_pos rfl] at hf;have:=fLet_ok' hE hs _ _ _ hf;exact a (λe=>by cases e) (λe=>by cases e) ⟨ω,ω⟩ (λ_=>iok6 this.2) this.1
    rw[if_neg c] at hf;by_cases c:op=33
    ·subst c;rw[if_pos rfl] at hf;have:=xd hE hs hL _ _ hf;have i:=hL.funs;have g:=this.2;unfold okN at g;exact a (λ_=>this.2) (λe=>by cases e) ⟨ω,ω⟩ (λ_=>iok ω ω) this.1
    rw[if_neg c] at hf;by_cases c:op=34
    ·subst c;rw[if_pos rfl] at hf;have:=fFun_ok' hE hs hL _ _ hf;have i:=hL.funs;have g:=this.2;unfold okN at g;exact a (λ_=>this.2) (λe=>by cases e) ⟨ω,ω⟩ (λ_=>iok ω ω) this.1
    rw[if_neg c] at hf;by_cases c:op=35
    ·subst c;injection hr with hr;injection hr with e1 hr;rw[if_pos rfl] at hf;exact a (λe=>by cases e) (λe=>by cases e) ⟨ω,ω⟩ (λe=>by injection hr with e2;rw[<-e2] at e;cases e) (ue hE hs _ hf)
    rw[if_neg c] at hf;by_cases c:op=36
    ·subst c;rw[if_pos rfl] at hf;have:=wW hE hs _ _ _ hf;exact a (λe=>by cases e) (λe=>by cases e) ⟨ω,ω⟩ (λ_=>iok6 this.2) this.1
    rw[if_neg c] at hf
    cases hf
  cases h
mutual
def St.ok (p:Pg):St->Prop
 | .mk op n m _ _ xs h e a=>nOk op/\iOk n/\iOk m/\Ex.oks p xs/\St.oks p h/\St.oks p e/\St.oks p a
def St.oks (p:Pg):List St->Prop
 | []=>True
 | x::xs=>St.ok p x/\St.oks p xs
end
def St.oks_iff (p:Pg) (l:List St):St.oks p l↔∀x∈l,x.ok p:=by
 induction l with
 | nil=>simp[St.oks]
 | cons x l ih=>simp[St.oks,ih]
def bg {p:Pg} {l:List St} (h:l.length=0):St.oks p l:=by rw[List.eq_nil_of_length_eq_zero h,St.oks];trivial
variable {xs:List Ex}
def lj {op n m:Int} {s u:Ê} {h e a:List St} (hs:aJ (.mk op n m s u xs h e a)=true):∃fn fm fs ft fh fe fa,∃least most:Int,jF op=some (fn,fm,fs,ft,fh,fe,fa,least,most)/\(op=11->xs.length=0)/\(op=5->xs.length=0)/\(0<most->(xs.length:Int)<=most)/\(fn=false->n=0)/\(fm=false->m=0)/\(fh=false->h.length=0)/\(fe=false->e.length=0)/\(fa=false->a.length=0):=by
 rw[aJ] at hs;split at hs
 ·cases hs
 rename_i fn fm fs ft fh fe fa least most d;refine⟨fn,fm,fs,ft,fh,fe,fa,least,most,d,?_⟩;unfold aK at hs;simp only[τ,Bool.not_eq_true',Bool.and_eq_false_iff,Bool.or_eq_false_iff,Bool.or_eq_true,decide_eq_false_iff_not,decide_eq_true_eq,beq_iff_eq] at hs;obtain⟨⟨⟨x,v⟩,_,t⟩,l,k,_,_,j,i,g⟩:=hs;refine⟨λe=>by rcases x with q|q<;>omega,λe=>by rcases v with q|q<;>omega,λe=>by rcases t with q|q<;>omega,λq=>?_,λq=>?_,λq=>?_,λq=>?_,λq=>?_⟩
 ·rcases l with r|r
  ·rw[q] at r;cases r
  exact r
 ·rcases k with r|r
  ·rw[q] at r;cases r
  exact r
 ·rcases j with r|r
  ·rw[q] at r;cases r
  exact r
 ·rcases i with r|r
  ·rw[q] at r;cases r
  exact r
 rcases g with r|r
 ·rw[q] at r;cases r
 exact r
def iok0:iOk 0:=iok ω ω
variable {r:Int×Sc}
def eS {b:Bool} (h:okSc b sc=some r):b=true/\r.2=sc:=by
 cases b with
 | false=>cases h
 | true=>injection h with h;exact⟨rfl,by rw[<-h]⟩
def kH {n:Int} (h:((sc.bind i t).map λs1=>(n,s1))=some r):sc.bind i t=some r.2:=by
 cases hb:sc.bind i t with
 | none=>rw[hb] at h;cases h
 | some s1=>rw[hb] at h;injection h with h;rw[<-h]
def nH {p:Pg} (h:(xs.length:Int)<=1) (h1:∀x l,xs=x::l->x.ok p):Ex.oks p xs:=by
 match xs,h,h1 with
 | [],_,_=>rw[Ex.oks];trivial
 | [x],_,h1=>simp only[Ex.oks,and_true];exact h1 x [] rfl
 | _::_::_,h,_=>simp at h;omega
def drop1_ok {p:Pg} (h:Ex.oks p (xs.drop 1)) (h1:∀x l,xs=x::l->x.ok p):Ex.oks p xs:=by
 cases xs with
 | nil=>rw[Ex.oks];trivial
 | cons x l=>rw[Ex.oks];exact⟨h1 x l rfl,h⟩
def jv {f:Ex->Bool} (h:kU xs f=true):∃x l,xs=x::l/\f x=true:=by
 cases xs with
 | nil=>cases h
 | cons x l=>exact⟨x,l,rfl,h⟩
section
variable {p:Pg} {E:EF} {B:Sc->List St->Bool} {sc:Sc} (hE:∀sc e w t,ScI sc->E sc e w=some t->e.ok p) (hs:ScI sc)
include hE hs
theorem uP {msg:Ê} (xs:List Ex) (h:jG p E sc msg xs=true):Ex.oks p xs:=by
 unfold jG at h;split at h
 ·cases h
 split at h
 ·cases h
 rename_i u a;split at h
 ·split at h
  ·cases h
  rw[Ex.oks];exact⟨hE _ _ _ _ hs a,fx hE hs _ _ h⟩
 cases h
theorem spawn_ok {m:Int} {s:Ê} (xs:List Ex) (h:bL p E sc m s xs=true):Ex.oks p xs/\(m=0\/m=1):=by
 unfold bL at h;split at h
 ·cases h
 split at h
 ·cases h
 split at h
 ·exact⟨fx hE hs _ _ h,.inl ι⟩
 split at h
 ·split at h
  ·cases h
  simp only[τ] at h;rw[Ex.oks];exact⟨⟨fM hE hs h.1,fx hE hs _ _ h.2⟩,.inr ι⟩
 cases h
theorem do_ok {s t:Ê} (xs:List Ex) (h:doP p E sc s t xs=true):Ex.oks p xs:=by
 unfold doP at h;split at h
 ·cases h
 split at h
 ·cases h
 simp only[τ] at h;exact fx hE hs _ _ h.1
variable (hB:∀sc l,ScI sc->B sc l=true->St.oks p l) (hL:Lim p)
include hB hL
theorem cases_ok (xs:List Ex) (arms:List St) (h:fO p E B sc xs arms=true):(∀x l,xs=x::l->x.ok p)/\St.oks p arms:=by
 unfold fO at h;split at h
 ·cases h
 split at h
 ·cases h
 rename_i u N;simp only[τ] at h;obtain⟨q,h⟩:=h;refine⟨λx l e=>by injection e with e1 e2;rw[<-e1];exact hE _ _ _ _ hs N,?_⟩;obtain⟨r,d⟩:=Option.isSome_iff_exists.1 h;unfold bX at d;split at d
 ·cases d
 rename_i cs A;split at d
 ·cases d
 rw[St.oks_iff];intro a F;obtain⟨j,z,rfl⟩:=List.mem_iff_getElem.1 F;obtain⟨I,H,G,V,W,U,y,i⟩:=kY hs _ _ _ _ _ d j (by simpa using z);simp only[List.getElem_map] at I H G;have g:=List.all_eq_true.1 q _ F;unfold dr at i;rw[Nat.zero_add,ξ z] at i;simp only at i;have Y:=qO hL A;have X:=hs.slots
 have O:-1<=arms[j].n/\arms[j].n<=1000000:=by
  rcases I with e|e
  ·omega
  have:=dA e;omega
 generalize arms[j]=a at *
 cases a with
 | mk o n m s t xs th el ar =>
  unfold fP at g;simp only[τ] at g;obtain⟨ho,v⟩:=g;have ho:o=5:=of_decide_eq_true ho;subst ho;obtain⟨fn,fm,fs,Z,fh,fe,fa,J,M,k,-,L,-,-,-,-,R,T⟩:=lj v;injection k with k;simp only[Prod.mk.injEq] at k;obtain⟨-,-,-,-,-,rfl,rfl,-,-⟩:=k;simp only[St.n,St.m] at O H G;rw[St.ok];refine⟨⟨ω,ω⟩,iok ω ω,iok ω ω,ra (L rfl),?_,bg (R rfl),bg (T rfl)⟩;split at i
  ·rename_i D;exact hB _ _ y D
  cases i
theorem loop_ok {n:Int} (xs:List Ex) (thn:List St) (h:jH E B sc n xs thn=true):(∀x l,xs=x::l->x.ok p)/\St.oks p thn/\0<=n/\n<=1000000:=by
 unfold jH at h;split at h
 ·cases h
 split at h
 ·cases h
 rename_i u d;split at h
 ·unfold oG at h;split at h
  ·cases h
  split at h
  ·cases h
  rename_i i g;have a:=hs.bind g;exact⟨λx l e=>by injection e with e1 e2;rw[<-e1];exact hE _ _ _ _ hs d,hB _ _ a.1 h,a.2⟩
 cases h
theorem stmt_ok {st:St} (hsh:aJ st=true) (h:cG p E B sc st=some r):st.ok p/\ScI r.2:=by
 cases st with
 | mk op n m s t xs th el ar =>
  obtain⟨fn,X,W,V,fh,Y,fa,N,O,d,L,-,hx,H,A,D,q,v⟩:=lj hsh;rw[cG] at h;have Z:∀{op:Int},0<=op->op<=12->nOk op:=λa b=>⟨a,ω⟩
  have F:m=0->iOk m:=λe=>by rw[e];exact iok0
  have I:n=0->iOk n:=λe=>by rw[e];exact iok0
  by_cases c:op=1
  ·subst c;injection d with d;simp only[Prod.mk.injEq] at d;obtain⟨rfl,rfl,rfl,rfl,rfl,rfl,rfl,rfl,rfl⟩:=d;rw[if_pos rfl] at h;unfold letP at h;split at h
   ·cases h
   rename_i x l;split at h
   ·cases h
   rename_i u R;have i:=hs.bind (kH h);rw[St.ok];exact⟨⟨Z ω ω,iok6 i.2,F (A rfl),nH (hx ω) (λy k e=>by injection e with e1 e2;rw[<-e1];exact hE _ _ _ _ hs R),bg (D rfl),bg (q rfl),bg (v rfl)⟩,i.1⟩
  rw[if_neg c] at h;by_cases c:op=2
  ·subst c;injection d with d;simp only[Prod.mk.injEq] at d;obtain⟨rfl,rfl,rfl,rfl,rfl,rfl,rfl,rfl,rfl⟩:=d;rw[if_pos rfl] at h;obtain⟨g,j⟩:=eS h;unfold nA at g;simp only[τ] at g;have U:=dA g.1;have hv:=hs.vars;have i:=g.2;rw[j,St.ok];refine⟨⟨Z ω ω,iok ω ω,F (A rfl),nH (hx ω) (λy k e=>?_),bg (D rfl),bg (q rfl),bg (v rfl)⟩,hs⟩;split at i
   ·cases i
   obtain⟨x,l,z,G⟩:=jv i;rw[e] at z;injection z with e4 e5;rw[e4];exact fM hE hs G
  rw[if_neg c] at h;by_cases c:op=3
  ·subst c;injection d with d;simp only[Prod.mk.injEq] at d;obtain⟨rfl,rfl,rfl,rfl,rfl,rfl,rfl,rfl,rfl⟩:=d;rw[if_pos rfl] at h;obtain⟨g,j⟩:=eS h;simp only[τ] at g;obtain⟨x,l,z,G⟩:=jv g.1;rw[j,St.ok];exact⟨⟨Z ω ω,I (H rfl),F (A rfl),nH (hx ω) (λy k e=>by rw[e] at z;injection z with e4 e5;rw[e4];exact fM hE hs G),hB _ _ hs g.2.1,hB _ _ hs g.2.2,bg (v rfl)⟩,hs⟩
  rw[if_neg c] at h;by_cases c:op=4
  ·subst c;injection d with d;simp only[Prod.mk.injEq] at d;obtain⟨rfl,rfl,rfl,rfl,rfl,rfl,rfl,rfl,rfl⟩:=d;rw[if_pos rfl] at h;obtain⟨g,j⟩:=eS h;have i:=cases_ok hE hs hB hL _ _ g;rw[j,St.ok];exact⟨⟨Z ω ω,I (H rfl),F (A rfl),nH (hx ω) i.1,bg (D rfl),bg (q rfl),i.2⟩,hs⟩
  rw[if_neg c] at h;by_cases c:op=6
  ·subst c;injection d with d;simp only[Prod.mk.injEq] at d;obtain⟨rfl,rfl,rfl,rfl,rfl,rfl,rfl,rfl,rfl⟩:=d;rw[if_pos rfl] at h;obtain⟨g,j⟩:=eS h;have i:=loop_ok hE hs hB hL _ _ g;rw[j,St.ok];exact⟨⟨Z ω ω,iok6 i.2.2,F (A rfl),nH (hx ω) i.1,i.2.1,bg (q rfl),bg (v rfl)⟩,hs⟩
  rw[if_neg c] at h;by_cases c:op=7
  ·subst c;injection d with d;simp only[Prod.mk.injEq] at d;obtain⟨rfl,rfl,rfl,rfl,rfl,rfl,rfl,rfl,rfl⟩:=d;rw[if_pos rfl] at h;obtain⟨g,j⟩:=eS h;rw[j,St.ok];exact⟨⟨Z ω ω,I (H rfl),F (A rfl),uP hE hs _ g,bg (D rfl),bg (q rfl),bg (v rfl)⟩,hs⟩
  rw[if_neg c] at h;by_cases c:op=8
  ·subst c;injection d with d;simp only[Prod.mk.injEq] at d;obtain⟨rfl,rfl,rfl,rfl,rfl,rfl,rfl,rfl,rfl⟩:=d;rw[if_pos rfl] at h;obtain⟨g,j⟩:=eS h;simp only[τ] at g;obtain⟨x,l,z,G⟩:=jv g.1;rw[j,St.ok];exact⟨⟨Z ω ω,I (H rfl),F (A rfl),drop1_ok (uP hE hs _ g.2) (λy k e=>by rw[e] at z;injection z with e4 e5;rw[e4];exact fM hE hs G),bg (D rfl),bg (q rfl),bg (v rfl)⟩,hs⟩
  rw[if_neg c] at h;by_cases c:op=9
  ·subst c;injection d with d;simp only[Prod.mk.injEq] at d;obtain⟨rfl,rfl,rfl,rfl,rfl,rfl,rfl,rfl,rfl⟩:=d;rw[if_pos rfl] at h;unfold cJ at h;split at h
   ·rename_i g;obtain⟨i,G⟩:=spawn_ok hE hs _ g;have J:iOk m:=iok ω ω;split at h
    ·rename_i T;injection h with h;rw[<-h,St.ok];exact⟨⟨Z ω ω,iok ω ω,J,i,bg (D rfl),bg (q rfl),bg (v rfl)⟩,hs⟩
    have M:=hs.bind (kH h);rw[St.ok];exact⟨⟨Z ω ω,iok6 M.2,J,i,bg (D rfl),bg (q rfl),bg (v rfl)⟩,M.1⟩
   cases h
  rw[if_neg c] at h;by_cases c:op=10
  ·subst c;injection d with d;simp only[Prod.mk.injEq] at d;obtain⟨rfl,rfl,rfl,rfl,rfl,rfl,rfl,rfl,rfl⟩:=d;rw[if_pos rfl] at h;obtain⟨g,j⟩:=eS h;rw[j,St.ok];exact⟨⟨Z ω ω,I (H rfl),F (A rfl),do_ok hE hs _ g,bg (D rfl),bg (q rfl),bg (v rfl)⟩,hs⟩
  rw[if_neg c] at h;by_cases c:op=11
  ·subst c;injection d with d;simp only[Prod.mk.injEq] at d;obtain⟨rfl,rfl,rfl,rfl,rfl,rfl,rfl,rfl,rfl⟩:=d;rw[if_pos rfl] at h;injection h with h;rw[<-h,St.ok];exact⟨⟨Z ω ω,I (H rfl),F (A rfl),ra (L rfl),bg (D rfl),bg (q rfl),bg (v rfl)⟩,hs⟩
  rw[if_neg c] at h;by_cases c:op=12
  ·subst c;injection d with d;simp only[Prod.mk.injEq] at d;obtain⟨rfl,rfl,rfl,rfl,rfl,rfl,rfl,rfl,rfl⟩:=d;rw[if_pos rfl] at h;obtain⟨g,j⟩:=eS h;obtain⟨x,l,z,G⟩:=jv g;rw[j,St.ok];exact⟨⟨Z ω ω,I (H rfl),F (A rfl),nH (hx ω) (λy k e=>by rw[e] at z;injection z with e4 e5;rw[e4];exact fM hE hs G),bg (D rfl),bg (q rfl),bg (v rfl)⟩,hs⟩
  rw[if_neg c] at h
  cases h
end
theorem og {p:Pg} {S:Sc->St->Option (Int×Sc)} (h1:∀sc st r,ScI sc->aJ st=true->S sc st=some r->st.ok p/\ScI r.2):∀(l:List St) (sc:Sc),ScI sc->dt S sc l=true->St.oks p l
 | [],sc,_,_=>by rw[St.oks];trivial
 | st::rest,sc,hs,h=>by
  rw[dt] at h
  simp only[τ] at h
  obtain⟨hsh,h⟩:=h
  split at h
  ·cases h
  rename_i i s1 hr
  have h2:=h1 _ _ _ hs hsh hr
  rw[St.oks];exact⟨h2.1,og h1 rest s1 h2.2 h⟩
theorem sI {p:Pg} (hL:Lim p) (N:Nat):∀(n:Nat) (sc:Sc) (l:List St),ScI sc->aF p N n sc l=true->St.oks p l
 | 0,sc,l,_,h=>by rw[aF] at h;cases l with
  | nil=>rw[St.oks];trivial
  | cons x l=>cases h
 | n+1,sc,l,hs,h=>by
  rw[aF] at h
  exact og (λs1 st r h1 h2 h3=>stmt_ok (oO hL N) h1 (sI hL N n) hL h2 h3) l sc hs h
variable {l:List Fld}
def rg {s a:Int} (h:gg s l=true):ScI (dC s a l):=by
 have g:=iW h;refine⟨by show s<=1000000;omega,λi t hi=>?_,by simp[dC]⟩;have d:(if i<0 then none else (l[i.toNat]?).map (·.type))=some t:=hi;split at d
 ·cases d
 cases hg:l[i.toNat]? with
 | none=>rw[hg] at d;cases d
 | some f=>have:=(List.getElem?_eq_some_iff.1 hg).1;omega
structure Pg.ok (p:Pg):Prop where
 funs:∀f∈p.funs,f.body.ok p
 vars:∀a∈p.actors,∀v∈a.vars,v.init.ok p
 on:∀a∈p.actors,∀h∈a.on,St.oks p h.body
def vc {p:Pg} (h:cH p=true):(∀f∈p.funs,gg f.slots f.params.length=true)/\∀a∈p.actors,gg a.slots a.params.length=true/\∀h∈a.on,gg h.slots h.params.length=true:=by
 obtain⟨_,i,g⟩:=dV h;refine⟨λf hf=>?_,λa ha=>?_⟩
 ·have:=g f hf;unfold funP at this;simp only[τ] at this;exact this.2.2
 have:=(i a ha).2;unfold acP at this;simp only[τ] at this;refine⟨this.1.2,λh hh=>?_⟩;have d:=(cI _ _ this.2.2.1 h hh).2;unfold hdOk at d;simp only[τ] at d;exact d.2
theorem mW {p:Pg} {M:Nat}:∀(l:List Ac) (i:Nat),fQ p M i l=true->∀a∈l,∃k:Nat,acB p M k a=true
 | [],_,_,a,h=>by cases h
 | b::l,i,h,a,ha=>by
  rw[fQ] at h;simp only[τ] at h
  rcases List.mem_cons.1 ha with rfl|ha
  ·exact⟨i,h.1⟩
  exact mW l (i+1) h.2 a ha
variable {M:Nat}
def sO {p:Pg} (hL:Lim p) (h:aW p M=true):p.ok:=by
 unfold aW dy at h;simp only[τ] at h;obtain⟨r,_,u,j⟩:=h;obtain⟨q,i⟩:=vc r;refine⟨λf hm=>?_,λa hm v hv=>?_,λa hm v hv=>?_⟩
 ·have:=List.all_eq_true.1 u f hm;unfold funB isE at this;obtain⟨t,g⟩:=Option.isSome_iff_exists.1 this;exact oO hL M _ _ _ _ (rg (q f hm)) g
 ·obtain⟨k,d⟩:=mW _ _ j a hm;unfold acB at d;simp only[τ] at d;have:=List.all_eq_true.1 d.1 v hv;unfold varB isE at this;obtain⟨t,g⟩:=Option.isSome_iff_exists.1 this;exact oO hL M _ _ _ _ (rg (i a hm).1) g
 obtain⟨k,d⟩:=mW _ _ j a hm;unfold acB at d;simp only[τ] at d;have:=List.all_eq_true.1 d.2 v hv;unfold hdB at this;have l:=rg (a:=(k:Int)) ((i a hm).2 v hv);exact sI hL M M (hdSc k a v) _ ⟨l.slots,l.bound,hL.vars a hm⟩ this
mutual
theorem ro {p:Pg}:∀e:Ex,e.ok p->e.refs (okN p) (okS p)
 | .mk op n m s a,h=>by rw[Ex.ok] at h;rw[Ex.refs];exact⟨h.1,h.2.1,pq a h.2.2.2.2.2⟩
theorem pq {p:Pg}:∀l:List Ex,Ex.oks p l->Ex.refss (okN p) (okS p) l
 | [],_=>by rw[Ex.refss];trivial
 | x::xs,h=>by rw[Ex.oks] at h;rw[Ex.refss];exact⟨ro x h.1,pq xs h.2⟩
end
mutual
theorem st_refs {p:Pg}:∀e:St,e.ok p->e.refs (okN p) (okS p)
 | .mk op n m s t xs h e a,k=>by rw[St.ok] at k;rw[St.refs];exact⟨pq xs k.2.2.2.1,jQ h k.2.2.2.2.1,jQ e k.2.2.2.2.2.1,jQ a k.2.2.2.2.2.2⟩
theorem jQ {p:Pg}:∀l:List St,St.oks p l->St.refss (okN p) (okS p) l
 | [],_=>by rw[St.refss];trivial
 | x::xs,h=>by rw[St.oks] at h;rw[St.refss];exact⟨st_refs x h.1,jQ xs h.2⟩
end
mutual
theorem ex_rd {p:Pg}:∀(e:Ex) (d:Int),e.ok p->d+e.deep<=65536->e.rd d
 | .mk op n m s a,d,h,hd=>by rw[Ex.ok] at h;rw[Ex.deep] at hd;rw[Ex.rd];exact⟨h.2.2.1,h.2.2.2.1,h.2.2.2.2.1,ω,uw a (d+1) h.2.2.2.2.2 ω⟩
theorem uw {p:Pg}:∀(l:List Ex) (d:Int),Ex.oks p l->d+Ex.deeps l<=65536->Ex.rds d l
 | [],d,_,_=>by rw[Ex.rds];trivial
 | x::xs,d,h,hd=>by rw[Ex.oks] at h;rw[Ex.deeps] at hd;rw[Ex.rds];exact⟨ex_rd x d h.1 ω,uw xs d h.2 ω⟩
end
mutual
theorem st_rd {p:Pg}:∀(e:St) (d:Int),e.ok p->d+e.deep<=65536->e.rd d
 | .mk op n m s t xs h e a,d,k,hd=>by
  rw[St.ok] at k;rw[St.deep] at hd;rw[St.rd]
  exact⟨k.1,k.2.1,k.2.2.1,ω,uw xs (d+1) k.2.2.2.1 ω,pC h (d+1) k.2.2.2.2.1 ω,pC e (d+1) k.2.2.2.2.2.1 ω,pC a (d+1) k.2.2.2.2.2.2 ω⟩
theorem pC {p:Pg}:∀(l:List St) (d:Int),St.oks p l->d+St.deeps l<=65536->St.rds d l
 | [],d,_,_=>by rw[St.rds];trivial
 | x::xs,d,h,hd=>by rw[St.oks] at h;rw[St.deeps] at hd;rw[St.rds];exact⟨st_rd x d h.1 ω,pC xs d h.2 ω⟩
end
mutual
theorem uJ {p:Pg}:∀t:Ty,cd p t=true->t.refs (okS p)
 | .mk k s a,h=>by
  rw[cd] at h;simp only[τ] at h
  rw[Ty.refs]
  refine⟨λe=>?_,sB a h.2⟩
  have h1:=h.1
  rw[if_pos e] at h1
  obtain⟨i,hi⟩:=Option.isSome_iff_exists.1 h1
  exact List.mem_of_getElem? (cg _ _ _ _ hi).2
theorem sB {p:Pg}:∀l:List Ty,kJ p l=true->Ty.refss (okS p) l
 | [],_=>by rw[Ty.refss];trivial
 | x::xs,h=>by rw[kJ] at h;simp only[τ] at h;rw[Ty.refss];exact⟨uJ x h.1,sB xs h.2⟩
end
mutual
def Ty.deep:Ty->Nat
 | .mk _ _ a=>1+Ty.deeps a
def Ty.deeps:List Ty->Nat
 | []=>0
 | x::xs=>Ty.deep x+Ty.deeps xs
end
mutual
theorem ty_rd:∀(t:Ty) (d:Int),ag t=true->d+t.deep<=65536->t.rd d
 | .mk k s a,d,h,hd=>by
  rw[Ty.deep] at hd;rw[Ty.rd];rw[ag] at h
  split at h
  ·simp only[τ,decide_eq_true_eq] at h
   exact⟨⟨ω,ω⟩,ω,by rw[List.eq_nil_of_length_eq_zero h.2,Ty.rds];trivial⟩
  split at h
  ·simp only[τ,decide_eq_true_eq] at h
   exact⟨⟨ω,ω⟩,ω,by rw[List.eq_nil_of_length_eq_zero h.2,Ty.rds];trivial⟩
  split at h
  ·simp only[τ] at h
   exact⟨⟨ω,ω⟩,ω,uu a (d+1) h.2 ω⟩
  split at h
  ·simp only[τ] at h
   exact⟨⟨ω,ω⟩,ω,uu a (d+1) h.2 ω⟩
  cases h
theorem uu:∀(l:List Ty) (d:Int),eh l=true->d+Ty.deeps l<=65536->Ty.rds d l
 | [],d,_,_=>by rw[Ty.rds];trivial
 | x::xs,d,h,hd=>by rw[eh] at h;simp only[τ] at h;rw[Ty.deeps] at hd;rw[Ty.rds];exact⟨ty_rd x d h.1 ω,uu xs d h.2 ω⟩
end
structure Pg.tok (p:Pg):Prop where
 types:∀d∈p.types,∀c∈d.ctors,∀f∈c.fields,cZ p f.type=true
 effs:∀e∈p.effects,(∀f∈e.params,cZ p f.type=true)/\cZ p e.answer=true
 funs:∀f∈p.funs,(∀q∈f.params,cZ p q.type=true)/\cZ p f.result=true
 acts:∀a∈p.actors,(∀q∈a.params,cZ p q.type=true)/\(∀v∈a.vars,cZ p v.type=true)/\∀h∈a.on,∀q∈h.params,cZ p q.type=true
def eJ {p:Pg} (h:ci p t=true):cZ p t=true:=by unfold ci at h;simp only[τ] at h;exact h.1
def iq {p:Pg} (h:de p l=true):∀q∈l,cZ p q.type=true:=λq hq=>eJ (cI l [] h q hq).2
def zb {p:Pg} (h:cH p=true):p.tok:=by
 obtain⟨t,x,u⟩:=dV h;refine⟨λd hd k hk f hf=>?_,λe he=>?_,λf hf=>?_,λa ha=>?_⟩
 ·obtain⟨_,r,l⟩:=t _ hd;unfold fN at l;simp only[τ] at l;have i:=(cI _ _ l.2 k hk).2;unfold xH at i;split at i
  ·exact iq i f hf
  have:=List.all_eq_true.1 i f hf;unfold nD at this;simp only[τ] at this;first|exact eJ this|exact eJ this.2|exact eJ this.1
 ·have j:uniq Eff.nm aX (iu p) [] p.effects=true:=by
   unfold cH at h;split at h
   ·cases h
   simp only[τ] at h;exact h.2.1
  have i:=(cI _ _ j e he).2;unfold iu at i;simp only[τ] at i;exact⟨iq i.1,eJ i.2⟩
 ·have j:=u f hf;unfold funP at j;simp only[τ] at j;exact⟨λq hq=>(cI _ _ j.1 q hq).2,j.2.1⟩
 have j:=(x a ha).2;unfold acP at j;simp only[τ] at j;refine⟨iq j.1.1,λv hv=>eJ (cI _ _ j.2.1 v hv).2,λg hg q hq=>?_⟩;have i:=(cI _ _ j.2.2.1 g hg).2;unfold hdOk at i;simp only[τ] at i;exact iq i.1 q hq
def hJ {p:Pg} (h:cZ p t=true):t.refs (okS p):=by unfold cZ at h;simp only[τ] at h;exact uJ t h.2
def ru (p:Pg):NmInv dgN (DgOk p) (okN p) (okS p):=by
 refine⟨λst n h hn=>?_,λst s h hs=>?_⟩
 ·show DgOk p (match posI st.funs n with|some i=>(((i:Nat):Int),st)|none=>(((st.funs.length:Nat):Int),(⟨st.funs++[n],st.names⟩:Dg))).2
  cases hp:posI st.funs n with
  | some i=>exact h
  | none =>
   refine⟨?_,λm hm=>?_,h.nn,h.rn⟩
   ·have d:n∉st.funs:=λhm=>by
     have:∀(l:List Int),n∈l->posI l n≠none:=by
      intro l;induction l with
      | nil=>intro h;cases h
      | cons x l ih =>
       intro h;rw[posI];split
       ·intro e;cases e
       rename_i hx;rcases List.mem_cons.1 h with e|e
       ·exact absurd e.symm hx
       intro g;exact ih e (by simpa using g)
     exact this _ hm hp
    exact List.nodup_append.2 ⟨h.nf,by simp,λa ha b hb=>by simp at hb;subst hb;intro e;subst e;exact d ha⟩
   rcases List.mem_append.1 hm with h1|h1
   ·exact h.rf m h1
   simp at h1;subst h1;exact hn
 show DgOk p (if s.data.toList∈st.names then st else ⟨st.funs,st.names++[s.data.toList]⟩);split
 ·exact h
 rename_i d;refine⟨h.nf,h.rf,List.nodup_append.2 ⟨h.nn,by simp,λa ha b hb=>by simp at hb;subst hb;intro e;subst e;exact d ha⟩,λx hx=>?_⟩;rcases List.mem_append.1 hx with h1|h1
 ·exact h.rn x h1
 simp at h1;subst h1;exact hs
def zf {p:Pg} (hL:Lim p) (h:aW p M=true):DigOk p:=by
 have ho:=sO hL h;have d:p.tok:=zb (by unfold aW at h;simp only[τ] at h;exact h.1)
 refine⟨λa ha st hs=>wAc_inv (ru p) a st ⟨λq hq=>hJ ((d.acts a ha).1 q hq),λv hv=>⟨hJ ((d.acts a ha).2.1 v hv),ro _ (ho.vars a ha v hv)⟩,λg hg=>⟨λq hq=>hJ ((d.acts a ha).2.2 g hg q hq),jQ _ (ho.on a ha g hg)⟩⟩ hs,
  λf hf st hs=>uD (ru p) f st ⟨λq hq=>hJ ((d.funs f hf).1 q hq),hJ (d.funs f hf).2,ro _ (ho.funs f hf)⟩ hs,
  λf hf st hs=>sx (ru p) f st (λc hc q hq=>hJ (d.types f hf c hc q hq)) hs⟩
structure Pg.TDeep (p:Pg) (D:Nat):Prop where
 types:∀d∈p.types,∀c∈d.ctors,∀f∈c.fields,f.type.deep<=D
 effs:∀e∈p.effects,(∀f∈e.params,f.type.deep<=D)/\e.answer.deep<=D
 funs:∀f∈p.funs,(∀q∈f.params,q.type.deep<=D)/\f.result.deep<=D
 acts:∀a∈p.actors,(∀q∈a.params,q.type.deep<=D)/\(∀v∈a.vars,v.type.deep<=D)/\∀h∈a.on,∀q∈h.params,q.type.deep<=D
def iI {p:Pg} (h:cZ p t=true) (hd:t.deep<=65530):t.rd 0:=by unfold cZ at h;simp only[τ] at h;exact ty_rd t 0 h.1 ω
def pn {s:Int} {n:Nat} (h:gg s n=true):nOk s:=by have:=iW h;exact⟨ω,ω⟩
def rd_ok {p:Pg} (hL:Lim p) (h:aW p M=true) {D:Nat} (hd:p.Deep D) (ht:p.TDeep D) (hD:D<=65530):p.rd:=by
 have ho:=sO hL h;have l:cH p=true:=by unfold aW at h;simp only[τ] at h;exact h.1
 have i:p.tok:=zb l;obtain⟨u,t⟩:=vc l
 refine⟨λd hm c hcm f hfm=>iI (i.types d hm c hcm f hfm) (by have:=ht.types d hm c hcm f hfm;omega),λe he=>⟨λf hfm=>iI ((i.effs e he).1 f hfm) (by have:=(ht.effs e he).1 f hfm;omega),iI (i.effs e he).2 (by have:=(ht.effs e he).2;omega)⟩,
  λf hm=>⟨λq hq=>iI ((i.funs f hm).1 q hq) (by have:=(ht.funs f hm).1 q hq;omega),iI (i.funs f hm).2 (by have:=(ht.funs f hm).2;omega),pn (u f hm),ex_rd _ 0 (ho.funs f hm) (by have:=hd.funs f hm;omega)⟩,λa ha=>?_⟩
 have r:=((dV l).2.1 a ha).2;unfold acP at r;simp only[τ] at r;have j:=r.2.2.2
 have k:nOk a.policy/\nOk a.most:=by
  unfold cQ at j;split at j
  ·have:a.most=0:=by simpa using j
   exact⟨⟨ω,ω⟩,⟨ω,ω⟩⟩
  split at j
  ·simp only[τ,decide_eq_true_eq] at j;exact⟨⟨ω,ω⟩,⟨ω,ω⟩⟩
  cases j
 exact⟨λq hq=>iI ((i.acts a ha).1 q hq) (by have:=(ht.acts a ha).1 q hq;omega),pn (t a ha).1,λv hv=>⟨iI ((i.acts a ha).2.1 v hv) (by have:=(ht.acts a ha).2.1 v hv;omega),ex_rd _ 0 (ho.vars a ha v hv) (by have:=hd.vars a ha v hv;omega)⟩,
  λg hg=>⟨λq hq=>iI ((i.acts a ha).2.2 g hg q hq) (by have:=(ht.acts a ha).2.2 g hg q hq;omega),pn ((t a ha).2 g hg),ω,pC _ (0+1) (ho.on a ha g hg) (by have:=hd.on a ha g hg;omega)⟩,k.1,k.2⟩
mutual
theorem iP:∀(t:Ty) (d:Int),szTy d t<1000000->t.deep<=szTy d t
 | .mk k s a,d,h=>by
  rw[szTy] at h ⊢
  rw[Ty.deep]
  split at h
  ·omega
  rename_i hd;rw[if_neg hd];have:=oa a (d-1) ω;omega
theorem oa:∀(l:List Ty) (d:Int),iK d l<1000000->Ty.deeps l<=iK d l
 | [],d,_=>by rw[Ty.deeps];exact Nat.zero_le _
 | x::xs,d,h=>by
  rw[iK] at h ⊢
  rw[Ty.deeps]
  have:=iP x d ω
  have:=oa xs d ω
  omega
end
mutual
theorem mJ:∀(t:Ex) (d:Int),szEx d t<1000000->t.deep<=szEx d t
 | .mk o n m s a,d,h=>by
  rw[szEx] at h ⊢
  rw[Ex.deep]
  split at h
  ·omega
  rename_i hd;rw[if_neg hd];have:=kP a (d-1) ω;omega
theorem kP:∀(l:List Ex) (d:Int),fc d l<1000000->Ex.deeps l<=fc d l
 | [],d,_=>by rw[Ex.deeps];exact Nat.zero_le _
 | x::xs,d,h=>by
  rw[fc] at h ⊢
  rw[Ex.deeps]
  have:=mJ x d ω
  have:=kP xs d ω
  omega
end
mutual
theorem vJ:∀(t:St) (d:Int),szSt d t<1000000->t.deep<=szSt d t
 | .mk o n m s u xs h e a,d,hs=>by
  rw[szSt] at hs ⊢
  rw[St.deep]
  by_cases hd:d-1<0
  ·rw[if_pos hd] at hs;omega
  simp only[if_neg hd] at hs ⊢
  have:=kP xs d ω
  have:=hY h (d-1) ω
  have:=hY e (d-1) ω
  have:=hY a (d-1) ω
  omega
theorem hY:∀(l:List St) (d:Int),eZ d l<1000000->St.deeps l<=eZ d l
 | [],d,_=>by rw[St.deeps];exact Nat.zero_le _
 | x::xs,d,h=>by
  rw[eZ] at h ⊢
  rw[St.deeps]
  have:=vJ x d ω
  have:=hY xs d ω
  omega
end
def tu {l:List St} {d:Int} (h:ek d l<1000000):St.deeps l<=ek d l:=by
 unfold ek at h ⊢;split at h
 ·omega
 rename_i a;rw[if_neg a];exact hY l d h
theorem co {α:Type} {f:α->Nat}:∀{l:List α} {x:α},x∈l->f x<=sumN f l
 | y::l,x,h=>by
  rw[sumN]
  rcases List.mem_cons.1 h with rfl|h
  ·omega
  have:=co (f:=f) h;omega
theorem fp {α:Type} {f:α->Nat} (hf:∀x,1<=f x):∀l:List α,l.length<=sumN f l
 | []=>Nat.zero_le _
 | x::l=>by rw[sumN,δ];have:=fp hf l;have:=hf x;omega
theorem sE:∀{l:List Fld} {f:Fld},f∈l->szTy 20 f.type<=szFs l
 | g::l,f,h=>by
  rw[szFs]
  rcases List.mem_cons.1 h with rfl|h
  ·omega
  have:=sE h;omega
def iV (h:bY l<1000000):∀f∈l,f.type.deep<=bY l:=λf hf=>by
 unfold bY at h ⊢
 have h1:=sE hf
 have:=iP f.type 20 ω
 omega
def lO (c:Ctr):jo c=1+c.name.size+bY c.fields:=rfl
def i7 (c:Dcl):hZ c=1+c.name.size+sumN jo c.ctors:=rfl
def sH (c:Eff):jZ c=1+c.name.size+bY c.params+szTy 20 c.answer:=rfl
def qR (c:Fn):szFn c=1+c.name.size+bY c.params+szTy 20 c.result+szEx 50 c.body+jE c.slots:=rfl
def qP (c:Vr):szVr c=1+c.name.size+szTy 20 c.type+szEx 50 c.init:=rfl
def qQ (c:Hd):szHd c=1+c.msg.size+bY c.params+ek 50 c.body+jE c.slots:=rfl
def mx (c:Ac):szAc c=1+c.name.size+bY c.params+jE c.slots+sumN szVr c.vars+sumN szHd c.on:=rfl
def pS (c:Ctr):1<=jo c:=by unfold jo;omega
def vL (c:Dcl):1<=hZ c:=by unfold hZ;omega
def vK (c:Eff):1<=jZ c:=by unfold jZ;omega
def sF (c:Fn):1<=szFn c:=by unfold szFn;omega
def szAc_pos (c:Ac):1<=szAc c:=by unfold szAc;omega
def szVr_pos (c:Vr):1<=szVr c:=by unfold szVr;omega
theorem jp {α:Type} {f g:α->Nat} (h:∀x,f x<=g x):∀l:List α,(l.map f).sum<=sumN g l
 | []=>by simp
 | x::l=>by rw[List.map_cons,List.sum_cons,sumN];have:=jp h l;have:=h x;omega
def sX (l:List Fld):l<=bY l:=by unfold bY;omega
def cfN_le (l:List Ctr):cfN l<=sumN jo l:=jp (λc=>by rw[lO c];have:=sX c.fields;omega) l
section
variable {p:Pg} (h:szPg p<=4000)
include h
theorem uK:p.Deep 4000:=by
 unfold szPg at h;refine⟨λf hf=>?_,λa ha v hv=>?_,λa ha v hv=>?_⟩
 ·have g:=co (f:=szFn) hf;rw[qR f] at g;have:=mJ f.body 50 ω;omega
 ·have g:=co (f:=szAc) ha;have i:=co (f:=szVr) hv;rw[mx a] at g;rw[qP v] at i;have:=mJ v.init 50 ω;omega
 have g:=co (f:=szAc) ha;have i:=co (f:=szHd) hv;rw[mx a] at g;rw[qQ v] at i;have:=tu (l:=v.body) (d:=50) ω;omega
theorem sz_tdeep:p.TDeep 4000:=by
 unfold szPg at h;refine⟨λd hd c hc f hf=>?_,λe he=>?_,λf hf=>?_,λa ha=>?_⟩
 ·have i:=co (f:=hZ) hd;have j:=co (f:=jo) hc;rw[i7 d] at i;rw[lO c] at j;have:=iV (l:=c.fields) ω f hf;omega
 ·have i:=co (f:=jZ) he;rw[sH e] at i;exact⟨λf hf=>by have:=iV (l:=e.params) ω f hf;omega,by have:=iP e.answer 20 ω;omega⟩
 ·have i:=co (f:=szFn) hf;rw[qR f] at i;exact⟨λg hg=>by have:=iV (l:=f.params) ω g hg;omega,by have:=iP f.result 20 ω;omega⟩
 have i:=co (f:=szAc) ha;rw[mx a] at i;refine⟨λg hg=>by have:=iV (l:=a.params) ω g hg;omega,λv hv=>?_,λv hv=>?_⟩
 ·have j:=co (f:=szVr) hv;rw[qP v] at j;have:=iP v.type 20 ω;omega
 have j:=co (f:=szHd) hv;rw[qQ v] at j;exact λg hg=>by have:=iV (l:=v.params) ω g hg;omega
theorem sD:p.Small:=by
 unfold szPg at h;have k:=fp vL p.types;have j:=fp vK p.effects;have i:=fp sF p.funs;have g:=fp szAc_pos p.actors;have a:gO p.types<=sumN hZ p.types:=jp (λd=>by rw[i7 d];have:=fp pS d.ctors;omega) p.types;exact⟨ω,ω,ω,ω,ω⟩
theorem vI:di p.types<=4000:=by
 have a:di p.types<=sumN hZ p.types:=jp (λd=>by rw[i7 d];have:=cfN_le d.ctors;omega) p.types;unfold szPg at h;omega
theorem py:Fit p 4000:=⟨sD h,ψ (vI h) π,uK h,by decide⟩
theorem zc:Lim p:=by
 unfold szPg at h;refine⟨λd hd=>?_,λd hd c hc=>?_,?_,λa ha=>?_⟩
 ·have g:=co (f:=hZ) hd;rw[i7 d] at g;have:=fp pS d.ctors;omega
 ·have g:=co (f:=hZ) hd;have i:=co (f:=jo) hc;rw[i7 d] at g;rw[lO c] at i;have:=sX c.fields;omega
 ·have:=fp sF p.funs;omega
 have g:=co (f:=szAc) ha;rw[mx a] at g;have:=fp szVr_pos a.vars;omega
end
set_option maxRecDepth 100000
set_option maxHeartbeats 2000000
def mi (n:Int):Ex:=.mk 5 n 0 nm0 []
def exF:Fn:=⟨⟨#[102]⟩,[⟨⟨#[110]⟩,bTy 3⟩],.mk 8 nm0 [bTy 3,bTy 3],1,.mk 34 1 0 nm0 [mi 0]⟩
def exG:Fn:=⟨nm0,[⟨⟨#[110]⟩,bTy 3⟩,⟨⟨#[120]⟩,bTy 3⟩],bTy 3,2,.mk 20 0 0 nm0 [mi 0,mi 1]⟩
def rH:List St:=[.mk 2 0 0 nm0 nm0 [.mk 35 0 0 nm0 [.mk 33 0 0 nm0 [.mk 6 0 0 nm0 []],mi 0]] [] [] []]
def exA (o x q:Int):Ac:=⟨⟨#[77,97,105,110]⟩,[],0,[⟨⟨#[97]⟩,bTy 3,.mk o x 0 nm0 []⟩],[⟨⟨#[65,100,100]⟩,[⟨⟨#[107]⟩,bTy 3⟩],q,rH⟩],0,0⟩
def lI (n:Nat) (o x q:Int):List Obj:=[
 .cells #[(),(),.slice (n+19:Nat) 2 2,.slice (n+20:Nat) 1 1] 27,
 .cells #[(3:Int),"",()] 40,
 .cells #[(5:Int),(0:Int),(0:Int),"",()] 43,
 .cells #[.string ⟨#[110]⟩,(3:Int),"",()] 118,
 .cells #[(3:Int),"",(),(3:Int),"",()] 40,
 .cells #[(5:Int),(0:Int),(0:Int),"",()] 43,
 .cells #[.string ⟨#[102]⟩,.slice (n+3:Nat) 1 1,(8:Int),"",.slice (n+4:Nat) 2 2,(1:Int),(34:Int),(1:Int),(0:Int),"",.slice (n+5:Nat) 1 1] 45,
 .cells #[.string ⟨#[110]⟩,(3:Int),"",(),.string ⟨#[120]⟩,(3:Int),"",()] 118,
 .cells #[(5:Int),(0:Int),(0:Int),"",(),(5:Int),(1:Int),(0:Int),"",()] 43,
 .cells #["",.slice (n+7:Nat) 2 2,(3:Int),"",(),(2:Int),(20:Int),(0:Int),(0:Int),"",.slice (n+8:Nat) 2 2] 45,
 .cells #[.string ⟨#[107]⟩,(3:Int),"",()] 118,
 .cells #[(6:Int),(0:Int),(0:Int),"",()] 43,
 .cells #[(33:Int),(0:Int),(0:Int),"",.slice (n+11:Nat) 1 1,(5:Int),(0:Int),(0:Int),"",()] 43,
 .cells #[(35:Int),(0:Int),(0:Int),"",.slice (n+12:Nat) 2 2] 43,
 .cells #[(2:Int),(0:Int),(0:Int),"","",.slice (n+13:Nat) 1 1,(),(),()] 120,
 .cells #[.string ⟨#[65,100,100]⟩,.slice (n+10:Nat) 1 1,(1:Int),.slice (n+14:Nat) 1 1] 64,
 .cells #[.string ⟨#[97]⟩,(3:Int),"",(),o,x,(0:Int),"",()] 61,
 .cells #[.string ⟨#[65,100,100]⟩,.slice (n+10:Nat) 1 1,q,.slice (n+14:Nat) 1 1] 64,
 .cells #[.string ⟨#[77,97,105,110]⟩,(),(0:Int),.slice (n+16:Nat) 1 1,.slice (n+17:Nat) 1 1,(0:Int),(0:Int)] 54,
 .cells #[.string ⟨#[102]⟩,.slice (n+3:Nat) 1 1,(8:Int),"",.slice (n+4:Nat) 2 2,(1:Int),(34:Int),(1:Int),(0:Int),"",.slice (n+5:Nat) 1 1,"",.slice (n+7:Nat) 2 2,(3:Int),"",(),(2:Int),(20:Int),(0:Int),(0:Int),"",.slice (n+8:Nat) 2 2] 45,
 .cells #[.string ⟨#[77,97,105,110]⟩,(),(0:Int),.slice (n+16:Nat) 1 1,.slice (n+17:Nat) 1 1,(0:Int),(0:Int)] 54]
def ExAt (W:À) (n:Nat) (o x q:Int):Prop:=∀i,i<21->W.heap[n+i]?=(lI n o x q)[i]?
def jg (w:À) (l:List Obj):À:=l.foldl World.alloc w
def oX (l:List Obj):∀{w W:À},Below w w W->Below w w (jg W l):=by
 induction l with
 | nil=>intro w W h;exact h
 | cons o l ih=>intro w W h;exact ih (belA h o)
def xC (l:List Obj):∀(w:À) (i:Nat),i<l->(jg w l).heap[w.heap.size+i]?=l[i]?:=by
 induction l with
 | nil=>intro w i h;simp at h
 | cons o l ih =>
  intro w i h
  cases i with
  | zero =>
   have a:Below (w.alloc o).heap.size (w.alloc o) (jg (w.alloc o) l):=oX l (belR _);show (jg (w.alloc o) l).heap[w.heap.size]?=some o;rw[a.block _ Θ];exact heap_alloc_new w o
  | succ i =>
   have:=ih (w.alloc o) i (by simpa using h);show (jg (w.alloc o) l).heap[w.heap.size+(i+1)]?=l[i]?;rw[<-this];congr 1;simp;omega
def sZ (w:À):ExAt (jg w (lI w 3 1 1)) w 3 1 1:=λi h=>xC _ w i h
variable {W:À}
def ExAt.bel {W':À} {n:Nat} {o q:Int} (h:ExAt W n o x q) (hb:Below W W W'):ExAt W' n o x q:=λi hi=>by
 have hl:i<(lI n o x q).length:=hi
 have h1:=h i hi
 rw[<-h1]
 refine hb.block _ ?_
 rw[ξ hl] at h1
 exact (Array.getElem?_eq_some_iff.1 h1).1
def All2 {α β:Type} (R:α->β->Prop):List α->List β->Prop
 | [],[]=>True
 | a::l,b::m=>R a b/\All2 R l m
 | _,_=>False
theorem All2.at {α β:Type} {R:α->β->Prop}:∀{l:List α} {m:List β},All2 R l m->∀i (h':i<m.length),∃h:i<l.length,R l[i] m[i]
 | [],[],_,i,h=>by simp at h
 | a::l,b::m,h,0,_=>⟨by simp,h.1⟩
 | a::l,b::m,h,i+1,hi=>by
  obtain⟨h1,h2⟩:=h.2.at i (by simpa using hi)
  exact⟨by simpa using h1,h2⟩
 | [],_::_,h,_,_=>h.elim
 | _::_,[],h,_,_=>h.elim
theorem vd (size:Nat):∀(css:List (List Value)),(∀c∈css,c.length=size)->∀i (h:i<css.length) j u,css[i][j]?=some u->css.flatten[i*size+j]?=some u
 | [],_,i,h,_,_,_=>by simp at h
 | c::css,hl,0,_,j,u,hu=>by
  have hj:j<c.length:=(List.getElem?_eq_some_iff.1 hu).1
  rw[List.flatten_cons,Nat.zero_mul,Nat.zero_add,List.getElem?_append_left hj];exact hu
 | c::css,hl,i+1,h,j,u,hu=>by
  have hc:=hl c List.mem_cons_self
  rw[List.flatten_cons,List.getElem?_append_right (by rw[hc,Nat.succ_mul];omega)]
  have e:(i+1)*size+j-c.length=i*size+j:=by rw[hc,Nat.succ_mul];omega
  rw[e]
  exact vd size css (λx hx=>hl x (List.mem_cons_of_mem _ hx)) i (by simpa using h) j u hu
def ia {α:Type} {R:List Value->α->Prop} {P:Nat->Prop} {g t size n:Nat} {cs:Array Value} (css:List (List Value)) (l:List α) (cap:Nat) (h:Hs W g t cs) (hP:P g) (hc:cs=css.flatten.toArray) (hl:∀c∈css,c.length=size) (hn:l=n) (hm:n<=1000000) (hcap:n<=cap) (hR:All2 R css l):SlR W P size R (.slice g n cap) l:=by
 subst hn;refine⟨_,cap,λi=>(css[i]?).getD [],rfl,⟨by unfold maxLen;omega,hcap⟩,λ_=>⟨g,0,rfl,hP,λi hi=>?_⟩,λi hi=>?_⟩
 ·obtain⟨a,-⟩:=hR.at i hi;simp only[ξ a,Option.getD_some];refine⟨hl _ (ν a),λj u hu=>?_⟩;have:=vd size css hl i a j u hu;rw[Nat.zero_add,h.cell,hc];simpa using this
 obtain⟨a,d⟩:=hR.at i hi;simp only[ξ a,Option.getD_some];exact d
section
variable {W:À} {P:Nat->Prop} {n:Nat} {o x q:Int} (h:ExAt W n o x q) (hP:∀i,i<21->P (n+i))
def aZ (k:Int) (h:0<=k:=by decide) (h2:k<=100:=by decide):i64 k:=⟨ω,ω⟩
def tS:TyR W P [.int .i64 3,"",.slice none 0 0] (bTy 3):=cO _ _ 3 (aZ 3)
def kI {o:Int} (h1:i64 o) (h2:i64 x):ExR W P [.int .i64 o,.int .i64 x,.int .i64 0,"",.slice none 0 0] (.mk o x 0 nm0 []):=ExR.of ⟨h1,h2,aZ 0⟩ π SlR.nil
def fld_R {s:Ê} (hs:s.size<=maxLen):FldR W P (.string s::[.int .i64 3,"",.slice none 0 0]) ⟨s,bTy 3⟩:=⟨_,rfl,hs,tS⟩
include h hP
theorem exF_R:FnR W P [.string ⟨#[102]⟩,.slice (n+3:Nat) 1 1,.int .i64 8,"",.slice (n+4:Nat) 2 2,.int .i64 1,.int .i64 34,.int .i64 1,.int .i64 0,"",.slice (n+5:Nat) 1 1] exF:=
 ⟨_,[.int .i64 8,"",.slice (n+4:Nat) 2 2],[.int .i64 34,.int .i64 1,.int .i64 0,"",.slice (n+5:Nat) 1 1],rfl,aZ 1,by decide,ia (size:=4) (R:=FldR W P) [.string ⟨#[110]⟩::[.int .i64 3,"",.slice none 0 0]] [⟨⟨#[110]⟩,bTy 3⟩] 1 (h 3 π) (hP 3 π) rfl Θ rfl π π ⟨fld_R π,trivial⟩,
  TyR.of (aZ 8) π (ia (size:=3) (R:=TyR W P) [[.int .i64 3,"",.slice none 0 0],[.int .i64 3,"",.slice none 0 0]] [bTy 3,bTy 3] 2 (h 4 π) (hP 4 π) rfl Θ rfl π π ⟨tS,tS,trivial⟩),
  ExR.of ⟨aZ 34,aZ 1,aZ 0⟩ π (ia (size:=5) (R:=ExR W P) [[.int .i64 5,.int .i64 0,.int .i64 0,"",.slice none 0 0]] [mi 0] 1 (h 5 π) (hP 5 π) rfl Θ rfl π π ⟨kI (aZ 5) (aZ 0),trivial⟩)⟩
theorem exG_R:FnR W P ["",.slice (n+7:Nat) 2 2,.int .i64 3,"",.slice none 0 0,.int .i64 2,.int .i64 20,.int .i64 0,.int .i64 0,"",.slice (n+8:Nat) 2 2] exG:=
 ⟨_,[.int .i64 3,"",.slice none 0 0],[.int .i64 20,.int .i64 0,.int .i64 0,"",.slice (n+8:Nat) 2 2],rfl,aZ 2,by decide,ia (size:=4) (R:=FldR W P) [.string ⟨#[110]⟩::[.int .i64 3,"",.slice none 0 0],.string ⟨#[120]⟩::[.int .i64 3,"",.slice none 0 0]] [⟨⟨#[110]⟩,bTy 3⟩,⟨⟨#[120]⟩,bTy 3⟩] 2 (h 7 π) (hP 7 π) rfl Θ rfl π π ⟨fld_R π,fld_R π,trivial⟩,
  tS,ExR.of ⟨aZ 20,aZ 0,aZ 0⟩ π (ia (size:=5) (R:=ExR W P) [[.int .i64 5,.int .i64 0,.int .i64 0,"",.slice none 0 0],[.int .i64 5,.int .i64 1,.int .i64 0,"",.slice none 0 0]] [mi 0,mi 1] 2 (h 8 π) (hP 8 π) rfl Θ rfl π π ⟨kI (aZ 5) (aZ 0),kI (aZ 5) (aZ 1),trivial⟩)⟩
theorem exFs_R:SlR W P 11 (FnR W P) (.slice (n+19:Nat) 2 2) [exF,exG]:=
 ia [[.string ⟨#[102]⟩,.slice (n+3:Nat) 1 1,.int .i64 8,"",.slice (n+4:Nat) 2 2,.int .i64 1,.int .i64 34,.int .i64 1,.int .i64 0,"",.slice (n+5:Nat) 1 1],["",.slice (n+7:Nat) 2 2,.int .i64 3,"",.slice none 0 0,.int .i64 2,.int .i64 20,.int .i64 0,.int .i64 0,"",.slice (n+8:Nat) 2 2]] [exF,exG] 2 (h 19 π) (hP 19 π) rfl Θ rfl π π ⟨exF_R h hP,exG_R h hP,trivial⟩
theorem exBody_R:StsR W P (.slice (n+14:Nat) 1 1) rH:=by
 have i:ExR W P [.int .i64 6,.int .i64 0,.int .i64 0,"",.slice none 0 0] (.mk 6 0 0 nm0 []):=kI (aZ 6) (aZ 0);have g:ExR W P [.int .i64 33,.int .i64 0,.int .i64 0,"",.slice (n+11:Nat) 1 1] (.mk 33 0 0 nm0 [.mk 6 0 0 nm0 []]):=ExR.of ⟨aZ 33,aZ 0,aZ 0⟩ π (ia (size:=5) (R:=ExR W P) [[.int .i64 6,.int .i64 0,.int .i64 0,"",.slice none 0 0]] [.mk 6 0 0 nm0 []] 1 (h 11 π) (hP 11 π) rfl Θ rfl π π ⟨i,trivial⟩);have d:ExR W P [.int .i64 35,.int .i64 0,.int .i64 0,"",.slice (n+12:Nat) 2 2] (.mk 35 0 0 nm0 [.mk 33 0 0 nm0 [.mk 6 0 0 nm0 []],mi 0]):=ExR.of ⟨aZ 35,aZ 0,aZ 0⟩ π (ia (size:=5) (R:=ExR W P) [[.int .i64 33,.int .i64 0,.int .i64 0,"",.slice (n+11:Nat) 1 1],[.int .i64 5,.int .i64 0,.int .i64 0,"",.slice none 0 0]] [.mk 33 0 0 nm0 [.mk 6 0 0 nm0 []],mi 0] 2 (h 12 π) (hP 12 π) rfl Θ rfl π π ⟨g,kI (aZ 5) (aZ 0),trivial⟩);have a:ExsR W P (.slice (n+13:Nat) 1 1) [.mk 35 0 0 nm0 [.mk 33 0 0 nm0 [.mk 6 0 0 nm0 []],mi 0]]:=ia [[.int .i64 35,.int .i64 0,.int .i64 0,"",.slice (n+12:Nat) 2 2]] _ 1 (h 13 π) (hP 13 π) rfl Θ rfl π π ⟨d,trivial⟩
 exact ia [[.int .i64 2,.int .i64 0,.int .i64 0,"","",.slice (n+13:Nat) 1 1,.slice none 0 0,.slice none 0 0,.slice none 0 0]] _ 1 (h 14 π) (hP 14 π) rfl Θ rfl π π ⟨StR.of ⟨aZ 2,aZ 0,aZ 0⟩ π π a SlR.nil SlR.nil SlR.nil,trivial⟩
theorem exAs_R (ho:i64 o) (hx:i64 x) (hq:i64 q):SlR W P 7 (AcR W P) (.slice (n+20:Nat) 1 1) [exA o x q]:=by
 have d:VrsR W P (.slice (n+16:Nat) 1 1) [⟨⟨#[97]⟩,bTy 3,.mk o x 0 nm0 []⟩]:=ia [[.string ⟨#[97]⟩,.int .i64 3,"",.slice none 0 0,.int .i64 o,.int .i64 x,.int .i64 0,"",.slice none 0 0]] _ 1 (h 16 π) (hP 16 π) rfl Θ rfl π π ⟨⟨[.int .i64 3,"",.slice none 0 0],[.int .i64 o,.int .i64 x,.int .i64 0,"",.slice none 0 0],rfl,(by decide:(1:Nat)<=maxLen),tS,kI ho hx⟩,trivial⟩;have a:HdsR W P (.slice (n+17:Nat) 1 1) [⟨⟨#[65,100,100]⟩,[⟨⟨#[107]⟩,bTy 3⟩],q,rH⟩]:=ia [[.string ⟨#[65,100,100]⟩,.slice (n+10:Nat) 1 1,.int .i64 q,.slice (n+14:Nat) 1 1]] _ 1 (h 17 π) (hP 17 π) rfl Θ rfl π π ⟨⟨_,_,rfl,hq,(by decide:(3:Nat)<=maxLen),ia (size:=4) (R:=FldR W P) [.string ⟨#[107]⟩::[.int .i64 3,"",.slice none 0 0]] [⟨⟨#[107]⟩,bTy 3⟩] 1 (h 10 π) (hP 10 π) rfl Θ rfl π π ⟨fld_R π,trivial⟩,exBody_R h hP⟩,trivial⟩;exact ia [[.string ⟨#[77,97,105,110]⟩,.slice none 0 0,.int .i64 0,.slice (n+16:Nat) 1 1,.slice (n+17:Nat) 1 1,.int .i64 0,.int .i64 0]] [exA o x q] 1 (h 20 π) (hP 20 π) rfl Θ rfl π π ⟨⟨_,_,_,rfl,⟨aZ 0,aZ 0,aZ 0⟩,(by decide:(4:Nat)<=maxLen),SlR.nil,d,a⟩,trivial⟩
end
def exPg (o x q:Int):Pg:=⟨[],[],[exF,exG],[exA o x q]⟩
def vf {n:Nat} {o q:Int} (h:ExAt W n o x q) (hn:n+21<=W) (ho:i64 o) (hx:i64 x) (hq:i64 q):PgAt W none none (some ⟨n+19,0,none⟩) (some ⟨n+20,0,none⟩) 0 0 2 1 (exPg o x q):=
 have hP:∀i,i<21->lo W (n+i):=λi hi=>by unfold lo;omega
 ⟨SlR.nil,SlR.nil,exFs_R h hP,exAs_R h hP ho hx hq⟩
def ExSaid (w:À) (e:Ending) (w':À):Prop:=e=.returned (.agg #[(),(),.slice (w+19:Nat) 2 2,.slice (w+20:Nat) 1 1])/\ExAt w' w 3 1 1/\w.heap.size+21=w'/\Below w w w'
def sk (l:List Obj):∀w:À,(jg w l).heap.size=w+l:=by
 induction l with
 | nil=>intro w;rfl
 | cons o l ih=>intro w;show (jg (w.alloc o) l).heap.size=_;rw[ih];simp;omega
def fX {w:À}:Calls prog 17 #[] w (ExSaid w):=by
 have a:Hid (ExSaid w (.returned (.agg #[(),(),.slice (w+19:Nat) 2 2,.slice (w+20:Nat) 1 1])) (jg w (lI w 3 1 1))):=
  ⟨rfl,sZ w,(sk (lI w 3 1 1) w).symm,oX _ (belR w)⟩
 have d:Hid (Hs (jg w (lI w 3 1 1)) w 27 #[(),(),.slice (w+19:Nat) 2 2,.slice (w+20:Nat) 1 1]):=sZ w 0 π;go_in;go_wp2;refine bodyPost_ret (v:=.agg #[(),(),.slice (w+19:Nat) 2 2,.slice (w+20:Nat) 1 1]) ?_ rfl a;exact results_cell_row results17 _ _ w 27 _ _ _ rfl d underlying27 rfl Δ
namespace ShaT
def part5 (l:List Nat) (k:Nat) (h:k<l) (w:À):(part 5 (u8s l) k).run prog w=.ok (.int .u8 (l.getD k 0)) w:=by
 simp[part,isAgg5,sizeOf5,u8s,h]
def wR (d:Nat) (a b:List Nat) (w:À):∀(n k:Nat),k+n=a->a.length=b.length ->
 (forIn (List.range' k n) ((none,()):Option Bool×Unit) λi __s=>do
   let __do_lift <-part 5 (u8s a) i
   let __do_lift_1 <-part 5 (u8s b) i
   let __do_lift <-Op.equalIn (d+1) 5 __do_lift __do_lift_1
   if (!__do_lift)=true then pure (ForInStep.done (some false,())) else pure (ForInStep.yield (none,()))).run prog w=.ok (if a.drop k=b.drop k then none else some false,()) w:=by
 intro n;induction n with
 | zero =>
  intro k t l;rw[List.drop_of_length_le ω,List.drop_of_length_le ω];simp[Sem.run_pure]
 | succ n ih =>
  intro k t l
  have r:a.drop k=a.getD k 0::a.drop (k+1):=by
   rw[List.drop_eq_getElem_cons ω];simp[List.getD,show k<a.length by omega]
  have q:b.drop k=b.getD k 0::b.drop (k+1):=by
   rw[List.drop_eq_getElem_cons ω];simp[List.getD,show k<b.length by omega]
  have j:=ih (k+1) ω l;rw[List.range'_succ,List.forIn_cons];simp only[Sem.run_bind,part5 a k ω w,part5 b k ω w,Result.andThen_ok,run_equalIn_int w d 5 .u8 .u8 _ _ underlying5];by_cases h:a.getD k 0=b.getD k 0
  ·have g:(((a.getD k 0:Nat):Int)==((b.getD k 0:Nat):Int))=true:=by rw[h];simp
   rw[g];simp only[Bool.not_true,Bool.false_eq_true,if_false,Sem.run_pure,Result.andThen_ok];rw[j,r,q,h];simp
  have g:(((a.getD k 0:Nat):Int)==((b.getD k 0:Nat):Int))=false:=by rw[beq_eq_false_iff_ne];omega
  rw[g];simp only[Bool.not_false,if_true,Sem.run_pure,Result.andThen_ok];rw[r,q,if_neg (by simp only[List.cons.injEq,not_and];intro e;exact absurd e h)]
def jq (d:Nat) (a b:List Nat) (ha:a.length=32) (hb:b.length=32) (w:À) :
 (Op.equalIn (d+2) 34 (.agg (u8s a)) (.agg (u8s b))).run prog w=.ok (a==b) w:=by
 unfold Op.equalIn;simp only[Sem.run_bind,run_underlying underlying34,Result.andThen_ok,sizeOf5,Std.Legacy.Range.forIn_eq_forIn_range',Nat.mul_one];have e:(Std.Legacy.Range.size [:32])=32:=by decide
 rw[e,wR d a b w 32 0 ω ω];simp only[List.drop_zero,Result.andThen_ok];by_cases h:a=b
 ·simp[h,Sem.run_pure]
 have:(a==b)=false:=by simp[h]
 simp[h,Sem.run_pure]
def run_eql_u8s (a b:List Nat) (ha:a.length=32) (hb:b.length=32) (w:À):(binOp .eql 34 (.agg (u8s a)) (.agg (u8s b))).run prog w=.ok (.bool (a==b)) w:=by
 rw[run_eql_struct,jq 9998 a b ha hb w];rfl
def run_neq_u8s (a b:List Nat) (ha:a.length=32) (hb:b.length=32) (w:À):(binOp .neq 34 (.agg (u8s a)) (.agg (u8s b))).run prog w=.ok (.bool (!(a==b))) w:=by
 rw[run_neq_struct,jq 9998 a b ha hb w];rfl
end ShaT
def shaS_len (l:List Nat):(ShaT.shaS l).length=32:=by unfold ShaT.shaS ShaT.dgTo;simp
def ml (p:Pg) (M:Nat) (s:List UInt8):(digP p M s).length=32:=by
 unfold digP;split
 ·simp
 split
 ·split
  ·simp
  exact shaS_len _
 simp
def vh {a b:List Nat} {c:Bool} (ha:a.length=32) (hb:b.length=32) (hc:(a==b)=c) (w:À):(binOp .eql 34 (.agg (ShaT.u8s a)) (.agg (ShaT.u8s b))).run prog w=.ok (c:Vl) w:=by rw[ShaT.run_eql_u8s a b ha hb,hc]
def vg {a b:List Nat} {c:Bool} (ha:a.length=32) (hb:b.length=32) (hc:(a==b)=c) (w:À):(binOp .neq 34 (.agg (ShaT.u8s a)) (.agg (ShaT.u8s b))).run prog w=.ok (.bool (!c)) w:=by rw[ShaT.run_neq_u8s a b ha hb,hc]
def dh {P:Program} {a:Act} {o:Oper} {C:À->Prop} {K:Act->Prop} (ty:TypeId) (x:Operand) (ho:o.op=.load ty x)
 (g:Nat) (hx:a.eval x=.pointer (some ⟨g,0,none⟩)) (t:TypeId) (cs:Array Value) (fr:Nat×Nat) (d:TypeDesc) (hg:∀w,C w->w.heap[g]?=some (.cells cs t fr))
 (hu:P.underlying ty=some d) (hd:(match d with|.struct _|.array _ _=>true|_=>false)=true) (hi:(P.info? ty).map (·.size)=some cs.size)
 (h:K (a.put o.dst (.agg cs))):o.quiet P a C K:=by
 refine⟨.agg cs,λw hw=>?_,h⟩;unfold Oper.quietAt execOp;simp only[ho,hx,Instr.loadAt,Instr.sureAddr,Sem.run_bind,Sem.run_pure,Result.andThen_ok,run_loadVar_row w g t ty cs fr d (hg w hw) hu hd hi];exact⟨rfl,rfl⟩
def eL {g:Nat} {o:Obj} (h:W.heap[g]?=some o):∀w,(∃p:Regrown,w=Sort.grow (redrawn W p.d) p.os)->w.heap[g]?=some o:=by
 rintro w ⟨p,rfl⟩;rw[(below_regrown W p.d p.os).block g (Array.getElem?_eq_some_iff.1 h).1];exact h
def Cf:ShaT.u8s (List.replicate 32 0)=#[.int .u8 0,.int .u8 0,.int .u8 0,.int .u8 0,.int .u8 0,.int .u8 0,.int .u8 0,.int .u8 0,.int .u8 0,.int .u8 0,.int .u8 0,.int .u8 0,.int .u8 0,.int .u8 0,.int .u8 0,.int .u8 0,.int .u8 0,.int .u8 0,.int .u8 0,.int .u8 0,.int .u8 0,.int .u8 0,.int .u8 0,.int .u8 0,.int .u8 0,.int .u8 0,.int .u8 0,.int .u8 0,.int .u8 0,.int .u8 0,.int .u8 0,.int .u8 0]:=rfl
end
end
section
open Proofs.Tryz RowKit Maps WideMaps ChangeMaps
structure VarAt (W:À) (b:Nat) (A2 A3:Option Addr) (q2 q3:Nat) (p:Pg):Prop where
 bx:Hs W b 27 #[(),(),.slice A2 p.funs q2,.slice A3 p.actors q3]
 pg:PgAt W none none A2 A3 0 0 q2 q3 p
 ty:p.types=[]
 ef:p.effects=[]
variable {W W':À}
def VarAt.bel {b:Nat} {A2 A3:Option Addr} {q2 q3:Nat} {p:Pg} (h:VarAt W b A2 A3 q2 q3 p) (hb:Below W W W'):VarAt W' b A2 A3 q2 q3 p:=⟨aH h.bx hb,h.pg.bel hb,h.ty,h.ef⟩
def xJ (n:Nat):Array Value:=#[(),(),.slice (n+19:Nat) 2 2,.slice (n+20:Nat) 1 1]
def ex_var {w w1:À} (h:ExAt w1 w 3 1 1) (hz:w.heap.size+21=w1):VarAt (w1.alloc (.cells (xJ w) 27)) w1 (some ⟨w+19,0,none⟩) (some ⟨w+20,0,none⟩) 2 1 (exPg 3 1 1):=
 ⟨Hs.new _ _ _,(vf h ω (aZ 3) (aZ 1) (aZ 1)).bel ζ1,rfl,rfl⟩
variable {t:Nat} {cs:Array Value}
def ExAt.put {n:Nat} {l:List Obj} (h:∀i,i<21->W.heap[n+i]?=l[i]?) {k j:Nat} (hk:k<21) (hl:l[k]?=some (.cells cs t)) (v:Value):∀i,i<21->(W.setCell ⟨n+k,j,none⟩ v).heap[n+i]?=(l.set k (.cells (cs.setIfInBounds j v) t))[i]?:=λi hi=>by
 have hk':k<l:=(List.getElem?_eq_some_iff.1 hl).1
 by_cases e:i=k
 ·subst e
  rw[List.getElem?_set_self hk']
  exact er (i:=j) (v:=v) (show Hs W (n+i) t cs from (h i hi).trans hl)
 rw[List.getElem?_set_ne (λe2=>e e2.symm),<-h i hi]
 exact Below.heap_setCell _ _ _ _ (by show n+i≠n+k;omega)
variable {x q:Int}
def ExAt.cell {n:Nat} {o:Int} (h:ExAt W n o x q) (i:Nat) (hi:i<21) (hc:(lI n o x q)[i]?=some (.cells cs t)):Hs W (n+i) t cs:=(h i hi).trans hc
def jO {n b:Nat} {o:Int} (h:ExAt W n o x q) (hn:n+21<=W) (hb:Hs W b 27 (xJ n)) (ho:i64 o) (hx:i64 x) (hq:i64 q):VarAt W b (some ⟨n+19,0,none⟩) (some ⟨n+20,0,none⟩) 2 1 (exPg o x q):=⟨hb,vf h hn ho hx hq,rfl,rfl⟩
def exH3:Fn:=⟨⟨#[104]⟩,[],bTy 1,0,.mk 1 0 0 nm0 []⟩
def exPs:Pg:=⟨[],[],[exF,exG,exH3],[exA 3 1 1]⟩
def hs_add {g:Nat} (h:Hs W g t cs):∀j u,cs.toList[j]?=some u->W.cell? ((⟨g,0,none⟩:Addr).add j)=some u:=λj u hu=>by
 have e:(⟨g,0,none⟩:Addr).add j=⟨g,j,none⟩:=by
  unfold Addr.add;split
  ·rename_i a;have:j=0:=by simpa using a
   rw[this]
  simp
 rw[e,h.cell];simpa using hu
def exOld (n:Nat):List Value:=[.string ⟨#[102]⟩,.slice (some ⟨n+3,0,none⟩) 1 1,.int .i64 8,.string ⟨#[]⟩,.slice (some ⟨n+4,0,none⟩) 2 2,.int .i64 1,.int .i64 34,.int .i64 1,.int .i64 0,.string ⟨#[]⟩,.slice (some ⟨n+5,0,none⟩) 1 1]++[.string ⟨#[]⟩,.slice (some ⟨n+7,0,none⟩) 2 2,.int .i64 3,.string ⟨#[]⟩,.slice none 0 0,.int .i64 2,.int .i64 20,.int .i64 0,.int .i64 0,.string ⟨#[]⟩,.slice (some ⟨n+8,0,none⟩) 2 2]
def exNew:List Value:=[.string ⟨#[104]⟩,.slice none 0 0,.int .i64 1,"",.slice none 0 0,.int .i64 0,.int .i64 1,.int .i64 0,.int .i64 0,"",.slice none 0 0]
def xh:∀u∈exNew,u.oneCell'=true:=by intro u hu;unfold exNew at hu;simp only[List.mem_cons,List.not_mem_nil,or_false] at hu;rcases hu with rfl|rfl|rfl|rfl|rfl|rfl|rfl|rfl|rfl|rfl|rfl<;>rfl
def exS_pg {w':À} {n base:Nat} {A:Option Addr} {c:Nat} {o:Int} (h':ExAt w' n o x q) (hn:n+21<=w') (ho:i64 o) (hx:i64 x) (hq:i64 q) (hr:w'.ownsRow base 45 11 (.slice A 3 c) 3 (exOld n++exNew)):PgAt w' none none A (some ⟨n+20,0,none⟩) 0 0 c 1 ⟨[],[],[exF,exG,exH3],[exA o x q]⟩:=by
 have d:∀i,i<21->lo w' (n+i):=λi hi=>by unfold lo;omega
 have j:RowG 11 (FnR w' (lo w')) (exOld n++exNew) [exF,exG,exH3]:=by
  have r:RowG 11 (FnR w' (lo w')) [] []:=RowG.nil _;have l:=RowG.snoc (a:=exF) r (cs:=[.string ⟨#[102]⟩,.slice (n+3:Nat) 1 1,.int .i64 8,"",.slice (n+4:Nat) 2 2,.int .i64 1,.int .i64 34,.int .i64 1,.int .i64 0,"",.slice (n+5:Nat) 1 1]) rfl (exF_R h' d);have k:=RowG.snoc (a:=exG) l (cs:=["",.slice (n+7:Nat) 2 2,.int .i64 3,"",.slice none 0 0,.int .i64 2,.int .i64 20,.int .i64 0,.int .i64 0,"",.slice (n+8:Nat) 2 2]) rfl (exG_R h' d);exact RowG.snoc (a:=exH3) k (cs:=exNew) rfl ⟨_,[.int .i64 1,"",.slice none 0 0],_,rfl,aZ 0,by decide,SlR.nil,cO _ _ 1 (aZ 1),kI (aZ 1) (aZ 0)⟩
 have h:=j.sl (P:=lo w') (v:=.slice A 3 c) hr (λg hgo=>by
  unfold lo;obtain⟨y,z,t,_,u⟩:=ez hr π;rw[t] at hgo;simp[Value.ownBlock] at hgo;omega)
 exact⟨SlR.nil,SlR.nil,h,exAs_R h' d ho hx hq⟩
def ExAt.oth {n:Nat} {o:Int} (h:ExAt W n o x q) {a:Addr} (ha:n+21<=a.block) (v:Value):ExAt (W.setCell a v) n o x q:=λi hi=>by
 rw[<-h i hi]
 exact Below.heap_setCell _ _ _ _ (by show n+i≠a.block;omega)
def ExAt.grown {n:Nat} {o:Int} (h:ExAt W n o x q) (hg:W.grownBy W' none):ExAt W' n o x q:=h.bel ⟨hg.os,hg.tape,hg.output,hg.size,λk hk=>hg.block k hk Θ⟩
def qq {w:À} (h:Below w w W) (hg:W.grownBy W' none):Below w w W':=bel h ⟨hg.os,hg.tape,hg.output,hg.size,λk hk=>hg.block k hk Θ⟩
def oP (o x q:Int):(exPg o x q).Deep 100:=by
 refine⟨λf hf=>?_,λa ha v hv=>?_,λa ha h hh=>?_⟩
 ·simp only[exPg,List.mem_cons,List.not_mem_nil,or_false] at hf;rcases hf with rfl|rfl<;>decide
 ·simp only[exPg,exA,List.mem_cons,List.not_mem_nil,or_false] at ha;subst ha;simp only[List.mem_cons,List.not_mem_nil,or_false] at hv;subst hv;simp[Ex.deep,Ex.deeps]
 simp only[exPg,exA,List.mem_cons,List.not_mem_nil,or_false] at ha;subst ha;simp only[List.mem_cons,List.not_mem_nil,or_false] at hh;subst hh;show St.deeps rH<=100;decide
def exs_deep:exPs.Deep 100:=by
 refine⟨λf hf=>?_,(oP 3 1 1).vars,(oP 3 1 1).on⟩;simp only[exPs,List.mem_cons,List.not_mem_nil,or_false] at hf;rcases hf with rfl|rfl|rfl<;>decide
def pM (o x q:Int):Fit (exPg o x q) 100:=⟨⟨Nat.zero_le _,Nat.zero_le _,Nat.zero_le _,by show 2<=1000000;decide,by show 1<=1000000;decide⟩,Nat.zero_le _,oP o x q,by decide⟩
def ve:Fit exPs 100:=⟨⟨Nat.zero_le _,Nat.zero_le _,Nat.zero_le _,by decide,by decide⟩,Nat.zero_le _,exs_deep,by decide⟩
def exNil:Pg:=⟨[],[],[],[]⟩
def nil_fit:Fit exNil 100:=⟨⟨Nat.zero_le _,Nat.zero_le _,Nat.zero_le _,Nat.zero_le _,Nat.zero_le _⟩,Nat.zero_le _,⟨(λ_ h=>nomatch h),(λ_ h=>nomatch h),(λ_ h=>nomatch h)⟩,by decide⟩
def ux (o x q:Int):Lim (exPg o x q):=⟨(λ_ h=>nomatch h),(λ_ h=>nomatch h),by show 2<=1000000;decide,λa ha=>by simp only[exPg,List.mem_cons,List.not_mem_nil,or_false] at ha;subst ha;show 1<=1000000;decide⟩
def exs_lim:Lim exPs:=⟨(λ_ h=>nomatch h),(λ_ h=>nomatch h),by decide,(ux 3 1 1).vars⟩
def ex_tdeep:(exPg 3 1 1).TDeep 100:=by
 refine⟨(λ_ h=>nomatch h),(λ_ h=>nomatch h),λf hf=>?_,λa ha=>?_⟩
 ·simp only[exPg,List.mem_cons,List.not_mem_nil,or_false] at hf;rcases hf with rfl|rfl<;>exact⟨by decide,by decide⟩
 simp only[exPg,exA,List.mem_cons,List.not_mem_nil,or_false] at ha;subst ha;exact⟨(λ_ h=>nomatch h),by decide,by decide⟩
def ex_r1:aW (exPg 3 1 1) 100=true:=by decide +kernel
def ex_r2:aW (exPg 4 0 1) 100=false:=by decide +kernel
def ex_r3:aW (exPg 3 1 0) 100=false:=by decide +kernel
def ex_r4:aW exPs 100=true:=by decide +kernel
def ex_r5:aW exNil 100=false:=by decide +kernel
def ex_s1:rC (exPg 3 1 1) (exPg 3 1 1)=true:=by decide +kernel
def ex_s2:rC (exPg 3 1 1) exPs=false:=by decide +kernel
def exStr:Ê:=bstr (hX (exPg 3 1 1))
def dP:List Nat:=digP (exPg 3 1 1) 100 [77,97,105,110]
def dS:List Nat:=digP exPs 100 [77,97,105,110]
def dT:List Nat:=digP (exPg 3 2 1) 100 [77,97,105,110]
def dO:List Nat:=digP (exPg 3 1 1) 100 [79,116,104,101,114]
def dP_z:(dP==List.replicate 32 0)=false:=by decide +kernel
def dP_S:(dP==dS)=true:=by decide +kernel
def dP_T:(dP==dT)=false:=by decide +kernel
def dO_z:(dO==List.replicate 32 0)=true:=by decide +kernel
def uy:dP.length=32:=ml _ _ _
def dS_len:dS.length=32:=ml _ _ _
def dT_len:dT.length=32:=ml _ _ _
def dO_len:dO.length=32:=ml _ _ _
def ex_k1:∀W,(binOp .neq 34 (.agg (ShaT.u8s dP)) (.agg #[.int .u8 0,.int .u8 0,.int .u8 0,.int .u8 0,.int .u8 0,.int .u8 0,.int .u8 0,.int .u8 0,.int .u8 0,.int .u8 0,.int .u8 0,.int .u8 0,.int .u8 0,.int .u8 0,.int .u8 0,.int .u8 0,.int .u8 0,.int .u8 0,.int .u8 0,.int .u8 0,.int .u8 0,.int .u8 0,.int .u8 0,.int .u8 0,.int .u8 0,.int .u8 0,.int .u8 0,.int .u8 0,.int .u8 0,.int .u8 0,.int .u8 0,.int .u8 0])).run prog W=.ok (true:Vl) W:=by
 intro W;rw[<-Cf,vg uy Θ dP_z W];rfl
def ex_k2:∀W,(binOp .eql 34 (.agg (ShaT.u8s dP)) (.agg (ShaT.u8s dS))).run prog W=.ok (true:Vl) W:=λW=>by rw[vh uy dS_len dP_S W]
def ex_k3:∀W,(binOp .neq 34 (.agg (ShaT.u8s dP)) (.agg (ShaT.u8s dT))).run prog W=.ok (true:Vl) W:=λW=>by rw[vg uy dT_len dP_T W];rfl
def ex_k4:∀W,(binOp .eql 34 (.agg (ShaT.u8s dO)) (.agg #[.int .u8 0,.int .u8 0,.int .u8 0,.int .u8 0,.int .u8 0,.int .u8 0,.int .u8 0,.int .u8 0,.int .u8 0,.int .u8 0,.int .u8 0,.int .u8 0,.int .u8 0,.int .u8 0,.int .u8 0,.int .u8 0,.int .u8 0,.int .u8 0,.int .u8 0,.int .u8 0,.int .u8 0,.int .u8 0,.int .u8 0,.int .u8 0,.int .u8 0,.int .u8 0,.int .u8 0,.int .u8 0,.int .u8 0,.int .u8 0,.int .u8 0,.int .u8 0])).run prog W=.ok (true:Vl) W:=λW=>by rw[<-Cf,vh dO_len Θ dO_z W]
section
variable {W:À} {b:Nat} {A2 A3:Option Addr} {q2 q3:Nat} {o x q:Int}
def c_bytes1 (h:VarAt W b A2 A3 q2 q3 (exPg 3 1 1)):Calls prog 9 #[.agg #[(),(),.slice A2 2 q2,.slice A3 1 q3]] W λe w'=>e=.returned (exStr:Vl)/\Below W W w':=by
 refine (qo h.pg (pM 3 1 1) Γ).mono ?_;rintro e w' ⟨rfl,a⟩;exact⟨by unfold lJ;rw[if_pos ex_r1];rfl,a⟩
def c_bytes2 (h:VarAt W b A2 A3 q2 q3 (exPg 4 0 1)):Calls prog 9 #[.agg #[(),(),.slice A2 2 q2,.slice A3 1 q3]] W λe w'=>e=.returned (.string ⟨#[]⟩)/\Below W W w':=by
 refine (qo h.pg (pM 4 0 1) Γ).mono ?_;rintro e w' ⟨rfl,a⟩;exact⟨by unfold lJ;rw[if_neg (by rw[ex_r2];decide)],a⟩
def c_read (W:À):Calls prog 10 #[exStr] W λe w'=>∃A0 A1 A2 A3 q0 q1 q2 q3,e=.returned (.tuple #[.agg #[.slice A0 0 q0,.slice A1 0 q1,.slice A2 2 q2,.slice A3 1 q3],true])/\PgAt w' A0 A1 A2 A3 q0 q1 q2 q3 (exPg 3 1 1)/\Below W W w':=
 Cj (rd_ok (ux 3 1 1) ex_r1 (oP 3 1 1) ex_tdeep π) (pM 3 1 1) ex_r1 Γ
def rx (h:VarAt W b A2 A3 q2 q3 (exPg o x q)) {r:Bool} (hr:aW (exPg o x q) 100=r):Calls prog 11 #[.agg #[(),(),.slice A2 2 q2,.slice A3 1 q3]] W λe w'=>e=.returned (r:Vl)/\Below W W w':=by
 subst hr;exact dl h.pg (pM o x q)
def c_rightS (h:VarAt W b A2 A3 q2 q3 exPs):Calls prog 11 #[.agg #[(),(),.slice A2 3 q2,.slice A3 1 q3]] W λe w'=>e=.returned (true:Vl)/\Below W W w':=by
 have:=dl h.pg ve;rw[ex_r4] at this;exact this
def c_right0 (W:À):Calls prog 11 #[.agg #[(),(),(),()]] W λe w'=>e=.returned (false:Vl)/\Below W W w':=by
 have:=dl (w:=W) (p:=exNil) (A0:=none) (A1:=none) (A2:=none) (A3:=none) (q0:=0) (q1:=0) (q2:=0) (q3:=0) ⟨SlR.nil,SlR.nil,SlR.nil,SlR.nil⟩ nil_fit;rw[ex_r5] at this;exact this
variable {B2 B3:Option Addr}
def c_same1 {B0 B1:Option Addr} {r0 r1 r2 r3:Nat} (h':PgAt W B0 B1 B2 B3 r0 r1 r2 r3 (exPg 3 1 1)) (h:VarAt W b A2 A3 q2 q3 (exPg 3 1 1)):Calls prog 13 #[.agg #[.slice B0 0 r0,.slice B1 0 r1,.slice B2 2 r2,.slice B3 1 r3],.agg #[(),(),.slice A2 2 q2,.slice A3 1 q3]] W λe w'=>e=.returned (true:Vl)/\Below W W w':=
 uR ex_s1 ⟨_,_,_,_,rfl,h'.t,h'.e,h'.f,h'.a⟩ ⟨_,_,_,_,rfl,h.pg.t,h.pg.e,h.pg.f,h.pg.a⟩
def c_same2 {b':Nat} {r2 r3:Nat} (h:VarAt W b A2 A3 q2 q3 (exPg 3 1 1)) (h':VarAt W b' B2 B3 r2 r3 exPs):Calls prog 13 #[.agg #[(),(),.slice A2 2 q2,.slice A3 1 q3],.agg #[(),(),.slice B2 3 r2,.slice B3 1 r3]] W λe w'=>e=.returned (false:Vl)/\Below W W w':=
 uR ex_s2 ⟨_,_,_,_,rfl,h.pg.t,h.pg.e,h.pg.f,h.pg.a⟩ ⟨_,_,_,_,rfl,h'.pg.t,h'.pg.e,h'.pg.f,h'.pg.a⟩
def c_dig (hR:ShaT.Rounds W) (h:VarAt W b A2 A3 q2 q3 (exPg o x q)) (hl:(je (exPg o x q) (exA o x q)).length<=1000000) {s:Ê} (hs:s.size<=100) {l:List Nat} (hq:digP (exPg o x q) 100 s.data.toList=l):Calls prog 12 #[.agg #[(),(),.slice A2 2 q2,.slice A3 1 q3],s] W λe w'=>e=.returned (.agg (ShaT.u8s l))/\Below W W w':=by
 subst hq;exact oS h.pg (pM o x q) hR (λhr=>zf (ux o x q) hr) Ξ (λ_ a ha=>by simp only[exPg,List.mem_cons,List.not_mem_nil,or_false] at ha;subst ha;exact hl)
def c_digM (hR:ShaT.Rounds W) (h:VarAt W b A2 A3 q2 q3 (exPg 3 1 1)):Calls prog 12 #[.agg #[(),(),.slice A2 2 q2,.slice A3 1 q3],.string ⟨#[77,97,105,110]⟩] W λe w'=>e=.returned (.agg (ShaT.u8s dP))/\Below W W w':=c_dig hR h Γ π rfl
def c_digT (hR:ShaT.Rounds W) (h:VarAt W b A2 A3 q2 q3 (exPg 3 2 1)):Calls prog 12 #[.agg #[(),(),.slice A2 2 q2,.slice A3 1 q3],.string ⟨#[77,97,105,110]⟩] W λe w'=>e=.returned (.agg (ShaT.u8s dT))/\Below W W w':=c_dig hR h Γ π rfl
def c_digO (hR:ShaT.Rounds W) (h:VarAt W b A2 A3 q2 q3 (exPg 3 1 1)):Calls prog 12 #[.agg #[(),(),.slice A2 2 q2,.slice A3 1 q3],.string ⟨#[79,116,104,101,114]⟩] W λe w'=>e=.returned (.agg (ShaT.u8s dO))/\Below W W w':=c_dig hR h Γ π rfl
def c_digS (hR:ShaT.Rounds W) (h:VarAt W b A2 A3 q2 q3 exPs):Calls prog 12 #[.agg #[(),(),.slice A2 3 q2,.slice A3 1 q3],.string ⟨#[77,97,105,110]⟩] W λe w'=>e=.returned (.agg (ShaT.u8s dS))/\Below W W w':=
 oS h.pg ve hR (λhr=>zf exs_lim hr) π (λ_ a ha=>by simp only[exPs,List.mem_cons,List.not_mem_nil,or_false] at ha;subst ha;decide +kernel)
end
def pU {w:À} (hR:ShaT.Rounds w):Calls prog 7 #[] w λe w'=>e=.returned (.bool true)/\Below w w w':=by
 have HR:=η hR;clear hR;go_in;go_upto_region 2 with (go_at_call 17;refine (fX).mono ?_;rintro e1 r ⟨rfl,x1,z1,b1⟩);obtain⟨a,R⟩:=γ (r.alloc (.cells (xJ w) 27))
 have V1:Hid (VarAt a r (some ⟨w+19,0,none⟩) (some ⟨w+20,0,none⟩) 2 1 (exPg 3 1 1)):=by rw[R];exact ex_var x1 z1
 have B1:Hid (Below w w a):=by rw[R];exact belA b1 _
 have e1:r.alloc (.cells #[.slice none 0 0,.slice none 0 0,.slice (w+19:Nat) 2 2,.slice (w+20:Nat) 1 1] 27)=a:=R.symm;rw[e1];clear e1 R x1 z1 b1;go_upto_region 3 with (go_at_call 17;refine (fX).mono ?_;rintro e2 O ⟨rfl,x2,z2,b2⟩);obtain⟨j,F⟩:=γ (O.alloc (.cells (xJ a) 27))
 have X2:Hid (ExAt j a 3 1 1):=by rw[F];exact x2.bel ζ1
 have C2:Hid (Hs j O 27 (xJ a)):=by rw[F];exact Hs.new _ _ _
 have B2:Hid (Below a a j):=by rw[F];exact belA b2 _
 have n2:O.heap.size+1=j.heap.size:=by rw[F];simp
 have e2:O.alloc (.cells #[.slice none 0 0,.slice none 0 0,.slice (a+19:Nat) 2 2,.slice (a+20:Nat) 1 1] 27)=j:=F.symm;rw[e2];clear e2 F x2 b2;have a0:j.cell? ⟨O,3,none⟩=some (.slice (a+20:Nat) 1 1):=C2.o.cell 3;have a1:j.cell? ⟨a+20,3,none⟩=some (.slice (a+16:Nat) 1 1):=(X2.o.cell 20 π rfl).cell 3;have d:Hid (Hs j (a+16) 61 _):=X2.o.cell 16 π rfl;have f4:=d.o.free 4;have f5:=d.o.free 5;have f6:=d.o.free 6;have f7:=d.o.free 7;have f8:=d.o.free 8;have g4:j.cell? ⟨a+16,4,none⟩=some (.int .i64 3):=d.o.cell 4;have g5:j.cell? ⟨a+16,5,none⟩=some (.int .i64 1):=d.o.cell 5;have g6:j.cell? ⟨a+16,6,none⟩=some (.int .i64 0):=d.o.cell 6;have g7:j.cell? ⟨a+16,7,none⟩=some (.string ⟨#[]⟩):=d.o.cell 7;have g8:j.cell? ⟨a+16,8,none⟩=some (.slice none 0 0):=d.o.cell 8;go_upto_region 4 with fail;obtain⟨g,I⟩:=γ (((((j.setCell ⟨a+16,4,none⟩ (.int .i64 4)).setCell ⟨a+16,5,none⟩ (.int .i64 0)).setCell ⟨a+16,6,none⟩ (.int .i64 0)).setCell ⟨a+16,7,none⟩ (.string ⟨#[]⟩)).setCell ⟨a+16,8,none⟩ (.slice none 0 0))
 have a7:ExAt g a 4 0 1:=by
  rw[I];exact ExAt.put (k:=16) (t:=61) (ExAt.put (k:=16) (t:=61) (ExAt.put (k:=16) (t:=61) (ExAt.put (k:=16) (t:=61) (ExAt.put (k:=16) (t:=61) X2.o π rfl _) π rfl _) π rfl _) π rfl _) π rfl _
 have ax:Hid (g.heap.size=j.heap.size):=by show _=_;rw[I];simp[World.setCell]
 have V2:Hid (VarAt g O (some ⟨a+19,0,none⟩) (some ⟨a+20,0,none⟩) 2 1 (exPg 4 0 1)):=by
  refine jO a7 (by have:=ax.o;omega) ?_ (aZ 4) (aZ 0) (aZ 1);rw[I];exact cV (cV (cV (cV (cV C2.o ω) ω) ω) ω) ω
 have ak:Hid (Below a a g):=by
  rw[I];exact cL (cL (cL (cL (cL B2.o (by show _<=a.heap.size+16;omega)) (by show _<=a.heap.size+16;omega)) (by show _<=a.heap.size+16;omega)) (by show _<=a.heap.size+16;omega)) (by show _<=a.heap.size+16;omega)
 rw[<-I];clear a0 a1 f4 f5 f6 f7 f8 g4 g5 g6 g7 g8 I a7 d X2 C2 B2;go_upto_region 5 with (go_at_call 17;refine (fX).mono ?_;rintro e3 N ⟨rfl,x3,z3,b3⟩);obtain⟨y,E⟩:=γ (N.alloc (.cells (xJ g) 27))
 have X3:Hid (ExAt y g 3 1 1):=by rw[E];exact x3.bel ζ1
 have C3:Hid (Hs y N 27 (xJ g)):=by rw[E];exact Hs.new _ _ _
 have B3:Hid (Below g g y):=by rw[E];exact belA b3 _
 have n3:N.heap.size+1=y.heap.size:=by rw[E];simp
 have e3:N.alloc (.cells #[.slice none 0 0,.slice none 0 0,.slice (g+19:Nat) 2 2,.slice (g+20:Nat) 1 1] 27)=y:=E.symm;rw[e3];clear e3 E x3 b3;have a0:y.cell? ⟨N,3,none⟩=some (.slice (g+20:Nat) 1 1):=C3.o.cell 3;have a1:y.cell? ⟨g+20,4,none⟩=some (.slice (g+17:Nat) 1 1):=(X3.o.cell 20 π rfl).cell 4;have aa:Hid (Hs y (g+17) 64 _):=X3.o.cell 17 π rfl;have f2:=aa.o.free 2;have g2:y.cell? ⟨g+17,2,none⟩=some (.int .i64 1):=aa.o.cell 2;go_upto_region 6 with fail;obtain⟨i,H⟩:=γ (y.setCell ⟨g+17,2,none⟩ (.int .i64 0))
 have a6:ExAt i g 3 1 0:=by rw[H];exact ExAt.put (k:=17) (t:=64) X3.o π rfl _
 have aw:Hid (i.heap.size=y.heap.size):=by show _=_;rw[H];simp[World.setCell]
 have V3:Hid (VarAt i N (some ⟨g+19,0,none⟩) (some ⟨g+20,0,none⟩) 2 1 (exPg 3 1 0)):=by
  refine jO a6 (by have:=aw.o;omega) ?_ (aZ 3) (aZ 1) (aZ 0);rw[H];exact cV C3.o ω
 have ae:Hid (Below g g i):=by rw[H];exact cL B3.o (by show _<=g.heap.size+17;omega)
 rw[<-H];clear a0 a1 f2 g2 H a6 aa X3 C3 B3;go_upto_region 7 with (go_at_call 17;refine (fX).mono ?_;rintro e4 l ⟨rfl,x4,z4,b4⟩);obtain⟨x,D⟩:=γ (l.alloc (.cells (xJ i) 27))
 have X4:Hid (ExAt x i 3 1 1):=by rw[D];exact x4.bel ζ1
 have C4:Hid (Hs x l 27 (xJ i)):=by rw[D];exact Hs.new _ _ _
 have B4:Hid (Below i i x):=by rw[D];exact belA b4 _
 have n4:l.heap.size+1=x.heap.size:=by rw[D];simp
 have e4:l.alloc (.cells #[.slice none 0 0,.slice none 0 0,.slice (i+19:Nat) 2 2,.slice (i+20:Nat) 1 1] 27)=x:=D.symm;rw[e4];clear e4 D x4 b4;have a0:x.cell? ⟨l,2,none⟩=some (.slice (i+19:Nat) 2 2):=C4.o.cell 2;obtain⟨io,a2,ay,az,a3⟩:=info_parts ri;have V:=η (And.intro a2 (And.intro ay (And.intro az a3)));have a4:Hid (Hs x (i+19) 45 (exOld i).toArray):=X4.o.cell 19 π rfl;clear a2 ay az a3;go_upto_region 8 with (at_builtin;refine wpList_append_grows _ rfl (.tmp 28) (.tmp 32) 24 rfl 45 io _ 11 160 underlying24 V.o.1 V.o.2.1 V.o.2.2.1 V.o.2.2.2 rfl π (some ⟨i+19,0,none⟩) 2 2 (exOld i) rfl (λe=>by cases e) rfl (λb hb=>by injection hb with hb;subst hb;exact hs_add (a4.o.alloc _)) x 1 1 exNew rfl rfl (hs_add (Hs.new _ _ _)) xh π Ξ ω ?_;intro v5 w5 Y Z;obtain⟨A5,c5,rfl⟩:=bU Y;have C5:Hid (Hs w5 l 27 (xJ i)):=(C4.o.alloc _).grown Z Θ;have k5:w5.cell? ⟨l,2,none⟩=some (.slice (i+19:Nat) 2 2):=C5.o.cell 2;have f5:=C5.o.free 2;have ad:=η Y;have L:=η Z;clear Y Z);obtain⟨h,u⟩:=γ (w5.setCell ⟨l,2,none⟩ (.slice A5 3 c5))
 have ca:x.heap.size+1<=w5.heap.size:=by have:=L.o.size;simpa using this
 have av:Hid (h.heap.size=w5.heap.size):=by show _=_;rw[u];simp[World.setCell]
 have V4:Hid (VarAt h l A5 (some ⟨i+20,0,none⟩) c5 1 exPs):=by
  refine⟨?_,exS_pg (base:=(x.alloc (.cells exNew.toArray 45)).heap.size) ?_ ?_ (aZ 3) (aZ 1) (aZ 1) ?_,rfl,rfl⟩
  ·rw[u];exact er C5.o
  ·rw[u];exact ((X4.o.bel ζ1).grown L.o).oth (by show _<=l.heap.size;omega) _
  ·have:=av.o;omega
  rw[u];refine aI ad.o (cu _ _ _) (λb hb=>?_);obtain⟨g',c',e2,hl,_⟩:=ez ad.o π;rw[e2] at hb;simp[Value.ownBlock] at hb;have d8:x.heap.size+1<=g':=by simpa using hl
  unfold only;show ¬b=l.heap.size;omega
 have X:Hid (Below i i h):=by rw[u];exact cL (qq (belA B4.o _) L.o) (by show _<=l.heap.size;omega)
 rw[<-u];clear a0 u X4 C4 B4 V a4 C5 k5 f5 ad L;go_upto_region 9 with (go_at_call 17;refine (fX).mono ?_;rintro e6 M ⟨rfl,x6,z6,b6⟩);obtain⟨v,B⟩:=γ (M.alloc (.cells (xJ h) 27))
 have X6:Hid (ExAt v h 3 1 1):=by rw[B];exact x6.bel ζ1
 have C6:Hid (Hs v M 27 (xJ h)):=by rw[B];exact Hs.new _ _ _
 have B6:Hid (Below h h v):=by rw[B];exact belA b6 _
 have n6:M.heap.size+1=v.heap.size:=by rw[B];simp
 have e6:M.alloc (.cells #[.slice none 0 0,.slice none 0 0,.slice (h+19:Nat) 2 2,.slice (h+20:Nat) 1 1] 27)=v:=B.symm;rw[e6];clear e6 B x6 b6;have a0:v.cell? ⟨M,3,none⟩=some (.slice (h+20:Nat) 1 1):=C6.o.cell 3;have a1:v.cell? ⟨h+20,3,none⟩=some (.slice (h+16:Nat) 1 1):=(X6.o.cell 20 π rfl).cell 3;have d:Hid (Hs v (h+16) 61 _):=X6.o.cell 16 π rfl;have f5:=d.o.free 5;have g5:v.cell? ⟨h+16,5,none⟩=some (.int .i64 1):=d.o.cell 5;go_upto_region 10 with fail;obtain⟨q,G⟩:=γ (v.setCell ⟨h+16,5,none⟩ (.int .i64 2))
 have a5:ExAt q h 3 2 1:=by rw[G];exact ExAt.put (k:=16) (t:=61) X6.o π rfl _
 have au:Hid (q.heap.size=v.heap.size):=by show _=_;rw[G];simp[World.setCell]
 have V6:Hid (VarAt q M (some ⟨h+19,0,none⟩) (some ⟨h+20,0,none⟩) 2 1 (exPg 3 2 1)):=by
  refine jO a5 (by have:=au.o;omega) ?_ (aZ 3) (aZ 2) (aZ 1);rw[G];exact cV C6.o ω
 have J:Hid (Below h h q):=by rw[G];exact cL B6.o (by show _<=h.heap.size+16;omega)
 rw[<-G];clear a0 a1 f5 g5 G a5 d X6 C6 B6;have Z1:Hid (VarAt q r (some ⟨w+19,0,none⟩) (some ⟨w+20,0,none⟩) 2 1 (exPg 3 1 1)):=(((V1.o.bel ak.o).bel ae.o).bel X.o).bel J.o;obtain⟨Z2,Z3,Z4⟩:=zd3 (((V2.o.bel ae.o).bel X.o).bel J.o) ((V3.o.bel X.o).bel J.o) (V4.o.bel J.o);have ZB:Hid (Below w w q):=bel (bel (bel (bel B1.o ak.o) ae.o) X.o) J.o;clear V1 V2 V3 V4 ak ae X J B1 ax aw av au n2 n3 n4 n6 z2 z3 z4 z6 ca;have c0:q.cell? r=some (.slice none 0 0):=Z1.o.bx.cell 0;have c1:q.cell? ⟨r,1,none⟩=some (.slice none 0 0):=Z1.o.bx.cell 1;have c2:q.cell? ⟨r,2,none⟩=some (.slice (w+19:Nat) 2 2):=Z1.o.bx.cell 2;have c3:q.cell? ⟨r,3,none⟩=some (.slice (w+20:Nat) 1 1):=Z1.o.bx.cell 3;go_upto_region 11 with (first|(go_at_call 9;refine (c_bytes1 Z1.o).mono ?_;rintro e7 w7 ⟨rfl,b7⟩)|(go_at_call 10;refine (c_read _).mono ?_;rintro e8 w8 ⟨A0,A1,A2,A3,q0,q1,q2,q3,rfl,P8,b8⟩));obtain⟨U,T⟩:=γ (w8.alloc (.cells #[.slice A0 0 q0,.slice A1 0 q1,.slice A2 2 q2,.slice A3 1 q3] 27))
 have A:Hid (Below q q U):=by rw[T];exact belA (bel b7 b8) _
 have cw:Hid (PgAt U A0 A1 A2 A3 q0 q1 q2 q3 (exPg 3 1 1)):=by rw[T];exact P8.bel ζ1
 have H8:Hid (U.heap[w8.heap.size]?=some (.cells #[.slice A0 0 q0,.slice A1 0 q1,.slice A2 2 q2,.slice A3 1 q3] 27 (0,0))):=by rw[T];exact Hs.new _ _ _
 rw[<-T];clear T P8 b7 b8 c0 c1 c2 c3;obtain⟨Y1,Y2,Y3,Y4,Y6,YB⟩:=zd6 (Z1.o.bel A.o) (Z2.o.bel A.o) (Z3.o.bel A.o) (Z4.o.bel A.o) (V6.o.bel A.o) (bel ZB.o A.o);have YR:=η (HR.o.mono YB.o);have H1:Hid (U.heap[r.heap.size]?=some (.cells #[.slice none 0 0,.slice none 0 0,.slice (w+19:Nat) 2 2,.slice (w+20:Nat) 1 1] 27 (0,0))):=Y1.o.bx;have H2:Hid (U.heap[O.heap.size]?=some (.cells #[.slice none 0 0,.slice none 0 0,.slice (a+19:Nat) 2 2,.slice (a+20:Nat) 1 1] 27 (0,0))):=Y2.o.bx;have H3:Hid (U.heap[N.heap.size]?=some (.cells #[.slice none 0 0,.slice none 0 0,.slice (g+19:Nat) 2 2,.slice (g+20:Nat) 1 1] 27 (0,0))):=Y3.o.bx;have H4:Hid (U.heap[l.heap.size]?=some (.cells #[.slice none 0 0,.slice none 0 0,.slice A5 3 c5,.slice (i+20:Nat) 1 1] 27 (0,0))):=Y4.o.bx;have H6:Hid (U.heap[M.heap.size]?=some (.cells #[.slice none 0 0,.slice none 0 0,.slice (h+19:Nat) 2 2,.slice (h+20:Nat) 1 1] 27 (0,0))):=Y6.o.bx
 have k1:∀W,(binOp .neq 34 (.agg (ShaT.u8s dP)) (.agg #[.int .u8 0,.int .u8 0,.int .u8 0,.int .u8 0,.int .u8 0,.int .u8 0,.int .u8 0,.int .u8 0,.int .u8 0,.int .u8 0,.int .u8 0,.int .u8 0,.int .u8 0,.int .u8 0,.int .u8 0,.int .u8 0,.int .u8 0,.int .u8 0,.int .u8 0,.int .u8 0,.int .u8 0,.int .u8 0,.int .u8 0,.int .u8 0,.int .u8 0,.int .u8 0,.int .u8 0,.int .u8 0,.int .u8 0,.int .u8 0,.int .u8 0,.int .u8 0])).run prog W=.ok (.bool true) W:=ex_k1;have k2:∀W,(binOp .eql 34 (.agg (ShaT.u8s dP)) (.agg (ShaT.u8s dS))).run prog W=.ok (.bool true) W:=ex_k2;have k3:∀W,(binOp .neq 34 (.agg (ShaT.u8s dP)) (.agg (ShaT.u8s dT))).run prog W=.ok (.bool true) W:=ex_k3;have k4:∀W,(binOp .eql 34 (.agg (ShaT.u8s dO)) (.agg #[.int .u8 0,.int .u8 0,.int .u8 0,.int .u8 0,.int .u8 0,.int .u8 0,.int .u8 0,.int .u8 0,.int .u8 0,.int .u8 0,.int .u8 0,.int .u8 0,.int .u8 0,.int .u8 0,.int .u8 0,.int .u8 0,.int .u8 0,.int .u8 0,.int .u8 0,.int .u8 0,.int .u8 0,.int .u8 0,.int .u8 0,.int .u8 0,.int .u8 0,.int .u8 0,.int .u8 0,.int .u8 0,.int .u8 0,.int .u8 0,.int .u8 0,.int .u8 0])).run prog W=.ok (.bool true) W:=ex_k4;clear Z1 Z2 Z3 Z4 V6 ZB A HR;try simp only[Act.put]
 refine wp_region_quiet_below Δ Δ ?_;simp only[List.append]
 repeat (first
  | (go_big_quiet_want;refine dh 27 _ rfl r rfl 27 _ _ _ (eL H1.o) underlying27 rfl Δ ?_;go_frame;go_big_quiet_on)
  | (go_big_quiet_want;refine dh 27 _ rfl O rfl 27 _ _ _ (eL H2.o) underlying27 rfl Δ ?_;go_frame;go_big_quiet_on)
  | (go_big_quiet_want;refine dh 27 _ rfl N rfl 27 _ _ _ (eL H3.o) underlying27 rfl Δ ?_;go_frame;go_big_quiet_on)
  | (go_big_quiet_want;refine dh 27 _ rfl l rfl 27 _ _ _ (eL H4.o) underlying27 rfl Δ ?_;go_frame;go_big_quiet_on)
  | (go_big_quiet_want;refine dh 27 _ rfl M rfl 27 _ _ _ (eL H6.o) underlying27 rfl Δ ?_;go_frame;go_big_quiet_on)
  | (go_big_quiet_want;refine dh 27 _ rfl w8 rfl 27 _ _ _ (eL H8.o) underlying27 rfl Δ ?_;go_frame;go_big_quiet_on)
  | go_big_quiet_step (first
   | (go_at_call 11;with_reducible exact Calls.regrown_of (rx (Y1.o.bel (below_regrown _ _ _)) ex_r1))
   | (go_at_call 11;with_reducible exact Calls.regrown_of (rx (Y2.o.bel (below_regrown _ _ _)) ex_r2))
   | (go_at_call 11;with_reducible exact Calls.regrown_of (rx (Y3.o.bel (below_regrown _ _ _)) ex_r3))
   | (go_at_call 11;with_reducible exact Calls.regrown_of (c_rightS (Y4.o.bel (below_regrown _ _ _))))
   | (go_at_call 11;with_reducible exact Calls.regrown_of (c_right0 _))
   | (go_at_call 13;with_reducible exact Calls.regrown_of (c_same1 (cw.o.bel (below_regrown _ _ _)) (Y1.o.bel (below_regrown _ _ _))))
   | (go_at_call 13;with_reducible exact Calls.regrown_of (c_same2 (Y1.o.bel (below_regrown _ _ _)) (Y4.o.bel (below_regrown _ _ _))))
   | (go_at_call 9;with_reducible exact Calls.regrown_of (c_bytes2 (Y2.o.bel (below_regrown _ _ _))))
   | (go_at_call 12;with_reducible exact Calls.regrown_of (c_digM (YR.o.mono (below_regrown _ _ _)) (Y1.o.bel (below_regrown _ _ _))))
   | (go_at_call 12;with_reducible exact Calls.regrown_of (c_digS (YR.o.mono (below_regrown _ _ _)) (Y4.o.bel (below_regrown _ _ _))))
   | (go_at_call 12;with_reducible exact Calls.regrown_of (c_digT (YR.o.mono (below_regrown _ _ _)) (Y6.o.bel (below_regrown _ _ _))))
   | (go_at_call 12;with_reducible exact Calls.regrown_of (c_digO (YR.o.mono (below_regrown _ _ _)) (Y1.o.bel (below_regrown _ _ _))))))
 refine wpQuiet_nil ?_;intro _ cb;obtain⟨⟨dq,d7⟩,bd⟩:=cb;subst bd;go_wp2;go_ret;exact⟨rfl,bel YB.o (below_regrown _ _ _)⟩
end
section
open Proofs.Tryz
open Go.ChangeShapes Go.WideShapes Go.ChangeAt Go.RowKit Go.Deep
theorem pY {α β:Type} {c:α->Nat} {b:β->Nat}:∀(es:List β) (Q:Nat->α->Prop),(∀i (h:i<es.length),∃a,Q i a/\c a<=b es[i])->∃l:List α,l.length=es/\(∀i (h:i<l.length),Q i l[i])/\sumN c l<=(es.map b).sum
 | [],Q,_=>⟨[],rfl,λi h=>by simp at h,υ _⟩
 | e::es,Q,h=>by
  obtain⟨a,h1,h2⟩:=h 0 Θ
  obtain⟨l,k1,k2,k3⟩:=pY es (λi=>Q (i+1)) (λi hi=>h (i+1) (by simpa using hi))
  refine⟨a::l,by simp[k1],λi hi=>?_,?_⟩
  ·cases i with
   | zero=>exact h1
   | succ i=>exact k2 i (by simpa using hi)
  rw[sumN,List.map_cons,List.sum_cons]
  have h2':c a<=b e:=h2
  omega
def bulk_all {H:Type} (l:List (DataW H×List MemPlace)):Rows.uptoBulkAll (l.map (·.1))=(l.map λy=>Rows.uptoBulk y.1).sum:=by
 induction l with
 | nil=>rfl
 | cons x l ih=>rw[List.map_cons,Rows.uptoBulkAll,ih,List.map_cons,List.sum_cons]
section
variable {H:Type} {enc:TypeId×Value->H} {w:À} {sp:Nat->Bool} {held:Bool}
abbrev Tr (enc:TypeId×Value->H) (w:À) (sp:Nat->Bool) (held:Bool) (fuel t:Nat) (cs:List Value) (x:DataW H×List MemPlace):Prop:=DataW.trod enc prog w 0 sp held fuel t cs=some x
def bV {α:Type} {R:List Value->α->Prop} {c:α->Nat} {t e size fuel:Nat} (ht:prog.underlying t=some (.slice e)) (hc:prog.cellsOf e=size) (hs:0<size) {cs:List Value} {x:DataW H×List MemPlace} (h:Tr enc w sp held fuel t cs x)
 (hel:∀n,n<fuel->∀cs' y,Tr enc w sp held n e cs' y->∃a,R cs' a/\c a<=Rows.uptoBulk y.1):∃A cap l,cs=[.slice A l.length cap]/\SlR w (lo w) size R (.slice A l.length cap) l/\sumN c l+1<=Rows.uptoBulk x.1:=by
 rcases DataW.trod_slice ht h with ⟨rfl,rfl⟩|⟨a,len,cap,elems,rest,n,rfl,rfl,rfl,hb,hl,hm,hlen,hat,-,-⟩
 ·exact⟨none,0,[],rfl,SlR.nil,υ _⟩
 obtain⟨l,V,q,U⟩:=pY (c:=c) (b:=λy:DataW H×List MemPlace=>Rows.uptoBulk y.1) elems (λi b=>∃cs',cs'.length=size/\(∀j,j<size->w.cell? ((a.add (i*size)).add j)=cs'[j]?)/\R cs' b) (λi hi=>by
  have r:=hat i ω;rw[ξ hi] at r;obtain⟨cs',G,v⟩:=Option.bind_eq_some_iff.1 r;obtain⟨b,F,k⟩:=hel n ω cs' _ v;obtain⟨_,E,D⟩:=World.cells?_some G;rw[hc] at E D;exact⟨b,⟨cs',E,D,F⟩,k⟩)
 have J:l.length=len:=ω;refine⟨some a,cap,l,by rw[J],⟨some a,cap,λi=>if hi:i<l.length then (q i hi).choose else [],rfl,⟨ω,ω⟩,λr=>?_,λi hi=>?_⟩,?_⟩
 ·obtain⟨O,G,v,F⟩:=q 0 r;have k:=v 0 hs;rw[ξ ω] at k;obtain⟨g,d,B⟩:=a;have I:B=none:=by simpa[Addr.add] using World.cell?_spot k
  subst I;have z:∀i j,((⟨g,d,none⟩:Addr).add i).add j=⟨g,d+i+j,none⟩:=λi j=>by rw[Addr.add_lit,Addr.add_lit]
  refine⟨g,d,rfl,?_,λi hi=>?_⟩
  ·have:=World.block_lt_of_cell? w _ k;unfold lo;simpa[Addr.add] using this
  simp only[dif_pos hi];obtain⟨M,L,T⟩:=(q i hi).choose_spec;refine⟨M,λj u hu=>?_⟩;have N:j<size:=by have:=(List.getElem?_eq_some_iff.1 hu).1;omega
  have:=L j N;rw[z,hu] at this;exact this
 ·simp only[dif_pos hi];exact (q i hi).choose_spec.2.2
 show _<=Rows.uptoBulkAll (elems.map (·.1))+Rows.uptoBulkAll (rest.map (·.1))+1;rw[bulk_all];omega
end
mutual
def cTy:Ty->Nat
 | .mk _ s a=>1+s.size+cTys a
def cTys:List Ty->Nat
 | []=>0
 | x::xs=>cTy x+cTys xs
end
mutual
def cEx:Ex->Nat
 | .mk _ _ _ s a=>1+s.size+cExs a
def cExs:List Ex->Nat
 | []=>0
 | x::xs=>cEx x+cExs xs
end
mutual
def cSt:St->Nat
 | .mk _ _ _ s u xs h e a=>1+s.size+u.size+cExs xs+cSts h+cSts e+cSts a
def cSts:List St->Nat
 | []=>0
 | x::xs=>cSt x+cSts xs
end
def cTys_sum (l:List Ty):cTys l=sumN cTy l:=by
 induction l with
 | nil=>rfl
 | cons x l ih=>rw[cTys,sumN,ih]
def te (l:List Ex):cExs l=sumN cEx l:=by
 induction l with
 | nil=>rfl
 | cons x l ih=>rw[cExs,sumN,ih]
def mn (l:List St):cSts l=sumN cSt l:=by
 induction l with
 | nil=>rfl
 | cons x l ih=>rw[cSts,sumN,ih]
def cFld (f:Fld):Nat:=1+f.name.size+cTy f.type
def cCtr (c:Ctr):Nat:=1+c.name.size+sumN cFld c.fields
def cDcl (c:Dcl):Nat:=1+c.name.size+sumN cCtr c.ctors
def cEff (c:Eff):Nat:=1+c.name.size+sumN cFld c.params+cTy c.answer
def cFn (c:Fn):Nat:=1+c.name.size+sumN cFld c.params+cTy c.result+cEx c.body
def cVr (c:Vr):Nat:=1+c.name.size+cTy c.type+cEx c.init
def cHd (c:Hd):Nat:=1+c.msg.size+sumN cFld c.params+cSts c.body
def cAc (c:Ac):Nat:=1+c.name.size+sumN cFld c.params+sumN cVr c.vars+sumN cHd c.on
def cPg (p:Pg):Nat:=sumN cDcl p.types+sumN cEff p.effects+sumN cFn p.funs+sumN cAc p.actors
def gQ {n:Int} (h:(Lit.int .i64 n).wf=true):i64 n:=by
 simp only[Lit.wf,τ,decide_eq_true_eq] at h;have d:IntKind.i64.min=-9223372036854775808:=by decide
 have a:IntKind.i64.max=9223372036854775807:=by decide
 rw[d,a] at h;exact h
def bR (s:Ê):s.data.toList=s.size:=by rw[Array.length_toList];rfl
section
variable {H:Type} {enc:TypeId×Value->H} {w:À} {sp:Nat->Bool} {held:Bool}
def op_ty_k (k:Nat):∀(fuel:Nat),fuel<=k->∀{cs:List Value} {x:DataW H×List MemPlace},Tr enc w sp held fuel 40 cs x->∃a:Ty,TyR w (lo w) cs a/\cTy a<=Rows.uptoBulk x.1:=by
 induction k with
 | zero=>intro fuel E cs x h;obtain rfl:fuel=0:=ω;simp[Tr,DataW.trod] at h
 | succ k ih =>
  intro fuel E cs x h;have j:prog.cellsOf 40=3:=by kernel_rfl
  obtain⟨u,n,T,rfl,t,g,i⟩:=DataW.trod_struct underlying40 h;rw[j] at t;match cs,t with
  | [c0,c1,c2],_ =>
   match u,g with
   | [y0,y1,y2],_ =>
    have I:Tr enc w sp held n 3 [c0] y0:=by have q:Tr enc w sp held n 3 (([c0,c1,c2].drop 0).take (prog.cellsOf 3)) y0:=i 0 _ rfl;rw[Qc3] at q;exact q
    have G:Tr enc w sp held n 9 [c1] y1:=by have q:Tr enc w sp held n 9 (([c0,c1,c2].drop 1).take (prog.cellsOf 9)) y1:=i 1 _ rfl;rw[Qc9] at q;exact q
    have F:Tr enc w sp held n 38 [c2] y2:=by have q:Tr enc w sp held n 38 (([c0,c1,c2].drop 2).take (prog.cellsOf 38)) y2:=i 2 _ rfl;rw[(by kernel_rfl:prog.cellsOf 38=1)] at q;exact q
    obtain⟨d,M,rfl,z⟩:=DataW.trod_int underlying3 I;have D:i64 d:=gQ z;obtain rfl:c0=.int .i64 d:=by simpa using M
    obtain⟨l,L,rfl,v⟩:=DataW.trod_string underlying9 G;obtain rfl:c1=.string l:=by simpa using L
    obtain⟨N,B,r,J,A,O⟩:=bV (R:=TyR w (lo w)) (c:=cTy) underlying38 Qc40 π F (λm hm cs y q=>ih m ω q);obtain rfl:c2=.slice N r B:=by simpa using J
    simp only[List.map_cons,List.map_nil,Rows.uptoBulk,Rows.uptoBulkAll,bR];refine⟨.mk d l r,TyR.of D v A,?_⟩;rw[cTy,cTys_sum];omega
variable {cs:List Value} {x:DataW H×List MemPlace}
def op_ty (fuel:Nat) (h:Tr enc w sp held fuel 40 cs x):∃a:Ty,TyR w (lo w) cs a/\cTy a<=Rows.uptoBulk x.1:=op_ty_k fuel fuel (υ _) h
def op_ex_k (k:Nat):∀(fuel:Nat),fuel<=k->∀{cs:List Value} {x:DataW H×List MemPlace},Tr enc w sp held fuel 43 cs x->∃a:Ex,ExR w (lo w) cs a/\cEx a<=Rows.uptoBulk x.1:=by
 induction k with
 | zero=>intro fuel M cs x h;obtain rfl:fuel=0:=ω;simp[Tr,DataW.trod] at h
 | succ k ih =>
  intro fuel M cs x h;have r:prog.cellsOf 43=5:=by kernel_rfl
  obtain⟨z,n,hn,rfl,v,l,d⟩:=DataW.trod_struct underlying43 h;rw[r] at v;match cs,v with
  | [c0,c1,c2,c3,c4],_ =>
   match z,l with
   | [y0,y1,y2,y3,y4],_ =>
    have V:Tr enc w sp held n 3 [c0] y0:=by have q:Tr enc w sp held n 3 (([c0,c1,c2,c3,c4].drop 0).take (prog.cellsOf 3)) y0:=d 0 _ rfl;rw[Qc3] at q;exact q
    have U:Tr enc w sp held n 3 [c1] y1:=by have q:Tr enc w sp held n 3 (([c0,c1,c2,c3,c4].drop 1).take (prog.cellsOf 3)) y1:=d 1 _ rfl;rw[Qc3] at q;exact q
    have T:Tr enc w sp held n 3 [c2] y2:=by have q:Tr enc w sp held n 3 (([c0,c1,c2,c3,c4].drop 2).take (prog.cellsOf 3)) y2:=d 2 _ rfl;rw[Qc3] at q;exact q
    have O:Tr enc w sp held n 9 [c3] y3:=by have q:Tr enc w sp held n 9 (([c0,c1,c2,c3,c4].drop 3).take (prog.cellsOf 9)) y3:=d 3 _ rfl;rw[Qc9] at q;exact q
    have N:Tr enc w sp held n 41 [c4] y4:=by have q:Tr enc w sp held n 41 (([c0,c1,c2,c3,c4].drop 4).take (prog.cellsOf 41)) y4:=d 4 _ rfl;rw[(by kernel_rfl:prog.cellsOf 41=1)] at q;exact q
    obtain⟨j,e0,rfl,E⟩:=DataW.trod_int underlying3 V;have L:i64 j:=gQ E;obtain rfl:c0=.int .i64 j:=by simpa using e0
    obtain⟨i,Z,rfl,D⟩:=DataW.trod_int underlying3 U;have J:i64 i:=gQ D;obtain rfl:c1=.int .i64 i:=by simpa using Z
    obtain⟨g,Y,rfl,B⟩:=DataW.trod_int underlying3 T;have I:i64 g:=gQ B;obtain rfl:c2=.int .i64 g:=by simpa using Y
    obtain⟨t,X,rfl,A⟩:=DataW.trod_string underlying9 O;obtain rfl:c3=.string t:=by simpa using X
    obtain⟨A4,G,u,W,F,z4⟩:=bV (R:=ExR w (lo w)) (c:=cEx) underlying41 Qc43 π N (λm hm cs y q=>ih m ω q);obtain rfl:c4=.slice A4 u G:=by simpa using W
    simp only[List.map_cons,List.map_nil,Rows.uptoBulk,Rows.uptoBulkAll,bR];refine⟨.mk j i g t u,ExR.of ⟨L,J,I⟩ A F,?_⟩;rw[cEx,te];omega
def op_ex (fuel:Nat) (h:Tr enc w sp held fuel 43 cs x):∃a:Ex,ExR w (lo w) cs a/\cEx a<=Rows.uptoBulk x.1:=op_ex_k fuel fuel (υ _) h
def op_st_k (k:Nat):∀(fuel:Nat),fuel<=k->∀{cs:List Value} {x:DataW H×List MemPlace},Tr enc w sp held fuel 120 cs x->∃a:St,StR w (lo w) cs a/\cSt a<=Rows.uptoBulk x.1:=by
 induction k with
 | zero=>intro fuel hf cs x h;obtain rfl:fuel=0:=ω;simp[Tr,DataW.trod] at h
 | succ k ih =>
  intro fuel hf cs x h;have g:prog.cellsOf 120=9:=by kernel_rfl
  obtain⟨E,n,hn,rfl,D,r,d⟩:=DataW.trod_struct underlying120 h;rw[g] at D;match cs,D with
  | [c0,c1,c2,c3,c4,c5,c6,c7,c8],_ =>
   match E,r with
   | [y0,y1,y2,y3,y4,y5,y6,y7,y8],_ =>
    have g0:Tr enc w sp held n 3 [c0] y0:=by have q:Tr enc w sp held n 3 (([c0,c1,c2,c3,c4,c5,c6,c7,c8].drop 0).take (prog.cellsOf 3)) y0:=d 0 _ rfl;rw[Qc3] at q;exact q
    have g1:Tr enc w sp held n 3 [c1] y1:=by have q:Tr enc w sp held n 3 (([c0,c1,c2,c3,c4,c5,c6,c7,c8].drop 1).take (prog.cellsOf 3)) y1:=d 1 _ rfl;rw[Qc3] at q;exact q
    have g2:Tr enc w sp held n 3 [c2] y2:=by have q:Tr enc w sp held n 3 (([c0,c1,c2,c3,c4,c5,c6,c7,c8].drop 2).take (prog.cellsOf 3)) y2:=d 2 _ rfl;rw[Qc3] at q;exact q
    have g3:Tr enc w sp held n 9 [c3] y3:=by have q:Tr enc w sp held n 9 (([c0,c1,c2,c3,c4,c5,c6,c7,c8].drop 3).take (prog.cellsOf 9)) y3:=d 3 _ rfl;rw[Qc9] at q;exact q
    have g4:Tr enc w sp held n 9 [c4] y4:=by have q:Tr enc w sp held n 9 (([c0,c1,c2,c3,c4,c5,c6,c7,c8].drop 4).take (prog.cellsOf 9)) y4:=d 4 _ rfl;rw[Qc9] at q;exact q
    have g5:Tr enc w sp held n 41 [c5] y5:=by have q:Tr enc w sp held n 41 (([c0,c1,c2,c3,c4,c5,c6,c7,c8].drop 5).take (prog.cellsOf 41)) y5:=d 5 _ rfl;rw[(by kernel_rfl:prog.cellsOf 41=1)] at q;exact q
    have g6:Tr enc w sp held n 62 [c6] y6:=by have q:Tr enc w sp held n 62 (([c0,c1,c2,c3,c4,c5,c6,c7,c8].drop 6).take (prog.cellsOf 62)) y6:=d 6 _ rfl;rw[Qc62] at q;exact q
    have g7:Tr enc w sp held n 62 [c7] y7:=by have q:Tr enc w sp held n 62 (([c0,c1,c2,c3,c4,c5,c6,c7,c8].drop 7).take (prog.cellsOf 62)) y7:=d 7 _ rfl;rw[Qc62] at q;exact q
    have g8:Tr enc w sp held n 62 [c8] y8:=by have q:Tr enc w sp held n 62 (([c0,c1,c2,c3,c4,c5,c6,c7,c8].drop 8).take (prog.cellsOf 62)) y8:=d 8 _ rfl;rw[Qc62] at q;exact q
    obtain⟨l,e0,rfl,L⟩:=DataW.trod_int underlying3 g0;have i0:i64 l:=gQ L;obtain rfl:c0=.int .i64 l:=by simpa using e0
    obtain⟨j,e1,rfl,J⟩:=DataW.trod_int underlying3 g1;have Z:i64 j:=gQ J;obtain rfl:c1=.int .i64 j:=by simpa using e1
    obtain⟨i,e2,rfl,I⟩:=DataW.trod_int underlying3 g2;have Y:i64 i:=gQ I;obtain rfl:c2=.int .i64 i:=by simpa using e2
    obtain⟨u,e3,rfl,G⟩:=DataW.trod_string underlying9 g3;obtain rfl:c3=.string u:=by simpa using e3
    obtain⟨t,e4,rfl,F⟩:=DataW.trod_string underlying9 g4;obtain rfl:c4=.string t:=by simpa using e4
    obtain⟨A5,X,B,e5,T,z5⟩:=bV (R:=ExR w (lo w)) (c:=cEx) underlying41 Qc43 π g5 (λm hm cs y q=>op_ex m q);obtain rfl:c5=.slice A5 B X:=by simpa using e5
    obtain⟨A6,W,A,e6,O,z6⟩:=bV (R:=StR w (lo w)) (c:=cSt) underlying62 Qc120 π g6 (λm hm cs y q=>ih m ω q);obtain rfl:c6=.slice A6 A W:=by simpa using e6
    obtain⟨A7,V,z,e7,N,z7⟩:=bV (R:=StR w (lo w)) (c:=cSt) underlying62 Qc120 π g7 (λm hm cs y q=>ih m ω q);obtain rfl:c7=.slice A7 z V:=by simpa using e7
    obtain⟨A8,U,v,e8,M,z8⟩:=bV (R:=StR w (lo w)) (c:=cSt) underlying62 Qc120 π g8 (λm hm cs y q=>ih m ω q);obtain rfl:c8=.slice A8 v U:=by simpa using e8
    simp only[List.map_cons,List.map_nil,Rows.uptoBulk,Rows.uptoBulkAll,bR];refine⟨.mk l j i u t B A z v,StR.of ⟨i0,Z,Y⟩ G F T O N M,?_⟩;rw[cSt,te,mn,mn,mn];omega
def op_st (fuel:Nat) (h:Tr enc w sp held fuel 120 cs x):∃a:St,StR w (lo w) cs a/\cSt a<=Rows.uptoBulk x.1:=op_st_k fuel fuel (υ _) h
def pI:∀(fuel:Nat) {cs:List Value} {x:DataW H×List MemPlace},Tr enc w sp held fuel 118 cs x->∃a:Fld,FldR w (lo w) cs a/\cFld a<=Rows.uptoBulk x.1
 | fuel,cs,x,h=>by
  have c118_:prog.cellsOf 118=4:=by kernel_rfl
  obtain⟨xs,n,hn,rfl,hl,hlen,hg⟩:=DataW.trod_struct underlying118 h
  rw[c118_] at hl
  match cs,hl with
  | [c0,c1,c2,c3],_ =>
   match xs,hlen with
   | [y0,y1],_ =>
    have g0:Tr enc w sp held n 9 [c0] y0:=by have q:Tr enc w sp held n 9 (([c0,c1,c2,c3].drop 0).take (prog.cellsOf 9)) y0:=hg 0 _ rfl;rw[Qc9] at q;exact q
    have g1:Tr enc w sp held n 40 [c1,c2,c3] y1:=by have q:Tr enc w sp held n 40 (([c0,c1,c2,c3].drop 1).take (prog.cellsOf 40)) y1:=hg 1 _ rfl;rw[Qc40] at q;exact q
    obtain⟨s0,e0,rfl,w0⟩:=DataW.trod_string underlying9 g0
    obtain rfl:c0=.string s0:=by simpa using e0
    obtain⟨t1,r1,z1⟩:=op_ty n g1
    simp only[List.map_cons,List.map_nil,Rows.uptoBulk,Rows.uptoBulkAll,bR]
    refine⟨⟨s0,t1⟩,⟨_,rfl,w0,r1⟩,?_⟩
    show 1+s0.size+cTy t1<=_;omega
def op_ctr:∀(fuel:Nat) {cs:List Value} {x:DataW H×List MemPlace},Tr enc w sp held fuel 122 cs x->∃a:Ctr,CtrR w (lo w) cs a/\cCtr a<=Rows.uptoBulk x.1
 | fuel,cs,x,h=>by
  have c122_:prog.cellsOf 122=2:=by kernel_rfl
  obtain⟨xs,n,hn,rfl,hl,hlen,hg⟩:=DataW.trod_struct underlying122 h
  rw[c122_] at hl
  match cs,hl with
  | [c0,c1],_ =>
   match xs,hlen with
   | [y0,y1],_ =>
    have g0:Tr enc w sp held n 9 [c0] y0:=by have q:Tr enc w sp held n 9 (([c0,c1].drop 0).take (prog.cellsOf 9)) y0:=hg 0 _ rfl;rw[Qc9] at q;exact q
    have g1:Tr enc w sp held n 37 [c1] y1:=by have q:Tr enc w sp held n 37 (([c0,c1].drop 1).take (prog.cellsOf 37)) y1:=hg 1 _ rfl;rw[Qc37] at q;exact q
    obtain⟨s0,e0,rfl,w0⟩:=DataW.trod_string underlying9 g0
    obtain rfl:c0=.string s0:=by simpa using e0
    obtain⟨A1,k1,l1,e1,r1,z1⟩:=bV (R:=FldR w (lo w)) (c:=cFld) underlying37 Qc118 π g1 (λm hm cs y q=>pI m q)
    obtain rfl:c1=.slice A1 l1 k1:=by simpa using e1
    simp only[List.map_cons,List.map_nil,Rows.uptoBulk,Rows.uptoBulkAll,bR]
    refine⟨⟨s0,l1⟩,⟨_,rfl,w0,r1⟩,?_⟩
    show 1+s0.size+sumN cFld l1<=_;omega
def op_dcl:∀(fuel:Nat) {cs:List Value} {x:DataW H×List MemPlace},Tr enc w sp held fuel 48 cs x->∃a:Dcl,DclR w (lo w) cs a/\cDcl a<=Rows.uptoBulk x.1
 | fuel,cs,x,h=>by
  have c48_:prog.cellsOf 48=3:=by kernel_rfl
  obtain⟨xs,n,hn,rfl,hl,hlen,hg⟩:=DataW.trod_struct underlying48 h
  rw[c48_] at hl
  match cs,hl with
  | [c0,c1,c2],_ =>
   match xs,hlen with
   | [y0,y1,y2],_ =>
    have g0:Tr enc w sp held n 9 [c0] y0:=by have q:Tr enc w sp held n 9 (([c0,c1,c2].drop 0).take (prog.cellsOf 9)) y0:=hg 0 _ rfl;rw[Qc9] at q;exact q
    have g1:Tr enc w sp held n 4 [c1] y1:=by have q:Tr enc w sp held n 4 (([c0,c1,c2].drop 1).take (prog.cellsOf 4)) y1:=hg 1 _ rfl;rw[(by kernel_rfl:prog.cellsOf 4=1)] at q;exact q
    have g2:Tr enc w sp held n 46 [c2] y2:=by have q:Tr enc w sp held n 46 (([c0,c1,c2].drop 2).take (prog.cellsOf 46)) y2:=hg 2 _ rfl;rw[(by kernel_rfl:prog.cellsOf 46=1)] at q;exact q
    obtain⟨s0,e0,rfl,w0⟩:=DataW.trod_string underlying9 g0
    obtain rfl:c0=.string s0:=by simpa using e0
    obtain⟨b1,e1,rfl⟩:=DataW.trod_bool underlying4 g1
    obtain rfl:c1=.bool b1:=by simpa using e1
    obtain⟨A2,k2,l2,e2,r2,z2⟩:=bV (R:=CtrR w (lo w)) (c:=cCtr) underlying46 (by kernel_rfl:prog.cellsOf 122=2) π g2 (λm hm cs y q=>op_ctr m q)
    obtain rfl:c2=.slice A2 l2 k2:=by simpa using e2
    simp only[List.map_cons,List.map_nil,Rows.uptoBulk,Rows.uptoBulkAll,bR]
    refine⟨⟨s0,b1,l2⟩,⟨_,rfl,w0,r2⟩,?_⟩
    show 1+s0.size+sumN cCtr l2<=_;omega
def op_eff:∀(fuel:Nat) {cs:List Value} {x:DataW H×List MemPlace},Tr enc w sp held fuel 50 cs x->∃a:Eff,EffR w (lo w) cs a/\cEff a<=Rows.uptoBulk x.1
 | fuel,cs,x,h=>by
  have c50_:prog.cellsOf 50=5:=by kernel_rfl
  obtain⟨xs,n,hn,rfl,hl,hlen,hg⟩:=DataW.trod_struct underlying50 h
  rw[c50_] at hl
  match cs,hl with
  | [c0,c1,c2,c3,c4],_ =>
   match xs,hlen with
   | [y0,y1,y2],_ =>
    have g0:Tr enc w sp held n 9 [c0] y0:=by have q:Tr enc w sp held n 9 (([c0,c1,c2,c3,c4].drop 0).take (prog.cellsOf 9)) y0:=hg 0 _ rfl;rw[Qc9] at q;exact q
    have g1:Tr enc w sp held n 37 [c1] y1:=by have q:Tr enc w sp held n 37 (([c0,c1,c2,c3,c4].drop 1).take (prog.cellsOf 37)) y1:=hg 1 _ rfl;rw[Qc37] at q;exact q
    have g2:Tr enc w sp held n 40 [c2,c3,c4] y2:=by have q:Tr enc w sp held n 40 (([c0,c1,c2,c3,c4].drop 2).take (prog.cellsOf 40)) y2:=hg 2 _ rfl;rw[Qc40] at q;exact q
    obtain⟨s0,e0,rfl,w0⟩:=DataW.trod_string underlying9 g0
    obtain rfl:c0=.string s0:=by simpa using e0
    obtain⟨A1,k1,l1,e1,r1,z1⟩:=bV (R:=FldR w (lo w)) (c:=cFld) underlying37 Qc118 π g1 (λm hm cs y q=>pI m q)
    obtain rfl:c1=.slice A1 l1 k1:=by simpa using e1
    obtain⟨t2,r2,z2⟩:=op_ty n g2
    simp only[List.map_cons,List.map_nil,Rows.uptoBulk,Rows.uptoBulkAll,bR]
    refine⟨⟨s0,l1,t2⟩,⟨_,_,rfl,w0,r1,r2⟩,?_⟩
    show 1+s0.size+sumN cFld l1+cTy t2<=_;omega
def op_fn:∀(fuel:Nat) {cs:List Value} {x:DataW H×List MemPlace},Tr enc w sp held fuel 45 cs x->∃a:Fn,FnR w (lo w) cs a/\cFn a<=Rows.uptoBulk x.1
 | fuel,cs,x,h=>by
  have c45_:prog.cellsOf 45=11:=by kernel_rfl
  obtain⟨xs,n,hn,rfl,hl,hlen,hg⟩:=DataW.trod_struct underlying45 h
  rw[c45_] at hl
  match cs,hl with
  | [c0,c1,c2,c3,c4,c5,c6,c7,c8,c9,c10],_ =>
   match xs,hlen with
   | [y0,y1,y2,y3,y4],_ =>
    have g0:Tr enc w sp held n 9 [c0] y0:=by have q:Tr enc w sp held n 9 (([c0,c1,c2,c3,c4,c5,c6,c7,c8,c9,c10].drop 0).take (prog.cellsOf 9)) y0:=hg 0 _ rfl;rw[Qc9] at q;exact q
    have g1:Tr enc w sp held n 37 [c1] y1:=by have q:Tr enc w sp held n 37 (([c0,c1,c2,c3,c4,c5,c6,c7,c8,c9,c10].drop 1).take (prog.cellsOf 37)) y1:=hg 1 _ rfl;rw[Qc37] at q;exact q
    have g2:Tr enc w sp held n 40 [c2,c3,c4] y2:=by have q:Tr enc w sp held n 40 (([c0,c1,c2,c3,c4,c5,c6,c7,c8,c9,c10].drop 2).take (prog.cellsOf 40)) y2:=hg 2 _ rfl;rw[Qc40] at q;exact q
    have g3:Tr enc w sp held n 3 [c5] y3:=by have q:Tr enc w sp held n 3 (([c0,c1,c2,c3,c4,c5,c6,c7,c8,c9,c10].drop 5).take (prog.cellsOf 3)) y3:=hg 3 _ rfl;rw[Qc3] at q;exact q
    have g4:Tr enc w sp held n 43 [c6,c7,c8,c9,c10] y4:=by have q:Tr enc w sp held n 43 (([c0,c1,c2,c3,c4,c5,c6,c7,c8,c9,c10].drop 6).take (prog.cellsOf 43)) y4:=hg 4 _ rfl;rw[Qc43] at q;exact q
    obtain⟨s0,e0,rfl,w0⟩:=DataW.trod_string underlying9 g0
    obtain rfl:c0=.string s0:=by simpa using e0
    obtain⟨A1,k1,l1,e1,r1,z1⟩:=bV (R:=FldR w (lo w)) (c:=cFld) underlying37 Qc118 π g1 (λm hm cs y q=>pI m q)
    obtain rfl:c1=.slice A1 l1 k1:=by simpa using e1
    obtain⟨t2,r2,z2⟩:=op_ty n g2
    obtain⟨n3,e3,rfl,w3⟩:=DataW.trod_int underlying3 g3
    have i3:i64 n3:=gQ w3
    obtain rfl:c5=.int .i64 n3:=by simpa using e3
    obtain⟨t4,r4,z4⟩:=op_ex n g4
    simp only[List.map_cons,List.map_nil,Rows.uptoBulk,Rows.uptoBulkAll,bR]
    refine⟨⟨s0,l1,t2,n3,t4⟩,⟨_,[c2,c3,c4],[c6,c7,c8,c9,c10],rfl,i3,w0,r1,r2,r4⟩,?_⟩
    show 1+s0.size+sumN cFld l1+cTy t2+cEx t4<=_;omega
def op_vr:∀(fuel:Nat) {cs:List Value} {x:DataW H×List MemPlace},Tr enc w sp held fuel 61 cs x->∃a:Vr,VrR w (lo w) cs a/\cVr a<=Rows.uptoBulk x.1
 | fuel,cs,x,h=>by
  have c61_:prog.cellsOf 61=9:=by kernel_rfl
  obtain⟨xs,n,hn,rfl,hl,hlen,hg⟩:=DataW.trod_struct underlying61 h
  rw[c61_] at hl
  match cs,hl with
  | [c0,c1,c2,c3,c4,c5,c6,c7,c8],_ =>
   match xs,hlen with
   | [y0,y1,y2],_ =>
    have g0:Tr enc w sp held n 9 [c0] y0:=by have q:Tr enc w sp held n 9 (([c0,c1,c2,c3,c4,c5,c6,c7,c8].drop 0).take (prog.cellsOf 9)) y0:=hg 0 _ rfl;rw[Qc9] at q;exact q
    have g1:Tr enc w sp held n 40 [c1,c2,c3] y1:=by have q:Tr enc w sp held n 40 (([c0,c1,c2,c3,c4,c5,c6,c7,c8].drop 1).take (prog.cellsOf 40)) y1:=hg 1 _ rfl;rw[Qc40] at q;exact q
    have g2:Tr enc w sp held n 43 [c4,c5,c6,c7,c8] y2:=by have q:Tr enc w sp held n 43 (([c0,c1,c2,c3,c4,c5,c6,c7,c8].drop 4).take (prog.cellsOf 43)) y2:=hg 2 _ rfl;rw[Qc43] at q;exact q
    obtain⟨s0,e0,rfl,w0⟩:=DataW.trod_string underlying9 g0
    obtain rfl:c0=.string s0:=by simpa using e0
    obtain⟨t1,r1,z1⟩:=op_ty n g1
    obtain⟨t2,r2,z2⟩:=op_ex n g2
    simp only[List.map_cons,List.map_nil,Rows.uptoBulk,Rows.uptoBulkAll,bR]
    refine⟨⟨s0,t1,t2⟩,⟨[c1,c2,c3],[c4,c5,c6,c7,c8],rfl,w0,r1,r2⟩,?_⟩
    show 1+s0.size+cTy t1+cEx t2<=_;omega
def op_hd:∀(fuel:Nat) {cs:List Value} {x:DataW H×List MemPlace},Tr enc w sp held fuel 64 cs x->∃a:Hd,HdR w (lo w) cs a/\cHd a<=Rows.uptoBulk x.1
 | fuel,cs,x,h=>by
  have c64_:prog.cellsOf 64=4:=by kernel_rfl
  obtain⟨xs,n,hn,rfl,hl,hlen,hg⟩:=DataW.trod_struct underlying64 h
  rw[c64_] at hl
  match cs,hl with
  | [c0,c1,c2,c3],_ =>
   match xs,hlen with
   | [y0,y1,y2,y3],_ =>
    have g0:Tr enc w sp held n 9 [c0] y0:=by have q:Tr enc w sp held n 9 (([c0,c1,c2,c3].drop 0).take (prog.cellsOf 9)) y0:=hg 0 _ rfl;rw[Qc9] at q;exact q
    have g1:Tr enc w sp held n 37 [c1] y1:=by have q:Tr enc w sp held n 37 (([c0,c1,c2,c3].drop 1).take (prog.cellsOf 37)) y1:=hg 1 _ rfl;rw[Qc37] at q;exact q
    have g2:Tr enc w sp held n 3 [c2] y2:=by have q:Tr enc w sp held n 3 (([c0,c1,c2,c3].drop 2).take (prog.cellsOf 3)) y2:=hg 2 _ rfl;rw[Qc3] at q;exact q
    have g3:Tr enc w sp held n 62 [c3] y3:=by have q:Tr enc w sp held n 62 (([c0,c1,c2,c3].drop 3).take (prog.cellsOf 62)) y3:=hg 3 _ rfl;rw[Qc62] at q;exact q
    obtain⟨s0,e0,rfl,w0⟩:=DataW.trod_string underlying9 g0
    obtain rfl:c0=.string s0:=by simpa using e0
    obtain⟨A1,k1,l1,e1,r1,z1⟩:=bV (R:=FldR w (lo w)) (c:=cFld) underlying37 Qc118 π g1 (λm hm cs y q=>pI m q)
    obtain rfl:c1=.slice A1 l1 k1:=by simpa using e1
    obtain⟨n2,e2,rfl,w2⟩:=DataW.trod_int underlying3 g2
    have i2:i64 n2:=gQ w2
    obtain rfl:c2=.int .i64 n2:=by simpa using e2
    obtain⟨A3,k3,l3,e3,r3,z3⟩:=bV (R:=StR w (lo w)) (c:=cSt) underlying62 Qc120 π g3 (λm hm cs y q=>op_st m q)
    obtain rfl:c3=.slice A3 l3 k3:=by simpa using e3
    simp only[List.map_cons,List.map_nil,Rows.uptoBulk,Rows.uptoBulkAll,bR]
    refine⟨⟨s0,l1,n2,l3⟩,⟨_,_,rfl,i2,w0,r1,r3⟩,?_⟩
    show 1+s0.size+sumN cFld l1+cSts l3<=_;rw[mn];omega
def op_ac:∀(fuel:Nat) {cs:List Value} {x:DataW H×List MemPlace},Tr enc w sp held fuel 54 cs x->∃a:Ac,AcR w (lo w) cs a/\cAc a<=Rows.uptoBulk x.1
 | fuel,cs,x,h=>by
  have c54_:prog.cellsOf 54=7:=by kernel_rfl
  obtain⟨xs,n,hn,rfl,hl,hlen,hg⟩:=DataW.trod_struct underlying54 h
  rw[c54_] at hl
  match cs,hl with
  | [c0,c1,c2,c3,c4,c5,c6],_ =>
   match xs,hlen with
   | [y0,y1,y2,y3,y4,y5,y6],_ =>
    have g0:Tr enc w sp held n 9 [c0] y0:=by have q:Tr enc w sp held n 9 (([c0,c1,c2,c3,c4,c5,c6].drop 0).take (prog.cellsOf 9)) y0:=hg 0 _ rfl;rw[Qc9] at q;exact q
    have g1:Tr enc w sp held n 37 [c1] y1:=by have q:Tr enc w sp held n 37 (([c0,c1,c2,c3,c4,c5,c6].drop 1).take (prog.cellsOf 37)) y1:=hg 1 _ rfl;rw[Qc37] at q;exact q
    have g2:Tr enc w sp held n 3 [c2] y2:=by have q:Tr enc w sp held n 3 (([c0,c1,c2,c3,c4,c5,c6].drop 2).take (prog.cellsOf 3)) y2:=hg 2 _ rfl;rw[Qc3] at q;exact q
    have g3:Tr enc w sp held n 51 [c3] y3:=by have q:Tr enc w sp held n 51 (([c0,c1,c2,c3,c4,c5,c6].drop 3).take (prog.cellsOf 51)) y3:=hg 3 _ rfl;rw[(by kernel_rfl:prog.cellsOf 51=1)] at q;exact q
    have g4:Tr enc w sp held n 52 [c4] y4:=by have q:Tr enc w sp held n 52 (([c0,c1,c2,c3,c4,c5,c6].drop 4).take (prog.cellsOf 52)) y4:=hg 4 _ rfl;rw[(by kernel_rfl:prog.cellsOf 52=1)] at q;exact q
    have g5:Tr enc w sp held n 3 [c5] y5:=by have q:Tr enc w sp held n 3 (([c0,c1,c2,c3,c4,c5,c6].drop 5).take (prog.cellsOf 3)) y5:=hg 5 _ rfl;rw[Qc3] at q;exact q
    have g6:Tr enc w sp held n 3 [c6] y6:=by have q:Tr enc w sp held n 3 (([c0,c1,c2,c3,c4,c5,c6].drop 6).take (prog.cellsOf 3)) y6:=hg 6 _ rfl;rw[Qc3] at q;exact q
    obtain⟨s0,e0,rfl,w0⟩:=DataW.trod_string underlying9 g0
    obtain rfl:c0=.string s0:=by simpa using e0
    obtain⟨A1,k1,l1,e1,r1,z1⟩:=bV (R:=FldR w (lo w)) (c:=cFld) underlying37 Qc118 π g1 (λm hm cs y q=>pI m q)
    obtain rfl:c1=.slice A1 l1 k1:=by simpa using e1
    obtain⟨n2,e2,rfl,w2⟩:=DataW.trod_int underlying3 g2
    have i2:i64 n2:=gQ w2
    obtain rfl:c2=.int .i64 n2:=by simpa using e2
    obtain⟨A3,k3,l3,e3,r3,z3⟩:=bV (R:=VrR w (lo w)) (c:=cVr) underlying51 (by kernel_rfl:prog.cellsOf 61=9) π g3 (λm hm cs y q=>op_vr m q)
    obtain rfl:c3=.slice A3 l3 k3:=by simpa using e3
    obtain⟨A4,k4,l4,e4,r4,z4⟩:=bV (R:=HdR w (lo w)) (c:=cHd) underlying52 (by kernel_rfl:prog.cellsOf 64=4) π g4 (λm hm cs y q=>op_hd m q)
    obtain rfl:c4=.slice A4 l4 k4:=by simpa using e4
    obtain⟨n5,e5,rfl,w5⟩:=DataW.trod_int underlying3 g5
    have i5:i64 n5:=gQ w5
    obtain rfl:c5=.int .i64 n5:=by simpa using e5
    obtain⟨n6,e6,rfl,w6⟩:=DataW.trod_int underlying3 g6
    have i6:i64 n6:=gQ w6
    obtain rfl:c6=.int .i64 n6:=by simpa using e6
    simp only[List.map_cons,List.map_nil,Rows.uptoBulk,Rows.uptoBulkAll,bR]
    refine⟨⟨s0,l1,n2,l3,l4,n5,n6⟩,⟨_,_,_,rfl,⟨i2,i5,i6⟩,w0,r1,r3,r4⟩,?_⟩
    show 1+s0.size+sumN cFld l1+sumN cVr l3+sumN cHd l4<=_;omega
def op_pg:∀(fuel:Nat) {cs:List Value} {x:DataW H×List MemPlace},Tr enc w sp held fuel 27 cs x->∃a:Pg,PgR w (lo w) cs a/\cPg a<=Rows.uptoBulk x.1
 | fuel,cs,x,h=>by
  have c27_:prog.cellsOf 27=4:=by kernel_rfl
  obtain⟨xs,n,hn,rfl,hl,hlen,hg⟩:=DataW.trod_struct underlying27 h
  rw[c27_] at hl
  match cs,hl with
  | [c0,c1,c2,c3],_ =>
   match xs,hlen with
   | [y0,y1,y2,y3],_ =>
    have g0:Tr enc w sp held n 22 [c0] y0:=by have q:Tr enc w sp held n 22 (([c0,c1,c2,c3].drop 0).take (prog.cellsOf 22)) y0:=hg 0 _ rfl;rw[(by kernel_rfl:prog.cellsOf 22=1)] at q;exact q
    have g1:Tr enc w sp held n 23 [c1] y1:=by have q:Tr enc w sp held n 23 (([c0,c1,c2,c3].drop 1).take (prog.cellsOf 23)) y1:=hg 1 _ rfl;rw[(by kernel_rfl:prog.cellsOf 23=1)] at q;exact q
    have g2:Tr enc w sp held n 24 [c2] y2:=by have q:Tr enc w sp held n 24 (([c0,c1,c2,c3].drop 2).take (prog.cellsOf 24)) y2:=hg 2 _ rfl;rw[(by kernel_rfl:prog.cellsOf 24=1)] at q;exact q
    have g3:Tr enc w sp held n 25 [c3] y3:=by have q:Tr enc w sp held n 25 (([c0,c1,c2,c3].drop 3).take (prog.cellsOf 25)) y3:=hg 3 _ rfl;rw[(by kernel_rfl:prog.cellsOf 25=1)] at q;exact q
    obtain⟨A0,k0,l0,e0,r0,z0⟩:=bV (R:=DclR w (lo w)) (c:=cDcl) underlying22 (by kernel_rfl:prog.cellsOf 48=3) π g0 (λm hm cs y q=>op_dcl m q)
    obtain rfl:c0=.slice A0 l0 k0:=by simpa using e0
    obtain⟨A1,k1,l1,e1,r1,z1⟩:=bV (R:=EffR w (lo w)) (c:=cEff) underlying23 (by kernel_rfl:prog.cellsOf 50=5) π g1 (λm hm cs y q=>op_eff m q)
    obtain rfl:c1=.slice A1 l1 k1:=by simpa using e1
    obtain⟨A2,k2,l2,e2,r2,z2⟩:=bV (R:=FnR w (lo w)) (c:=cFn) underlying24 (by kernel_rfl:prog.cellsOf 45=11) π g2 (λm hm cs y q=>op_fn m q)
    obtain rfl:c2=.slice A2 l2 k2:=by simpa using e2
    obtain⟨A3,k3,l3,e3,r3,z3⟩:=bV (R:=AcR w (lo w)) (c:=cAc) underlying25 (by kernel_rfl:prog.cellsOf 54=7) π g3 (λm hm cs y q=>op_ac m q)
    obtain rfl:c3=.slice A3 l3 k3:=by simpa using e3
    simp only[List.map_cons,List.map_nil,Rows.uptoBulk,Rows.uptoBulkAll,bR]
    refine⟨⟨l0,l1,l2,l3⟩,⟨_,_,_,_,rfl,r0,r1,r2,r3⟩,?_⟩
    show sumN cDcl l0+sumN cEff l1+sumN cFn l2+sumN cAc l3<=_;omega
end
mutual
theorem pz:∀(t:Ty) (d:Int),szTy d t<=1000000*cTy t
 | .mk k s a,d=>by
  rw[szTy,cTy]
  split
  ·omega
  have:=uL a (d-1);omega
theorem uL:∀(l:List Ty) (d:Int),iK d l<=1000000*cTys l
 | [],d=>by rw[iK];exact Nat.zero_le _
 | x::xs,d=>by rw[iK,cTys];have:=pz x d;have:=uL xs d;omega
end
mutual
theorem uv:∀(t:Ex) (d:Int),szEx d t<=1000000*cEx t
 | .mk o n m s a,d=>by
  rw[szEx,cEx]
  split
  ·omega
  have:=qS a (d-1);omega
theorem qS:∀(l:List Ex) (d:Int),fc d l<=1000000*cExs l
 | [],d=>by rw[fc];exact Nat.zero_le _
 | x::xs,d=>by rw[fc,cExs];have:=uv x d;have:=qS xs d;omega
end
mutual
theorem szSt_c:∀(t:St) (d:Int),szSt d t<=3000001*cSt t
 | .mk o n m s u xs h e a,d=>by
  rw[szSt,cSt]
  have:=qS xs d
  have:=mw h (d-1)
  have:=mw e (d-1)
  have:=mw a (d-1)
  split<;>omega
theorem mw:∀(l:List St) (d:Int),eZ d l<=3000001*cSts l
 | [],d=>by rw[eZ];exact Nat.zero_le _
 | x::xs,d=>by rw[eZ,cSts];have:=szSt_c x d;have:=mw xs d;omega
end
theorem oc {α:Type} {f g:α->Nat} (h:∀x,f x<=3000001*g x):∀l:List α,sumN f l<=3000001*sumN g l
 | []=>Nat.zero_le _
 | x::l=>by rw[sumN,sumN];have:=oc h l;have:=h x;omega
theorem iZ:∀l:List Fld,bY l<=1000000*sumN cFld l
 | []=>Nat.zero_le _
 | f::l=>by
  have h1:=iZ l
  have h2:=pz f.type 20
  rw[sumN]
  unfold bY at h1 ⊢
  rw[szFs,δ]
  have h3:cFld f=1+f.name.size+cTy f.type:=rfl
  omega
def Cg (p:Pg):szPg p<=3000001*cPg p:=by
 have q:=oc (f:=hZ) (g:=cDcl) (λd=>by
  have:=oc (f:=jo) (g:=cCtr) (λc=>by rw[lO c];have:=iZ c.fields;have e:cCtr c=1+c.name.size+sumN cFld c.fields:=rfl;omega) d.ctors;rw[i7 d];have e:cDcl d=1+d.name.size+sumN cCtr d.ctors:=rfl;omega) p.types
 have l:=oc (f:=jZ) (g:=cEff) (λd=>by rw[sH d];have:=iZ d.params;have:=pz d.answer 20;have e:cEff d=1+d.name.size+sumN cFld d.params+cTy d.answer:=rfl;omega) p.effects;have k:=oc (f:=szFn) (g:=cFn) (λd=>by rw[qR d];have:=iZ d.params;have:=pz d.result 20;have:=uv d.body 50;have:=qX d.slots;have e:cFn d=1+d.name.size+sumN cFld d.params+cTy d.result+cEx d.body:=rfl;omega) p.funs
 have j:=oc (f:=szAc) (g:=cAc) (λd=>by
  have i:=oc (f:=szVr) (g:=cVr) (λv=>by rw[qP v];have:=pz v.type 20;have:=uv v.init 50;have e:cVr v=1+v.name.size+cTy v.type+cEx v.init:=rfl;omega) d.vars;have h:=oc (f:=szHd) (g:=cHd) (λv=>by rw[qQ v];have:=iZ v.params;have a:ek 50 v.body<=3000001*cSts v.body:=mw v.body 50;have:=qX v.slots;have e:cHd v=1+v.msg.size+sumN cFld v.params+cSts v.body:=rfl;omega) d.on;rw[mx d];have:=iZ d.params;have:=qX d.slots;have e:cAc d=1+d.name.size+sumN cFld d.params+sumN cVr d.vars+sumN cHd d.on:=rfl;omega) p.actors
 unfold szPg cPg;omega
def BY {p:Pg} (h:cPg p<=1048576):szPg p<=4000000000000:=by have:=Cg p;omega
def own:ownKnob prog.godebug=none:=by kernel_rfl
def sn:laidOutB prog=true:=by kernel_rfl
def gTab:prog.globalNamed "retroact/sum.rounds" = some 0:=by kernel_rfl
def Ca:(prog.globals[0]?).map (·.type)=some 212:=by kernel_rfl
def Cb:prog.cellsOf 212=64:=by kernel_rfl
def Cc:prog.cellsOf 180=1:=by kernel_rfl
def wj {W:À} (h:Lib.TabIs prog W "retroact/sum.rounds" .u32 ShaT.kcs):ShaT.Rounds W:=by
 have a:∀j,j<64->W.cell? ⟨0,j,none⟩=some (.int .u32 (ShaT.kcs.getD j 0)):=λj hj=>h.cell gTab j (by rw[ShaT.kcs_length];exact hj);exact⟨block_lt_of_cell (a 0 π),a⟩
noncomputable def mO (os:Os):À:=
 { World.holding prog os ⟨#[],#[],[]⟩ with heap:=(World.holding prog os ⟨#[],#[],[]⟩).heap.modify 0 fun
  | .cells _ t frozen=>.cells (ShaT.i32s ShaT.kcs) t frozen
  | o=>o }
section
variable {H:Type} {enc:TypeId×Value->H} {w:À} {sp:Nat->Bool} {held:Bool}
def Ck {r:Reach} {b0:Nat} {v:Value} {d:DataW H} {p:List MemPlace} (hv:Value.okWide prog w r b0 27 v) (h:DataW.Trod enc prog w 0 sp held 27 v d p) :
 ∃A0 A1 A2 A3 q0 q1 q2 q3 pg,v=.agg #[.slice A0 pg.types.length q0,.slice A1 pg.effects.length q1,.slice A2 pg.funs.length q2,.slice A3 pg.actors.length q3]/\PgAt w A0 A1 A2 A3 q0 q1 q2 q3 pg/\cPg pg<=Rows.uptoBulk d:=by
 obtain⟨x,rfl,y⟩:=okWide_struct underlying27 hv;obtain⟨a,i⟩:=h;obtain⟨pg,g,j⟩:=op_pg a i;obtain⟨A0,q0,A1,q1,A2,q2,A3,q3,e,t,q,l,k⟩:=q7 g;have u:x.toList=[.slice A0 pg.types.length q0,.slice A1 pg.effects.length q1,.slice A2 pg.funs.length q2,.slice A3 pg.actors.length q3]:=by simpa[Value.cells] using e
 exact⟨A0,A1,A2,A3,q0,q1,q2,q3,pg,congrArg Value.agg (Array.toList_inj.1 (u.trans rfl)),⟨t,q,l,k⟩,j⟩
end
end
section
open Proofs.Tryz
theorem yO:∀k n,(varN k n).length<=k
 | 0,_=>υ _
 | k+1,n=>by
  rw[varN]
  split
  ·simp
  rw[δ];have:=yO k (n/128);omega
def numB_lenL (n:Int):(numB n).length<=9:=by
 unfold numB;split
 ·simp
 exact yO _ _
def Bp (n:Int):(intB n).length<=9:=by
 unfold intB;split
 ·simp
 split<;>exact numB_lenL _
def textB_lenL (s:Ê):(aM s).length<=9+s.size:=by
 unfold aM;have:=numB_lenL (s.size:Nat);have:s.data.toList=s.size:=by simp
 rw[μ];omega
theorem Bq {σ α:Type} {f:σ->α->List UInt8×σ} {g:α->Nat}:∀(l:List α) (_:∀x∈l,∀st,(f st x).1.length<=g x) (st:σ),(wAll f st l).1.length<=sumN g l
 | [],_,st=>Nat.zero_le _
 | x::l,h,st=>by
  rw[wAll,sumN,μ]
  have:=h x List.mem_cons_self st
  have:=Bq (f:=f) (g:=g) l (λy hy=>h y (List.mem_cons_of_mem _ hy)) (f st x).2
  omega
section
variable {α:Type}
def zn {σ:Type} {f:σ->α->List UInt8×σ} {g:α->Nat} {l:List α} (h:∀x∈l,∀st,(f st x).1.length<=g x) (st:σ):(ah f st l).1.length<=9+sumN g l:=by
 unfold ah;have:=numB_lenL (l.length:Nat);have:=Bq (f:=f) (g:=g) l h st;rw[μ];omega
theorem ya {α:Type} {f g:α->Nat} {c:Nat}:∀{l:List α},(∀x∈l,f x<=c*g x)->sumN f l<=c*sumN g l
 | [],_=>Nat.zero_le _
 | x::l,h=>by
  rw[sumN,sumN,Nat.mul_add]
  have:=h x List.mem_cons_self
  have:=ya (f:=f) (g:=g) (c:=c) (l:=l) (λy hy=>h y (List.mem_cons_of_mem _ hy))
  omega
section
variable {σ:Type} (N:Nm σ)
mutual
theorem ye:∀(t:Ty) (d:Int) (st:σ),szTy d t<1000000->(wTy N st t).1.length<=27*szTy d t
 | .mk k s a,d,st,h=>by
  rw[szTy] at h ⊢
  rw[wTy]
  have:=numB_lenL k
  have:=numB_lenL (a.length:Nat)
  have:=textB_lenL s
  simp only[μ]
  split at h
  ·omega
  rename_i hd;rw[if_neg hd];have:=yI a (d-1) (if k=6 then N.nam st s else st) ω;omega
theorem yI:∀(l:List Ty) (d:Int) (st:σ),iK d l<1000000->(wTys N st l).1.length<=27*iK d l
 | [],d,st,_=>by rw[wTys];exact Nat.zero_le _
 | x::xs,d,st,h=>by
  rw[iK] at h ⊢
  rw[wTys]
  have:=ye x d st ω
  have:=yI xs d (wTy N st x).2 ω
  simp only[μ];omega
end
mutual
theorem yy:∀(t:Ex) (d:Int) (st:σ),szEx d t<1000000->(wEx N st t).1.length<=45*szEx d t
 | .mk o n m s a,d,st,h=>by
  rw[szEx] at h ⊢
  rw[wEx]
  have:=numB_lenL o
  have:=numB_lenL (a.length:Nat)
  have:=Bp (eNum N st o n).1
  have:=Bp m
  have:=textB_lenL s
  simp only[μ]
  split at h
  ·omega
  rename_i hd;rw[if_neg hd];have:=yt a (d-1) (eNam N (eNum N st o n).2 o s) ω;omega
theorem yt:∀(l:List Ex) (d:Int) (st:σ),fc d l<1000000->(wExs N st l).1.length<=45*fc d l
 | [],d,st,_=>by rw[wExs];exact Nat.zero_le _
 | x::xs,d,st,h=>by
  rw[fc] at h ⊢
  rw[wExs]
  have:=yy x d st ω
  have:=yt xs d (wEx N st x).2 ω
  simp only[μ];omega
end
mutual
theorem wSt_len:∀(t:St) (d:Int) (st:σ),szSt d t<1000000->(wSt N st t).1.length<=81*szSt d t
 | .mk o n m s u xs h e a,d,st,hs=>by
  rw[szSt] at hs ⊢
  rw[wSt]
  by_cases hd:d-1<0
  ·rw[if_pos hd] at hs;omega
  simp only[if_neg hd] at hs ⊢
  have:=numB_lenL o
  have:=Bp n
  have:=Bp m
  have:=textB_lenL s
  have:=textB_lenL u
  have:=numB_lenL (h.length:Nat)
  have:=numB_lenL (e.length:Nat)
  have:=numB_lenL (a.length:Nat)
  have h0:=yt N xs d st ω
  rw[lM] at h0
  have:=numB_lenL (xs.length:Nat)
  have:=xT h (d-1) (ah (wEx N) st xs).2 ω
  have:=xT e (d-1) (wSts N (ah (wEx N) st xs).2 h).2 ω
  have:=xT a (d-1) (wSts N (wSts N (ah (wEx N) st xs).2 h).2 e).2 ω
  simp only[μ]
  have:(ah (wEx N) st xs).1.length=(numB (xs.length:Nat)).length+(wAll (wEx N) st xs).1.length:=by unfold ah;rw[μ]
  omega
theorem xT:∀(l:List St) (d:Int) (st:σ),eZ d l<1000000->(wSts N st l).1.length<=81*eZ d l
 | [],d,st,_=>by rw[wSts];exact Nat.zero_le _
 | x::xs,d,st,h=>by
  rw[eZ] at h ⊢
  rw[wSts]
  have:=wSt_len x d st ω
  have:=xT xs d (wSt N st x).2 ω
  simp only[μ];omega
end
theorem zh:∀(l:List Fld) (st:σ),szFs l<1000000->(wAll (wFld N) st l).1.length<=36*bY l
 | [],st,_=>Nat.zero_le _
 | f::l,st,h=>by
  unfold bY
  rw[szFs] at h ⊢
  rw[wAll,μ,δ]
  have:=zh l (wFld N st f).2 ω
  unfold bY at this
  have h1:(wFld N st f).1.length=(aM f.name).length+(wTy N st f.type).1.length:=by unfold wFld;rw[μ]
  have:=textB_lenL f.name
  have:=ye N f.type 20 st ω
  omega
def xO (l:List Fld) (st:σ) (h:bY l<1000000):(bJ N st l).1.length<=9+36*bY l:=by
 unfold bJ ah;have:=numB_lenL (l.length:Nat);have:=zh N l st (by unfold bY at h;omega);rw[μ];omega
def wCtr_len (c:Ctr) (st:σ) (h:jo c<1000000):(wCtr N st c).1.length<=36*jo c:=by
 unfold jo at h ⊢;unfold wCtr;have:=textB_lenL c.name;have:=xO N c.fields st ω;simp only[μ];omega
def xY {f:σ->α->List UInt8×σ} {g:α->Nat} {c:Nat} {l:List α} (h:∀x∈l,g x<1000000->∀st,(f st x).1.length<=c*g x) (hs:sumN g l<1000000) (st:σ):(ah f st l).1.length<=9+c*sumN g l:=by
 have d:=zn (f:=f) (g:=λx=>c*g x) (l:=l) (λx hx st=>h x hx (by have:=co (f:=g) hx;omega) st) st;have a:=ya (f:=λx=>c*g x) (g:=g) (c:=c) (l:=l) (λx _=>υ _);omega
def yM (c:Dcl) (st:σ) (h:hZ c<1000000):(wDcl N st c).1.length<=36*hZ c:=by
 unfold hZ at h ⊢;unfold wDcl;have:=textB_lenL c.name;have:=numB_lenL (if c.record then 1 else 0);have:=xY (f:=wCtr N) (c:=36) (l:=c.ctors) (λx _ hx st=>wCtr_len N x st hx) ω st;simp only[μ];omega
def wEff_len (c:Eff) (st:σ) (h:jZ c<1000000):(wEff N st c).1.length<=36*jZ c:=by
 unfold jZ at h ⊢;unfold wEff;have:=textB_lenL c.name;have:=xO N c.params st ω;have:=ye N c.answer 20 (bJ N st c.params).2 ω;simp only[μ];omega
def zi (c:Fn) (st:σ) (h:szFn c<1000000):(wFn N st c).1.length<=45*szFn c:=by
 unfold szFn at h ⊢;unfold wFn;have:=textB_lenL c.name;have:=numB_lenL c.slots;have:=xO N c.params st ω;have:=ye N c.result 20 (bJ N st c.params).2 ω;have:=yy N c.body 50 (wTy N (bJ N st c.params).2 c.result).2 ω;simp only[μ];omega
def wVr_len (c:Vr) (st:σ) (h:szVr c<1000000):(wVr N st c).1.length<=45*szVr c:=by
 unfold szVr at h ⊢;unfold wVr;have:=textB_lenL c.name;have:=ye N c.type 20 st ω;have:=yy N c.init 50 (wTy N st c.type).2 ω;simp only[μ];omega
def wHd_len (c:Hd) (st:σ) (h:szHd c<1000000):(wHd N st c).1.length<=81*szHd c:=by
 unfold szHd at h ⊢;unfold wHd;have:=textB_lenL c.msg;have:=numB_lenL c.slots;have:=xO N c.params st ω;have a:ek 50 c.body=eZ 50 c.body:=by unfold ek;rw[if_neg ω]
 rw[a] at h ⊢;have d:=xT N c.body 50 (bJ N st c.params).2 ω;rw[yK] at d;have:=numB_lenL (c.body.length:Nat);have:(ah (wSt N) (bJ N st c.params).2 c.body).1.length=(numB (c.body.length:Nat)).length+(wAll (wSt N) (bJ N st c.params).2 c.body).1.length:=by unfold ah;rw[μ]
 simp only[μ];omega
def zj (c:Ac) (st:σ) (h:szAc c<1000000):(wAc N st c).1.length<=63+81*(szAc c-1):=by
 unfold szAc at h ⊢;unfold wAc;have:=textB_lenL c.name;have:=numB_lenL c.slots;have:=xO N c.params st ω;have:=xY (f:=wVr N) (c:=45) (l:=c.vars) (λx _ hx st=>wVr_len N x st hx) ω (bJ N st c.params).2;have:=xY (f:=wHd N) (c:=81) (l:=c.on) (λx _ hx st=>wHd_len N x st hx) ω (ah (wVr N) (bJ N st c.params).2 c.vars).2;simp only[μ];omega
def wAcP_len (c:Ac) (st:σ) (h:szAc c<1000000):(wAcP N st c).1.length<=81*szAc c:=by
 unfold wAcP;have:=zj N c st h;have:=numB_lenL c.policy;have:=numB_lenL c.most;have:1<=szAc c:=by unfold szAc;omega
 simp only[μ];omega
end
def AU {p:Pg} (h:szPg p<=4000):(hX p).length<=400000:=by
 unfold szPg at h;unfold hX;have:=xY (f:=wDcl nm0N) (c:=36) (l:=p.types) (λx _ hx st=>yM _ x st hx) ω ();have:=xY (f:=wEff nm0N) (c:=36) (l:=p.effects) (λx _ hx st=>wEff_len _ x st hx) ω ();have:=xY (f:=wFn nm0N) (c:=45) (l:=p.funs) (λx _ hx st=>zi _ x st hx) ω ();have:=xY (f:=wAcP nm0N) (c:=81) (l:=p.actors) (λx _ hx st=>wAcP_len _ x st hx) ω ();simp only[μ];omega
def xM (l:List (List UInt8)) (s:List UInt8) (h:s∈l):∃i,idxP l s=some i/\i<l.length/\l[i]?=some s:=by
 obtain⟨i,a,d⟩:=yC l s h;exact⟨i,a,d,(cg _ _ _ _ a).2⟩
theorem xP (g:Nat->Nat):∀(m:Nat) (F:List Nat),F.Nodup->(∀n∈F,n<m)->(F.map g).sum<=((List.range m).map g).sum
 | 0,F,_,h=>by
  cases F with
  | nil=>simp
  | cons x F=>exact absurd (h x List.mem_cons_self) (Nat.not_lt_zero _)
 | m+1,F,hn,h=>by
  rw[List.range_succ,List.map_append,List.sum_append]
  by_cases hm:m∈F
  ·have hp:=List.perm_cons_erase hm
   have h1:=xP g m (F.erase m) (hn.erase m) (λn hx=>by
    have:=(hn.mem_erase_iff).1 hx
    have:=h n this.2;omega)
   have h2:(F.map g).sum=g m+((F.erase m).map g).sum:=by
    have:=(hp.map g).sum_nat;rw[this,List.map_cons,List.sum_cons]
   simp only[List.map_cons,List.map_nil,List.sum_cons,List.sum_nil];omega
  have h1:=xP g m F hn (λn hx=>by
   have:=h n hx;have:n≠m:=λe=>hm (e▸hx);omega)
  omega
theorem yg {α:Type} (f:α->Nat):∀l:List α,((List.range l).map λi=>(l[i]?).elim 0 f).sum=sumN f l
 | []=>rfl
 | x::l=>by
  rw[δ,List.range_succ_eq_map,List.map_cons,List.sum_cons,List.map_map,sumN]
  have:=yg f l
  simp only[List.getElem?_cons_zero]
  rw[<-this]
  rfl
structure Dg.ext (a b:Dg):Prop where
 f:a.funs <+: b.funs
 n:a.names <+: b.names
def dg_inv (a:Dg):NmInv dgN (Dg.ext a) (λ_=>True) λ_=>True where
 num st n h _:=by
  simp only[dgN]
  cases posI st.funs n with
  | some i=>exact h
  | none=>exact⟨h.f.trans (List.prefix_append _ _),h.n⟩
 nam st s h _:=by
  simp only[dgN];split
  ·exact h
  exact⟨h.f,h.n.trans (List.prefix_append _ _)⟩
def Dg.ext_refl (a:Dg):a.ext a:=⟨List.prefix_refl _,List.prefix_refl _⟩
def Dg.ext.tr {a b c:Dg} (h:a.ext b) (k:b.ext c):a.ext c:=⟨h.f.trans k.f,h.n.trans k.n⟩
def ext_fn (st:Dg) (f:Fn):st.ext (wFn dgN st f).2:=uD (dg_inv st) f st f.refs_any st.ext_refl
def zm (st:Dg) (f:Dcl):st.ext (wDcl dgN st f).2:=sx (dg_inv st) f st f.refs_any st.ext_refl
theorem yS (p:Pg):∀(k i:Nat) (st:Dg),st.ext (bZ p k i st).2
 | 0,i,st=>st.ext_refl
 | k+1,i,st=>by
  rw[bZ]
  split
  ·exact st.ext_refl
  split
  ·exact st.ext_refl
  exact (ext_fn st _).tr (yS p k _ _)
theorem yT (p:Pg):∀(k i:Nat) (st:Dg),st.ext (cC p k i st).2
 | 0,i,st=>st.ext_refl
 | k+1,i,st=>by
  rw[cC]
  split
  ·exact st.ext_refl
  split
  ·exact st.ext_refl
  exact (zm st _).tr (yT p k _ _)
theorem yA {p:Pg} (hd:DigOk p):∀(k i:Nat) (st:Dg),DgOk p st->DgOk p (bZ p k i st).2
 | 0,i,st,h=>h
 | k+1,i,st,h=>by
  rw[bZ]
  split
  ·exact h
  split
  ·exact h
  rename_i f hf
  exact yA hd k _ _ (hd.fn f (List.mem_of_getElem? hf) st h)
theorem yB {p:Pg} (hd:DigOk p):∀(k i:Nat) (st:Dg),DgOk p st->DgOk p (cC p k i st).2
 | 0,i,st,h=>h
 | k+1,i,st,h=>by
  rw[cC]
  split
  ·exact h
  split
  ·exact h
  rename_i f hf
  exact yB hd k _ _ (hd.ty f (List.mem_of_getElem? hf) st h)
def yU {a b:List α} (h:a <+: b) {i:Nat} {x:α} (hx:a[i]?=some x):b.drop i=x::b.drop (i+1):=by
 obtain⟨c,rfl⟩:=h;have d:=(List.getElem?_eq_some_iff.1 hx).1;have:(a++c)[i]?=some x:=by rw[List.getElem?_append_left d];exact hx
 obtain⟨j,g⟩:=List.getElem?_eq_some_iff.1 this;rw[List.drop_eq_getElem_cons j,g]
def fnSz (p:Pg) (n:Nat):Nat:=(p.funs[n]?).elim 0 λf=>45*szFn f
def tySz (p:Pg) (n:Nat):Nat:=(p.types[n]?).elim 0 λf=>36*hZ f
theorem yi {p:Pg} (hs:szPg p<=4000):∀(k i:Nat) (st:Dg),(bZ p k i st).1.length<=(((bZ p k i st).2.funs.drop i).map λn=>fnSz p n.toNat).sum
 | 0,i,st=>Nat.zero_le _
 | k+1,i,st=>by
  rw[bZ]
  split
  ·exact Nat.zero_le _
  rename_i n hn
  split
  ·exact Nat.zero_le _
  rename_i f hf
  have h1:=yi hs k (i+1) (wFn dgN st f).2
  have h2:=yU ((ext_fn st f).tr (yS p k (i+1) (wFn dgN st f).2)).f hn
  simp only
  rw[h2,List.map_cons,List.sum_cons,μ]
  have h3:szFn f<=4000:=by
   have:=co (f:=szFn) (List.mem_of_getElem? hf);unfold szPg at hs;omega
  have d:=zi dgN f st ω;have a:fnSz p n.toNat=45*szFn f:=by unfold fnSz;rw[hf];rfl
  omega
theorem yk {p:Pg} (hs:szPg p<=4000):∀(k i:Nat) (st:Dg),(cC p k i st).1.length<=(((cC p k i st).2.names.drop i).map λs=>tySz p ((idxP p.tyNames s).getD 0)).sum
 | 0,i,st=>Nat.zero_le _
 | k+1,i,st=>by
  rw[cC]
  split
  ·exact Nat.zero_le _
  rename_i n hn
  split
  ·exact Nat.zero_le _
  rename_i f hf
  have h1:=yk hs k (i+1) (wDcl dgN st f).2
  have h2:=yU ((zm st f).tr (yT p k (i+1) (wDcl dgN st f).2)).n hn
  simp only
  rw[h2,List.map_cons,List.sum_cons,μ]
  have h3:hZ f<=4000:=by
   have:=co (f:=hZ) (List.mem_of_getElem? hf);unfold szPg at hs;omega
  have d:=yM dgN f st ω;have a:tySz p ((idxP p.tyNames n).getD 0)=36*hZ f:=by unfold tySz;rw[hf];rfl
  omega
theorem xQ {α:Type} {f:α->Nat}:∀{l:List α},l.Nodup->(∀a∈l,∀b∈l,f a=f b->a=b)->(l.map f).Nodup
 | [],_,_=>List.nodup_nil
 | x::l,h,hi=>by
  rw[List.map_cons,List.nodup_cons]
  rw[List.nodup_cons] at h
  refine⟨λhm=>?_,xQ h.2 (λa ha b hb=>hi a (List.mem_cons_of_mem _ ha) b (List.mem_cons_of_mem _ hb))⟩
  obtain⟨y,hy,e⟩:=List.mem_map.1 hm
  exact h.1 (hi y (List.mem_cons_of_mem _ hy) x List.mem_cons_self e▸hy)
def AR {p:Pg} (hs:szPg p<=4000) (hd:DigOk p) {a:Ac} (ha:a∈p.actors):(je p a).length<=1000000:=by
 have r:=hs;unfold szPg at r;have E:=co (f:=szAc) ha;have F:=zj dgN a dg0 ω;have u:DgOk p dg0:=⟨List.nodup_nil,(λn h=>by cases h),List.nodup_nil,(λn h=>by cases h)⟩
 have t:=hd.ac a ha _ u;have d:=yA hd (p.funs+1) 0 _ t;have g:=yB hd (p.types+1) 0 _ d;have B:=yi hs (p.funs+1) 0 (wAc dgN dg0 a).2;have A:=yk hs (p.types+1) 0 (bZ p (p.funs+1) 0 (wAc dgN dg0 a).2).2;rw[List.drop_zero] at B A
 have H:((bZ p (p.funs+1) 0 (wAc dgN dg0 a).2).2.funs.map λn=>fnSz p n.toNat).sum<=45*sumN szFn p.funs:=by
  have:=xP (fnSz p) p.funs ((bZ p (p.funs+1) 0 (wAc dgN dg0 a).2).2.funs.map Int.toNat)
   (xQ d.nf (λx hx y hy e=>by have:=d.rf x hx;have:=d.rf y hy;omega)) (λn hn=>by obtain⟨x,hx,rfl⟩:=List.mem_map.1 hn;have:=d.rf x hx;omega)
  rw[List.map_map] at this;refine ψ this ?_;have:=yg (λf=>45*szFn f) p.funs;unfold fnSz;rw[this];exact ya (λx _=>υ _)
 have G:((cC p (p.types+1) 0 (bZ p (p.funs+1) 0 (wAc dgN dg0 a).2).2).2.names.map λs=>tySz p ((idxP p.tyNames s).getD 0)).sum<=36*sumN hZ p.types:=by
  have:=xP (tySz p) p.types ((cC p (p.types+1) 0 (bZ p (p.funs+1) 0 (wAc dgN dg0 a).2).2).2.names.map λs=>(idxP p.tyNames s).getD 0)
   (xQ g.nn (λx hx y hy e=>by
     obtain⟨i,l,v,q⟩:=xM p.tyNames x (g.rn x hx);obtain⟨j,z,D,k⟩:=xM p.tyNames y (g.rn y hy);rw[l,z] at e;simp only[Option.getD_some] at e;subst e;rw[q] at k;exact Option.some.inj k)) (λn hn=>by
     obtain⟨x,hx,rfl⟩:=List.mem_map.1 hn;obtain⟨i,l,v,-⟩:=xM p.tyNames x (g.rn x hx);rw[l];simp only[Option.getD_some];have:p.tyNames.length=p.types:=by unfold Pg.tyNames;simp
     omega)
  rw[List.map_map] at this;refine ψ this ?_;have:=yg (λf=>36*hZ f) p.types;unfold tySz;rw[this];exact ya (λx _=>υ _)
 unfold je;simp only[μ];omega
theorem yz:∀F:List Nat,(F.map λ_=>1).sum=F.length
 | []=>rfl
 | x::F=>by rw[List.map_cons,List.sum_cons,δ,yz F];omega
def Br:∀(m:Nat) (F:List Nat),F.Nodup->(∀n∈F,n<m)->F.length<=m:=λm F h1 h2=>by
 have:=xP (λ_=>1) m F h1 h2
 rw[yz,yz,List.length_range] at this;exact this
def yG {p:Pg} {st:Dg} (h:DgOk p st):st.funs.length<=p.funs:=by
 have:=Br p.funs (st.funs.map Int.toNat) (xQ (f:=Int.toNat) h.nf (λx hx y hy e=>by have:=h.rf x hx;have:=h.rf y hy;omega)) (λn hn=>by obtain⟨x,hx,rfl⟩:=List.mem_map.1 hn;have:=h.rf x hx;omega);simpa using this
def yx {p:Pg} {st:Dg} (h:DgOk p st):st.names.length<=p.types:=by
 have:=Br p.types (st.names.map λs=>(idxP p.tyNames s).getD 0) (xQ (f:=λs=>(idxP p.tyNames s).getD 0) h.nn (λx hx y hy e=>by
  obtain⟨i,d,k,g⟩:=xM p.tyNames x (h.rn x hx);obtain⟨j,l,q,a⟩:=xM p.tyNames y (h.rn y hy);rw[d,l] at e;simp only[Option.getD_some] at e;subst e;rw[g] at a;exact Option.some.inj a)) (λn hn=>by
  obtain⟨x,hx,rfl⟩:=List.mem_map.1 hn;obtain⟨i,d,k,-⟩:=xM p.tyNames x (h.rn x hx);rw[d];simp only[Option.getD_some];have:p.tyNames.length=p.types:=by unfold Pg.tyNames;simp
  omega)
 simpa using this
def yp (φ:Int->Int) (f:Fn):Fn:={ f with body:=ren φ f.body }
def yu (φ:Int->Int) (f:Vr):Vr:={ f with init:=ren φ f.init }
def yv (φ:Int->Int) (f:Hd):Hd:={ f with body:=f.body.map (renS φ) }
def ym (φ:Int->Int) (f:Ac):Ac:={ f with vars:=f.vars.map (yu φ),on:=f.on.map (yv φ) }
structure NmHom {σ τ:Type} (N:Nm σ) (N':Nm τ) (m:σ->τ) (φ:Int->Int):Prop where
 num:∀st n,N'.num (m st) (φ n)=((N.num st n).1,m (N.num st n).2)
 nam:∀st s,N'.nam (m st) s=m (N.nam st s)
section
variable {σ τ:Type} {N:Nm σ} {N':Nm τ} {m:σ->τ} {φ:Int->Int}
def Alk {α β:Type} (m:σ->τ) (f:σ->α->List UInt8×σ) (f':τ->β->List UInt8×τ) (a:α) (b:β):Prop:=∀st,f' (m st) b=((f st a).1,m (f st a).2)
theorem yN {α β:Type} {f:σ->α->List UInt8×σ} {f':τ->β->List UInt8×τ} {g:α->β}:∀(l:List α),(∀x∈l,Alk m f f' x (g x))->∀st,wAll f' (m st) (l.map g)=((wAll f st l).1,m (wAll f st l).2)
 | [],_,st=>rfl
 | x::l,h,st=>by
  rw[List.map_cons,wAll,wAll,h x List.mem_cons_self st]
  simp only
  rw[yN l (λy hy=>h y (List.mem_cons_of_mem _ hy))]
def xN {β:Type} {f:σ->α->List UInt8×σ} {f':τ->β->List UInt8×τ} {g:α->β} {l:List α} (h:∀x∈l,Alk m f f' x (g x)) (st:σ):ah f' (m st) (l.map g)=((ah f st l).1,m (ah f st l).2):=by
 unfold ah;rw[yN l h,List.length_map]
variable (H:NmHom N N' m φ)
include H
mutual
theorem yn:∀t:Ty,Alk m (wTy N) (wTy N') t t
 | .mk k s a=>λst=>by
  have e:(if k=6 then N'.nam (m st) s else m st)=m (if k=6 then N.nam st s else st):=by split;exact H.nam _ _;rfl
  rw[wTy,wTy,e,yJ a]
theorem yJ:∀(l:List Ty) (st:σ),wTys N' (m st) l=((wTys N st l).1,m (wTys N st l).2)
 | [],st=>by rw[wTys,wTys]
 | x::l,st=>by rw[wTys,wTys,yn x st];simp only;rw[yJ l]
end
theorem eNum_alk (st:σ) (op n:Int):eNum N' (m st) op (if op=33\/op=34 then φ n else n)=((eNum N st op n).1,m (eNum N st op n).2):=by
 unfold eNum jb;by_cases h:op=33\/op=34
 ·have:(decide (op=33)||decide (op=34))=true:=by simpa using h
  simp only[this,if_true,if_pos h];exact H.num _ _
 have:(decide (op=33)||decide (op=34))=false:=by simpa using h
 simp only[this,if_neg h];rfl
theorem eNam_alk (st:σ) (op:Int) (s:Ê):eNam N' (m st) op s=m (eNam N st op s):=by
 unfold eNam;split
 ·exact H.nam _ _
 rfl
mutual
theorem yo:∀t:Ex,Alk m (wEx N) (wEx N') t (ren φ t)
 | .mk op n k s a=>λst=>by
  rw[ren,wEx,wEx,eNum_alk H]
  simp only
  rw[eNam_alk H,yL a,lU,List.length_map]
theorem yL:∀(l:List Ex) (st:σ),wExs N' (m st) (rens φ l)=((wExs N st l).1,m (wExs N st l).2)
 | [],st=>by rw[rens,wExs,wExs]
 | x::l,st=>by rw[rens,wExs,wExs,yo x st];simp only;rw[yL l]
end
mutual
theorem zg:∀t:St,Alk m (wSt N) (wSt N') t (renS φ t)
 | .mk op n k s u xs h e a=>λst=>by
  have h0:=xN (l:=xs) (g:=ren φ) (f:=wEx N) (f':=wEx N') (λx _=>yo H x) st
  rw[renS,wSt,wSt,lU,h0]
  simp only
  rw[xZ h]
  simp only
  rw[xZ e]
  simp only
  rw[xZ a]
  simp only[eR,List.length_map]
theorem xZ:∀(l:List St) (st:σ),wSts N' (m st) (lX φ l)=((wSts N st l).1,m (wSts N st l).2)
 | [],st=>by rw[lX,wSts,wSts]
 | x::l,st=>by rw[lX,wSts,wSts,zg x st];simp only;rw[xZ l]
end
theorem wFld_alk (f:Fld):Alk m (wFld N) (wFld N') f f:=λst=>by unfold wFld;rw[yn H f.type st]
theorem xU (l:List Fld):Alk m (bJ N) (bJ N') l l:=λst=>by
 have:=xN (l:=l) (g:=λx=>x) (f:=wFld N) (f':=wFld N') (λx _=>wFld_alk H x) st
 rw[List.map_id'] at this;exact this
theorem wCtr_alk (f:Ctr):Alk m (wCtr N) (wCtr N') f f:=λst=>by unfold wCtr;rw[xU H f.fields st]
theorem wDcl_alk (f:Dcl):Alk m (wDcl N) (wDcl N') f f:=λst=>by
 have:=xN (l:=f.ctors) (g:=λx=>x) (f:=wCtr N) (f':=wCtr N') (λx _=>wCtr_alk H x) st
 rw[List.map_id'] at this;unfold wDcl;rw[this]
theorem wFn_alk (f:Fn):Alk m (wFn N) (wFn N') f (yp φ f):=λst=>by
 unfold wFn yp
 simp only
 rw[xU H f.params st]
 simp only
 rw[yn H f.result]
 simp only
 rw[yo H f.body]
theorem wVr_alk (f:Vr):Alk m (wVr N) (wVr N') f (yu φ f):=λst=>by
 unfold wVr yu
 simp only
 rw[yn H f.type st]
 simp only
 rw[yo H f.init]
theorem wHd_alk (f:Hd):Alk m (wHd N) (wHd N') f (yv φ f):=λst=>by
 unfold wHd yv
 simp only
 rw[xU H f.params st]
 simp only
 rw[xN (l:=f.body) (g:=renS φ) (f:=wSt N) (f':=wSt N') (λx _=>zg H x)]
theorem wAc_alk (f:Ac):Alk m (wAc N) (wAc N') f (ym φ f):=λst=>by
 unfold wAc ym
 simp only
 rw[xU H f.params st]
 simp only
 rw[xN (l:=f.vars) (g:=yu φ) (f:=wVr N) (f':=wVr N') (λx _=>wVr_alk H x)]
 simp only
 rw[xN (l:=f.on) (g:=yv φ) (f:=wHd N) (f':=wHd N') (λx _=>wHd_alk H x)]
end
def mp (φ:Int->Int) (st:Dg):Dg:=⟨st.funs.map φ,st.names⟩
theorem yP {φ:Int->Int} (hi:∀a b,φ a=φ b->a=b) (n:Int):∀l:List Int,posI (l.map φ) (φ n)=posI l n
 | []=>rfl
 | x::l=>by
  rw[List.map_cons,posI,posI,yP hi n l]
  by_cases h:x=n
  ·rw[if_pos h,if_pos (by rw[h])]
  rw[if_neg h,if_neg (λe=>h (hi _ _ e))]
def dgHom {φ:Int->Int} (hi:∀a b,φ a=φ b->a=b):NmHom dgN dgN (mp φ) φ where
 num st n:=by
  simp only[dgN,mp,yP hi]
  cases posI st.funs n with
  | some i=>rfl
  | none=>simp
 nam st s:=by
  simp only[dgN,mp];by_cases h:s.data.toList∈st.names
  ·rw[if_pos h,if_pos h]
  rw[if_neg h,if_neg h]
theorem xW (p:Pg) (j:Nat):∀(k i:Nat) (st:Dg),(bZ p k i st).2.funs.length<i+k->bZ p (k+j) i st=bZ p k i st
 | 0,i,st,h=>by
  rw[bZ] at h ⊢
  cases j with
  | zero=>rw[Nat.add_zero,bZ]
  | succ j=>rw[Nat.zero_add,bZ,List.getElem?_eq_none (by simpa using Nat.le_of_lt h)]
 | k+1,i,st,h=>by
  rw[Nat.add_right_comm,bZ,bZ]
  rw[bZ] at h
  split at h
  ·rfl
  rename_i n hn
  split at h
  ·rfl
  rename_i f hf
  simp only at h
  rw[xW p j k (i+1) _ ω]
theorem xX (p:Pg) (j:Nat):∀(k i:Nat) (st:Dg),(cC p k i st).2.names.length<i+k->cC p (k+j) i st=cC p k i st
 | 0,i,st,h=>by
  rw[cC] at h ⊢
  cases j with
  | zero=>rw[Nat.add_zero,cC]
  | succ j=>rw[Nat.zero_add,cC,List.getElem?_eq_none (by simpa using Nat.le_of_lt h)]
 | k+1,i,st,h=>by
  rw[Nat.add_right_comm,cC,cC]
  rw[cC] at h
  split at h
  ·rfl
  rename_i n hn
  split at h
  ·rfl
  rename_i f hf
  simp only at h
  rw[xX p j k (i+1) _ ω]
structure Emb (p q:Pg) (φ:Int->Int):Prop where
 inj:∀a b,φ a=φ b->a=b
 fn:∀n:Int,0<=n->n<(p.funs.length:Int)->q.funs[(φ n).toNat]?=(p.funs[n.toNat]?).map (yp φ)
 ty:∀s∈p.tyNames,q.types[(idxP q.tyNames s).getD 0]?=p.types[(idxP p.tyNames s).getD 0]?
section
variable {p q:Pg} {φ:Int->Int} (he:Emb p q φ) (hd:DigOk p)
include he hd
theorem yj:∀(k i:Nat) (st:Dg),DgOk p st->bZ q k i (mp φ st)=((bZ p k i st).1,mp φ (bZ p k i st).2)
 | 0,i,st,_=>by rw[bZ,bZ]
 | k+1,i,st,h=>by
  rw[bZ,bZ]
  have e:(mp φ st).funs[i]?=(st.funs[i]?).map φ:=by unfold mp;simp
  rw[e]
  cases hn:st.funs[i]? with
  | none=>rfl
  | some n =>
   have hr:=h.rf n (List.mem_of_getElem? hn)
   simp only[Option.map_some]
   rw[he.fn n hr.1 hr.2]
   cases hf:p.funs[n.toNat]? with
   | none=>rfl
   | some f =>
    simp only[Option.map_some]
    rw[wFn_alk (dgHom he.inj) f st]
    simp only
    rw[yj k (i+1) _ (hd.fn f (List.mem_of_getElem? hf) st h)]
theorem yl:∀(k i:Nat) (st:Dg),DgOk p st->cC q k i (mp φ st)=((cC p k i st).1,mp φ (cC p k i st).2)
 | 0,i,st,_=>by rw[cC,cC]
 | k+1,i,st,h=>by
  rw[cC,cC]
  have e:(mp φ st).names[i]?=st.names[i]?:=rfl
  rw[e]
  cases hn:st.names[i]? with
  | none=>rfl
  | some n =>
   simp only
   rw[he.ty n (h.rn n (List.mem_of_getElem? hn))]
   cases hf:p.types[(idxP p.tyNames n).getD 0]? with
   | none=>rfl
   | some f =>
    simp only
    rw[wDcl_alk (dgHom he.inj) f st]
    simp only
    rw[yl k (i+1) _ (hd.ty f (List.mem_of_getElem? hf) st h)]
theorem yZ {a:Ac} (ha:a∈p.actors) (hf:p.funs.length<=q.funs) (ht:p.types.length<=q.types):je q (ym φ a)=je p a:=by
 have r:DgOk p dg0:=⟨List.nodup_nil,(λn h=>by cases h),List.nodup_nil,(λn h=>by cases h)⟩
 have j:=hd.ac a ha _ r;have i:=yA hd (p.funs+1) 0 _ j;have l:=yB hd (p.types+1) 0 _ i;have v:dg0=mp φ dg0:=rfl;have y:(bZ p (p.funs+1) 0 (wAc dgN dg0 a).2).2.funs.length<=p.funs:=yG i;have x:(cC p (p.types+1) 0 (bZ p (p.funs+1) 0 (wAc dgN dg0 a).2).2).2.names.length<=p.types:=yx l;have k:=wAc_alk (dgHom he.inj) a dg0;rw[<-v] at k
 have t:bZ q (q.funs+1) 0 (mp φ (wAc dgN dg0 a).2)=((bZ p (p.funs+1) 0 (wAc dgN dg0 a).2).1,mp φ (bZ p (p.funs+1) 0 (wAc dgN dg0 a).2).2):=by
  have g:=yj he hd (p.funs+1) 0 _ j;have d:=xW q (q.funs-p.funs) (p.funs+1) 0 (mp φ (wAc dgN dg0 a).2) (by rw[g];show (List.map φ _).length<_;rw[List.length_map];omega);rw[show p.funs.length+1+(q.funs.length-p.funs.length)=q.funs.length+1 by omega] at d;rw[d,g]
 have u:cC q (q.types+1) 0 (mp φ (bZ p (p.funs+1) 0 (wAc dgN dg0 a).2).2)=((cC p (p.types+1) 0 (bZ p (p.funs+1) 0 (wAc dgN dg0 a).2).2).1,mp φ (cC p (p.types+1) 0 (bZ p (p.funs+1) 0 (wAc dgN dg0 a).2).2).2):=by
  have g:=yl he hd (p.types+1) 0 _ i;have d:=xX q (q.types-p.types) (p.types+1) 0 (mp φ (bZ p (p.funs+1) 0 (wAc dgN dg0 a).2).2) (by rw[g];show List.length _<_;unfold mp;simp only;omega);rw[show p.types.length+1+(q.types.length-p.types.length)=q.types.length+1 by omega] at d;rw[d,g]
 unfold je;rw[k];simp only;rw[t];simp only;rw[u]
end
end
end
