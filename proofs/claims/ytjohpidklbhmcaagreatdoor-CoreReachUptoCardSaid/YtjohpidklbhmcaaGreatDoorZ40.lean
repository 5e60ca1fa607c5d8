/- Core -/
import Derived.Test.YtjohpidklbhmcaaGreatDoorZ39
import Derived.ArgAppend
namespace Go.Proofs.YtjohpidklbhmcaaGreatDoor
set_option linter.all false
open Go.Proofs.Tryz
def okN (p:Pg) (n:Int):Prop:=0<=n/\n<(p.funs.length:Int)
def okS (p:Pg) (s:ByteArray):Prop:=s.data.toList∈p.tyNames
structure Lim (p:Pg):Prop where
 ctors:∀d∈p.types,d.ctors.length<=1000000
 flds:∀d∈p.types,∀c∈d.ctors,c.fields.length<=1000000
 funs:p.funs.length<=1000000
 vars:∀a∈p.actors,a.vars.length<=1000000
structure ScI (sc:Sc):Prop where
 slots:sc.slots<=1000000
 bound:∀i t,sc.bound i=some t->0<=i/\i<=1000000
 vars:sc.vars.length<=1000000
mutual
def Ex.ok (p:Pg):Ex->Prop
 | .mk op n m s a=>(jb op=true->okN p n)/\(gu op=true->okS p s)/\nOk op/\iOk n/\iOk m/\Ex.oks p a
def Ex.oks (p:Pg):List Ex->Prop
 | []=>True
 | x::xs=>Ex.ok p x/\Ex.oks p xs
end
def Ex.oks_iff (p:Pg) (l:List Ex):Ex.oks p l↔∀x∈l,x.ok p:=by
 induction l with
 | nil=>simp[Ex.oks]
 | cons x l ih=>simp[Ex.oks,ih]
def iok {n:Int} (h:-9007199254740992<=n) (h2:n<=9007199254740992):iOk n:=⟨ω,ω⟩
section
variable {x:Int}
def dA {n:Nat} (h:az x n=true):0<=x/\x<n:=by unfold az at h;simpa using h
variable {sc:Sc} {i:Int} {t:Ty}
def bind_has {sc':Sc} (h:sc.bind i t=some sc'):0<=i/\i<sc.slots/\sc'=sc.set i t:=by
 unfold Sc.bind at h;split at h
 ·rename_i a;unfold Sc.bindB at a;simp only[Bool.not_eq_true',Bool.or_eq_false_iff,decide_eq_false_iff_not] at a;injection h with h;exact⟨ω,ω,h.symm⟩
 cases h
def ScI.bind {sc':Sc} (h:ScI sc) (hb:sc.bind i t=some sc'):ScI sc'/\0<=i/\i<=1000000:=by
 obtain⟨d,g,rfl⟩:=bind_has hb;have:=h.slots;refine⟨⟨h.slots,λj u hu=>?_,h.vars⟩,d,ω⟩;have a:(if j=i then some t else sc.bound j)=some u:=hu;split at a
 ·rename_i e;subst e;exact⟨d,ω⟩
 exact h.bound j u a
theorem ScI.bindAll:∀(fs:List Fld) (m:Int) {sc sc':Sc},ScI sc->bindAll sc m fs=some sc'->ScI sc'
 | [],m,sc,sc',h,hb=>by rw[Go.Proofs.YtjohpidklbhmcaaGreatDoor.bindAll] at hb;injection hb with hb;exact hb▸h
 | f::fs,m,sc,sc',h,hb=>by
  rw[Go.Proofs.YtjohpidklbhmcaaGreatDoor.bindAll] at hb
  cases hx:sc.bind m f.type with
  | none=>rw[hx] at hb;cases hb
  | some s1=>rw[hx] at hb;exact ScI.bindAll fs (m+1) (h.bind hx).1 hb
theorem kY {σ:Type} {ctors:List Ctr} {body:σ->Nat->Sc->Option σ} {sc:Sc} (hs:ScI sc):∀(l:List (Int×Int)) (i:Nat) (seen:List Int) (st r:σ),bz sc ctors body i seen st l=some r ->
 ∀j (h:j<l.length),(l[j].1=-1\/az l[j].1 ctors=true)/\0<=l[j].2/\l[j].2<=sc.slots/\∃st1 sc1 st2,ScI sc1/\body st1 (i+j) sc1=some st2
 | [],i,seen,st,r,_,j,h=>by simp at h
 | (n,m)::rest,i,seen,st,r,hr,j,h=>by
  rw[fZ] at hr
  split at hr
  ·cases hr
  rename_i hbad
  cases hx:bindAll sc m (rI ctors n) with
  | none=>rw[hx] at hr;cases hr
  | some s1 =>
   rw[hx] at hr
   have hr':(body st i s1).bind (λst'=>bz sc ctors body (i+1) (n::seen) st' rest)=some r:=hr
   cases hy:body st i s1 with
   | none=>rw[hy] at hr';cases hr'
   | some st' =>
    rw[hy] at hr'
    cases j with
    | zero =>
     unfold nF at hbad
     simp only[Bool.or_eq_true,τ,decide_eq_true_eq,Bool.not_eq_true',not_or,not_and] at hbad
     obtain⟨⟨⟨⟨h1,h2⟩,h3⟩,_⟩,_⟩:=hbad
     refine⟨?_,by show 0<=m;omega,by show m<=sc.slots;omega,st,s1,st',hs.bindAll _ _ hx,hy⟩
     show n=-1\/az n ctors=true
     by_cases e:n=-1
     ·exact .inl e
     right;have:=h1 e;simpa using this
    | succ j =>
     have:=kY hs rest (i+1) (n::seen) st' r hr' j (by simpa using h)
     have e:i+(j+1)=i+1+j:=ω
     rw[e];exact this
section
variable {p:Pg} {E:EF} {sc:Sc} (hE:∀sc e w t,ScI sc->E sc e w=some t->e.ok p) (hs:ScI sc)
include hE hs
theorem fM {e:Ex} (h:isE E sc e t=true):e.ok p:=by
 unfold isE at h;obtain⟨u,a⟩:=Option.isSome_iff_exists.1 h;exact hE _ _ _ _ hs a
theorem fx:∀(kids:List Ex) (fs:List Fld),bl E sc kids fs=true->Ex.oks p kids
 | [],_,_=>by rw[Ex.oks];trivial
 | e::es,[],h=>by simp[bl] at h
 | e::es,f::fs,h=>by
  rw[bl] at h;simp only[τ] at h
  rw[Ex.oks];exact⟨fM hE hs h.1,fx es fs h.2⟩
theorem pr:∀(kids:List Ex) (fs:List Ty),aR E sc kids fs=true->Ex.oks p kids
 | [],_,_=>by rw[Ex.oks];trivial
 | e::es,[],h=>by simp[aR] at h
 | e::es,f::fs,h=>by
  rw[aR] at h;simp only[τ] at h
  rw[Ex.oks];exact⟨fM hE hs h.1,pr es fs h.2⟩
theorem oY (kids:List Ex) (h:(kids.all λe=>isE E sc e t)=true):Ex.oks p kids:=by
 rw[Ex.oks_iff];exact λx hx=>fM hE hs (List.all_eq_true.1 h x hx)
theorem sR {right:Ty->Bool} (kids:List Ex) (h:gd E sc right kids=true):Ex.oks p kids:=by
 match kids,h with
 | [a,b],h =>
  have d:(match E sc a none with|none=>false|some t=>right t&&isE E sc b t)=true:=h;split at d
  ·cases d
  rename_i t g;simp only[τ] at d;simp only[Ex.oks,and_true];exact⟨hE _ _ _ _ hs g,fM hE hs d.2⟩
theorem wZ (kids:List Ex) (want:Option Ty) (h:fw E sc kids want=some t):Ex.oks p kids:=by
 unfold fw at h;split at h
 ·split at h
  ·split at h
   ·rename_i a;exact oY hE hs kids a
   cases h
  cases h
 ·cases h
 split at h
 ·cases h
 split at h
 ·cases h
 rename_i u d;split at h
 ·rename_i a;rw[Ex.oks];exact⟨hE _ _ _ _ hs d,oY hE hs _ a⟩
 cases h
theorem fIf_ok' (kids:List Ex) (want:Option Ty) (h:fIf E sc want kids=some t):Ex.oks p kids:=by
 unfold fIf at h;split at h
 ·split at h
  ·rename_i g;split at h
   ·cases h
   rename_i u a;split at h
   ·rename_i d;simp only[Ex.oks,and_true];exact⟨fM hE hs g,hE _ _ _ _ hs a,fM hE hs d⟩
   cases h
  cases h
 cases h
theorem fLet_ok' (x:Int) (kids:List Ex) (want:Option Ty) (h:fLet E sc x want kids=some t):Ex.oks p kids/\0<=x/\x<=1000000:=by
 unfold fLet at h;split at h
 ·split at h
  ·cases h
  rename_i u d;split at h
  ·cases h
  rename_i i g;have a:=hs.bind g;simp only[Ex.oks,and_true];exact⟨⟨hE _ _ _ _ hs d,hE _ _ _ _ a.1 h⟩,a.2⟩
 cases h
theorem fCat_ok' (kids:List Ex) (want:Option Ty) (h:fCat E sc want kids=some t):Ex.oks p kids:=by
 unfold fCat at h;split at h
 ·split at h
  ·cases h
  rename_i u d;split at h
  ·rename_i a;simp only[τ] at a;simp only[Ex.oks,and_true];exact⟨hE _ _ _ _ hs d,fM hE hs a.2⟩
  cases h
 cases h
theorem ue (kids:List Ex) (h:dY E sc kids=some t):Ex.oks p kids:=by
 unfold dY at h;split at h
 ·cases h
 split at h
 ·cases h
 rename_i u a;split at h
 ·split at h
  ·rename_i d;rw[Ex.oks];exact⟨hE _ _ _ _ hs a,pr hE hs _ _ d⟩
  cases h
 cases h
theorem wW (x:Int) (want:Option Ty) (kids:List Ex) (h:aP E sc x want kids=some t):Ex.oks p kids/\0<=x/\x<=1000000:=by
 unfold aP at h;split at h
 ·cases h
 rename_i g j;split at h
 ·cases h
 rename_i u a
 have d:g.ok p/\0<=x/\x<=1000000:=by
  unfold aY at a;split at a
  ·rename_i hx;split at a
   ·cases a
   rename_i v hv;exact⟨hE _ _ _ _ hs hv,ω⟩
  split at a
  ·rename_i hx;exact⟨hE _ _ _ _ hs a,ω⟩
  split at a
  ·rename_i hx;exact⟨hE _ _ _ _ hs a,ω⟩
  cases a
 split at h
 ·cases h
 split at h
 ·split at h
  ·rename_i i;rw[Ex.oks];exact⟨⟨d.1,pr hE hs _ _ i⟩,d.2⟩
  cases h
 cases h
theorem fRec_ok' (s:ByteArray) (kids:List Ex) (h:fRec p E sc s kids=some t):Ex.oks p kids/\okS p s:=by
 unfold fRec at h;split at h
 ·cases h
 rename_i j a;split at h
 ·rename_i g;refine⟨fx hE hs _ _ g,?_⟩;unfold recP at a;split at a
  ·split at a
   ·cases a
   rename_i i d;exact List.mem_of_getElem? (cg _ _ _ _ d).2
  cases a
 cases h
omit hE hs in
theorem uS (hL:Lim p) {fs:List Fld} (hf:recP p t=some fs):fs.length<=1000000:=by
 unfold recP at hf;split at hf
 ·split at hf
  ·cases hf
  split at hf
  ·cases hf
  rename_i d g;split at hf
  ·split at hf
   ·cases hf
   rename_i c l a;injection hf with hf;subst hf;exact hL.flds d (List.mem_of_getElem? g) c (by rw[a];exact List.mem_cons_self)
  cases hf
 cases hf
omit hE hs in
theorem qO (hL:Lim p) {cs:List Ctr} (hf:varP p t=some cs):cs.length<=1000000:=by
 unfold varP at hf;split at hf
 ·split at hf
  ·cases hf
  split at hf
  ·cases hf
  rename_i d a;split at hf
  ·cases hf
  injection hf with hf;subst hf;exact hL.ctors d (List.mem_of_getElem? a)
 cases hf
omit hE hs in
theorem var_name {s:ByteArray} {cs:List Ctr} (hf:varP p (cN s)=some cs):okS p s:=by
 unfold varP at hf;split at hf
 ·split at hf
  ·cases hf
  rename_i i a;exact List.mem_of_getElem? (cg _ _ _ _ a).2
 cases hf
variable (hL:Lim p)
include hL
theorem fGet_ok' (x:Int) (kids:List Ex) (h:fGet p E sc x kids=some t):Ex.oks p kids/\0<=x/\x<=1000000:=by
 unfold fGet at h;split at h
 ·split at h
  ·cases h
  rename_i u d;split at h
  ·cases h
  rename_i i g;split at h
  ·rename_i a;have:=uS hL g;have:=dA a;simp only[Ex.oks,and_true];exact⟨hE _ _ _ _ hs d,ω⟩
  cases h
 cases h
theorem wU (x:Int) (want:Option Ty) (kids:List Ex) (h:gL p E sc x want kids=some t):Ex.oks p kids/\0<=x/\x<=1000000:=by
 unfold gL at h;split at h
 ·split at h
  ·cases h
  rename_i u d;split at h
  ·cases h
  rename_i j g;split at h
  ·rename_i a;have:=uS hL g;have:=dA a;split at h
   ·cases h
   split at h
   ·rename_i i;simp only[Ex.oks,and_true];exact⟨⟨hE _ _ _ _ hs d,fM hE hs i⟩,ω⟩
   cases h
  cases h
 cases h
theorem xb (x:Int) (s:ByteArray) (kids:List Ex) (h:jx p E sc x s kids=some t):Ex.oks p kids/\okS p s/\0<=x/\x<=1000000:=by
 unfold jx at h;split at h
 ·cases h
 rename_i i a;split at h
 ·rename_i d;have:=qO hL a;have:=dA d;split at h
  ·cases h
  split at h
  ·rename_i g;exact⟨fx hE hs _ _ g,var_name a,ω⟩
  cases h
 cases h
theorem ub (want:Option Ty) (kids:List Ex) (h:dX p E sc want kids=some t):Ex.oks p kids:=by
 unfold dX at h;split at h
 ·cases h
 rename_i N g;split at h
 ·cases h
 rename_i u D;split at h
 ·rename_i r;rw[Ex.oks];refine⟨hE _ _ _ _ hs D,?_⟩;unfold bX at h;split at h
  ·cases h
  rename_i O x;split at h
  ·cases h
  rw[Ex.oks_iff];intro a y;obtain⟨j,v,rfl⟩:=List.mem_iff_getElem.1 y;obtain⟨B,A,z,I,J,H,i,d⟩:=kY hs _ _ _ _ _ h j (by simpa using v);simp only[List.getElem_map] at B A z;have q:=List.all_eq_true.1 r _ y;unfold cE at d;rw[Nat.zero_add,ξ v] at d;simp only at d;have M:=qO hL x;have L:=hs.slots
  have F:-1<=g[j].n/\g[j].n<=1000000:=by
   rcases B with e|e
   ·omega
   have:=dA e;omega
  generalize g[j]=a at *
  cases a with
  | mk o n m s l =>
   simp only[fy,Ex.op,Ex.s,Ex.kids,Ex.n,Ex.m,τ,decide_eq_true_eq] at q d F A z;obtain⟨ho,_,_⟩:=q;have ho:=of_decide_eq_true ho;subst ho;rw[Ex.ok];refine⟨λe=>by simp[jb] at e,λe=>by simp[gu] at e,⟨ω,ω⟩,iok ω ω,iok ω ω,?_⟩;split at d
   ·rename_i k;simp only[Ex.oks,and_true];split at d
    ·exact hE _ _ _ _ i d
    split at d
    ·rename_i G;exact fM hE i G
    cases d
   cases d
 cases h
theorem xd (x:Int) (kids:List Ex) (h:jI p E sc x kids=some t):Ex.oks p kids/\okN p x:=by
 unfold jI at h;split at h
 ·rename_i a;split at h
  ·cases h
  split at h
  ·rename_i d;exact⟨fx hE hs _ _ d,dA a⟩
  cases h
 cases h
theorem fFun_ok' (x:Int) (kids:List Ex) (h:fFun p E sc x kids=some t):Ex.oks p kids/\okN p x:=by
 unfold fFun at h;split at h
 ·rename_i a;split at h
  ·cases h
  split at h
  ·split at h
   ·rename_i d;exact⟨fx hE hs _ _ d,dA a⟩
   cases h
  cases h
 cases h
end
def hH {k:Int} {b:Bool} (h:fixT k b=some t):b=true:=by
 unfold fixT at h;split at h
 ·assumption
 cases h
def iok6 (h:0<=x/\x<=1000000):iOk x:=⟨ω,ω⟩
def ra {p:Pg} {kids:List Ex} (h:kids.length=0):Ex.oks p kids:=by rw[List.eq_nil_of_length_eq_zero h,Ex.oks];trivial
theorem oO {p:Pg} (hL:Lim p):∀(n:Nat) (sc:Sc) (e:Ex) (w:Option Ty) (t:Ty),ScI sc->aa p n sc e w=some t->e.ok p
 | 0,sc,e,w,t,_,h=>by simp[aa] at h
 | n+1,sc,.mk op x m s kids,w,t,hs,h=>by
  have hE:=oO hL n
  rw[aa] at h
  split at h
  ·cases h
  rename_i k nb sb hr
  split at h
  ·rename_i hsh
   cases hf:bP p (aa p n) sc op x s kids w with
   | none=>rw[hf] at h;cases h
   | some u =>
    clear h
    unfold bj at hsh
    simp only[τ,Bool.not_eq_true',Bool.and_eq_false_iff,Bool.or_eq_false_iff,decide_eq_false_iff_not,Bool.not_eq_false'] at hsh
    obtain⟨hk,⟨hx,hm⟩,-⟩:=hsh
    have hm0:iOk m:=by
     have:m=0:=ω;subst this;exact iok ω ω
    have a:(jb op=true->okN p x)->(gu op=true->okS p s)->nOk op->(nb=true->iOk x)->Ex.oks p kids->(Ex.mk op x m s kids).ok p:=λh1 i g h4 h5=>by
     rw[Ex.ok];refine⟨h1,i,g,?_,hm0,h5⟩
     cases nb with
     | true=>exact h4 rfl
     | false =>
      have:x=0:=by rcases hx with e|e<;>simp_all
      subst this;exact iok ω ω
    have d:k=0->Ex.oks p kids:=λe=>ra (by rcases hk with e2|e2<;>omega);unfold bP at hf;by_cases c:op=1
    ·subst c;injection hr with hr;injection hr with e1 hr;exact a (λe=>by cases e) (λe=>by cases e) ⟨ω,ω⟩ (λe=>by injection hr with e2;rw[<-e2] at e;cases e) (d e1.symm)
    rw[if_neg c] at hf;by_cases c:op=2
    ·subst c;injection hr with hr;injection hr with e1 hr;rw[if_pos rfl] at hf;have:=hH hf;simp only[Bool.or_eq_true,decide_eq_true_eq] at this;exact a (λe=>by cases e) (λe=>by cases e) ⟨ω,ω⟩ (λ_=>iok ω ω) (d e1.symm)
    rw[if_neg c] at hf;by_cases c:op=3
    ·subst c;injection hr with hr;injection hr with e1 hr;rw[if_pos rfl] at hf;have:=hH hf;simp only[τ,decide_eq_true_eq] at this;exact a (λe=>by cases e) (λe=>by cases e) ⟨ω,ω⟩ (λ_=>iok this.1 this.2) (d e1.symm)
    rw[if_neg c] at hf;by_cases c:op=4
    ·subst c;injection hr with hr;injection hr with e1 hr;exact a (λe=>by cases e) (λe=>by cases e) ⟨ω,ω⟩ (λe=>by injection hr with e2;rw[<-e2] at e;cases e) (d e1.symm)
    rw[if_neg c] at hf;by_cases c:op=5
    ·subst c;injection hr with hr;injection hr with e1 hr;rw[if_pos rfl] at hf;exact a (λe=>by cases e) (λe=>by cases e) ⟨ω,ω⟩ (λ_=>iok6 (hs.bound _ _ hf)) (d e1.symm)
    rw[if_neg c] at hf;by_cases c:op=6
    ·subst c;injection hr with hr;injection hr with e1 hr;rw[if_pos rfl] at hf;split at hf
     ·rename_i j;have:=dA j;have:=hs.vars;exact a (λe=>by cases e) (λe=>by cases e) ⟨ω,ω⟩ (λ_=>iok ω ω) (d e1.symm)
     cases hf
    rw[if_neg c] at hf;by_cases c:op=7
    ·subst c;injection hr with hr;injection hr with e1 hr;exact a (λe=>by cases e) (λe=>by cases e) ⟨ω,ω⟩ (λe=>by injection hr with e2;rw[<-e2] at e;cases e) (d e1.symm)
    rw[if_neg c] at hf;clear d;by_cases c:op=8
    ·subst c;injection hr with hr;injection hr with e1 hr;rw[if_pos rfl] at hf;exact a (λe=>by cases e) (λe=>by cases e) ⟨ω,ω⟩ (λe=>by injection hr with e2;rw[<-e2] at e;cases e) (wZ hE hs _ _ hf)
    rw[if_neg c] at hf;by_cases c:op=9
    ·subst c;injection hr with hr;injection hr with e1 hr;rw[if_pos rfl] at hf;have:=fRec_ok' hE hs _ _ hf;exact a (λe=>by cases e) (λ_=>this.2) ⟨ω,ω⟩ (λe=>by injection hr with e2;rw[<-e2] at e;cases e) this.1
    rw[if_neg c] at hf;by_cases c:op=10
    ·subst c;rw[if_pos rfl] at hf;have:=fGet_ok' hE hs hL _ _ hf;exact a (λe=>by cases e) (λe=>by cases e) ⟨ω,ω⟩ (λ_=>iok6 this.2) this.1
    rw[if_neg c] at hf;by_cases c:op=11
    ·subst c;rw[if_pos rfl] at hf;have:=wU hE hs hL _ _ _ hf;exact a (λe=>by cases e) (λe=>by cases e) ⟨ω,ω⟩ (λ_=>iok6 this.2) this.1
    rw[if_neg c] at hf;by_cases c:op=12
    ·subst c;rw[if_pos rfl] at hf;have:=xb hE hs hL _ _ _ hf;exact a (λe=>by cases e) (λ_=>this.2.1) ⟨ω,ω⟩ (λ_=>iok6 this.2.2) this.1
    rw[if_neg c] at hf;by_cases c:op=13
    ·subst c;injection hr with hr;injection hr with e1 hr;rw[if_pos rfl] at hf;exact a (λe=>by cases e) (λe=>by cases e) ⟨ω,ω⟩ (λe=>by injection hr with e2;rw[<-e2] at e;cases e) (ub hE hs hL _ _ hf)
    rw[if_neg c] at hf;by_cases c:op=15
    ·subst c;injection hr with hr;injection hr with e1 hr;rw[if_pos rfl] at hf;exact a (λe=>by cases e) (λe=>by cases e) ⟨ω,ω⟩ (λe=>by injection hr with e2;rw[<-e2] at e;cases e) (fIf_ok' hE hs _ _ hf)
    rw[if_neg c] at hf;by_cases c:op=16\/op=17\/op=18
    ·rw[if_pos c] at hf;have:=oY hE hs _ (hH hf);rcases c with rfl|rfl|rfl<;>(injection hr with hr;injection hr with e1 hr;exact a (λe=>by cases e) (λe=>by cases e) ⟨ω,ω⟩ (λe=>by injection hr with e2;rw[<-e2] at e;cases e) this)
    rw[if_neg c] at hf;by_cases c:op=19\/op=20\/op=21\/op=22\/op=23\/op=24
    ·rw[if_pos c] at hf;have:=oY hE hs _ (hH hf);rcases c with rfl|rfl|rfl|rfl|rfl|rfl<;>(injection hr with hr;injection hr with e1 hr;exact a (λe=>by cases e) (λe=>by cases e) ⟨ω,ω⟩ (λe=>by injection hr with e2;rw[<-e2] at e;cases e) this)
    rw[if_neg c] at hf;by_cases c:op=25
    ·subst c;injection hr with hr;injection hr with e1 hr;rw[if_pos rfl] at hf;exact a (λe=>by cases e) (λe=>by cases e) ⟨ω,ω⟩ (λe=>by injection hr with e2;rw[<-e2] at e;cases e) (fCat_ok' hE hs _ _ hf)
    rw[if_neg c] at hf;by_cases c:op=26\/op=27
    ·rw[if_pos c] at hf;have:=sR hE hs _ (hH hf);rcases c with rfl|rfl<;>(injection hr with hr;injection hr with e1 hr;exact a (λe=>by cases e) (λe=>by cases e) ⟨ω,ω⟩ (λe=>by injection hr with e2;rw[<-e2] at e;cases e) this)
    rw[if_neg c] at hf;by_cases c:op=28\/op=29\/op=30\/op=31
    ·rw[if_pos c] at hf;have:=sR hE hs _ (hH hf);rcases c with rfl|rfl|rfl|rfl<;>(injection hr with hr;injection hr with e1 hr;exact a (λe=>by cases e) (λe=>by cases e) ⟨ω,ω⟩ (λe=>by injection hr with e2;rw[<-e2] at e;cases e) this)
    rw[if_neg c] at hf;by_cases c:op=32
    ·subst c;rw[if_pos rfl] at hf;have:=fLet_ok' hE hs _ _ _ hf;exact a (λe=>by cases e) (λe=>by cases e) ⟨ω,ω⟩ (λ_=>iok6 this.2) this.1
    rw[if_neg c] at hf;by_cases c:op=33
    ·subst c;rw[if_pos rfl] at hf;have:=xd hE hs hL _ _ hf;have i:=hL.funs;have g:=this.2;unfold okN at g;exact a (λ_=>this.2) (λe=>by cases e) ⟨ω,ω⟩ (λ_=>iok ω ω) this.1
    rw[if_neg c] at hf;by_cases c:op=34
    ·subst c;rw[if_pos rfl] at hf;have:=fFun_ok' hE hs hL _ _ hf;have i:=hL.funs;have g:=this.2;unfold okN at g;exact a (λ_=>this.2) (λe=>by cases e) ⟨ω,ω⟩ (λ_=>iok ω ω) this.1
    rw[if_neg c] at hf;by_cases c:op=35
    ·subst c;injection hr with hr;injection hr with e1 hr;rw[if_pos rfl] at hf;exact a (λe=>by cases e) (λe=>by cases e) ⟨ω,ω⟩ (λe=>by injection hr with e2;rw[<-e2] at e;cases e) (ue hE hs _ hf)
    rw[if_neg c] at hf;by_cases c:op=36
    ·subst c;rw[if_pos rfl] at hf;have:=wW hE hs _ _ _ hf;exact a (λe=>by cases e) (λe=>by cases e) ⟨ω,ω⟩ (λ_=>iok6 this.2) this.1
    rw[if_neg c] at hf
    cases hf
  cases h
mutual
def St.ok (p:Pg):St->Prop
 | .mk op n m _ _ xs h e a=>nOk op/\iOk n/\iOk m/\Ex.oks p xs/\St.oks p h/\St.oks p e/\St.oks p a
def St.oks (p:Pg):List St->Prop
 | []=>True
 | x::xs=>St.ok p x/\St.oks p xs
end
def St.oks_iff (p:Pg) (l:List St):St.oks p l↔∀x∈l,x.ok p:=by
 induction l with
 | nil=>simp[St.oks]
 | cons x l ih=>simp[St.oks,ih]
def bg {p:Pg} {l:List St} (h:l.length=0):St.oks p l:=by rw[List.eq_nil_of_length_eq_zero h,St.oks];trivial
variable {xs:List Ex}
def lj {op n m:Int} {s u:ByteArray} {h e a:List St} (hs:aJ (.mk op n m s u xs h e a)=true):∃fn fm fs ft fh fe fa,∃least most:Int,jF op=some (fn,fm,fs,ft,fh,fe,fa,least,most)/\(op=11->xs.length=0)/\(op=5->xs.length=0)/\(0<most->(xs.length:Int)<=most)/\(fn=false->n=0)/\(fm=false->m=0)/\(fh=false->h.length=0)/\(fe=false->e.length=0)/\(fa=false->a.length=0):=by
 rw[aJ] at hs;split at hs
 ·cases hs
 rename_i fn fm fs ft fh fe fa least most d;refine⟨fn,fm,fs,ft,fh,fe,fa,least,most,d,?_⟩;unfold aK at hs;simp only[τ,Bool.not_eq_true',Bool.and_eq_false_iff,Bool.or_eq_false_iff,Bool.or_eq_true,decide_eq_false_iff_not,decide_eq_true_eq,beq_iff_eq] at hs;obtain⟨⟨⟨x,v⟩,_,t⟩,l,k,_,_,j,i,g⟩:=hs;refine⟨λe=>by rcases x with q|q<;>omega,λe=>by rcases v with q|q<;>omega,λe=>by rcases t with q|q<;>omega,λq=>?_,λq=>?_,λq=>?_,λq=>?_,λq=>?_⟩
 ·rcases l with r|r
  ·rw[q] at r;cases r
  exact r
 ·rcases k with r|r
  ·rw[q] at r;cases r
  exact r
 ·rcases j with r|r
  ·rw[q] at r;cases r
  exact r
 ·rcases i with r|r
  ·rw[q] at r;cases r
  exact r
 rcases g with r|r
 ·rw[q] at r;cases r
 exact r
def iok0:iOk 0:=iok ω ω
variable {r:Int×Sc}
def eS {b:Bool} (h:okSc b sc=some r):b=true/\r.2=sc:=by
 cases b with
 | false=>cases h
 | true=>injection h with h;exact⟨rfl,by rw[<-h]⟩
def kH {n:Int} (h:((sc.bind i t).map λs1=>(n,s1))=some r):sc.bind i t=some r.2:=by
 cases hb:sc.bind i t with
 | none=>rw[hb] at h;cases h
 | some s1=>rw[hb] at h;injection h with h;rw[<-h]
def nH {p:Pg} (h:(xs.length:Int)<=1) (h1:∀x l,xs=x::l->x.ok p):Ex.oks p xs:=by
 match xs,h,h1 with
 | [],_,_=>rw[Ex.oks];trivial
 | [x],_,h1=>simp only[Ex.oks,and_true];exact h1 x [] rfl
 | _::_::_,h,_=>simp at h;omega
def drop1_ok {p:Pg} (h:Ex.oks p (xs.drop 1)) (h1:∀x l,xs=x::l->x.ok p):Ex.oks p xs:=by
 cases xs with
 | nil=>rw[Ex.oks];trivial
 | cons x l=>rw[Ex.oks];exact⟨h1 x l rfl,h⟩
def jv {f:Ex->Bool} (h:kU xs f=true):∃x l,xs=x::l/\f x=true:=by
 cases xs with
 | nil=>cases h
 | cons x l=>exact⟨x,l,rfl,h⟩
section
variable {p:Pg} {E:EF} {B:Sc->List St->Bool} {sc:Sc} (hE:∀sc e w t,ScI sc->E sc e w=some t->e.ok p) (hs:ScI sc)
include hE hs
theorem uP {msg:ByteArray} (xs:List Ex) (h:jG p E sc msg xs=true):Ex.oks p xs:=by
 unfold jG at h;split at h
 ·cases h
 split at h
 ·cases h
 rename_i u a;split at h
 ·split at h
  ·cases h
  rw[Ex.oks];exact⟨hE _ _ _ _ hs a,fx hE hs _ _ h⟩
 cases h
theorem spawn_ok {m:Int} {s:ByteArray} (xs:List Ex) (h:bL p E sc m s xs=true):Ex.oks p xs/\(m=0\/m=1):=by
 unfold bL at h;split at h
 ·cases h
 split at h
 ·cases h
 split at h
 ·exact⟨fx hE hs _ _ h,.inl ι⟩
 split at h
 ·split at h
  ·cases h
  simp only[τ] at h;rw[Ex.oks];exact⟨⟨fM hE hs h.1,fx hE hs _ _ h.2⟩,.inr ι⟩
 cases h
theorem do_ok {s t:ByteArray} (xs:List Ex) (h:doP p E sc s t xs=true):Ex.oks p xs:=by
 unfold doP at h;split at h
 ·cases h
 split at h
 ·cases h
 simp only[τ] at h;exact fx hE hs _ _ h.1
variable (hB:∀sc l,ScI sc->B sc l=true->St.oks p l) (hL:Lim p)
include hB hL
theorem cases_ok (xs:List Ex) (arms:List St) (h:fO p E B sc xs arms=true):(∀x l,xs=x::l->x.ok p)/\St.oks p arms:=by
 unfold fO at h;split at h
 ·cases h
 split at h
 ·cases h
 rename_i u N;simp only[τ] at h;obtain⟨q,h⟩:=h;refine⟨λx l e=>by injection e with e1 e2;rw[<-e1];exact hE _ _ _ _ hs N,?_⟩;obtain⟨r,d⟩:=Option.isSome_iff_exists.1 h;unfold bX at d;split at d
 ·cases d
 rename_i cs A;split at d
 ·cases d
 rw[St.oks_iff];intro a F;obtain⟨j,z,rfl⟩:=List.mem_iff_getElem.1 F;obtain⟨I,H,G,V,W,U,y,i⟩:=kY hs _ _ _ _ _ d j (by simpa using z);simp only[List.getElem_map] at I H G;have g:=List.all_eq_true.1 q _ F;unfold dr at i;rw[Nat.zero_add,ξ z] at i;simp only at i;have Y:=qO hL A;have X:=hs.slots
 have O:-1<=arms[j].n/\arms[j].n<=1000000:=by
  rcases I with e|e
  ·omega
  have:=dA e;omega
 generalize arms[j]=a at *
 cases a with
 | mk o n m s t xs th el ar =>
  unfold fP at g;simp only[τ] at g;obtain⟨ho,v⟩:=g;have ho:o=5:=of_decide_eq_true ho;subst ho;obtain⟨fn,fm,fs,Z,fh,fe,fa,J,M,k,-,L,-,-,-,-,R,T⟩:=lj v;injection k with k;simp only[Prod.mk.injEq] at k;obtain⟨-,-,-,-,-,rfl,rfl,-,-⟩:=k;simp only[St.n,St.m] at O H G;rw[St.ok];refine⟨⟨ω,ω⟩,iok ω ω,iok ω ω,ra (L rfl),?_,bg (R rfl),bg (T rfl)⟩;split at i
  ·rename_i D;exact hB _ _ y D
  cases i
theorem loop_ok {n:Int} (xs:List Ex) (thn:List St) (h:jH E B sc n xs thn=true):(∀x l,xs=x::l->x.ok p)/\St.oks p thn/\0<=n/\n<=1000000:=by
 unfold jH at h;split at h
 ·cases h
 split at h
 ·cases h
 rename_i u d;split at h
 ·unfold oG at h;split at h
  ·cases h
  split at h
  ·cases h
  rename_i i g;have a:=hs.bind g;exact⟨λx l e=>by injection e with e1 e2;rw[<-e1];exact hE _ _ _ _ hs d,hB _ _ a.1 h,a.2⟩
 cases h
theorem stmt_ok {st:St} (hsh:aJ st=true) (h:cG p E B sc st=some r):st.ok p/\ScI r.2:=by
 cases st with
 | mk op n m s t xs th el ar =>
  obtain⟨fn,X,W,V,fh,Y,fa,N,O,d,L,-,hx,H,A,D,q,v⟩:=lj hsh;rw[cG] at h;have Z:∀{op:Int},0<=op->op<=12->nOk op:=λa b=>⟨a,ω⟩
  have F:m=0->iOk m:=λe=>by rw[e];exact iok0
  have I:n=0->iOk n:=λe=>by rw[e];exact iok0
  by_cases c:op=1
  ·subst c;injection d with d;simp only[Prod.mk.injEq] at d;obtain⟨rfl,rfl,rfl,rfl,rfl,rfl,rfl,rfl,rfl⟩:=d;rw[if_pos rfl] at h;unfold letP at h;split at h
   ·cases h
   rename_i x l;split at h
   ·cases h
   rename_i u R;have i:=hs.bind (kH h);rw[St.ok];exact⟨⟨Z ω ω,iok6 i.2,F (A rfl),nH (hx ω) (λy k e=>by injection e with e1 e2;rw[<-e1];exact hE _ _ _ _ hs R),bg (D rfl),bg (q rfl),bg (v rfl)⟩,i.1⟩
  rw[if_neg c] at h;by_cases c:op=2
  ·subst c;injection d with d;simp only[Prod.mk.injEq] at d;obtain⟨rfl,rfl,rfl,rfl,rfl,rfl,rfl,rfl,rfl⟩:=d;rw[if_pos rfl] at h;obtain⟨g,j⟩:=eS h;unfold nA at g;simp only[τ] at g;have U:=dA g.1;have hv:=hs.vars;have i:=g.2;rw[j,St.ok];refine⟨⟨Z ω ω,iok ω ω,F (A rfl),nH (hx ω) (λy k e=>?_),bg (D rfl),bg (q rfl),bg (v rfl)⟩,hs⟩;split at i
   ·cases i
   obtain⟨x,l,z,G⟩:=jv i;rw[e] at z;injection z with e4 e5;rw[e4];exact fM hE hs G
  rw[if_neg c] at h;by_cases c:op=3
  ·subst c;injection d with d;simp only[Prod.mk.injEq] at d;obtain⟨rfl,rfl,rfl,rfl,rfl,rfl,rfl,rfl,rfl⟩:=d;rw[if_pos rfl] at h;obtain⟨g,j⟩:=eS h;simp only[τ] at g;obtain⟨x,l,z,G⟩:=jv g.1;rw[j,St.ok];exact⟨⟨Z ω ω,I (H rfl),F (A rfl),nH (hx ω) (λy k e=>by rw[e] at z;injection z with e4 e5;rw[e4];exact fM hE hs G),hB _ _ hs g.2.1,hB _ _ hs g.2.2,bg (v rfl)⟩,hs⟩
  rw[if_neg c] at h;by_cases c:op=4
  ·subst c;injection d with d;simp only[Prod.mk.injEq] at d;obtain⟨rfl,rfl,rfl,rfl,rfl,rfl,rfl,rfl,rfl⟩:=d;rw[if_pos rfl] at h;obtain⟨g,j⟩:=eS h;have i:=cases_ok hE hs hB hL _ _ g;rw[j,St.ok];exact⟨⟨Z ω ω,I (H rfl),F (A rfl),nH (hx ω) i.1,bg (D rfl),bg (q rfl),i.2⟩,hs⟩
  rw[if_neg c] at h;by_cases c:op=6
  ·subst c;injection d with d;simp only[Prod.mk.injEq] at d;obtain⟨rfl,rfl,rfl,rfl,rfl,rfl,rfl,rfl,rfl⟩:=d;rw[if_pos rfl] at h;obtain⟨g,j⟩:=eS h;have i:=loop_ok hE hs hB hL _ _ g;rw[j,St.ok];exact⟨⟨Z ω ω,iok6 i.2.2,F (A rfl),nH (hx ω) i.1,i.2.1,bg (q rfl),bg (v rfl)⟩,hs⟩
  rw[if_neg c] at h;by_cases c:op=7
  ·subst c;injection d with d;simp only[Prod.mk.injEq] at d;obtain⟨rfl,rfl,rfl,rfl,rfl,rfl,rfl,rfl,rfl⟩:=d;rw[if_pos rfl] at h;obtain⟨g,j⟩:=eS h;rw[j,St.ok];exact⟨⟨Z ω ω,I (H rfl),F (A rfl),uP hE hs _ g,bg (D rfl),bg (q rfl),bg (v rfl)⟩,hs⟩
  rw[if_neg c] at h;by_cases c:op=8
  ·subst c;injection d with d;simp only[Prod.mk.injEq] at d;obtain⟨rfl,rfl,rfl,rfl,rfl,rfl,rfl,rfl,rfl⟩:=d;rw[if_pos rfl] at h;obtain⟨g,j⟩:=eS h;simp only[τ] at g;obtain⟨x,l,z,G⟩:=jv g.1;rw[j,St.ok];exact⟨⟨Z ω ω,I (H rfl),F (A rfl),drop1_ok (uP hE hs _ g.2) (λy k e=>by rw[e] at z;injection z with e4 e5;rw[e4];exact fM hE hs G),bg (D rfl),bg (q rfl),bg (v rfl)⟩,hs⟩
  rw[if_neg c] at h;by_cases c:op=9
  ·subst c;injection d with d;simp only[Prod.mk.injEq] at d;obtain⟨rfl,rfl,rfl,rfl,rfl,rfl,rfl,rfl,rfl⟩:=d;rw[if_pos rfl] at h;unfold cJ at h;split at h
   ·rename_i g;obtain⟨i,G⟩:=spawn_ok hE hs _ g;have J:iOk m:=iok ω ω;split at h
    ·rename_i T;injection h with h;rw[<-h,St.ok];exact⟨⟨Z ω ω,iok ω ω,J,i,bg (D rfl),bg (q rfl),bg (v rfl)⟩,hs⟩
    have M:=hs.bind (kH h);rw[St.ok];exact⟨⟨Z ω ω,iok6 M.2,J,i,bg (D rfl),bg (q rfl),bg (v rfl)⟩,M.1⟩
   cases h
  rw[if_neg c] at h;by_cases c:op=10
  ·subst c;injection d with d;simp only[Prod.mk.injEq] at d;obtain⟨rfl,rfl,rfl,rfl,rfl,rfl,rfl,rfl,rfl⟩:=d;rw[if_pos rfl] at h;obtain⟨g,j⟩:=eS h;rw[j,St.ok];exact⟨⟨Z ω ω,I (H rfl),F (A rfl),do_ok hE hs _ g,bg (D rfl),bg (q rfl),bg (v rfl)⟩,hs⟩
  rw[if_neg c] at h;by_cases c:op=11
  ·subst c;injection d with d;simp only[Prod.mk.injEq] at d;obtain⟨rfl,rfl,rfl,rfl,rfl,rfl,rfl,rfl,rfl⟩:=d;rw[if_pos rfl] at h;injection h with h;rw[<-h,St.ok];exact⟨⟨Z ω ω,I (H rfl),F (A rfl),ra (L rfl),bg (D rfl),bg (q rfl),bg (v rfl)⟩,hs⟩
  rw[if_neg c] at h;by_cases c:op=12
  ·subst c;injection d with d;simp only[Prod.mk.injEq] at d;obtain⟨rfl,rfl,rfl,rfl,rfl,rfl,rfl,rfl,rfl⟩:=d;rw[if_pos rfl] at h;obtain⟨g,j⟩:=eS h;obtain⟨x,l,z,G⟩:=jv g;rw[j,St.ok];exact⟨⟨Z ω ω,I (H rfl),F (A rfl),nH (hx ω) (λy k e=>by rw[e] at z;injection z with e4 e5;rw[e4];exact fM hE hs G),bg (D rfl),bg (q rfl),bg (v rfl)⟩,hs⟩
  rw[if_neg c] at h
  cases h
end
theorem og {p:Pg} {S:Sc->St->Option (Int×Sc)} (h1:∀sc st r,ScI sc->aJ st=true->S sc st=some r->st.ok p/\ScI r.2):∀(l:List St) (sc:Sc),ScI sc->dt S sc l=true->St.oks p l
 | [],sc,_,_=>by rw[St.oks];trivial
 | st::rest,sc,hs,h=>by
  rw[dt] at h
  simp only[τ] at h
  obtain⟨hsh,h⟩:=h
  split at h
  ·cases h
  rename_i i s1 hr
  have h2:=h1 _ _ _ hs hsh hr
  rw[St.oks];exact⟨h2.1,og h1 rest s1 h2.2 h⟩
theorem sI {p:Pg} (hL:Lim p) (N:Nat):∀(n:Nat) (sc:Sc) (l:List St),ScI sc->aF p N n sc l=true->St.oks p l
 | 0,sc,l,_,h=>by rw[aF] at h;cases l with
  | nil=>rw[St.oks];trivial
  | cons x l=>cases h
 | n+1,sc,l,hs,h=>by
  rw[aF] at h
  exact og (λs1 st r h1 h2 h3=>stmt_ok (oO hL N) h1 (sI hL N n) hL h2 h3) l sc hs h
variable {l:List Fld}
def rg {s a:Int} (h:gg s l=true):ScI (dC s a l):=by
 have g:=iW h;refine⟨by show s<=1000000;omega,λi t hi=>?_,by simp[dC]⟩;have d:(if i<0 then none else (l[i.toNat]?).map (·.type))=some t:=hi;split at d
 ·cases d
 cases hg:l[i.toNat]? with
 | none=>rw[hg] at d;cases d
 | some f=>have:=(List.getElem?_eq_some_iff.1 hg).1;omega
structure Pg.ok (p:Pg):Prop where
 funs:∀f∈p.funs,f.body.ok p
 vars:∀a∈p.actors,∀v∈a.vars,v.init.ok p
 on:∀a∈p.actors,∀h∈a.on,St.oks p h.body
def vc {p:Pg} (h:cH p=true):(∀f∈p.funs,gg f.slots f.params.length=true)/\∀a∈p.actors,gg a.slots a.params.length=true/\∀h∈a.on,gg h.slots h.params.length=true:=by
 obtain⟨_,i,g⟩:=dV h;refine⟨λf hf=>?_,λa ha=>?_⟩
 ·have:=g f hf;unfold funP at this;simp only[τ] at this;exact this.2.2
 have:=(i a ha).2;unfold acP at this;simp only[τ] at this;refine⟨this.1.2,λh hh=>?_⟩;have d:=(cI _ _ this.2.2.1 h hh).2;unfold hdOk at d;simp only[τ] at d;exact d.2
theorem mW {p:Pg} {M:Nat}:∀(l:List Ac) (i:Nat),fQ p M i l=true->∀a∈l,∃k:Nat,acB p M k a=true
 | [],_,_,a,h=>by cases h
 | b::l,i,h,a,ha=>by
  rw[fQ] at h;simp only[τ] at h
  rcases List.mem_cons.1 ha with rfl|ha
  ·exact⟨i,h.1⟩
  exact mW l (i+1) h.2 a ha
variable {M:Nat}
def sO {p:Pg} (hL:Lim p) (h:aW p M=true):p.ok:=by
 unfold aW dy at h;simp only[τ] at h;obtain⟨r,_,u,j⟩:=h;obtain⟨q,i⟩:=vc r;refine⟨λf hm=>?_,λa hm v hv=>?_,λa hm v hv=>?_⟩
 ·have:=List.all_eq_true.1 u f hm;unfold funB isE at this;obtain⟨t,g⟩:=Option.isSome_iff_exists.1 this;exact oO hL M _ _ _ _ (rg (q f hm)) g
 ·obtain⟨k,d⟩:=mW _ _ j a hm;unfold acB at d;simp only[τ] at d;have:=List.all_eq_true.1 d.1 v hv;unfold varB isE at this;obtain⟨t,g⟩:=Option.isSome_iff_exists.1 this;exact oO hL M _ _ _ _ (rg (i a hm).1) g
 obtain⟨k,d⟩:=mW _ _ j a hm;unfold acB at d;simp only[τ] at d;have:=List.all_eq_true.1 d.2 v hv;unfold hdB at this;have l:=rg (a:=(k:Int)) ((i a hm).2 v hv);exact sI hL M M (hdSc k a v) _ ⟨l.slots,l.bound,hL.vars a hm⟩ this
mutual
theorem ro {p:Pg}:∀e:Ex,e.ok p->e.refs (okN p) (okS p)
 | .mk op n m s a,h=>by rw[Ex.ok] at h;rw[Ex.refs];exact⟨h.1,h.2.1,pq a h.2.2.2.2.2⟩
theorem pq {p:Pg}:∀l:List Ex,Ex.oks p l->Ex.refss (okN p) (okS p) l
 | [],_=>by rw[Ex.refss];trivial
 | x::xs,h=>by rw[Ex.oks] at h;rw[Ex.refss];exact⟨ro x h.1,pq xs h.2⟩
end
mutual
theorem st_refs {p:Pg}:∀e:St,e.ok p->e.refs (okN p) (okS p)
 | .mk op n m s t xs h e a,k=>by rw[St.ok] at k;rw[St.refs];exact⟨pq xs k.2.2.2.1,jQ h k.2.2.2.2.1,jQ e k.2.2.2.2.2.1,jQ a k.2.2.2.2.2.2⟩
theorem jQ {p:Pg}:∀l:List St,St.oks p l->St.refss (okN p) (okS p) l
 | [],_=>by rw[St.refss];trivial
 | x::xs,h=>by rw[St.oks] at h;rw[St.refss];exact⟨st_refs x h.1,jQ xs h.2⟩
end
mutual
theorem ex_rd {p:Pg}:∀(e:Ex) (d:Int),e.ok p->d+e.deep<=65536->e.rd d
 | .mk op n m s a,d,h,hd=>by rw[Ex.ok] at h;rw[Ex.deep] at hd;rw[Ex.rd];exact⟨h.2.2.1,h.2.2.2.1,h.2.2.2.2.1,ω,uw a (d+1) h.2.2.2.2.2 ω⟩
theorem uw {p:Pg}:∀(l:List Ex) (d:Int),Ex.oks p l->d+Ex.deeps l<=65536->Ex.rds d l
 | [],d,_,_=>by rw[Ex.rds];trivial
 | x::xs,d,h,hd=>by rw[Ex.oks] at h;rw[Ex.deeps] at hd;rw[Ex.rds];exact⟨ex_rd x d h.1 ω,uw xs d h.2 ω⟩
end
mutual
theorem st_rd {p:Pg}:∀(e:St) (d:Int),e.ok p->d+e.deep<=65536->e.rd d
 | .mk op n m s t xs h e a,d,k,hd=>by
  rw[St.ok] at k;rw[St.deep] at hd;rw[St.rd]
  exact⟨k.1,k.2.1,k.2.2.1,ω,uw xs (d+1) k.2.2.2.1 ω,pC h (d+1) k.2.2.2.2.1 ω,pC e (d+1) k.2.2.2.2.2.1 ω,pC a (d+1) k.2.2.2.2.2.2 ω⟩
theorem pC {p:Pg}:∀(l:List St) (d:Int),St.oks p l->d+St.deeps l<=65536->St.rds d l
 | [],d,_,_=>by rw[St.rds];trivial
 | x::xs,d,h,hd=>by rw[St.oks] at h;rw[St.deeps] at hd;rw[St.rds];exact⟨st_rd x d h.1 ω,pC xs d h.2 ω⟩
end
mutual
theorem uJ {p:Pg}:∀t:Ty,cd p t=true->t.refs (okS p)
 | .mk k s a,h=>by
  rw[cd] at h;simp only[τ] at h
  rw[Ty.refs]
  refine⟨λe=>?_,sB a h.2⟩
  have h1:=h.1
  rw[if_pos e] at h1
  obtain⟨i,hi⟩:=Option.isSome_iff_exists.1 h1
  exact List.mem_of_getElem? (cg _ _ _ _ hi).2
theorem sB {p:Pg}:∀l:List Ty,kJ p l=true->Ty.refss (okS p) l
 | [],_=>by rw[Ty.refss];trivial
 | x::xs,h=>by rw[kJ] at h;simp only[τ] at h;rw[Ty.refss];exact⟨uJ x h.1,sB xs h.2⟩
end
mutual
def Ty.deep:Ty->Nat
 | .mk _ _ a=>1+Ty.deeps a
def Ty.deeps:List Ty->Nat
 | []=>0
 | x::xs=>Ty.deep x+Ty.deeps xs
end
mutual
theorem ty_rd:∀(t:Ty) (d:Int),ag t=true->d+t.deep<=65536->t.rd d
 | .mk k s a,d,h,hd=>by
  rw[Ty.deep] at hd;rw[Ty.rd];rw[ag] at h
  split at h
  ·simp only[τ,decide_eq_true_eq] at h
   exact⟨⟨ω,ω⟩,ω,by rw[List.eq_nil_of_length_eq_zero h.2,Ty.rds];trivial⟩
  split at h
  ·simp only[τ,decide_eq_true_eq] at h
   exact⟨⟨ω,ω⟩,ω,by rw[List.eq_nil_of_length_eq_zero h.2,Ty.rds];trivial⟩
  split at h
  ·simp only[τ] at h
   exact⟨⟨ω,ω⟩,ω,uu a (d+1) h.2 ω⟩
  split at h
  ·simp only[τ] at h
   exact⟨⟨ω,ω⟩,ω,uu a (d+1) h.2 ω⟩
  cases h
theorem uu:∀(l:List Ty) (d:Int),eh l=true->d+Ty.deeps l<=65536->Ty.rds d l
 | [],d,_,_=>by rw[Ty.rds];trivial
 | x::xs,d,h,hd=>by rw[eh] at h;simp only[τ] at h;rw[Ty.deeps] at hd;rw[Ty.rds];exact⟨ty_rd x d h.1 ω,uu xs d h.2 ω⟩
end
structure Pg.tok (p:Pg):Prop where
 types:∀d∈p.types,∀c∈d.ctors,∀f∈c.fields,cZ p f.type=true
 effs:∀e∈p.effects,(∀f∈e.params,cZ p f.type=true)/\cZ p e.answer=true
 funs:∀f∈p.funs,(∀q∈f.params,cZ p q.type=true)/\cZ p f.result=true
 acts:∀a∈p.actors,(∀q∈a.params,cZ p q.type=true)/\(∀v∈a.vars,cZ p v.type=true)/\∀h∈a.on,∀q∈h.params,cZ p q.type=true
def eJ {p:Pg} (h:ci p t=true):cZ p t=true:=by unfold ci at h;simp only[τ] at h;exact h.1
def iq {p:Pg} (h:de p l=true):∀q∈l,cZ p q.type=true:=λq hq=>eJ (cI l [] h q hq).2
def zb {p:Pg} (h:cH p=true):p.tok:=by
 obtain⟨t,x,u⟩:=dV h;refine⟨λd hd k hk f hf=>?_,λe he=>?_,λf hf=>?_,λa ha=>?_⟩
 ·obtain⟨_,r,l⟩:=t _ hd;unfold fN at l;simp only[τ] at l;have i:=(cI _ _ l.2 k hk).2;unfold xH at i;split at i
  ·exact iq i f hf
  have:=List.all_eq_true.1 i f hf;unfold nD at this;simp only[τ] at this;first|exact eJ this|exact eJ this.2|exact eJ this.1
 ·have j:uniq Eff.nm aX (iu p) [] p.effects=true:=by
   unfold cH at h;split at h
   ·cases h
   simp only[τ] at h;exact h.2.1
  have i:=(cI _ _ j e he).2;unfold iu at i;simp only[τ] at i;exact⟨iq i.1,eJ i.2⟩
 ·have j:=u f hf;unfold funP at j;simp only[τ] at j;exact⟨λq hq=>(cI _ _ j.1 q hq).2,j.2.1⟩
 have j:=(x a ha).2;unfold acP at j;simp only[τ] at j;refine⟨iq j.1.1,λv hv=>eJ (cI _ _ j.2.1 v hv).2,λg hg q hq=>?_⟩;have i:=(cI _ _ j.2.2.1 g hg).2;unfold hdOk at i;simp only[τ] at i;exact iq i.1 q hq
def hJ {p:Pg} (h:cZ p t=true):t.refs (okS p):=by unfold cZ at h;simp only[τ] at h;exact uJ t h.2
def ru (p:Pg):NmInv dgN (DgOk p) (okN p) (okS p):=by
 refine⟨λst n h hn=>?_,λst s h hs=>?_⟩
 ·show DgOk p (match posI st.funs n with|some i=>(((i:Nat):Int),st)|none=>(((st.funs.length:Nat):Int),(⟨st.funs++[n],st.names⟩:Dg))).2
  cases hp:posI st.funs n with
  | some i=>exact h
  | none =>
   refine⟨?_,λm hm=>?_,h.nn,h.rn⟩
   ·have d:n∉st.funs:=λhm=>by
     have:∀(l:List Int),n∈l->posI l n≠none:=by
      intro l;induction l with
      | nil=>intro h;cases h
      | cons x l ih =>
       intro h;rw[posI];split
       ·intro e;cases e
       rename_i hx;rcases List.mem_cons.1 h with e|e
       ·exact absurd e.symm hx
       intro g;exact ih e (by simpa using g)
     exact this _ hm hp
    exact List.nodup_append.2 ⟨h.nf,by simp,λa ha b hb=>by simp at hb;subst hb;intro e;subst e;exact d ha⟩
   rcases List.mem_append.1 hm with h1|h1
   ·exact h.rf m h1
   simp at h1;subst h1;exact hn
 show DgOk p (if s.data.toList∈st.names then st else ⟨st.funs,st.names++[s.data.toList]⟩);split
 ·exact h
 rename_i d;refine⟨h.nf,h.rf,List.nodup_append.2 ⟨h.nn,by simp,λa ha b hb=>by simp at hb;subst hb;intro e;subst e;exact d ha⟩,λx hx=>?_⟩;rcases List.mem_append.1 hx with h1|h1
 ·exact h.rn x h1
 simp at h1;subst h1;exact hs
def zf {p:Pg} (hL:Lim p) (h:aW p M=true):DigOk p:=by
 have ho:=sO hL h;have d:p.tok:=zb (by unfold aW at h;simp only[τ] at h;exact h.1)
 refine⟨λa ha st hs=>wAc_inv (ru p) a st ⟨λq hq=>hJ ((d.acts a ha).1 q hq),λv hv=>⟨hJ ((d.acts a ha).2.1 v hv),ro _ (ho.vars a ha v hv)⟩,λg hg=>⟨λq hq=>hJ ((d.acts a ha).2.2 g hg q hq),jQ _ (ho.on a ha g hg)⟩⟩ hs,
  λf hf st hs=>uD (ru p) f st ⟨λq hq=>hJ ((d.funs f hf).1 q hq),hJ (d.funs f hf).2,ro _ (ho.funs f hf)⟩ hs,
  λf hf st hs=>sx (ru p) f st (λc hc q hq=>hJ (d.types f hf c hc q hq)) hs⟩
structure Pg.TDeep (p:Pg) (D:Nat):Prop where
 types:∀d∈p.types,∀c∈d.ctors,∀f∈c.fields,f.type.deep<=D
 effs:∀e∈p.effects,(∀f∈e.params,f.type.deep<=D)/\e.answer.deep<=D
 funs:∀f∈p.funs,(∀q∈f.params,q.type.deep<=D)/\f.result.deep<=D
 acts:∀a∈p.actors,(∀q∈a.params,q.type.deep<=D)/\(∀v∈a.vars,v.type.deep<=D)/\∀h∈a.on,∀q∈h.params,q.type.deep<=D
def iI {p:Pg} (h:cZ p t=true) (hd:t.deep<=65530):t.rd 0:=by unfold cZ at h;simp only[τ] at h;exact ty_rd t 0 h.1 ω
def pn {s:Int} {n:Nat} (h:gg s n=true):nOk s:=by have:=iW h;exact⟨ω,ω⟩
def rd_ok {p:Pg} (hL:Lim p) (h:aW p M=true) {D:Nat} (hd:p.Deep D) (ht:p.TDeep D) (hD:D<=65530):p.rd:=by
 have ho:=sO hL h;have l:cH p=true:=by unfold aW at h;simp only[τ] at h;exact h.1
 have i:p.tok:=zb l;obtain⟨u,t⟩:=vc l
 refine⟨λd hm c hcm f hfm=>iI (i.types d hm c hcm f hfm) (by have:=ht.types d hm c hcm f hfm;omega),λe he=>⟨λf hfm=>iI ((i.effs e he).1 f hfm) (by have:=(ht.effs e he).1 f hfm;omega),iI (i.effs e he).2 (by have:=(ht.effs e he).2;omega)⟩,
  λf hm=>⟨λq hq=>iI ((i.funs f hm).1 q hq) (by have:=(ht.funs f hm).1 q hq;omega),iI (i.funs f hm).2 (by have:=(ht.funs f hm).2;omega),pn (u f hm),ex_rd _ 0 (ho.funs f hm) (by have:=hd.funs f hm;omega)⟩,λa ha=>?_⟩
 have r:=((dV l).2.1 a ha).2;unfold acP at r;simp only[τ] at r;have j:=r.2.2.2
 have k:nOk a.policy/\nOk a.most:=by
  unfold cQ at j;split at j
  ·have:a.most=0:=by simpa using j
   exact⟨⟨ω,ω⟩,⟨ω,ω⟩⟩
  split at j
  ·simp only[τ,decide_eq_true_eq] at j;exact⟨⟨ω,ω⟩,⟨ω,ω⟩⟩
  cases j
 exact⟨λq hq=>iI ((i.acts a ha).1 q hq) (by have:=(ht.acts a ha).1 q hq;omega),pn (t a ha).1,λv hv=>⟨iI ((i.acts a ha).2.1 v hv) (by have:=(ht.acts a ha).2.1 v hv;omega),ex_rd _ 0 (ho.vars a ha v hv) (by have:=hd.vars a ha v hv;omega)⟩,
  λg hg=>⟨λq hq=>iI ((i.acts a ha).2.2 g hg q hq) (by have:=(ht.acts a ha).2.2 g hg q hq;omega),pn ((t a ha).2 g hg),ω,pC _ (0+1) (ho.on a ha g hg) (by have:=hd.on a ha g hg;omega)⟩,k.1,k.2⟩
mutual
theorem iP:∀(t:Ty) (d:Int),szTy d t<1000000->t.deep<=szTy d t
 | .mk k s a,d,h=>by
  rw[szTy] at h ⊢
  rw[Ty.deep]
  split at h
  ·omega
  rename_i hd;rw[if_neg hd];have:=oa a (d-1) ω;omega
theorem oa:∀(l:List Ty) (d:Int),iK d l<1000000->Ty.deeps l<=iK d l
 | [],d,_=>by rw[Ty.deeps];exact Nat.zero_le _
 | x::xs,d,h=>by
  rw[iK] at h ⊢
  rw[Ty.deeps]
  have:=iP x d ω
  have:=oa xs d ω
  omega
end
mutual
theorem mJ:∀(t:Ex) (d:Int),szEx d t<1000000->t.deep<=szEx d t
 | .mk o n m s a,d,h=>by
  rw[szEx] at h ⊢
  rw[Ex.deep]
  split at h
  ·omega
  rename_i hd;rw[if_neg hd];have:=kP a (d-1) ω;omega
theorem kP:∀(l:List Ex) (d:Int),fc d l<1000000->Ex.deeps l<=fc d l
 | [],d,_=>by rw[Ex.deeps];exact Nat.zero_le _
 | x::xs,d,h=>by
  rw[fc] at h ⊢
  rw[Ex.deeps]
  have:=mJ x d ω
  have:=kP xs d ω
  omega
end
mutual
theorem vJ:∀(t:St) (d:Int),szSt d t<1000000->t.deep<=szSt d t
 | .mk o n m s u xs h e a,d,hs=>by
  rw[szSt] at hs ⊢
  rw[St.deep]
  by_cases hd:d-1<0
  ·rw[if_pos hd] at hs;omega
  simp only[if_neg hd] at hs ⊢
  have:=kP xs d ω
  have:=hY h (d-1) ω
  have:=hY e (d-1) ω
  have:=hY a (d-1) ω
  omega
theorem hY:∀(l:List St) (d:Int),eZ d l<1000000->St.deeps l<=eZ d l
 | [],d,_=>by rw[St.deeps];exact Nat.zero_le _
 | x::xs,d,h=>by
  rw[eZ] at h ⊢
  rw[St.deeps]
  have:=vJ x d ω
  have:=hY xs d ω
  omega
end
def tu {l:List St} {d:Int} (h:ek d l<1000000):St.deeps l<=ek d l:=by
 unfold ek at h ⊢;split at h
 ·omega
 rename_i a;rw[if_neg a];exact hY l d h
theorem co {α:Type} {f:α->Nat}:∀{l:List α} {x:α},x∈l->f x<=sumN f l
 | y::l,x,h=>by
  rw[sumN]
  rcases List.mem_cons.1 h with rfl|h
  ·omega
  have:=co (f:=f) h;omega
theorem fp {α:Type} {f:α->Nat} (hf:∀x,1<=f x):∀l:List α,l.length<=sumN f l
 | []=>Nat.zero_le _
 | x::l=>by rw[sumN,δ];have:=fp hf l;have:=hf x;omega
theorem sE:∀{l:List Fld} {f:Fld},f∈l->szTy 20 f.type<=szFs l
 | g::l,f,h=>by
  rw[szFs]
  rcases List.mem_cons.1 h with rfl|h
  ·omega
  have:=sE h;omega
def iV (h:bY l<1000000):∀f∈l,f.type.deep<=bY l:=λf hf=>by
 unfold bY at h ⊢
 have h1:=sE hf
 have:=iP f.type 20 ω
 omega
def lO (c:Ctr):jo c=1+c.name.size+bY c.fields:=rfl
def i7 (c:Dcl):hZ c=1+c.name.size+sumN jo c.ctors:=rfl
def sH (c:Eff):jZ c=1+c.name.size+bY c.params+szTy 20 c.answer:=rfl
def qR (c:Fn):szFn c=1+c.name.size+bY c.params+szTy 20 c.result+szEx 50 c.body+jE c.slots:=rfl
def qP (c:Vr):szVr c=1+c.name.size+szTy 20 c.type+szEx 50 c.init:=rfl
def qQ (c:Hd):szHd c=1+c.msg.size+bY c.params+ek 50 c.body+jE c.slots:=rfl
def mx (c:Ac):szAc c=1+c.name.size+bY c.params+jE c.slots+sumN szVr c.vars+sumN szHd c.on:=rfl
def pS (c:Ctr):1<=jo c:=by unfold jo;omega
def vL (c:Dcl):1<=hZ c:=by unfold hZ;omega
def vK (c:Eff):1<=jZ c:=by unfold jZ;omega
def sF (c:Fn):1<=szFn c:=by unfold szFn;omega
def szAc_pos (c:Ac):1<=szAc c:=by unfold szAc;omega
def szVr_pos (c:Vr):1<=szVr c:=by unfold szVr;omega
theorem jp {α:Type} {f g:α->Nat} (h:∀x,f x<=g x):∀l:List α,(l.map f).sum<=sumN g l
 | []=>by simp
 | x::l=>by rw[List.map_cons,List.sum_cons,sumN];have:=jp h l;have:=h x;omega
def sX (l:List Fld):l<=bY l:=by unfold bY;omega
def cfN_le (l:List Ctr):cfN l<=sumN jo l:=jp (λc=>by rw[lO c];have:=sX c.fields;omega) l
section
variable {p:Pg} (h:szPg p<=4000)
include h
theorem uK:p.Deep 4000:=by
 unfold szPg at h;refine⟨λf hf=>?_,λa ha v hv=>?_,λa ha v hv=>?_⟩
 ·have g:=co (f:=szFn) hf;rw[qR f] at g;have:=mJ f.body 50 ω;omega
 ·have g:=co (f:=szAc) ha;have i:=co (f:=szVr) hv;rw[mx a] at g;rw[qP v] at i;have:=mJ v.init 50 ω;omega
 have g:=co (f:=szAc) ha;have i:=co (f:=szHd) hv;rw[mx a] at g;rw[qQ v] at i;have:=tu (l:=v.body) (d:=50) ω;omega
theorem sz_tdeep:p.TDeep 4000:=by
 unfold szPg at h;refine⟨λd hd c hc f hf=>?_,λe he=>?_,λf hf=>?_,λa ha=>?_⟩
 ·have i:=co (f:=hZ) hd;have j:=co (f:=jo) hc;rw[i7 d] at i;rw[lO c] at j;have:=iV (l:=c.fields) ω f hf;omega
 ·have i:=co (f:=jZ) he;rw[sH e] at i;exact⟨λf hf=>by have:=iV (l:=e.params) ω f hf;omega,by have:=iP e.answer 20 ω;omega⟩
 ·have i:=co (f:=szFn) hf;rw[qR f] at i;exact⟨λg hg=>by have:=iV (l:=f.params) ω g hg;omega,by have:=iP f.result 20 ω;omega⟩
 have i:=co (f:=szAc) ha;rw[mx a] at i;refine⟨λg hg=>by have:=iV (l:=a.params) ω g hg;omega,λv hv=>?_,λv hv=>?_⟩
 ·have j:=co (f:=szVr) hv;rw[qP v] at j;have:=iP v.type 20 ω;omega
 have j:=co (f:=szHd) hv;rw[qQ v] at j;exact λg hg=>by have:=iV (l:=v.params) ω g hg;omega
theorem sD:p.Small:=by
 unfold szPg at h;have k:=fp vL p.types;have j:=fp vK p.effects;have i:=fp sF p.funs;have g:=fp szAc_pos p.actors;have a:gO p.types<=sumN hZ p.types:=jp (λd=>by rw[i7 d];have:=fp pS d.ctors;omega) p.types;exact⟨ω,ω,ω,ω,ω⟩
theorem vI:di p.types<=4000:=by
 have a:di p.types<=sumN hZ p.types:=jp (λd=>by rw[i7 d];have:=cfN_le d.ctors;omega) p.types;unfold szPg at h;omega
theorem py:Fit p 4000:=⟨sD h,ψ (vI h) π,uK h,by decide⟩
theorem zc:Lim p:=by
 unfold szPg at h;refine⟨λd hd=>?_,λd hd c hc=>?_,?_,λa ha=>?_⟩
 ·have g:=co (f:=hZ) hd;rw[i7 d] at g;have:=fp pS d.ctors;omega
 ·have g:=co (f:=hZ) hd;have i:=co (f:=jo) hc;rw[i7 d] at g;rw[lO c] at i;have:=sX c.fields;omega
 ·have:=fp sF p.funs;omega
 have g:=co (f:=szAc) ha;rw[mx a] at g;have:=fp szVr_pos a.vars;omega
end
set_option maxRecDepth 100000
set_option maxHeartbeats 2000000
open Go.RowKit Go.Maps Go.WideMaps Go.ChangeMaps
def mi (n:Int):Ex:=.mk 5 n 0 nm0 []
def exF:Fn:=⟨⟨#[102]⟩,[⟨⟨#[110]⟩,bTy 3⟩],.mk 8 nm0 [bTy 3,bTy 3],1,.mk 34 1 0 nm0 [mi 0]⟩
def exG:Fn:=⟨nm0,[⟨⟨#[110]⟩,bTy 3⟩,⟨⟨#[120]⟩,bTy 3⟩],bTy 3,2,.mk 20 0 0 nm0 [mi 0,mi 1]⟩
def rH:List St:=[.mk 2 0 0 nm0 nm0 [.mk 35 0 0 nm0 [.mk 33 0 0 nm0 [.mk 6 0 0 nm0 []],mi 0]] [] [] []]
def exA (o x q:Int):Ac:=⟨⟨#[77,97,105,110]⟩,[],0,[⟨⟨#[97]⟩,bTy 3,.mk o x 0 nm0 []⟩],[⟨⟨#[65,100,100]⟩,[⟨⟨#[107]⟩,bTy 3⟩],q,rH⟩],0,0⟩
def lI (n:Nat) (o x q:Int):List Obj:=[
 .cells #[(),(),.slice (some ⟨n+19,0,none⟩) 2 2,.slice (some ⟨n+20,0,none⟩) 1 1] 27,
 .cells #[(3:Int),.string ⟨#[]⟩,()] 40,
 .cells #[(5:Int),(0:Int),(0:Int),.string ⟨#[]⟩,()] 43,
 .cells #[.string ⟨#[110]⟩,(3:Int),.string ⟨#[]⟩,()] 118,
 .cells #[(3:Int),.string ⟨#[]⟩,(),(3:Int),.string ⟨#[]⟩,()] 40,
 .cells #[(5:Int),(0:Int),(0:Int),.string ⟨#[]⟩,()] 43,
 .cells #[.string ⟨#[102]⟩,.slice (some ⟨n+3,0,none⟩) 1 1,(8:Int),.string ⟨#[]⟩,.slice (some ⟨n+4,0,none⟩) 2 2,(1:Int),(34:Int),(1:Int),(0:Int),.string ⟨#[]⟩,.slice (some ⟨n+5,0,none⟩) 1 1] 45,
 .cells #[.string ⟨#[110]⟩,(3:Int),.string ⟨#[]⟩,(),.string ⟨#[120]⟩,(3:Int),.string ⟨#[]⟩,()] 118,
 .cells #[(5:Int),(0:Int),(0:Int),.string ⟨#[]⟩,(),(5:Int),(1:Int),(0:Int),.string ⟨#[]⟩,()] 43,
 .cells #[.string ⟨#[]⟩,.slice (some ⟨n+7,0,none⟩) 2 2,(3:Int),.string ⟨#[]⟩,(),(2:Int),(20:Int),(0:Int),(0:Int),.string ⟨#[]⟩,.slice (some ⟨n+8,0,none⟩) 2 2] 45,
 .cells #[.string ⟨#[107]⟩,(3:Int),.string ⟨#[]⟩,()] 118,
 .cells #[(6:Int),(0:Int),(0:Int),.string ⟨#[]⟩,()] 43,
 .cells #[(33:Int),(0:Int),(0:Int),.string ⟨#[]⟩,.slice (some ⟨n+11,0,none⟩) 1 1,(5:Int),(0:Int),(0:Int),.string ⟨#[]⟩,()] 43,
 .cells #[(35:Int),(0:Int),(0:Int),.string ⟨#[]⟩,.slice (some ⟨n+12,0,none⟩) 2 2] 43,
 .cells #[(2:Int),(0:Int),(0:Int),.string ⟨#[]⟩,.string ⟨#[]⟩,.slice (some ⟨n+13,0,none⟩) 1 1,(),(),()] 120,
 .cells #[.string ⟨#[65,100,100]⟩,.slice (some ⟨n+10,0,none⟩) 1 1,(1:Int),.slice (some ⟨n+14,0,none⟩) 1 1] 64,
 .cells #[.string ⟨#[97]⟩,(3:Int),.string ⟨#[]⟩,(),o,x,(0:Int),.string ⟨#[]⟩,()] 61,
 .cells #[.string ⟨#[65,100,100]⟩,.slice (some ⟨n+10,0,none⟩) 1 1,q,.slice (some ⟨n+14,0,none⟩) 1 1] 64,
 .cells #[.string ⟨#[77,97,105,110]⟩,(),(0:Int),.slice (some ⟨n+16,0,none⟩) 1 1,.slice (some ⟨n+17,0,none⟩) 1 1,(0:Int),(0:Int)] 54,
 .cells #[.string ⟨#[102]⟩,.slice (some ⟨n+3,0,none⟩) 1 1,(8:Int),.string ⟨#[]⟩,.slice (some ⟨n+4,0,none⟩) 2 2,(1:Int),(34:Int),(1:Int),(0:Int),.string ⟨#[]⟩,.slice (some ⟨n+5,0,none⟩) 1 1,.string ⟨#[]⟩,.slice (some ⟨n+7,0,none⟩) 2 2,(3:Int),.string ⟨#[]⟩,(),(2:Int),(20:Int),(0:Int),(0:Int),.string ⟨#[]⟩,.slice (some ⟨n+8,0,none⟩) 2 2] 45,
 .cells #[.string ⟨#[77,97,105,110]⟩,(),(0:Int),.slice (some ⟨n+16,0,none⟩) 1 1,.slice (some ⟨n+17,0,none⟩) 1 1,(0:Int),(0:Int)] 54]
def ExAt (W:World) (n:Nat) (o x q:Int):Prop:=∀i,i<21->W.heap[n+i]?=(lI n o x q)[i]?
def jg (w:World) (l:List Obj):World:=l.foldl World.alloc w
def oX (l:List Obj):∀{w W:World},Below w w W->Below w w (jg W l):=by
 induction l with
 | nil=>intro w W h;exact h
 | cons o l ih=>intro w W h;exact ih (belA h o)
def xC (l:List Obj):∀(w:World) (i:Nat),i<l->(jg w l).heap[w.heap.size+i]?=l[i]?:=by
 induction l with
 | nil=>intro w i h;simp at h
 | cons o l ih =>
  intro w i h
  cases i with
  | zero =>
   have a:Below (w.alloc o).heap.size (w.alloc o) (jg (w.alloc o) l):=oX l (belR _);show (jg (w.alloc o) l).heap[w.heap.size]?=some o;rw[a.block _ Θ];exact heap_alloc_new w o
  | succ i =>
   have:=ih (w.alloc o) i (by simpa using h);show (jg (w.alloc o) l).heap[w.heap.size+(i+1)]?=l[i]?;rw[<-this];congr 1;simp;omega
def sZ (w:World):ExAt (jg w (lI w 3 1 1)) w 3 1 1:=λi h=>xC _ w i h
variable {W:World}
def ExAt.bel {W':World} {n:Nat} {o q:Int} (h:ExAt W n o x q) (hb:Below W W W'):ExAt W' n o x q:=λi hi=>by
 have hl:i<(lI n o x q).length:=hi
 have h1:=h i hi
 rw[<-h1]
 refine hb.block _ ?_
 rw[ξ hl] at h1
 exact (Array.getElem?_eq_some_iff.1 h1).1
def All2 {α β:Type} (R:α->β->Prop):List α->List β->Prop
 | [],[]=>True
 | a::l,b::m=>R a b/\All2 R l m
 | _,_=>False
theorem All2.at {α β:Type} {R:α->β->Prop}:∀{l:List α} {m:List β},All2 R l m->∀i (h':i<m.length),∃h:i<l.length,R l[i] m[i]
 | [],[],_,i,h=>by simp at h
 | a::l,b::m,h,0,_=>⟨by simp,h.1⟩
 | a::l,b::m,h,i+1,hi=>by
  obtain⟨h1,h2⟩:=h.2.at i (by simpa using hi)
  exact⟨by simpa using h1,h2⟩
 | [],_::_,h,_,_=>h.elim
 | _::_,[],h,_,_=>h.elim
theorem vd (size:Nat):∀(css:List (List Value)),(∀c∈css,c.length=size)->∀i (h:i<css.length) j u,css[i][j]?=some u->css.flatten[i*size+j]?=some u
 | [],_,i,h,_,_,_=>by simp at h
 | c::css,hl,0,_,j,u,hu=>by
  have hj:j<c.length:=(List.getElem?_eq_some_iff.1 hu).1
  rw[List.flatten_cons,Nat.zero_mul,Nat.zero_add,List.getElem?_append_left hj];exact hu
 | c::css,hl,i+1,h,j,u,hu=>by
  have hc:=hl c List.mem_cons_self
  rw[List.flatten_cons,List.getElem?_append_right (by rw[hc,Nat.succ_mul];omega)]
  have e:(i+1)*size+j-c.length=i*size+j:=by rw[hc,Nat.succ_mul];omega
  rw[e]
  exact vd size css (λx hx=>hl x (List.mem_cons_of_mem _ hx)) i (by simpa using h) j u hu
def ia {α:Type} {R:List Value->α->Prop} {P:Nat->Prop} {g t size n:Nat} {cs:Array Value} (css:List (List Value)) (l:List α) (cap:Nat) (h:Hs W g t cs) (hP:P g) (hc:cs=css.flatten.toArray) (hl:∀c∈css,c.length=size) (hn:l=n) (hm:n<=1000000) (hcap:n<=cap) (hR:All2 R css l):SlR W P size R (.slice (some ⟨g,0,none⟩) n cap) l:=by
 subst hn;refine⟨_,cap,λi=>(css[i]?).getD [],rfl,⟨by unfold maxLen;omega,hcap⟩,λ_=>⟨g,0,rfl,hP,λi hi=>?_⟩,λi hi=>?_⟩
 ·obtain⟨a,-⟩:=hR.at i hi;simp only[ξ a,Option.getD_some];refine⟨hl _ (ν a),λj u hu=>?_⟩;have:=vd size css hl i a j u hu;rw[Nat.zero_add,h.cell,hc];simpa using this
 obtain⟨a,d⟩:=hR.at i hi;simp only[ξ a,Option.getD_some];exact d
section
variable {W:World} {P:Nat->Prop} {n:Nat} {o x q:Int} (h:ExAt W n o x q) (hP:∀i,i<21->P (n+i))
def aZ (k:Int) (h:0<=k:=by decide) (h2:k<=100:=by decide):i64 k:=⟨ω,ω⟩
def tS:TyR W P [.int .i64 3,.string ⟨#[]⟩,.slice none 0 0] (bTy 3):=cO _ _ 3 (aZ 3)
def kI {o:Int} (h1:i64 o) (h2:i64 x):ExR W P [.int .i64 o,.int .i64 x,.int .i64 0,.string ⟨#[]⟩,.slice none 0 0] (.mk o x 0 nm0 []):=ExR.of ⟨h1,h2,aZ 0⟩ π SlR.nil
def fld_R {s:ByteArray} (hs:s.size<=maxLen):FldR W P (.string s::[.int .i64 3,.string ⟨#[]⟩,.slice none 0 0]) ⟨s,bTy 3⟩:=⟨_,rfl,hs,tS⟩
include h hP
theorem exF_R:FnR W P [.string ⟨#[102]⟩,.slice (some ⟨n+3,0,none⟩) 1 1,.int .i64 8,.string ⟨#[]⟩,.slice (some ⟨n+4,0,none⟩) 2 2,.int .i64 1,.int .i64 34,.int .i64 1,.int .i64 0,.string ⟨#[]⟩,.slice (some ⟨n+5,0,none⟩) 1 1] exF:=
 ⟨_,[.int .i64 8,.string ⟨#[]⟩,.slice (some ⟨n+4,0,none⟩) 2 2],[.int .i64 34,.int .i64 1,.int .i64 0,.string ⟨#[]⟩,.slice (some ⟨n+5,0,none⟩) 1 1],rfl,aZ 1,by decide,ia (size:=4) (R:=FldR W P) [.string ⟨#[110]⟩::[.int .i64 3,.string ⟨#[]⟩,.slice none 0 0]] [⟨⟨#[110]⟩,bTy 3⟩] 1 (h 3 π) (hP 3 π) rfl Θ rfl π π ⟨fld_R π,trivial⟩,
  TyR.of (aZ 8) π (ia (size:=3) (R:=TyR W P) [[.int .i64 3,.string ⟨#[]⟩,.slice none 0 0],[.int .i64 3,.string ⟨#[]⟩,.slice none 0 0]] [bTy 3,bTy 3] 2 (h 4 π) (hP 4 π) rfl Θ rfl π π ⟨tS,tS,trivial⟩),
  ExR.of ⟨aZ 34,aZ 1,aZ 0⟩ π (ia (size:=5) (R:=ExR W P) [[.int .i64 5,.int .i64 0,.int .i64 0,.string ⟨#[]⟩,.slice none 0 0]] [mi 0] 1 (h 5 π) (hP 5 π) rfl Θ rfl π π ⟨kI (aZ 5) (aZ 0),trivial⟩)⟩
theorem exG_R:FnR W P [.string ⟨#[]⟩,.slice (some ⟨n+7,0,none⟩) 2 2,.int .i64 3,.string ⟨#[]⟩,.slice none 0 0,.int .i64 2,.int .i64 20,.int .i64 0,.int .i64 0,.string ⟨#[]⟩,.slice (some ⟨n+8,0,none⟩) 2 2] exG:=
 ⟨_,[.int .i64 3,.string ⟨#[]⟩,.slice none 0 0],[.int .i64 20,.int .i64 0,.int .i64 0,.string ⟨#[]⟩,.slice (some ⟨n+8,0,none⟩) 2 2],rfl,aZ 2,by decide,ia (size:=4) (R:=FldR W P) [.string ⟨#[110]⟩::[.int .i64 3,.string ⟨#[]⟩,.slice none 0 0],.string ⟨#[120]⟩::[.int .i64 3,.string ⟨#[]⟩,.slice none 0 0]] [⟨⟨#[110]⟩,bTy 3⟩,⟨⟨#[120]⟩,bTy 3⟩] 2 (h 7 π) (hP 7 π) rfl Θ rfl π π ⟨fld_R π,fld_R π,trivial⟩,
  tS,ExR.of ⟨aZ 20,aZ 0,aZ 0⟩ π (ia (size:=5) (R:=ExR W P) [[.int .i64 5,.int .i64 0,.int .i64 0,.string ⟨#[]⟩,.slice none 0 0],[.int .i64 5,.int .i64 1,.int .i64 0,.string ⟨#[]⟩,.slice none 0 0]] [mi 0,mi 1] 2 (h 8 π) (hP 8 π) rfl Θ rfl π π ⟨kI (aZ 5) (aZ 0),kI (aZ 5) (aZ 1),trivial⟩)⟩
theorem exFs_R:SlR W P 11 (FnR W P) (.slice (some ⟨n+19,0,none⟩) 2 2) [exF,exG]:=
 ia [[.string ⟨#[102]⟩,.slice (some ⟨n+3,0,none⟩) 1 1,.int .i64 8,.string ⟨#[]⟩,.slice (some ⟨n+4,0,none⟩) 2 2,.int .i64 1,.int .i64 34,.int .i64 1,.int .i64 0,.string ⟨#[]⟩,.slice (some ⟨n+5,0,none⟩) 1 1],[.string ⟨#[]⟩,.slice (some ⟨n+7,0,none⟩) 2 2,.int .i64 3,.string ⟨#[]⟩,.slice none 0 0,.int .i64 2,.int .i64 20,.int .i64 0,.int .i64 0,.string ⟨#[]⟩,.slice (some ⟨n+8,0,none⟩) 2 2]] [exF,exG] 2 (h 19 π) (hP 19 π) rfl Θ rfl π π ⟨exF_R h hP,exG_R h hP,trivial⟩
theorem exBody_R:StsR W P (.slice (some ⟨n+14,0,none⟩) 1 1) rH:=by
 have i:ExR W P [.int .i64 6,.int .i64 0,.int .i64 0,.string ⟨#[]⟩,.slice none 0 0] (.mk 6 0 0 nm0 []):=kI (aZ 6) (aZ 0);have g:ExR W P [.int .i64 33,.int .i64 0,.int .i64 0,.string ⟨#[]⟩,.slice (some ⟨n+11,0,none⟩) 1 1] (.mk 33 0 0 nm0 [.mk 6 0 0 nm0 []]):=ExR.of ⟨aZ 33,aZ 0,aZ 0⟩ π (ia (size:=5) (R:=ExR W P) [[.int .i64 6,.int .i64 0,.int .i64 0,.string ⟨#[]⟩,.slice none 0 0]] [.mk 6 0 0 nm0 []] 1 (h 11 π) (hP 11 π) rfl Θ rfl π π ⟨i,trivial⟩);have d:ExR W P [.int .i64 35,.int .i64 0,.int .i64 0,.string ⟨#[]⟩,.slice (some ⟨n+12,0,none⟩) 2 2] (.mk 35 0 0 nm0 [.mk 33 0 0 nm0 [.mk 6 0 0 nm0 []],mi 0]):=ExR.of ⟨aZ 35,aZ 0,aZ 0⟩ π (ia (size:=5) (R:=ExR W P) [[.int .i64 33,.int .i64 0,.int .i64 0,.string ⟨#[]⟩,.slice (some ⟨n+11,0,none⟩) 1 1],[.int .i64 5,.int .i64 0,.int .i64 0,.string ⟨#[]⟩,.slice none 0 0]] [.mk 33 0 0 nm0 [.mk 6 0 0 nm0 []],mi 0] 2 (h 12 π) (hP 12 π) rfl Θ rfl π π ⟨g,kI (aZ 5) (aZ 0),trivial⟩);have a:ExsR W P (.slice (some ⟨n+13,0,none⟩) 1 1) [.mk 35 0 0 nm0 [.mk 33 0 0 nm0 [.mk 6 0 0 nm0 []],mi 0]]:=ia [[.int .i64 35,.int .i64 0,.int .i64 0,.string ⟨#[]⟩,.slice (some ⟨n+12,0,none⟩) 2 2]] _ 1 (h 13 π) (hP 13 π) rfl Θ rfl π π ⟨d,trivial⟩
 exact ia [[.int .i64 2,.int .i64 0,.int .i64 0,.string ⟨#[]⟩,.string ⟨#[]⟩,.slice (some ⟨n+13,0,none⟩) 1 1,.slice none 0 0,.slice none 0 0,.slice none 0 0]] _ 1 (h 14 π) (hP 14 π) rfl Θ rfl π π ⟨StR.of ⟨aZ 2,aZ 0,aZ 0⟩ π π a SlR.nil SlR.nil SlR.nil,trivial⟩
theorem exAs_R (ho:i64 o) (hx:i64 x) (hq:i64 q):SlR W P 7 (AcR W P) (.slice (some ⟨n+20,0,none⟩) 1 1) [exA o x q]:=by
 have d:VrsR W P (.slice (some ⟨n+16,0,none⟩) 1 1) [⟨⟨#[97]⟩,bTy 3,.mk o x 0 nm0 []⟩]:=ia [[.string ⟨#[97]⟩,.int .i64 3,.string ⟨#[]⟩,.slice none 0 0,.int .i64 o,.int .i64 x,.int .i64 0,.string ⟨#[]⟩,.slice none 0 0]] _ 1 (h 16 π) (hP 16 π) rfl Θ rfl π π ⟨⟨[.int .i64 3,.string ⟨#[]⟩,.slice none 0 0],[.int .i64 o,.int .i64 x,.int .i64 0,.string ⟨#[]⟩,.slice none 0 0],rfl,(by decide:(1:Nat)<=maxLen),tS,kI ho hx⟩,trivial⟩;have a:HdsR W P (.slice (some ⟨n+17,0,none⟩) 1 1) [⟨⟨#[65,100,100]⟩,[⟨⟨#[107]⟩,bTy 3⟩],q,rH⟩]:=ia [[.string ⟨#[65,100,100]⟩,.slice (some ⟨n+10,0,none⟩) 1 1,.int .i64 q,.slice (some ⟨n+14,0,none⟩) 1 1]] _ 1 (h 17 π) (hP 17 π) rfl Θ rfl π π ⟨⟨_,_,rfl,hq,(by decide:(3:Nat)<=maxLen),ia (size:=4) (R:=FldR W P) [.string ⟨#[107]⟩::[.int .i64 3,.string ⟨#[]⟩,.slice none 0 0]] [⟨⟨#[107]⟩,bTy 3⟩] 1 (h 10 π) (hP 10 π) rfl Θ rfl π π ⟨fld_R π,trivial⟩,exBody_R h hP⟩,trivial⟩;exact ia [[.string ⟨#[77,97,105,110]⟩,.slice none 0 0,.int .i64 0,.slice (some ⟨n+16,0,none⟩) 1 1,.slice (some ⟨n+17,0,none⟩) 1 1,.int .i64 0,.int .i64 0]] [exA o x q] 1 (h 20 π) (hP 20 π) rfl Θ rfl π π ⟨⟨_,_,_,rfl,⟨aZ 0,aZ 0,aZ 0⟩,(by decide:(4:Nat)<=maxLen),SlR.nil,d,a⟩,trivial⟩
end
def exPg (o x q:Int):Pg:=⟨[],[],[exF,exG],[exA o x q]⟩
def vf {n:Nat} {o q:Int} (h:ExAt W n o x q) (hn:n+21<=W) (ho:i64 o) (hx:i64 x) (hq:i64 q):PgAt W none none (some ⟨n+19,0,none⟩) (some ⟨n+20,0,none⟩) 0 0 2 1 (exPg o x q):=
 have hP:∀i,i<21->lo W (n+i):=λi hi=>by unfold lo;omega
 ⟨SlR.nil,SlR.nil,exFs_R h hP,exAs_R h hP ho hx hq⟩
def ExSaid (w:World) (e:Ending) (w':World):Prop:=e=.returned (.agg #[(),(),.slice (some ⟨w+19,0,none⟩) 2 2,.slice (some ⟨w+20,0,none⟩) 1 1])/\ExAt w' w 3 1 1/\w.heap.size+21=w'/\Below w w w'
def sk (l:List Obj):∀w:World,(jg w l).heap.size=w+l:=by
 induction l with
 | nil=>intro w;rfl
 | cons o l ih=>intro w;show (jg (w.alloc o) l).heap.size=_;rw[ih];simp;omega
def fX {w:World}:Calls prog 17 #[] w (ExSaid w):=by
 have a:Hid (ExSaid w (.returned (.agg #[(),(),.slice (some ⟨w+19,0,none⟩) 2 2,.slice (some ⟨w+20,0,none⟩) 1 1])) (jg w (lI w 3 1 1))):=
  ⟨rfl,sZ w,(sk (lI w 3 1 1) w).symm,oX _ (belR w)⟩
 have d:Hid (Hs (jg w (lI w 3 1 1)) w 27 #[(),(),.slice (some ⟨w+19,0,none⟩) 2 2,.slice (some ⟨w+20,0,none⟩) 1 1]):=sZ w 0 π;go_enter func17,ntmps17;go_wp2_with fail;refine bodyPost_ret (v:=.agg #[(),(),.slice (some ⟨w+19,0,none⟩) 2 2,.slice (some ⟨w+20,0,none⟩) 1 1]) ?_ rfl a;exact results_cell_row results17 _ _ w 27 _ _ _ rfl d underlying27 rfl Δ
namespace ShaT
def part5 (l:List Nat) (k:Nat) (h:k<l) (w:World):(part 5 (u8s l) k).run prog w=.ok (.int .u8 (l.getD k 0)) w:=by
 simp[part,isAgg5,sizeOf5,u8s,h]
def wR (d:Nat) (a b:List Nat) (w:World):∀(n k:Nat),k+n=a->a.length=b.length ->
 (forIn (List.range' k n) ((none,()):Option Bool×Unit) λi __s=>do
   let __do_lift <-part 5 (u8s a) i
   let __do_lift_1 <-part 5 (u8s b) i
   let __do_lift <-Op.equalIn (d+1) 5 __do_lift __do_lift_1
   if (!__do_lift)=true then pure (ForInStep.done (some false,())) else pure (ForInStep.yield (none,()))).run prog w=.ok (if a.drop k=b.drop k then none else some false,()) w:=by
 intro n;induction n with
 | zero =>
  intro k t l;rw[List.drop_of_length_le ω,List.drop_of_length_le ω];simp[Sem.run_pure]
 | succ n ih =>
  intro k t l
  have r:a.drop k=a.getD k 0::a.drop (k+1):=by
   rw[List.drop_eq_getElem_cons ω];simp[List.getD,show k<a.length by omega]
  have q:b.drop k=b.getD k 0::b.drop (k+1):=by
   rw[List.drop_eq_getElem_cons ω];simp[List.getD,show k<b.length by omega]
  have j:=ih (k+1) ω l;rw[List.range'_succ,List.forIn_cons];simp only[Sem.run_bind,part5 a k ω w,part5 b k ω w,Result.andThen_ok,run_equalIn_int w d 5 .u8 .u8 _ _ underlying5];by_cases h:a.getD k 0=b.getD k 0
  ·have g:(((a.getD k 0:Nat):Int)==((b.getD k 0:Nat):Int))=true:=by rw[h];simp
   rw[g];simp only[Bool.not_true,Bool.false_eq_true,if_false,Sem.run_pure,Result.andThen_ok];rw[j,r,q,h];simp
  have g:(((a.getD k 0:Nat):Int)==((b.getD k 0:Nat):Int))=false:=by rw[beq_eq_false_iff_ne];omega
  rw[g];simp only[Bool.not_false,if_true,Sem.run_pure,Result.andThen_ok];rw[r,q,if_neg (by simp only[List.cons.injEq,not_and];intro e;exact absurd e h)]
def jq (d:Nat) (a b:List Nat) (ha:a.length=32) (hb:b.length=32) (w:World) :
 (Op.equalIn (d+2) 34 (.agg (u8s a)) (.agg (u8s b))).run prog w=.ok (a==b) w:=by
 unfold Op.equalIn;simp only[Sem.run_bind,run_underlying underlying34,Result.andThen_ok,sizeOf5,Std.Legacy.Range.forIn_eq_forIn_range',Nat.mul_one];have e:(Std.Legacy.Range.size [:32])=32:=by decide
 rw[e,wR d a b w 32 0 ω ω];simp only[List.drop_zero,Result.andThen_ok];by_cases h:a=b
 ·simp[h,Sem.run_pure]
 have:(a==b)=false:=by simp[h]
 simp[h,Sem.run_pure]
def run_eql_u8s (a b:List Nat) (ha:a.length=32) (hb:b.length=32) (w:World):(binOp .eql 34 (.agg (u8s a)) (.agg (u8s b))).run prog w=.ok (.bool (a==b)) w:=by
 rw[run_eql_struct,jq 9998 a b ha hb w];rfl
def run_neq_u8s (a b:List Nat) (ha:a.length=32) (hb:b.length=32) (w:World):(binOp .neq 34 (.agg (u8s a)) (.agg (u8s b))).run prog w=.ok (.bool (!(a==b))) w:=by
 rw[run_neq_struct,jq 9998 a b ha hb w];rfl
end ShaT
def shaS_len (l:List Nat):(ShaT.shaS l).length=32:=by unfold ShaT.shaS ShaT.dgTo;simp
def ml (p:Pg) (M:Nat) (s:List UInt8):(digP p M s).length=32:=by
 unfold digP;split
 ·simp
 split
 ·split
  ·simp
  exact shaS_len _
 simp
def vh {a b:List Nat} {c:Bool} (ha:a.length=32) (hb:b.length=32) (hc:(a==b)=c) (w:World):(binOp .eql 34 (.agg (ShaT.u8s a)) (.agg (ShaT.u8s b))).run prog w=.ok (c:Vl) w:=by rw[ShaT.run_eql_u8s a b ha hb,hc]
def vg {a b:List Nat} {c:Bool} (ha:a.length=32) (hb:b.length=32) (hc:(a==b)=c) (w:World):(binOp .neq 34 (.agg (ShaT.u8s a)) (.agg (ShaT.u8s b))).run prog w=.ok (.bool (!c)) w:=by rw[ShaT.run_neq_u8s a b ha hb,hc]
def dh {P:Program} {a:Act} {o:Oper} {C:World->Prop} {K:Act->Prop} (ty:TypeId) (x:Operand) (ho:o.op=.load ty x)
 (g:Nat) (hx:a.eval x=.pointer (some ⟨g,0,none⟩)) (t:TypeId) (cs:Array Value) (fr:Nat×Nat) (d:TypeDesc) (hg:∀w,C w->w.heap[g]?=some (.cells cs t fr))
 (hu:P.underlying ty=some d) (hd:(match d with|.struct _|.array _ _=>true|_=>false)=true) (hi:(P.info? ty).map (·.size)=some cs.size)
 (h:K (a.put o.dst (.agg cs))):o.quiet P a C K:=by
 refine⟨.agg cs,λw hw=>?_,h⟩;unfold Oper.quietAt execOp;simp only[ho,hx,Instr.loadAt,Instr.sureAddr,Sem.run_bind,Sem.run_pure,Result.andThen_ok,run_loadVar_row w g t ty cs fr d (hg w hw) hu hd hi];exact⟨rfl,rfl⟩
def eL {g:Nat} {o:Obj} (h:W.heap[g]?=some o):∀w,(∃p:Regrown,w=Sort.grow (redrawn W p.d) p.os)->w.heap[g]?=some o:=by
 rintro w ⟨p,rfl⟩;rw[(below_regrown W p.d p.os).block g (Array.getElem?_eq_some_iff.1 h).1];exact h
def Cf:ShaT.u8s (List.replicate 32 0)=#[.int .u8 0,.int .u8 0,.int .u8 0,.int .u8 0,.int .u8 0,.int .u8 0,.int .u8 0,.int .u8 0,.int .u8 0,.int .u8 0,.int .u8 0,.int .u8 0,.int .u8 0,.int .u8 0,.int .u8 0,.int .u8 0,.int .u8 0,.int .u8 0,.int .u8 0,.int .u8 0,.int .u8 0,.int .u8 0,.int .u8 0,.int .u8 0,.int .u8 0,.int .u8 0,.int .u8 0,.int .u8 0,.int .u8 0,.int .u8 0,.int .u8 0,.int .u8 0]:=rfl
end
end Go.Proofs.YtjohpidklbhmcaaGreatDoor
