/- Core -/
import Derived.Test.YtjohpidklbhmcaaGreatDoorZ40
namespace Go.Proofs.YtjohpidklbhmcaaGreatDoor
set_option linter.all false
open Go.Proofs.Tryz
theorem yO:∀k n,(varN k n).length<=k
 | 0,_=>υ _
 | k+1,n=>by
  rw[varN]
  split
  ·simp
  rw[δ];have:=yO k (n/128);omega
def numB_lenL (n:Int):(numB n).length<=9:=by
 unfold numB;split
 ·simp
 exact yO _ _
def Bp (n:Int):(intB n).length<=9:=by
 unfold intB;split
 ·simp
 split<;>exact numB_lenL _
def textB_lenL (s:ByteArray):(aM s).length<=9+s.size:=by
 unfold aM;have:=numB_lenL (s.size:Nat);have:s.data.toList=s.size:=by simp
 rw[μ];omega
theorem Bq {σ α:Type} {f:σ->α->List UInt8×σ} {g:α->Nat}:∀(l:List α) (_:∀x∈l,∀st,(f st x).1.length<=g x) (st:σ),(wAll f st l).1.length<=sumN g l
 | [],_,st=>Nat.zero_le _
 | x::l,h,st=>by
  rw[wAll,sumN,μ]
  have:=h x List.mem_cons_self st
  have:=Bq (f:=f) (g:=g) l (λy hy=>h y (List.mem_cons_of_mem _ hy)) (f st x).2
  omega
section
variable {α:Type}
def zn {σ:Type} {f:σ->α->List UInt8×σ} {g:α->Nat} {l:List α} (h:∀x∈l,∀st,(f st x).1.length<=g x) (st:σ):(ah f st l).1.length<=9+sumN g l:=by
 unfold ah;have:=numB_lenL (l.length:Nat);have:=Bq (f:=f) (g:=g) l h st;rw[μ];omega
theorem ya {α:Type} {f g:α->Nat} {c:Nat}:∀{l:List α},(∀x∈l,f x<=c*g x)->sumN f l<=c*sumN g l
 | [],_=>Nat.zero_le _
 | x::l,h=>by
  rw[sumN,sumN,Nat.mul_add]
  have:=h x List.mem_cons_self
  have:=ya (f:=f) (g:=g) (c:=c) (l:=l) (λy hy=>h y (List.mem_cons_of_mem _ hy))
  omega
section
variable {σ:Type} (N:Nm σ)
mutual
theorem ye:∀(t:Ty) (d:Int) (st:σ),szTy d t<1000000->(wTy N st t).1.length<=27*szTy d t
 | .mk k s a,d,st,h=>by
  rw[szTy] at h ⊢
  rw[wTy]
  have:=numB_lenL k
  have:=numB_lenL (a.length:Nat)
  have:=textB_lenL s
  simp only[μ]
  split at h
  ·omega
  rename_i hd;rw[if_neg hd];have:=yI a (d-1) (if k=6 then N.nam st s else st) ω;omega
theorem yI:∀(l:List Ty) (d:Int) (st:σ),iK d l<1000000->(wTys N st l).1.length<=27*iK d l
 | [],d,st,_=>by rw[wTys];exact Nat.zero_le _
 | x::xs,d,st,h=>by
  rw[iK] at h ⊢
  rw[wTys]
  have:=ye x d st ω
  have:=yI xs d (wTy N st x).2 ω
  simp only[μ];omega
end
mutual
theorem yy:∀(t:Ex) (d:Int) (st:σ),szEx d t<1000000->(wEx N st t).1.length<=45*szEx d t
 | .mk o n m s a,d,st,h=>by
  rw[szEx] at h ⊢
  rw[wEx]
  have:=numB_lenL o
  have:=numB_lenL (a.length:Nat)
  have:=Bp (eNum N st o n).1
  have:=Bp m
  have:=textB_lenL s
  simp only[μ]
  split at h
  ·omega
  rename_i hd;rw[if_neg hd];have:=yt a (d-1) (eNam N (eNum N st o n).2 o s) ω;omega
theorem yt:∀(l:List Ex) (d:Int) (st:σ),fc d l<1000000->(wExs N st l).1.length<=45*fc d l
 | [],d,st,_=>by rw[wExs];exact Nat.zero_le _
 | x::xs,d,st,h=>by
  rw[fc] at h ⊢
  rw[wExs]
  have:=yy x d st ω
  have:=yt xs d (wEx N st x).2 ω
  simp only[μ];omega
end
mutual
theorem wSt_len:∀(t:St) (d:Int) (st:σ),szSt d t<1000000->(wSt N st t).1.length<=81*szSt d t
 | .mk o n m s u xs h e a,d,st,hs=>by
  rw[szSt] at hs ⊢
  rw[wSt]
  by_cases hd:d-1<0
  ·rw[if_pos hd] at hs;omega
  simp only[if_neg hd] at hs ⊢
  have:=numB_lenL o
  have:=Bp n
  have:=Bp m
  have:=textB_lenL s
  have:=textB_lenL u
  have:=numB_lenL (h.length:Nat)
  have:=numB_lenL (e.length:Nat)
  have:=numB_lenL (a.length:Nat)
  have h0:=yt N xs d st ω
  rw[lM] at h0
  have:=numB_lenL (xs.length:Nat)
  have:=xT h (d-1) (ah (wEx N) st xs).2 ω
  have:=xT e (d-1) (wSts N (ah (wEx N) st xs).2 h).2 ω
  have:=xT a (d-1) (wSts N (wSts N (ah (wEx N) st xs).2 h).2 e).2 ω
  simp only[μ]
  have:(ah (wEx N) st xs).1.length=(numB (xs.length:Nat)).length+(wAll (wEx N) st xs).1.length:=by unfold ah;rw[μ]
  omega
theorem xT:∀(l:List St) (d:Int) (st:σ),eZ d l<1000000->(wSts N st l).1.length<=81*eZ d l
 | [],d,st,_=>by rw[wSts];exact Nat.zero_le _
 | x::xs,d,st,h=>by
  rw[eZ] at h ⊢
  rw[wSts]
  have:=wSt_len x d st ω
  have:=xT xs d (wSt N st x).2 ω
  simp only[μ];omega
end
theorem zh:∀(l:List Fld) (st:σ),szFs l<1000000->(wAll (wFld N) st l).1.length<=36*bY l
 | [],st,_=>Nat.zero_le _
 | f::l,st,h=>by
  unfold bY
  rw[szFs] at h ⊢
  rw[wAll,μ,δ]
  have:=zh l (wFld N st f).2 ω
  unfold bY at this
  have h1:(wFld N st f).1.length=(aM f.name).length+(wTy N st f.type).1.length:=by unfold wFld;rw[μ]
  have:=textB_lenL f.name
  have:=ye N f.type 20 st ω
  omega
def xO (l:List Fld) (st:σ) (h:bY l<1000000):(bJ N st l).1.length<=9+36*bY l:=by
 unfold bJ ah;have:=numB_lenL (l.length:Nat);have:=zh N l st (by unfold bY at h;omega);rw[μ];omega
def wCtr_len (c:Ctr) (st:σ) (h:jo c<1000000):(wCtr N st c).1.length<=36*jo c:=by
 unfold jo at h ⊢;unfold wCtr;have:=textB_lenL c.name;have:=xO N c.fields st ω;simp only[μ];omega
def xY {f:σ->α->List UInt8×σ} {g:α->Nat} {c:Nat} {l:List α} (h:∀x∈l,g x<1000000->∀st,(f st x).1.length<=c*g x) (hs:sumN g l<1000000) (st:σ):(ah f st l).1.length<=9+c*sumN g l:=by
 have d:=zn (f:=f) (g:=λx=>c*g x) (l:=l) (λx hx st=>h x hx (by have:=co (f:=g) hx;omega) st) st;have a:=ya (f:=λx=>c*g x) (g:=g) (c:=c) (l:=l) (λx _=>υ _);omega
def yM (c:Dcl) (st:σ) (h:hZ c<1000000):(wDcl N st c).1.length<=36*hZ c:=by
 unfold hZ at h ⊢;unfold wDcl;have:=textB_lenL c.name;have:=numB_lenL (if c.record then 1 else 0);have:=xY (f:=wCtr N) (c:=36) (l:=c.ctors) (λx _ hx st=>wCtr_len N x st hx) ω st;simp only[μ];omega
def wEff_len (c:Eff) (st:σ) (h:jZ c<1000000):(wEff N st c).1.length<=36*jZ c:=by
 unfold jZ at h ⊢;unfold wEff;have:=textB_lenL c.name;have:=xO N c.params st ω;have:=ye N c.answer 20 (bJ N st c.params).2 ω;simp only[μ];omega
def zi (c:Fn) (st:σ) (h:szFn c<1000000):(wFn N st c).1.length<=45*szFn c:=by
 unfold szFn at h ⊢;unfold wFn;have:=textB_lenL c.name;have:=numB_lenL c.slots;have:=xO N c.params st ω;have:=ye N c.result 20 (bJ N st c.params).2 ω;have:=yy N c.body 50 (wTy N (bJ N st c.params).2 c.result).2 ω;simp only[μ];omega
def wVr_len (c:Vr) (st:σ) (h:szVr c<1000000):(wVr N st c).1.length<=45*szVr c:=by
 unfold szVr at h ⊢;unfold wVr;have:=textB_lenL c.name;have:=ye N c.type 20 st ω;have:=yy N c.init 50 (wTy N st c.type).2 ω;simp only[μ];omega
def wHd_len (c:Hd) (st:σ) (h:szHd c<1000000):(wHd N st c).1.length<=81*szHd c:=by
 unfold szHd at h ⊢;unfold wHd;have:=textB_lenL c.msg;have:=numB_lenL c.slots;have:=xO N c.params st ω;have a:ek 50 c.body=eZ 50 c.body:=by unfold ek;rw[if_neg ω]
 rw[a] at h ⊢;have d:=xT N c.body 50 (bJ N st c.params).2 ω;rw[yK] at d;have:=numB_lenL (c.body.length:Nat);have:(ah (wSt N) (bJ N st c.params).2 c.body).1.length=(numB (c.body.length:Nat)).length+(wAll (wSt N) (bJ N st c.params).2 c.body).1.length:=by unfold ah;rw[μ]
 simp only[μ];omega
def zj (c:Ac) (st:σ) (h:szAc c<1000000):(wAc N st c).1.length<=63+81*(szAc c-1):=by
 unfold szAc at h ⊢;unfold wAc;have:=textB_lenL c.name;have:=numB_lenL c.slots;have:=xO N c.params st ω;have:=xY (f:=wVr N) (c:=45) (l:=c.vars) (λx _ hx st=>wVr_len N x st hx) ω (bJ N st c.params).2;have:=xY (f:=wHd N) (c:=81) (l:=c.on) (λx _ hx st=>wHd_len N x st hx) ω (ah (wVr N) (bJ N st c.params).2 c.vars).2;simp only[μ];omega
def wAcP_len (c:Ac) (st:σ) (h:szAc c<1000000):(wAcP N st c).1.length<=81*szAc c:=by
 unfold wAcP;have:=zj N c st h;have:=numB_lenL c.policy;have:=numB_lenL c.most;have:1<=szAc c:=by unfold szAc;omega
 simp only[μ];omega
end
def AU {p:Pg} (h:szPg p<=4000):(hX p).length<=400000:=by
 unfold szPg at h;unfold hX;have:=xY (f:=wDcl nm0N) (c:=36) (l:=p.types) (λx _ hx st=>yM _ x st hx) ω ();have:=xY (f:=wEff nm0N) (c:=36) (l:=p.effects) (λx _ hx st=>wEff_len _ x st hx) ω ();have:=xY (f:=wFn nm0N) (c:=45) (l:=p.funs) (λx _ hx st=>zi _ x st hx) ω ();have:=xY (f:=wAcP nm0N) (c:=81) (l:=p.actors) (λx _ hx st=>wAcP_len _ x st hx) ω ();simp only[μ];omega
def xM (l:List (List UInt8)) (s:List UInt8) (h:s∈l):∃i,idxP l s=some i/\i<l.length/\l[i]?=some s:=by
 obtain⟨i,a,d⟩:=yC l s h;exact⟨i,a,d,(cg _ _ _ _ a).2⟩
theorem xP (g:Nat->Nat):∀(m:Nat) (F:List Nat),F.Nodup->(∀n∈F,n<m)->(F.map g).sum<=((List.range m).map g).sum
 | 0,F,_,h=>by
  cases F with
  | nil=>simp
  | cons x F=>exact absurd (h x List.mem_cons_self) (Nat.not_lt_zero _)
 | m+1,F,hn,h=>by
  rw[List.range_succ,List.map_append,List.sum_append]
  by_cases hm:m∈F
  ·have hp:=List.perm_cons_erase hm
   have h1:=xP g m (F.erase m) (hn.erase m) (λn hx=>by
    have:=(hn.mem_erase_iff).1 hx
    have:=h n this.2;omega)
   have h2:(F.map g).sum=g m+((F.erase m).map g).sum:=by
    have:=(hp.map g).sum_nat;rw[this,List.map_cons,List.sum_cons]
   simp only[List.map_cons,List.map_nil,List.sum_cons,List.sum_nil];omega
  have h1:=xP g m F hn (λn hx=>by
   have:=h n hx;have:n≠m:=λe=>hm (e▸hx);omega)
  omega
theorem yg {α:Type} (f:α->Nat):∀l:List α,((List.range l).map λi=>(l[i]?).elim 0 f).sum=sumN f l
 | []=>rfl
 | x::l=>by
  rw[δ,List.range_succ_eq_map,List.map_cons,List.sum_cons,List.map_map,sumN]
  have:=yg f l
  simp only[List.getElem?_cons_zero]
  rw[<-this]
  rfl
structure Dg.ext (a b:Dg):Prop where
 f:a.funs <+: b.funs
 n:a.names <+: b.names
def dg_inv (a:Dg):NmInv dgN (Dg.ext a) (λ_=>True) λ_=>True where
 num st n h _:=by
  simp only[dgN]
  cases posI st.funs n with
  | some i=>exact h
  | none=>exact⟨h.f.trans (List.prefix_append _ _),h.n⟩
 nam st s h _:=by
  simp only[dgN];split
  ·exact h
  exact⟨h.f,h.n.trans (List.prefix_append _ _)⟩
def Dg.ext_refl (a:Dg):a.ext a:=⟨List.prefix_refl _,List.prefix_refl _⟩
def Dg.ext.tr {a b c:Dg} (h:a.ext b) (k:b.ext c):a.ext c:=⟨h.f.trans k.f,h.n.trans k.n⟩
def ext_fn (st:Dg) (f:Fn):st.ext (wFn dgN st f).2:=uD (dg_inv st) f st f.refs_any st.ext_refl
def zm (st:Dg) (f:Dcl):st.ext (wDcl dgN st f).2:=sx (dg_inv st) f st f.refs_any st.ext_refl
theorem yS (p:Pg):∀(k i:Nat) (st:Dg),st.ext (bZ p k i st).2
 | 0,i,st=>st.ext_refl
 | k+1,i,st=>by
  rw[bZ]
  split
  ·exact st.ext_refl
  split
  ·exact st.ext_refl
  exact (ext_fn st _).tr (yS p k _ _)
theorem yT (p:Pg):∀(k i:Nat) (st:Dg),st.ext (cC p k i st).2
 | 0,i,st=>st.ext_refl
 | k+1,i,st=>by
  rw[cC]
  split
  ·exact st.ext_refl
  split
  ·exact st.ext_refl
  exact (zm st _).tr (yT p k _ _)
theorem yA {p:Pg} (hd:DigOk p):∀(k i:Nat) (st:Dg),DgOk p st->DgOk p (bZ p k i st).2
 | 0,i,st,h=>h
 | k+1,i,st,h=>by
  rw[bZ]
  split
  ·exact h
  split
  ·exact h
  rename_i f hf
  exact yA hd k _ _ (hd.fn f (List.mem_of_getElem? hf) st h)
theorem yB {p:Pg} (hd:DigOk p):∀(k i:Nat) (st:Dg),DgOk p st->DgOk p (cC p k i st).2
 | 0,i,st,h=>h
 | k+1,i,st,h=>by
  rw[cC]
  split
  ·exact h
  split
  ·exact h
  rename_i f hf
  exact yB hd k _ _ (hd.ty f (List.mem_of_getElem? hf) st h)
def yU {a b:List α} (h:a <+: b) {i:Nat} {x:α} (hx:a[i]?=some x):b.drop i=x::b.drop (i+1):=by
 obtain⟨c,rfl⟩:=h;have d:=(List.getElem?_eq_some_iff.1 hx).1;have:(a++c)[i]?=some x:=by rw[List.getElem?_append_left d];exact hx
 obtain⟨j,g⟩:=List.getElem?_eq_some_iff.1 this;rw[List.drop_eq_getElem_cons j,g]
def fnSz (p:Pg) (n:Nat):Nat:=(p.funs[n]?).elim 0 λf=>45*szFn f
def tySz (p:Pg) (n:Nat):Nat:=(p.types[n]?).elim 0 λf=>36*hZ f
theorem yi {p:Pg} (hs:szPg p<=4000):∀(k i:Nat) (st:Dg),(bZ p k i st).1.length<=(((bZ p k i st).2.funs.drop i).map λn=>fnSz p n.toNat).sum
 | 0,i,st=>Nat.zero_le _
 | k+1,i,st=>by
  rw[bZ]
  split
  ·exact Nat.zero_le _
  rename_i n hn
  split
  ·exact Nat.zero_le _
  rename_i f hf
  have h1:=yi hs k (i+1) (wFn dgN st f).2
  have h2:=yU ((ext_fn st f).tr (yS p k (i+1) (wFn dgN st f).2)).f hn
  simp only
  rw[h2,List.map_cons,List.sum_cons,μ]
  have h3:szFn f<=4000:=by
   have:=co (f:=szFn) (List.mem_of_getElem? hf);unfold szPg at hs;omega
  have d:=zi dgN f st ω;have a:fnSz p n.toNat=45*szFn f:=by unfold fnSz;rw[hf];rfl
  omega
theorem yk {p:Pg} (hs:szPg p<=4000):∀(k i:Nat) (st:Dg),(cC p k i st).1.length<=(((cC p k i st).2.names.drop i).map λs=>tySz p ((idxP p.tyNames s).getD 0)).sum
 | 0,i,st=>Nat.zero_le _
 | k+1,i,st=>by
  rw[cC]
  split
  ·exact Nat.zero_le _
  rename_i n hn
  split
  ·exact Nat.zero_le _
  rename_i f hf
  have h1:=yk hs k (i+1) (wDcl dgN st f).2
  have h2:=yU ((zm st f).tr (yT p k (i+1) (wDcl dgN st f).2)).n hn
  simp only
  rw[h2,List.map_cons,List.sum_cons,μ]
  have h3:hZ f<=4000:=by
   have:=co (f:=hZ) (List.mem_of_getElem? hf);unfold szPg at hs;omega
  have d:=yM dgN f st ω;have a:tySz p ((idxP p.tyNames n).getD 0)=36*hZ f:=by unfold tySz;rw[hf];rfl
  omega
theorem xQ {α:Type} {f:α->Nat}:∀{l:List α},l.Nodup->(∀a∈l,∀b∈l,f a=f b->a=b)->(l.map f).Nodup
 | [],_,_=>List.nodup_nil
 | x::l,h,hi=>by
  rw[List.map_cons,List.nodup_cons]
  rw[List.nodup_cons] at h
  refine⟨λhm=>?_,xQ h.2 (λa ha b hb=>hi a (List.mem_cons_of_mem _ ha) b (List.mem_cons_of_mem _ hb))⟩
  obtain⟨y,hy,e⟩:=List.mem_map.1 hm
  exact h.1 (hi y (List.mem_cons_of_mem _ hy) x List.mem_cons_self e▸hy)
def AR {p:Pg} (hs:szPg p<=4000) (hd:DigOk p) {a:Ac} (ha:a∈p.actors):(je p a).length<=1000000:=by
 have r:=hs;unfold szPg at r;have E:=co (f:=szAc) ha;have F:=zj dgN a dg0 ω;have u:DgOk p dg0:=⟨List.nodup_nil,(λn h=>by cases h),List.nodup_nil,(λn h=>by cases h)⟩
 have t:=hd.ac a ha _ u;have d:=yA hd (p.funs+1) 0 _ t;have g:=yB hd (p.types+1) 0 _ d;have B:=yi hs (p.funs+1) 0 (wAc dgN dg0 a).2;have A:=yk hs (p.types+1) 0 (bZ p (p.funs+1) 0 (wAc dgN dg0 a).2).2;rw[List.drop_zero] at B A
 have H:((bZ p (p.funs+1) 0 (wAc dgN dg0 a).2).2.funs.map λn=>fnSz p n.toNat).sum<=45*sumN szFn p.funs:=by
  have:=xP (fnSz p) p.funs ((bZ p (p.funs+1) 0 (wAc dgN dg0 a).2).2.funs.map Int.toNat)
   (xQ d.nf (λx hx y hy e=>by have:=d.rf x hx;have:=d.rf y hy;omega)) (λn hn=>by obtain⟨x,hx,rfl⟩:=List.mem_map.1 hn;have:=d.rf x hx;omega)
  rw[List.map_map] at this;refine ψ this ?_;have:=yg (λf=>45*szFn f) p.funs;unfold fnSz;rw[this];exact ya (λx _=>υ _)
 have G:((cC p (p.types+1) 0 (bZ p (p.funs+1) 0 (wAc dgN dg0 a).2).2).2.names.map λs=>tySz p ((idxP p.tyNames s).getD 0)).sum<=36*sumN hZ p.types:=by
  have:=xP (tySz p) p.types ((cC p (p.types+1) 0 (bZ p (p.funs+1) 0 (wAc dgN dg0 a).2).2).2.names.map λs=>(idxP p.tyNames s).getD 0)
   (xQ g.nn (λx hx y hy e=>by
     obtain⟨i,l,v,q⟩:=xM p.tyNames x (g.rn x hx);obtain⟨j,z,D,k⟩:=xM p.tyNames y (g.rn y hy);rw[l,z] at e;simp only[Option.getD_some] at e;subst e;rw[q] at k;exact Option.some.inj k)) (λn hn=>by
     obtain⟨x,hx,rfl⟩:=List.mem_map.1 hn;obtain⟨i,l,v,-⟩:=xM p.tyNames x (g.rn x hx);rw[l];simp only[Option.getD_some];have:p.tyNames.length=p.types:=by unfold Pg.tyNames;simp
     omega)
  rw[List.map_map] at this;refine ψ this ?_;have:=yg (λf=>36*hZ f) p.types;unfold tySz;rw[this];exact ya (λx _=>υ _)
 unfold je;simp only[μ];omega
theorem yz:∀F:List Nat,(F.map λ_=>1).sum=F.length
 | []=>rfl
 | x::F=>by rw[List.map_cons,List.sum_cons,δ,yz F];omega
def Br:∀(m:Nat) (F:List Nat),F.Nodup->(∀n∈F,n<m)->F.length<=m:=λm F h1 h2=>by
 have:=xP (λ_=>1) m F h1 h2
 rw[yz,yz,List.length_range] at this;exact this
def yG {p:Pg} {st:Dg} (h:DgOk p st):st.funs.length<=p.funs:=by
 have:=Br p.funs (st.funs.map Int.toNat) (xQ (f:=Int.toNat) h.nf (λx hx y hy e=>by have:=h.rf x hx;have:=h.rf y hy;omega)) (λn hn=>by obtain⟨x,hx,rfl⟩:=List.mem_map.1 hn;have:=h.rf x hx;omega);simpa using this
def yx {p:Pg} {st:Dg} (h:DgOk p st):st.names.length<=p.types:=by
 have:=Br p.types (st.names.map λs=>(idxP p.tyNames s).getD 0) (xQ (f:=λs=>(idxP p.tyNames s).getD 0) h.nn (λx hx y hy e=>by
  obtain⟨i,d,k,g⟩:=xM p.tyNames x (h.rn x hx);obtain⟨j,l,q,a⟩:=xM p.tyNames y (h.rn y hy);rw[d,l] at e;simp only[Option.getD_some] at e;subst e;rw[g] at a;exact Option.some.inj a)) (λn hn=>by
  obtain⟨x,hx,rfl⟩:=List.mem_map.1 hn;obtain⟨i,d,k,-⟩:=xM p.tyNames x (h.rn x hx);rw[d];simp only[Option.getD_some];have:p.tyNames.length=p.types:=by unfold Pg.tyNames;simp
  omega)
 simpa using this
def yp (φ:Int->Int) (f:Fn):Fn:={ f with body:=ren φ f.body }
def yu (φ:Int->Int) (f:Vr):Vr:={ f with init:=ren φ f.init }
def yv (φ:Int->Int) (f:Hd):Hd:={ f with body:=f.body.map (renS φ) }
def ym (φ:Int->Int) (f:Ac):Ac:={ f with vars:=f.vars.map (yu φ),on:=f.on.map (yv φ) }
structure NmHom {σ τ:Type} (N:Nm σ) (N':Nm τ) (m:σ->τ) (φ:Int->Int):Prop where
 num:∀st n,N'.num (m st) (φ n)=((N.num st n).1,m (N.num st n).2)
 nam:∀st s,N'.nam (m st) s=m (N.nam st s)
section
variable {σ τ:Type} {N:Nm σ} {N':Nm τ} {m:σ->τ} {φ:Int->Int}
def Alk {α β:Type} (m:σ->τ) (f:σ->α->List UInt8×σ) (f':τ->β->List UInt8×τ) (a:α) (b:β):Prop:=∀st,f' (m st) b=((f st a).1,m (f st a).2)
theorem yN {α β:Type} {f:σ->α->List UInt8×σ} {f':τ->β->List UInt8×τ} {g:α->β}:∀(l:List α),(∀x∈l,Alk m f f' x (g x))->∀st,wAll f' (m st) (l.map g)=((wAll f st l).1,m (wAll f st l).2)
 | [],_,st=>rfl
 | x::l,h,st=>by
  rw[List.map_cons,wAll,wAll,h x List.mem_cons_self st]
  simp only
  rw[yN l (λy hy=>h y (List.mem_cons_of_mem _ hy))]
def xN {β:Type} {f:σ->α->List UInt8×σ} {f':τ->β->List UInt8×τ} {g:α->β} {l:List α} (h:∀x∈l,Alk m f f' x (g x)) (st:σ):ah f' (m st) (l.map g)=((ah f st l).1,m (ah f st l).2):=by
 unfold ah;rw[yN l h,List.length_map]
variable (H:NmHom N N' m φ)
include H
mutual
theorem yn:∀t:Ty,Alk m (wTy N) (wTy N') t t
 | .mk k s a=>λst=>by
  have e:(if k=6 then N'.nam (m st) s else m st)=m (if k=6 then N.nam st s else st):=by split;exact H.nam _ _;rfl
  rw[wTy,wTy,e,yJ a]
theorem yJ:∀(l:List Ty) (st:σ),wTys N' (m st) l=((wTys N st l).1,m (wTys N st l).2)
 | [],st=>by rw[wTys,wTys]
 | x::l,st=>by rw[wTys,wTys,yn x st];simp only;rw[yJ l]
end
theorem eNum_alk (st:σ) (op n:Int):eNum N' (m st) op (if op=33\/op=34 then φ n else n)=((eNum N st op n).1,m (eNum N st op n).2):=by
 unfold eNum jb;by_cases h:op=33\/op=34
 ·have:(decide (op=33)||decide (op=34))=true:=by simpa using h
  simp only[this,if_true,if_pos h];exact H.num _ _
 have:(decide (op=33)||decide (op=34))=false:=by simpa using h
 simp only[this,if_neg h];rfl
theorem eNam_alk (st:σ) (op:Int) (s:ByteArray):eNam N' (m st) op s=m (eNam N st op s):=by
 unfold eNam;split
 ·exact H.nam _ _
 rfl
mutual
theorem yo:∀t:Ex,Alk m (wEx N) (wEx N') t (ren φ t)
 | .mk op n k s a=>λst=>by
  rw[ren,wEx,wEx,eNum_alk H]
  simp only
  rw[eNam_alk H,yL a,lU,List.length_map]
theorem yL:∀(l:List Ex) (st:σ),wExs N' (m st) (rens φ l)=((wExs N st l).1,m (wExs N st l).2)
 | [],st=>by rw[rens,wExs,wExs]
 | x::l,st=>by rw[rens,wExs,wExs,yo x st];simp only;rw[yL l]
end
mutual
theorem zg:∀t:St,Alk m (wSt N) (wSt N') t (renS φ t)
 | .mk op n k s u xs h e a=>λst=>by
  have h0:=xN (l:=xs) (g:=ren φ) (f:=wEx N) (f':=wEx N') (λx _=>yo H x) st
  rw[renS,wSt,wSt,lU,h0]
  simp only
  rw[xZ h]
  simp only
  rw[xZ e]
  simp only
  rw[xZ a]
  simp only[eR,List.length_map]
theorem xZ:∀(l:List St) (st:σ),wSts N' (m st) (lX φ l)=((wSts N st l).1,m (wSts N st l).2)
 | [],st=>by rw[lX,wSts,wSts]
 | x::l,st=>by rw[lX,wSts,wSts,zg x st];simp only;rw[xZ l]
end
theorem wFld_alk (f:Fld):Alk m (wFld N) (wFld N') f f:=λst=>by unfold wFld;rw[yn H f.type st]
theorem xU (l:List Fld):Alk m (bJ N) (bJ N') l l:=λst=>by
 have:=xN (l:=l) (g:=λx=>x) (f:=wFld N) (f':=wFld N') (λx _=>wFld_alk H x) st
 rw[List.map_id'] at this;exact this
theorem wCtr_alk (f:Ctr):Alk m (wCtr N) (wCtr N') f f:=λst=>by unfold wCtr;rw[xU H f.fields st]
theorem wDcl_alk (f:Dcl):Alk m (wDcl N) (wDcl N') f f:=λst=>by
 have:=xN (l:=f.ctors) (g:=λx=>x) (f:=wCtr N) (f':=wCtr N') (λx _=>wCtr_alk H x) st
 rw[List.map_id'] at this;unfold wDcl;rw[this]
theorem wFn_alk (f:Fn):Alk m (wFn N) (wFn N') f (yp φ f):=λst=>by
 unfold wFn yp
 simp only
 rw[xU H f.params st]
 simp only
 rw[yn H f.result]
 simp only
 rw[yo H f.body]
theorem wVr_alk (f:Vr):Alk m (wVr N) (wVr N') f (yu φ f):=λst=>by
 unfold wVr yu
 simp only
 rw[yn H f.type st]
 simp only
 rw[yo H f.init]
theorem wHd_alk (f:Hd):Alk m (wHd N) (wHd N') f (yv φ f):=λst=>by
 unfold wHd yv
 simp only
 rw[xU H f.params st]
 simp only
 rw[xN (l:=f.body) (g:=renS φ) (f:=wSt N) (f':=wSt N') (λx _=>zg H x)]
theorem wAc_alk (f:Ac):Alk m (wAc N) (wAc N') f (ym φ f):=λst=>by
 unfold wAc ym
 simp only
 rw[xU H f.params st]
 simp only
 rw[xN (l:=f.vars) (g:=yu φ) (f:=wVr N) (f':=wVr N') (λx _=>wVr_alk H x)]
 simp only
 rw[xN (l:=f.on) (g:=yv φ) (f:=wHd N) (f':=wHd N') (λx _=>wHd_alk H x)]
end
def mp (φ:Int->Int) (st:Dg):Dg:=⟨st.funs.map φ,st.names⟩
theorem yP {φ:Int->Int} (hi:∀a b,φ a=φ b->a=b) (n:Int):∀l:List Int,posI (l.map φ) (φ n)=posI l n
 | []=>rfl
 | x::l=>by
  rw[List.map_cons,posI,posI,yP hi n l]
  by_cases h:x=n
  ·rw[if_pos h,if_pos (by rw[h])]
  rw[if_neg h,if_neg (λe=>h (hi _ _ e))]
def dgHom {φ:Int->Int} (hi:∀a b,φ a=φ b->a=b):NmHom dgN dgN (mp φ) φ where
 num st n:=by
  simp only[dgN,mp,yP hi]
  cases posI st.funs n with
  | some i=>rfl
  | none=>simp
 nam st s:=by
  simp only[dgN,mp];by_cases h:s.data.toList∈st.names
  ·rw[if_pos h,if_pos h]
  rw[if_neg h,if_neg h]
theorem xW (p:Pg) (j:Nat):∀(k i:Nat) (st:Dg),(bZ p k i st).2.funs.length<i+k->bZ p (k+j) i st=bZ p k i st
 | 0,i,st,h=>by
  rw[bZ] at h ⊢
  cases j with
  | zero=>rw[Nat.add_zero,bZ]
  | succ j=>rw[Nat.zero_add,bZ,List.getElem?_eq_none (by simpa using Nat.le_of_lt h)]
 | k+1,i,st,h=>by
  rw[Nat.add_right_comm,bZ,bZ]
  rw[bZ] at h
  split at h
  ·rfl
  rename_i n hn
  split at h
  ·rfl
  rename_i f hf
  simp only at h
  rw[xW p j k (i+1) _ ω]
theorem xX (p:Pg) (j:Nat):∀(k i:Nat) (st:Dg),(cC p k i st).2.names.length<i+k->cC p (k+j) i st=cC p k i st
 | 0,i,st,h=>by
  rw[cC] at h ⊢
  cases j with
  | zero=>rw[Nat.add_zero,cC]
  | succ j=>rw[Nat.zero_add,cC,List.getElem?_eq_none (by simpa using Nat.le_of_lt h)]
 | k+1,i,st,h=>by
  rw[Nat.add_right_comm,cC,cC]
  rw[cC] at h
  split at h
  ·rfl
  rename_i n hn
  split at h
  ·rfl
  rename_i f hf
  simp only at h
  rw[xX p j k (i+1) _ ω]
structure Emb (p q:Pg) (φ:Int->Int):Prop where
 inj:∀a b,φ a=φ b->a=b
 fn:∀n:Int,0<=n->n<(p.funs.length:Int)->q.funs[(φ n).toNat]?=(p.funs[n.toNat]?).map (yp φ)
 ty:∀s∈p.tyNames,q.types[(idxP q.tyNames s).getD 0]?=p.types[(idxP p.tyNames s).getD 0]?
section
variable {p q:Pg} {φ:Int->Int} (he:Emb p q φ) (hd:DigOk p)
include he hd
theorem yj:∀(k i:Nat) (st:Dg),DgOk p st->bZ q k i (mp φ st)=((bZ p k i st).1,mp φ (bZ p k i st).2)
 | 0,i,st,_=>by rw[bZ,bZ]
 | k+1,i,st,h=>by
  rw[bZ,bZ]
  have e:(mp φ st).funs[i]?=(st.funs[i]?).map φ:=by unfold mp;simp
  rw[e]
  cases hn:st.funs[i]? with
  | none=>rfl
  | some n =>
   have hr:=h.rf n (List.mem_of_getElem? hn)
   simp only[Option.map_some]
   rw[he.fn n hr.1 hr.2]
   cases hf:p.funs[n.toNat]? with
   | none=>rfl
   | some f =>
    simp only[Option.map_some]
    rw[wFn_alk (dgHom he.inj) f st]
    simp only
    rw[yj k (i+1) _ (hd.fn f (List.mem_of_getElem? hf) st h)]
theorem yl:∀(k i:Nat) (st:Dg),DgOk p st->cC q k i (mp φ st)=((cC p k i st).1,mp φ (cC p k i st).2)
 | 0,i,st,_=>by rw[cC,cC]
 | k+1,i,st,h=>by
  rw[cC,cC]
  have e:(mp φ st).names[i]?=st.names[i]?:=rfl
  rw[e]
  cases hn:st.names[i]? with
  | none=>rfl
  | some n =>
   simp only
   rw[he.ty n (h.rn n (List.mem_of_getElem? hn))]
   cases hf:p.types[(idxP p.tyNames n).getD 0]? with
   | none=>rfl
   | some f =>
    simp only
    rw[wDcl_alk (dgHom he.inj) f st]
    simp only
    rw[yl k (i+1) _ (hd.ty f (List.mem_of_getElem? hf) st h)]
theorem yZ {a:Ac} (ha:a∈p.actors) (hf:p.funs.length<=q.funs) (ht:p.types.length<=q.types):je q (ym φ a)=je p a:=by
 have r:DgOk p dg0:=⟨List.nodup_nil,(λn h=>by cases h),List.nodup_nil,(λn h=>by cases h)⟩
 have j:=hd.ac a ha _ r;have i:=yA hd (p.funs+1) 0 _ j;have l:=yB hd (p.types+1) 0 _ i;have v:dg0=mp φ dg0:=rfl;have y:(bZ p (p.funs+1) 0 (wAc dgN dg0 a).2).2.funs.length<=p.funs:=yG i;have x:(cC p (p.types+1) 0 (bZ p (p.funs+1) 0 (wAc dgN dg0 a).2).2).2.names.length<=p.types:=yx l;have k:=wAc_alk (dgHom he.inj) a dg0;rw[<-v] at k
 have t:bZ q (q.funs+1) 0 (mp φ (wAc dgN dg0 a).2)=((bZ p (p.funs+1) 0 (wAc dgN dg0 a).2).1,mp φ (bZ p (p.funs+1) 0 (wAc dgN dg0 a).2).2):=by
  have g:=yj he hd (p.funs+1) 0 _ j;have d:=xW q (q.funs-p.funs) (p.funs+1) 0 (mp φ (wAc dgN dg0 a).2) (by rw[g];show (List.map φ _).length<_;rw[List.length_map];omega);rw[show p.funs.length+1+(q.funs.length-p.funs.length)=q.funs.length+1 by omega] at d;rw[d,g]
 have u:cC q (q.types+1) 0 (mp φ (bZ p (p.funs+1) 0 (wAc dgN dg0 a).2).2)=((cC p (p.types+1) 0 (bZ p (p.funs+1) 0 (wAc dgN dg0 a).2).2).1,mp φ (cC p (p.types+1) 0 (bZ p (p.funs+1) 0 (wAc dgN dg0 a).2).2).2):=by
  have g:=yl he hd (p.types+1) 0 _ i;have d:=xX q (q.types-p.types) (p.types+1) 0 (mp φ (bZ p (p.funs+1) 0 (wAc dgN dg0 a).2).2) (by rw[g];show List.length _<_;unfold mp;simp only;omega);rw[show p.types.length+1+(q.types.length-p.types.length)=q.types.length+1 by omega] at d;rw[d,g]
 unfold je;rw[k];simp only;rw[t];simp only;rw[u]
end
end
end Go.Proofs.YtjohpidklbhmcaaGreatDoor
