/- Core -/
import Derived.Test.YtjohpidklbhmcaaGreatDoorZ36
namespace Go.Proofs.YtjohpidklbhmcaaGreatDoor
set_option linter.all false
open Go.Proofs.Tryz
mutual
theorem mK:∀t u:Ty,bO t u=true->t=u
 | .mk k s a,.mk k' s' a',h=>by
  rw[bO] at h
  simp only[τ,beq_iff_eq] at h
  obtain⟨h1,h2,h3⟩:=h
  rw[h1,oq a a' h3]
  have:s=s':=by rw[ByteArray.toList_eq,ByteArray.toList_eq] at h2;cases s;cases s';exact congrArg _ (Array.toList_inj.1 h2)
  rw[this]
theorem oq:∀l m:List Ty,cP l m=true->l=m
 | [],[],_=>rfl
 | [],_::_,h=>by simp[cP] at h
 | _::_,[],h=>by simp[cP] at h
 | x::xs,y::ys,h=>by
  rw[cP] at h
  simp only[τ] at h
  rw[mK x y h.1,oq xs ys h.2]
end
mutual
theorem ip:∀t:Ty,bO t t=true
 | .mk k s a=>by rw[bO,ll a];simp
theorem ll:∀l:List Ty,cP l l=true
 | []=>rfl
 | x::xs=>by rw[cP,ip x,ll xs];rfl
end
def rX {t:Ty} {k:Int} (h:ag t=true) (hk:t.kind=k) (h4:k=1\/k=2\/k=3\/k=4):t=bTy k:=by
 cases t with
 | mk q s a =>
  have b:q=k:=hk;subst b;rw[ag,if_pos h4] at h;simp only[bH,τ,decide_eq_true_eq] at h;have f:a=[]:=List.eq_nil_of_length_eq_zero h.2
  have e:s=nm0:=by
   have:=h.1;unfold nm0
   cases s with
   | mk d=>simp[ByteArray.size] at this;rw[this]
  rw[f,e];rfl
def Fn.wb (f:Fn) (x:Ex):Fn:={ f with body:=x }
def chg (p:Pg) (k:Nat) (h:k<p.funs.length) (x:Ex):Pg:={ p with funs:=p.funs.set k (p.funs[k].wb x) }
def vj {α:Type} (p:Pg) (k:Nat) (h:k<p.funs.length) (x:Ex) (g:Fn->α) (hg:∀f,g (Fn.wb f x)=g f):(chg p k h x).funs.map g=p.funs.map g:=by
 show (p.funs.set k (p.funs[k].wb x)).map g=_;rw[List.map_set,hg];have:k<(p.funs.map g).length:=by simpa using h
 have e:g p.funs[k]=(p.funs.map g)[k]:=by simp
 rw[e,List.set_getElem_self]
def chg_sig (p:Pg) (k:Nat) (h:k<p.funs.length) (x:Ex):Sig p (chg p k h x) (λx=>x):=by
 refine⟨λt=>rfl,λt=>rfl,λy=>?_⟩;unfold fsig;have b:(chg p k h x).funs.length=p.funs.length:=by show (p.funs.set k _).length=_;simp
 have a:=congrArg (λl=>l[y.toNat]?) (vj p k h x (λf=>(f.params,f.result)) (λ_=>rfl));simp only[List.getElem?_map] at a;rw[b,a]
def ScEq.same {p p':Pg} (hs:∀sc,iL p sc=iL p' sc) (hh:∀i t,hdP p i t=hdP p' i t) (sc:Sc):ScEq p p' sc sc:=⟨rfl,rfl,rfl,hs sc,λ_ t=>hh _ t⟩
def chg_sigS (p:Pg) (k:Nat) (h:k<p.funs.length) (x:Ex):SigS p (chg p k h x) (λx=>x) (λ_=>True):=⟨chg_sig p k h x,λ_=>rfl,λ_=>rfl,λ_ _ _ _=>rfl⟩
def gok_true (p:Pg):GOk p (λ_=>True):=⟨λ_ _ _ _ _=>trivial,λ_ _=>trivial,λ_ _ _ _ _ _ _ _=>trivial⟩
def scg_true (sc:Sc) (h:0<=sc.actor):ScG (λ_=>True) sc:=⟨λ_ _ _=>trivial,λ_ _=>trivial,h⟩
theorem jN {p p':Pg} (hp:∀f,funP p f=funP p' f):∀(l l':List Fn) (seen:List (List UInt8)),l.map (λf=>(f.name,f.params,f.result,f.slots))=l'.map (λf=>(f.name,f.params,f.result,f.slots))->dF p seen l=dF p' seen l'
 | [],[],_,_=>rfl
 | [],_::_,_,h=>by simp at h
 | _::_,[],_,h=>by simp at h
 | f::fs,g::gs,seen,h=>by
  simp only[List.map_cons,List.cons.injEq,Prod.mk.injEq] at h
  obtain⟨⟨h1,h2,h3,h4⟩,h5⟩:=h
  have e1:f.nm=g.nm:=by unfold Fn.nm;rw[h1]
  have e2:funP p f=funP p' g:=by rw[hp];unfold funP;rw[h2,h3,h4]
  rw[dF,dF,h1,e1,e2,jN hp fs gs seen h5,jN hp fs gs (g.nm::seen) h5]
def chg_decs (p:Pg) (k:Nat) (h:k<p.funs.length) (x:Ex):cH (chg p k h x)=cH p:=by
 have f:ep (chg p k h x) [] [] (chg p k h x).types=ep p [] [] p.types:=by kernel_rfl
 have e:∀sN,uniq Ac.nm aC (acP (chg p k h x)) sN (chg p k h x).actors=uniq Ac.nm aC (acP p) sN p.actors:=λ_=>by kernel_rfl
 have d:uniq Eff.nm aX (iu (chg p k h x)) [] (chg p k h x).effects=uniq Eff.nm aX (iu p) [] p.effects:=by kernel_rfl
 have b:iO (chg p k h x)=iO p:=by kernel_rfl
 have a:dF (chg p k h x) [] (chg p k h x).funs=dF p [] p.funs:=jN (λ_=>by kernel_rfl) _ _ _ (vj p k h x _ λ_=>rfl);unfold cH;rw[f,d,b,a];simp only[e]
def chg_fin (p:Pg) (k:Nat) (h:k<p.funs.length) (x:Ex):finP (chg p k h x)=finP p:=by kernel_rfl
theorem tf {p p':Pg} (hp:SigS p p' (λx=>x) (λ_=>True)) (hs:∀sc,iL p sc=iL p' sc) (hh:∀i t,hdP p i t=hdP p' i t) {M:Nat}:∀(i:Nat) (l:List Ac),(∀a∈l,(∀v∈a.vars,Ex.deep v.init<=M)/\∀h∈a.on,St.deeps h.body<=M)->fQ p M i l=fQ p' M i l
 | _,[],_=>rfl
 | i,a::rest,hd=>by
  obtain⟨h1,h2⟩:=hd a List.mem_cons_self
  rw[fQ,fQ,tf hp hs hh (i+1) rest λb hb=>hd b (List.mem_cons_of_mem _ hb)]
  congr 1
  unfold acB
  congr 1
  ·rw[Bool.eq_iff_iff,List.all_eq_true,List.all_eq_true]
   refine forall_congr' λv=>forall_congr' λhv=>?_
   unfold varB isE
   rw[iX hp.e M M M (υ _) (υ _) _ _ _ _ (ScEq.same hs hh _) (h1 v hv),rE]
  rw[Bool.eq_iff_iff,List.all_eq_true,List.all_eq_true]
  refine forall_congr' λv=>forall_congr' λhv=>?_
  unfold hdB
  rw[oe hp (gok_true p) (λ_ _ _ _ _=>trivial) M M M (υ _) (υ _) (υ _) (υ _) _ _ _ (ScEq.same hs hh _) (scg_true _ (Int.natCast_nonneg i)) (h2 v hv),<-eR,jR]
section
variable {k:Nat}
def all_set {α:Type} {f:α->Bool} {l:List α} (h:k<l.length) {x:α} (hl:∀i (hi:i<l.length),i≠k->f l[i]=true):(l.set k x).all f=f x:=by
 cases hx:f x with
 | false =>
  rw[Bool.eq_false_iff];intro b;have:=List.all_eq_true.1 b x (by rw[List.mem_iff_getElem];exact⟨k,by simpa using h,by simp⟩);rw[hx] at this;cases this
 | true =>
  rw[List.all_eq_true];intro y a;obtain⟨i,hi,rfl⟩:=List.mem_iff_getElem.1 a;rw[List.getElem_set];split
  ·exact hx
  rename_i e;exact hl i (by simpa using hi) (λe2=>e e2.symm)
def fnSc (f:Fn):Sc:=dC f.slots (-1) f.params
def kg {p:Pg} {M:Nat} (hr:aW p M=true) (hd:p.Deep M) (h:k<p.funs.length) {x:Ex} (hx:Ex.deep x<=M):aW (chg p k h x) M=isE (aa p M) (fnSc p.funs[k]) x p.funs[k].result:=by
 unfold aW at hr ⊢;rw[chg_decs,chg_fin];simp only[τ] at hr;rw[hr.1,hr.2.1,Bool.true_and,Bool.true_and];unfold dy at hr ⊢;simp only[τ] at hr;have b:=chg_sigS p k h x
 have l:fQ (chg p k h x) M 0 (chg p k h x).actors=true:=by
  rw[<-hr.2.2.2];exact (tf b (λ_=>rfl) (λ_ _=>rfl) 0 p.actors λa ha=>⟨hd.vars a ha,hd.on a ha⟩).symm
 have g:∀f:Fn,Ex.deep f.body<=M->funB (chg p k h x) M f=funB p M f:=λf hf=>by
  unfold funB isE;rw[iX b.e M M M (υ _) (υ _) _ _ _ _ (ScEq.same (p:=p) (p':=chg p k h x) (λ_=>rfl) (λ_ _=>rfl) _) hf,rE]
 rw[l,Bool.and_true]
 have j:(chg p k h x).funs.all (funB (chg p k h x) M)=funB (chg p k h x) M (p.funs[k].wb x):=by
  refine all_set h λi hi hne=>?_;have d:=ν hi;rw[g _ (hd.funs _ d)];exact List.all_eq_true.1 hr.2.2.1 _ d
 rw[j,g (p.funs[k].wb x) hx];rfl
variable {sc:Sc}
def qk {p:Pg} {n n':Nat} {e:Ex} {want:Option Ty} (h:Ex.deep e<=n) (h':Ex.deep e<=n'):aa p n sc e want=aa p n' sc e want:=by
 have a:Sig p p (λx=>x):=⟨λ_=>rfl,λ_=>rfl,λ_=>rfl⟩
 rw[iX a (Ex.deep e) n n' h h' sc sc e want (ScEq.same (λ_=>rfl) (λ_ _=>rfl) _) (υ _),rE]
def uf {p:Pg} {n:Nat} {e:Ex} {t u:Ty} (h:aa p n sc e (some t)=some u):u=t:=by
 cases n with
 | zero=>simp[aa] at h
 | succ n =>
  cases e with
  | mk op x m s kids =>
   rw[aa] at h;split at h
   ·cases h
   split at h
   ·split at h
    ·cases h
    split at h
    ·rename_i a;injection h with h;subst h;exact mK _ _ a
    cases h
   cases h
def mz {p:Pg} {n:Nat} {e:Ex} {t:Ty}:isE (aa p n) sc e t=true↔aa p n sc e (some t)=some t:=by
 unfold isE;constructor
 ·intro h;obtain⟨u,a⟩:=Option.isSome_iff_exists.1 h;rw[a,uf a]
 intro h;rw[h];rfl
def iA:Ex:=.mk 2 1 0 nm0 []
def exIf (b:Ex):Ex:=.mk 15 0 0 nm0 [iA,b,b]
def oQ (b:Ex):Ex:=.mk 18 0 0 nm0 [b]
def oR (b:Ex):Ex:=.mk 19 0 0 nm0 [b]
def kW (b:Ex):Ex:=.mk 25 0 0 nm0 [b,b]
section
variable {p:Pg} {M:Nat} {sc:Sc} {b:Ex} {t:Ty} (hb:isE (aa p M) sc b t=true) (hd:Ex.deep b<=M)
include hb hd
theorem isE_if:isE (aa p (M+3)) sc (exIf b) t=true:=by
 rw[mz] at hb ⊢;have a:aa p (M+2) sc b (some t)=some t:=(qk ω hd).trans hb;have f:isE (aa p (M+2)) sc iA (bTy 2)=true:=by kernel_rfl
 have e:isE (aa p (M+2)) sc b t=true:=by rw[mz];exact a
 have d:bP p (aa p (M+2)) sc 15 0 nm0 [iA,b,b] (some t)=some t:=by
  refine Eq.trans (b:=fIf (aa p (M+2)) sc (some t) [iA,b,b]) (by kernel_rfl) ?_;simp only[fIf,f,a,if_true,e]
 show (if bj 3 0 0 nm0 3 false false then (match bP p (aa p (M+2)) sc 15 0 nm0 [iA,b,b] (some t) with|none=>none|some u=>if l9 u (some t) then some u else none) else none)=some t;rw[d,if_pos (by decide)];exact if_pos (ip t)
theorem uX (op:Int) (k:Int) (hop:(op=18/\k=2)\/(op=19/\k=3)) (hf:ag t=true):isE (aa p (M+1)) sc (.mk op 0 0 nm0 [b]) t=decide (t.kind=k):=by
 have h:bP p (aa p M) sc op 0 nm0 [b] (some t)=fixT k (isE (aa p M) sc b (bTy k)):=by
  rcases hop with ⟨rfl,rfl⟩|⟨rfl,rfl⟩<;>(show fixT _ (ic _ _ _ _)=_;unfold ic;simp only[List.all_cons,List.all_nil,Bool.and_true])
 have g:aa p (M+1) sc (.mk op 0 0 nm0 [b]) (some t)=(match bP p (aa p M) sc op 0 nm0 [b] (some t) with|none=>none|some u=>if l9 u (some t) then some u else none):=by
  rcases hop with ⟨rfl,rfl⟩|⟨rfl,rfl⟩
  ·exact if_pos (e:=none) (show bj 1 0 0 nm0 [b].length false false=true from rfl)
  exact if_pos (e:=none) (show bj 1 0 0 nm0 [b].length false false=true from rfl)
 by_cases f:t.kind=k
 ·have i:t=bTy k:=rX hf f (by rcases hop with ⟨-,rfl⟩|⟨-,rfl⟩<;>simp);rw[decide_eq_true f];subst i;unfold isE;rw[g,h,hb];show ((if l9 (bTy k) (some (bTy k)) then some (bTy k) else none)).isSome=true;rw[if_pos (show l9 (bTy k) (some (bTy k))=true from ip _)];rfl
 rw[decide_eq_false f,Bool.eq_false_iff];intro a;rw[mz,g,h] at a;unfold fixT at a;split at a
 ·cases a
 rename_i u d;split at a
 ·rename_i j;have:=mK _ _ j;split at d
  ·injection d with d;rw[<-this,<-d] at f;exact f rfl
  cases d
 cases a
theorem isE_cat:isE (aa p (M+1)) sc (kW b) t=ju t:=by
 have a:=hb;rw[mz] at a
 have e:bP p (aa p M) sc 25 0 nm0 [b,b] (some t)=if ju t then some t else none:=by
  refine Eq.trans (b:=fCat (aa p M) sc (some t) [b,b]) (by kernel_rfl) ?_;simp only[fCat,a,hb,Bool.and_true]
 have d:aa p (M+1) sc (kW b) (some t)=if ju t then some t else none:=by
  show (if bj 2 0 0 nm0 2 false false then (match bP p (aa p M) sc 25 0 nm0 [b,b] (some t) with|none=>none|some u=>if l9 u (some t) then some u else none) else none)=_;rw[e,if_pos (by decide)]
  cases ju t with
  | false=>rfl
  | true=>exact if_pos (ip t)
 unfold isE;rw[d]
 cases ju t<;>rfl
end
def wL {p:Pg} {M:Nat} (hr:aW p (M+3)=true) (hd:p.Deep M) (h:k<p.funs.length) (h2:2*Ex.deep p.funs[k].body<=M):
 aW (chg p k h (exIf p.funs[k].body)) (M+3)=true/\aW (chg p k h (oQ p.funs[k].body)) (M+3)=decide (p.funs[k].result.kind=2) /\
 aW (chg p k h (oR p.funs[k].body)) (M+3)=decide (p.funs[k].result.kind=3)/\aW (chg p k h (kW p.funs[k].body)) (M+3)=ju p.funs[k].result:=by
 have l:=ν h;have e:p.Deep (M+3):=⟨λf g=>by have:=hd.funs f g;omega,λa ha v hv=>by have:=hd.vars a ha v hv;omega,λa ha v hv=>by have:=hd.on a ha v hv;omega⟩
 have b:∀n,M<=n->Ex.deep p.funs[k].body<=n:=λn hn=>by have:=hd.funs _ l;omega
 have d:=hr;unfold aW dy at d;simp only[τ] at d;have j:isE (aa p (M+3)) (fnSc p.funs[k]) p.funs[k].body p.funs[k].result=true:=List.all_eq_true.1 d.2.2.1 _ l
 have i:∀n,M<=n->isE (aa p n) (fnSc p.funs[k]) p.funs[k].body p.funs[k].result=true:=λn hn=>by
  rw[mz] at j ⊢;exact (qk (b n hn) (b _ ω)).trans j
 have g:ag p.funs[k].result=true:=by
  have:=(dV d.1).2.2 _ l;unfold funP at this;simp only[τ] at this;exact iv this.2.1
 have q:Ex.deep iA=1:=rfl;refine⟨?_,?_,?_,?_⟩
 ·rw[kg hr e h (by simp only[exIf,Ex.deep,Ex.deeps,q];omega)];exact isE_if (i M (υ _)) (b M (υ _))
 ·rw[kg hr e h (by simp only[oQ,Ex.deep,Ex.deeps];omega)];exact uX (i (M+2) ω) (b _ ω) 18 2 (.inl ⟨rfl,rfl⟩) g
 ·rw[kg hr e h (by simp only[oR,Ex.deep,Ex.deeps];omega)];exact uX (i (M+2) ω) (b _ ω) 19 3 (.inr ⟨rfl,rfl⟩) g
 rw[kg hr e h (by simp only[kW,Ex.deep,Ex.deeps];omega)];exact isE_cat (i (M+2) ω) (b _ ω)
end
end Go.Proofs.YtjohpidklbhmcaaGreatDoor
