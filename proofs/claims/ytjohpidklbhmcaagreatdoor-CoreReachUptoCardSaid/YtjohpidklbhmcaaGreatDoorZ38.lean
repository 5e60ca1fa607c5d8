/- Core -/
import Derived.Test.YtjohpidklbhmcaaGreatDoorZ37
namespace Go.Proofs.YtjohpidklbhmcaaGreatDoor
set_option linter.all false
open Go.Proofs.Tryz
open Go.RowKit Go.Maps Go.WideMaps Go.ChangeMaps
variable {st1 st2:Dg} {o2:List UInt8} {F j:Nat}
def ui {p:Pg} {nx:Nat} {f:Fn} (h:bZ p (F+1) 0 st1=(o2++(bZ p (F+1-j) j st2).1,(bZ p (F+1-j) j st2).2)) (hf:st2.funs[j]?=some ((nx:Nat):Int)/\p.funs[nx]?=some f) (hj:j<F+1):
 bZ p (F+1) 0 st1=((o2++(wFn dgN st2 f).1)++(bZ p (F+1-(j+1)) (j+1) (wFn dgN st2 f).2).1,(bZ p (F+1-(j+1)) (j+1) (wFn dgN st2 f).2).2):=by
 obtain⟨k,b⟩:∃k,F+1-j=k+1:=⟨F-j,ω⟩
 have a:F+1-(j+1)=k:=ω;rw[h,b,a,bZ];simp only[hf.1,Int.toNat_natCast,hf.2,χ]
def se {p:Pg} (h:bZ p (F+1) 0 st1=(o2++(bZ p (F+1-j) j st2).1,(bZ p (F+1-j) j st2).2)) (hj:¬j<st2.funs):bZ p (F+1) 0 st1=(o2,st2):=by
 have e:bZ p (F+1-j) j st2=([],st2):=by
  cases F+1-j with
  | zero=>rfl
  | succ k=>rw[bZ,List.getElem?_eq_none ω]
 rw[h,e,List.append_nil]
def uj {p:Pg} {nx:Nat} {f:Dcl} (h:cC p (F+1) 0 st1=(o2++(cC p (F+1-j) j st2).1,(cC p (F+1-j) j st2).2)) (hf:∃s,st2.names[j]?=some s/\(idxP p.tyNames s).getD 0=nx/\p.types[nx]?=some f) (hj:j<F+1):
 cC p (F+1) 0 st1=((o2++(wDcl dgN st2 f).1)++(cC p (F+1-(j+1)) (j+1) (wDcl dgN st2 f).2).1,(cC p (F+1-(j+1)) (j+1) (wDcl dgN st2 f).2).2):=by
 obtain⟨k,b⟩:∃k,F+1-j=k+1:=⟨F-j,ω⟩
 have a:F+1-(j+1)=k:=ω;rw[h,b,a,cC];obtain⟨s,g,e,d⟩:=hf;simp only[g,e,d,χ]
def sg {p:Pg} (h:cC p (F+1) 0 st1=(o2++(cC p (F+1-j) j st2).1,(cC p (F+1-j) j st2).2)) (hj:¬j<st2.names):cC p (F+1) 0 st1=(o2,st2):=by
 have e:cC p (F+1-j) j st2=([],st2):=by
  cases F+1-j with
  | zero=>rfl
  | succ k=>rw[cC,List.getElem?_eq_none ω]
 rw[h,e,List.append_nil]
def DigL (p:Pg) (B b:Nat) (d:DB) (run:Pg->Nat->Nat->Dg->List UInt8×Dg) (F:Nat) (o1:List UInt8) (st1:Dg) (len:Dg->Nat) (j:Nat) (W0 wx:World):Prop:=
 ∃o2 st2,run p (F+1) 0 st1=(o2++(run p (F+1-j) j st2).1,(run p (F+1-j) j st2).2)/\WS (rq p B b d) (o1++o2) st2 wx/\Ch (wM B b) W0 wx/\DgOk p st2/\j<=len st2
variable {st:Dg}
def DgOk.fun_lt {p:Pg} (h:DgOk p st) (hj:j<st.funs):(st.funs[j]).toNat<p.funs/\(((st.funs[j]).toNat:Nat):Int)=st.funs[j]:=by
 have:=h.rf _ (ν hj);omega
def yC (l:List (List UInt8)) (s:List UInt8) (h:s∈l):∃i,idxP l s=some i/\i<l.length:=by
 have b:∀k,(∃i,i<k/\l[i]?=some s)->∃i,cB l k s=some i:=by
  intro k;induction k with
  | zero=>rintro ⟨i,a,_⟩;omega
  | succ k ih =>
   rintro ⟨i,a,d⟩;rw[cB];by_cases e:l[k]?=some s
   ·rw[if_pos e];exact⟨k,rfl⟩
   rw[if_neg e];refine ih ⟨i,?_,d⟩;rcases Nat.lt_or_ge i k with x|x
   ·exact x
   have:i=k:=ω;subst this;exact absurd d e
 obtain⟨i,a,rfl⟩:=List.getElem_of_mem h;obtain⟨k,f⟩:=b l ⟨i,a,ξ a⟩;exact⟨k,f,(cg _ _ _ _ f).1⟩
def DgOk.name_lt {p:Pg} (h:DgOk p st) (hj:j<st.names):(idxP p.tyNames st.names[j]).getD 0<p.types.length:=by
 obtain⟨i,a,b⟩:=yC _ _ (h.rn _ (ν hj));rw[a];have:p.tyNames.length=p.types:=by unfold Pg.tyNames;simp
 show i<_;omega
def names_le {p:Pg} (h:DgOk p st):st.names.length<=p.types:=by
 have d:∀(l m:List (List UInt8)),l.Nodup->(∀s∈l,s∈m)->l.length<=m:=by
  intro l;induction l with
  | nil=>intro m _ _;simp
  | cons x l ih =>
   intro m a b;rw[List.nodup_cons] at a;have i:=ih (m.erase x) a.2 (λs hs=>(List.mem_erase_of_ne (λe=>a.1 (by rw[<-e];exact hs))).2 (b s (List.mem_cons_of_mem _ hs)));have g:=List.length_erase_of_mem (b x List.mem_cons_self);have f:=List.length_pos_of_mem (b x List.mem_cons_self);simp only[δ];omega
 have:=d _ _ h.nn h.rn;have e:p.tyNames.length=p.types:=by unfold Pg.tyNames;simp
 omega
def vi (st:Dg):NmInv dgN (λst'=>st.funs.length<=st'.funs/\st.names.length<=st'.names) (λ_=>True) (λ_=>True) where
 num st' n h _:=by
  refine⟨ψ h.1 ?_,by rw[(rc st' n).2];exact h.2⟩;simp only[dgN]
  cases posI st'.funs n<;>simp
 nam st' s h _:=by
  refine⟨by rw[(rh st' s).2];exact h.1,ψ h.2 ?_⟩;simp only[dgN];split<;>simp
def wFn_mono (st:Dg) (f:Fn):st.funs<=(wFn dgN st f).2.funs.length/\st.names<=(wFn dgN st f).2.names.length:=uD (vi st) f st (Fn.refs_any f) ⟨υ _,υ _⟩
def vB (st:Dg) (f:Dcl):st.funs<=(wDcl dgN st f).2.funs.length/\st.names<=(wDcl dgN st f).2.names.length:=sx (vi st) f st (Dcl.refs_any f) ⟨υ _,υ _⟩
def dgok0 (p:Pg):DgOk p dg0:=⟨List.nodup_nil,λ_ h=>absurd h (by simp[dg0]),List.nodup_nil,λ_ h=>absurd h (by simp[dg0])⟩
end Go.Proofs.YtjohpidklbhmcaaGreatDoor
