/- Core -/
import Derived.Test.YtjohpidklbhmcaaGreatDoorZ42
import Derived.Test.YtjohpidklbhmcaaGreatDoorZ37
namespace Go.Proofs.YtjohpidklbhmcaaGreatDoor
set_option linter.all false
open Go.Proofs.Tryz
set_option maxRecDepth 100000
set_option maxHeartbeats 16000000
open Go.RowKit Go.Maps Go.WideMaps Go.ChangeMaps
def read_fail {w:World}:Calls prog 10 #[.string (bstr [])] w λe w'=>e=.returned (.tuple #[.agg #[.slice none 0 0,.slice none 0 0,.slice none 0 0,.slice none 0 0],.bool false])/\Below w.heap.size w w':=by
 obtain⟨l,a⟩:=γ (((w.alloc (.cells #[.slice none 0 0,.slice none 0 0,.slice none 0 0,.slice none 0 0] 27)).alloc (.cells #[.string (bstr []),.bool false] 145)).alloc (.cells #[.pointer (some ⟨w.heap.size+1,0,none⟩),.int .i64 0] 90))
 have B2:Below w.heap.size w l:=by rw[a];exact ζ3
 have E:RdAt (w.heap.size+1) (w.heap.size+2) [] false 0 l:=by
  rw[a];refine⟨fu ?_ _,?_⟩
  ·have:=Hs.new (w.alloc (.cells #[.slice none 0 0,.slice none 0 0,.slice none 0 0,.slice none 0 0] 27)) 145 #[.string (bstr []),.bool false];simpa using this
  have:=Hs.new ((w.alloc (.cells #[.slice none 0 0,.slice none 0 0,.slice none 0 0,.slice none 0 0] 27)).alloc (.cells #[.string (bstr []),.bool false] 145)) 90 #[.pointer (some ⟨w.heap.size+1,0,none⟩),.int .i64 0];simpa using this
 have M:Hid (Hs l w.heap.size 27 #[.slice none 0 0,.slice none 0 0,.slice none 0 0,.slice none 0 0]):=by rw[a];exact fu (fu (Hs.new _ _ _) _) _
 have H:Hid (l.heap.size=w.heap.size+3):=by show _=_;rw[a];simp
 obtain⟨V,Z,J⟩:=zd3 E B2 a;clear E a B2;go_enter func10,ntmps10;go_upto_region 2 with (go_at_call 31;refine (yQ [] _).mono ?_;rintro e1 w1 ⟨rfl,rfl⟩);rw[<-J.o];clear J;go_wp2_with fail;refine (many_nil_32 V.o).mono ?_;rintro e3 W3 ⟨rfl,D,x⟩;obtain⟨U,Y⟩:=zd2 D x;clear D x;go_wp2_with fail;refine (many_nil_34 U.o).mono ?_;rintro e4 W4 ⟨rfl,B,u⟩;obtain⟨R,X⟩:=zd2 B (Y.o.trans u);clear B u;go_wp2_with fail;refine (many_nil_36 R.o).mono ?_;rintro e5 W5 ⟨rfl,A,t⟩;obtain⟨O,W⟩:=zd2 A (X.o.trans t);clear A t;go_wp2_with fail;refine (many_nil_38 O.o).mono ?_;rintro e6 j ⟨rfl,y,r⟩;obtain⟨N,i⟩:=zd2 y (W.o.trans r);clear y r;obtain⟨h,g,q,_⟩:=κ j #[.slice none 0 0,.slice none 0 0,.slice none 0 0,.slice none 0 0] 27
 have ah:w.heap.size+3<=j.heap.size:=by have:=H.o;have:=i.o.size;omega
 have F:Hid (Hs h w.heap.size 27 #[.slice none 0 0,.slice none 0 0,.slice none 0 0,.slice none 0 0]):=aH (kS M.o i.o ω ω) q;have G:=η (N.o.bel q)
 have BT:Hid (Below w.heap.size w h):=by
  have T:=i.o.trans (Stp.of_below (own:=rdO (w.heap.size+1) (w.heap.size+2)) q);have:=H.o;exact Z.o.trans ⟨T.os,T.tape,T.output,T.size,λk hk=>T.block k ω (λe=>by rcases e with e|e<;>omega)⟩
 have I:=η g;clear q g;go_upto_region 3 with (fail);rw[<-I.o];clear I;have d0:=G.o.d.c 0;have L:Hid ((h.setRow w.heap.size #[.slice none 0 0,.slice none 0 0,.slice none 0 0,.slice none 0 0]).heap[w.heap.size]?=some (.cells #[.slice none 0 0,.slice none 0 0,.slice none 0 0,.slice none 0 0] 27 (0,0))):=setRow_heap _ _ _ _ _ _ F.o;have BO:Hid (Below w.heap.size w (h.setRow w.heap.size #[.slice none 0 0,.slice none 0 0,.slice none 0 0,.slice none 0 0])):=BT.o.trans ⟨rfl,rfl,rfl,by simp,λk hk=>setRow_other _ _ _ _ ω⟩;go_wp2_with (first|(go_at_call 40;refine (s7 G.o).mono ?_;rintro e8 w8 ⟨rfl,rfl⟩)|(refine wpList_store_row rfl 27 _ _ rfl w.heap.size #[.slice none 0 0,.slice none 0 0,.slice none 0 0,.slice none 0 0] rfl rfl 27 #[.slice none 0 0,.slice none 0 0,.slice none 0 0,.slice none 0 0] F.o (by kernel_rfl) rfl (by simp[Value.oneCell']) ?_));obtain⟨r0,r1,r2,r3,-⟩:=kk (show Hs _ _ _ _ from L.o);exact bodyPost_ret (v:=.tuple #[.agg #[.slice none 0 0,.slice none 0 0,.slice none 0 0,.slice none 0 0],.bool false]) (by simp[results,results10,go_sem,r0,r1,r2,r3]) rfl ⟨rfl,BO.o⟩
theorem yO:∀k n,(varN k n).length<=k
 | 0,_=>υ _
 | k+1,n=>by
  rw[varN]
  split
  ·simp
  rw[δ];have:=yO k (n/128);omega
def numB_lenL (n:Int):(numB n).length<=9:=by
 unfold numB;split
 ·simp
 exact yO _ _
def Bp (n:Int):(intB n).length<=9:=by
 unfold intB;split
 ·simp
 split<;>exact numB_lenL _
def textB_lenL (s:ByteArray):(aM s).length<=9+s.size:=by
 unfold aM;have:=numB_lenL (s.size:Nat);have:s.data.toList.length=s.size:=by simp
 rw[μ];omega
theorem Bq {σ α:Type} {f:σ->α->List UInt8×σ} {g:α->Nat}:∀(l:List α) (_:∀x∈l,∀st,(f st x).1.length<=g x) (st:σ),(wAll f st l).1.length<=sumN g l
 | [],_,st=>Nat.zero_le _
 | x::l,h,st=>by
  rw[wAll,sumN,μ]
  have:=h x List.mem_cons_self st
  have:=Bq (f:=f) (g:=g) l (λy hy=>h y (List.mem_cons_of_mem _ hy)) (f st x).2
  omega
section
variable {α:Type}
def zn {σ:Type} {f:σ->α->List UInt8×σ} {g:α->Nat} {l:List α} (h:∀x∈l,∀st,(f st x).1.length<=g x) (st:σ):(ah f st l).1.length<=9+sumN g l:=by
 unfold ah;have:=numB_lenL (l.length:Nat);have:=Bq (f:=f) (g:=g) l h st;rw[μ];omega
theorem ya {α:Type} {f g:α->Nat} {c:Nat}:∀{l:List α},(∀x∈l,f x<=c*g x)->sumN f l<=c*sumN g l
 | [],_=>Nat.zero_le _
 | x::l,h=>by
  rw[sumN,sumN,Nat.mul_add]
  have:=h x List.mem_cons_self
  have:=ya (f:=f) (g:=g) (c:=c) (l:=l) (λy hy=>h y (List.mem_cons_of_mem _ hy))
  omega
section
variable {σ:Type} (N:Nm σ)
mutual
theorem ye:∀(t:Ty) (d:Int) (st:σ),szTy d t<1000000->(wTy N st t).1.length<=27*szTy d t
 | .mk k s a,d,st,h=>by
  rw[szTy] at h ⊢
  rw[wTy]
  have:=numB_lenL k
  have:=numB_lenL (a.length:Nat)
  have:=textB_lenL s
  simp only[μ]
  split at h
  ·omega
  rename_i hd;rw[if_neg hd];have:=yI a (d-1) (if k=6 then N.nam st s else st) ω;omega
theorem yI:∀(l:List Ty) (d:Int) (st:σ),iK d l<1000000->(wTys N st l).1.length<=27*iK d l
 | [],d,st,_=>by rw[wTys];exact Nat.zero_le _
 | x::xs,d,st,h=>by
  rw[iK] at h ⊢
  rw[wTys]
  have:=ye x d st ω
  have:=yI xs d (wTy N st x).2 ω
  simp only[μ];omega
end
mutual
theorem yy:∀(t:Ex) (d:Int) (st:σ),szEx d t<1000000->(wEx N st t).1.length<=45*szEx d t
 | .mk o n m s a,d,st,h=>by
  rw[szEx] at h ⊢
  rw[wEx]
  have:=numB_lenL o
  have:=numB_lenL (a.length:Nat)
  have:=Bp (eNum N st o n).1
  have:=Bp m
  have:=textB_lenL s
  simp only[μ]
  split at h
  ·omega
  rename_i hd;rw[if_neg hd];have:=yt a (d-1) (eNam N (eNum N st o n).2 o s) ω;omega
theorem yt:∀(l:List Ex) (d:Int) (st:σ),fc d l<1000000->(wExs N st l).1.length<=45*fc d l
 | [],d,st,_=>by rw[wExs];exact Nat.zero_le _
 | x::xs,d,st,h=>by
  rw[fc] at h ⊢
  rw[wExs]
  have:=yy x d st ω
  have:=yt xs d (wEx N st x).2 ω
  simp only[μ];omega
end
mutual
theorem wSt_len:∀(t:St) (d:Int) (st:σ),szSt d t<1000000->(wSt N st t).1.length<=81*szSt d t
 | .mk o n m s u xs h e a,d,st,hs=>by
  rw[szSt] at hs ⊢
  rw[wSt]
  by_cases hd:d-1<0
  ·rw[if_pos hd] at hs;omega
  simp only[if_neg hd] at hs ⊢
  have:=numB_lenL o
  have:=Bp n
  have:=Bp m
  have:=textB_lenL s
  have:=textB_lenL u
  have:=numB_lenL (h.length:Nat)
  have:=numB_lenL (e.length:Nat)
  have:=numB_lenL (a.length:Nat)
  have h0:=yt N xs d st ω
  rw[lM] at h0
  have:=numB_lenL (xs.length:Nat)
  have:=xT h (d-1) (ah (wEx N) st xs).2 ω
  have:=xT e (d-1) (wSts N (ah (wEx N) st xs).2 h).2 ω
  have:=xT a (d-1) (wSts N (wSts N (ah (wEx N) st xs).2 h).2 e).2 ω
  simp only[μ]
  have:(ah (wEx N) st xs).1.length=(numB (xs.length:Nat)).length+(wAll (wEx N) st xs).1.length:=by unfold ah;rw[μ]
  omega
theorem xT:∀(l:List St) (d:Int) (st:σ),eZ d l<1000000->(wSts N st l).1.length<=81*eZ d l
 | [],d,st,_=>by rw[wSts];exact Nat.zero_le _
 | x::xs,d,st,h=>by
  rw[eZ] at h ⊢
  rw[wSts]
  have:=wSt_len x d st ω
  have:=xT xs d (wSt N st x).2 ω
  simp only[μ];omega
end
theorem zh:∀(l:List Fld) (st:σ),szFs l<1000000->(wAll (wFld N) st l).1.length<=36*bY l
 | [],st,_=>Nat.zero_le _
 | f::l,st,h=>by
  unfold bY
  rw[szFs] at h ⊢
  rw[wAll,μ,δ]
  have:=zh l (wFld N st f).2 ω
  unfold bY at this
  have h1:(wFld N st f).1.length=(aM f.name).length+(wTy N st f.type).1.length:=by unfold wFld;rw[μ]
  have:=textB_lenL f.name
  have:=ye N f.type 20 st ω
  omega
def xO (l:List Fld) (st:σ) (h:bY l<1000000):(bJ N st l).1.length<=9+36*bY l:=by
 unfold bJ ah;have:=numB_lenL (l.length:Nat);have:=zh N l st (by unfold bY at h;omega);rw[μ];omega
def wCtr_len (c:Ctr) (st:σ) (h:jo c<1000000):(wCtr N st c).1.length<=36*jo c:=by
 unfold jo at h ⊢;unfold wCtr;have:=textB_lenL c.name;have:=xO N c.fields st ω;simp only[μ];omega
def xY {f:σ->α->List UInt8×σ} {g:α->Nat} {c:Nat} {l:List α} (h:∀x∈l,g x<1000000->∀st,(f st x).1.length<=c*g x) (hs:sumN g l<1000000) (st:σ):(ah f st l).1.length<=9+c*sumN g l:=by
 have d:=zn (f:=f) (g:=λx=>c*g x) (l:=l) (λx hx st=>h x hx (by have:=co (f:=g) hx;omega) st) st;have a:=ya (f:=λx=>c*g x) (g:=g) (c:=c) (l:=l) (λx _=>υ _);omega
def yM (c:Dcl) (st:σ) (h:hZ c<1000000):(wDcl N st c).1.length<=36*hZ c:=by
 unfold hZ at h ⊢;unfold wDcl;have:=textB_lenL c.name;have:=numB_lenL (if c.record then 1 else 0);have:=xY (f:=wCtr N) (c:=36) (l:=c.ctors) (λx _ hx st=>wCtr_len N x st hx) ω st;simp only[μ];omega
def wEff_len (c:Eff) (st:σ) (h:jZ c<1000000):(wEff N st c).1.length<=36*jZ c:=by
 unfold jZ at h ⊢;unfold wEff;have:=textB_lenL c.name;have:=xO N c.params st ω;have:=ye N c.answer 20 (bJ N st c.params).2 ω;simp only[μ];omega
def zi (c:Fn) (st:σ) (h:szFn c<1000000):(wFn N st c).1.length<=45*szFn c:=by
 unfold szFn at h ⊢;unfold wFn;have:=textB_lenL c.name;have:=numB_lenL c.slots;have:=xO N c.params st ω;have:=ye N c.result 20 (bJ N st c.params).2 ω;have:=yy N c.body 50 (wTy N (bJ N st c.params).2 c.result).2 ω;simp only[μ];omega
def wVr_len (c:Vr) (st:σ) (h:szVr c<1000000):(wVr N st c).1.length<=45*szVr c:=by
 unfold szVr at h ⊢;unfold wVr;have:=textB_lenL c.name;have:=ye N c.type 20 st ω;have:=yy N c.init 50 (wTy N st c.type).2 ω;simp only[μ];omega
def wHd_len (c:Hd) (st:σ) (h:szHd c<1000000):(wHd N st c).1.length<=81*szHd c:=by
 unfold szHd at h ⊢;unfold wHd;have:=textB_lenL c.msg;have:=numB_lenL c.slots;have:=xO N c.params st ω;have a:ek 50 c.body=eZ 50 c.body:=by unfold ek;rw[if_neg ω]
 rw[a] at h ⊢;have d:=xT N c.body 50 (bJ N st c.params).2 ω;rw[yK] at d;have:=numB_lenL (c.body.length:Nat);have:(ah (wSt N) (bJ N st c.params).2 c.body).1.length=(numB (c.body.length:Nat)).length+(wAll (wSt N) (bJ N st c.params).2 c.body).1.length:=by unfold ah;rw[μ]
 simp only[μ];omega
def zj (c:Ac) (st:σ) (h:szAc c<1000000):(wAc N st c).1.length<=63+81*(szAc c-1):=by
 unfold szAc at h ⊢;unfold wAc;have:=textB_lenL c.name;have:=numB_lenL c.slots;have:=xO N c.params st ω;have:=xY (f:=wVr N) (c:=45) (l:=c.vars) (λx _ hx st=>wVr_len N x st hx) ω (bJ N st c.params).2;have:=xY (f:=wHd N) (c:=81) (l:=c.on) (λx _ hx st=>wHd_len N x st hx) ω (ah (wVr N) (bJ N st c.params).2 c.vars).2;simp only[μ];omega
def wAcP_len (c:Ac) (st:σ) (h:szAc c<1000000):(wAcP N st c).1.length<=81*szAc c:=by
 unfold wAcP;have:=zj N c st h;have:=numB_lenL c.policy;have:=numB_lenL c.most;have:1<=szAc c:=by unfold szAc;omega
 simp only[μ];omega
end
def AU {p:Pg} (h:szPg p<=4000):(hX p).length<=400000:=by
 unfold szPg at h;unfold hX;have:=xY (f:=wDcl nm0N) (c:=36) (l:=p.types) (λx _ hx st=>yM _ x st hx) ω ();have:=xY (f:=wEff nm0N) (c:=36) (l:=p.effects) (λx _ hx st=>wEff_len _ x st hx) ω ();have:=xY (f:=wFn nm0N) (c:=45) (l:=p.funs) (λx _ hx st=>zi _ x st hx) ω ();have:=xY (f:=wAcP nm0N) (c:=81) (l:=p.actors) (λx _ hx st=>wAcP_len _ x st hx) ω ();simp only[μ];omega
def xM (l:List (List UInt8)) (s:List UInt8) (h:s∈l):∃i,idxP l s=some i/\i<l.length/\l[i]?=some s:=by
 obtain⟨i,a,d⟩:=yC l s h;exact⟨i,a,d,(cg _ _ _ _ a).2⟩
theorem xP (g:Nat->Nat):∀(m:Nat) (F:List Nat),F.Nodup->(∀n∈F,n<m)->(F.map g).sum<=((List.range m).map g).sum
 | 0,F,_,h=>by
  cases F with
  | nil=>simp
  | cons x F=>exact absurd (h x List.mem_cons_self) (Nat.not_lt_zero _)
 | m+1,F,hn,h=>by
  rw[List.range_succ,List.map_append,List.sum_append]
  by_cases hm:m∈F
  ·have hp:=List.perm_cons_erase hm
   have h1:=xP g m (F.erase m) (hn.erase m) (λn hx=>by
    have:=(hn.mem_erase_iff).1 hx
    have:=h n this.2;omega)
   have h2:(F.map g).sum=g m+((F.erase m).map g).sum:=by
    have:=(hp.map g).sum_nat;rw[this,List.map_cons,List.sum_cons]
   simp only[List.map_cons,List.map_nil,List.sum_cons,List.sum_nil];omega
  have h1:=xP g m F hn (λn hx=>by
   have:=h n hx;have:n≠m:=λe=>hm (e▸hx);omega)
  omega
theorem yg {α:Type} (f:α->Nat):∀l:List α,((List.range l.length).map λi=>(l[i]?).elim 0 f).sum=sumN f l
 | []=>rfl
 | x::l=>by
  rw[δ,List.range_succ_eq_map,List.map_cons,List.sum_cons,List.map_map,sumN]
  have:=yg f l
  simp only[List.getElem?_cons_zero]
  rw[<-this]
  rfl
structure Dg.ext (a b:Dg):Prop where
 f:a.funs <+: b.funs
 n:a.names <+: b.names
def dg_inv (a:Dg):NmInv dgN (Dg.ext a) (λ_=>True) λ_=>True where
 num st n h _:=by
  simp only[dgN]
  cases posI st.funs n with
  | some i=>exact h
  | none=>exact⟨h.f.trans (List.prefix_append _ _),h.n⟩
 nam st s h _:=by
  simp only[dgN];split
  ·exact h
  exact⟨h.f,h.n.trans (List.prefix_append _ _)⟩
def Dg.ext_refl (a:Dg):a.ext a:=⟨List.prefix_refl _,List.prefix_refl _⟩
def Dg.ext.tr {a b c:Dg} (h:a.ext b) (k:b.ext c):a.ext c:=⟨h.f.trans k.f,h.n.trans k.n⟩
def ext_fn (st:Dg) (f:Fn):st.ext (wFn dgN st f).2:=uD (dg_inv st) f st f.refs_any st.ext_refl
def zm (st:Dg) (f:Dcl):st.ext (wDcl dgN st f).2:=sx (dg_inv st) f st f.refs_any st.ext_refl
theorem yS (p:Pg):∀(k i:Nat) (st:Dg),st.ext (bZ p k i st).2
 | 0,i,st=>st.ext_refl
 | k+1,i,st=>by
  rw[bZ]
  split
  ·exact st.ext_refl
  split
  ·exact st.ext_refl
  exact (ext_fn st _).tr (yS p k _ _)
theorem yT (p:Pg):∀(k i:Nat) (st:Dg),st.ext (cC p k i st).2
 | 0,i,st=>st.ext_refl
 | k+1,i,st=>by
  rw[cC]
  split
  ·exact st.ext_refl
  split
  ·exact st.ext_refl
  exact (zm st _).tr (yT p k _ _)
theorem yA {p:Pg} (hd:DigOk p):∀(k i:Nat) (st:Dg),DgOk p st->DgOk p (bZ p k i st).2
 | 0,i,st,h=>h
 | k+1,i,st,h=>by
  rw[bZ]
  split
  ·exact h
  split
  ·exact h
  rename_i f hf
  exact yA hd k _ _ (hd.fn f (List.mem_of_getElem? hf) st h)
theorem yB {p:Pg} (hd:DigOk p):∀(k i:Nat) (st:Dg),DgOk p st->DgOk p (cC p k i st).2
 | 0,i,st,h=>h
 | k+1,i,st,h=>by
  rw[cC]
  split
  ·exact h
  split
  ·exact h
  rename_i f hf
  exact yB hd k _ _ (hd.ty f (List.mem_of_getElem? hf) st h)
def yU {a b:List α} (h:a <+: b) {i:Nat} {x:α} (hx:a[i]?=some x):b.drop i=x::b.drop (i+1):=by
 obtain⟨c,rfl⟩:=h;have d:=(List.getElem?_eq_some_iff.1 hx).1;have:(a++c)[i]?=some x:=by rw[List.getElem?_append_left d];exact hx
 obtain⟨j,g⟩:=List.getElem?_eq_some_iff.1 this;rw[List.drop_eq_getElem_cons j,g]
def fnSz (p:Pg) (n:Nat):Nat:=(p.funs[n]?).elim 0 λf=>45*szFn f
def tySz (p:Pg) (n:Nat):Nat:=(p.types[n]?).elim 0 λf=>36*hZ f
theorem yi {p:Pg} (hs:szPg p<=4000):∀(k i:Nat) (st:Dg),(bZ p k i st).1.length<=(((bZ p k i st).2.funs.drop i).map λn=>fnSz p n.toNat).sum
 | 0,i,st=>Nat.zero_le _
 | k+1,i,st=>by
  rw[bZ]
  split
  ·exact Nat.zero_le _
  rename_i n hn
  split
  ·exact Nat.zero_le _
  rename_i f hf
  have h1:=yi hs k (i+1) (wFn dgN st f).2
  have h2:=yU ((ext_fn st f).tr (yS p k (i+1) (wFn dgN st f).2)).f hn
  simp only
  rw[h2,List.map_cons,List.sum_cons,μ]
  have h3:szFn f<=4000:=by
   have:=co (f:=szFn) (List.mem_of_getElem? hf);unfold szPg at hs;omega
  have d:=zi dgN f st ω;have a:fnSz p n.toNat=45*szFn f:=by unfold fnSz;rw[hf];rfl
  omega
theorem yk {p:Pg} (hs:szPg p<=4000):∀(k i:Nat) (st:Dg),(cC p k i st).1.length<=(((cC p k i st).2.names.drop i).map λs=>tySz p ((idxP p.tyNames s).getD 0)).sum
 | 0,i,st=>Nat.zero_le _
 | k+1,i,st=>by
  rw[cC]
  split
  ·exact Nat.zero_le _
  rename_i n hn
  split
  ·exact Nat.zero_le _
  rename_i f hf
  have h1:=yk hs k (i+1) (wDcl dgN st f).2
  have h2:=yU ((zm st f).tr (yT p k (i+1) (wDcl dgN st f).2)).n hn
  simp only
  rw[h2,List.map_cons,List.sum_cons,μ]
  have h3:hZ f<=4000:=by
   have:=co (f:=hZ) (List.mem_of_getElem? hf);unfold szPg at hs;omega
  have d:=yM dgN f st ω;have a:tySz p ((idxP p.tyNames n).getD 0)=36*hZ f:=by unfold tySz;rw[hf];rfl
  omega
theorem xQ {α:Type} {f:α->Nat}:∀{l:List α},l.Nodup->(∀a∈l,∀b∈l,f a=f b->a=b)->(l.map f).Nodup
 | [],_,_=>List.nodup_nil
 | x::l,h,hi=>by
  rw[List.map_cons,List.nodup_cons]
  rw[List.nodup_cons] at h
  refine⟨λhm=>?_,xQ h.2 (λa ha b hb=>hi a (List.mem_cons_of_mem _ ha) b (List.mem_cons_of_mem _ hb))⟩
  obtain⟨y,hy,e⟩:=List.mem_map.1 hm
  exact h.1 (hi y (List.mem_cons_of_mem _ hy) x List.mem_cons_self e▸hy)
def AR {p:Pg} (hs:szPg p<=4000) (hd:DigOk p) {a:Ac} (ha:a∈p.actors):(je p a).length<=1000000:=by
 have r:=hs;unfold szPg at r;have E:=co (f:=szAc) ha;have F:=zj dgN a dg0 ω;have u:DgOk p dg0:=⟨List.nodup_nil,(λn h=>by cases h),List.nodup_nil,(λn h=>by cases h)⟩
 have t:=hd.ac a ha _ u;have d:=yA hd (p.funs.length+1) 0 _ t;have g:=yB hd (p.types.length+1) 0 _ d;have B:=yi hs (p.funs.length+1) 0 (wAc dgN dg0 a).2;have A:=yk hs (p.types.length+1) 0 (bZ p (p.funs.length+1) 0 (wAc dgN dg0 a).2).2;rw[List.drop_zero] at B A
 have H:((bZ p (p.funs.length+1) 0 (wAc dgN dg0 a).2).2.funs.map λn=>fnSz p n.toNat).sum<=45*sumN szFn p.funs:=by
  have:=xP (fnSz p) p.funs.length ((bZ p (p.funs.length+1) 0 (wAc dgN dg0 a).2).2.funs.map Int.toNat)
   (xQ d.nf (λx hx y hy e=>by have:=d.rf x hx;have:=d.rf y hy;omega)) (λn hn=>by obtain⟨x,hx,rfl⟩:=List.mem_map.1 hn;have:=d.rf x hx;omega)
  rw[List.map_map] at this;refine ψ this ?_;have:=yg (λf=>45*szFn f) p.funs;unfold fnSz;rw[this];exact ya (λx _=>υ _)
 have G:((cC p (p.types.length+1) 0 (bZ p (p.funs.length+1) 0 (wAc dgN dg0 a).2).2).2.names.map λs=>tySz p ((idxP p.tyNames s).getD 0)).sum<=36*sumN hZ p.types:=by
  have:=xP (tySz p) p.types.length ((cC p (p.types.length+1) 0 (bZ p (p.funs.length+1) 0 (wAc dgN dg0 a).2).2).2.names.map λs=>(idxP p.tyNames s).getD 0)
   (xQ g.nn (λx hx y hy e=>by
     obtain⟨i,l,v,q⟩:=xM p.tyNames x (g.rn x hx);obtain⟨j,z,D,k⟩:=xM p.tyNames y (g.rn y hy);rw[l,z] at e;simp only[Option.getD_some] at e;subst e;rw[q] at k;exact Option.some.inj k)) (λn hn=>by
     obtain⟨x,hx,rfl⟩:=List.mem_map.1 hn;obtain⟨i,l,v,-⟩:=xM p.tyNames x (g.rn x hx);rw[l];simp only[Option.getD_some];have:p.tyNames.length=p.types.length:=by unfold Pg.tyNames;simp
     omega)
  rw[List.map_map] at this;refine ψ this ?_;have:=yg (λf=>36*hZ f) p.types;unfold tySz;rw[this];exact ya (λx _=>υ _)
 unfold je;simp only[μ];omega
structure BPre (p:Pg):Prop where
 fit:Fit p 4000
 len:(hX p).length<=400000
 dig:aW p 4000=true->DigOk p
 rd:aW p 4000=true->p.rd
 run:aW p 4000=true->∀a∈p.actors,(je p a).length<=1000000
def bpre_of {p:Pg} (h:szPg p<=4000):BPre p:=
 ⟨py h,AU h,λhr=>zf (zc h) hr,λhr=>rd_ok (zc h) hr (uK h) (sz_tdeep h) (by decide),λhr a ha=>AR h (zf (zc h) hr) ha⟩
section
variable {p:Pg} {W:World} {A0 A1 A2 A3:Option Addr} {q0 q1 q2 q3:Nat} (hp:BPre p) (h:PgAt W A0 A1 A2 A3 q0 q1 q2 q3 p)
include hp h
theorem At {r:Bool} (hr:aW p 4000=r):Calls prog 11 #[.agg #[.slice A0 p.types.length q0,.slice A1 p.effects.length q1,.slice A2 p.funs.length q2,.slice A3 p.actors.length q3]] W λe w'=>e=.returned (.bool r)/\Below W.heap.size W w':=by
 subst hr;exact dl h hp.fit
theorem Au {s:ByteArray} (hs:⟨(lJ p 4000).toArray⟩=s):Calls prog 9 #[.agg #[.slice A0 p.types.length q0,.slice A1 p.effects.length q1,.slice A2 p.funs.length q2,.slice A3 p.actors.length q3]] W λe w'=>e=.returned (.string s)/\Below W.heap.size W w':=by
 subst hs;exact qo h hp.fit (by have:=hp.len;unfold wTop;omega)
theorem b_dig (hR:ShaT.Rounds W) {l:List Nat} (hl:digP p 4000 [77,97,105,110]=l):Calls prog 12 #[.agg #[.slice A0 p.types.length q0,.slice A1 p.effects.length q1,.slice A2 p.funs.length q2,.slice A3 p.actors.length q3],.string ⟨#[77,97,105,110]⟩] W λe w'=>e=.returned (.agg (ShaT.u8s l))/\Below W.heap.size W w':=by
 subst hl;exact oS h hp.fit hR hp.dig (by decide) hp.run
theorem b_same {B0 B1 B2 B3:Option Addr} {r0 r1 r2 r3:Nat} (h':PgAt W B0 B1 B2 B3 r0 r1 r2 r3 p):Calls prog 13 #[.agg #[.slice A0 p.types.length q0,.slice A1 p.effects.length q1,.slice A2 p.funs.length q2,.slice A3 p.actors.length q3],.agg #[.slice B0 p.types.length r0,.slice B1 p.effects.length r1,.slice B2 p.funs.length r2,.slice B3 p.actors.length r3]] W λe w'=>e=.returned (.bool true)/\Below W.heap.size W w':=
 uR (AN p) ⟨_,_,_,_,rfl,h.t,h.e,h.f,h.a⟩ ⟨_,_,_,_,rfl,h'.t,h'.e,h'.f,h'.a⟩
end
def b_read {p:Pg} (hp:BPre p) (hr:aW p 4000=true) {s:ByteArray} (hs:bstr (hX p)=s) (W:World):Calls prog 10 #[.string s] W (ReadOk p W):=by
 subst hs;exact read_ok (hp.rd hr) hp.fit hr (by have:=hp.len;omega)
variable {A0 A1 A2 A3:Option Addr}
def b_size {p:Pg} {W:World} {q0 q1 q2 q3:Nat} (h:PgAt W A0 A1 A2 A3 q0 q1 q2 q3 p) (hb:szPg p<=4000000000000) {r:Bool} (hr:decide (szPg p<=4000)=r):Calls prog 8 #[.agg #[.slice A0 p.types.length q0,.slice A1 p.effects.length q1,.slice A2 p.funs.length q2,.slice A3 p.actors.length q3]] W (aE r W):=by
 subst hr;exact iR h hb
def Bj {p:Pg} {w:World} {q0 q1 q2 q3:Nat} (hR:ShaT.Rounds w) (h:PgAt w A0 A1 A2 A3 q0 q1 q2 q3 p) (hb:szPg p<=4000000000000):Calls prog 3 #[.agg #[.slice A0 p.types.length q0,.slice A1 p.effects.length q1,.slice A2 p.funs.length q2,.slice A3 p.actors.length q3]] w (aE true w):=by
 obtain⟨W1,J⟩:=γ (w.alloc (.cells #[.slice A0 p.types.length q0,.slice A1 p.effects.length q1,.slice A2 p.funs.length q2,.slice A3 p.actors.length q3] 27))
 have C1:Hid (Hs W1 w.heap.size 27 #[.slice A0 p.types.length q0,.slice A1 p.effects.length q1,.slice A2 p.funs.length q2,.slice A3 p.actors.length q3]):=by rw[J];exact Hs.new _ _ _
 have G:Hid (Below w.heap.size w W1):=by rw[J];exact ζ1
 obtain⟨ag,HR,ah,ai⟩:=zd4 J (hR.mono G.o) hb (h.bel G.o);clear J hR h hb;go_enter func3,ntmps3;go_upto_region 1 with (fail);rw[<-ag.o];clear ag;go_upto_region 2 with (go_at_call 7;refine (pU HR.o).mono ?_;rintro e2 w2 ⟨rfl,t⟩);obtain⟨N,M,R2,H⟩:=zd4 (aH C1.o t) (ai.o.bel t) (HR.o.mono t) (bel G.o t);clear t C1 ai HR G;have y:=N.o.c 0;have x:=N.o.c 1;have v:=N.o.c 2;have u:=N.o.c 3;by_cases U:szPg p<=4000
 ·have HS:=η (decide_eq_true U);have j:=η (bpre_of U);clear U;go_upto_region 4 with (go_at_call 8;refine (b_size M.o ah.o HS.o).mono ?_;rintro e3 w3 ⟨rfl,i⟩);obtain⟨E,q,R3,F⟩:=zd4 (aH N.o i) (M.o.bel i) (R2.o.mono i) (bel H.o i);clear i N M R2 H y x v u;have y:=E.o.c 0;have x:=E.o.c 1;have v:=E.o.c 2;have u:=E.o.c 3
  cases hr:aW p 4000 with
  | false =>
   have D:Hid ((⟨(lJ p 4000).toArray⟩:ByteArray)=bstr []):=by show _=_;unfold lJ;rw[hr];rfl
   obtain⟨z,hz⟩:∃z:List Nat,z=List.replicate 32 0:=⟨_,rfl⟩
   have a7:Hid (digP p 4000 [77,97,105,110]=z):=by
    show _=_;rw[hz];unfold digP;rw[hr];split<;>rfl
   have B:=η hr;clear hr;go_upto_region 5 with (go_at_call 9;refine (Au j.o q.o D.o).mono ?_;rintro e4 R ⟨rfl,d⟩);obtain⟨Y,A,X,Z⟩:=zd4 (aH E.o d) (q.o.bel d) (R3.o.mono d) (bel F.o d);clear d E q R3 F y x v u;go_upto_region 6 with (go_at_call 10;refine (read_fail).mono ?_;rintro e5 O ⟨rfl,r⟩);obtain⟨V,g⟩:=γ (O.alloc (.cells #[.slice none 0 0,.slice none 0 0,.slice none 0 0,.slice none 0 0] 27))
   have a:Below R.heap.size R V:=by rw[g];exact belA r _
   obtain⟨k,l,R5,B5⟩:=zd4 (aH Y.o a) (A.o.bel a) (X.o.mono a) (bel Z.o a);rw[<-g];clear r a g Y A X Z;have y:=k.o.c 0;have x:=k.o.c 1;have v:=k.o.c 2;have u:=k.o.c 3;have kz:∀W,(binOp .eql 34 (.agg (ShaT.u8s z)) (.agg #[.int .u8 0,.int .u8 0,.int .u8 0,.int .u8 0,.int .u8 0,.int .u8 0,.int .u8 0,.int .u8 0,.int .u8 0,.int .u8 0,.int .u8 0,.int .u8 0,.int .u8 0,.int .u8 0,.int .u8 0,.int .u8 0,.int .u8 0,.int .u8 0,.int .u8 0,.int .u8 0,.int .u8 0,.int .u8 0,.int .u8 0,.int .u8 0,.int .u8 0,.int .u8 0,.int .u8 0,.int .u8 0,.int .u8 0,.int .u8 0,.int .u8 0,.int .u8 0])).run prog W=.ok (.bool true) W:=λW=>by rw[hz,<-z32_eq,vh (c:=true) (by simp) (by simp) (by decide) W]
   clear hz;have ax:(bstr []).toList=[]:=by rw[ByteArray.toList_eq];rfl
   have bn:(ByteArray.toList (bstr [])).isEmpty=true:=by rw[ax];rfl
   go_upto_region 7 with (go_at_call 11;refine (At j.o l.o B.o).mono ?_;rintro e6 w6 ⟨rfl,a⟩;have b0:=belC a y;have b1:=belC a x;have b2:=belC a v;have b3:=belC a u;have L:=η (l.o.bel a);have R6:=η (R5.o.mono a);have a8:=η a;clear a);go_wp2_with (go_at_call 12;refine (b_dig j.o L.o R6.o a7.o).mono ?_;rintro e7 w7 ⟨rfl,ay⟩);go_ret;exact⟨rfl,bel (bel B5.o a8.o) ay⟩
  | true =>
   have D:Hid ((⟨(lJ p 4000).toArray⟩:ByteArray)=bstr (hX p)):=by show _=_;unfold lJ;rw[hr];rfl
   have B:=η hr;clear hr;obtain⟨s,T⟩:=γ (bstr (hX p))
   rw[<-T] at D;have a6:=η T.symm;clear T;go_upto_region 5 with (go_at_call 9;refine (Au j.o q.o D.o).mono ?_;rintro e4 R ⟨rfl,d⟩);obtain⟨Y,A,X,Z⟩:=zd4 (aH E.o d) (q.o.bel d) (R3.o.mono d) (bel F.o d);clear d E q R3 F y x v u;go_upto_region 6 with (go_at_call 10;refine (b_read j.o B.o a6.o _).mono ?_;rintro e5 O ⟨B0,G,H,F,r0,r1,r2,r3,rfl,af,r⟩);obtain⟨V,g⟩:=γ (O.alloc (.cells #[.slice B0 p.types.length r0,.slice G p.effects.length r1,.slice H p.funs.length r2,.slice F p.actors.length r3] 27))
   have a:Below R.heap.size R V:=by rw[g];exact belA r _
   have D5:Hid (Hs V O.heap.size 27 #[.slice B0 p.types.length r0,.slice G p.effects.length r1,.slice H p.funs.length r2,.slice F p.actors.length r3]):=by rw[g];exact Hs.new _ _ _
   have Q5:Hid (PgAt V B0 G H F r0 r1 r2 r3 p):=by rw[g];exact af.bel ζ1
   obtain⟨k,l,R5,B5⟩:=zd4 (aH Y.o a) (A.o.bel a) (X.o.mono a) (bel Z.o a);rw[<-g];clear r a af g Y A X Z;have y:=k.o.c 0;have x:=k.o.c 1;have v:=k.o.c 2;have u:=k.o.c 3;go_upto_region 8 with (go_at_call 11;refine (At j.o l.o B.o).mono ?_;rintro e6 w6 ⟨rfl,a⟩);obtain⟨C6,D6,L,Q6,R6,B6⟩:=zd6 (aH k.o a) (aH D5.o a) (l.o.bel a) (Q5.o.bel a) (R5.o.mono a) (bel B5.o a);clear a k D5 l Q5 R5 B5 y x v u;obtain⟨dl,I⟩:∃z,digP p 4000 [77,97,105,110]=z:=⟨_,rfl⟩
   have kd:∀W,(binOp .eql 34 (.agg (ShaT.u8s dl)) (.agg (ShaT.u8s dl))).run prog W=.ok (.bool true) W:=λW=>by rw[vh (c:=true) (by rw[<-I];exact ml _ _ _) (by rw[<-I];exact ml _ _ _) (beq_self_eq_true dl) W]
   obtain⟨aj,H1,H2⟩:=zd3 I C6.o D6.o;clear I;try simp only[Act.put]
   refine wp_region_quiet_below (by kernel_rfl) (by kernel_rfl) ?_
   repeat (first
    | (go_big_quiet_want;refine dh 27 _ rfl w.heap.size rfl 27 _ _ _ (eL H1.o) underlying27 rfl (by kernel_rfl) ?_;go_frame;go_big_quiet_on)
    | (go_big_quiet_want;refine dh 27 _ rfl O.heap.size rfl 27 _ _ _ (eL H2.o) underlying27 rfl (by kernel_rfl) ?_;go_frame;go_big_quiet_on)
    | go_big_quiet_step (first
     | (go_at_call 13;with_reducible exact Calls.regrown_of (b_same j.o (L.o.bel (below_regrown _ _ _)) (Q6.o.bel (below_regrown _ _ _))))
     | (go_at_call 11;with_reducible exact Calls.regrown_of (At j.o (Q6.o.bel (below_regrown _ _ _)) B.o))
     | (go_at_call 9;with_reducible exact Calls.regrown_of (Au j.o (Q6.o.bel (below_regrown _ _ _)) D.o))
     | (go_at_call 12;with_reducible exact Calls.regrown_of (b_dig j.o (L.o.bel (below_regrown _ _ _)) (R6.o.mono (below_regrown _ _ _)) aj.o))
     | (go_at_call 12;with_reducible exact Calls.regrown_of (b_dig j.o (Q6.o.bel (below_regrown _ _ _)) (R6.o.mono (below_regrown _ _ _)) aj.o))))
   refine wpQuiet_nil ?_;intro _ aw;obtain⟨⟨dq,bm⟩,ap⟩:=aw;subst ap;go_wp2_with fail;go_ret;exact⟨rfl,bel B6.o (below_regrown _ _ _)⟩
 have HS:=η (decide_eq_false U);clear U;go_wp2_with (go_at_call 8;refine (b_size M.o ah.o HS.o).mono ?_;rintro e3 w3 ⟨rfl,i⟩);go_ret;exact⟨rfl,bel H.o i⟩
end
end Go.Proofs.YtjohpidklbhmcaaGreatDoor
