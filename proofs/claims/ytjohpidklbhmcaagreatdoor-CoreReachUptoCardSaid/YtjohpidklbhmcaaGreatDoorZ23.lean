/- Core -/
import Derived.Test.YtjohpidklbhmcaaGreatDoorZ20
import Derived.Deep.AppendLies
import Derived.Deep.CutBlock
namespace Go.Proofs.YtjohpidklbhmcaaGreatDoor
set_option linter.all false
open Go.Proofs.Tryz
open Go.RowKit Go.Maps Go.WideMaps Go.ChangeMaps
def oneI (l:List Int):Int->Option Value:=λi=>if i∈l then some (true:Vl) else none
def sS (l:List Int) (n:Int):upd (oneI l) n (some (true:Vl))=oneI (n::l):=by
 funext i;unfold upd oneI;by_cases e:i=n
 ·simp[e]
 simp[e]
def i9 (l:List Int) (n:Int):(oneI l n).getD (false:Vl)=.bool (decide (n∈l)):=by
 unfold oneI;by_cases e:n∈l
 ·simp[e]
 simp[e]
def uU (l:List Int) (n:Int):(oneI l n).isSome=decide (n∈l):=by
 unfold oneI;by_cases e:n∈l
 ·simp[e]
 simp[e]
def IntR (cs:List Value) (n:Int):Prop:=cs=[.int .i64 n]/\i64 n
abbrev IntsR (w:World) (P:Nat->Prop) (v:Value) (l:List Int):Prop:=SlR w P 1 IntR v l
variable {w':World}
def IntsR.to {w:World} {P P':Nat->Prop} {v:Value} {l:List Int} (h:IntsR w P v l) (hb:Sub P P' w w'):IntsR w' P' v l:=SlR.to' h hb λ_ _ x=>x
variable {A:Option Addr} {i:Nat}
def mA {w:World} {P:Nat->Prop} {n cap:Nat} {l:List Int} (h:IntsR w P (.slice A n cap) l) (hi:i<l):
 ∃g off,A=some ⟨g,off,none⟩/\P g/\w.cell? ⟨g,off+i,none⟩=some (.int .i64 l[i])/\i64 l[i]:=by
 obtain⟨g,off,j,e,b,⟨rfl,a⟩,f,d⟩:=SlR.at h hi;exact⟨g,off,e,b,by simpa using d 0 _ rfl,a⟩
structure ArmRel (mb:Nat) (own:Nat->Prop) (Rel:World->World->Prop):Prop where
 refl:∀w,Rel w w
 trans:∀{a b c},Rel a b->Rel b c->Rel a c
 bel:∀{a b c},Rel a b->Below a b c->Rel a c
 stm:∀{a b c},Rel a b->Stm mb b c->Rel a c
 stp:∀{a b},Rel a b->Stp own a b
def InvOk {σ:Type} (mb:Nat) (own:Nat->Prop) (Inv:(Nat->Prop)->σ->World->Prop):Prop:=
 ∀(O O':Nat->Prop) (st:σ) (w w':World),Inv O st w->Sub (im O w) (im O' w') w w'->(∀b,own b->b≠mb->w'.heap[b]?=w.heap[b]?)->(∀b,own b->O' b)->Inv O' st w'
def kO {σ:Type} (own:Nat->Prop) (mb sb:Nat) (Rel:World->World->Prop) (Inv:(Nat->Prop)->σ->World->Prop) (sc:Sc) (w:World) (r:Option σ) (e:Ending) (w':World):Prop:=
 Rel w w'/\e=.returned (r.isSome:Vl)/\∀st,r=some st->Inv own st w'/\ScS w' own mb sb sc
def mq {σ:Type} (call:Int->World->(Ending->World->Prop)->Prop) (N:Nat) (p:Pg) (own:Nat->Prop) (mb sb:Nat) (Rel:World->World->Prop) (Inv:Nat->(Nat->Prop)->σ->World->Prop) (body:σ->Nat->Sc->Option σ) (w0:World):Prop:=
 ∀(i g:Nat) (sc:Sc) (st:σ) (w:World),i<N->w0<=g->g<w->Rel w0 w->Inv i (plus own g) st w->ScS w (plus own g) mb sb sc->ScOk p sc ->
  call (i:Int) w (kO (plus own g) mb sb Rel (Inv (i+1)) sc w (body st i sc))
def jK (sc:Sc) (ctors:List Ctr) (seen:List Int) (n m:Int):Bool:=(decide (n≠-1)&&!az n ctors)||decide (m<0)||decide (sc.slots<m)||decide (-1∈seen)||decide (n∈seen)
def kZ (ctors:List Ctr) (n:Int):List Fld:=if n=-1 then [] else (match ctors[n.toNat]? with|none=>[]|some c=>c.fields)
section
variable {σ:Type} {sc:Sc} {ctors:List Ctr} {body:σ->Nat->Sc->Option σ} {i:Nat} {seen:List Int} {st:σ} {ns ms:List Int} {j:Nat}
def qr (h1:j<ns) (h2:j<ms):bz sc ctors body i seen st ((ns.zip ms).drop j)=if jK sc ctors seen ns[j] ms[j] then none else match bindAll sc ms[j] (kZ ctors ns[j]) with|none=>none|some sc'=>match body st i sc' with|none=>none|some st'=>bz sc ctors body (i+1) (ns[j]::seen) st' ((ns.zip ms).drop (j+1)):=by
 have a:j<(ns.zip ms).length:=by rw[List.length_zip];omega
 rw[bk a,List.getElem_zip,bz];rfl
def oW (h1:¬j<ns):bz sc ctors body i seen st ((ns.zip ms).drop j)=if decide (-1∈seen)||decide (seen.length=ctors) then some st else none:=by
 rw[ε (by rw[List.length_zip];omega),bz]
end
variable {sc sc1:Sc} {l:List Fld}
def lz {m:Int} {f:Fld} (h:bindAll sc m l=some sc1):bindAll sc m (l++[f])=sc1.bind (m+l) f.type:=by
 induction l generalizing sc m with
 | nil=>injection h with h;subst h;simp[bindAll];cases sc.bind m f.type<;>rfl
 | cons x l ih =>
  rw[List.cons_append,bindAll];rw[bindAll] at h
  cases hb:sc.bind m x.type with
  | none=>rw[hb] at h;cases h
  | some sc' =>
   rw[hb] at h;show bindAll sc' (m+1) (l++[f])=_;rw[ih h];simp only[δ];congr 1;omega
def ny {m:Int} {r:List Fld} (h:bindAll sc m l=none):bindAll sc m (l++r)=none:=by
 induction l generalizing sc m with
 | nil=>cases h
 | cons x l ih =>
  rw[List.cons_append,bindAll];rw[bindAll] at h
  cases hb:sc.bind m x.type with
  | none=>rfl
  | some sc'=>rw[hb] at h;exact ih h
structure Bound (sc sc1:Sc) (m:Int) (t:Nat):Prop where
 slots:sc1.slots=sc.slots
 vars:sc1.vars=sc.vars
 actor:sc1.actor=sc.actor
 oo:∀j,¬(m<=j/\j<m+t)->sc1.bound j=sc.bound j
 free:∀j,m<=j/\j<m+t->sc.bound j=none
 le:t=0\/m+t<=sc.slots
def Bound.o {m:Int} {t:Nat} (h:Bound sc sc1 m t):∀j,¬(m<=j/\j<m+t)->sc1.bound j=sc.bound j:=h.oo
variable {t:Ty}
def mV {i:Int} (h:sc.bind i t=some sc1):sc.bindB i=true/\sc1=sc.set i t:=by
 unfold Sc.bind at h;split at h
 ·rename_i a;injection h with h;exact⟨a,h.symm⟩
 cases h
def jy {m:Int} (h:bindAll sc m l=some sc1):Bound sc sc1 m l:=by
 induction l generalizing sc m with
 | nil=>injection h with h;subst h;exact⟨rfl,rfl,rfl,λ_ _=>rfl,λj hj=>by simp at hj;omega,.inl rfl⟩
 | cons x l ih =>
  rw[bindAll] at h
  cases hb:sc.bind m x.type with
  | none=>rw[hb] at h;cases h
  | some sc' =>
   rw[hb] at h;obtain⟨b,rfl⟩:=mV hb;have a:=ih h;simp only[Sc.bindB,Bool.not_eq_true',Bool.or_eq_false_iff,decide_eq_false_iff_not] at b;obtain⟨⟨d,k⟩,i⟩:=b;have f:sc.bound m=none:=by cases hx:sc.bound m with|none=>rfl|some _=>rw[hx] at d;cases d
   refine⟨a.slots,a.vars,a.actor,λj hj=>?_,λj hj=>?_,.inr ?_⟩
   ·simp only[δ] at hj;rw[a.o j ω];show (if j=m then _ else _)=_;rw[if_neg ω]
   ·simp only[δ] at hj;by_cases e:j=m
    ·subst e;exact f
    have:=a.free j ω;have g:(sc.set m x.type).bound j=sc.bound j:=if_neg e;rw[g] at this;exact this
   simp only[δ];rcases a.le with h0|h0
   ·rw[h0];omega
   have:(sc.set m x.type).slots=sc.slots:=rfl;omega
def Sc.unsetTo (sc:Sc) (m:Int) (t:Nat):Sc:={ sc with bound:=λj=>if m<=j/\j<m+t then none else sc.bound j }
def lg (sc:Sc) (m:Int):sc.unsetTo m 0=sc:=by
 unfold Sc.unsetTo
 cases sc
 congr 1;funext j;rw[if_neg ω]
def li (sc:Sc) (m:Int) (t:Nat):(sc.unsetTo m t).unset (m+t)=sc.unsetTo m (t+1):=by
 unfold Sc.unsetTo Sc.unset;congr 1;funext j;by_cases e:j=m+t
 ·subst e;rw[if_pos rfl,if_pos ω]
 simp only[e,if_false];by_cases h:m<=j/\j<m+t
 ·rw[if_pos h,if_pos ω]
 rw[if_neg h,if_neg ω]
def mY {m:Int} {t:Nat} (h:Bound sc sc1 m t):sc1.unsetTo m t=sc:=by
 have g:=h.slots;have f:=h.vars;have d:=h.actor;have b:=h.o;have a:=h.free;unfold Sc.unsetTo
 cases sc
 cases sc1
 simp only at g f d b a ⊢;subst g f d;congr 1;funext j;by_cases e:m<=j/\j<m+t
 ·rw[if_pos e,a j e]
 rw[if_neg e,b j e]
theorem ScOk.bindAll {p:Pg} {m:Int} (h:ScOk p sc) (hl:∀f∈l,ag f.type=true) (hb:bindAll sc m l=some sc1):ScOk p sc1:=by
 induction l generalizing sc m with
 | nil=>injection hb with hb;subst hb;exact h
 | cons x l ih =>
  rw[Go.Proofs.YtjohpidklbhmcaaGreatDoor.bindAll] at hb
  cases hx:sc.bind m x.type with
  | none=>rw[hx] at hb;cases hb
  | some sc' =>
   rw[hx] at hb;obtain⟨_,rfl⟩:=mV hx;exact ih (h.set (hl x Θ)) (λf hf=>hl f (by simp[hf])) hb
def varP_mem {p:Pg} {cs:List Ctr} (h:varP p t=some cs):∃d∈p.types,d.ctors=cs:=by
 unfold varP at h;split at h
 ·split at h
  ·cases h
  split at h
  ·cases h
  rename_i d a;split at h
  ·cases h
  injection h with h;exact⟨d,List.mem_of_getElem? a,h⟩
 cases h
def lB {p:Pg} {cs:List Ctr} (hF:Fine p) (h:varP p t=some cs) (n:Int):∀f∈kZ cs n,ag f.type=true:=by
 obtain⟨d,e,rfl⟩:=varP_mem h;intro f a;unfold kZ at a;split at a
 ·cases a
 split at a
 ·cases a
 rename_i k b;exact hF.flds d e k (List.mem_of_getElem? b) f a
section
variable {σ:Type} {mb:Nat} {own:Nat->Prop} {Inv:(Nat->Prop)->σ->World->Prop} {Rel:World->World->Prop} {st:σ} {w w':World}
def InvOk.stm (h:InvOk mb own Inv) {O:Nat->Prop} (hs:Stm mb w w') (hO:∀b,own b->O b) (hmb:own mb) (hl:∀b,own b->b<w.heap.size) (hi:Inv O st w):Inv O st w':=
 h O O st w w' hi (hs.subO (hO _ hmb)) (λb hb hne=>hs.s.block b (hl b hb) hne) hO
def InvOk.bel (h:InvOk mb own Inv) {O:Nat->Prop} (hs:Below w w w') (hO:∀b,own b->O b) (hl:∀b,own b->b<w.heap.size) (hi:Inv O st w):Inv O st w':=
 h O O st w w' hi (sof hs).sub (λb hb _=>hs.block b (hl b hb)) hO
variable {g:Nat}
def InvOk.grow (h:InvOk mb own Inv) (hs:w.grownBy w' (some g)) (hl:∀b,own b->b<w.heap.size) (hg:¬own g) (hi:Inv (plus own g) st w):Inv (plus own g) st w':=
 h _ _ st w w' hi (stpG (own:=plus own g) (Stp.refl _ _) hs (λr e=>by injection e with e;subst e;exact .inl (.inr rfl))).sub (λb hb _=>hs.block b (hl b hb) (λe=>hg (by injection e with e;subst e;exact hb))) (λb hb=>.inl hb)
def InvOk.add (h:InvOk mb own Inv) (hs:Below w w w') (hg:w<=g) (hl:∀b,own b->b<w.heap.size) (hi:Inv own st w):Inv (plus own g) st w':=
 h _ _ st w w' hi (aV hs hg) (λb hb _=>hs.block b (hl b hb)) (λb hb=>.inl hb)
def InvOk.less (h:InvOk mb own Inv) (hi:Inv (plus own g) st w):Inv own st w:=
 h _ _ st w w hi oK (λ_ _ _=>rfl) (λb hb=>hb)
end
variable {sb g:Nat}
def ScS.grown {w:World} {own:Nat->Prop} {mb:Nat} (h:ScS w (plus own g) mb sb sc) (hs:w.grownBy w' (some g)) (hg:g≠mb):ScS w' (plus own g) mb sb sc:=by
 have b:mb<w:=by obtain⟨_,_,_,_,x⟩:=h;exact x.map.lt
 have a:plus own g mb:=by obtain⟨_,_,_,_,x⟩:=h;exact x.om
 exact h.sub (stpG (own:=plus own g) (Stp.refl _ _) hs (λr e=>by injection e with e;subst e;exact .inl (.inr rfl))).sub (hs.block mb b (λe=>by injection e with e;exact hg e.symm)) a
def ScS.less {w:World} {own:Nat->Prop} {mb:Nat} (h:ScS w (plus own g) mb sb sc) (ho:own mb):ScS w own mb sb sc:=h.sub oK rfl ho
def dE {own:Nat->Prop} {w:World} (hs:Stp own w w') (hg:w<=g):Sub (im own w) (im (plus own g) w') w w':=λb h=>⟨⟨ρ h.1 hs.size,λx=>by rcases x with x|x;exact h.2 x;have:=h.1;omega⟩,hs.block b h.1 h.2⟩
def ScS.slots {w:World} {own:Nat->Prop} {mb:Nat} (h:ScS w own mb sb sc):w.cell? sb=some (sc.slots:Vl)/\sc.slots<=32768/\sb≠mb:=by
 obtain⟨_,_,_,_,x⟩:=h;exact⟨x.c0,x.sl,λe=>x.isb.2 (by rw[e];exact x.om)⟩
set_option maxRecDepth 100000
set_option maxHeartbeats 2000000
section
variable {W:World} {own:Nat->Prop} {mb sb:Nat} {c:CB} {p:Pg} {sc:Sc} {wv:Value} {want:Option Ty} {n:Nat}
variable {cs:List Value}
def exprA2 (IH:xG c p mb n) (h:Env W own mb sb c p sc) (ho:ScOk p sc) (hw:WantR W (im own W) wv want) (hwo:aL want) {e:Ex} (hd:Ex.deep e<=n) (hr:ExR W (im own W) cs e):
 Calls prog 141 #[c.b,sb,.agg cs.toArray,wv] W.drew (rK W own mb sb sc (aa p n sc e want)):=
 (IH own sb sc cs e wv want _ hd (h.bel (ad W)) ho (hr.to (sof (ad W)).sub) (hw.to (sof (ad W)).sub) hwo).mono λ_ _ hx=>fV hx (ad W)
def exprB2 (IH:xG c p mb n) (h:Env W own mb sb c p sc) (ho:ScOk p sc) (hw:WantR W (im own W) wv want) (hwo:aL want) {e:Ex} (hd:Ex.deep e<=n) (hr:ExR W (im own W) cs e):
 Calls prog 141 #[c.b,sb,.agg cs.toArray,wv] ((W.alloc (.cells z3 40)).drew) (rJ W own mb sb sc (aa p n sc e want)):=
 have B:Below W W ((W.alloc (.cells z3 40)).drew):=belA (ad W) _
 (IH (plus own W) sb sc cs e wv want _ hd (h.plus B (υ _) Θ) ho (hr.to (aV B (υ _))) (hw.to (aV B (υ _))) hwo).mono λ_ _ hx=>fg hx h.mb.2
def hasA2 (IH:xG c p mb n) (h:Env W own mb sb c p sc) (ho:ScOk p sc) {e:Ex} (hd:Ex.deep e<=n) (hr:ExR W (im own W) cs e):
 Calls prog 170 #[c.b,sb,.agg cs.toArray] W.drew (rK W own mb sb sc (aa p n sc e none)):=
 (fk IH hd (h.bel (ad W)) ho (hr.to (sof (ad W)).sub)).mono λ_ _ hx=>fV hx (ad W)
def hasB2 (IH:xG c p mb n) (h:Env W own mb sb c p sc) (ho:ScOk p sc) {e:Ex} (hd:Ex.deep e<=n) (hr:ExR W (im own W) cs e):
 Calls prog 170 #[c.b,sb,.agg cs.toArray] ((W.alloc (.cells z3 40)).drew) (rJ W own mb sb sc (aa p n sc e none)):=
 have B:Below W W ((W.alloc (.cells z3 40)).drew):=belA (ad W) _
 (fk IH hd (h.plus B (υ _) Θ) ho (hr.to (aV B (υ _)))).mono λ_ _ hx=>fg hx h.mb.2
end
def QB (w:World) (qb:Nat):Prop:=∃k s A n cap,Hs w qb 40 (ty3 k s A n cap)
structure RelM (mb qb:Nat) (a b:World):Prop where
 s:Stp (plus (only mb) qb) a b
 m:MapW a mb->MapW b mb
 q:QB a qb->QB b qb
def MapW.lt {w:World} {mb:Nat} (h:MapW w mb):mb<w:=by obtain⟨_,_,h⟩:=h;exact h.lt
def MapW.same {w:World} {mb:Nat} (h:MapW w mb) (e:w'.heap[mb]?=w.heap[mb]?):MapW w' mb:=by obtain⟨n,f,h⟩:=h;exact⟨n,f,h.same e⟩
def QB.lt {w:World} {mb:Nat} (h:QB w mb):mb<w:=by obtain⟨_,_,_,_,_,h⟩:=h;exact h.lt
def QB.same {w:World} {mb:Nat} (h:QB w mb) (e:w'.heap[mb]?=w.heap[mb]?):QB w' mb:=by obtain⟨a,b,c,d,f,h⟩:=h;exact⟨a,b,c,d,f,e.trans h⟩
variable {qb:Nat}
def RelM.of_stm {mb:Nat} {a b:World} (hne:qb≠mb) (h:Stm mb a b):RelM mb qb a b:=⟨h.s.wk λ_ x=>.inl x,h.m,λx=>x.same (h.s.block qb x.lt (by unfold only;exact hne))⟩
def relM_arm {mb:Nat} {own:Nat->Prop} (hm:own mb) (hq:own qb) (hne:qb≠mb):ArmRel mb own (RelM mb qb) where
 refl w:=⟨Stp.refl _ _,id,id⟩
 trans h k:=⟨h.s.trans k.s,λx=>k.m (h.m x),λx=>k.q (h.q x)⟩
 bel h k:=⟨⟨k.os.trans h.s.os,k.tape.trans h.s.tape,k.output.trans h.s.output,ψ h.s.size k.size,λb hb ho=>(k.block b hb).trans (h.s.block b hb ho)⟩,λx=>(h.m x).same (k.block mb x.lt),λx=>(h.q x).same (k.block qb x.lt)⟩
 stm h k:=let r:=RelM.of_stm (qb:=qb) hne k;⟨h.s.trans r.s,λx=>r.m (h.m x),λx=>r.q (h.q x)⟩
 stp h:=h.s.wk λb x=>by rcases x with x|x;(unfold only at x;rw[x];exact hm);(rw[x];exact hq)
def im_set {O:Nat->Prop} {w:World} (h:O g) (k:Int) (s:ByteArray) (A:Option Addr) (n cap:Nat):Sub (im O w) (im O (set3 w g k s A n cap)) w (set3 w g k s A n cap):=λb hb=>⟨⟨by rw[bQ];exact hb.1,hb.2⟩,aq w g b k s A n cap (λe=>hb.2 (by rw[e];exact h))⟩
def InvM (qb i:Nat) (O:Nat->Prop) (st:Ty) (w:World):Prop:=O qb/\(0<i->ag st=true)/\∃k s A n cap,Hs w qb 40 (ty3 k s A n cap)/\TyR w (im O w) [.int .i64 k,.string s,.slice A n cap] st
def invM_ok {mb:Nat} {own:Nat->Prop} (hq:own qb) (hne:qb≠mb) (i:Nat):InvOk mb own (InvM qb i):=by
 intro O p j w h ⟨l,g,k,s,A,n,cap,d,a⟩ b e f;exact⟨f qb hq,g,k,s,A,n,cap,(e qb hq hne).trans d,a.to b⟩
variable {E:EF} {want:Option Ty}
def qJ {arms:List Ex} {st:Ty} {kd:Ex} (hi:i<arms) (hk:arms[i].kids=[kd]):cE E want arms st i sc=if i=0 then E sc kd want else if isE E sc kd st then some st else none:=by
 unfold cE;rw[ξ hi];simp only[hk]
def body199 {c:CB} {p:Pg} {mb n:Nat} (IH:xG c p mb n) (hF:aO p n) {O:Nat->Prop} {b1 b2 b3 b5:Nat} {arms:List Ex} {cap:Nat} {wv:Value} {kd:Ex} {st:Ty} {w:World} (he:Env w O mb sb c p sc) (ho:ScOk p sc) (h1:im O w b1) (c1:w.cell? b1=some (c.b:Vl)) (h2:im O w b2) (c2:w.cell? b2=some (sb:Vl)) (h3:im O w b3) (c3:w.cell? b3=some (.slice A arms.length cap)) (h5:im O w b5) (c5:w.cell? b5=some wv) (hqm:qb≠mb) (hin:InvM qb i O st w) (hx:ExsR w (im O w) (.slice A arms.length cap) arms) (hi:i<arms.length) (hka:arms[i].kids=[kd]) (hd:Ex.deep kd<=n) (hw:WantR w (im O w) wv want) (hwo:aL want):
 Calls prog 199 #[.int .i64 i,b1,b2,b3,qb,b5] w (kO O mb sb (RelM mb qb) (InvM qb (i+1)) sc w (cE (aa p n) want arms st i sc)):=by
 have HV:=η (qJ (E:=aa p n) (want:=want) (st:=st) (sc:=sc) hi hka);obtain⟨an,al,k4,s4,A4,n4,ci,J,ai⟩:=hin;have l:=he.mb;obtain⟨g,cq,o1,x1,m1,s1,a1,B1,bh,rfl,hg,e1,p0,p1,p2,p3,Z,hr⟩:=aQ hx hi;obtain⟨a7,n',m',s',a',A',az,ee,e2,_,_,ah⟩:=dJ hr;obtain⟨rfl,rfl,rfl,rfl,rfl,am,rfl⟩:o1=a7/\x1=n'/\m1=m'/\s1=s'/\B1=A'/\a1.length=a'.length/\bh=az:=by simpa using ee
 have bf:a'=[kd]:=by have:=hka;rw[e2] at this;exact this
 subst bf;obtain⟨g2,b6,o2,x2,m2,s2,a2,B2,cs,rfl,ak,e3,F,D,B,Y,X,H⟩:=aQ ah (i:=0) Θ;simp only[Nat.zero_mul,Nat.add_zero,List.getElem_cons_zero] at F D B Y X H;rw[am] at Z;have a9:g≠mb:=λe=>hg.2 (by rw[e];exact l.1);have f:g2≠mb:=λe=>ak.2 (by rw[e];exact l.1);have be:b1≠mb:=λe=>h1.2 (by rw[e];exact l.1);have bd:b2≠mb:=λe=>h2.2 (by rw[e];exact l.1);have bc:b3≠mb:=λe=>h3.2 (by rw[e];exact l.1);have bb:b5≠mb:=λe=>h5.2 (by rw[e];exact l.1);replace Z:=stpC Z a9;replace F:=stpC F f;replace D:=stpC D f;replace B:=stpC B f;replace Y:=stpC Y f;replace X:=stpC X f;replace c1:=stpC c1 be;replace c2:=stpC c2 bd;replace c3:=stpC c3 bc;replace c5:=stpC c5 bb;obtain⟨y0,y1,y2,_,_,_⟩:=J.facts;replace y0:=stpC y0 hqm;replace y1:=stpC y1 hqm;replace y2:=stpC y2 hqm;obtain⟨z,HF,HE,t,y,bm,HH,HT⟩:=zd8 IH hF he ho an al J ai;obtain⟨HR,HD,ao,L,N⟩:=zd5 H hd hw hwo l.1;have cr:=l.2;have j0:(0:Int)<=(i:Int):=ω;have j1:(i:Int)<(arms.length:Int):=ω;clear IH hF he ho an al J ai hr H hd hw hwo l hka hx h1 h2 h3 h5 e1 e2 e3 ee am ah p0 p1 p2 p3 hg ak;by_cases I:i=0
 ·subst I;have j:Hid (cE (aa p n) want arms st 0 sc=aa p n sc kd want):=by show _=_;rw[HV.o,if_pos rfl]
  clear HV;obtain⟨V,aj⟩:=γ (aa p n sc kd want)
  have q:=η aj;clear aj;go_enter func199,ntmps199;go_upto_region 3 with fail;go_cut [8,9] (λv1 v2 W=>Hid (Got w O mb sb sc V v1 v2 W))
  case first =>
   go_region_held3 (λW=>Stm mb w W) (first|exact bq _ _|exact smDr _ _|exact a|exact smA ι _|exact (smA (Stm.refl _ _) _).trans (smDr _ _)|exact smS a (υ _) ω _ _ _ _ _)
    (first|(go_at_call 141;refine (exprB2 z.o HE.o t.o ao.o L.o HD.o HR.o).mono ?_;rw[<-q.o];rintro e3 w3 ⟨k3,s3,A3,n3,ax,rfl,a,r,k⟩;obtain⟨z0,z1,z2,F,D,B⟩:=r.facts)|(go_at_call 141;refine (exprA2 z.o HE.o t.o ao.o L.o HD.o HR.o).mono ?_;rw[<-q.o];rintro e3 w3 ⟨k3,s3,A3,n3,ax,rfl,a,k⟩))
   all_goals
    go_wp2_with fail;go_meet;first|exact gotA a k|exact gotB a ω N.o r k
  case rest =>
  obtain⟨a,cp,k2,s2,A2,n2,ay,rfl,cf,r,rfl,k⟩:=hcut.o;obtain⟨v,bj,ap⟩:=zd3 a r k;clear hcut a r k c1 c2 c3 c5 Z F D B Y X y0 y1 y2;obtain⟨U,rfl⟩:=γ wc
  have R:=η (HH.o.stp v.o (by unfold only;exact hqm));obtain⟨z0,z1,z2,f0,f1,f2⟩:=R.o.facts;obtain⟨v0,v1,v2,_,_,_⟩:=bj.o.facts;have M:Hid (RelM mb qb w (set3 U qb k2 s2 A2 n2 ay)):=⟨⟨v.o.s.os,v.o.s.tape,v.o.s.output,by rw[bQ];exact v.o.s.size,λb hb hx=>(aq U qb b _ _ _ _ _ (λe=>hx (.inr e))).trans (v.o.s.block b hb (λe=>hx (.inl e)))⟩,λx=>(v.o.m x).same (aq U qb mb _ _ _ _ _ (λe=>hqm e.symm)),λ_=>⟨_,_,_,_,_,R.o.set3 _ _ _ _ _⟩⟩
  cases V with
  | none =>
   go_wp2_with fail;go_ret;rw[j.o,<-q.o];exact⟨M.o,rfl,λ_ h=>by cases h⟩
  | some t1 =>
   have bl:=η (HF.o sc kd want t1 t.o L.o q.o.symm);go_wp2_with fail;go_ret;rw[j.o,<-q.o]
   exact⟨M.o,rfl,λu h=>by
    injection h with h;subst h;exact⟨⟨y.o,λ_=>bl.o,_,_,_,_,_,R.o.set3 _ _ _ _ _,(ap.o _ rfl).1.to (im_set y.o _ _ _ _ _)⟩,(ap.o _ rfl).2.sub (im_set y.o _ _ _ _ _) (aq U qb mb _ _ _ _ _ (λe=>hqm e.symm)) N.o⟩⟩
 have u1:decide ((0:Int)<(i:Int))=true:=decide_eq_true ω;have u2:decide (0<i)=true:=decide_eq_true ω;have u3:0<i:=ω;have j:Hid (cE (aa p n) want arms st i sc=if isE (aa p n) sc kd st then some st else none):=by show _=_;rw[HV.o,if_neg I]
 have T:=η (bm.o ω);clear HV I
 cases h4:isE (aa p n) sc kd st with
 | false =>
  rw[h4] at j;have H4:=η h4;clear h4;go_enter func199,ntmps199;go_upto_region 2 with fail
  go_region_held3 (λW=>Stm mb w W) (first|exact smDr _ _|exact Stm.trans ι d)
   (first|(go_at_call 105;refine (bA z.o HD.o (HE.o.bel (ad _)) t.o (HR.o.to (sof (ad _)).sub) (HT.o.to (sof (ad _)).sub) T.o).mono ?_;rw[H4.o];rintro e2 w5 ⟨rfl,d,G⟩))
  go_wp2_with fail;go_ret;rw[j.o];exact⟨RelM.of_stm hqm ((smDr _ _).trans d),rfl,λ_ h=>by cases h⟩
 | true =>
  rw[h4] at j;have H4:=η h4;clear h4;go_enter func199,ntmps199;go_upto_region 2 with fail
  go_region_held3 (λW=>Stm mb w W) (first|exact smDr _ _|exact Stm.trans ι d)
   (first|(go_at_call 105;refine (bA z.o HD.o (HE.o.bel (ad _)) t.o (HR.o.to (sof (ad _)).sub) (HT.o.to (sof (ad _)).sub) T.o).mono ?_;rw[H4.o];rintro e2 w5 ⟨rfl,d,G⟩))
  go_wp2_with fail;go_ret;rw[j.o]
  exact⟨RelM.of_stm hqm ((smDr _ _).trans d),rfl,λu h=>by
   injection h with h;subst h;exact⟨⟨y.o,λ_=>T.o,_,_,_,_,_,HH.o.stp ((smDr _ _).trans d) (by unfold only;exact hqm),HT.o.to (((smDr _ _).trans d).subO N.o)⟩,G Υ⟩⟩
structure Pm (W:World) (own:Nat->Prop) (w:World) (mb eb rb:Nat) (cs:Array Value):Prop where
 st:Stm mb w W
 bx:Hs W eb 43 cs
 rs:Hs W rb 40 z3
def Fst (own:Nat->Prop) (w:World) (mb sb eb rb fb:Nat) (cs:Array Value) (sc:Sc) (r:Option Ty) (v:Value) (W:World):Prop:=
 v=.bool r.isSome/\Pm W own w mb eb rb cs/\∃k s A n cap,Hs W fb 40 (ty3 k s A n cap)/\∀t,r=some t->TyR W (im (plus own rb) W) [.int .i64 k,.string s,.slice A n cap] t/\ScS W (plus own rb) mb sb sc
def Snd (own:Nat->Prop) (w:World) (mb sb eb rb qb:Nat) (cs:Array Value) (sc:Sc) (others:List Ty) (res:Ty) (v:Value) (W:World):Prop:=
 Pm W own w mb eb rb cs/\qb<W/\ScS W (plus own rb) mb sb sc/\(∃A cap,v=.slice A others cap/\TysR W (im (plus own rb) W) (.slice A others cap) others)/\∃k s A n cap,Hs W qb 40 (ty3 k s A n cap)/\TyR W (im (plus own rb) W) [.int .i64 k,.string s,.slice A n cap] res
variable {W:World} {cs:Array Value}
def Pm.set {own:Nat->Prop} {w:World} {mb eb rb fb:Nat} (h:Pm W own w mb eb rb cs) (hf:w<=fb) (h1:fb≠eb) (h2:fb≠rb) (h3:fb≠mb) (k:Int) (s:ByteArray) (A:Option Addr) (n cap:Nat):Pm (set3 W fb k s A n cap) own w mb eb rb cs:=
 ⟨smS h.st hf (λe=>h3 e.symm) _ _ _ _ _,(aq W fb eb _ _ _ _ _ (λe=>h1 e.symm)).trans h.bx,(aq W fb rb _ _ _ _ _ (λe=>h2 e.symm)).trans h.rs⟩
def Pm.stm {W':World} {own:Nat->Prop} {w:World} {mb eb rb:Nat} (h:Pm W own w mb eb rb cs) (hs:Stm mb W W') (h1:eb≠mb) (h2:rb≠mb):Pm W' own w mb eb rb cs:=
 ⟨h.st.trans hs,h.bx.stp hs (by unfold only;exact h1),h.rs.stp hs (by unfold only;exact h2)⟩
variable {x:Int}
def gA {kids:List Ex} (h:0<kids.length):aP E sc x want kids=match aY E sc x want kids[0] with|none=>none|some t=>match bi x t with|none=>none|some (others,r)=>if others.length=kids.length-1 then (if aR E sc (kids.drop 1) others then some r else none) else none:=by
 match kids,h with
 | k0::ks,_=>rfl
def dM (x:Int) (want:Option Ty):Option Ty:=match want with|none=>none|some u=>if u.kind=5/\(x=3\/x=4) then some u else none
variable {k0:Ex}
def ig (h:x=1\/x=2\/x=3\/x=4):aY E sc x want k0=match E sc k0 (dM x want) with|none=>none|some t=>if t.kind=5 then some t else none:=by
 unfold aY;rw[if_pos h];rfl
def kV (h:x=5\/x=6):aY E sc x want k0=E sc k0 (some (bTy 4)):=by
 unfold aY;rw[if_neg ω,if_pos h]
def qm (h:x=7):aY E sc x want k0=E sc k0 (some (bTy 3)):=by
 unfold aY;rw[if_neg ω,if_neg ω,if_pos h]
def pp (h:¬(x=1\/x=2\/x=3\/x=4\/x=5\/x=6\/x=7)):aY E sc x want k0=none:=by
 unfold aY;rw[if_neg ω,if_neg ω,if_neg ω]
def dz {p:Pg} {n:Nat} (hF:aO p n) (ho:ScOk p sc) (hw:aL want) (h:aY (aa p n) sc x want k0=some t):ag t=true/\(x=1\/x=2\/x=3\/x=4\/x=5\/x=6\/x=7)/\(x=1\/x=2\/x=3\/x=4->t.kind=5):=by
 by_cases a:x=1\/x=2\/x=3\/x=4
 ·rw[ig a] at h
  cases hr:aa p n sc k0 (dM x want) with
  | none=>rw[hr] at h;cases h
  | some T =>
   rw[hr] at h;simp only at h;split at h
   ·rename_i b;injection h with h;subst h;refine⟨hF sc k0 _ _ ho (λu hu=>?_) hr,ω,λ_=>b⟩;unfold dM at hu
    cases want with
    | none=>cases hu
    | some v =>
     simp only at hu;split at hu
     ·injection hu with hu;subst hu;exact hw _ rfl
     cases hu
   cases h
 by_cases e:x=5\/x=6
 ·rw[kV e] at h;exact⟨hF sc k0 _ _ ho (λu hu=>by injection hu with hu;rw[<-hu];rfl) h,ω,λh=>absurd h a⟩
 by_cases d:x=7
 ·rw[qm d] at h;exact⟨hF sc k0 _ _ ho (λu hu=>by injection hu with hu;rw[<-hu];rfl) h,ω,λh=>absurd h a⟩
 rw[pp ω] at h;cases h
def eI {k:Int} {s:ByteArray} {a:List Ty} (h:ag (.mk k s a)=true) (hk:Ty.kind (.mk k s a)=5):∃u,a=[u]:=by
 have b:k=5:=hk;subst b;rw[ag] at h;simp at h;match a,h.1.2 with
 | [u],_=>exact⟨u,rfl⟩
def dN {others:List Ty} {res:Ty} (h:ag t=true) (hp:bi x t=some (others,res)):∀u∈others,ag u=true:=by
 unfold bi at hp;have d:ag (bTy 3)=true:=rfl
 have f:∀v,t.args[0]?=some v->ag v=true:=by
  cases t with
  | mk k s a=>intro v e;exact eM h v (List.mem_of_getElem? e)
 split at hp
 ·injection hp with hp;injection hp with h1 h2;subst h1;intro u b;cases b
 split at hp
 ·cases hq:t.args[0]? with
  | none=>rw[hq] at hp;cases hp
  | some v=>rw[hq] at hp;injection hp with hp;injection hp with h1 h2;subst h1;intro u b;simp at b;subst b;exact d
 split at hp
 ·cases hq:t.args[0]? with
  | none=>rw[hq] at hp;cases hp
  | some v=>rw[hq] at hp;injection hp with hp;injection hp with h1 h2;subst h1;intro u b;simp at b;rcases b with rfl|rfl;exact d;exact f _ hq
 split at hp
 ·injection hp with hp;injection hp with h1 h2;subst h1;intro u b;simp at b;subst b;exact d
 split at hp
 ·injection hp with hp;injection hp with h1 h2;subst h1;intro u b;cases b
 cases hp
def cD {q:Nat} {W0:World} {a:Addr} {v:Value} (h:W0.cell? a=some v) (hn:a.block≠q):∀W,Stp (only q) W0 W->W.cell? a=some v:=λW hs=>(hs.cell (World.block_lt_of_cell? W0 a h) (λe=>hn e)).trans h
def stp_set {q:Nat} {W0:World} (h:Stp (only q) W0 W) (k:Int) (s:ByteArray) (A:Option Addr) (n cap:Nat):Stp (only q) W0 (set3 W q k s A n cap):=⟨h.os,h.tape,h.output,by rw[bQ];exact h.size,λi hi ho=>(aq W q i k s A n cap (λe=>ho e)).trans (h.block i hi ho)⟩
def pa {w:World} {Q:Nat->Prop} {nb:Nat} {k k':Int} {s s':ByteArray} {A':Option Addr} {n n' cap cap':Nat} {T T':Ty} (hh:Hs w nb 40 #[k,s,.slice A n cap,k',s',.slice A' n' cap']) (hq:Q nb) (ht:TyR w Q [.int .i64 k,.string s,.slice A n cap] T) (ht':TyR w Q [.int .i64 k',.string s',.slice A' n' cap'] T'):TysR w Q (.slice (some ⟨nb,0,none⟩) 2 2) [T,T']:=by
 refine⟨some ⟨nb,0,none⟩,2,λi=>if i=0 then [.int .i64 k,.string s,.slice A n cap] else [.int .i64 k',.string s',.slice A' n' cap'],rfl,⟨by simp[maxLen],by simp⟩,λ_=>⟨nb,0,rfl,hq,λi hi=>⟨by by_cases e:i=0<;>simp[e],λj u hu=>?_⟩⟩,λi hi=>?_⟩
 ·have a:i=0\/i=1:=by simp at hi;omega
  rcases a with rfl|rfl
  ·rw[show 0+0*3+j=j by omega,hh.cell j];simp only[if_true] at hu;match j,hu with
   | 0,hu=>simpa using hu
   | 1,hu=>simpa using hu
   | 2,hu=>simpa using hu
   | j+3,hu=>simp at hu
  rw[show 0+1*3+j=j+3 by omega,hh.cell (j+3)];simp only[Nat.one_ne_zero,if_false] at hu;match j,hu with
  | 0,hu=>simpa using hu
  | 1,hu=>simpa using hu
  | 2,hu=>simpa using hu
  | j+3,hu=>simp at hu
 have a:i=0\/i=1:=by simp at hi;omega
 rcases a with rfl|rfl
 ·exact ht
 exact ht'
end Go.Proofs.YtjohpidklbhmcaaGreatDoor
