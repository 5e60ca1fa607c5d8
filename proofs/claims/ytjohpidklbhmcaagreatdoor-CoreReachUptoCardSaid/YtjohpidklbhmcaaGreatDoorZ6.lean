/- Core -/
import Derived.Test.YtjohpidklbhmcaaGreatDoorZ5
import Derived.StillTailTactics
import Derived.Laws.CopyOwn
namespace Go.Proofs.YtjohpidklbhmcaaGreatDoor
set_option linter.all false
open Go.Proofs.Tryz
open Go.RowKit
structure Sc where
 slots:Int
 bound:Int->Option Ty
 vars:List Vr
 actor:Int
def Sc.set (sc:Sc) (i:Int) (t:Ty):Sc:={ sc with bound:=λj=>if j=i then some t else sc.bound j }
def Sc.bindB (sc:Sc) (i:Int):Bool:=!((sc.bound i).isSome||decide (i<0)||decide (sc.slots<=i))
def Sc.bind (sc:Sc) (i:Int) (t:Ty):Option Sc:=if sc.bindB i then some (sc.set i t) else none
def nm0:ByteArray:=⟨#[]⟩
def bTy (k:Int):Ty:=.mk k nm0 []
def cN (s:ByteArray):Ty:=.mk 6 s []
def refT (s:ByteArray):Ty:=.mk 7 s []
def nC (t:Ty):Ty:=.mk 5 nm0 [t]
def Ty.args:Ty->List Ty|.mk _ _ a=>a
def Ty.name:Ty->ByteArray|.mk _ s _=>s
def Ex.kids:Ex->List Ex|.mk _ _ _ _ a=>a
def Ex.op:Ex->Int|.mk o _ _ _ _=>o
def Ex.n:Ex->Int|.mk _ n _ _ _=>n
def Ex.m:Ex->Int|.mk _ _ m _ _=>m
def Ex.s:Ex->ByteArray|.mk _ _ _ s _=>s
def recP (p:Pg) (t:Ty):Option (List Fld):=
 if t.kind=6 then
  match idxP p.tyNames t.name.data.toList with
  | none=>none
  | some i=>match p.types[i]? with
   | none=>none
   | some d=>if d.record then (match d.ctors with|[]=>none|c::_=>some c.fields) else none
 else none
def varP (p:Pg) (t:Ty):Option (List Ctr):=
 if t.kind=6 then
  match idxP p.tyNames t.name.data.toList with
  | none=>none
  | some i=>match p.types[i]? with
   | none=>none
   | some d=>if d.record then none else some d.ctors
 else none
abbrev EF:Type:=Sc->Ex->Option Ty->Option Ty
def isE (E:EF) (sc:Sc) (e:Ex) (t:Ty):Bool:=(E sc e (some t)).isSome
def bl (E:EF) (sc:Sc):List Ex->List Fld->Bool
 | [],[]=>true
 | e::es,f::fs=>isE E sc e f.type&&bl E sc es fs
 | _,_=>false
def ic (E:EF) (sc:Sc) (k:Int) (kids:List Ex):Bool:=kids.all λe=>isE E sc e (bTy k)
def gd (E:EF) (sc:Sc) (right:Ty->Bool):List Ex->Bool
 | [a,b]=>match E sc a none with
  | none=>false
  | some t=>right t&&isE E sc b t
 | _=>false
def fw (E:EF) (sc:Sc) (kids:List Ex) (want:Option Ty):Option Ty:=
 match want with
 | some (.mk k _ [u])=>if k=5 then (if kids.all (λe=>isE E sc e u) then some (nC u) else none) else none
 | some _=>none
 | none=>match kids with
  | []=>none
  | k0::ks=>match E sc k0 none with
   | none=>none
   | some t=>if ks.all (λe=>isE E sc e t) then some (nC t) else none
def fRec (p:Pg) (E:EF) (sc:Sc) (s:ByteArray) (kids:List Ex):Option Ty:=
 match recP p (cN s) with
 | none=>none
 | some fs=>if bl E sc kids fs then some (cN s) else none
def fGet (p:Pg) (E:EF) (sc:Sc) (x:Int):List Ex->Option Ty
 | [a]=>match E sc a none with
  | none=>none
  | some t=>match recP p t with
   | none=>none
   | some fs=>if az x fs then (fs[x.toNat]?).map (·.type) else none
 | _=>none
def gL (p:Pg) (E:EF) (sc:Sc) (x:Int) (want:Option Ty):List Ex->Option Ty
 | [a,b]=>match E sc a want with
  | none=>none
  | some t=>match recP p t with
   | none=>none
   | some fs=>if az x fs then (match fs[x.toNat]? with|none=>none|some f=>if isE E sc b f.type then some t else none) else none
 | _=>none
def jx (p:Pg) (E:EF) (sc:Sc) (x:Int) (s:ByteArray) (kids:List Ex):Option Ty:=
 match varP p (cN s) with
 | none=>none
 | some cs=>if az x cs then (match cs[x.toNat]? with|none=>none|some c=>if bl E sc kids c.fields then some (cN s) else none) else none
def fIf (E:EF) (sc:Sc) (want:Option Ty):List Ex->Option Ty
 | [a,b,c]=>if isE E sc a (bTy 2) then (match E sc b want with|none=>none|some t=>if isE E sc c t then some t else none) else none
 | _=>none
def fLet (E:EF) (sc:Sc) (x:Int) (want:Option Ty):List Ex->Option Ty
 | [a,b]=>match E sc a none with
  | none=>none
  | some t=>match sc.bind x t with
   | none=>none
   | some sc'=>E sc' b want
 | _=>none
def bindAll (sc:Sc):Int->List Fld->Option Sc
 | _,[]=>some sc
 | m,f::fs=>match sc.bind m f.type with
  | none=>none
  | some sc'=>bindAll sc' (m+1) fs
def bz {σ:Type} (sc:Sc) (ctors:List Ctr) (body:σ->Nat->Sc->Option σ):Nat->List Int->σ->List (Int×Int)->Option σ
 | _,seen,st,[]=>if decide (-1∈seen)||decide (seen.length=ctors) then some st else none
 | i,seen,st,(n,m)::rest =>
  if (decide (n≠-1)&&!az n ctors)||decide (m<0)||decide (sc.slots<m)||decide (-1∈seen)||decide (n∈seen) then none
  else match bindAll sc m (if n=-1 then [] else (match ctors[n.toNat]? with|none=>[]|some c=>c.fields)) with
   | none=>none
   | some sc'=>match body st i sc' with
    | none=>none
    | some st'=>bz sc ctors body (i+1) (n::seen) st' rest
def bX {σ:Type} (p:Pg) (sc:Sc) (t:Ty) (body:σ->Nat->Sc->Option σ) (st:σ) (arms:List (Int×Int)):Option σ:=
 match varP p t with
 | none=>none
 | some cs=>if arms.length=0 then none else bz sc cs body 0 [] st arms
def fy (a:Ex):Bool:=decide (a.op=14)&&(bH a.s&&decide (a.kids.length=1))
def cE (E:EF) (want:Option Ty) (arms:List Ex) (st:Ty) (i:Nat) (sc:Sc):Option Ty:=
 match arms[i]? with
 | none=>none
 | some a=>match a.kids with
  | [k]=>if i=0 then E sc k want else if isE E sc k st then some st else none
  | _=>none
def dX (p:Pg) (E:EF) (sc:Sc) (want:Option Ty):List Ex->Option Ty
 | []=>none
 | k0::arms=>match E sc k0 none with
  | none=>none
  | some t=>if arms.all fy then bX p sc t (cE E want arms) (bTy 0) (arms.map λa=>(a.n,a.m)) else none
def fCat (E:EF) (sc:Sc) (want:Option Ty):List Ex->Option Ty
 | [a,b]=>match E sc a want with
  | none=>none
  | some t=>if ju t&&isE E sc b t then some t else none
 | _=>none
def jI (p:Pg) (E:EF) (sc:Sc) (x:Int) (kids:List Ex):Option Ty:=
 if az x p.funs then (match p.funs[x.toNat]? with|none=>none|some f=>if bl E sc kids f.params then some f.result else none) else none
def fFun (p:Pg) (E:EF) (sc:Sc) (x:Int) (kids:List Ex):Option Ty:=
 if az x p.funs then (match p.funs[x.toNat]? with
  | none=>none
  | some f=>if kids.length<=f.params.length then (if bl E sc kids (f.params.take kids) then some (.mk 8 nm0 ((f.params.drop kids).map (·.type)++[f.result])) else none) else none) else none
def aR (E:EF) (sc:Sc):List Ex->List Ty->Bool
 | [],_=>true
 | e::es,t::ts=>isE E sc e t&&aR E sc es ts
 | _,_=>false
def dY (E:EF) (sc:Sc):List Ex->Option Ty
 | []=>none
 | k0::ks=>match E sc k0 none with
  | none=>none
  | some t=>if t.kind=8/\t.args.length=ks.length+1 then (if aR E sc ks t.args then t.args.getLast? else none) else none
def aY (E:EF) (sc:Sc) (x:Int) (want:Option Ty) (k0:Ex):Option Ty:=
 if x=1\/x=2\/x=3\/x=4 then
  match E sc k0 (match want with|none=>none|some u=>if u.kind=5/\(x=3\/x=4) then some u else none) with
  | none=>none
  | some t=>if t.kind=5 then some t else none
 else if x=5\/x=6 then E sc k0 (some (bTy 4))
 else if x=7 then E sc k0 (some (bTy 3))
 else none
def bi (x:Int) (first:Ty):Option (List Ty×Ty):=
 if x=1\/x=5 then some ([],bTy 3)
 else if x=2 then (first.args[0]?).map λa=>([bTy 3],a)
 else if x=3 then (first.args[0]?).map λa=>([bTy 3,a],first)
 else if x=4\/x=6 then some ([bTy 3,bTy 3],first)
 else if x=7 then some ([],bTy 4)
 else none
def aP (E:EF) (sc:Sc) (x:Int) (want:Option Ty):List Ex->Option Ty
 | []=>none
 | k0::ks=>match aY E sc x want k0 with
  | none=>none
  | some t=>match bi x t with
   | none=>none
   | some (others,r)=>if others.length=ks.length then (if aR E sc ks others then some r else none) else none
def bK (op:Int):Option (Int×Bool×Bool):=
 if op=1 then some (0,false,false) else if op=2 then some (0,true,false) else if op=3 then some (0,true,false) else if op=4 then some (0,false,true)
 else if op=5 then some (0,true,false) else if op=6 then some (0,true,false) else if op=7 then some (0,false,false)
 else if op=8 then some (-1,false,false) else if op=9 then some (-1,false,true) else if op=10 then some (1,true,false) else if op=11 then some (2,true,false) else if op=12 then some (-1,true,true)
 else if op=13 then some (-1,false,false) else if op=15 then some (3,false,false) else if op=16 then some (2,false,false) else if op=17 then some (2,false,false) else if op=18 then some (1,false,false) else if op=19 then some (1,false,false)
 else if op=20 then some (2,false,false) else if op=21 then some (2,false,false) else if op=22 then some (2,false,false) else if op=23 then some (2,false,false) else if op=24 then some (2,false,false) else if op=25 then some (2,false,false)
 else if op=26 then some (2,false,false) else if op=27 then some (2,false,false) else if op=28 then some (2,false,false) else if op=29 then some (2,false,false) else if op=30 then some (2,false,false) else if op=31 then some (2,false,false)
 else if op=32 then some (2,true,false) else if op=33 then some (-1,true,false) else if op=34 then some (-1,true,false) else if op=35 then some (-1,false,false) else if op=36 then some (-1,true,false)
 else none
def iL (p:Pg) (sc:Sc):Option Ty:=if sc.actor<0 then none else (p.actors[sc.actor.toNat]?).map λa=>refT a.name
def fixT (k:Int) (b:Bool):Option Ty:=if b then some (bTy k) else none
def bP (p:Pg) (E:EF) (sc:Sc) (op x:Int) (s:ByteArray) (kids:List Ex) (want:Option Ty):Option Ty:=
 if op=1 then fixT 1 true
 else if op=2 then fixT 2 (decide (x=0)||decide (x=1))
 else if op=3 then fixT 3 (decide (-9007199254740992<=x)&&decide (x<=9007199254740992))
 else if op=4 then fixT 4 (decide (s.size<=4096))
 else if op=5 then sc.bound x
 else if op=6 then (if az x sc.vars then (sc.vars[x.toNat]?).map (·.type) else none)
 else if op=7 then iL p sc
 else if op=8 then fw E sc kids want
 else if op=9 then fRec p E sc s kids
 else if op=10 then fGet p E sc x kids
 else if op=11 then gL p E sc x want kids
 else if op=12 then jx p E sc x s kids
 else if op=13 then dX p E sc want kids
 else if op=15 then fIf E sc want kids
 else if op=16\/op=17\/op=18 then fixT 2 (ic E sc 2 kids)
 else if op=19\/op=20\/op=21\/op=22\/op=23\/op=24 then fixT 3 (ic E sc 3 kids)
 else if op=25 then fCat E sc want kids
 else if op=26\/op=27 then fixT 2 (gd E sc dB kids)
 else if op=28\/op=29\/op=30\/op=31 then fixT 2 (gd E sc cX kids)
 else if op=32 then fLet E sc x want kids
 else if op=33 then jI p E sc x kids
 else if op=34 then fFun p E sc x kids
 else if op=35 then dY E sc kids
 else if op=36 then aP E sc x want kids
 else none
mutual
def bO:Ty->Ty->Bool
 | .mk k s a,.mk k' s' a'=>k==k'&&(s.toList==s'.toList&&cP a a')
def cP:List Ty->List Ty->Bool
 | [],[]=>true
 | x::xs,y::ys=>bO x y&&cP xs ys
 | _,_=>false
end
def bj (k x m:Int) (s:ByteArray) (len:Nat) (nb sb:Bool):Bool:=
 !(decide (k≠-1)&&decide ((len:Int)≠k))&&!((decide (x≠0)&&!nb)||decide (m≠0)||(!bH s&&!sb))
def l9 (t:Ty):Option Ty->Bool
 | none=>true
 | some u=>bO t u
def aa (p:Pg):Nat->EF
 | 0,_,_,_=>none
 | n+1,sc,.mk op x m s kids,want =>
  match bK op with
  | none=>none
  | some (k,nb,sb) =>
   if bj k x m s kids nb sb then
    match bP p (aa p n) sc op x s kids want with
    | none=>none
    | some t=>if l9 t want then some t else none
   else none
set_option maxRecDepth 100000
set_option maxHeartbeats 2000000
open Go.Maps Go.WideMaps Go.ChangeMaps
abbrev IMap (w:World) (b n:Nat) (f:Int->Option Value):Prop:=MapIs prog 3 (Lit.int .i64) w b n f
variable {w':World}
def sof {own:Nat->Prop} {w:World} (h:Below w w w'):Stp own w w':=Stp.of_below h
def Stp.subO {own:Nat->Prop} {mb:Nat} {w:World} (h:Stp (only mb) w w') (ho:own mb):Sub (im own w) (im own w') w w':=λb hb=>⟨⟨ρ hb.1 h.size,hb.2⟩,h.block b hb.1 (λe=>hb.2 (by unfold only at e;subst e;exact ho))⟩
def MapW (w:World) (mb:Nat):Prop:=∃n f,IMap w mb n f
structure Stm (mb:Nat) (w w':World):Prop where
 s:Stp (only mb) w w'
 m:MapW w mb->MapW w' mb
def Stm.refl (mb:Nat) (w:World):Stm mb w w:=⟨Stp.refl _ _,id⟩
variable {a:World}
def Stm.trans {mb:Nat} {b c:World} (h:Stm mb a b) (k:Stm mb b c):Stm mb a c:=⟨h.s.trans k.s,λx=>k.m (h.m x)⟩
def Stm.of_below {mb:Nat} {w:World} (h:Below w w w'):Stm mb w w':=⟨Stp.of_below h,λ⟨n,f,x⟩=>⟨n,f,x.below h x.lt⟩⟩
def Stm.size {mb:Nat} {w:World} (h:Stm mb w w'):w.heap.size<=w':=h.s.size
def Stm.subO {own:Nat->Prop} {mb:Nat} {w:World} (h:Stm mb w w') (ho:own mb):Sub (im own w) (im own w') w w':=h.s.subO ho
def smA {mb:Nat} {w:World} (h:Stm mb w a) (o:Obj):Stm mb w (a.alloc o):=h.trans (Stm.of_below (belA (belR a) o))
def smO {mb:Nat} {w:World} (h:Stm mb w a) (k:a.grownBy w' (some mb)) (hm:MapW w' mb):Stm mb w w':=⟨stpO h.s k,λ_=>hm⟩
def ValR (w:World) (Q:Nat->Prop):Option Value->Option Ty->Prop
 | none,none=>True
 | some v,some t=>∃k s A n cap,v=.agg #[.int .i64 k,.string s,.slice A n cap]/\TyR w Q [.int .i64 k,.string s,.slice A n cap] t
 | _,_=>False
variable {Q Q':Nat->Prop}
def ValR.to {w:World} {o:Option Value} {t:Option Ty} (h:ValR w Q o t) (hb:Sub Q Q' w w'):ValR w' Q' o t:=by
 match o,t,h with
 | none,none,_=>trivial
 | some _,some _,⟨k,s,A,n,cap,e,hr⟩=>exact⟨k,s,A,n,cap,e,hr.to hb⟩
structure ScR (w:World) (own:Nat->Prop) (mb sb:Nat) (sc:Sc) (n:Nat) (f:Int->Option Value) (va:Value) (ks:List Int):Prop where
 om:own mb
 isb:im own w sb
 c0:w.cell? sb=some (sc.slots:Vl)
 c1:w.cell? ⟨sb,1,none⟩=some (.map (some mb))
 c2:w.cell? ⟨sb,2,none⟩=some va
 c3:w.cell? ⟨sb,3,none⟩=some (sc.actor:Vl)
 vars:VrsR w (im own w) va sc.vars
 map:IMap w mb n f
 val:∀i,ValR w (im own w) (f i) (sc.bound i)
 nd:ks.Nodup
 kl:ks=n
 km:∀i,i∈ks↔(sc.bound i).isSome
 ki:∀i∈ks,0<=i/\i<sc.slots
 sl:sc.slots<=32768
 ac:i64 sc.actor
def ScS (w:World) (own:Nat->Prop) (mb sb:Nat) (sc:Sc):Prop:=∃n f va ks,ScR w own mb sb sc n f va ks
def lZ (N:Nat):∀ks:List Int,ks.Nodup->(∀i∈ks,0<=i/\i<(N:Int))->ks<=N:=by
 induction N with
 | zero=>intro ks _ h;match ks,h with
  | [],_=>simp
  | x::_,h=>have:=h x Θ;omega
 | succ N ih =>
  intro ks b h
  have c:=ih (ks.erase (N:Int)) (b.erase _) (λi hi=>by
   have a:=List.mem_of_mem_erase hi;have:=h i a;have d:i≠(N:Int):=λe=>by subst e;exact (b.not_mem_erase) hi
   omega)
  by_cases a:(N:Int)∈ks
  ·have:=List.length_erase_of_mem a;omega
  rw[List.erase_of_not_mem a] at c;omega
variable {sb:Nat} {sc:Sc} {va:Value} {ks:List Int}
def ScR.n_le {w:World} {own:Nat->Prop} {mb n:Nat} {f:Int->Option Value} (h:ScR w own mb sb sc n f va ks):n<=32768:=by
 have:=lZ sc.slots.toNat ks h.nd (λi hi=>by have:=h.ki i hi;omega);have b:=h.kl;have a:=h.sl;omega
def ScR.below {w:World} {own:Nat->Prop} {mb n:Nat} {f:Int->Option Value} (h:ScR w own mb sb sc n f va ks) (hb:Below w w w'):ScR w' own mb sb sc n f va ks:=
 have S:Sub (im own w) (im own w') w w':=(sof hb).sub
 ⟨h.om,(S _ h.isb).1,au h.c0 S h.isb,au h.c1 S h.isb,au h.c2 S h.isb,au h.c3 S h.isb,VrsR.to h.vars S,h.map.below hb h.map.lt,λi=>(h.val i).to S,h.nd,h.kl,h.km,h.ki,h.sl,h.ac⟩
def ScS.below {w:World} {own:Nat->Prop} {mb:Nat} (h:ScS w own mb sb sc) (hb:Below w w w'):ScS w' own mb sb sc:=by
 obtain⟨n,f,a,b,h⟩:=h;exact⟨n,f,a,b,h.below hb⟩
def Sc.unset (sc:Sc) (i:Int):Sc:={ sc with bound:=λj=>if j=i then none else sc.bound j }
variable {i:Int} {A:Option Addr} {t:Ty}
def ScR.put {w:World} {own:Nat->Prop} {mb n m:Nat} {f:Int->Option Value} {k:Int} {s:ByteArray} {cap:Nat} (h:ScR w own mb sb sc n f va ks) (hr:TyR w (im own w) [.int .i64 k,.string s,.slice A m cap] t) (hb:sc.bindB i=true) (hg:w.grownBy w' (some mb)) (hm:IMap w' mb (if (f i).isSome then n else n+1) (upd f i (some (.agg #[k,s,.slice A m cap])))):
 ScR w' own mb sb (sc.set i t) (n+1) (upd f i (some (.agg #[k,s,.slice A m cap]))) va (i::ks):=by
 have d:Stp (only mb) w w':=stpO (Stp.refl _ _) hg;have S:=d.subO h.om;simp only[Sc.bindB,Bool.not_eq_true',Bool.or_eq_false_iff,decide_eq_false_iff_not] at hb;obtain⟨⟨b,l⟩,g⟩:=hb;have a:sc.bound i=none:=by cases hx:sc.bound i with|none=>rfl|some _=>rw[hx] at b;cases b
 have c:f i=none:=by
  have:=h.val i;rw[a] at this
  cases hx:f i with
  | none=>rfl
  | some _=>rw[hx] at this;exact this.elim
 rw[c] at hm;refine⟨h.om,(S _ h.isb).1,au h.c0 S h.isb,au h.c1 S h.isb,au h.c2 S h.isb,au h.c3 S h.isb,VrsR.to h.vars S,hm,λj=>?_,?_,?_,λj=>?_,λj hj=>?_,h.sl,h.ac⟩
 ·unfold upd Sc.set;by_cases e:j=i
  ·simp only[if_pos e];exact⟨k,s,A,m,cap,rfl,hr.to S⟩
  simp only[if_neg e];exact (h.val j).to S
 ·exact List.nodup_cons.2 ⟨(λhi=>by rw[h.km i,a] at hi;cases hi),h.nd⟩
 ·rw[δ,h.kl]
 ·unfold Sc.set;by_cases e:j=i
  ·simp[e]
  simp only[List.mem_cons,e,false_or,if_false];exact h.km j
 rcases List.mem_cons.1 hj with rfl|hj
 ·exact⟨ω,by show j<sc.slots;omega⟩
 exact h.ki j hj
def ScR.drop {w:World} {own:Nat->Prop} {mb n n':Nat} {f:Int->Option Value} (h:ScR w own mb sb sc n f va ks) (hg:w.grownBy w' (some mb)) (hn:n'+(if (f i).isSome then 1 else 0)=n) (hm:IMap w' mb n' (upd f i none)):
 ScR w' own mb sb (sc.unset i) n' (upd f i none) va (ks.erase i):=by
 have g:Stp (only mb) w w':=stpO (Stp.refl _ _) hg;have S:=g.subO h.om;refine⟨h.om,(S _ h.isb).1,au h.c0 S h.isb,au h.c1 S h.isb,au h.c2 S h.isb,au h.c3 S h.isb,VrsR.to h.vars S,hm,λj=>?_,h.nd.erase _,?_,λj=>?_,λj hj=>h.ki j (List.mem_of_mem_erase hj),h.sl,h.ac⟩
 ·unfold upd Sc.unset;by_cases e:j=i
  ·simp only[if_pos e];trivial
  simp only[if_neg e];exact (h.val j).to S
 ·have a:=h.val i;have c:=h.km i;have k:=h.kl;by_cases b:i∈ks
  ·rw[List.length_erase_of_mem b];have d:=c.1 b
   have:(f i).isSome=true:=by
    cases hx:f i with
    | some _=>rfl
    | none=>rw[hx] at a;cases hy:sc.bound i with|none=>rw[hy] at d;cases d|some _=>rw[hy] at a;exact a.elim
   rw[this] at hn;simp at hn;omega
  rw[List.erase_of_not_mem b]
  have:(f i).isSome=false:=by
   cases hx:f i with
   | none=>rfl
   | some _=>rw[hx] at a;cases hy:sc.bound i with|none=>rw[hy] at a;exact a.elim|some _=>exact absurd (c.2 (by rw[hy];rfl)) b
  rw[this] at hn;simp at hn;omega
 unfold Sc.unset;by_cases e:j=i
 ·subst e;simp[h.nd.not_mem_erase]
 simp only[e,if_false];rw[List.mem_erase_of_ne e];exact h.km j
def mI (h:sc.bindB i=true):(sc.set i t).unset i=sc:=by
 simp only[Sc.bindB,Bool.not_eq_true',Bool.or_eq_false_iff] at h;have f:sc.bound i=none:=by cases hx:sc.bound i with|none=>rfl|some _=>rw[hx] at h;simp at h
 unfold Sc.set Sc.unset
 cases sc with
 | mk a b c d =>
  simp only[Sc.mk.injEq,true_and,and_true];funext j;by_cases e:j=i
  ·subst e;simp;exact f.symm
  simp[e]
def zeroTy (w:World):(zeroValue 40).run prog w=.ok (.agg #[(0:Int),.string ⟨#[]⟩,()]) w:=by kernel_rfl
def np {w:World} {b n:Nat} {f:Int->Option Value} (h:IMap w b n f) (hi:i64 i):(Instr.lookup 176 (.map (some b)) (i:Vl) true).run prog w=.ok (.tuple #[(f i).getD (.agg #[(0:Int),.string ⟨#[]⟩,()]),.bool (f i).isSome]) w:=
 MapIs.lookOk h (bh underlying3) underlying176 (zeroTy w) (aw underlying3 hi)
def ScR.is {w:World} {own:Nat->Prop} {mb n:Nat} {f:Int->Option Value} (h:ScR w own mb sb sc n f va ks) (i:Int):(f i).isSome=(sc.bound i).isSome:=by
 have:=h.val i
 cases hx:f i<;>cases hy:sc.bound i<;>rw[hx,hy] at this<;>first|rfl|exact this.elim
def BindSaid (w:World) (own:Nat->Prop) (mb sb:Nat) (sc:Sc) (i:Int) (t:Ty) (e:Ending) (w':World):Prop:=
 e=.returned (.bool (sc.bindB i))/\Stm mb w w'/\(sc.bindB i=true->ScS w' own mb sb (sc.set i t))/\(sc.bindB i=false->ScS w' own mb sb sc)
def da (own:Nat->Prop) (mb sb:Nat) (sc:Sc) (i:Int) (cs:List Value) (t:Ty) (w:World) (hs:ScS w own mb sb sc) (hi:i64 i) (hr:TyR w (im own w) cs t):Calls prog 178 #[sb,i,.agg cs.toArray] w (BindSaid w own mb sb sc i t):=by
 obtain⟨n,f,va,ks,hs⟩:=hs;obtain⟨k,s,a,A,cap,rfl,J,_,U,M⟩:=ap hr;have z:sc.bindB i=!((f i).isSome||decide (i<0)||decide (sc.slots<=i)):=by rw[hs.is];rfl
 have V:sb<w:=hs.isb.1;have X:mb<w:=hs.map.lt;have W:sb≠mb:=λe=>hs.isb.2 (by rw[e];exact hs.om);have O:=hs.c0;have L:=hs.c1;obtain⟨F,b⟩:=γ (.cells #[k,s,.slice A a cap] 40:Obj)
 have Y:=η b;have d:=np (hs.map.alloc F) hi;obtain⟨T,x,R,j⟩:=zd4 hi hs hr z;clear hr M z J hi
 cases hf:f i with
 | some v =>
  have p:=hs.val i;rw[hf] at p;rw[hf] at d
  cases hy:sc.bound i with
  | none=>rw[hy] at p;exact p.elim
  | some t' =>
   rw[hy] at p;obtain⟨k',s',A',n',N,rfl,G⟩:=p;have c:Hid (sc.bindB i=false):=by show _=_;rw[j.o,hf];rfl
   clear hs G hy hf;rw[b] at d;clear b;go_enter func178,ntmps178;go_wp2_with fail;go_ret;exact⟨by rw[c.o];rfl,smA (smA (Stm.refl _ _) _) _,λh=>by (rw[c.o] at h;cases h),λ_=>⟨_,_,_,_,x.below ζ2⟩⟩
 | none =>
  rw[hf] at d;clear hs;by_cases q:i<0
  ·have E:decide (i<0)=true:=decide_eq_true q;have c:Hid (sc.bindB i=false):=by show _=_;rw[j.o,E];simp
   rw[b] at d;clear b hf q;go_enter func178,ntmps178;go_wp2_with fail;go_ret;exact⟨by rw[c.o];rfl,smA (smA (Stm.refl _ _) _) _,λh=>by (rw[c.o] at h;cases h),λ_=>⟨_,_,_,_,x.below ζ2⟩⟩
  have E:decide (i<0)=false:=decide_eq_false q;by_cases u:sc.slots<=i
  ·have D:decide (sc.slots<=i)=true:=decide_eq_true u;have c:Hid (sc.bindB i=false):=by show _=_;rw[j.o,D];simp
   rw[b] at d;clear b hf q u;go_enter func178,ntmps178;go_wp2_with fail;go_ret;exact⟨by rw[c.o];rfl,smA (smA (Stm.refl _ _) _) _,λh=>by (rw[c.o] at h;cases h),λ_=>⟨_,_,_,_,x.below ζ2⟩⟩
  have D:decide (sc.slots<=i)=false:=decide_eq_false u;have c:Hid (sc.bindB i=true):=by show _=_;rw[j.o,E,D,hf];rfl
  rw[b] at d;have HF:=η hf;clear b hf q u;go_enter func178,ntmps178;go_wp2_with fail;refine wp_region_still_tail 6 Δ Δ ?_;obtain⟨l,g⟩:=γ (((w.alloc (.cells #[k,s,.slice A a cap] 40)).alloc (.cells #[(0:Int),.string ⟨#[]⟩,()] 40)).drew)
  have y:Below w w l:=by rw[g];exact ζ2.drew
  have d1:=belC y L;have J:l.cell? w=some (k:Vl):=by rw[g];simp
  have e1:l.cell? ⟨w,1,none⟩=some (s:Vl):=by rw[g];simp
  have e2:l.cell? ⟨w,2,none⟩=some (.slice A a cap):=by rw[g];simp
  change wpStill _ _ (World.drew _) (λa'=>wpList _ _ _ _ a' (World.drew _)) _ _;rw[<-g];obtain⟨B,r⟩:=zd2 y (x.below y);clear g y L O d;simp only[List.take_succ_cons,List.take_zero,List.drop_succ_cons,List.drop_zero];repeat still_step
  refine wpStill_nil ?_;go_wp2_with (refine ak _ rfl _ _ _ 176 (.inl rfl) 40 (bh underlying3) underlying176 mb n f rfl r.map (by have:=r.n_le;unfold maxLen;omega) i (i:Vl) (.agg #[k,s,.slice A a cap]) rfl rfl (aw underlying3 T) ?_;intro Z I H);go_ret;exact⟨by rw[c.o];rfl,smO (Stm.of_below B) H ⟨_,_,I⟩,λ_=>⟨_,_,_,_,r.put (R.to (sof B).sub) c H I⟩,λh=>by rw[c.o] at h;cases h⟩
def FreeSaid (w:World) (own:Nat->Prop) (mb sb:Nat) (sc:Sc) (i:Int) (e:Ending) (w':World):Prop:=
 e=.returned (.tuple #[])/\Stm mb w w'/\ScS w' own mb sb (sc.unset i)
def jS (own:Nat->Prop) (mb sb:Nat) (sc:Sc) (i:Int) (w:World) (hs:ScS w own mb sb sc) (hi:i64 i):Calls prog 144 #[sb,i] w (FreeSaid w own mb sb sc i):=by
 obtain⟨n,f,h,k,hs⟩:=hs;have l:=hs.c1;obtain⟨e,c⟩:=zd2 hi hs;clear hs hi;go_enter func144,ntmps144;go_wp2_with (refine jL _ rfl _ _ 176 rfl 40 (bh underlying3) underlying176 mb n f rfl c.map i (i:Vl) rfl (aw underlying3 e) ?_;intro g j d b a);exact bodyPost_ret (v:=.tuple #[]) (by simp[results,results144,go_sem]) rfl ⟨rfl,smO (Stm.refl _ _) a ⟨_,_,b⟩,⟨_,_,_,_,c.drop a d b⟩⟩
mutual
def Ex.deep:Ex->Nat
 | .mk _ _ _ _ a=>Ex.deeps a+1
def Ex.deeps:List Ex->Nat
 | []=>0
 | x::xs=>Ex.deep x+Ex.deeps xs
end
def fY (l:List Ex):∀x∈l,Ex.deep x<=Ex.deeps l:=by
 induction l with
 | nil=>intro x h;cases h
 | cons y l ih =>
  intro x h;rw[Ex.deeps];rcases List.mem_cons.1 h with rfl|h
  ·omega
  have:=ih x h;omega
def ex_kid {op x m:Int} {s:ByteArray} {kids:List Ex} {n:Nat} (h:Ex.deep (.mk op x m s kids)<=n+1):∀k∈kids,Ex.deep k<=n:=λk hk=>by
 rw[Ex.deep] at h
 have:=fY kids k hk
 omega
def qM (l:List Ex):l<=Ex.deeps l:=by
 induction l with
 | nil=>simp
 | cons y l ih =>
  rw[Ex.deeps,δ]
  cases y with
  | mk a b c d e=>rw[Ex.deep];omega
def ex_len {op x m:Int} {s:ByteArray} {kids:List Ex} {n:Nat} (h:Ex.deep (.mk op x m s kids)<=n+1):kids<=n:=by
 rw[Ex.deep] at h;have:=qM kids;omega
def WantR (w:World) (Q:Nat->Prop) (v:Value):Option Ty->Prop
 | none=>v=.pointer none
 | some u=>∃g off k s A n cap,v=.pointer (some ⟨g,off,none⟩)/\Q g/\w.cell? ⟨g,off,none⟩=some (.int .i64 k)/\w.cell? ⟨g,off+1,none⟩=some (.string s)/\w.cell? ⟨g,off+2,none⟩=some (.slice A n cap)/\TyR w Q [.int .i64 k,.string s,.slice A n cap] u
variable {v:Value}
def WantR.to {w:World} {o:Option Ty} (h:WantR w Q v o) (hb:Sub Q Q' w w'):WantR w' Q' v o:=by
 match o,h with
 | none,h=>exact h
 | some _,⟨g,off,k,s,A,n,cap,e,hg,h0,h1,h2,hr⟩=>exact⟨g,off,k,s,A,n,cap,e,(hb g hg).1,au h0 hb hg,au h1 hb hg,au h2 hb hg,hr.to hb⟩
def CapR (w:World) (Q:Nat->Prop) (c:CB) (f:FuncId) (fv:Value):Prop:=∃g,fv=.func (.func f) #[] #[.pointer (some ⟨g,0,none⟩)]/\Q g/\w.cell? ⟨g,0,none⟩=some (c.b:Vl)
def BndR (c:CB) (f:FuncId) (fv:Value):Prop:=fv=.func (.func f) #[c.b] #[]
def KidsR (w:World) (Q:Nat->Prop) (c:CB) (k:Int) (fv:Value):Prop:=∃g h,fv=.func (.func 200) #[] #[.pointer (some ⟨g,0,none⟩),.pointer (some ⟨h,0,none⟩)]/\Q g/\Q h/\w.cell? ⟨g,0,none⟩=some (c.b:Vl)/\w.cell? ⟨h,0,none⟩=some (k:Vl)
def PairR (w:World) (Q:Nat->Prop) (c:CB) (f:FuncId) (fv:Value):Prop:=∃g h,fv=.func (.func 201) #[] #[.pointer (some ⟨g,0,none⟩),.pointer (some ⟨h,0,none⟩)]/\Q g/\Q h/\w.cell? ⟨g,0,none⟩=some (c.b:Vl)/\w.cell? ⟨h,0,none⟩=some (.func (.func f) #[] #[])
def FixR (w:World) (Q:Nat->Prop) (k:Int) (right:Value->Prop) (fv:Value):Prop:=∃g h r,fv=.func (.func 197) #[] #[.pointer (some ⟨g,0,none⟩),.pointer (some ⟨h,0,none⟩)]/\Q g/\Q h/\w.cell? ⟨g,0,none⟩=some (k:Vl)/\w.cell? ⟨h,0,none⟩=some r/\right r
def CapR.to {w:World} {c:CB} {f:FuncId} (h:CapR w Q c f v) (hb:Sub Q Q' w w'):CapR w' Q' c f v:=by
 obtain⟨g,e,a,b⟩:=h;exact⟨g,e,(hb g a).1,au b hb a⟩
def KidsR.to {w:World} {c:CB} {f:Int} (h:KidsR w Q c f v) (hb:Sub Q Q' w w'):KidsR w' Q' c f v:=by
 obtain⟨g,h,e,b,a,i,d⟩:=h;exact⟨g,h,e,(hb g b).1,(hb h a).1,au i hb b,au d hb a⟩
def PairR.to {w:World} {c:CB} {f:FuncId} (h:PairR w Q c f v) (hb:Sub Q Q' w w'):PairR w' Q' c f v:=by
 obtain⟨g,h,e,b,a,i,d⟩:=h;exact⟨g,h,e,(hb g b).1,(hb h a).1,au i hb b,au d hb a⟩
def FixR.to {w:World} {k:Int} {r r':Value->Prop} (h:FixR w Q k r v) (hb:Sub Q Q' w w') (hr:∀x,r x->r' x):FixR w' Q' k r' v:=by
 obtain⟨g,h,x,e,b,a,i,f,d⟩:=h;exact⟨g,h,x,e,(hb g b).1,(hb h a).1,au i hb b,au f hb a,hr x d⟩
def CloR (w:World) (Q:Nat->Prop) (c:CB) (op:Int) (fv:Value):Prop:=
 if op=1 then FixR w Q 1 (λr=>r=.func (.func 156) #[] #[]) fv
 else if op=2 then FixR w Q 2 (λr=>r=.func (.func 157) #[] #[]) fv
 else if op=3 then FixR w Q 3 (λr=>r=.func (.func 158) #[] #[]) fv
 else if op=4 then FixR w Q 4 (λr=>r=.func (.func 159) #[] #[]) fv
 else if op=5 then fv=.func (.func 160) #[] #[]
 else if op=6 then fv=.func (.func 161) #[] #[]
 else if op=7 then CapR w Q c 163 fv
 else if op=8 then BndR c 164 fv
 else if op=9 then CapR w Q c 165 fv
 else if op=10 then CapR w Q c 169 fv
 else if op=11 then CapR w Q c 171 fv
 else if op=12 then CapR w Q c 172 fv
 else if op=13 then BndR c 174 fv
 else if op=15 then CapR w Q c 175 fv
 else if op=16\/op=17\/op=18 then FixR w Q 2 (KidsR w Q c 2) fv
 else if op=19\/op=20\/op=21\/op=22\/op=23\/op=24 then FixR w Q 3 (KidsR w Q c 3) fv
 else if op=25 then CapR w Q c 182 fv
 else if op=26\/op=27 then FixR w Q 2 (PairR w Q c 139) fv
 else if op=28\/op=29\/op=30\/op=31 then FixR w Q 2 (PairR w Q c 181) fv
 else if op=32 then CapR w Q c 177 fv
 else if op=33 then CapR w Q c 184 fv
 else if op=34 then CapR w Q c 185 fv
 else if op=35 then CapR w Q c 186 fv
 else if op=36 then BndR c 187 fv
 else False
def ite_to {c:Prop} [Decidable c] {A B A' B':Prop} (h:if c then A else B) (ha:A->A') (hb:B->B'):if c then A' else B':=by
 by_cases e:c
 ·rw[if_pos e] at h ⊢;exact ha h
 rw[if_neg e] at h ⊢;exact hb h
def CloR.to {w:World} {c:CB} {op:Int} (h:CloR w Q c op v) (hb:Sub Q Q' w w'):CloR w' Q' c op v:=by
 unfold CloR at h ⊢;repeat (refine ite_to h (λh=>by first|exact h.to hb (λ_ x=>x)|exact h.to hb (λ_ x=>x.to hb)|exact h.to hb|exact h) (λh=>?_))
 exact h
def RuleR (w:World) (Q:Nat->Prop) (c:CB) (op:Int):Option Value->Prop
 | none=>bK op=none
 | some v=>∃k nb sb fv,v=.agg #[.int .i64 k,.bool nb,.bool sb,fv]/\bK op=some (k,nb,sb)/\CloR w Q c op fv
structure RulesR (w:World) (Q:Nat->Prop) (c:CB) (n:Nat) (f:Int->Option Value):Prop where
 q:Q c.br
 map:IMap w c.br n f
 rule:∀op,RuleR w Q c op (f op)
def RulesR.to {w:World} {c:CB} {n:Nat} {f:Int->Option Value} (h:RulesR w Q c n f) (hb:Sub Q Q' w w'):RulesR w' Q' c n f:=by
 refine⟨(hb _ h.q).1,h.map.to hb h.q,λop=>?_⟩;have:=h.rule op
 cases hf:f op with
 | none=>rw[hf] at this;exact this
 | some v=>rw[hf] at this;obtain⟨k,b,a,i,e,d,g⟩:=this;exact⟨k,b,a,i,e,d,g.to hb⟩
structure Fine (p:Pg):Prop where
 recs:∀(i:Nat) (h:i<p.types),p.types[i].record=true->0<p.types[i].ctors.length
 flds:∀d∈p.types,∀k∈d.ctors,∀f∈k.fields,ag f.type=true
 funs:∀f∈p.funs,(∀q∈f.params,ag q.type=true)/\ag f.result=true/\f.params.length<=1000000
 acts:∀a∈p.actors,(∀q∈a.params,ag q.type=true)/\(∀v∈a.vars,ag v.type=true)/\∀h∈a.on,∀q∈h.params,ag q.type=true
structure ScOk (p:Pg) (sc:Sc):Prop where
 bound:∀i t,sc.bound i=some t->ag t=true
 vars:∀v∈sc.vars,ag v.type=true
 actor:sc.actor<p.actors
structure Env (w:World) (own:Nat->Prop) (mb sb:Nat) (c:CB) (p:Pg) (sc:Sc):Prop where
 chk:ChkR w (im own w) c p
 rul:∃n f,RulesR w (im own w) c n f
 sco:ScS w own mb sb sc
 ol:∀b,own b->b<w.heap.size
def Env.stp {w:World} {own:Nat->Prop} {mb:Nat} {c:CB} {p:Pg} {sc':Sc} (h:Env w own mb sb c p sc) (hs:Stm mb w w') (hsc:ScS w' own mb sb sc'):Env w' own mb sb c p sc':=by
 obtain⟨n,f,d⟩:=h.rul;have a:own mb:=by obtain⟨_,_,_,_,x⟩:=h.sco;exact x.om
 exact⟨h.chk.to (hs.subO a),⟨n,f,d.to (hs.subO a)⟩,hsc,λb hb=>ρ (h.ol b hb) hs.size⟩
def Env.bel {w:World} {own:Nat->Prop} {mb:Nat} {c:CB} {p:Pg} (h:Env w own mb sb c p sc) (hs:Below w w w'):Env w' own mb sb c p sc:=h.stp (Stm.of_below hs) (h.sco.below hs)
def Res (w:World) (own:Nat->Prop) (mb sb:Nat) (sc:Sc) (r:Option Ty) (e:Ending) (w':World):Prop:=
 Stm mb w w'/\match r with
  | none=>e=.returned (.tuple #[.agg #[(0:Int),.string ⟨#[]⟩,()],false])
  | some t=>∃k s A n cap,e=.returned (.tuple #[.agg #[.int .i64 k,.string s,.slice A n cap],true])/\TyR w' (im own w') [.int .i64 k,.string s,.slice A n cap] t/\ScS w' own mb sb sc
def ResF (w:World) (own:Nat->Prop) (mb sb:Nat) (sc:Sc) (r:Option Ty) (e:Ending) (w':World):Prop:=
 Stm mb w w'/\match r with
  | none=>∃k s A n cap,e=.returned (.tuple #[.agg #[.int .i64 k,.string s,.slice A n cap],false])
  | some t=>∃k s A n cap,e=.returned (.tuple #[.agg #[.int .i64 k,.string s,.slice A n cap],true])/\TyR w' (im own w') [.int .i64 k,.string s,.slice A n cap] t/\ScS w' own mb sb sc
def ResB (w:World) (own:Nat->Prop) (mb sb:Nat) (sc:Sc) (r:Bool) (e:Ending) (w':World):Prop:=
 e=.returned (r:Vl)/\Stm mb w w'/\(r=true->ScS w' own mb sb sc)
def Res.form {w:World} {own:Nat->Prop} {mb:Nat} {r:Option Ty} {e:Ending} (h:Res w own mb sb sc r e w'):ResF w own mb sb sc r e w':=by
 refine⟨h.1,?_⟩
 cases r with
 | none=>exact⟨_,_,_,_,_,h.2⟩
 | some t=>exact h.2
def aL (want:Option Ty):Prop:=∀u,want=some u->ag u=true
def xG (c:CB) (p:Pg) (mb n:Nat):Prop:=∀(own:Nat->Prop) (sb:Nat) (sc:Sc) (cs:List Value) (e:Ex) (wv:Value) (want:Option Ty) (w:World),Ex.deep e<=n->Env w own mb sb c p sc->ScOk p sc->ExR w (im own w) cs e->WantR w (im own w) wv want->aL want ->
 Calls prog 141 #[c.b,sb,.agg cs.toArray,wv] w (Res w own mb sb sc (aa p n sc e want))
def Hs (w:World) (g:Nat) (t:TypeId) (cs:Array Value):Prop:=w.heap[g]?=some (.cells cs t (0,0))
section
variable {w w':World} {g:Nat} {t:TypeId} {cs:Array Value}
def Hs.lt (h:Hs w g t cs):g<w:=(Array.getElem?_eq_some_iff.1 h).1
def Hs.cell (h:Hs w g t cs) (i:Nat):w.cell? ⟨g,i,none⟩=cs[i]?:=cell_of_row w g i cs t (0,0) h
def Hs.c (h:Hs w g t cs) (i:Nat) (hv:cs[i]?=some v:=by exact rfl):w.cell? ⟨g,i,none⟩=some v:=(Hs.cell h i).trans hv
def Hs.free (h:Hs w g t cs) (i:Nat):w.frozen? ⟨g,i,none⟩=false:=by unfold Hs at h;simp[World.frozen?,h]
def Hs.new (w:World) (t:TypeId) (cs:Array Value):Hs (w.alloc (.cells cs t)) w t cs:=heap_alloc_new w _
def κ (w:World) (cs:Array Value) (t:TypeId):∃q,q=w.alloc (.cells cs t)/\Below w w q/\Hid (Hs q w t cs):=⟨_,rfl,ζ1,Hs.new _ _ _⟩
def Hs.new' (w:World) (o:Obj) (cs:Array Value):Hs ((w.alloc o).alloc (.cells cs 40)) (w+1) 40 cs:=by
 have:=Hs.new (w.alloc o) 40 cs;simpa using this
def Hs.alloc (h:Hs w g t cs) (o:Obj):Hs (w.alloc o) g t cs:=(Below.heap_alloc w o g h.lt).trans h
def Hs.stp {mb:Nat} (h:Hs w g t cs) (hs:Stm mb w w') (ho:¬only mb g):Hs w' g t cs:=(hs.s.block g h.lt ho).trans h
end
abbrev ty3 (k:Int) (s:ByteArray) (A:Option Addr) (n cap:Nat):Array Value:=#[k,s,.slice A n cap]
def am {fn:Func} {p u:Tmp} (h:fn.results=#[.cell p 40,.tmp u]) (tmps:Array Value) (w:World) (g:Nat) (k:Int) (s:ByteArray) (A:Option Addr) (n cap:Nat) (hp:tmps.getD p undef=.pointer (some ⟨g,0,none⟩)) (hg:Hs w g 40 (ty3 k s A n cap)) :
 (results fn tmps).run prog w=.ok (.tuple #[.agg (ty3 k s A n cap),tmps.getD u undef]) w:=by
 rw[results_cell_tmp h,hp];have:=run_loadVar_row (P:=prog) w g 40 40 (ty3 k s A n cap) (0,0) _ hg underlying40 rfl (by show _=some 3;kernel_rfl);simp[asAddr,this,Result.andThen]
variable {g:Nat}
def Hs.put {w:World} {t:TypeId} {cs:Array Value} (h:Hs w g t cs) (i:Nat) (u:Value):Hs (w.setCell ⟨g,i,none⟩ u) g t (cs.setIfInBounds i u):=by
 unfold Hs at h ⊢;simp[World.setCell,Array.getElem?_modify,h]
abbrev set3 (w:World) (g:Nat) (k:Int) (s:ByteArray) (A:Option Addr) (n cap:Nat):World:=((w.setCell g (k:Vl)).setCell ⟨g,1,none⟩ (s:Vl)).setCell ⟨g,2,none⟩ (.slice A n cap)
variable {B:Option Addr}
theorem Hs.set3 {w:World} {a:Int} {b:ByteArray} {m d:Nat} (h:Hs w g 40 (ty3 a b B m d)) (k:Int) (s:ByteArray) (A:Option Addr) (n cap:Nat):Hs (set3 w g k s A n cap) g 40 (ty3 k s A n cap):=by
 have:=((h.put 0 (k:Vl)).put 1 (s:Vl)).put 2 (.slice A n cap);simpa using this
def aq (w:World) (g b:Nat) (k:Int) (s:ByteArray) (A:Option Addr) (n cap:Nat) (h:b≠g):(set3 w g k s A n cap).heap[b]?=w.heap[b]?:=by
 rw[set3,Below.heap_setCell _ _ _ _ h,Below.heap_setCell _ _ _ _ h,Below.heap_setCell _ _ _ _ h]
def bQ (w:World) (g:Nat) (k:Int) (s:ByteArray) (A:Option Addr) (n cap:Nat):(set3 w g k s A n cap).heap.size=w:=by simp[set3,World.setCell]
def smS {mb:Nat} {w:World} (h:Stm mb w a) (hg:w<=g) (hm:mb≠g) (k:Int) (s:ByteArray) (A:Option Addr) (n cap:Nat):Stm mb w (set3 a g k s A n cap):=
 ⟨⟨h.s.os,h.s.tape,h.s.output,by rw[bQ];exact h.s.size,λi hi ho=>(aq a g i k s A n cap ω).trans (h.s.block i hi ho)⟩,λx=>by obtain⟨n',f,y⟩:=h.m x;exact⟨n',f,y.same (aq a g mb k s A n cap hm)⟩⟩
def Hs.facts {w:World} {a:Int} {b:ByteArray} {m d:Nat} (h:Hs w g 40 (ty3 a b B m d)):w.cell? g=some (a:Vl)/\w.cell? ⟨g,1,none⟩=some (b:Vl)/\w.cell? ⟨g,2,none⟩=some (.slice B m d)/\w.frozen? g=false/\w.frozen? ⟨g,1,none⟩=false/\w.frozen? ⟨g,2,none⟩=false:=
 ⟨h.cell 0,h.cell 1,h.cell 2,h.free 0,h.free 1,h.free 2⟩
def plus (own:Nat->Prop) (g:Nat):Nat->Prop:=λb=>own b\/b=g
def aV {own:Nat->Prop} {w:World} (hb:Below w w w') (hg:w<=g):Sub (im own w) (im (plus own g) w') w w':=λb h=>⟨⟨ρ h.1 hb.size,λx=>by rcases x with x|x;exact h.2 x;have:=h.1;omega⟩,hb.block b h.1⟩
def aG {own:Nat->Prop} {w:World} (k:Int) (s:ByteArray) (A:Option Addr) (n cap:Nat):Sub (im (plus own g) w) (im own (set3 w g k s A n cap)) w (set3 w g k s A n cap):=λb h=>⟨⟨by rw[bQ];exact h.1,λx=>h.2 (.inl x)⟩,aq w g b k s A n cap (λe=>h.2 (.inr e))⟩
variable {own':Nat->Prop}
def ScR.sub {w:World} {own:Nat->Prop} {mb n:Nat} {f:Int->Option Value} (h:ScR w own mb sb sc n f va ks) (S:Sub (im own w) (im own' w') w w') (hm:w'.heap[mb]?=w.heap[mb]?) (ho:own' mb):ScR w' own' mb sb sc n f va ks:=
 ⟨ho,(S _ h.isb).1,au h.c0 S h.isb,au h.c1 S h.isb,au h.c2 S h.isb,au h.c3 S h.isb,VrsR.to h.vars S,h.map.same hm,λi=>(h.val i).to S,h.nd,h.kl,h.km,h.ki,h.sl,h.ac⟩
def ScS.sub {w:World} {own:Nat->Prop} {mb:Nat} (h:ScS w own mb sb sc) (S:Sub (im own w) (im own' w') w w') (hm:w'.heap[mb]?=w.heap[mb]?) (ho:own' mb):ScS w' own' mb sb sc:=by
 obtain⟨n,f,a,b,h⟩:=h;exact⟨n,f,a,b,h.sub S hm ho⟩
def Env.sub {w:World} {own:Nat->Prop} {mb:Nat} {c:CB} {p:Pg} (h:Env w own mb sb c p sc) (S:Sub (im own w) (im own' w') w w') (hm:w'.heap[mb]?=w.heap[mb]?) (ho:own' mb) (hl:∀b,own' b->b<w'.heap.size):Env w' own' mb sb c p sc:=by
 obtain⟨n,f,a⟩:=h.rul;exact⟨h.chk.to S,⟨n,f,a.to S⟩,h.sco.sub S hm ho,hl⟩
theorem Env.plus {w:World} {own:Nat->Prop} {mb:Nat} {c:CB} {p:Pg} (h:Env w own mb sb c p sc) (hb:Below w w w') (hg:w<=g) (hl:g<w'):Env w' (plus own g) mb sb c p sc:=by
 obtain⟨_,_,_,_,x⟩:=h.sco
 exact h.sub (aV hb hg) (hb.block _ x.map.lt) (.inl x.om) λb hx=>by
  rcases hx with hx|hx
  ·exact ρ (h.ol b hx) hb.size
  omega
theorem Env.mb {w:World} {own:Nat->Prop} {mb:Nat} {c:CB} {p:Pg} (h:Env w own mb sb c p sc):own mb/\mb<w:=by
 obtain⟨_,_,_,_,x⟩:=h.sco;exact⟨x.om,x.map.lt⟩
variable {cs:List Value}
def fk {c:CB} {p:Pg} {mb n:Nat} (IH:xG c p mb n) {own:Nat->Prop} {e:Ex} {w:World} (hd:Ex.deep e<=n) (he:Env w own mb sb c p sc) (ho:ScOk p sc) (hr:ExR w (im own w) cs e):
 Calls prog 170 #[c.b,sb,.agg cs.toArray] w (Res w own mb sb sc (aa p n sc e none)):=by
 obtain⟨op,x,m,s,a,A,cap,rfl,N,_⟩:=dJ hr;obtain⟨D,B,z,y,v⟩:=zd5 IH hd he ho hr;have U:=he.mb.2;have T:=η he.mb.1;clear IH hd he ho hr N;have f:Hid (∀o1 o2,Below w w ((w.alloc o1).alloc o2)):=λo1 o2=>belA ζ1 _;obtain⟨r,hr⟩:=γ (aa p n sc e none)
 have q:=η hr;rw[<-hr];clear hr
 cases r with
 | none =>
  go_enter func170,ntmps170;go_wp2_with (go_at_call 141;refine (D (plus own (w+1)) sb sc _ e _ none _ B (z.plus (f _ _) ω Θ) y (v.to (aV (f _ _) ω)) rfl (λu h=>by cases h)).mono ?_;rw[<-q.o];rintro M H ⟨d,rfl⟩;have k:=η d;have g:=η ((Hs.new' w _ _).stp d Ω);obtain⟨G,F,E,L,J,I⟩:=g.facts;clear d);exact bodyPost_ret (am results170 _ _ (w+1) _ _ _ _ _ rfl (g.set3 _ _ _ _ _)) rfl ⟨smS ((Stm.of_below (f _ _)).trans k) ω ω _ _ _ _ _,rfl⟩
 | some t =>
  go_enter func170,ntmps170;go_wp2_with (go_at_call 141;refine (D (plus own (w+1)) sb sc _ e _ none _ B (z.plus (f _ _) ω Θ) y (v.to (aV (f _ _) ω)) rfl (λu h=>by cases h)).mono ?_;rw[<-q.o];rintro M H ⟨d,X,V,Y,W,O,rfl,i,j⟩;have k:=η d;have R:=η i;have l:=η j;have g:=η ((Hs.new' w _ _).stp d Ω);obtain⟨G,F,E,L,J,I⟩:=g.facts;clear d i j);exact bodyPost_ret (am results170 _ _ (w+1) _ _ _ _ _ rfl (g.set3 _ _ _ _ _)) rfl ⟨smS ((Stm.of_below (f _ _)).trans k) ω ω _ _ _ _ _,_,_,_,_,_,rfl,R.to (aG _ _ _ _ _),l.sub (aG _ _ _ _ _) (aq _ _ _ _ _ _ _ _ ω) T⟩
def bA {c:CB} {p:Pg} {mb n:Nat} (IH:xG c p mb n) {own:Nat->Prop} {ct:List Value} {e:Ex} {w:World} (hd:Ex.deep e<=n) (he:Env w own mb sb c p sc) (ho:ScOk p sc) (hr:ExR w (im own w) cs e) (ht:TyR w (im own w) ct t) (hf:ag t=true):
 Calls prog 105 #[c.b,sb,.agg cs.toArray,.agg ct.toArray] w (ResB w own mb sb sc (isE (aa p n) sc e t)):=by
 obtain⟨op,x,m,s,a,A,cap,rfl,W,_⟩:=dJ hr;obtain⟨k,j,l,z,f,rfl,U,_⟩:=ap ht;obtain⟨M,L,y,J,I,Y,H⟩:=zd7 IH hd he ho hr ht hf;have Z:=he.mb.2;have HO:=η he.mb.1;clear IH hd he ho hr W ht hf U;have g:Hid (∀o1 o2,Below w w ((w.alloc o1).alloc o2)):=λo1 o2=>belA ζ1 _;obtain⟨r,hr⟩:=γ (aa p n sc e (some t))
 have G:=η hr;have v:Hid (isE (aa p n) sc e t=r.isSome):=by show isE _ _ _ _=_;rw[hr];rfl
 clear hr
 have E:Hid (∀o1,WantR ((w.alloc o1).alloc (.cells (ty3 k j z l f) 40)) (im own ((w.alloc o1).alloc (.cells (ty3 k j z l f) 40))) ((w+1:Nat):Vl) (some t)):=λo1=>by
  have D:=Hs.new' w o1 (ty3 k j z l f);obtain⟨R,O,N,_⟩:=D.facts;refine⟨w+1,0,_,_,_,_,_,rfl,⟨D.lt,?_⟩,R,O,N,Y.to (sof (g _ _)).sub⟩;exact λhx=>by have:=y.ol _ hx;omega
 cases r with
 | none =>
  go_enter func105,ntmps105;go_wp2_with (go_at_call 141;refine (M own sb sc _ e _ (some t) _ L (y.bel (g _ _)) J (I.to (sof (g _ _)).sub) (E _) (λu h=>by injection h with h;rw[<-h];exact H)).mono ?_;rw[<-G.o];rintro V T ⟨d,rfl⟩;have q:=η d;clear d);go_ret;exact⟨by rw[v.o];rfl,smA ((Stm.of_below (g _ _)).trans q) _,λh=>by rw[v.o] at h;cases h⟩
 | some t =>
  go_enter func105,ntmps105;go_wp2_with (go_at_call 141;refine (M own sb sc _ e _ (some _) _ L (y.bel (g _ _)) J (I.to (sof (g _ _)).sub) (E _) (λu h=>by injection h with h;rw[<-h];exact H)).mono ?_;rw[<-G.o];rintro V T ⟨d,k1,s1,A1,n1,X,rfl,B,i⟩;have q:=η d;have F:=η i;clear d B i);go_ret;exact⟨by rw[v.o];rfl,smA ((Stm.of_below (g _ _)).trans q) _,λ_=>F.below ζ1⟩
def vX (a:List Ty):∀b,a.length≠b.length->cP a b=false:=by
 induction a with
 | nil=>intro b h;cases b with|nil=>simp at h|cons=>rfl
 | cons x a ih =>
  intro b h
  cases b with
  | nil=>rfl
  | cons y b=>rw[cP,ih b (by simpa using h),Bool.and_false]
def vY (a:List Ty):∀(b:List Ty) (k:Nat) (h:k<a) (h':k<b),bO a[k] b[k]=false->cP a b=false:=by
 induction a with
 | nil=>intro b k h;simp at h
 | cons x a ih =>
  intro b k h h' c
  cases b with
  | nil=>rfl
  | cons y b =>
   rw[cP]
   cases k with
   | zero=>simp at c;rw[c];rfl
   | succ k=>rw[ih b k (by simpa using h) (by simpa using h') (by simpa using c),Bool.and_false]
def tG (a:List Ty):∀(b:List Ty),a.length=b->(∀k (h:k<a.length) (h':k<b.length),bO a[k] b[k]=true)->cP a b=true:=by
 induction a with
 | nil=>intro b h _;cases b with|nil=>rfl|cons=>simp at h
 | cons x a ih =>
  intro b h c
  cases b with
  | nil=>simp at h
  | cons y b =>
   rw[cP,ih b (by simpa using h) (λk h1 h2=>by have:=c (k+1) (by simpa using h1) (by simpa using h2);simpa using this)];have:=c 0 Θ Θ;simp at this;rw[this];rfl
def vH (n:Nat):∀(cs cs':List Value) (t t':Ty) (w:World),SizeOf.sizeOf t<=n->TyR w (lo w) cs t->TyR w (lo w) cs' t'->Calls prog 111 #[.agg cs.toArray,.agg cs'.toArray] w λe w'=>e=.returned (.bool (bO t t'))/\Below w w w':=by
 induction n with
 | zero=>intro cs cs' t t' w I;cases t;simp at I
 | succ n ih =>
  intro cs cs' t t' w I H y;obtain⟨k,s,a,A,cap,rfl,rfl,_,hs,X⟩:=ap H;obtain⟨z,l,c,A',Y,rfl,rfl,_,bc,E⟩:=ap y;have bd:=X.le9;have a0:=E.le9
  have IH:Hid (∀(i:Nat) (h:i<a.length) (cs cs':List Value) (t':Ty) (w W:World) (b:Bool),bO a[i] t'=b->TyR w (lo w) cs a[i]->TyR w (lo w) cs' t'->Below w w W->Calls prog 111 #[.agg cs.toArray,.agg cs'.toArray] W λe w'=>e=.returned (b:Vl)/\Below W W w'):=λi h cs cs' t' w W b hb H y hW=>by
   subst hb;exact ih cs cs' a[i] t' W (by have:=List.sizeOf_lt_of_mem (ν h);simp at I;omega) (H.to (ae hW)) (y.to (ae hW))
  have HA:=η X;have an:=η E;have M:Hid (bO (.mk k s a) (.mk z l c)=(k==z&&(s.toList==l.toList&&cP a c))):=by show bO _ _=_;rw[bO]
  clear ih I H y X E;by_cases L:k=z
  ·subst L;have t1:(k != k)=false:=by simp
   by_cases v:s.toList=l.toList
   ·have V:(s.toList==l.toList)=true:=by simpa using v
    by_cases J:a.length=c
    ·have t3:((a.length:Int) != (c.length:Int))=false:=by simp;omega
     have f:Hid (bO (.mk k s a) (.mk k l c)=cP a c):=by show _=_;rw[M.o,V];simp
     have HL:=η J;have be:a.length<=c:=ω;clear v J;go_enter func111,ntmps111;go_wp2_with fail;go_loopw [30] (λi wr=>∃j:Nat,j<=a/\i=.int .i64 j/\Hid (∀q (h:q<a.length) (h':q<c.length),q<j->bO a[q] c[q]=true)/\Hid (Below w w wr)/\w.heap.size+1<wr/\Hid (wr.cell? ⟨w,2,none⟩=some (.slice A a cap)/\wr.cell? ⟨w+1,2,none⟩=some (.slice A' c Y))) (λi _=>a.length-(intOf i).toNat)
     case atStart=>exact⟨0,ω,rfl,λq _ _ h=>ω,((Below.refl _ _).alloc (υ _) _).alloc Θ _,by simp,by simp,by simp⟩
     case round =>
      obtain⟨j,hj,rfl,HQ,G,ad,HC⟩:=hrel;by_cases hlt:j<a
      ·have D:j<c:=ω;have u1:=zT j a;obtain⟨g,bb,k1,s1,a1,A1,a6,rfl,hg,e1,p0,p1,p2,U⟩:=cS (TysR.to HA (ae G)) hlt;obtain⟨g',az,k2,s2,a2,A2,a5,rfl,bf,e2,ac,ab,aa,T⟩:=cS (TysR.to an (ae G)) D;have c1:=HC.1;have c2:=HC.2;have i1:(0:Int)<=j:=ω;have i2:(j:Int)<a:=ω;have i3:(j:Int)<c:=ω;obtain⟨T1,T2⟩:=zd2 U T;clear e1 e2 U T;have r:∀(p:Addr) (u:Value),wr.cell? p=some u->∀(d:Nat) (os:Array Obj),(Sort.grow (redrawn wr d) os).cell? p=some u:=λp u hp d os=>((below_regrown wr d os).cell (World.block_lt_of_cell? wr p hp)).trans hp;have x1:=r _ _ c1;have x2:=r _ _ c2;have x3:=r _ _ p0;have x4:=r _ _ p1;have x5:=r _ _ p2;have x6:=r _ _ ac;have x7:=r _ _ ab;have x8:=r _ _ aa;obtain⟨bh,bg⟩:=zd2 c1 c2;clear r;have N:Hid (∀(d:Nat) (os:Array Obj),Below wr wr (Sort.grow (redrawn wr d) os)):=λd os=>below_regrown wr d os
       cases hsm:bO a[j] c[j] with
       | false =>
        obtain⟨Z,F⟩:=zd2 (vY a c j hlt D hsm) hsm;clear hsm;go_upto_region 6 with fail;refine wp_region_quiet_below Δ Δ ?_;repeat (first|go_big_quiet_step (first|(go_at_call 111;exact Calls.regrown_of (IH j hlt _ _ _ _ _ _ F T1 T2 (N _ _)))))
        refine wpQuiet_nil ?_;intro _ B;obtain⟨⟨dq,R⟩,x⟩:=B;subst x;go_wp2_with fail;go_ret;exact⟨by rw[f.o,Z.o];rfl,bel G (N _ _)⟩
       | true =>
        have HN:Hid (∀q (h:q<a.length) (h':q<c.length),q<j+1->bO a[q] c[q]=true):=λq h h' hq=>by
         by_cases e:q=j
         ·subst e;exact hsm
         exact HQ q h h' ω
        have F:=η hsm;clear hsm;go_upto_region 6 with fail;refine wp_region_quiet_below Δ Δ ?_;repeat (first|go_big_quiet_step (first|(go_at_call 111;exact Calls.regrown_of (IH j hlt _ _ _ _ _ _ F T1 T2 (N _ _)))))
        refine wpQuiet_nil ?_;intro _ B;obtain⟨⟨dq,R⟩,x⟩:=B;subst x;go_wp2_with fail;go_roundw
        case rel=>exact⟨j+1,ω,by go_num,HN,bel G (N _ _),ρ ad (below_regrown wr dq R).size,x1 _ _,x2 _ _⟩
        case measure=>simp[intOf];omega
      have u1:=zF j a;have Z:=η (tG a c HL λq h h'=>HQ q h h' ω);go_wp2_with fail;go_ret;exact⟨by rw[f.o,Z.o];rfl,G⟩
    have t3:((a.length:Int) != (c.length:Int))=true:=by simp;omega
    have f:Hid (bO (.mk k s a) (.mk k l c)=false):=by show _=_;rw[M.o,vX a c J];simp
    clear v J;go_enter func111,ntmps111;go_wp2_with fail;go_ret;exact⟨by rw[f.o];rfl,ζ2⟩
   have V:(s.toList==l.toList)=false:=by simpa using v
   have f:Hid (bO (.mk k s a) (.mk k l c)=false):=by show _=_;rw[M.o,V];simp
   clear v;go_enter func111,ntmps111;go_wp2_with fail;go_ret;exact⟨by rw[f.o];rfl,ζ2⟩
  have t1:(k != z)=true:=by simpa using L
  have O:(k==z)=false:=by simpa using L
  have f:Hid (bO (.mk k s a) (.mk z l c)=false):=by show _=_;rw[M.o,O];rfl
  clear L O;go_enter func111,ntmps111;go_wp2_with fail;go_ret;exact⟨by rw[f.o];rfl,ζ2⟩
def lN {cs':List Value} {t':Ty} {w:World} (hr:TyR w (lo w) cs t) (hr':TyR w (lo w) cs' t'):Calls prog 111 #[.agg cs.toArray,.agg cs'.toArray] w λe w'=>e=.returned (.bool (bO t t'))/\Below w w w':=vH _ cs cs' t t' w (υ _) hr hr'
def dC (slots actor:Int) (l:List Fld):Sc:={ slots:=slots,bound:=λi=>if i<0 then none else (l[i.toNat]?).map (·.type),vars:=[],actor:=actor }
variable {l:List Fld}
def oB {slots actor:Int} {j:Nat} (h:j<l):dC slots actor (l.take (j+1))=(dC slots actor (l.take j)).set (j:Int) l[j].type:=by
 unfold dC Sc.set;congr 1;funext i;by_cases a:i<0
 ·rw[if_pos a,if_neg ω];simp[a]
 rw[if_neg a];by_cases c:i=(j:Int)
 ·subst c;rw[if_pos rfl,Int.toNat_natCast,List.getElem?_take];simp[ξ h]
 rw[if_neg c];simp only[if_neg a];rw[List.getElem?_take,List.getElem?_take];by_cases b:i.toNat<j
 ·rw[if_pos b,if_pos ω]
 rw[if_neg b,if_neg ω]
def oC {slots actor:Int} {j:Nat} (h:j<l) (hs:(l.length:Int)<=slots):(dC slots actor (l.take j)).bindB (j:Int)=true:=by
 unfold Sc.bindB dC;simp[List.getElem?_take];omega
def bEq (a b:ByteArray):Bool:=a.toList==b.toList
def eqL {α:Type} (f:α->α->Bool):List α->List α->Bool
 | [],[]=>true
 | x::xs,y::ys=>f x y&&eqL f xs ys
 | _,_=>false
variable {α:Type}
def gB (f:α->α->Bool) (a:List α):∀b,a.length≠b.length->eqL f a b=false:=by
 induction a with
 | nil=>intro b h;cases b with|nil=>simp at h|cons=>rfl
 | cons x a ih =>
  intro b h
  cases b with
  | nil=>rfl
  | cons y b=>rw[eqL,ih b (by simpa using h),Bool.and_false]
def gC (f:α->α->Bool) (a:List α):∀(b:List α) (k:Nat) (h:k<a) (h':k<b),f a[k] b[k]=false->eqL f a b=false:=by
 induction a with
 | nil=>intro b k h;simp at h
 | cons x a ih =>
  intro b k h h' c
  cases b with
  | nil=>rfl
  | cons y b =>
   rw[eqL]
   cases k with
   | zero=>simp at c;rw[c];rfl
   | succ k=>rw[ih b k (by simpa using h) (by simpa using h') (by simpa using c),Bool.and_false]
def eC (f:α->α->Bool) (a:List α):∀(b:List α),a.length=b->(∀k (h:k<a.length) (h':k<b.length),f a[k] b[k]=true)->eqL f a b=true:=by
 induction a with
 | nil=>intro b h _;cases b with|nil=>rfl|cons=>simp at h
 | cons x a ih =>
  intro b h c
  cases b with
  | nil=>simp at h
  | cons y b =>
   rw[eqL,ih b (by simpa using h) (λk h1 h2=>by have:=c (k+1) (by simpa using h1) (by simpa using h2);simpa using this)];have:=c 0 Θ Θ;simp at this;rw[this];rfl
mutual
def df:Ex->Ex->Bool
 | .mk o n m s a,.mk o' n' m' s' a'=>(o==o')&&((n==n')&&((m==m')&&(bEq s s'&&ot a a')))
def ot:List Ex->List Ex->Bool
 | [],[]=>true
 | x::xs,y::ys=>df x y&&ot xs ys
 | _,_=>false
end
def wg (a:List Ex):∀b,ot a b=eqL df a b:=by
 induction a with
 | nil=>intro b;cases b<;>rfl
 | cons x a ih=>intro b;cases b with|nil=>rfl|cons y b=>rw[ot,eqL,ih]
mutual
def cU:St->St->Bool
 | .mk o n m s u xs h e a,.mk o' n' m' s' u' xs' h' e' a'=>(o==o')&&((n==n')&&((m==m')&&(bEq s s'&&(bEq u u'&&(eqL df xs xs'&&(kE h h'&&(kE e e'&&kE a a')))))))
def kE:List St->List St->Bool
 | [],[]=>true
 | x::xs,y::ys=>cU x y&&kE xs ys
 | _,_=>false
end
def mL (a:List St):∀b,kE a b=eqL cU a b:=by
 induction a with
 | nil=>intro b;cases b<;>rfl
 | cons x a ih=>intro b;cases b with|nil=>rfl|cons y b=>rw[kE,eqL,ih]
def cy (a b:Fld):Bool:=bEq a.name b.name&&bO a.type b.type
def eQ (a b:Ctr):Bool:=bEq a.name b.name&&eqL cy a.fields b.fields
def eP (a b:Dcl):Bool:=bEq a.name b.name&&((a.record==b.record)&&eqL eQ a.ctors b.ctors)
def eO (a b:Eff):Bool:=bEq a.name b.name&&(eqL cy a.params b.params&&bO a.answer b.answer)
def gY (a b:Fn):Bool:=bEq a.name b.name&&(eqL cy a.params b.params&&(bO a.result b.result&&((a.slots==b.slots)&&df a.body b.body)))
def gW (a b:Vr):Bool:=bEq a.name b.name&&(bO a.type b.type&&df a.init b.init)
def gX (a b:Hd):Bool:=bEq a.msg b.msg&&(eqL cy a.params b.params&&((a.slots==b.slots)&&eqL cU a.body b.body))
def gZ (a b:Ac):Bool:=bEq a.name b.name&&(eqL cy a.params b.params&&((a.slots==b.slots)&&((a.policy==b.policy)&&((a.most==b.most)&&(eqL gW a.vars b.vars&&eqL gX a.on b.on)))))
def rC (a b:Pg):Bool:=eqL eP a.types b.types&&(eqL eO a.effects b.effects&&(eqL gY a.funs b.funs&&eqL gZ a.actors b.actors))
def aE (b:Bool) (w:World) (e:Ending) (w':World):Prop:=e=.returned (b:Vl)/\Below w w w'
def ch2 (a b:Bool):a=false\/(a=true/\b=false)\/(a=true/\b=true):=by cases a<;>cases b<;>simp
def ch3 (a b c:Bool):a=false\/(a=true/\b=false)\/(a=true/\b=true/\c=false)\/(a=true/\b=true/\c=true):=by cases a<;>cases b<;>cases c<;>simp
def ch4 (a b c d:Bool):a=false\/(a=true/\b=false)\/(a=true/\b=true/\c=false)\/(a=true/\b=true/\c=true/\d=false)\/(a=true/\b=true/\c=true/\d=true):=by cases a<;>cases b<;>cases c<;>cases d<;>simp
def ch5 (a b c d e:Bool):a=false\/(a=true/\b=false)\/(a=true/\b=true/\c=false)\/(a=true/\b=true/\c=true/\d=false)\/(a=true/\b=true/\c=true/\d=true/\e=false)\/(a=true/\b=true/\c=true/\d=true/\e=true):=by
 cases a with|false=>simp|true=>simpa using ch4 b c d e
def ch7 (a b c d e f g:Bool):a=false\/(a=true/\b=false)\/(a=true/\b=true/\c=false)\/(a=true/\b=true/\c=true/\d=false)\/(a=true/\b=true/\c=true/\d=true/\e=false)\/(a=true/\b=true/\c=true/\d=true/\e=true/\f=false)\/(a=true/\b=true/\c=true/\d=true/\e=true/\f=true/\g=false)\/(a=true/\b=true/\c=true/\d=true/\e=true/\f=true/\g=true):=by
 cases a with|false=>simp|true=>cases b with|false=>simp|true=>simpa using ch5 c d e f g
def ch9 (a b c d e f g h i:Bool):a=false\/(a=true/\b=false)\/(a=true/\b=true/\c=false)\/(a=true/\b=true/\c=true/\d=false)\/(a=true/\b=true/\c=true/\d=true/\e=false)\/(a=true/\b=true/\c=true/\d=true/\e=true/\f=false)\/(a=true/\b=true/\c=true/\d=true/\e=true/\f=true/\g=false)\/(a=true/\b=true/\c=true/\d=true/\e=true/\f=true/\g=true/\h=false)\/(a=true/\b=true/\c=true/\d=true/\e=true/\f=true/\g=true/\h=true/\i=false)\/(a=true/\b=true/\c=true/\d=true/\e=true/\f=true/\g=true/\h=true/\i=true):=by
 cases a with|false=>simp|true=>cases b with|false=>simp|true=>simpa using ch7 c d e f g h i
def celA {w:World} {a:Addr} (h:w.cell? a=some v) (o:Obj):(w.alloc o).cell? a=some v:=((belA (belR w) o).cell (World.block_lt_of_cell? w a h)).trans h
def pk {w:World} {P:Nat->Prop} {n cap:Nat} (h:FldsR w P (.slice A n cap) l) {i:Nat} (hi:i<l):
 ∃g off k s a B c,A=some ⟨g,off,none⟩/\P g/\w.cell? ⟨g,off+i*4,none⟩=some (.string l[i].name)/\w.cell? ⟨g,off+i*4+1,none⟩=some (.int .i64 k)/\w.cell? ⟨g,off+i*4+2,none⟩=some (.string s)/\w.cell? ⟨g,off+i*4+3,none⟩=some (.slice B a c)/\FldR w P [.string l[i].name,.int .i64 k,.string s,.slice B a c] l[i]/\True:=by
 obtain⟨g,off,k,s,a,B,c,f,e,-,r,q,p,j,d,b⟩:=dw h hi;exact⟨g,off,k,s,_,B,c,f,e,r,q,p,j,⟨_,rfl,d,b⟩,trivial⟩
def qU {w:World} {P:Nat->Prop} {n cap:Nat} {l:List St} (h:StsR w P (.slice A n cap) l) {i:Nat} (hi:i<l):
 ∃g off op x m s u xs thn els arms A0 c0 A1 c1 A2 c2 A3 c3,A=some ⟨g,off,none⟩/\P g/\w.cell? ⟨g,off+i*9,none⟩=some (.int .i64 op)/\w.cell? ⟨g,off+i*9+1,none⟩=some (.int .i64 x)/\w.cell? ⟨g,off+i*9+2,none⟩=some (.int .i64 m)/\w.cell? ⟨g,off+i*9+3,none⟩=some (.string s)/\w.cell? ⟨g,off+i*9+4,none⟩=some (.string u)/\w.cell? ⟨g,off+i*9+5,none⟩=some (.slice A0 xs c0)/\w.cell? ⟨g,off+i*9+6,none⟩=some (.slice A1 thn c1)/\w.cell? ⟨g,off+i*9+7,none⟩=some (.slice A2 els c2)/\w.cell? ⟨g,off+i*9+8,none⟩=some (.slice A3 arms c3)/\StR w P [.int .i64 op,.int .i64 x,.int .i64 m,.string s,.string u,.slice A0 xs c0,.slice A1 thn c1,.slice A2 els c2,.slice A3 arms c3] l[i]/\True:=by
 obtain⟨g,off,q,k,j,f,p,d⟩:=SlR.at h hi;obtain⟨op,x,m,s,u,xs,a,b,c,A0,c0,A1,c1,A2,c2,A3,c3,rfl,e,-⟩:=kA f;exact⟨g,off,op,x,m,s,u,_,_,_,_,A0,c0,A1,c1,A2,c2,A3,c3,k,j,d 0 _ rfl,d 1 _ rfl,d 2 _ rfl,d 3 _ rfl,d 4 _ rfl,d 5 _ rfl,d 6 _ rfl,d 7 _ rfl,d 8 _ rfl,f,trivial⟩
set_option maxRecDepth 1000000 in
def zfEqS {p:Prop} (h:p:=by
 have lm:=h.le9;have a6:=h'.le9;have U:=η h;have L:=η h';have p:=η HC;clear HC h h';by_cases F:a.length=b
 ·have t3:((a.length:Int) != (b.length:Int))=false:=by simp;omega
  have T:=η F;have a8:a.length<=b:=ω;clear F
  first
   | guard_hyp kk0:True
     go_enter func146,ntmps146
   | guard_hyp kk1:True
     go_enter func108,ntmps108
   | guard_hyp kk2:True
     go_enter func148,ntmps148
   | go_enter func195,ntmps195
  go_wp2_with fail
  first
   | guard_hyp kk0:True
     go_loopw [17] (λi wr=>∃j:Nat,j<=a/\i=.int .i64 j/\Hid (∀k (h:k<a.length) (h':k<b.length),k<j->cy a[k] b[k]=true)/\Hid (Below w w wr)) (λi _=>a.length-(intOf i).toNat)
   | guard_hyp kk1:True
     go_loopw [17] (λi wr=>∃j:Nat,j<=a/\i=.int .i64 j/\Hid (∀k (h:k<a.length) (h':k<b.length),k<j->eQ a[k] b[k]=true)/\Hid (Below w w wr)) (λi _=>a.length-(intOf i).toNat)
   | guard_hyp kk2:True
     go_loopw [17] (λi wr=>∃j:Nat,j<=a/\i=.int .i64 j/\Hid (∀k (h:k<a.length) (h':k<b.length),k<j->df a[k] b[k]=true)/\Hid (Below w w wr)) (λi _=>a.length-(intOf i).toNat)
   | go_loopw [17] (λi wr=>∃j:Nat,j<=a/\i=.int .i64 j/\Hid (∀k (h:k<a.length) (h':k<b.length),k<j->cU a[k] b[k]=true)/\Hid (Below w w wr)) (λi _=>a.length-(intOf i).toNat)
  case atStart=>exact⟨0,ω,rfl,λk _ _ h=>ω,belR _⟩
  case round =>
   obtain⟨j,hj,rfl,B,d⟩:=hrel;by_cases hlt:j<a
   ·have c:j<b:=ω;have u1:=zT j a;have i1:(0:Int)<=(j:Int):=ω;have i2:(j:Int)<(a.length:Int):=ω;have i3:(j:Int)<(b.length:Int):=ω
    first
     | guard_hyp kk1:True
       obtain⟨g,O,B1,c1,rfl,-,p0,p1,v,-⟩:=ew (SlR.to' U (ae d) (λ_ _ x=>x.to (ae d))) hlt;obtain⟨g',E,Z,Y,rfl,-,J,I,u,-⟩:=ew (SlR.to' L (ae d) (λ_ _ x=>x.to (ae d))) c
     | guard_hyp kk0:True
       obtain⟨g,O,k1,s1,a1,B1,c1,rfl,-,p0,p1,p2,p3,v,-⟩:=pk (SlR.to' U (ae d) (λ_ _ x=>x.to (ae d))) hlt;obtain⟨g',E,a7,V,aq,Z,Y,rfl,-,J,I,N,M,u,-⟩:=pk (SlR.to' L (ae d) (λ_ _ x=>x.to (ae d))) c
     | guard_hyp kk2:True
       obtain⟨g,O,o1,x1,m1,s1,a1,B1,c1,rfl,-,-,p0,p1,p2,p3,p4,v⟩:=aQ (SlR.to' U (ae d) (λ_ _ x=>x.to (ae d))) hlt;obtain⟨g',E,an,ad,ao,V,aq,Z,Y,rfl,-,-,J,I,N,M,X,u⟩:=aQ (SlR.to' L (ae d) (λ_ _ x=>x.to (ae d))) c
     | obtain⟨g,O,o1,x1,m1,s1,u1,y1,t1,e1,z1,D0,d0,D1,d1,D2,d2,D3,d3,rfl,-,p0,p1,p2,p3,p4,p5,p6,p7,p8,v,-⟩:=qU (SlR.to' U (ae d) (λ_ _ x=>x.to (ae d))) hlt
       obtain⟨g',E,an,ad,ao,V,a4,a3,a5,a9,a2,bh,bd,bg,bc,bf,bb,be,ba,rfl,-,J,I,N,M,X,ak,aj,ai,ah,u,-⟩:=qU (SlR.to' L (ae d) (λ_ _ x=>x.to (ae d))) c
    obtain⟨z,y⟩:=zd2 v u;have z0:=celA J;have z1:=celA I
    first
     | done
     | guard_hyp kk1:True
     | have z2:=celA N
       have z3:=celA M
       first
        | done
        | guard_hyp kk0:True
        | have z4:=celA X
          first
           | done
           | guard_hyp kk2:True
           | have z5:=celA ak
             have z6:=celA aj;have z7:=celA ai;have z8:=celA ah
    clear v u
    first
     | guard_hyp kk3:True
       cases hsm:cU a[j] b[j] with
        | false =>
         have t:Hid (eqL cU a b=false):=gC _ a b j hlt c hsm;have l:=η hsm;clear hsm;go_wp2_with (go_at_call 196;refine (p j hlt c _ _ _ _ l (z.to (ae ζ2)) (y.to (ae ζ2))).mono ?_;rintro G D ⟨rfl,f⟩);go_ret;exact⟨by rw[t.o];first|rfl|(simp;done),bel d (bel ζ2 f)⟩
        | true =>
         have H:Hid (∀k (h:k<a.length) (h':k<b.length),k<j+1->cU a[k] b[k]=true):=λk h h' hk=>by
          by_cases e:k=j
          ·subst e;exact hsm
          exact B k h h' ω
         have l:=η hsm;clear hsm;go_wp2_with (go_at_call 196;refine (p j hlt c _ _ _ _ l (z.to (ae ζ2)) (y.to (ae ζ2))).mono ?_;rintro G D ⟨rfl,f⟩);go_roundw
         case rel=>exact⟨j+1,ω,by go_num,H,bel d (bel ζ2 f)⟩
         case measure=>simp[intOf];omega
     | first
        | guard_hyp kk2:True
          cases hsm:df a[j] b[j] with
           | false =>
            have t:Hid (eqL df a b=false):=gC _ a b j hlt c hsm;have l:=η hsm;clear hsm;go_wp2_with (go_at_call 112;refine (p j hlt c _ _ _ _ l (z.to (ae ζ2)) (y.to (ae ζ2))).mono ?_;rintro G D ⟨rfl,f⟩);go_ret;exact⟨by rw[t.o];first|rfl|(simp;done),bel d (bel ζ2 f)⟩
           | true =>
            have H:Hid (∀k (h:k<a.length) (h':k<b.length),k<j+1->df a[k] b[k]=true):=λk h h' hk=>by
             by_cases e:k=j
             ·subst e;exact hsm
             exact B k h h' ω
            have l:=η hsm;clear hsm;go_wp2_with (go_at_call 112;refine (p j hlt c _ _ _ _ l (z.to (ae ζ2)) (y.to (ae ζ2))).mono ?_;rintro G D ⟨rfl,f⟩);go_roundw
            case rel=>exact⟨j+1,ω,by go_num,H,bel d (bel ζ2 f)⟩
            case measure=>simp[intOf];omega
        | first
           | guard_hyp kk0:True
             cases hsm:cy a[j] b[j] with
              | false =>
               have t:Hid (eqL cy a b=false):=gC _ a b j hlt c hsm;have l:=η hsm;clear hsm;go_wp2_with (go_at_call 147;refine (p j hlt c _ _ _ _ l (z.to (ae ζ2)) (y.to (ae ζ2))).mono ?_;rintro G D ⟨rfl,f⟩);go_ret;exact⟨by rw[t.o];first|rfl|(simp;done),bel d (bel ζ2 f)⟩
              | true =>
               have H:Hid (∀k (h:k<a.length) (h':k<b.length),k<j+1->cy a[k] b[k]=true):=λk h h' hk=>by
                by_cases e:k=j
                ·subst e;exact hsm
                exact B k h h' ω
               have l:=η hsm;clear hsm;go_wp2_with (go_at_call 147;refine (p j hlt c _ _ _ _ l (z.to (ae ζ2)) (y.to (ae ζ2))).mono ?_;rintro G D ⟨rfl,f⟩);go_roundw
               case rel=>exact⟨j+1,ω,by go_num,H,bel d (bel ζ2 f)⟩
               case measure=>simp[intOf];omega
           | cases hsm:eQ a[j] b[j] with
              | false =>
               have t:Hid (eqL eQ a b=false):=gC _ a b j hlt c hsm;have l:=η hsm;clear hsm;go_wp2_with (go_at_call 109;refine (p j hlt c _ _ _ _ l (z.to (ae ζ2)) (y.to (ae ζ2))).mono ?_;rintro G D ⟨rfl,f⟩);go_ret;exact⟨by rw[t.o];first|rfl|(simp;done),bel d (bel ζ2 f)⟩
              | true =>
               have H:Hid (∀k (h:k<a.length) (h':k<b.length),k<j+1->eQ a[k] b[k]=true):=λk h h' hk=>by
                by_cases e:k=j
                ·subst e;exact hsm
                exact B k h h' ω
               have l:=η hsm;clear hsm;go_wp2_with (go_at_call 109;refine (p j hlt c _ _ _ _ l (z.to (ae ζ2)) (y.to (ae ζ2))).mono ?_;rintro G D ⟨rfl,f⟩);go_roundw
               case rel=>exact⟨j+1,ω,by go_num,H,bel d (bel ζ2 f)⟩
               case measure=>simp[intOf];omega
   have u1:=zF j a
   first
    | guard_hyp kk0:True
      have t:Hid (eqL cy a b=true):=eC _ a b T λk h h'=>B k h h' ω
    | guard_hyp kk1:True
      have t:Hid (eqL eQ a b=true):=eC _ a b T λk h h'=>B k h h' ω
    | guard_hyp kk2:True
      have t:Hid (eqL df a b=true):=eC _ a b T λk h h'=>B k h h' ω
    | have t:Hid (eqL cU a b=true):=eC _ a b T λk h h'=>B k h h' ω
   go_wp2_with fail;go_ret;exact⟨by rw[t.o];first|rfl|(simp;done),d⟩
 have t3:((a.length:Int) != (b.length:Int))=true:=by simp;omega
 first
  | guard_hyp kk0:True
    have R:Hid (eqL cy a b=false):=gB _ a b F
  | guard_hyp kk1:True
    have R:Hid (eqL eQ a b=false):=gB _ a b F
  | guard_hyp kk2:True
    have R:Hid (eqL df a b=false):=gB _ a b F
  | have R:Hid (eqL cU a b=false):=gB _ a b F
 clear F
 first
  | guard_hyp kk0:True
    go_enter func146,ntmps146
  | guard_hyp kk1:True
    go_enter func108,ntmps108
  | guard_hyp kk2:True
    go_enter func148,ntmps148
  | go_enter func195,ntmps195
 go_wp2_with fail;go_ret;exact⟨by rw[R.o];rfl,belR _⟩) :p:=h
variable {A':Option Addr} {q q':Nat}
def eqf_146 {a b:List Fld} {w:World} (h:SlR w (lo w) 4 (FldR w (lo w)) (.slice A a q) a) (h':SlR w (lo w) 4 (FldR w (lo w)) (.slice A' b q') b) (HC:∀(i:Nat) (hi:i<a) (hi':i<b) (cs cs':List Value) (W:World) (r:Bool),cy a[i] b[i]=r->FldR W (lo W) cs a[i]->FldR W (lo W) cs' b[i]->Calls prog 147 #[.agg cs.toArray,.agg cs'.toArray] W (aE r W)):
 Calls prog 146 #[.slice A a q,.slice A' b q',.func (.func 147) #[] #[]] w (aE (eqL cy a b) w):=by
 have kk0:=trivial;exact zfEqS
def eqf_108 {a b:List Ctr} {w:World} (h:SlR w (lo w) 2 (CtrR w (lo w)) (.slice A a q) a) (h':SlR w (lo w) 2 (CtrR w (lo w)) (.slice A' b q') b) (HC:∀(i:Nat) (hi:i<a) (hi':i<b) (cs cs':List Value) (W:World) (r:Bool),eQ a[i] b[i]=r->CtrR W (lo W) cs a[i]->CtrR W (lo W) cs' b[i]->Calls prog 109 #[.agg cs.toArray,.agg cs'.toArray] W (aE r W)):
 Calls prog 108 #[.slice A a q,.slice A' b q',.func (.func 109) #[] #[]] w (aE (eqL eQ a b) w):=by
 have kk1:=trivial;exact zfEqS
def eqf_148 {a b:List Ex} {w:World} (h:SlR w (lo w) 5 (ExR w (lo w)) (.slice A a q) a) (h':SlR w (lo w) 5 (ExR w (lo w)) (.slice A' b q') b) (HC:∀(i:Nat) (hi:i<a) (hi':i<b) (cs cs':List Value) (W:World) (r:Bool),df a[i] b[i]=r->ExR W (lo W) cs a[i]->ExR W (lo W) cs' b[i]->Calls prog 112 #[.agg cs.toArray,.agg cs'.toArray] W (aE r W)):
 Calls prog 148 #[.slice A a q,.slice A' b q',.func (.func 112) #[] #[]] w (aE (eqL df a b) w):=by
 have kk2:=trivial;exact zfEqS
def eqf_195 {a b:List St} {w:World} (h:SlR w (lo w) 9 (StR w (lo w)) (.slice A a q) a) (h':SlR w (lo w) 9 (StR w (lo w)) (.slice A' b q') b) (HC:∀(i:Nat) (hi:i<a) (hi':i<b) (cs cs':List Value) (W:World) (r:Bool),cU a[i] b[i]=r->StR W (lo W) cs a[i]->StR W (lo W) cs' b[i]->Calls prog 196 #[.agg cs.toArray,.agg cs'.toArray] W (aE r W)):
 Calls prog 195 #[.slice A a q,.slice A' b q',.func (.func 196) #[] #[]] w (aE (eqL cU a b) w):=by
 have kk3:=trivial;exact zfEqS
end Go.Proofs.YtjohpidklbhmcaaGreatDoor
