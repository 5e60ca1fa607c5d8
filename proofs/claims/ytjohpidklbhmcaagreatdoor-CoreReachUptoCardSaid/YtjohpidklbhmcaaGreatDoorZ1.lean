/- Core -/
import Derived.Test.YtjohpidklbhmcaaGreatDoorProg
import Derived.Deep.RegionHeld3
import Derived.Test.YtjohpidklbhmcaaGreatDoorHd
import Derived.WalkKit
import Derived.Maps.OwnSet
import Derived.Maps.OwnOps
import Derived.StringKeys
import Derived.Test.YtjohpidklbhmcaaGreatDoorRows
import Derived.WalkSpells
import Derived.WalkLawsBesides
import Derived.Deep.DeepCutAuto
import Derived.Deep.QuietTactic
import Derived.BigQuiet
import Derived.Lib.QuietBelow
namespace Go.Proofs.YtjohpidklbhmcaaGreatDoor
set_option linter.all false
open Go.Proofs.Tryz
def nthO:List Oper->Nat->Option Oper
 | [],_=>none
 | o::_,0=>some o
 | _::l,n+1=>nthO l n
section
variable {i:Nat}
def nthO_eq {ops:Array Oper} {o:Oper} (h:nthO ops.toList i=some o):ops[i]?=some o:=by
 have:∀(l:List Oper) (i:Nat),nthO l i=l[i]?:=by
  intro l;induction l with
  | nil=>intro i;rfl
  | cons x l ih=>intro i;cases i with
   | zero=>rfl
   | succ n=>exact ih n
 rw[<-Array.getElem?_toList,<-this];exact h
section
variable {P:Program} {md:Region.Mode} {ops:Array Oper} {Q:Exit->Act->World->Prop} {S:World->Prop} {fuel:Nat} {listed:Array Bool} {a a':Act} {w:World} {dst:Option Nat} {op:Op} {ty:Nat} {pos:String} {after:Array Edge} {g:Option (Nat×Bool)} {v:Value}
def tkB (S:World->Prop) {id:Nat} (hS:S w.drew) (h:S w.drew->wpAnyH P .any ops Q S ops.size (Array.replicate ops.size false) a w.drew) (hm:P.follows .mixedOrders=true:=by kernel_rfl):(Code.region id ops true).wp P Q a w:=
 wp_region_held_drew hm hS h
def tkQ (i:Nat) (h:wpAnyH P md ops Q S fuel (listed.setIfInBounds i true) a' w)
 (hr:(Region.ready md ops listed).contains i=true:=by kernel_rfl)
 (hi:nthO ops.toList i=some { dst:=dst,op:=op,type:=ty,pos:=pos,after:=after,guard:=g }:=by exact rfl)
 (hs:Region.noSelect ops=true:=by kernel_rfl) (hf:Region.free md ops listed i=true:=by kernel_rfl)
 (hw:Region.wanted { dst:=dst,op:=op,type:=ty,pos:=pos,after:=after,guard:=g } (yielded ops a.tmps)=true:=by rfl)
 (hy:∀w,S w->(execOp a.eval { dst:=dst,op:=op,type:=ty,pos:=pos,after:=after,guard:=g }).run P w=.ok (.value v) w:=by intro w hSw;go_simp;first|done|with_reducible rfl)
 (hS:S w:=by assumption) (hQ:∀c a w,Q (.panic c) (a.put dst v) w->Q (.panic c) a w:=by exact λ_ _ _ h=>h)
 (ha:a.put dst v=a':=by first|(simp only[Act.put,List.setIfInBounds_toArray,List.set_cons_zero,List.set_cons_succ];rfl)|rfl):wpAnyH P md ops Q S (fuel+1) listed a w:=
 wpAnyH_take (nthO_eq hi) hs hf hr hQ (.inl ⟨hw,hy⟩) hS (by rw[ha];exact h)
def tkN (i:Nat) (h:wpAnyH P md ops Q S fuel (listed.setIfInBounds i true) a' w)
 (hr:(Region.ready md ops listed).contains i=true:=by kernel_rfl)
 (hi:nthO ops.toList i=some { dst:=dst,op:=op,type:=ty,pos:=pos,after:=after,guard:=g }:=by exact rfl)
 (hs:Region.noSelect ops=true:=by kernel_rfl) (hf:Region.free md ops listed i=true:=by kernel_rfl)
 (hw:Region.wanted { dst:=dst,op:=op,type:=ty,pos:=pos,after:=after,guard:=g } (yielded ops a.tmps)=false:=by rfl)
 (hS:S w:=by assumption) (hQ:∀c a w,Q (.panic c) (a.put dst undef) w->Q (.panic c) a w:=by exact λ_ _ _ h=>h)
 (ha:a.put dst undef=a':=by first|(simp only[Act.put,List.setIfInBounds_toArray,List.set_cons_zero,List.set_cons_succ];rfl)|rfl):wpAnyH P md ops Q S (fuel+1) listed a w:=
 wpAnyH_take (nthO_eq hi) hs hf hr hQ (.inr ⟨hw,rfl⟩) hS (by rw[ha];exact h)
def tkE (i:Nat) (h:∀K':Act->World->Prop,Shut (∀a w,S w->(S w->wpAnyH P md ops Q S fuel (listed.setIfInBounds i true) a w)->K' a w)->if Region.wanted { dst:=dst,op:=op,type:=ty,pos:=pos,after:=after,guard:=g } (yielded ops a.tmps)=true then Oper.wp P { dst:=dst,op:=op,type:=ty,pos:=pos,after:=after,guard:=g } a w K' Q else K' (a.put dst undef) w)
 (hi:nthO ops.toList i=some { dst:=dst,op:=op,type:=ty,pos:=pos,after:=after,guard:=g }:=by exact rfl)
 (hr:Region.ready md ops listed=[i]:=by kernel_rfl):wpAnyH P md ops Q S (fuel+1) listed a w:=
 wpAnyH_ready hr Θ (AllReadyH.cons (nthO_eq hi) h AllReadyH.nil)
def tkR {K:Act->World->Prop} (hK:Shut (∀a w,S w->(S w->wpAnyH P md ops Q S fuel (listed.setIfInBounds i true) a w)->K a w)) (hS:S w) (h:S w->wpAnyH P md ops Q S fuel (listed.setIfInBounds i true) a' w) (ha:a=a':=by first|(simp only[Act.put,List.setIfInBounds_toArray,List.set_cons_zero,List.set_cons_succ];rfl)|rfl):K a w:=
 hK _ _ hS (λhw=>by rw[ha];exact h hw)
structure Kp (q:Prop):Prop where
 o:q
def θ {p q:Prop} (k:q) (f:Kp q->p:=by intro k;(first|refine tkQ 0 ?_ (by decide +kernel) (hf:=by decide +kernel)|refine tkN 0 ?_ (by decide +kernel) (hf:=by decide +kernel)|skip);(first|refine tkQ 1 ?_ (by decide +kernel) (hf:=by decide +kernel)|refine tkN 1 ?_ (by decide +kernel) (hf:=by decide +kernel)|skip);(first|refine tkQ 2 ?_ (by decide +kernel) (hf:=by decide +kernel)|refine tkN 2 ?_ (by decide +kernel) (hf:=by decide +kernel)|skip);(first|refine tkQ 3 ?_ (by decide +kernel) (hf:=by decide +kernel)|refine tkN 3 ?_ (by decide +kernel) (hf:=by decide +kernel)|skip);(first|refine tkQ 4 ?_ (by decide +kernel) (hf:=by decide +kernel)|refine tkN 4 ?_ (by decide +kernel) (hf:=by decide +kernel)|skip);(first|refine tkQ 5 ?_ (by decide +kernel) (hf:=by decide +kernel)|refine tkN 5 ?_ (by decide +kernel) (hf:=by decide +kernel)|skip);(first|refine tkQ 6 ?_ (by decide +kernel) (hf:=by decide +kernel)|refine tkN 6 ?_ (by decide +kernel) (hf:=by decide +kernel)|skip);(first|refine tkQ 7 ?_ (by decide +kernel) (hf:=by decide +kernel)|refine tkN 7 ?_ (by decide +kernel) (hf:=by decide +kernel)|skip);(first|refine tkQ 8 ?_ (by decide +kernel) (hf:=by decide +kernel)|refine tkN 8 ?_ (by decide +kernel) (hf:=by decide +kernel)|skip);(first|refine tkQ 9 ?_ (by decide +kernel) (hf:=by decide +kernel)|refine tkN 9 ?_ (by decide +kernel) (hf:=by decide +kernel)|skip);(first|refine tkQ 10 ?_ (by decide +kernel) (hf:=by decide +kernel)|refine tkN 10 ?_ (by decide +kernel) (hf:=by decide +kernel)|skip);(first|refine tkQ 11 ?_ (by decide +kernel) (hf:=by decide +kernel)|refine tkN 11 ?_ (by decide +kernel) (hf:=by decide +kernel)|skip);(first|refine tkQ 12 ?_ (by decide +kernel) (hf:=by decide +kernel)|refine tkN 12 ?_ (by decide +kernel) (hf:=by decide +kernel)|skip);(first|refine tkQ 13 ?_ (by decide +kernel) (hf:=by decide +kernel)|refine tkN 13 ?_ (by decide +kernel) (hf:=by decide +kernel)|skip);(first|refine tkQ 14 ?_ (by decide +kernel) (hf:=by decide +kernel)|refine tkN 14 ?_ (by decide +kernel) (hf:=by decide +kernel)|skip);(first|refine tkQ 15 ?_ (by decide +kernel) (hf:=by decide +kernel)|refine tkN 15 ?_ (by decide +kernel) (hf:=by decide +kernel)|skip);(first|refine tkQ 16 ?_ (by decide +kernel) (hf:=by decide +kernel)|refine tkN 16 ?_ (by decide +kernel) (hf:=by decide +kernel)|skip);(first|refine tkQ 17 ?_ (by decide +kernel) (hf:=by decide +kernel)|refine tkN 17 ?_ (by decide +kernel) (hf:=by decide +kernel)|skip);(first|refine tkQ 18 ?_ (by decide +kernel) (hf:=by decide +kernel)|refine tkN 18 ?_ (by decide +kernel) (hf:=by decide +kernel)|skip);(first|refine tkQ 19 ?_ (by decide +kernel) (hf:=by decide +kernel)|refine tkN 19 ?_ (by decide +kernel) (hf:=by decide +kernel)|skip);(first|refine tkQ 20 ?_ (by decide +kernel) (hf:=by decide +kernel)|refine tkN 20 ?_ (by decide +kernel) (hf:=by decide +kernel)|skip);(first|refine tkQ 21 ?_ (by decide +kernel) (hf:=by decide +kernel)|refine tkN 21 ?_ (by decide +kernel) (hf:=by decide +kernel)|skip);(first|refine tkQ 22 ?_ (by decide +kernel) (hf:=by decide +kernel)|refine tkN 22 ?_ (by decide +kernel) (hf:=by decide +kernel)|skip);(first|refine tkQ 23 ?_ (by decide +kernel) (hf:=by decide +kernel)|refine tkN 23 ?_ (by decide +kernel) (hf:=by decide +kernel)|skip);(first|refine tkQ 24 ?_ (by decide +kernel) (hf:=by decide +kernel)|refine tkN 24 ?_ (by decide +kernel) (hf:=by decide +kernel)|skip);(first|refine tkQ 25 ?_ (by decide +kernel) (hf:=by decide +kernel)|refine tkN 25 ?_ (by decide +kernel) (hf:=by decide +kernel)|skip);(first|refine tkQ 26 ?_ (by decide +kernel) (hf:=by decide +kernel)|refine tkN 26 ?_ (by decide +kernel) (hf:=by decide +kernel)|skip);(first|refine tkQ 27 ?_ (by decide +kernel) (hf:=by decide +kernel)|refine tkN 27 ?_ (by decide +kernel) (hf:=by decide +kernel)|skip);(first|refine tkQ 28 ?_ (by decide +kernel) (hf:=by decide +kernel)|refine tkN 28 ?_ (by decide +kernel) (hf:=by decide +kernel)|skip);(first|refine tkQ 29 ?_ (by decide +kernel) (hf:=by decide +kernel)|refine tkN 29 ?_ (by decide +kernel) (hf:=by decide +kernel)|skip);(first|refine tkQ 30 ?_ (by decide +kernel) (hf:=by decide +kernel)|refine tkN 30 ?_ (by decide +kernel) (hf:=by decide +kernel)|skip);(first|refine tkQ 31 ?_ (by decide +kernel) (hf:=by decide +kernel)|refine tkN 31 ?_ (by decide +kernel) (hf:=by decide +kernel)|skip);(first|refine tkQ 32 ?_ (by decide +kernel) (hf:=by decide +kernel)|refine tkN 32 ?_ (by decide +kernel) (hf:=by decide +kernel)|skip);(first|refine tkQ 33 ?_ (by decide +kernel) (hf:=by decide +kernel)|refine tkN 33 ?_ (by decide +kernel) (hf:=by decide +kernel)|skip);(first|refine tkQ 34 ?_ (by decide +kernel) (hf:=by decide +kernel)|refine tkN 34 ?_ (by decide +kernel) (hf:=by decide +kernel)|skip);(first|refine tkQ 35 ?_ (by decide +kernel) (hf:=by decide +kernel)|refine tkN 35 ?_ (by decide +kernel) (hf:=by decide +kernel)|skip);(first|refine tkQ 36 ?_ (by decide +kernel) (hf:=by decide +kernel)|refine tkN 36 ?_ (by decide +kernel) (hf:=by decide +kernel)|skip);exact k.o):p:=f ⟨k⟩
def tkD (h:Q .normal a w) (hr:Region.ready md ops listed=[]:=by kernel_rfl):wpAnyH P md ops Q S fuel listed a w:=wpAnyH_done hr h _
end
open Go.RowKit
inductive Ty where
 | mk (kind:Int) (name:ByteArray) (args:List Ty)
structure Fld where
 name:ByteArray
 type:Ty
structure Ctr where
 name:ByteArray
 fields:List Fld
structure Dcl where
 name:ByteArray
 record:Bool
 ctors:List Ctr
structure Eff where
 name:ByteArray
 params:List Fld
 answer:Ty
inductive Ex where
 | mk (op n m:Int) (s:ByteArray) (kids:List Ex)
inductive St where
 | mk (op n m:Int) (s t:ByteArray) (xs:List Ex) (thn els arms:List St)
structure Fn where
 name:ByteArray
 params:List Fld
 result:Ty
 slots:Int
 body:Ex
structure Vr where
 name:ByteArray
 type:Ty
 init:Ex
structure Hd where
 msg:ByteArray
 params:List Fld
 slots:Int
 body:List St
structure Ac where
 name:ByteArray
 params:List Fld
 slots:Int
 vars:List Vr
 on:List Hd
 policy:Int
 most:Int
structure Pg where
 types:List Dcl
 effects:List Eff
 funs:List Fn
 actors:List Ac
def i64 (n:Int):Prop:=-9223372036854775808<=n/\n<=9223372036854775807
def RowAt (w:World) (P:Nat->Prop) (size n:Nat) (A:Option Addr) (css:Nat->List Value):Prop:=
 0<n->∃g off,A=some ⟨g,off,none⟩/\P g/\∀i,i<n->(css i).length=size/\∀j u,(css i)[j]?=some u->w.cell? ⟨g,off+i*size+j,none⟩=some u
def Sub (P P':Nat->Prop) (w w':World):Prop:=∀b,P b->P' b/\w'.heap[b]?=w.heap[b]?
variable {w':World} {P P':Nat->Prop} {A:Option Addr}
def RowAt.to {w:World} {size n:Nat} {css:Nat->List Value} (h:RowAt w P size n A css) (hb:Sub P P' w w'):RowAt w' P' size n A css:=by
 intro e;obtain⟨g,b,f,c,d⟩:=h e;exact⟨g,b,f,(hb g c).1,λi hi=>⟨(d i hi).1,λj u hu=>(World.cell?_of_block (w:=w) (w':=w') (a:=⟨g,b+i*size+j,none⟩) (hb g c).2).trans ((d i hi).2 j u hu)⟩⟩
inductive TyR (w:World) (P:Nat->Prop):List Value->Ty->Prop where
 | mk (k:Int) (s:ByteArray) (args:List Ty) (A:Option Addr) (cap:Nat) (css:Nat->List Value) (hi:i64 k) (hs:s.size<=maxLen) (hl:args<=maxLen/\args<=cap) (hr:RowAt w P 3 args A css) (hk:∀i (h:i<args.length),TyR w P (css i) args[i]) :
  TyR w P [.int .i64 k,.string s,.slice A args cap] (.mk k s args)
variable {cs:List Value}
def TyR.to {w:World} {t:Ty} (h:TyR w P cs t) (hb:Sub P P' w w'):TyR w' P' cs t:=by
 induction h with
 | mk k s args A cap css hi hs hl hr hk ih=>exact .mk k s args A cap css hi hs hl (hr.to hb) ih
inductive ExR (w:World) (P:Nat->Prop):List Value->Ex->Prop where
 | mk (op n m:Int) (s:ByteArray) (kids:List Ex) (A:Option Addr) (cap:Nat) (css:Nat->List Value) (hi:i64 op/\i64 n/\i64 m) (hs:s.size<=maxLen) (hl:kids<=maxLen/\kids<=cap) (hr:RowAt w P 5 kids A css) (hk:∀i (h:i<kids.length),ExR w P (css i) kids[i]) :
  ExR w P [.int .i64 op,.int .i64 n,.int .i64 m,.string s,.slice A kids cap] (.mk op n m s kids)
def ExR.to {w:World} {t:Ex} (h:ExR w P cs t) (hb:Sub P P' w w'):ExR w' P' cs t:=by
 induction h with
 | mk op n m s kids A cap css hi hs hl hr hk ih=>exact .mk op n m s kids A cap css hi hs hl (hr.to hb) ih
inductive StR (w:World) (P:Nat->Prop):List Value->St->Prop where
 | mk (op n m:Int) (s t:ByteArray) (xs:List Ex) (thn els arms:List St) (A0 A1 A2 A3:Option Addr) (c0 c1 c2 c3:Nat) (cx ct ce ca:Nat->List Value) (hi:i64 op/\i64 n/\i64 m) (hs:s.size<=maxLen) (ht:t.size<=maxLen)
  (l0:xs<=maxLen/\xs<=c0) (l1:thn<=maxLen/\thn<=c1) (l2:els<=maxLen/\els<=c2) (l3:arms<=maxLen/\arms<=c3)
  (hx:RowAt w P 5 xs A0 cx) (hxs:∀i (h:i<xs.length),ExR w P (cx i) xs[i])
  (h1:RowAt w P 9 thn A1 ct) (k1:∀i (h:i<thn.length),StR w P (ct i) thn[i])
  (h2:RowAt w P 9 els A2 ce) (k2:∀i (h:i<els.length),StR w P (ce i) els[i])
  (h3:RowAt w P 9 arms A3 ca) (k3:∀i (h:i<arms.length),StR w P (ca i) arms[i]) :
  StR w P [.int .i64 op,.int .i64 n,.int .i64 m,.string s,.string t,.slice A0 xs c0,.slice A1 thn c1,.slice A2 els c2,.slice A3 arms c3] (.mk op n m s t xs thn els arms)
def StR.to {w:World} {t:St} (h:StR w P cs t) (hb:Sub P P' w w'):StR w' P' cs t:=by
 induction h with
 | mk op n m s t xs thn els arms A0 A1 A2 A3 c0 c1 c2 c3 cx ct ce ca hi hs ht l0 l1 l2 l3 hx hxs h1 k1 h2 k2 h3 k3 i1 i2 i3 =>
  exact .mk op n m s t xs thn els arms A0 A1 A2 A3 c0 c1 c2 c3 cx ct ce ca hi hs ht l0 l1 l2 l3 (hx.to hb) (λi h=>(hxs i h).to hb) (h1.to hb) i1 (h2.to hb) i2 (h3.to hb) i3
def SlR {α:Type} (w:World) (P:Nat->Prop) (size:Nat) (R:List Value->α->Prop) (v:Value) (l:List α):Prop:=
 ∃A cap css,v=.slice A l cap/\(l<=maxLen/\l.length<=cap)/\RowAt w P size l A css/\∀i (h:i<l.length),R (css i) l[i]
variable {α:Type} {v:Value}
def SlR.to' {w:World} {size:Nat} {R R':List Value->α->Prop} {l:List α} (h:SlR w P size R v l) (hb:Sub P P' w w') (hR:∀cs a,R cs a->R' cs a):SlR w' P' size R' v l:=by
 obtain⟨A,cap,b,rfl,c,e,d⟩:=h;exact⟨A,cap,b,rfl,c,e.to hb,λi hi=>hR _ _ (d i hi)⟩
def FldR (w:World) (P:Nat->Prop) (cs:List Value) (f:Fld):Prop:=∃ct,cs=.string f.name::ct/\f.name.size<=maxLen/\TyR w P ct f.type
abbrev FldsR (w:World) (P:Nat->Prop) (v:Value) (l:List Fld):Prop:=SlR w P 4 (FldR w P) v l
def CtrR (w:World) (P:Nat->Prop) (cs:List Value) (c:Ctr):Prop:=∃v,cs=[.string c.name,v]/\c.name.size<=maxLen/\FldsR w P v c.fields
abbrev CtrsR (w:World) (P:Nat->Prop) (v:Value) (l:List Ctr):Prop:=SlR w P 2 (CtrR w P) v l
def DclR (w:World) (P:Nat->Prop) (cs:List Value) (d:Dcl):Prop:=∃v,cs=[.string d.name,.bool d.record,v]/\d.name.size<=maxLen/\CtrsR w P v d.ctors
def EffR (w:World) (P:Nat->Prop) (cs:List Value) (e:Eff):Prop:=∃v ct,cs=.string e.name::v::ct/\e.name.size<=maxLen/\FldsR w P v e.params/\TyR w P ct e.answer
def FnR (w:World) (P:Nat->Prop) (cs:List Value) (f:Fn):Prop:=∃v ct cb,cs=.string f.name::v::(ct++.int .i64 f.slots::cb)/\i64 f.slots/\f.name.size<=maxLen/\FldsR w P v f.params/\TyR w P ct f.result/\ExR w P cb f.body
def VrR (w:World) (P:Nat->Prop) (cs:List Value) (x:Vr):Prop:=∃ct cb,cs=.string x.name::(ct++cb)/\x.name.size<=maxLen/\TyR w P ct x.type/\ExR w P cb x.init
abbrev VrsR (w:World) (P:Nat->Prop) (v:Value) (l:List Vr):Prop:=SlR w P 9 (VrR w P) v l
abbrev StsR (w:World) (P:Nat->Prop) (v:Value) (l:List St):Prop:=SlR w P 9 (StR w P) v l
abbrev ExsR (w:World) (P:Nat->Prop) (v:Value) (l:List Ex):Prop:=SlR w P 5 (ExR w P) v l
abbrev TysR (w:World) (P:Nat->Prop) (v:Value) (l:List Ty):Prop:=SlR w P 3 (TyR w P) v l
def HdR (w:World) (P:Nat->Prop) (cs:List Value) (h:Hd):Prop:=∃v b,cs=[.string h.msg,v,.int .i64 h.slots,b]/\i64 h.slots/\h.msg.size<=maxLen/\FldsR w P v h.params/\StsR w P b h.body
abbrev HdsR (w:World) (P:Nat->Prop) (v:Value) (l:List Hd):Prop:=SlR w P 4 (HdR w P) v l
def AcR (w:World) (P:Nat->Prop) (cs:List Value) (a:Ac):Prop:=∃v x y,cs=[.string a.name,v,.int .i64 a.slots,x,y,.int .i64 a.policy,.int .i64 a.most]/\(i64 a.slots/\i64 a.policy/\i64 a.most)/\a.name.size<=maxLen/\FldsR w P v a.params/\VrsR w P x a.vars/\HdsR w P y a.on
def PgR (w:World) (P:Nat->Prop) (cs:List Value) (p:Pg):Prop:=∃a b c d,cs=[a,b,c,d]/\SlR w P 3 (DclR w P) a p.types/\SlR w P 5 (EffR w P) b p.effects/\SlR w P 11 (FnR w P) c p.funs/\SlR w P 7 (AcR w P) d p.actors
section
variable {w w':World} {P P':Nat->Prop}
def TysR.to {l:List Ty} (h:TysR w P v l) (hb:Sub P P' w w'):TysR w' P' v l:=SlR.to' h hb λ_ _ x=>x.to hb
def ExsR.to {l:List Ex} (h:ExsR w P v l) (hb:Sub P P' w w'):ExsR w' P' v l:=SlR.to' h hb λ_ _ x=>x.to hb
def StsR.to {l:List St} (h:StsR w P v l) (hb:Sub P P' w w'):StsR w' P' v l:=SlR.to' h hb λ_ _ x=>x.to hb
def FldR.to {f:Fld} (h:FldR w P cs f) (hb:Sub P P' w w'):FldR w' P' cs f:=by
 obtain⟨d,c,b,a⟩:=h;exact⟨d,c,b,a.to hb⟩
def FldsR.to {l:List Fld} (h:FldsR w P v l) (hb:Sub P P' w w'):FldsR w' P' v l:=SlR.to' h hb λ_ _ x=>x.to hb
def CtrR.to {f:Ctr} (h:CtrR w P cs f) (hb:Sub P P' w w'):CtrR w' P' cs f:=by
 obtain⟨v,c,b,a⟩:=h;exact⟨v,c,b,FldsR.to a hb⟩
def CtrsR.to {l:List Ctr} (h:CtrsR w P v l) (hb:Sub P P' w w'):CtrsR w' P' v l:=SlR.to' h hb λ_ _ x=>x.to hb
def DclR.to {f:Dcl} (h:DclR w P cs f) (hb:Sub P P' w w'):DclR w' P' cs f:=by
 obtain⟨v,c,b,a⟩:=h;exact⟨v,c,b,CtrsR.to a hb⟩
def EffR.to {f:Eff} (h:EffR w P cs f) (hb:Sub P P' w w'):EffR w' P' cs f:=by
 obtain⟨v,e,d,c,b,a⟩:=h;exact⟨v,e,d,c,FldsR.to b hb,a.to hb⟩
def FnR.to {f:Fn} (h:FnR w P cs f) (hb:Sub P P' w w'):FnR w' P' cs f:=by
 obtain⟨v,i,j,e,g,d,c,b,a⟩:=h;exact⟨v,i,j,e,g,d,FldsR.to c hb,b.to hb,a.to hb⟩
def VrR.to {f:Vr} (h:VrR w P cs f) (hb:Sub P P' w w'):VrR w' P' cs f:=by
 obtain⟨e,g,d,c,b,a⟩:=h;exact⟨e,g,d,c,b.to hb,a.to hb⟩
def VrsR.to {l:List Vr} (h:VrsR w P v l) (hb:Sub P P' w w'):VrsR w' P' v l:=SlR.to' h hb λ_ _ x=>x.to hb
def HdR.to {f:Hd} (h:HdR w P cs f) (hb:Sub P P' w w'):HdR w' P' cs f:=by
 obtain⟨v,b,e,g,d,c,a⟩:=h;exact⟨v,b,e,g,d,FldsR.to c hb,StsR.to a hb⟩
def HdsR.to {l:List Hd} (h:HdsR w P v l) (hb:Sub P P' w w'):HdsR w' P' v l:=SlR.to' h hb λ_ _ x=>x.to hb
def AcR.to {f:Ac} (h:AcR w P cs f) (hb:Sub P P' w w'):AcR w' P' cs f:=by
 obtain⟨v,x,y,e,g,d,c,b,a⟩:=h;exact⟨v,x,y,e,g,d,FldsR.to c hb,VrsR.to b hb,HdsR.to a hb⟩
def PgR.to {f:Pg} (h:PgR w P cs f) (hb:Sub P P' w w'):PgR w' P' cs f:=by
 obtain⟨a,b,c,d,k,j,i,g,e⟩:=h;exact⟨a,b,c,d,k,j.to' hb (λ_ _ x=>x.to hb),i.to' hb (λ_ _ x=>x.to hb),g.to' hb (λ_ _ x=>x.to hb),e.to' hb (λ_ _ x=>x.to hb)⟩
end
def lo (w:World) (b:Nat):Prop:=b<w
def ae {w:World} (h:Below w w w'):Sub (lo w) (lo w') w w':=λb hb=>⟨ρ hb h.size,h.block b hb⟩
def im (own:Nat->Prop) (w:World) (b:Nat):Prop:=b<w/\¬own b
structure Stp (own:Nat->Prop) (w w':World):Prop where
 os:w'.os=w.os
 tape:w'.tape=w.tape
 output:w'.output=w.output
 size:w.heap.size<=w'
 block:∀k,k<w.heap.size->¬own k->w'.heap[k]?=w.heap[k]?
def Stp.refl (own:Nat->Prop) (w:World):Stp own w w:=⟨rfl,rfl,rfl,υ _,λ_ _ _=>rfl⟩
variable {a:World}
def Stp.trans {own:Nat->Prop} {b c:World} (h:Stp own a b) (k:Stp own b c):Stp own a c:=
 ⟨k.os.trans h.os,k.tape.trans h.tape,k.output.trans h.output,ψ h.size k.size,λi hi ho=>(k.block i (ρ hi h.size) ho).trans (h.block i hi ho)⟩
def Stp.of_below {own:Nat->Prop} {w:World} (h:Below w w w'):Stp own w w':=⟨h.os,h.tape,h.output,h.size,λk hk _=>h.block k hk⟩
def Stp.sub {own:Nat->Prop} {w:World} (h:Stp own w w'):Sub (im own w) (im own w') w w':=λb hb=>⟨⟨ρ hb.1 h.size,hb.2⟩,h.block b hb.1 hb.2⟩
def Stp.cell {own:Nat->Prop} {w:World} (h:Stp own w w') {p:Addr} (hp:p.block<w) (ho:¬own p.block):w'.cell? p=w.cell? p:=World.cell?_of_block (w:=w) (h.block p.block hp ho)
def ap {w:World} {t:Ty} (h:TyR w P cs t):∃k s a A cap,cs=[.int .i64 k,.string s,.slice A a.length cap]/\t=.mk k s a/\i64 k/\s.size<=maxLen/\TysR w P (.slice A a.length cap) a:=by
 cases h with
 | mk k s args A cap css hi hs hl hr hk=>exact⟨k,s,args,A,cap,rfl,rfl,hi,hs,A,cap,css,rfl,hl,hr,hk⟩
def dJ {w:World} {t:Ex} (h:ExR w P cs t):∃op n m s a A cap,cs=[.int .i64 op,.int .i64 n,.int .i64 m,.string s,.slice A a.length cap]/\t=.mk op n m s a/\(i64 op/\i64 n/\i64 m)/\s.size<=maxLen/\ExsR w P (.slice A a.length cap) a:=by
 cases h with
 | mk op n m s args A cap css hi hs hl hr hk=>exact⟨op,n,m,s,args,A,cap,rfl,rfl,hi,hs,A,cap,css,rfl,hl,hr,hk⟩
def SlR.at {w:World} {size:Nat} {R:List Value->α->Prop} {n cap:Nat} {l:List α} (h:SlR w P size R (.slice A n cap) l) (hi:i<l):
 ∃g off cs,A=some ⟨g,off,none⟩/\P g/\R cs l[i]/\cs.length=size/\∀j u,cs[j]?=some u->w.cell? ⟨g,off+i*size+j,none⟩=some u:=by
 obtain⟨q,m,b,e,p,c,d⟩:=h;injection e with e1 e2 e3;subst e1 e2 e3;obtain⟨g,off,k,f,a⟩:=c ω;exact⟨g,off,b i,k,f,d i hi,(a i hi).1,(a i hi).2⟩
def SlR.len {w:World} {size:Nat} {R:List Value->α->Prop} {n cap:Nat} {l:List α} (h:SlR w P size R (.slice A n cap) l):n=l/\l<=maxLen:=by
 obtain⟨g,b,c,e,a,d,f⟩:=h;injection e with e1 e2 e3;exact⟨e2,a.1⟩
def SlR.le9 {w:World} {size:Nat} {R:List Value->α->Prop} {n cap:Nat} {l:List α} (h:SlR w P size R (.slice A n cap) l):l.length<=9223372036854775807:=h.len.2
theorem SlR.cap {w:World} {size:Nat} {R:List Value->α->Prop} {n cap:Nat} {l:List α} (h:SlR w P size R (.slice A n cap) l):l<=cap:=by
 obtain⟨g,b,c,e,a,d,f⟩:=h;injection e with e1 e2 e3;rw[e3];exact a.2
def SlR.form {w:World} {size:Nat} {R:List Value->α->Prop} {l:List α} (h:SlR w P size R v l):∃A cap,v=.slice A l cap:=by
 obtain⟨g,a,b,e,d,c,f⟩:=h;exact⟨_,_,e⟩
def kA {w:World} {t:St} (h:StR w P cs t):∃op n m s u xs a b c A0 c0 A1 c1 A2 c2 A3 c3,cs=[.int .i64 op,.int .i64 n,.int .i64 m,.string s,.string u,.slice A0 xs.length c0,.slice A1 a.length c1,.slice A2 b.length c2,.slice A3 c.length c3]/\t=.mk op n m s u xs a b c/\(i64 op/\i64 n/\i64 m)/\s.size<=maxLen/\u.size<=maxLen/\ExsR w P (.slice A0 xs.length c0) xs/\StsR w P (.slice A1 a.length c1) a/\StsR w P (.slice A2 b.length c2) b/\StsR w P (.slice A3 c.length c3) c:=by
 cases h with
 | mk op n m s t xs thn els arms A0 A1 A2 A3 c0 c1 c2 c3 cx ct ce ca hi hs ht l0 l1 l2 l3 hx hxs h1 k1 h2 k2 h3 k3 =>
  exact⟨op,n,m,s,t,xs,thn,els,arms,A0,c0,A1,c1,A2,c2,A3,c3,rfl,rfl,hi,hs,ht,⟨A0,c0,cx,rfl,l0,hx,hxs⟩,⟨A1,c1,ct,rfl,l1,h1,k1⟩,⟨A2,c2,ce,rfl,l2,h2,k2⟩,⟨A3,c3,ca,rfl,l3,h3,k3⟩⟩
def TyR.of {w:World} {k:Int} {s:ByteArray} {a:List Ty} (hi:i64 k) (hs:s.size<=maxLen) (h:TysR w P v a):TyR w P [.int .i64 k,.string s,v] (.mk k s a):=by
 obtain⟨A,cap,b,rfl,d,c,e⟩:=h;exact .mk k s a A cap b hi hs d c e
def ExR.of {w:World} {op n m:Int} {s:ByteArray} {a:List Ex} (hi:i64 op/\i64 n/\i64 m) (hs:s.size<=maxLen) (h:ExsR w P v a):ExR w P [.int .i64 op,.int .i64 n,.int .i64 m,.string s,v] (.mk op n m s a):=by
 obtain⟨A,cap,b,rfl,d,c,e⟩:=h;exact .mk op n m s a A cap b hi hs d c e
def SlR.nil {w:World} {size:Nat} {R:List Value->α->Prop}:SlR w P size R () []:=⟨none,0,λ_=>[],rfl,by simp,λh=>absurd h Θ,λi h=>absurd h Θ⟩
def cS {w:World} {n cap:Nat} {l:List Ty} (h:TysR w P (.slice A n cap) l) (hi:i<l):
 ∃g off k s a B c,A=some ⟨g,off,none⟩/\P g/\l[i]=.mk k s a/\w.cell? ⟨g,off+i*3,none⟩=some (.int .i64 k)/\w.cell? ⟨g,off+i*3+1,none⟩=some (.string s)/\w.cell? ⟨g,off+i*3+2,none⟩=some (.slice B a.length c)/\TyR w P [.int .i64 k,.string s,.slice B a.length c] l[i]:=by
 obtain⟨g,off,p,j,f,d,m,b⟩:=SlR.at h hi;obtain⟨k,s,a,B,c,rfl,e,_⟩:=ap d;exact⟨g,off,k,s,a,B,c,j,f,e,b 0 _ rfl,b 1 _ rfl,b 2 _ rfl,d⟩
def aQ {w:World} {n cap:Nat} {l:List Ex} (h:ExsR w P (.slice A n cap) l) (hi:i<l):
 ∃g off o x m s a B c,A=some ⟨g,off,none⟩/\P g/\l[i]=.mk o x m s a/\w.cell? ⟨g,off+i*5,none⟩=some (.int .i64 o)/\w.cell? ⟨g,off+i*5+1,none⟩=some (.int .i64 x)/\w.cell? ⟨g,off+i*5+2,none⟩=some (.int .i64 m)/\w.cell? ⟨g,off+i*5+3,none⟩=some (.string s)/\w.cell? ⟨g,off+i*5+4,none⟩=some (.slice B a.length c)/\ExR w P [.int .i64 o,.int .i64 x,.int .i64 m,.string s,.slice B a.length c] l[i]:=by
 obtain⟨g,off,p,j,f,d,k,b⟩:=SlR.at h hi;obtain⟨o,x,m,s,a,B,c,rfl,e,_⟩:=dJ d;exact⟨g,off,o,x,m,s,a,B,c,j,f,e,b 0 _ rfl,b 1 _ rfl,b 2 _ rfl,b 3 _ rfl,b 4 _ rfl,d⟩
def dw {w:World} {n cap:Nat} {l:List Fld} (h:FldsR w P (.slice A n cap) l) (hi:i<l):
 ∃g off k s a B c,A=some ⟨g,off,none⟩/\P g/\l[i].type=.mk k s a/\w.cell? ⟨g,off+i*4,none⟩=some (.string l[i].name)/\w.cell? ⟨g,off+i*4+1,none⟩=some (.int .i64 k)/\w.cell? ⟨g,off+i*4+2,none⟩=some (.string s)/\w.cell? ⟨g,off+i*4+3,none⟩=some (.slice B a.length c)/\l[i].name.size<=maxLen/\TyR w P [.int .i64 k,.string s,.slice B a.length c] l[i].type:=by
 obtain⟨g,off,r,m,j,⟨q,rfl,f,d⟩,p,b⟩:=SlR.at h hi;obtain⟨k,s,a,B,c,rfl,e,_⟩:=ap d;exact⟨g,off,k,s,a,B,c,m,j,e,b 0 _ rfl,b 1 _ rfl,b 2 _ rfl,b 3 _ rfl,f,d⟩
def bel {w b:World} (h:Below w w a) (k:Below a a b):Below w w b:=h.trans (k.mono h.size)
def belA {w:World} (h:Below w w a) (o:Obj):Below w w (a.alloc o):=h.alloc h.size o
def belR (w:World):Below w w w:=Below.refl _ _
section
variable {w:World} {o1 o2 o3 o4 o5 o6:Obj}
def ζ1:Below w w (w.alloc o1):=belA (belR _) _
def ζ2:Below w w ((w.alloc o1).alloc o2):=belA ζ1 _
def ζ3:Below w w (((w.alloc o1).alloc o2).alloc o3):=belA ζ2 _
def ζ4:Below w w ((((w.alloc o1).alloc o2).alloc o3).alloc o4):=belA ζ3 _
def ζ5:Below w w (((((w.alloc o1).alloc o2).alloc o3).alloc o4).alloc o5):=belA ζ4 _
def ζ6:Below w w ((((((w.alloc o1).alloc o2).alloc o3).alloc o4).alloc o5).alloc o6):=belA ζ5 _
end
def stpA {own:Nat->Prop} {w:World} (h:Stp own w a) (o:Obj):Stp own w (a.alloc o):=h.trans (Stp.of_below (belA (belR a) o))
def stpB {own:Nat->Prop} {w b:World} (h:Stp own w a) (k:Below a a b):Stp own w b:=h.trans (Stp.of_below k)
def stpG {own:Nat->Prop} {w b:World} {row:Option Nat} (h:Stp own w a) (k:a.grownBy b row) (hr:∀r,row=some r->own r\/w.heap.size<=r):Stp own w b:=
 ⟨k.os.trans h.os,k.tape.trans h.tape,k.output.trans h.output,ψ h.size k.size,λi hi ho=>(k.block i (ρ hi h.size) (λe=>by rcases hr i e.symm with x|x;exact ho x;omega)).trans (h.block i hi ho)⟩
def jB {w:World} {t:Fn} (h:FnR w P cs t):∃(A:Option Addr) (q:Nat) (k:Int) (s:ByteArray) (a:List Ty) (B:Option Addr) (c:Nat) (o:Int) (x:Int) (m:Int) (r:ByteArray) (e:List Ex) (D:Option Addr) (d:Nat),cs=[.string t.name,.slice A t.params q,.int .i64 k,.string s,.slice B a c,.int .i64 t.slots,.int .i64 o,.int .i64 x,.int .i64 m,.string r,.slice D e d]/\i64 t.slots/\t.name.size<=maxLen/\FldsR w P (.slice A t.params q) t.params/\TyR w P [.int .i64 k,.string s,.slice B a c] t.result/\ExR w P [.int .i64 o,.int .i64 x,.int .i64 m,.string r,.slice D e d] t.body:=by
 obtain⟨v,p,u,rfl,j,i,g,f,b⟩:=h;obtain⟨A,q,rfl⟩:=g.form;obtain⟨k,s,a,B,c,rfl,n,_⟩:=ap f;obtain⟨o,x,m,r,e,D,d,rfl,l,_⟩:=dJ b;exact⟨A,q,k,s,a,B,c,o,x,m,r,e,D,d,rfl,j,i,g,f,b⟩
variable {A0:Option Addr}
def jd {w:World} {n cap:Nat} {l:List Fn} (h:SlR w P 11 (FnR w P) (.slice A0 n cap) l) (hi:i<l):
 ∃(g off:Nat) (A:Option Addr) (q:Nat) (k:Int) (s:ByteArray) (a:List Ty) (B:Option Addr) (c:Nat) (o:Int) (x:Int) (m:Int) (r:ByteArray) (e:List Ex) (D:Option Addr) (d:Nat),A0=some ⟨g,off,none⟩/\P g/\w.cell? ⟨g,off+i*11,none⟩=some (.string l[i].name)/\w.cell? ⟨g,off+i*11+1,none⟩=some (.slice A l[i].params.length q)/\w.cell? ⟨g,off+i*11+2,none⟩=some (k:Vl)/\w.cell? ⟨g,off+i*11+3,none⟩=some (s:Vl)/\w.cell? ⟨g,off+i*11+4,none⟩=some (.slice B a c)/\w.cell? ⟨g,off+i*11+5,none⟩=some (.int .i64 l[i].slots)/\w.cell? ⟨g,off+i*11+6,none⟩=some (o:Vl)/\w.cell? ⟨g,off+i*11+7,none⟩=some (x:Vl)/\w.cell? ⟨g,off+i*11+8,none⟩=some (m:Vl)/\w.cell? ⟨g,off+i*11+9,none⟩=some (r:Vl)/\w.cell? ⟨g,off+i*11+10,none⟩=some (.slice D e d)/\FnR w P [.string l[i].name,.slice A l[i].params.length q,.int .i64 k,.string s,.slice B a c,.int .i64 l[i].slots,.int .i64 o,.int .i64 x,.int .i64 m,.string r,.slice D e d] l[i]/\i64 l[i].slots/\l[i].name.size<=maxLen/\FldsR w P (.slice A l[i].params.length q) l[i].params/\TyR w P [.int .i64 k,.string s,.slice B a c] l[i].result/\ExR w P [.int .i64 o,.int .i64 x,.int .i64 m,.string r,.slice D e d] l[i].body:=by
 obtain⟨g,off,v,t,j,f,u,b⟩:=SlR.at h hi;obtain⟨A,q,k,s,a,B,c,o,x,m,r,e,D,d,rfl,p⟩:=jB f;exact⟨g,off,A,q,k,s,a,B,c,o,x,m,r,e,D,d,t,j,b 0 _ rfl,b 1 _ rfl,b 2 _ rfl,b 3 _ rfl,b 4 _ rfl,b 5 _ rfl,b 6 _ rfl,b 7 _ rfl,b 8 _ rfl,b 9 _ rfl,b 10 _ rfl,f,p⟩
def gG {w:World} {t:Dcl} (h:DclR w P cs t):∃(A:Option Addr) (q:Nat),cs=[.string t.name,.bool t.record,.slice A t.ctors q]/\t.name.size<=maxLen/\CtrsR w P (.slice A t.ctors q) t.ctors:=by
 obtain⟨v,rfl,b,a⟩:=h;obtain⟨A,q,rfl⟩:=a.form;exact⟨A,q,rfl,b,a⟩
def fF {w:World} {n cap:Nat} {l:List Dcl} (h:SlR w P 3 (DclR w P) (.slice A0 n cap) l) (hi:i<l):
 ∃(g off:Nat) (A:Option Addr) (q:Nat),A0=some ⟨g,off,none⟩/\P g/\w.cell? ⟨g,off+i*3,none⟩=some (.string l[i].name)/\w.cell? ⟨g,off+i*3+1,none⟩=some (.bool l[i].record)/\w.cell? ⟨g,off+i*3+2,none⟩=some (.slice A l[i].ctors.length q)/\DclR w P [.string l[i].name,.bool l[i].record,.slice A l[i].ctors.length q] l[i]/\l[i].name.size<=maxLen/\CtrsR w P (.slice A l[i].ctors.length q) l[i].ctors:=by
 obtain⟨g,off,j,e,c,b,f,a⟩:=SlR.at h hi;obtain⟨A,q,rfl,d⟩:=gG b;exact⟨g,off,A,q,e,c,a 0 _ rfl,a 1 _ rfl,a 2 _ rfl,b,d⟩
def jV {w:World} {t:Ctr} (h:CtrR w P cs t):∃(A:Option Addr) (q:Nat),cs=[.string t.name,.slice A t.fields q]/\t.name.size<=maxLen/\FldsR w P (.slice A t.fields q) t.fields:=by
 obtain⟨v,rfl,b,a⟩:=h;obtain⟨A,q,rfl⟩:=a.form;exact⟨A,q,rfl,b,a⟩
def ew {w:World} {n cap:Nat} {l:List Ctr} (h:SlR w P 2 (CtrR w P) (.slice A0 n cap) l) (hi:i<l):
 ∃(g off:Nat) (A:Option Addr) (q:Nat),A0=some ⟨g,off,none⟩/\P g/\w.cell? ⟨g,off+i*2,none⟩=some (.string l[i].name)/\w.cell? ⟨g,off+i*2+1,none⟩=some (.slice A l[i].fields.length q)/\CtrR w P [.string l[i].name,.slice A l[i].fields.length q] l[i]/\l[i].name.size<=maxLen/\FldsR w P (.slice A l[i].fields.length q) l[i].fields:=by
 obtain⟨g,off,j,e,c,a,f,b⟩:=SlR.at h hi;obtain⟨A,q,rfl,d⟩:=jV a;exact⟨g,off,A,q,e,c,b 0 _ rfl,b 1 _ rfl,a,d⟩
def jU {w:World} {t:Eff} (h:EffR w P cs t):∃(A:Option Addr) (q:Nat) (k:Int) (s:ByteArray) (a:List Ty) (B:Option Addr) (c:Nat),cs=[.string t.name,.slice A t.params q,.int .i64 k,.string s,.slice B a c]/\t.name.size<=maxLen/\FldsR w P (.slice A t.params q) t.params/\TyR w P [.int .i64 k,.string s,.slice B a c] t.answer:=by
 obtain⟨v,g,rfl,e,d,b⟩:=h;obtain⟨A,q,rfl⟩:=d.form;obtain⟨k,s,a,B,c,rfl,f,_⟩:=ap b;exact⟨A,q,k,s,a,B,c,rfl,e,d,b⟩
def jC {w:World} {n cap:Nat} {l:List Eff} (h:SlR w P 5 (EffR w P) (.slice A0 n cap) l) (hi:i<l):
 ∃(g off:Nat) (A:Option Addr) (q:Nat) (k:Int) (s:ByteArray) (a:List Ty) (B:Option Addr) (c:Nat),A0=some ⟨g,off,none⟩/\P g/\w.cell? ⟨g,off+i*5,none⟩=some (.string l[i].name)/\w.cell? ⟨g,off+i*5+1,none⟩=some (.slice A l[i].params.length q)/\w.cell? ⟨g,off+i*5+2,none⟩=some (k:Vl)/\w.cell? ⟨g,off+i*5+3,none⟩=some (s:Vl)/\w.cell? ⟨g,off+i*5+4,none⟩=some (.slice B a c)/\EffR w P [.string l[i].name,.slice A l[i].params.length q,.int .i64 k,.string s,.slice B a c] l[i]/\l[i].name.size<=maxLen/\FldsR w P (.slice A l[i].params.length q) l[i].params/\TyR w P [.int .i64 k,.string s,.slice B a c] l[i].answer:=by
 obtain⟨g,off,p,j,e,d,m,b⟩:=SlR.at h hi;obtain⟨A,q,k,s,a,B,c,rfl,f⟩:=jU d;exact⟨g,off,A,q,k,s,a,B,c,j,e,b 0 _ rfl,b 1 _ rfl,b 2 _ rfl,b 3 _ rfl,b 4 _ rfl,d,f⟩
def mu {w:World} {t:Vr} (h:VrR w P cs t):∃(k:Int) (s:ByteArray) (a:List Ty) (B:Option Addr) (c:Nat) (o:Int) (x:Int) (m:Int) (r:ByteArray) (e:List Ex) (D:Option Addr) (d:Nat),cs=[.string t.name,.int .i64 k,.string s,.slice B a c,.int .i64 o,.int .i64 x,.int .i64 m,.string r,.slice D e d]/\t.name.size<=maxLen/\TyR w P [.int .i64 k,.string s,.slice B a c] t.type/\ExR w P [.int .i64 o,.int .i64 x,.int .i64 m,.string r,.slice D e d] t.init:=by
 obtain⟨l,n,rfl,g,f,b⟩:=h;obtain⟨k,s,a,B,c,rfl,j,_⟩:=ap f;obtain⟨o,x,m,r,e,D,d,rfl,i,_⟩:=dJ b;exact⟨k,s,a,B,c,o,x,m,r,e,D,d,rfl,g,f,b⟩
def ku {w:World} {n cap:Nat} {l:List Vr} (h:SlR w P 9 (VrR w P) (.slice A0 n cap) l) (hi:i<l):
 ∃(g off:Nat) (k:Int) (s:ByteArray) (a:List Ty) (B:Option Addr) (c:Nat) (o:Int) (x:Int) (m:Int) (r:ByteArray) (e:List Ex) (D:Option Addr) (d:Nat),A0=some ⟨g,off,none⟩/\P g/\w.cell? ⟨g,off+i*9,none⟩=some (.string l[i].name)/\w.cell? ⟨g,off+i*9+1,none⟩=some (k:Vl)/\w.cell? ⟨g,off+i*9+2,none⟩=some (s:Vl)/\w.cell? ⟨g,off+i*9+3,none⟩=some (.slice B a c)/\w.cell? ⟨g,off+i*9+4,none⟩=some (o:Vl)/\w.cell? ⟨g,off+i*9+5,none⟩=some (x:Vl)/\w.cell? ⟨g,off+i*9+6,none⟩=some (m:Vl)/\w.cell? ⟨g,off+i*9+7,none⟩=some (r:Vl)/\w.cell? ⟨g,off+i*9+8,none⟩=some (.slice D e d)/\VrR w P [.string l[i].name,.int .i64 k,.string s,.slice B a c,.int .i64 o,.int .i64 x,.int .i64 m,.string r,.slice D e d] l[i]/\l[i].name.size<=maxLen/\TyR w P [.int .i64 k,.string s,.slice B a c] l[i].type/\ExR w P [.int .i64 o,.int .i64 x,.int .i64 m,.string r,.slice D e d] l[i].init:=by
 obtain⟨g,off,u,q,j,f,t,b⟩:=SlR.at h hi;obtain⟨k,s,a,B,c,o,x,m,r,e,D,d,rfl,p⟩:=mu f;exact⟨g,off,k,s,a,B,c,o,x,m,r,e,D,d,q,j,b 0 _ rfl,b 1 _ rfl,b 2 _ rfl,b 3 _ rfl,b 4 _ rfl,b 5 _ rfl,b 6 _ rfl,b 7 _ rfl,b 8 _ rfl,f,p⟩
def mB {w:World} {t:Hd} (h:HdR w P cs t):∃(A:Option Addr) (q:Nat) (D:Option Addr) (d:Nat),cs=[.string t.msg,.slice A t.params q,.int .i64 t.slots,.slice D t.body d]/\i64 t.slots/\t.msg.size<=maxLen/\FldsR w P (.slice A t.params q) t.params/\StsR w P (.slice D t.body d) t.body:=by
 obtain⟨v,b,rfl,f,e,c,a⟩:=h;obtain⟨A,q,rfl⟩:=c.form;obtain⟨D,d,rfl⟩:=a.form;exact⟨A,q,D,d,rfl,f,e,c,a⟩
def lG {w:World} {n cap:Nat} {l:List Hd} (h:SlR w P 4 (HdR w P) (.slice A0 n cap) l) (hi:i<l):
 ∃(g off:Nat) (A:Option Addr) (q:Nat) (D:Option Addr) (d:Nat),A0=some ⟨g,off,none⟩/\P g/\w.cell? ⟨g,off+i*4,none⟩=some (.string l[i].msg)/\w.cell? ⟨g,off+i*4+1,none⟩=some (.slice A l[i].params.length q)/\w.cell? ⟨g,off+i*4+2,none⟩=some (.int .i64 l[i].slots)/\w.cell? ⟨g,off+i*4+3,none⟩=some (.slice D l[i].body.length d)/\HdR w P [.string l[i].msg,.slice A l[i].params.length q,.int .i64 l[i].slots,.slice D l[i].body.length d] l[i]/\i64 l[i].slots/\l[i].msg.size<=maxLen/\FldsR w P (.slice A l[i].params.length q) l[i].params/\StsR w P (.slice D l[i].body.length d) l[i].body:=by
 obtain⟨g,off,k,f,c,b,j,a⟩:=SlR.at h hi;obtain⟨A,q,D,d,rfl,e⟩:=mB b;exact⟨g,off,A,q,D,d,f,c,a 0 _ rfl,a 1 _ rfl,a 2 _ rfl,a 3 _ rfl,b,e⟩
def jD {w:World} {t:Ac} (h:AcR w P cs t):∃(A:Option Addr) (q:Nat) (B:Option Addr) (c:Nat) (D:Option Addr) (d:Nat),cs=[.string t.name,.slice A t.params q,.int .i64 t.slots,.slice B t.vars c,.slice D t.on d,.int .i64 t.policy,.int .i64 t.most]/\(i64 t.slots/\i64 t.policy/\i64 t.most)/\t.name.size<=maxLen/\FldsR w P (.slice A t.params q) t.params/\VrsR w P (.slice B t.vars c) t.vars/\HdsR w P (.slice D t.on d) t.on:=by
 obtain⟨v,x,y,rfl,g,f,e,b,a⟩:=h;obtain⟨A,q,rfl⟩:=e.form;obtain⟨B,c,rfl⟩:=b.form;obtain⟨D,d,rfl⟩:=a.form;exact⟨A,q,B,c,D,d,rfl,g,f,e,b,a⟩
def fR {w:World} {n cap:Nat} {l:List Ac} (h:SlR w P 7 (AcR w P) (.slice A0 n cap) l) (hi:i<l):
 ∃(g off:Nat) (A:Option Addr) (q:Nat) (B:Option Addr) (c:Nat) (D:Option Addr) (d:Nat),A0=some ⟨g,off,none⟩/\P g/\w.cell? ⟨g,off+i*7,none⟩=some (.string l[i].name)/\w.cell? ⟨g,off+i*7+1,none⟩=some (.slice A l[i].params.length q)/\w.cell? ⟨g,off+i*7+2,none⟩=some (.int .i64 l[i].slots)/\w.cell? ⟨g,off+i*7+3,none⟩=some (.slice B l[i].vars.length c)/\w.cell? ⟨g,off+i*7+4,none⟩=some (.slice D l[i].on.length d)/\w.cell? ⟨g,off+i*7+5,none⟩=some (.int .i64 l[i].policy)/\w.cell? ⟨g,off+i*7+6,none⟩=some (.int .i64 l[i].most)/\AcR w P [.string l[i].name,.slice A l[i].params.length q,.int .i64 l[i].slots,.slice B l[i].vars.length c,.slice D l[i].on.length d,.int .i64 l[i].policy,.int .i64 l[i].most] l[i]/\(i64 l[i].slots/\i64 l[i].policy/\i64 l[i].most)/\l[i].name.size<=maxLen/\FldsR w P (.slice A l[i].params.length q) l[i].params/\VrsR w P (.slice B l[i].vars.length c) l[i].vars/\HdsR w P (.slice D l[i].on.length d) l[i].on:=by
 obtain⟨g,off,m,j,e,b,k,a⟩:=SlR.at h hi;obtain⟨A,q,B,c,D,d,rfl,f⟩:=jD b;exact⟨g,off,A,q,B,c,D,d,j,e,a 0 _ rfl,a 1 _ rfl,a 2 _ rfl,a 3 _ rfl,a 4 _ rfl,a 5 _ rfl,a 6 _ rfl,b,f⟩
open Go.Maps Go.WideMaps Go.ChangeMaps
def heldV (v:Value):Option (DataW Value×List MemPlace):=some (.held v,[])
def MapIs {α:Type} (P:Program) (K:TypeId) (kl:α->Lit) (w:World) (b n:Nat) (f:α->Option Value):Prop:=
 ∃D:DataW Value,w.ownsMap P K heldV b n D/\Maps.size D=n/\∀s:α,Maps.has D (kl s)=(f s).isSome/\∀v,f s=some v->∀z,D.atKey (kl s) z=.held v
variable {P:Program}
def kF {k:TypeId} {R:Value->Option (DataW Value×List MemPlace)} {w:World} {b n:Nat} {D:DataW Value} (h:w.ownsMap P k R b n D):w.ownsMap P k R b (Maps.size D) D:=by
 obtain⟨d,a,c,F,e,rfl⟩:=h;exact⟨d,a,c,F,by simp[Maps.size,length_sorted],rfl⟩
structure KeyOf {α:Type} (P:Program) (K:TypeId) (kl:α->Lit):Prop where
 keyed:Keyed P K
 apart:∀a b,kl a=kl b->a=b
section
variable {α:Type} {P:Program} {K:TypeId} {kl:α->Lit} {w w':World} {b n:Nat} {f:α->Option Value}
def MapIs.made (P:Program) (K:TypeId) (kl:α->Lit) (w:World):MapIs P K kl (w.alloc (.map #[] 0)) w 0 (λ_=>none):=
 ⟨.map [],World.ownsMap_made w P K heldV,rfl,λs=>⟨rfl,λv h=>by cases h⟩⟩
def MapIs.lt (h:MapIs P K kl w b n f):b<w:=by obtain⟨D,h,_⟩:=h;exact h.lt
def MapIs.same (h:MapIs P K kl w b n f) (hb:w'.heap[b]?=w.heap[b]?):MapIs P K kl w' b n f:=by
 obtain⟨D,⟨e,a,d,c⟩,r⟩:=h;exact⟨D,⟨e,a,hb.trans d,c⟩,r⟩
def MapIs.to {Q Q':Nat->Prop} (h:MapIs P K kl w b n f) (hb:Sub Q Q' w w') (hB:Q b):MapIs P K kl w' b n f:=h.same (hb b hB).2
def MapIs.below {B:Nat} (h:MapIs P K kl w b n f) (hb:Below B w w') (hB:b<B):MapIs P K kl w' b n f:=h.same (hb.block b hB)
def MapIs.alloc (h:MapIs P K kl w b n f) (o:Obj):MapIs P K kl (w.alloc o) b n f:=by
 obtain⟨D,h,r⟩:=h;exact⟨D,h.alloc o,r⟩
def MapIs.setCell (h:MapIs P K kl w b n f) {a:Addr} (ha:b≠a.block) (u:Value):MapIs P K kl (w.setCell a u) b n f:=by
 obtain⟨D,h,r⟩:=h;exact⟨D,h.setCell ha u,r⟩
def MapIs.congr {g:α->Option Value} (h:MapIs P K kl w b n f) (e:∀s,f s=g s):MapIs P K kl w b n g:=by
 obtain rfl:f=g:=funext e;exact h
section
variable {t:TypeId} {key:Value}
def MapIs.look (h:MapIs P K kl w b n f) (hK:KeyOf P K kl) {e:TypeId} (ht:P.underlying t=some (.map K e)) {z:Value} (hz:(zeroValue e).run P w=.ok z w) {s:α} (hs:keyOf P K key=some (kl s)):
 (Instr.lookup t (.map (some b)) key false).run P w=.ok ((f s).getD z) w:=by
 obtain⟨D,h,_,i⟩:=h;obtain⟨v,k,d,c⟩:=h.lookup hK.keyed ht hz (zd:=.held z) (zp:=[]) rfl hs;rw[d];obtain⟨g,j⟩:=i s
 have a:(DataW.held v:DataW Value)=D.atKey (kl s) (.held z):=by
  unfold heldV at c;injection c with c;exact congrArg Prod.fst c
 cases hc:f s with
 | none =>
  rw[hc] at g;rw[atKey_of_not_has g] at a;injection a with a;rw[a];rfl
 | some u =>
  rw[j u hc] at a;injection a with a;rw[a];rfl
def MapIs.lookOk (h:MapIs P K kl w b n f) (hK:KeyOf P K kl) {e:TypeId} (ht:P.underlying t=some (.map K e)) {z:Value} (hz:(zeroValue e).run P w=.ok z w) {s:α} (hs:keyOf P K key=some (kl s)):
 (Instr.lookup t (.map (some b)) key true).run P w=.ok (.tuple #[(f s).getD z,.bool (f s).isSome]) w:=by
 obtain⟨D,h,_,i⟩:=h;obtain⟨v,k,d,c⟩:=h.look_ok hK.keyed ht hz (zd:=.held z) (zp:=[]) rfl hs;obtain⟨g,j⟩:=i s;rw[d,g]
 have a:(DataW.held v:DataW Value)=D.atKey (kl s) (.held z):=by
  unfold heldV at c;injection c with c;exact congrArg Prod.fst c
 cases hc:f s with
 | none =>
  rw[hc] at g;rw[atKey_of_not_has g] at a;injection a with a;rw[a];rfl
 | some u =>
  rw[j u hc] at a;injection a with a;rw[a];rfl
def upd [DecidableEq α] (f:α->Option Value) (s:α) (v:Option Value):α->Option Value:=λt=>if t=s then v else f t
def MapIs.put [DecidableEq α] (h:MapIs P K kl w b n f) (hK:KeyOf P K kl) {e:TypeId} (ht:P.underlying t=some (.map K e)) (hn:n<maxLen) {s:α} (hs:keyOf P K key=some (kl s)) (v:Value):
 ∃w',(Instr.mapUpdate t (.map (some b)) key v).run P w=.ok () w'/\MapIs P K kl w' b (if (f s).isSome then n else n+1) (upd f s (some v))/\w.grownBy w' (some b):=by
 obtain⟨D,h,l,k⟩:=h;obtain⟨w',j,p,m⟩:=h.update hK.keyed ht hn hs (val:=v) (d:=.held v) (ps:=[]) rfl
 have a:Maps.size (D.put (kl s) (.held v))=if (f s).isSome then n else n+1:=by
  rw[size_put (h.tidy hK.keyed),(k s).1,l]
 refine⟨w',j,⟨_,?_,a,λx=>?_⟩,m⟩
 ·rw[<-a];exact kF p
 have g:=hK.keyed.key hs;unfold upd;by_cases i:x=s
 ·subst i;rw[if_pos rfl];exact⟨has_put_same h.isMap g _,λu hu z=>by injection hu with hu;subst hu;exact atKey_put_same h.isMap g _ _⟩
 rw[if_neg i];have c:(kl x)≠kl s:=λe=>i (hK.apart _ _ e);exact⟨(has_put_other c _).trans (k x).1,λu hu z=>(atKey_put_other c _ _).trans ((k x).2 u hu z)⟩
def MapIs.drop [DecidableEq α] (h:MapIs P K kl w b n f) (hK:KeyOf P K kl) {e:TypeId} (ht:P.underlying t=some (.map K e)) {s:α} (hs:keyOf P K key=some (kl s)) (ty:TypeId):
 ∃w' n',(Builtin.delete_ #[t,K] ty #[.map (some b),key]).run P w=.ok (.tuple #[]) w'/\n'+(if (f s).isSome then 1 else 0)=n/\MapIs P K kl w' b n' (upd f s none)/\w.grownBy w' (some b):=by
 obtain⟨D,h,i,g⟩:=h;obtain⟨w',d,l,j⟩:=h.drop hK.keyed ht hs ty;refine⟨w',_,d,?_,⟨_,kF l,rfl,λx=>?_⟩,j.grown⟩
 ·have:=size_del (h.tidy hK.keyed) (k:=kl s);rw[(g s).1,i] at this;exact this
 unfold upd;by_cases c:x=s
 ·subst c;rw[if_pos rfl];exact⟨has_del_same,λu hu=>by cases hu⟩
 rw[if_neg c];have a:(kl x)≠kl s:=λe=>c (hK.apart _ _ e);exact⟨(has_del_other a).trans (g x).1,λu hu z=>(atKey_del_other a _).trans ((g x).2 u hu z)⟩
def MapIs.len (h:MapIs P K kl w b n f) {e:TypeId} (ht:P.underlying t=some (.map K e)) (ty:TypeId):(Builtin.len_ #[t] ty #[.map (some b)]).run P w=.ok (.int .i64 (n:Int)) w:=by
 obtain⟨D,h,a,_⟩:=h;rw[h.len ht ty,a]
end
end
variable {K:TypeId}
def fL (hK:P.underlying K=some .string):KeyOf P K Lit.string:=⟨string_keyed hK,λ_ _ e=>by injection e⟩
def bh (hK:P.underlying K=some (.int .i64)):KeyOf P K (Lit.int .i64):=⟨int_keyed hK,λ_ _ e=>by injection e⟩
def aw (hK:P.underlying K=some (.int .i64)) {n:Int} (h:i64 n):keyOf P K (.int .i64 n)=some (.int .i64 n):=
 keyOf_int_mk hK (by unfold i64 at h;simp only[Lit.wf,τ,decide_eq_true_eq];exact⟨h.1,h.2⟩)
section
variable {α:Type} [DecidableEq α] {P:Program} {K:TypeId} {kl:α->Lit} (w:World) {ops:Array Oper} {rest:List Oper} {o:Oper} {a:Act} {Q:Exit->Act->World->Prop}
def ak (hg:o.guard=none) (m x v:Operand) (t:TypeId) (hop:o.op=Op.mapUpdate t m x v\/o.op=Op.insert t m x v)
 (e:TypeId) (hK:KeyOf P K kl) (ht:P.underlying t=some (.map K e)) (b n:Nat) (f:α->Option Value)
 (hm:a.eval m=.map (some b)) (his:MapIs P K kl w b n f) (hn:n<maxLen) (s:α) (key val:Value) (hx:a.eval x=key) (hv:a.eval v=val) (hs:keyOf P K key=some (kl s))
 (hk:∀w',MapIs P K kl w' b (if (f s).isSome then n else n+1) (upd f s (some val))->w.grownBy w' (some b)->wpList P ops Q rest (a.put o.dst undef) w') :
 wpList P ops Q (o::rest) a w:=by
 refine wpList_plain hg λK' hK'=>?_;obtain⟨w',c,g,d⟩:=his.put hK ht hn hs val;unfold Oper.wp;rcases hop with hop|hop
 all_goals
  simp[execOp,hop,hm,hx,hv,c,Result.andThen];exact hK' _ _ (hk w' g d)
def jL (hg:o.guard=none) (m x:Operand) (t:TypeId) (hop:o.op=Op.call { callee:=Callee.builtin Builtin.delete,args:=#[m,x],argTypes:=#[t,K] })
 (e:TypeId) (hK:KeyOf P K kl) (ht:P.underlying t=some (.map K e)) (b n:Nat) (f:α->Option Value)
 (hm:a.eval m=.map (some b)) (his:MapIs P K kl w b n f) (s:α) (key:Value) (hx:a.eval x=key) (hs:keyOf P K key=some (kl s))
 (hk:∀w' n',n'+(if (f s).isSome then 1 else 0)=n->MapIs P K kl w' b n' (upd f s none)->w.grownBy w' (some b)->wpList P ops Q rest (a.put o.dst (.tuple #[])) w') :
 wpList P ops Q (o::rest) a w:=by
 refine wpList_plain hg λK' hK'=>?_;obtain⟨w',n',c,h,g,d⟩:=his.drop hK ht hs o.type;unfold Oper.wp;simp[execOp,hop,resolve,invoke,builtin,hm,hx,c,Result.andThen];exact hK' _ _ (hk w' n' h g d)
end
set_option maxRecDepth 100000
set_option maxHeartbeats 2000000
def em (c:UInt8):Bool:=(decide (97<=c.toNat)&&decide (c.toNat<=122))||(decide (65<=c.toNat)&&decide (c.toNat<=90))||(decide (48<=c.toNat)&&decide (c.toNat<=57))||(c.toNat==95)
def fo (l:List UInt8) (a b:Nat):Bool:=
 match l with
 | []=>false
 | c::_=>decide (a<=c.toNat)&&decide (c.toNat<=b)&&l.all em
def iJ (f:α->Bool) (l:List α) (k:Nat) (h:k<l) (hf:f l[k]=false):l.all f=false:=by
 rw[List.all_eq_false];exact⟨l[k],ν h,by simp[hf]⟩
def ik (f:α->Bool) (l:List α) (h:∀k (h:k<l.length),f l[k]=true):l.all f=true:=by
 rw[List.all_eq_true];intro x a;obtain⟨i,b,rfl⟩:=List.getElem_of_mem a;exact h i b
def ej {s:ByteArray} (h:0<s.size):∃t,s.data.toList=s[0]::t:=by
 have e:0<s.data.toList.length:=by simpa using h
 match hs:s.data.toList with
 | []=>rw[hs] at e;simp at e
 | c::t =>
  refine⟨t,?_⟩;have:s[0]=s.data.toList[0]'e:=rfl;rw[this];simp[hs]
variable {a:Nat}
def jk {s:ByteArray} {b:Nat} (h:0<s.size) (hb:¬(a<=s[0].toNat/\s[0].toNat<=b)):fo s.data.toList a b=false:=by
 obtain⟨t,e⟩:=ej h;rw[e];unfold fo;simp only[Bool.and_eq_false_iff,decide_eq_false_iff_not];left;omega
def sq {s:ByteArray} {b k:Nat} (h:k<s.size) (hb:em s[k]=false):fo s.data.toList a b=false:=by
 obtain⟨t,e⟩:=ej (s:=s) ω;have:s.data.toList.all em=false:=iJ em _ k (by simpa using h) hb;unfold fo;rw[this];rw[e];simp
def pQ {s:ByteArray} {b:Nat} (h:0<s.size) (h1:a<=s[0].toNat) (h2:s[0].toNat<=b) (hb:∀k (h:k<s.size),em s[k]=true):fo s.data.toList a b=true:=by
 obtain⟨t,e⟩:=ej h;have:s.data.toList.all em=true:=ik em _ λk hk=>hb k (by simpa using hk);unfold fo;rw[this,e];simp[h1,h2]
def tV (s:ByteArray) (a b:Nat) (h:0<s.size) (hm:s.size<=9223372036854775807) (w:World) (hlo:a<=s[0].toNat) (hhi:s[0].toNat<=b) :
 Calls prog 135 #[s,.int .u8 a,.int .u8 b] w λe w'=>e=.returned (.bool (fo s.data.toList a b))/\w=w':=by
 have J:decide ((s[0].toNat:Int)<(a:Int))=false:=decide_eq_false ω;have I:=zF b (s[0].toNat);have G:decide (s[0].toNat<a)=false:=decide_eq_false ω;have F:decide (b<s[0].toNat)=false:=decide_eq_false ω;have q:¬s.toList=[]:=by rw[ByteArray.toList_eq];obtain⟨t,e⟩:=ej h;rw[e];simp
 have N:(s.toList==[])=false:=by simpa using q
 have M:s.toList.isEmpty=false:=by simpa using q
 obtain⟨u,v,H⟩:=zd3 hlo hhi h;clear hlo hhi;go_enter func135,ntmps135;go_upto_region 4 with fail;go_loopw [25] (λi wr=>∃k:Nat,k<=s.size/\i=.int .i64 k/\Hid (∀j (h:j<s.size),j<k->em s[j]=true)/\wr=w) (λi _=>s.size-(intOf i).toNat)
 case atStart=>exact⟨0,ω,rfl,λj _ hj=>ω,rfl⟩
 case round =>
  obtain⟨k,L,rfl,d,rfl⟩:=hrel;by_cases hlt:k<s.size
  ·have n:decide ((k:Int)<s.size)=true:=decide_eq_true ω
   have p:Hid (em s[k]=true->∀j (h:j<s.size),j<k+1->em s[j]=true):=λhx j h hj=>by
    by_cases e:j=k
    ·subst e;exact hx
    exact d j h ω
   have r:Hid (em s[k]=false->fo s.data.toList a b=false):=λhx=>sq hlt hx;have f:em s[k]=((decide (97<=s[k].toNat)&&decide (s[k].toNat<=122))||(decide (65<=s[k].toNat)&&decide (s[k].toNat<=90))||(decide (48<=s[k].toNat)&&decide (s[k].toNat<=57))||(s[k].toNat==95)):=rfl;have g:=η f;clear f;have c:(s[k].toNat<48)\/(48<=s[k].toNat/\s[k].toNat<=57)\/(58<=s[k].toNat/\s[k].toNat<=64)\/(65<=s[k].toNat/\s[k].toNat<=90)\/(91<=s[k].toNat/\s[k].toNat<=96/\s[k].toNat≠95)\/(s[k].toNat=95)\/(97<=s[k].toNat/\s[k].toNat<=122)\/(123<=s[k].toNat):=ω;rcases c with c|c|c|c|c|c|c|c
   all_goals
    first|(have E:((s[k].toNat:Int)==95)=true:=by simp;omega)|(have E:((s[k].toNat:Int)==95)=false:=by simp;omega)
    first|(have D:decide ((97:Int)<=s[k].toNat)=true:=decide_eq_true ω)|(have D:decide ((97:Int)<=s[k].toNat)=false:=decide_eq_false ω)
    first|(have B:decide ((s[k].toNat:Int)<=122)=true:=decide_eq_true ω)|(have B:decide ((s[k].toNat:Int)<=122)=false:=decide_eq_false ω)
    first|(have A:decide ((65:Int)<=s[k].toNat)=true:=decide_eq_true ω)|(have A:decide ((65:Int)<=s[k].toNat)=false:=decide_eq_false ω)
    first|(have z:decide ((s[k].toNat:Int)<=90)=true:=decide_eq_true ω)|(have z:decide ((s[k].toNat:Int)<=90)=false:=decide_eq_false ω)
    first|(have y:decide ((48:Int)<=s[k].toNat)=true:=decide_eq_true ω)|(have y:decide ((48:Int)<=s[k].toNat)=false:=decide_eq_false ω)
    first|(have x:decide ((s[k].toNat:Int)<=57)=true:=decide_eq_true ω)|(have x:decide ((s[k].toNat:Int)<=57)=false:=decide_eq_false ω)
    first
    | (have m:Hid (em s[k]=true):=by
        show em s[k]=true;rw[g.o];simp;omega
       clear c;go_wp2_with fail;go_roundw
       case rel=>exact⟨k+1,ω,by go_num,p m,trivial⟩
       case measure=>simp[intOf];omega)
    | (have m:Hid (em s[k]=false):=by
        show em s[k]=false;rw[g.o];simp;omega
       clear c;go_wp2_with fail;go_ret;exact⟨by rw[r.o m.o];rfl,rfl⟩)
  obtain rfl:k=s.size:=ω;have n:decide ((s.size:Int)<s.size)=false:=decide_eq_false ω;have l:=η (pQ H u v λj h=>d j h h);go_wp2_with fail;go_ret;exact⟨by rw[l.o];rfl,rfl⟩
def oH (s:ByteArray) (a b:Nat) (w:World) (hm:s.size<=maxLen) :
 Calls prog 135 #[s,.int .u8 a,.int .u8 b] w λe w'=>e=.returned (.bool (fo s.data.toList a b))/\w=w':=by
 unfold maxLen at hm;by_cases h:0<s.size
 ·by_cases k:a<=s[0].toNat
  ·by_cases j:s[0].toNat<=b
   ·exact tV s a b h hm w k j
   have d:=η (jk (a:=a) (b:=b) h (λx=>j x.2));have i:decide ((s[0].toNat:Int)<(a:Int))=false:=decide_eq_false ω;have p:=zT b (s[0].toNat);have g:decide (s[0].toNat<a)=false:=decide_eq_false ω;have n:decide (b<s[0].toNat)=true:=decide_eq_true ω;have c:¬s.toList=[]:=by rw[ByteArray.toList_eq];obtain⟨t,e⟩:=ej h;rw[e];simp
   have m:(s.toList==[])=false:=by simpa using c
   have l:s.toList.isEmpty=false:=by simpa using c
   go_enter func135,ntmps135;go_wp2_with fail;go_ret;exact⟨by rw[d.o];rfl,rfl⟩
  have d:=η (jk (a:=a) (b:=b) h (λx=>k x.1));have i:decide ((s[0].toNat:Int)<(a:Int))=true:=decide_eq_true ω;have g:decide (s[0].toNat<a)=true:=decide_eq_true ω;have c:¬s.toList=[]:=by rw[ByteArray.toList_eq];obtain⟨t,e⟩:=ej h;rw[e];simp
  have m:(s.toList==[])=false:=by simpa using c
  have l:s.toList.isEmpty=false:=by simpa using c
  go_enter func135,ntmps135;go_wp2_with fail;go_ret;exact⟨by rw[d.o];rfl,rfl⟩
 have f:s.data.toList=[]:=by
  have:s.data.toList.length=0:=by have:s.data.size=0:=by (have:s.size=s.data.size:=rfl);omega
                                  simpa using this
  exact List.length_eq_zero_iff.1 this
 have d:Hid (fo s.data.toList a b=false):=by show fo _ _ _=_;rw[f];rfl
 have c:s.toList=[]:=by rw[ByteArray.toList_eq];exact f
 have m:(s.toList==[])=true:=by simpa using c
 have l:s.toList.isEmpty=true:=by simpa using c
 clear f;go_enter func135,ntmps135;go_wp2_with fail;go_ret;exact⟨by rw[d.o];rfl,rfl⟩
mutual
def dB:Ty->Bool
 | .mk k _ a=>!(k==8)&&rB a
def rB:List Ty->Bool
 | []=>true
 | x::xs=>dB x&&rB xs
end
def tw (l:List Ty):rB l=l.all dB:=by
 induction l with
 | nil=>rfl
 | cons x l ih=>rw[rB,List.all_cons,ih]
def az (i n:Int):Bool:=decide (0<=i)&&decide (i<n)
def gg (s n:Int):Bool:=decide (n<=s)&&decide (s<=32768)
def ay (i n:Int) (w:World):Calls prog 162 #[i,n] w λe w'=>e=.returned (.bool (az i n))/\w=w':=by
 by_cases b:0<=i<;>by_cases a:i<n
 all_goals
  have c:Hid (az i n=(decide (0<=i)&&decide (i<n))):=rfl;go_enter func162,ntmps162;go_wp2_with fail;go_ret;exact⟨by rw[c.o];simp[b,a],rfl⟩
def jT (i n:Int) (w:World):Calls prog 136 #[i,n] w λe w'=>e=.returned (.bool (gg i n))/\w=w':=by
 by_cases b:n<=i<;>by_cases a:i<=32768
 all_goals
  have c:Hid (gg i n=(decide (n<=i)&&decide (i<=32768))):=rfl;go_enter func136,ntmps136;go_wp2_with fail;go_ret;exact⟨by rw[c.o];simp[b,a],rfl⟩
def aU (k:Int) (w:World):Calls prog 176 #[k] w λe w'=>e=.returned (.agg #[k,.string ⟨#[]⟩,()])/\Below w w w':=by
 go_enter func176,ntmps176;go_wp2_with fail;exact bodyPost_ret (v:=.agg #[k,.string ⟨#[]⟩,()]) (by simp[results,results176,go_sem]) rfl ⟨rfl,(Below.refl _ _).alloc (υ _) _⟩
def stor_any (n:Nat):∀(cs:List Value) (t:Ty) (w:World),SizeOf.sizeOf t<=n->TyR w (lo w) cs t->Calls prog 139 #[.agg cs.toArray] w λe w'=>e=.returned (.bool (dB t))/\Below w w w':=by
 induction n with
 | zero=>intro cs t w d;cases t;simp at d
 | succ n ih =>
  intro cs t w d c;obtain⟨k,s,a,A,cap,rfl,rfl,_,U,v⟩:=ap c;have L:=v.le9;have z:Hid (∀(i:Nat) (h:i<a.length) (cs:List Value) (w:World),TyR w (lo w) cs a[i]->Calls prog 139 #[.agg cs.toArray] w λe w'=>e=.returned (.bool (dB a[i]))/\Below w w w'):=λi h cs w c=>ih cs a[i] w (by have:=List.sizeOf_lt_of_mem (ν h);simp at d;omega) c;have I:=η v;have x:Hid (dB (.mk k s a)=(!(k==8)&&a.all dB)):=by show dB _=_;rw[dB,tw]
  clear ih d c v;by_cases f:k=8
  ·have r:(k==8)=true:=by simpa using f
   clear f;go_enter func139,ntmps139;go_wp2_with fail;go_ret;exact⟨by rw[x.o,r];rfl,ζ1⟩
  have r:(k==8)=false:=by simpa using f
  clear f;go_enter func139,ntmps139;go_wp2_with fail;go_loopw [11] (λi wr=>∃j:Nat,j<=a/\i=.int .i64 j/\Hid (∀q (h:q<a.length),q<j->dB a[q]=true)/\Hid (Below w w wr)) (λi _=>a.length-(intOf i).toNat)
  case atStart=>exact⟨0,ω,rfl,λq _ h=>ω,ζ1⟩
  case round =>
   obtain⟨j,V,rfl,B,l⟩:=hrel;by_cases hlt:j<a
   ·have E:=zT j a;obtain⟨g,J,T,M,X,Y,G,rfl,W,F,R,O,N,m⟩:=cS (TysR.to I (ae l)) hlt;have p:=η m;clear m F
    cases hsm:dB a[j] with
    | false =>
     have y:Hid (a.all dB=false):=iJ _ _ j hlt hsm;have b:=η hsm;clear hsm;go_wp2_with (go_at_call 139;refine (z j hlt _ _ (p.to (ae ζ1))).mono ?_;rw[b.o];rintro e D ⟨rfl,u⟩);go_ret;exact⟨by rw[x.o,y.o];simp,bel (belA l _) u⟩
    | true =>
     have H:Hid (∀q (h:q<a.length),q<j+1->dB a[q]=true):=λq h hq=>by
      by_cases e:q=j
      ·subst e;exact hsm
      exact B q h ω
     have b:=η hsm;clear hsm;go_wp2_with (go_at_call 139;refine (z j hlt _ _ (p.to (ae ζ1))).mono ?_;rw[b.o];rintro e D ⟨rfl,u⟩);go_roundw
     case rel=>exact⟨j+1,ω,by go_num,H,bel (belA l _) u⟩
     case measure=>simp[intOf];omega
   have E:=zF j a;have y:Hid (a.all dB=true):=ik _ _ λq h=>B q h ω;go_wp2_with fail;go_ret;exact⟨by rw[x.o,y.o,r];rfl,l⟩
def reservedWords:List (List UInt8):=[[114,101,99,111,114,100],[118,97,114,105,97,110,116],[101,102,102,101,99,116],[102,117,110],[97,99,116,111,114],[114,101,115,116,97,114,116],[101,115,99,97,108,97,116,101],[115,116,97,116,101],[111,110],[108,101,116],[105,110],[105,102],[116,104,101,110],[101,108,115,101],[109,97,116,99,104],[119,105,116,104],[97,110,100],[111,114],[110,111,116],[116,114,117,101],[102,97,108,115,101],[115,101,108,102],[102,111,114],[115,101,110,100],[97,102,116,101,114],[115,112,97,119,110],[100,111],[115,116,111,112],[102,97,105,108],[114,101,102],[105,110,116],[98,111,111,108],[116,101,120,116],[117,110,105,116]]
def primWords:List (List UInt8):=[[108,101,110],[97,116],[112,117,116],[115,108,105,99,101],[115,105,122,101],[115,117,98],[115,104,111,119]]
def iU (l:List UInt8):Bool:=reservedWords.contains l
def oz (l:List UInt8):Bool:=primWords.contains l
def aC (l:List UInt8):Bool:=fo l 65 90
def aX (l:List UInt8):Bool:=fo l 97 122&&!iU l
def fJ (l:List UInt8):Bool:=(l==[115,101,108,102])||aX l
section
variable (s:ByteArray) (w:World)
include s w
theorem nP:Calls prog 137 #[s] w λe w'=>e=.returned (.bool (iU s.data.toList))/\w=w':=by
 have a:Hid (iU s.data.toList=reservedWords.contains s.toList):=by show _=_;rw[ByteArray.toList_eq];rfl
 go_enter func137,ntmps137;go_wp2_with fail
 all_goals
  go_ret;refine⟨?_,rfl⟩;rw[a.o];simp_all [reservedWords]
theorem ge:Calls prog 101 #[s] w λe w'=>e=.returned (.bool (oz s.data.toList))/\w=w':=by
 have a:Hid (oz s.data.toList=primWords.contains s.toList):=by show _=_;rw[ByteArray.toList_eq];rfl
 go_enter func101,ntmps101;go_wp2_with fail
 all_goals
  go_ret;refine⟨?_,rfl⟩;rw[a.o];simp_all [primWords]
theorem rV (hs:s.size<=maxLen):Calls prog 95 #[s] w λe w'=>e=.returned (.bool (aC s.data.toList))/\w=w':=by
 have a:=η hs;clear hs;go_enter func95,ntmps95;go_wp2_with (go_at_call 135;refine (oH s 65 90 _ a).mono ?_;rintro e w' ⟨rfl,rfl⟩);go_ret;exact⟨rfl,rfl⟩
theorem nl (hs:s.size<=maxLen):Calls prog 98 #[s] w λe w'=>e=.returned (.bool (aX s.data.toList))/\w=w':=by
 have d:=η hs;have c:Hid (aX s.data.toList=(fo s.data.toList 97 122&&!iU s.data.toList)):=rfl;clear hs
 cases h1:fo s.data.toList 97 122<;>cases h2:iU s.data.toList
 all_goals
  obtain⟨b,a⟩:=zd2 h1 h2;clear h1 h2;go_enter func98,ntmps98;go_wp2_with (first|(go_at_call 135;refine (oH s 97 122 _ d).mono ?_;rw[b.o];rintro e w' ⟨rfl,rfl⟩)|(go_at_call 137;refine (nP s _).mono ?_;rw[a.o];rintro e w' ⟨rfl,rfl⟩));go_ret
  exact⟨by rw[c.o,b.o];try rw[a.o]
           try rfl,rfl⟩
theorem rW (hs:s.size<=maxLen):Calls prog 140 #[s] w λe w'=>e=.returned (.bool (fJ s.data.toList))/\w=w':=by
 have c:=η hs;have b:Hid (fJ s.data.toList=((s.toList==[115,101,108,102])||aX s.data.toList)):=by show _=_;rw[ByteArray.toList_eq];rfl
 clear hs
 cases h1:(s.toList==[115,101,108,102])<;>cases h2:aX s.data.toList
 all_goals
  have a:=η h2;clear h2;go_enter func140,ntmps140;go_wp2_with (go_at_call 98;refine (nl s _ c).mono ?_;rw[a.o];rintro e w' ⟨rfl,rfl⟩);go_ret
  exact⟨by rw[b.o,h1];try rw[a.o]
           try rfl,rfl⟩
theorem fT:Calls prog 167 #[s] w λe w'=>e=.returned (.agg #[(6:Int),s,()])/\Below w w w':=by
 go_enter func167,ntmps167;go_wp2_with fail;exact bodyPost_ret (v:=.agg #[(6:Int),s,()]) (by simp[results,results167,go_sem]) rfl ⟨rfl,ζ1⟩
end
def Ty.kind:Ty->Int|.mk k _ _=>k
def cX (t:Ty):Bool:=t.kind==3||t.kind==4
def ju (t:Ty):Bool:=t.kind==4||t.kind==5
def nj (cs:List Value) (t:Ty) (w:World) (P:Nat->Prop) (hr:TyR w P cs t):Calls prog 181 #[.agg cs.toArray] w λe w'=>e=.returned (.bool (cX t))/\Below w w w':=by
 obtain⟨k,s,a,A,cap,rfl,rfl,_,d,b⟩:=ap hr;have c:Hid (cX (.mk k s a)=(k==3||k==4)):=rfl;clear hr b
 cases h1:(k==3)<;>cases h2:(k==4)
 all_goals
  go_enter func181,ntmps181;go_wp2_with fail;go_ret
  exact⟨by rw[c.o,h1];try rw[h2]
           try rfl,ζ1⟩
def jj (cs:List Value) (t:Ty) (w:World) (P:Nat->Prop) (hr:TyR w P cs t):Calls prog 183 #[.agg cs.toArray] w λe w'=>e=.returned (.bool (ju t))/\Below w w w':=by
 obtain⟨k,s,a,A,cap,rfl,rfl,_,d,b⟩:=ap hr;have c:Hid (ju (.mk k s a)=(k==4||k==5)):=rfl;clear hr b
 cases h1:(k==4)<;>cases h2:(k==5)
 all_goals
  go_enter func183,ntmps183;go_wp2_with fail;go_ret
  exact⟨by rw[c.o,h1];try rw[h2]
           try rfl,ζ1⟩
def varN:Nat->Nat->List UInt8
 | 0,_=>[]
 | k+1,n=>if n<128 then [UInt8.ofNat n] else UInt8.ofNat (n%128+128)::varN k (n/128)
def numB (n:Int):List UInt8:=if n<0 then [] else varN 9 n.toNat
def intB (n:Int):List UInt8:=if n < -1152921504606846976\/1152921504606846976<n then [] else if n<0 then numB (-2*n-1) else numB (2*n)
def aM (s:ByteArray):List UInt8:=numB (s.size:Nat)++s.data.toList
structure Nm (σ:Type) where
 num:σ->Int->Int×σ
 nam:σ->ByteArray->σ
def wAll {σ α:Type} (f:σ->α->List UInt8×σ):σ->List α->List UInt8×σ
 | st,[]=>([],st)
 | st,x::xs=>((f st x).1++(wAll f (f st x).2 xs).1,(wAll f (f st x).2 xs).2)
def ah {σ α:Type} (f:σ->α->List UInt8×σ) (st:σ) (l:List α):List UInt8×σ:=(numB (l.length:Nat)++(wAll f st l).1,(wAll f st l).2)
section
variable {σ:Type} (N:Nm σ)
mutual
def wTy (st:σ):Ty->List UInt8×σ
 | .mk k s a=>(numB k++(aM s++(numB (a.length:Nat)++(wTys (if k=6 then N.nam st s else st) a).1)),(wTys (if k=6 then N.nam st s else st) a).2)
def wTys (st:σ):List Ty->List UInt8×σ
 | []=>([],st)
 | x::xs=>((wTy st x).1++(wTys (wTy st x).2 xs).1,(wTys (wTy st x).2 xs).2)
end
def jb (op:Int):Bool:=decide (op=33)||decide (op=34)
def gu (op:Int):Bool:=decide (op=9)||decide (op=12)
def eNum (st:σ) (op n:Int):Int×σ:=if jb op then N.num st n else (n,st)
def eNam (st:σ) (op:Int) (s:ByteArray):σ:=if gu op then N.nam st s else st
mutual
def wEx (st:σ):Ex->List UInt8×σ
 | .mk op n m s a=>(numB op++(intB (eNum N st op n).1++(intB m++(aM s++(numB (a.length:Nat)++(wExs (eNam N (eNum N st op n).2 op s) a).1)))),(wExs (eNam N (eNum N st op n).2 op s) a).2)
def wExs (st:σ):List Ex->List UInt8×σ
 | []=>([],st)
 | x::xs=>((wEx st x).1++(wExs (wEx st x).2 xs).1,(wExs (wEx st x).2 xs).2)
end
def oZ (st:σ) (l:List Ty):wTys N st l=wAll (wTy N) st l:=by
 induction l generalizing st with
 | nil=>rw[wTys,wAll]
 | cons x xs ih=>rw[wTys,wAll,ih]
def lM (st:σ) (l:List Ex):wExs N st l=wAll (wEx N) st l:=by
 induction l generalizing st with
 | nil=>rw[wExs,wAll]
 | cons x xs ih=>rw[wExs,wAll,ih]
mutual
def wSt (st:σ):St->List UInt8×σ
 | .mk op n m s t xs h e a =>
  let r0:=ah (wEx N) st xs
  let r1:=wSts r0.2 h
  let r2:=wSts r1.2 e
  let r3:=wSts r2.2 a
  (numB op++(intB n++(intB m++(aM s++(aM t++(r0.1++((numB (h.length:Nat)++r1.1)++((numB (e.length:Nat)++r2.1)++(numB (a.length:Nat)++r3.1)))))))),r3.2)
def wSts (st:σ):List St->List UInt8×σ
 | []=>([],st)
 | x::xs=>((wSt st x).1++(wSts (wSt st x).2 xs).1,(wSts (wSt st x).2 xs).2)
end
def yK (st:σ) (l:List St):wSts N st l=wAll (wSt N) st l:=by
 induction l generalizing st with
 | nil=>rw[wSts,wAll]
 | cons x xs ih=>rw[wSts,wAll,ih]
def wFld (st:σ) (f:Fld):List UInt8×σ:=(aM f.name++(wTy N st f.type).1,(wTy N st f.type).2)
def bJ (st:σ) (l:List Fld):List UInt8×σ:=ah (wFld N) st l
def wCtr (st:σ) (c:Ctr):List UInt8×σ:=(aM c.name++(bJ N st c.fields).1,(bJ N st c.fields).2)
def wDcl (st:σ) (d:Dcl):List UInt8×σ:=(aM d.name++(numB (if d.record then 1 else 0)++(ah (wCtr N) st d.ctors).1),(ah (wCtr N) st d.ctors).2)
def wEff (st:σ) (e:Eff):List UInt8×σ:=(aM e.name++((bJ N st e.params).1++(wTy N (bJ N st e.params).2 e.answer).1),(wTy N (bJ N st e.params).2 e.answer).2)
def wFn (st:σ) (f:Fn):List UInt8×σ:=
 let r0:=bJ N st f.params
 let r1:=wTy N r0.2 f.result
 let r2:=wEx N r1.2 f.body
 (aM f.name++(r0.1++(r1.1++(numB f.slots++r2.1))),r2.2)
def wVr (st:σ) (v:Vr):List UInt8×σ:=(aM v.name++((wTy N st v.type).1++(wEx N (wTy N st v.type).2 v.init).1),(wEx N (wTy N st v.type).2 v.init).2)
def wHd (st:σ) (h:Hd):List UInt8×σ:=
 let r0:=bJ N st h.params
 let r1:=ah (wSt N) r0.2 h.body
 (aM h.msg++(r0.1++(numB h.slots++r1.1)),r1.2)
def wAc (st:σ) (a:Ac):List UInt8×σ:=
 let r0:=bJ N st a.params
 let r1:=ah (wVr N) r0.2 a.vars
 let r2:=ah (wHd N) r1.2 a.on
 (aM a.name++(r0.1++(numB a.slots++(r1.1++r2.1))),r2.2)
def wAcP (st:σ) (a:Ac):List UInt8×σ:=((wAc N st a).1++(numB a.policy++numB a.most),(wAc N st a).2)
end
def nm0N:Nm Unit:=⟨λ_ n=>(n,()),λ_ _=>()⟩
def hX (p:Pg):List UInt8:=(ah (wDcl nm0N) () p.types).1++((ah (wEff nm0N) () p.effects).1++((ah (wFn nm0N) () p.funs).1++(ah (wAcP nm0N) () p.actors).1))
section
variable (okN:Int->Prop) (okS:ByteArray->Prop)
mutual
def Ty.refs:Ty->Prop
 | .mk k s a=>(k=6->okS s)/\Ty.refss a
def Ty.refss:List Ty->Prop
 | []=>True
 | x::xs=>Ty.refs x/\Ty.refss xs
end
mutual
def Ex.refs:Ex->Prop
 | .mk op n _ s a=>(jb op=true->okN n)/\(gu op=true->okS s)/\Ex.refss a
def Ex.refss:List Ex->Prop
 | []=>True
 | x::xs=>Ex.refs x/\Ex.refss xs
end
mutual
def St.refs:St->Prop
 | .mk _ _ _ _ _ xs h e a=>Ex.refss okN okS xs/\St.refss h/\St.refss e/\St.refss a
def St.refss:List St->Prop
 | []=>True
 | x::xs=>St.refs x/\St.refss xs
end
def Fld.refs (f:Fld):Prop:=Ty.refs okS f.type
def Ctr.refs (c:Ctr):Prop:=∀f∈c.fields,f.refs okS
def Dcl.refs (d:Dcl):Prop:=∀c∈d.ctors,c.refs okS
def Eff.refs (e:Eff):Prop:=(∀f∈e.params,f.refs okS)/\e.answer.refs okS
def Fn.refs (f:Fn):Prop:=(∀q∈f.params,q.refs okS)/\f.result.refs okS/\f.body.refs okN okS
def Vr.refs (v:Vr):Prop:=v.type.refs okS/\v.init.refs okN okS
def Hd.refs (h:Hd):Prop:=(∀q∈h.params,q.refs okS)/\St.refss okN okS h.body
def Ac.refs (a:Ac):Prop:=(∀q∈a.params,q.refs okS)/\(∀v∈a.vars,v.refs okN okS)/\(∀h∈a.on,h.refs okN okS)
def Ty.refss_iff (l:List Ty):Ty.refss okS l↔∀x∈l,x.refs okS:=by
 induction l with
 | nil=>simp[Ty.refss]
 | cons x l ih=>simp[Ty.refss,ih]
def Ex.refss_iff (l:List Ex):Ex.refss okN okS l↔∀x∈l,x.refs okN okS:=by
 induction l with
 | nil=>simp[Ex.refss]
 | cons x l ih=>simp[Ex.refss,ih]
def St.refss_iff (l:List St):St.refss okN okS l↔∀x∈l,x.refs okN okS:=by
 induction l with
 | nil=>simp[St.refss]
 | cons x l ih=>simp[St.refss,ih]
end
section
variable {σ:Type} {N:Nm σ} {Inv:σ->Prop} {okN:Int->Prop} {okS:ByteArray->Prop}
structure NmInv (N:Nm σ) (Inv:σ->Prop) (okN:Int->Prop) (okS:ByteArray->Prop):Prop where
 num:∀st n,Inv st->okN n->Inv (N.num st n).2
 nam:∀st s,Inv st->okS s->Inv (N.nam st s)
def wAll_inv {f:σ->α->List UInt8×σ} (l:List α) (h:∀x∈l,∀st,Inv st->Inv (f st x).2):∀st,Inv st->Inv (wAll f st l).2:=by
 induction l with
 | nil=>intro st a;exact a
 | cons x l ih=>intro st a;rw[wAll];exact ih (λy hy=>h y (List.mem_cons_of_mem _ hy)) _ (h x List.mem_cons_self st a)
def gR {f:σ->α->List UInt8×σ} {l:List α} (h:∀x∈l,∀st,Inv st->Inv (f st x).2) {st:σ} (hs:Inv st):Inv (ah f st l).2:=wAll_inv l h st hs
variable (H:NmInv N Inv okN okS)
include H
mutual
theorem nU:∀(t:Ty) (st:σ),t.refs okS->Inv st->Inv (wTy N st t).2
 | .mk k s a,st,hr,hs=>by
  rw[wTy]
  rw[Ty.refs] at hr
  refine sr a _ hr.2 ?_
  split
  ·exact H.nam _ _ hs (hr.1 ι)
  exact hs
theorem sr:∀(l:List Ty) (st:σ),Ty.refss okS l->Inv st->Inv (wTys N st l).2
 | [],st,_,hs=>by rw[wTys];exact hs
 | x::xs,st,hr,hs=>by
  rw[wTys]
  rw[Ty.refss] at hr
  exact sr xs _ hr.2 (nU x st hr.1 hs)
end
mutual
theorem nW:∀(t:Ex) (st:σ),t.refs okN okS->Inv st->Inv (wEx N st t).2
 | .mk op n m s a,st,hr,hs=>by
  rw[wEx]
  rw[Ex.refs] at hr
  refine ss a _ hr.2.2 ?_
  have h1:Inv (eNum N st op n).2:=by
   unfold eNum;split
   ·exact H.num _ _ hs (hr.1 ι)
   exact hs
  unfold eNam;split
  ·exact H.nam _ _ h1 (hr.2.1 ι)
  exact h1
theorem ss:∀(l:List Ex) (st:σ),Ex.refss okN okS l->Inv st->Inv (wExs N st l).2
 | [],st,_,hs=>by rw[wExs];exact hs
 | x::xs,st,hr,hs=>by
  rw[wExs]
  rw[Ex.refss] at hr
  exact ss xs _ hr.2 (nW x st hr.1 hs)
end
mutual
theorem uC:∀(t:St) (st:σ),t.refs okN okS->Inv st->Inv (wSt N st t).2
 | .mk op n m s t xs h e a,st,hr,hs=>by
  rw[wSt]
  rw[St.refs] at hr
  have h0:Inv (ah (wEx N) st xs).2:=gR (λx hx st hs=>nW H x st ((Ex.refss_iff _ _ _).1 hr.1 x hx) hs) hs
  exact lL a _ hr.2.2.2 (lL e _ hr.2.2.1 (lL h _ hr.2.1 h0))
theorem lL:∀(l:List St) (st:σ),St.refss okN okS l->Inv st->Inv (wSts N st l).2
 | [],st,_,hs=>by rw[wSts];exact hs
 | x::xs,st,hr,hs=>by
  rw[wSts]
  rw[St.refss] at hr
  exact lL xs _ hr.2 (uC x st hr.1 hs)
end
theorem wFld_inv (f:Fld) (st:σ) (hr:f.refs okS) (hs:Inv st):Inv (wFld N st f).2:=nU H _ _ hr hs
theorem jY (l:List Fld) (st:σ) (hr:∀f∈l,f.refs okS) (hs:Inv st):Inv (bJ N st l).2:=gR (λx hx st hs=>wFld_inv H x st (hr x hx) hs) hs
theorem wCtr_inv (f:Ctr) (st:σ) (hr:f.refs okS) (hs:Inv st):Inv (wCtr N st f).2:=jY H _ _ hr hs
theorem sx (f:Dcl) (st:σ) (hr:f.refs okS) (hs:Inv st):Inv (wDcl N st f).2:=gR (λx hx st hs=>wCtr_inv H x st (hr x hx) hs) hs
theorem uD (f:Fn) (st:σ) (hr:f.refs okN okS) (hs:Inv st):Inv (wFn N st f).2:=nW H _ _ hr.2.2 (nU H _ _ hr.2.1 (jY H _ _ hr.1 hs))
theorem wVr_inv (f:Vr) (st:σ) (hr:f.refs okN okS) (hs:Inv st):Inv (wVr N st f).2:=nW H _ _ hr.2 (nU H _ _ hr.1 hs)
theorem wHd_inv (f:Hd) (st:σ) (hr:f.refs okN okS) (hs:Inv st):Inv (wHd N st f).2:=gR (λx hx st hs=>uC H x st ((St.refss_iff _ _ _).1 hr.2 x hx) hs) (jY H _ _ hr.1 hs)
theorem wAc_inv (f:Ac) (st:σ) (hr:f.refs okN okS) (hs:Inv st):Inv (wAc N st f).2:=
 gR (λx hx st hs=>wHd_inv H x st (hr.2.2 x hx) hs) (gR (λx hx st hs=>wVr_inv H x st (hr.2.1 x hx) hs) (jY H _ _ hr.1 hs))
end
section
def Ty.refs_any:∀t:Ty,t.refs λ_=>True
 | .mk k s a=>by rw[Ty.refs];exact⟨λ_=>trivial,(Ty.refss_iff _ _).2 λx hx=>Ty.refs_any x⟩
termination_by t=>SizeOf.sizeOf t
decreasing_by have:=List.sizeOf_lt_of_mem hx;simp;omega
def Ex.refs_any:∀t:Ex,t.refs (λ_=>True) λ_=>True
 | .mk o n m s a=>by rw[Ex.refs];exact⟨λ_=>trivial,λ_=>trivial,(Ex.refss_iff _ _ _).2 λx hx=>Ex.refs_any x⟩
termination_by t=>SizeOf.sizeOf t
decreasing_by have:=List.sizeOf_lt_of_mem hx;simp;omega
def Fn.refs_any (f:Fn):f.refs (λ_=>True) λ_=>True:=⟨λq _=>Ty.refs_any _,Ty.refs_any _,Ex.refs_any _⟩
def Dcl.refs_any (f:Dcl):f.refs λ_=>True:=λc _ q _=>Ty.refs_any _
end
end
end Go.Proofs.YtjohpidklbhmcaaGreatDoor
