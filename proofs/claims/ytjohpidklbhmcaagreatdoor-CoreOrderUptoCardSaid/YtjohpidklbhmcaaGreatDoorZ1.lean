/- Core -/
import Derived.Test.YtjohpidklbhmcaaGreatDoorProg
import Derived.Deep.RegionHeld3
import Derived.Test.YtjohpidklbhmcaaGreatDoorHd
import Derived.WalkKit
import Derived.Maps.OwnSet
import Derived.Maps.OwnOps
import Derived.StringKeys
import Derived.Test.YtjohpidklbhmcaaGreatDoorRows
import Derived.WalkSpells
import Derived.WalkLawsBesides
import Derived.Deep.DeepCutAuto
import Derived.Deep.QuietTactic
import Derived.BigQuiet
import Derived.Lib.QuietBelow
namespace Go.Proofs.YtjohpidklbhmcaaGreatDoor
set_option linter.all false
set_option maxRecDepth 100000
set_option maxHeartbeats 2000000
section
open Proofs.Tryz
def Qc118:prog.cellsOf 118=4:=by kernel_rfl
def Qc120:prog.cellsOf 120=9:=by kernel_rfl
def Qc3:prog.cellsOf 3=1:=by kernel_rfl
def Qc37:prog.cellsOf 37=1:=by kernel_rfl
def Qc40:prog.cellsOf 40=3:=by kernel_rfl
def Qc43:prog.cellsOf 43=5:=by kernel_rfl
def Qc62:prog.cellsOf 62=1:=by kernel_rfl
def Qc9:prog.cellsOf 9=1:=by kernel_rfl
def nthO:List Oper->Nat->Option Oper
 | [],_=>none
 | o::_,0=>some o
 | _::l,n+1=>nthO l n
section
variable {i:Nat}
def nthO_eq {ops:Array Oper} {o:Oper} (h:nthO ops.toList i=some o):ops[i]?=some o:=by
 have:∀(l:List Oper) (i:Nat),nthO l i=l[i]?:=by
  intro l;induction l with
  | nil=>intro i;rfl
  | cons x l ih=>intro i;cases i with
   | zero=>rfl
   | succ n=>exact ih n
 rw[<-Array.getElem?_toList,<-this];exact h
section
variable {P:Program} {md:Region.Mode} {ops:Array Oper} {Q:Exit->Act->À->Prop} {S:À->Prop} {fuel:Nat} {listed:Array Bool} {a a':Act} {w:À} {dst:Option Nat} {op:Op} {ty:Nat} {pos:String} {after:Array Edge} {g:Option (Nat×Bool)} {v:Value}
def tkB (S:À->Prop) {id:Nat} (hS:S w.drew) (h:S w.drew->wpAnyH P .any ops Q S ops.size (Array.replicate ops.size false) a w.drew) (hm:P.follows .mixedOrders=true:=by kernel_rfl):(Code.region id ops true).wp P Q a w:=
 wp_region_held_drew hm hS h
def tkQ (i:Nat) (h:wpAnyH P md ops Q S fuel (listed.setIfInBounds i true) a' w)
 (hr:(Region.ready md ops listed).contains i=true:=by kernel_rfl)
 (hi:nthO ops.toList i=some { dst:=dst,op:=op,type:=ty,pos:=pos,after:=after,guard:=g }:=by exact rfl)
 (hs:Region.noSelect ops=true:=by kernel_rfl) (hf:Region.free md ops listed i=true:=by kernel_rfl)
 (hw:Region.wanted { dst:=dst,op:=op,type:=ty,pos:=pos,after:=after,guard:=g } (yielded ops a.tmps)=true:=by rfl)
 (hy:∀w,S w->(execOp a.eval { dst:=dst,op:=op,type:=ty,pos:=pos,after:=after,guard:=g }).run P w=.ok (.value v) w:=by intro w hSw;go_simp;first|done|with_reducible rfl)
 (hS:S w:=by assumption) (hQ:∀c a w,Q (.panic c) (a.put dst v) w->Q (.panic c) a w:=by exact λ_ _ _ h=>h)
 (ha:a.put dst v=a':=by first|(simp only[Act.put,List.setIfInBounds_toArray,List.set_cons_zero,List.set_cons_succ];rfl)|rfl):wpAnyH P md ops Q S (fuel+1) listed a w:=
 wpAnyH_take (nthO_eq hi) hs hf hr hQ (.inl ⟨hw,hy⟩) hS (by rw[ha];exact h)
def tkN (i:Nat) (h:wpAnyH P md ops Q S fuel (listed.setIfInBounds i true) a' w)
 (hr:(Region.ready md ops listed).contains i=true:=by kernel_rfl)
 (hi:nthO ops.toList i=some { dst:=dst,op:=op,type:=ty,pos:=pos,after:=after,guard:=g }:=by exact rfl)
 (hs:Region.noSelect ops=true:=by kernel_rfl) (hf:Region.free md ops listed i=true:=by kernel_rfl)
 (hw:Region.wanted { dst:=dst,op:=op,type:=ty,pos:=pos,after:=after,guard:=g } (yielded ops a.tmps)=false:=by rfl)
 (hS:S w:=by assumption) (hQ:∀c a w,Q (.panic c) (a.put dst undef) w->Q (.panic c) a w:=by exact λ_ _ _ h=>h)
 (ha:a.put dst undef=a':=by first|(simp only[Act.put,List.setIfInBounds_toArray,List.set_cons_zero,List.set_cons_succ];rfl)|rfl):wpAnyH P md ops Q S (fuel+1) listed a w:=
 wpAnyH_take (nthO_eq hi) hs hf hr hQ (.inr ⟨hw,rfl⟩) hS (by rw[ha];exact h)
def tkE (i:Nat) (h:∀K':Act->À->Prop,Shut (∀a w,S w->(S w->wpAnyH P md ops Q S fuel (listed.setIfInBounds i true) a w)->K' a w)->if Region.wanted { dst:=dst,op:=op,type:=ty,pos:=pos,after:=after,guard:=g } (yielded ops a.tmps)=true then Oper.wp P { dst:=dst,op:=op,type:=ty,pos:=pos,after:=after,guard:=g } a w K' Q else K' (a.put dst undef) w)
 (hi:nthO ops.toList i=some { dst:=dst,op:=op,type:=ty,pos:=pos,after:=after,guard:=g }:=by exact rfl)
 (hr:Region.ready md ops listed=[i]:=by kernel_rfl):wpAnyH P md ops Q S (fuel+1) listed a w:=
 wpAnyH_ready hr Θ (AllReadyH.cons (nthO_eq hi) h AllReadyH.nil)
def tkR {K:Act->À->Prop} (hK:Shut (∀a w,S w->(S w->wpAnyH P md ops Q S fuel (listed.setIfInBounds i true) a w)->K a w)) (hS:S w) (h:S w->wpAnyH P md ops Q S fuel (listed.setIfInBounds i true) a' w) (ha:a=a':=by first|(simp only[Act.put,List.setIfInBounds_toArray,List.set_cons_zero,List.set_cons_succ];rfl)|rfl):K a w:=
 hK _ _ hS (λhw=>by rw[ha];exact h hw)
structure Kp (q:Prop):Prop where
 o:q
def θ {p q:Prop} (k:q) (f:Kp q->p:=by intro k;(first|refine tkQ 0 ?_ (by decide +kernel) (hf:=by decide +kernel)|refine tkN 0 ?_ (by decide +kernel) (hf:=by decide +kernel)|skip);(first|refine tkQ 1 ?_ (by decide +kernel) (hf:=by decide +kernel)|refine tkN 1 ?_ (by decide +kernel) (hf:=by decide +kernel)|skip);(first|refine tkQ 2 ?_ (by decide +kernel) (hf:=by decide +kernel)|refine tkN 2 ?_ (by decide +kernel) (hf:=by decide +kernel)|skip);(first|refine tkQ 3 ?_ (by decide +kernel) (hf:=by decide +kernel)|refine tkN 3 ?_ (by decide +kernel) (hf:=by decide +kernel)|skip);(first|refine tkQ 4 ?_ (by decide +kernel) (hf:=by decide +kernel)|refine tkN 4 ?_ (by decide +kernel) (hf:=by decide +kernel)|skip);(first|refine tkQ 5 ?_ (by decide +kernel) (hf:=by decide +kernel)|refine tkN 5 ?_ (by decide +kernel) (hf:=by decide +kernel)|skip);(first|refine tkQ 6 ?_ (by decide +kernel) (hf:=by decide +kernel)|refine tkN 6 ?_ (by decide +kernel) (hf:=by decide +kernel)|skip);(first|refine tkQ 7 ?_ (by decide +kernel) (hf:=by decide +kernel)|refine tkN 7 ?_ (by decide +kernel) (hf:=by decide +kernel)|skip);(first|refine tkQ 8 ?_ (by decide +kernel) (hf:=by decide +kernel)|refine tkN 8 ?_ (by decide +kernel) (hf:=by decide +kernel)|skip);(first|refine tkQ 9 ?_ (by decide +kernel) (hf:=by decide +kernel)|refine tkN 9 ?_ (by decide +kernel) (hf:=by decide +kernel)|skip);(first|refine tkQ 10 ?_ (by decide +kernel) (hf:=by decide +kernel)|refine tkN 10 ?_ (by decide +kernel) (hf:=by decide +kernel)|skip);(first|refine tkQ 11 ?_ (by decide +kernel) (hf:=by decide +kernel)|refine tkN 11 ?_ (by decide +kernel) (hf:=by decide +kernel)|skip);(first|refine tkQ 12 ?_ (by decide +kernel) (hf:=by decide +kernel)|refine tkN 12 ?_ (by decide +kernel) (hf:=by decide +kernel)|skip);(first|refine tkQ 13 ?_ (by decide +kernel) (hf:=by decide +kernel)|refine tkN 13 ?_ (by decide +kernel) (hf:=by decide +kernel)|skip);(first|refine tkQ 14 ?_ (by decide +kernel) (hf:=by decide +kernel)|refine tkN 14 ?_ (by decide +kernel) (hf:=by decide +kernel)|skip);(first|refine tkQ 15 ?_ (by decide +kernel) (hf:=by decide +kernel)|refine tkN 15 ?_ (by decide +kernel) (hf:=by decide +kernel)|skip);(first|refine tkQ 16 ?_ (by decide +kernel) (hf:=by decide +kernel)|refine tkN 16 ?_ (by decide +kernel) (hf:=by decide +kernel)|skip);(first|refine tkQ 17 ?_ (by decide +kernel) (hf:=by decide +kernel)|refine tkN 17 ?_ (by decide +kernel) (hf:=by decide +kernel)|skip);(first|refine tkQ 18 ?_ (by decide +kernel) (hf:=by decide +kernel)|refine tkN 18 ?_ (by decide +kernel) (hf:=by decide +kernel)|skip);(first|refine tkQ 19 ?_ (by decide +kernel) (hf:=by decide +kernel)|refine tkN 19 ?_ (by decide +kernel) (hf:=by decide +kernel)|skip);(first|refine tkQ 20 ?_ (by decide +kernel) (hf:=by decide +kernel)|refine tkN 20 ?_ (by decide +kernel) (hf:=by decide +kernel)|skip);(first|refine tkQ 21 ?_ (by decide +kernel) (hf:=by decide +kernel)|refine tkN 21 ?_ (by decide +kernel) (hf:=by decide +kernel)|skip);(first|refine tkQ 22 ?_ (by decide +kernel) (hf:=by decide +kernel)|refine tkN 22 ?_ (by decide +kernel) (hf:=by decide +kernel)|skip);(first|refine tkQ 23 ?_ (by decide +kernel) (hf:=by decide +kernel)|refine tkN 23 ?_ (by decide +kernel) (hf:=by decide +kernel)|skip);(first|refine tkQ 24 ?_ (by decide +kernel) (hf:=by decide +kernel)|refine tkN 24 ?_ (by decide +kernel) (hf:=by decide +kernel)|skip);(first|refine tkQ 25 ?_ (by decide +kernel) (hf:=by decide +kernel)|refine tkN 25 ?_ (by decide +kernel) (hf:=by decide +kernel)|skip);(first|refine tkQ 26 ?_ (by decide +kernel) (hf:=by decide +kernel)|refine tkN 26 ?_ (by decide +kernel) (hf:=by decide +kernel)|skip);(first|refine tkQ 27 ?_ (by decide +kernel) (hf:=by decide +kernel)|refine tkN 27 ?_ (by decide +kernel) (hf:=by decide +kernel)|skip);(first|refine tkQ 28 ?_ (by decide +kernel) (hf:=by decide +kernel)|refine tkN 28 ?_ (by decide +kernel) (hf:=by decide +kernel)|skip);(first|refine tkQ 29 ?_ (by decide +kernel) (hf:=by decide +kernel)|refine tkN 29 ?_ (by decide +kernel) (hf:=by decide +kernel)|skip);(first|refine tkQ 30 ?_ (by decide +kernel) (hf:=by decide +kernel)|refine tkN 30 ?_ (by decide +kernel) (hf:=by decide +kernel)|skip);(first|refine tkQ 31 ?_ (by decide +kernel) (hf:=by decide +kernel)|refine tkN 31 ?_ (by decide +kernel) (hf:=by decide +kernel)|skip);(first|refine tkQ 32 ?_ (by decide +kernel) (hf:=by decide +kernel)|refine tkN 32 ?_ (by decide +kernel) (hf:=by decide +kernel)|skip);(first|refine tkQ 33 ?_ (by decide +kernel) (hf:=by decide +kernel)|refine tkN 33 ?_ (by decide +kernel) (hf:=by decide +kernel)|skip);(first|refine tkQ 34 ?_ (by decide +kernel) (hf:=by decide +kernel)|refine tkN 34 ?_ (by decide +kernel) (hf:=by decide +kernel)|skip);(first|refine tkQ 35 ?_ (by decide +kernel) (hf:=by decide +kernel)|refine tkN 35 ?_ (by decide +kernel) (hf:=by decide +kernel)|skip);(first|refine tkQ 36 ?_ (by decide +kernel) (hf:=by decide +kernel)|refine tkN 36 ?_ (by decide +kernel) (hf:=by decide +kernel)|skip);exact k.o):p:=f ⟨k⟩
def tkD (h:Q .normal a w) (hr:Region.ready md ops listed=[]:=by kernel_rfl):wpAnyH P md ops Q S fuel listed a w:=wpAnyH_done hr h _
end
open Go.RowKit
inductive Ty where
 | mk (kind:Int) (name:Ê) (args:List Ty)
structure Fld where
 name:Ê
 type:Ty
structure Ctr where
 name:Ê
 fields:List Fld
structure Dcl where
 name:Ê
 record:Bool
 ctors:List Ctr
structure Eff where
 name:Ê
 params:List Fld
 answer:Ty
inductive Ex where
 | mk (op n m:Int) (s:Ê) (kids:List Ex)
inductive St where
 | mk (op n m:Int) (s t:Ê) (xs:List Ex) (thn els arms:List St)
structure Fn where
 name:Ê
 params:List Fld
 result:Ty
 slots:Int
 body:Ex
structure Vr where
 name:Ê
 type:Ty
 init:Ex
structure Hd where
 msg:Ê
 params:List Fld
 slots:Int
 body:List St
structure Ac where
 name:Ê
 params:List Fld
 slots:Int
 vars:List Vr
 on:List Hd
 policy:Int
 most:Int
structure Pg where
 types:List Dcl
 effects:List Eff
 funs:List Fn
 actors:List Ac
def i64 (n:Int):Prop:=-9223372036854775808<=n/\n<=9223372036854775807
def RowAt (w:À) (P:Nat->Prop) (size n:Nat) (A:Option Addr) (css:Nat->List Value):Prop:=
 0<n->∃g off,A=some ⟨g,off,none⟩/\P g/\∀i,i<n->(css i).length=size/\∀j u,(css i)[j]?=some u->w.cell? ⟨g,off+i*size+j,none⟩=some u
def Sub (P P':Nat->Prop) (w w':À):Prop:=∀b,P b->P' b/\w'.heap[b]?=w.heap[b]?
variable {w':À} {P P':Nat->Prop} {A:Option Addr}
def RowAt.to {w:À} {size n:Nat} {css:Nat->List Value} (h:RowAt w P size n A css) (hb:Sub P P' w w'):RowAt w' P' size n A css:=by
 intro e;obtain⟨g,b,f,c,d⟩:=h e;exact⟨g,b,f,(hb g c).1,λi hi=>⟨(d i hi).1,λj u hu=>(World.cell?_of_block (w:=w) (w':=w') (a:=⟨g,b+i*size+j,none⟩) (hb g c).2).trans ((d i hi).2 j u hu)⟩⟩
inductive TyR (w:À) (P:Nat->Prop):List Value->Ty->Prop where
 | mk (k:Int) (s:Ê) (args:List Ty) (A:Option Addr) (cap:Nat) (css:Nat->List Value) (hi:i64 k) (hs:s.size<=maxLen) (hl:args<=maxLen/\args<=cap) (hr:RowAt w P 3 args A css) (hk:∀i (h:i<args.length),TyR w P (css i) args[i]) :
  TyR w P [.int .i64 k,.string s,.slice A args cap] (.mk k s args)
variable {cs:List Value}
def TyR.to {w:À} {t:Ty} (h:TyR w P cs t) (hb:Sub P P' w w'):TyR w' P' cs t:=by
 induction h with
 | mk k s args A cap css hi hs hl hr hk ih=>exact .mk k s args A cap css hi hs hl (hr.to hb) ih
inductive ExR (w:À) (P:Nat->Prop):List Value->Ex->Prop where
 | mk (op n m:Int) (s:Ê) (kids:List Ex) (A:Option Addr) (cap:Nat) (css:Nat->List Value) (hi:i64 op/\i64 n/\i64 m) (hs:s.size<=maxLen) (hl:kids<=maxLen/\kids<=cap) (hr:RowAt w P 5 kids A css) (hk:∀i (h:i<kids.length),ExR w P (css i) kids[i]) :
  ExR w P [.int .i64 op,.int .i64 n,.int .i64 m,.string s,.slice A kids cap] (.mk op n m s kids)
def ExR.to {w:À} {t:Ex} (h:ExR w P cs t) (hb:Sub P P' w w'):ExR w' P' cs t:=by
 induction h with
 | mk op n m s kids A cap css hi hs hl hr hk ih=>exact .mk op n m s kids A cap css hi hs hl (hr.to hb) ih
inductive StR (w:À) (P:Nat->Prop):List Value->St->Prop where
 | mk (op n m:Int) (s t:Ê) (xs:List Ex) (thn els arms:List St) (A0 A1 A2 A3:Option Addr) (c0 c1 c2 c3:Nat) (cx ct ce ca:Nat->List Value) (hi:i64 op/\i64 n/\i64 m) (hs:s.size<=maxLen) (ht:t.size<=maxLen)
  (l0:xs<=maxLen/\xs<=c0) (l1:thn<=maxLen/\thn<=c1) (l2:els<=maxLen/\els<=c2) (l3:arms<=maxLen/\arms<=c3)
  (hx:RowAt w P 5 xs A0 cx) (hxs:∀i (h:i<xs.length),ExR w P (cx i) xs[i])
  (h1:RowAt w P 9 thn A1 ct) (k1:∀i (h:i<thn.length),StR w P (ct i) thn[i])
  (h2:RowAt w P 9 els A2 ce) (k2:∀i (h:i<els.length),StR w P (ce i) els[i])
  (h3:RowAt w P 9 arms A3 ca) (k3:∀i (h:i<arms.length),StR w P (ca i) arms[i]) :
  StR w P [.int .i64 op,.int .i64 n,.int .i64 m,.string s,.string t,.slice A0 xs c0,.slice A1 thn c1,.slice A2 els c2,.slice A3 arms c3] (.mk op n m s t xs thn els arms)
def StR.to {w:À} {t:St} (h:StR w P cs t) (hb:Sub P P' w w'):StR w' P' cs t:=by
 induction h with
 | mk op n m s t xs thn els arms A0 A1 A2 A3 c0 c1 c2 c3 cx ct ce ca hi hs ht l0 l1 l2 l3 hx hxs h1 k1 h2 k2 h3 k3 i1 i2 i3 =>
  exact .mk op n m s t xs thn els arms A0 A1 A2 A3 c0 c1 c2 c3 cx ct ce ca hi hs ht l0 l1 l2 l3 (hx.to hb) (λi h=>(hxs i h).to hb) (h1.to hb) i1 (h2.to hb) i2 (h3.to hb) i3
def SlR {α:Type} (w:À) (P:Nat->Prop) (size:Nat) (R:List Value->α->Prop) (v:Value) (l:List α):Prop:=
 ∃A cap css,v=.slice A l cap/\(l<=maxLen/\l.length<=cap)/\RowAt w P size l A css/\∀i (h:i<l.length),R (css i) l[i]
variable {α:Type} {v:Value}
def SlR.to' {w:À} {size:Nat} {R R':List Value->α->Prop} {l:List α} (h:SlR w P size R v l) (hb:Sub P P' w w') (hR:∀cs a,R cs a->R' cs a):SlR w' P' size R' v l:=by
 obtain⟨A,cap,b,rfl,c,e,d⟩:=h;exact⟨A,cap,b,rfl,c,e.to hb,λi hi=>hR _ _ (d i hi)⟩
def FldR (w:À) (P:Nat->Prop) (cs:List Value) (f:Fld):Prop:=∃ct,cs=.string f.name::ct/\f.name.size<=maxLen/\TyR w P ct f.type
abbrev FldsR (w:À) (P:Nat->Prop) (v:Value) (l:List Fld):Prop:=SlR w P 4 (FldR w P) v l
def CtrR (w:À) (P:Nat->Prop) (cs:List Value) (c:Ctr):Prop:=∃v,cs=[.string c.name,v]/\c.name.size<=maxLen/\FldsR w P v c.fields
abbrev CtrsR (w:À) (P:Nat->Prop) (v:Value) (l:List Ctr):Prop:=SlR w P 2 (CtrR w P) v l
def DclR (w:À) (P:Nat->Prop) (cs:List Value) (d:Dcl):Prop:=∃v,cs=[.string d.name,.bool d.record,v]/\d.name.size<=maxLen/\CtrsR w P v d.ctors
def EffR (w:À) (P:Nat->Prop) (cs:List Value) (e:Eff):Prop:=∃v ct,cs=.string e.name::v::ct/\e.name.size<=maxLen/\FldsR w P v e.params/\TyR w P ct e.answer
def FnR (w:À) (P:Nat->Prop) (cs:List Value) (f:Fn):Prop:=∃v ct cb,cs=.string f.name::v::(ct++.int .i64 f.slots::cb)/\i64 f.slots/\f.name.size<=maxLen/\FldsR w P v f.params/\TyR w P ct f.result/\ExR w P cb f.body
def VrR (w:À) (P:Nat->Prop) (cs:List Value) (x:Vr):Prop:=∃ct cb,cs=.string x.name::(ct++cb)/\x.name.size<=maxLen/\TyR w P ct x.type/\ExR w P cb x.init
abbrev VrsR (w:À) (P:Nat->Prop) (v:Value) (l:List Vr):Prop:=SlR w P 9 (VrR w P) v l
abbrev StsR (w:À) (P:Nat->Prop) (v:Value) (l:List St):Prop:=SlR w P 9 (StR w P) v l
abbrev ExsR (w:À) (P:Nat->Prop) (v:Value) (l:List Ex):Prop:=SlR w P 5 (ExR w P) v l
abbrev TysR (w:À) (P:Nat->Prop) (v:Value) (l:List Ty):Prop:=SlR w P 3 (TyR w P) v l
def HdR (w:À) (P:Nat->Prop) (cs:List Value) (h:Hd):Prop:=∃v b,cs=[.string h.msg,v,.int .i64 h.slots,b]/\i64 h.slots/\h.msg.size<=maxLen/\FldsR w P v h.params/\StsR w P b h.body
abbrev HdsR (w:À) (P:Nat->Prop) (v:Value) (l:List Hd):Prop:=SlR w P 4 (HdR w P) v l
def AcR (w:À) (P:Nat->Prop) (cs:List Value) (a:Ac):Prop:=∃v x y,cs=[.string a.name,v,.int .i64 a.slots,x,y,.int .i64 a.policy,.int .i64 a.most]/\(i64 a.slots/\i64 a.policy/\i64 a.most)/\a.name.size<=maxLen/\FldsR w P v a.params/\VrsR w P x a.vars/\HdsR w P y a.on
def PgR (w:À) (P:Nat->Prop) (cs:List Value) (p:Pg):Prop:=∃a b c d,cs=[a,b,c,d]/\SlR w P 3 (DclR w P) a p.types/\SlR w P 5 (EffR w P) b p.effects/\SlR w P 11 (FnR w P) c p.funs/\SlR w P 7 (AcR w P) d p.actors
section
variable {w w':À} {P P':Nat->Prop}
def TysR.to {l:List Ty} (h:TysR w P v l) (hb:Sub P P' w w'):TysR w' P' v l:=SlR.to' h hb λ_ _ x=>x.to hb
def ExsR.to {l:List Ex} (h:ExsR w P v l) (hb:Sub P P' w w'):ExsR w' P' v l:=SlR.to' h hb λ_ _ x=>x.to hb
def StsR.to {l:List St} (h:StsR w P v l) (hb:Sub P P' w w'):StsR w' P' v l:=SlR.to' h hb λ_ _ x=>x.to hb
def FldR.to {f:Fld} (h:FldR w P cs f) (hb:Sub P P' w w'):FldR w' P' cs f:=by
 obtain⟨d,c,b,a⟩:=h;exact⟨d,c,b,a.to hb⟩
def FldsR.to {l:List Fld} (h:FldsR w P v l) (hb:Sub P P' w w'):FldsR w' P' v l:=SlR.to' h hb λ_ _ x=>x.to hb
def CtrR.to {f:Ctr} (h:CtrR w P cs f) (hb:Sub P P' w w'):CtrR w' P' cs f:=by
 obtain⟨v,c,b,a⟩:=h;exact⟨v,c,b,FldsR.to a hb⟩
def CtrsR.to {l:List Ctr} (h:CtrsR w P v l) (hb:Sub P P' w w'):CtrsR w' P' v l:=SlR.to' h hb λ_ _ x=>x.to hb
def DclR.to {f:Dcl} (h:DclR w P cs f) (hb:Sub P P' w w'):DclR w' P' cs f:=by
 obtain⟨v,c,b,a⟩:=h;exact⟨v,c,b,CtrsR.to a hb⟩
def EffR.to {f:Eff} (h:EffR w P cs f) (hb:Sub P P' w w'):EffR w' P' cs f:=by
 obtain⟨v,e,d,c,b,a⟩:=h;exact⟨v,e,d,c,FldsR.to b hb,a.to hb⟩
def FnR.to {f:Fn} (h:FnR w P cs f) (hb:Sub P P' w w'):FnR w' P' cs f:=by
 obtain⟨v,i,j,e,g,d,c,b,a⟩:=h;exact⟨v,i,j,e,g,d,FldsR.to c hb,b.to hb,a.to hb⟩
def VrR.to {f:Vr} (h:VrR w P cs f) (hb:Sub P P' w w'):VrR w' P' cs f:=by
 obtain⟨e,g,d,c,b,a⟩:=h;exact⟨e,g,d,c,b.to hb,a.to hb⟩
def VrsR.to {l:List Vr} (h:VrsR w P v l) (hb:Sub P P' w w'):VrsR w' P' v l:=SlR.to' h hb λ_ _ x=>x.to hb
def HdR.to {f:Hd} (h:HdR w P cs f) (hb:Sub P P' w w'):HdR w' P' cs f:=by
 obtain⟨v,b,e,g,d,c,a⟩:=h;exact⟨v,b,e,g,d,FldsR.to c hb,StsR.to a hb⟩
def HdsR.to {l:List Hd} (h:HdsR w P v l) (hb:Sub P P' w w'):HdsR w' P' v l:=SlR.to' h hb λ_ _ x=>x.to hb
def AcR.to {f:Ac} (h:AcR w P cs f) (hb:Sub P P' w w'):AcR w' P' cs f:=by
 obtain⟨v,x,y,e,g,d,c,b,a⟩:=h;exact⟨v,x,y,e,g,d,FldsR.to c hb,VrsR.to b hb,HdsR.to a hb⟩
end
def lo (w:À) (b:Nat):Prop:=b<w
def ae {w:À} (h:Below w w w'):Sub (lo w) (lo w') w w':=λb hb=>⟨ρ hb h.size,h.block b hb⟩
def im (own:Nat->Prop) (w:À) (b:Nat):Prop:=b<w/\¬own b
structure Stp (own:Nat->Prop) (w w':À):Prop where
 os:w'.os=w.os
 tape:w'.tape=w.tape
 output:w'.output=w.output
 size:w.heap.size<=w'
 block:∀k,k<w.heap.size->¬own k->w'.heap[k]?=w.heap[k]?
def Stp.refl (own:Nat->Prop) (w:À):Stp own w w:=⟨rfl,rfl,rfl,υ _,λ_ _ _=>rfl⟩
variable {a:À}
def Stp.trans {own:Nat->Prop} {b c:À} (h:Stp own a b) (k:Stp own b c):Stp own a c:=
 ⟨k.os.trans h.os,k.tape.trans h.tape,k.output.trans h.output,ψ h.size k.size,λi hi ho=>(k.block i (ρ hi h.size) ho).trans (h.block i hi ho)⟩
def Stp.of_below {own:Nat->Prop} {w:À} (h:Below w w w'):Stp own w w':=⟨h.os,h.tape,h.output,h.size,λk hk _=>h.block k hk⟩
def Stp.sub {own:Nat->Prop} {w:À} (h:Stp own w w'):Sub (im own w) (im own w') w w':=λb hb=>⟨⟨ρ hb.1 h.size,hb.2⟩,h.block b hb.1 hb.2⟩
def Stp.cell {own:Nat->Prop} {w:À} (h:Stp own w w') {p:Addr} (hp:p.block<w) (ho:¬own p.block):w'.cell? p=w.cell? p:=World.cell?_of_block (w:=w) (h.block p.block hp ho)
def ap {w:À} {t:Ty} (h:TyR w P cs t):∃k s a A cap,cs=[.int .i64 k,.string s,.slice A a.length cap]/\t=.mk k s a/\i64 k/\s.size<=maxLen/\TysR w P (.slice A a.length cap) a:=by
 cases h with
 | mk k s args A cap css hi hs hl hr hk=>exact⟨k,s,args,A,cap,rfl,rfl,hi,hs,A,cap,css,rfl,hl,hr,hk⟩
def dJ {w:À} {t:Ex} (h:ExR w P cs t):∃op n m s a A cap,cs=[.int .i64 op,.int .i64 n,.int .i64 m,.string s,.slice A a.length cap]/\t=.mk op n m s a/\(i64 op/\i64 n/\i64 m)/\s.size<=maxLen/\ExsR w P (.slice A a.length cap) a:=by
 cases h with
 | mk op n m s args A cap css hi hs hl hr hk=>exact⟨op,n,m,s,args,A,cap,rfl,rfl,hi,hs,A,cap,css,rfl,hl,hr,hk⟩
def SlR.at {w:À} {size:Nat} {R:List Value->α->Prop} {n cap:Nat} {l:List α} (h:SlR w P size R (.slice A n cap) l) (hi:i<l):
 ∃g off cs,A=some ⟨g,off,none⟩/\P g/\R cs l[i]/\cs.length=size/\∀j u,cs[j]?=some u->w.cell? ⟨g,off+i*size+j,none⟩=some u:=by
 obtain⟨q,m,b,e,p,c,d⟩:=h;injection e with e1 e2 e3;subst e1 e2 e3;obtain⟨g,off,k,f,a⟩:=c ω;exact⟨g,off,b i,k,f,d i hi,(a i hi).1,(a i hi).2⟩
def SlR.len {w:À} {size:Nat} {R:List Value->α->Prop} {n cap:Nat} {l:List α} (h:SlR w P size R (.slice A n cap) l):n=l/\l<=maxLen:=by
 obtain⟨g,b,c,e,a,d,f⟩:=h;injection e with e1 e2 e3;exact⟨e2,a.1⟩
def SlR.le9 {w:À} {size:Nat} {R:List Value->α->Prop} {n cap:Nat} {l:List α} (h:SlR w P size R (.slice A n cap) l):l.length<=9223372036854775807:=h.len.2
theorem SlR.cap {w:À} {size:Nat} {R:List Value->α->Prop} {n cap:Nat} {l:List α} (h:SlR w P size R (.slice A n cap) l):l<=cap:=by
 obtain⟨g,b,c,e,a,d,f⟩:=h;injection e with e1 e2 e3;rw[e3];exact a.2
def SlR.form {w:À} {size:Nat} {R:List Value->α->Prop} {l:List α} (h:SlR w P size R v l):∃A cap,v=.slice A l cap:=by
 obtain⟨g,a,b,e,d,c,f⟩:=h;exact⟨_,_,e⟩
def kA {w:À} {t:St} (h:StR w P cs t):∃op n m s u xs a b c A0 c0 A1 c1 A2 c2 A3 c3,cs=[.int .i64 op,.int .i64 n,.int .i64 m,.string s,.string u,.slice A0 xs.length c0,.slice A1 a.length c1,.slice A2 b.length c2,.slice A3 c.length c3]/\t=.mk op n m s u xs a b c/\(i64 op/\i64 n/\i64 m)/\s.size<=maxLen/\u.size<=maxLen/\ExsR w P (.slice A0 xs.length c0) xs/\StsR w P (.slice A1 a.length c1) a/\StsR w P (.slice A2 b.length c2) b/\StsR w P (.slice A3 c.length c3) c:=by
 cases h with
 | mk op n m s t xs thn els arms A0 A1 A2 A3 c0 c1 c2 c3 cx ct ce ca hi hs ht l0 l1 l2 l3 hx hxs h1 k1 h2 k2 h3 k3 =>
  exact⟨op,n,m,s,t,xs,thn,els,arms,A0,c0,A1,c1,A2,c2,A3,c3,rfl,rfl,hi,hs,ht,⟨A0,c0,cx,rfl,l0,hx,hxs⟩,⟨A1,c1,ct,rfl,l1,h1,k1⟩,⟨A2,c2,ce,rfl,l2,h2,k2⟩,⟨A3,c3,ca,rfl,l3,h3,k3⟩⟩
def TyR.of {w:À} {k:Int} {s:Ê} {a:List Ty} (hi:i64 k) (hs:s.size<=maxLen) (h:TysR w P v a):TyR w P [.int .i64 k,.string s,v] (.mk k s a):=by
 obtain⟨A,cap,b,rfl,d,c,e⟩:=h;exact .mk k s a A cap b hi hs d c e
def ExR.of {w:À} {op n m:Int} {s:Ê} {a:List Ex} (hi:i64 op/\i64 n/\i64 m) (hs:s.size<=maxLen) (h:ExsR w P v a):ExR w P [.int .i64 op,.int .i64 n,.int .i64 m,.string s,v] (.mk op n m s a):=by
 obtain⟨A,cap,b,rfl,d,c,e⟩:=h;exact .mk op n m s a A cap b hi hs d c e
def SlR.nil {w:À} {size:Nat} {R:List Value->α->Prop}:SlR w P size R () []:=⟨none,0,λ_=>[],rfl,by simp,λh=>absurd h Θ,λi h=>absurd h Θ⟩
def cS {w:À} {n cap:Nat} {l:List Ty} (h:TysR w P (.slice A n cap) l) (hi:i<l):
 ∃g off k s a B c,A=some ⟨g,off,none⟩/\P g/\l[i]=.mk k s a/\w.cell? ⟨g,off+i*3,none⟩=some (.int .i64 k)/\w.cell? ⟨g,off+i*3+1,none⟩=some (.string s)/\w.cell? ⟨g,off+i*3+2,none⟩=some (.slice B a.length c)/\TyR w P [.int .i64 k,.string s,.slice B a.length c] l[i]:=by
 obtain⟨g,off,p,j,f,d,m,b⟩:=SlR.at h hi;obtain⟨k,s,a,B,c,rfl,e,_⟩:=ap d;exact⟨g,off,k,s,a,B,c,j,f,e,b 0 _ rfl,b 1 _ rfl,b 2 _ rfl,d⟩
def aQ {w:À} {n cap:Nat} {l:List Ex} (h:ExsR w P (.slice A n cap) l) (hi:i<l):
 ∃g off o x m s a B c,A=some ⟨g,off,none⟩/\P g/\l[i]=.mk o x m s a/\w.cell? ⟨g,off+i*5,none⟩=some (.int .i64 o)/\w.cell? ⟨g,off+i*5+1,none⟩=some (.int .i64 x)/\w.cell? ⟨g,off+i*5+2,none⟩=some (.int .i64 m)/\w.cell? ⟨g,off+i*5+3,none⟩=some (.string s)/\w.cell? ⟨g,off+i*5+4,none⟩=some (.slice B a.length c)/\ExR w P [.int .i64 o,.int .i64 x,.int .i64 m,.string s,.slice B a.length c] l[i]:=by
 obtain⟨g,off,p,j,f,d,k,b⟩:=SlR.at h hi;obtain⟨o,x,m,s,a,B,c,rfl,e,_⟩:=dJ d;exact⟨g,off,o,x,m,s,a,B,c,j,f,e,b 0 _ rfl,b 1 _ rfl,b 2 _ rfl,b 3 _ rfl,b 4 _ rfl,d⟩
def dw {w:À} {n cap:Nat} {l:List Fld} (h:FldsR w P (.slice A n cap) l) (hi:i<l):
 ∃g off k s a B c,A=some ⟨g,off,none⟩/\P g/\l[i].type=.mk k s a/\w.cell? ⟨g,off+i*4,none⟩=some (.string l[i].name)/\w.cell? ⟨g,off+i*4+1,none⟩=some (.int .i64 k)/\w.cell? ⟨g,off+i*4+2,none⟩=some (.string s)/\w.cell? ⟨g,off+i*4+3,none⟩=some (.slice B a.length c)/\l[i].name.size<=maxLen/\TyR w P [.int .i64 k,.string s,.slice B a.length c] l[i].type:=by
 obtain⟨g,off,r,m,j,⟨q,rfl,f,d⟩,p,b⟩:=SlR.at h hi;obtain⟨k,s,a,B,c,rfl,e,_⟩:=ap d;exact⟨g,off,k,s,a,B,c,m,j,e,b 0 _ rfl,b 1 _ rfl,b 2 _ rfl,b 3 _ rfl,f,d⟩
def bel {w b:À} (h:Below w w a) (k:Below a a b):Below w w b:=h.trans (k.mono h.size)
def belA {w:À} (h:Below w w a) (o:Obj):Below w w (a.alloc o):=h.alloc h.size o
def belR (w:À):Below w w w:=Below.refl _ _
section
variable {w:À} {o1 o2 o3 o4 o5 o6:Obj}
def ζ1:Below w w (w.alloc o1):=belA (belR _) _
def ζ2:Below w w ((w.alloc o1).alloc o2):=belA ζ1 _
def ζ3:Below w w (((w.alloc o1).alloc o2).alloc o3):=belA ζ2 _
def ζ4:Below w w ((((w.alloc o1).alloc o2).alloc o3).alloc o4):=belA ζ3 _
def ζ5:Below w w (((((w.alloc o1).alloc o2).alloc o3).alloc o4).alloc o5):=belA ζ4 _
def ζ6:Below w w ((((((w.alloc o1).alloc o2).alloc o3).alloc o4).alloc o5).alloc o6):=belA ζ5 _
end
def stpA {own:Nat->Prop} {w:À} (h:Stp own w a) (o:Obj):Stp own w (a.alloc o):=h.trans (Stp.of_below (belA (belR a) o))
def stpB {own:Nat->Prop} {w b:À} (h:Stp own w a) (k:Below a a b):Stp own w b:=h.trans (Stp.of_below k)
def stpG {own:Nat->Prop} {w b:À} {row:Option Nat} (h:Stp own w a) (k:a.grownBy b row) (hr:∀r,row=some r->own r\/w.heap.size<=r):Stp own w b:=
 ⟨k.os.trans h.os,k.tape.trans h.tape,k.output.trans h.output,ψ h.size k.size,λi hi ho=>(k.block i (ρ hi h.size) (λe=>by rcases hr i e.symm with x|x;exact ho x;omega)).trans (h.block i hi ho)⟩
def jB {w:À} {t:Fn} (h:FnR w P cs t):∃(A:Option Addr) (q:Nat) (k:Int) (s:Ê) (a:List Ty) (B:Option Addr) (c:Nat) (o:Int) (x:Int) (m:Int) (r:Ê) (e:List Ex) (D:Option Addr) (d:Nat),cs=[.string t.name,.slice A t.params q,.int .i64 k,.string s,.slice B a c,.int .i64 t.slots,.int .i64 o,.int .i64 x,.int .i64 m,.string r,.slice D e d]/\i64 t.slots/\t.name.size<=maxLen/\FldsR w P (.slice A t.params q) t.params/\TyR w P [.int .i64 k,.string s,.slice B a c] t.result/\ExR w P [.int .i64 o,.int .i64 x,.int .i64 m,.string r,.slice D e d] t.body:=by
 obtain⟨v,p,u,rfl,j,i,g,f,b⟩:=h;obtain⟨A,q,rfl⟩:=g.form;obtain⟨k,s,a,B,c,rfl,n,_⟩:=ap f;obtain⟨o,x,m,r,e,D,d,rfl,l,_⟩:=dJ b;exact⟨A,q,k,s,a,B,c,o,x,m,r,e,D,d,rfl,j,i,g,f,b⟩
variable {A0:Option Addr}
def jd {w:À} {n cap:Nat} {l:List Fn} (h:SlR w P 11 (FnR w P) (.slice A0 n cap) l) (hi:i<l):
 ∃(g off:Nat) (A:Option Addr) (q:Nat) (k:Int) (s:Ê) (a:List Ty) (B:Option Addr) (c:Nat) (o:Int) (x:Int) (m:Int) (r:Ê) (e:List Ex) (D:Option Addr) (d:Nat),A0=some ⟨g,off,none⟩/\P g/\w.cell? ⟨g,off+i*11,none⟩=some (.string l[i].name)/\w.cell? ⟨g,off+i*11+1,none⟩=some (.slice A l[i].params.length q)/\w.cell? ⟨g,off+i*11+2,none⟩=some (k:Vl)/\w.cell? ⟨g,off+i*11+3,none⟩=some (s:Vl)/\w.cell? ⟨g,off+i*11+4,none⟩=some (.slice B a c)/\w.cell? ⟨g,off+i*11+5,none⟩=some (.int .i64 l[i].slots)/\w.cell? ⟨g,off+i*11+6,none⟩=some (o:Vl)/\w.cell? ⟨g,off+i*11+7,none⟩=some (x:Vl)/\w.cell? ⟨g,off+i*11+8,none⟩=some (m:Vl)/\w.cell? ⟨g,off+i*11+9,none⟩=some (r:Vl)/\w.cell? ⟨g,off+i*11+10,none⟩=some (.slice D e d)/\FnR w P [.string l[i].name,.slice A l[i].params.length q,.int .i64 k,.string s,.slice B a c,.int .i64 l[i].slots,.int .i64 o,.int .i64 x,.int .i64 m,.string r,.slice D e d] l[i]/\i64 l[i].slots/\l[i].name.size<=maxLen/\FldsR w P (.slice A l[i].params.length q) l[i].params/\TyR w P [.int .i64 k,.string s,.slice B a c] l[i].result/\ExR w P [.int .i64 o,.int .i64 x,.int .i64 m,.string r,.slice D e d] l[i].body:=by
 obtain⟨g,off,v,t,j,f,u,b⟩:=SlR.at h hi;obtain⟨A,q,k,s,a,B,c,o,x,m,r,e,D,d,rfl,p⟩:=jB f;exact⟨g,off,A,q,k,s,a,B,c,o,x,m,r,e,D,d,t,j,b 0 _ rfl,b 1 _ rfl,b 2 _ rfl,b 3 _ rfl,b 4 _ rfl,b 5 _ rfl,b 6 _ rfl,b 7 _ rfl,b 8 _ rfl,b 9 _ rfl,b 10 _ rfl,f,p⟩
def gG {w:À} {t:Dcl} (h:DclR w P cs t):∃(A:Option Addr) (q:Nat),cs=[.string t.name,.bool t.record,.slice A t.ctors q]/\t.name.size<=maxLen/\CtrsR w P (.slice A t.ctors q) t.ctors:=by
 obtain⟨v,rfl,b,a⟩:=h;obtain⟨A,q,rfl⟩:=a.form;exact⟨A,q,rfl,b,a⟩
def fF {w:À} {n cap:Nat} {l:List Dcl} (h:SlR w P 3 (DclR w P) (.slice A0 n cap) l) (hi:i<l):
 ∃(g off:Nat) (A:Option Addr) (q:Nat),A0=some ⟨g,off,none⟩/\P g/\w.cell? ⟨g,off+i*3,none⟩=some (.string l[i].name)/\w.cell? ⟨g,off+i*3+1,none⟩=some (.bool l[i].record)/\w.cell? ⟨g,off+i*3+2,none⟩=some (.slice A l[i].ctors.length q)/\DclR w P [.string l[i].name,.bool l[i].record,.slice A l[i].ctors.length q] l[i]/\l[i].name.size<=maxLen/\CtrsR w P (.slice A l[i].ctors.length q) l[i].ctors:=by
 obtain⟨g,off,j,e,c,b,f,a⟩:=SlR.at h hi;obtain⟨A,q,rfl,d⟩:=gG b;exact⟨g,off,A,q,e,c,a 0 _ rfl,a 1 _ rfl,a 2 _ rfl,b,d⟩
def jV {w:À} {t:Ctr} (h:CtrR w P cs t):∃(A:Option Addr) (q:Nat),cs=[.string t.name,.slice A t.fields q]/\t.name.size<=maxLen/\FldsR w P (.slice A t.fields q) t.fields:=by
 obtain⟨v,rfl,b,a⟩:=h;obtain⟨A,q,rfl⟩:=a.form;exact⟨A,q,rfl,b,a⟩
def ew {w:À} {n cap:Nat} {l:List Ctr} (h:SlR w P 2 (CtrR w P) (.slice A0 n cap) l) (hi:i<l):
 ∃(g off:Nat) (A:Option Addr) (q:Nat),A0=some ⟨g,off,none⟩/\P g/\w.cell? ⟨g,off+i*2,none⟩=some (.string l[i].name)/\w.cell? ⟨g,off+i*2+1,none⟩=some (.slice A l[i].fields.length q)/\CtrR w P [.string l[i].name,.slice A l[i].fields.length q] l[i]/\l[i].name.size<=maxLen/\FldsR w P (.slice A l[i].fields.length q) l[i].fields:=by
 obtain⟨g,off,j,e,c,a,f,b⟩:=SlR.at h hi;obtain⟨A,q,rfl,d⟩:=jV a;exact⟨g,off,A,q,e,c,b 0 _ rfl,b 1 _ rfl,a,d⟩
def jU {w:À} {t:Eff} (h:EffR w P cs t):∃(A:Option Addr) (q:Nat) (k:Int) (s:Ê) (a:List Ty) (B:Option Addr) (c:Nat),cs=[.string t.name,.slice A t.params q,.int .i64 k,.string s,.slice B a c]/\t.name.size<=maxLen/\FldsR w P (.slice A t.params q) t.params/\TyR w P [.int .i64 k,.string s,.slice B a c] t.answer:=by
 obtain⟨v,g,rfl,e,d,b⟩:=h;obtain⟨A,q,rfl⟩:=d.form;obtain⟨k,s,a,B,c,rfl,f,_⟩:=ap b;exact⟨A,q,k,s,a,B,c,rfl,e,d,b⟩
def jC {w:À} {n cap:Nat} {l:List Eff} (h:SlR w P 5 (EffR w P) (.slice A0 n cap) l) (hi:i<l):
 ∃(g off:Nat) (A:Option Addr) (q:Nat) (k:Int) (s:Ê) (a:List Ty) (B:Option Addr) (c:Nat),A0=some ⟨g,off,none⟩/\P g/\w.cell? ⟨g,off+i*5,none⟩=some (.string l[i].name)/\w.cell? ⟨g,off+i*5+1,none⟩=some (.slice A l[i].params.length q)/\w.cell? ⟨g,off+i*5+2,none⟩=some (k:Vl)/\w.cell? ⟨g,off+i*5+3,none⟩=some (s:Vl)/\w.cell? ⟨g,off+i*5+4,none⟩=some (.slice B a c)/\EffR w P [.string l[i].name,.slice A l[i].params.length q,.int .i64 k,.string s,.slice B a c] l[i]/\l[i].name.size<=maxLen/\FldsR w P (.slice A l[i].params.length q) l[i].params/\TyR w P [.int .i64 k,.string s,.slice B a c] l[i].answer:=by
 obtain⟨g,off,p,j,e,d,m,b⟩:=SlR.at h hi;obtain⟨A,q,k,s,a,B,c,rfl,f⟩:=jU d;exact⟨g,off,A,q,k,s,a,B,c,j,e,b 0 _ rfl,b 1 _ rfl,b 2 _ rfl,b 3 _ rfl,b 4 _ rfl,d,f⟩
def mu {w:À} {t:Vr} (h:VrR w P cs t):∃(k:Int) (s:Ê) (a:List Ty) (B:Option Addr) (c:Nat) (o:Int) (x:Int) (m:Int) (r:Ê) (e:List Ex) (D:Option Addr) (d:Nat),cs=[.string t.name,.int .i64 k,.string s,.slice B a c,.int .i64 o,.int .i64 x,.int .i64 m,.string r,.slice D e d]/\t.name.size<=maxLen/\TyR w P [.int .i64 k,.string s,.slice B a c] t.type/\ExR w P [.int .i64 o,.int .i64 x,.int .i64 m,.string r,.slice D e d] t.init:=by
 obtain⟨l,n,rfl,g,f,b⟩:=h;obtain⟨k,s,a,B,c,rfl,j,_⟩:=ap f;obtain⟨o,x,m,r,e,D,d,rfl,i,_⟩:=dJ b;exact⟨k,s,a,B,c,o,x,m,r,e,D,d,rfl,g,f,b⟩
def ku {w:À} {n cap:Nat} {l:List Vr} (h:SlR w P 9 (VrR w P) (.slice A0 n cap) l) (hi:i<l):
 ∃(g off:Nat) (k:Int) (s:Ê) (a:List Ty) (B:Option Addr) (c:Nat) (o:Int) (x:Int) (m:Int) (r:Ê) (e:List Ex) (D:Option Addr) (d:Nat),A0=some ⟨g,off,none⟩/\P g/\w.cell? ⟨g,off+i*9,none⟩=some (.string l[i].name)/\w.cell? ⟨g,off+i*9+1,none⟩=some (k:Vl)/\w.cell? ⟨g,off+i*9+2,none⟩=some (s:Vl)/\w.cell? ⟨g,off+i*9+3,none⟩=some (.slice B a c)/\w.cell? ⟨g,off+i*9+4,none⟩=some (o:Vl)/\w.cell? ⟨g,off+i*9+5,none⟩=some (x:Vl)/\w.cell? ⟨g,off+i*9+6,none⟩=some (m:Vl)/\w.cell? ⟨g,off+i*9+7,none⟩=some (r:Vl)/\w.cell? ⟨g,off+i*9+8,none⟩=some (.slice D e d)/\VrR w P [.string l[i].name,.int .i64 k,.string s,.slice B a c,.int .i64 o,.int .i64 x,.int .i64 m,.string r,.slice D e d] l[i]/\l[i].name.size<=maxLen/\TyR w P [.int .i64 k,.string s,.slice B a c] l[i].type/\ExR w P [.int .i64 o,.int .i64 x,.int .i64 m,.string r,.slice D e d] l[i].init:=by
 obtain⟨g,off,u,q,j,f,t,b⟩:=SlR.at h hi;obtain⟨k,s,a,B,c,o,x,m,r,e,D,d,rfl,p⟩:=mu f;exact⟨g,off,k,s,a,B,c,o,x,m,r,e,D,d,q,j,b 0 _ rfl,b 1 _ rfl,b 2 _ rfl,b 3 _ rfl,b 4 _ rfl,b 5 _ rfl,b 6 _ rfl,b 7 _ rfl,b 8 _ rfl,f,p⟩
def mB {w:À} {t:Hd} (h:HdR w P cs t):∃(A:Option Addr) (q:Nat) (D:Option Addr) (d:Nat),cs=[.string t.msg,.slice A t.params q,.int .i64 t.slots,.slice D t.body d]/\i64 t.slots/\t.msg.size<=maxLen/\FldsR w P (.slice A t.params q) t.params/\StsR w P (.slice D t.body d) t.body:=by
 obtain⟨v,b,rfl,f,e,c,a⟩:=h;obtain⟨A,q,rfl⟩:=c.form;obtain⟨D,d,rfl⟩:=a.form;exact⟨A,q,D,d,rfl,f,e,c,a⟩
def lG {w:À} {n cap:Nat} {l:List Hd} (h:SlR w P 4 (HdR w P) (.slice A0 n cap) l) (hi:i<l):
 ∃(g off:Nat) (A:Option Addr) (q:Nat) (D:Option Addr) (d:Nat),A0=some ⟨g,off,none⟩/\P g/\w.cell? ⟨g,off+i*4,none⟩=some (.string l[i].msg)/\w.cell? ⟨g,off+i*4+1,none⟩=some (.slice A l[i].params.length q)/\w.cell? ⟨g,off+i*4+2,none⟩=some (.int .i64 l[i].slots)/\w.cell? ⟨g,off+i*4+3,none⟩=some (.slice D l[i].body.length d)/\HdR w P [.string l[i].msg,.slice A l[i].params.length q,.int .i64 l[i].slots,.slice D l[i].body.length d] l[i]/\i64 l[i].slots/\l[i].msg.size<=maxLen/\FldsR w P (.slice A l[i].params.length q) l[i].params/\StsR w P (.slice D l[i].body.length d) l[i].body:=by
 obtain⟨g,off,k,f,c,b,j,a⟩:=SlR.at h hi;obtain⟨A,q,D,d,rfl,e⟩:=mB b;exact⟨g,off,A,q,D,d,f,c,a 0 _ rfl,a 1 _ rfl,a 2 _ rfl,a 3 _ rfl,b,e⟩
def jD {w:À} {t:Ac} (h:AcR w P cs t):∃(A:Option Addr) (q:Nat) (B:Option Addr) (c:Nat) (D:Option Addr) (d:Nat),cs=[.string t.name,.slice A t.params q,.int .i64 t.slots,.slice B t.vars c,.slice D t.on d,.int .i64 t.policy,.int .i64 t.most]/\(i64 t.slots/\i64 t.policy/\i64 t.most)/\t.name.size<=maxLen/\FldsR w P (.slice A t.params q) t.params/\VrsR w P (.slice B t.vars c) t.vars/\HdsR w P (.slice D t.on d) t.on:=by
 obtain⟨v,x,y,rfl,g,f,e,b,a⟩:=h;obtain⟨A,q,rfl⟩:=e.form;obtain⟨B,c,rfl⟩:=b.form;obtain⟨D,d,rfl⟩:=a.form;exact⟨A,q,B,c,D,d,rfl,g,f,e,b,a⟩
def fR {w:À} {n cap:Nat} {l:List Ac} (h:SlR w P 7 (AcR w P) (.slice A0 n cap) l) (hi:i<l):
 ∃(g off:Nat) (A:Option Addr) (q:Nat) (B:Option Addr) (c:Nat) (D:Option Addr) (d:Nat),A0=some ⟨g,off,none⟩/\P g/\w.cell? ⟨g,off+i*7,none⟩=some (.string l[i].name)/\w.cell? ⟨g,off+i*7+1,none⟩=some (.slice A l[i].params.length q)/\w.cell? ⟨g,off+i*7+2,none⟩=some (.int .i64 l[i].slots)/\w.cell? ⟨g,off+i*7+3,none⟩=some (.slice B l[i].vars.length c)/\w.cell? ⟨g,off+i*7+4,none⟩=some (.slice D l[i].on.length d)/\w.cell? ⟨g,off+i*7+5,none⟩=some (.int .i64 l[i].policy)/\w.cell? ⟨g,off+i*7+6,none⟩=some (.int .i64 l[i].most)/\AcR w P [.string l[i].name,.slice A l[i].params.length q,.int .i64 l[i].slots,.slice B l[i].vars.length c,.slice D l[i].on.length d,.int .i64 l[i].policy,.int .i64 l[i].most] l[i]/\(i64 l[i].slots/\i64 l[i].policy/\i64 l[i].most)/\l[i].name.size<=maxLen/\FldsR w P (.slice A l[i].params.length q) l[i].params/\VrsR w P (.slice B l[i].vars.length c) l[i].vars/\HdsR w P (.slice D l[i].on.length d) l[i].on:=by
 obtain⟨g,off,m,j,e,b,k,a⟩:=SlR.at h hi;obtain⟨A,q,B,c,D,d,rfl,f⟩:=jD b;exact⟨g,off,A,q,B,c,D,d,j,e,a 0 _ rfl,a 1 _ rfl,a 2 _ rfl,a 3 _ rfl,a 4 _ rfl,a 5 _ rfl,a 6 _ rfl,b,f⟩
open Go.Maps Go.WideMaps Go.ChangeMaps
def heldV (v:Value):Option (DataW Value×List MemPlace):=some (.held v,[])
def MapIs {α:Type} (P:Program) (K:TypeId) (kl:α->Lit) (w:À) (b n:Nat) (f:α->Option Value):Prop:=
 ∃D:DataW Value,w.ownsMap P K heldV b n D/\Maps.size D=n/\∀s:α,Maps.has D (kl s)=(f s).isSome/\∀v,f s=some v->∀z,D.atKey (kl s) z=.held v
variable {P:Program}
def kF {k:TypeId} {R:Value->Option (DataW Value×List MemPlace)} {w:À} {b n:Nat} {D:DataW Value} (h:w.ownsMap P k R b n D):w.ownsMap P k R b (Maps.size D) D:=by
 obtain⟨d,a,c,F,e,rfl⟩:=h;exact⟨d,a,c,F,by simp[Maps.size,length_sorted],rfl⟩
structure KeyOf {α:Type} (P:Program) (K:TypeId) (kl:α->Lit):Prop where
 keyed:Keyed P K
 apart:∀a b,kl a=kl b->a=b
section
variable {α:Type} {P:Program} {K:TypeId} {kl:α->Lit} {w w':À} {b n:Nat} {f:α->Option Value}
def MapIs.made (P:Program) (K:TypeId) (kl:α->Lit) (w:À):MapIs P K kl (w.alloc (.map #[] 0)) w 0 (λ_=>none):=
 ⟨.map [],World.ownsMap_made w P K heldV,rfl,λs=>⟨rfl,λv h=>by cases h⟩⟩
def MapIs.lt (h:MapIs P K kl w b n f):b<w:=by obtain⟨D,h,_⟩:=h;exact h.lt
def MapIs.same (h:MapIs P K kl w b n f) (hb:w'.heap[b]?=w.heap[b]?):MapIs P K kl w' b n f:=by
 obtain⟨D,⟨e,a,d,c⟩,r⟩:=h;exact⟨D,⟨e,a,hb.trans d,c⟩,r⟩
def MapIs.to {Q Q':Nat->Prop} (h:MapIs P K kl w b n f) (hb:Sub Q Q' w w') (hB:Q b):MapIs P K kl w' b n f:=h.same (hb b hB).2
def MapIs.below {B:Nat} (h:MapIs P K kl w b n f) (hb:Below B w w') (hB:b<B):MapIs P K kl w' b n f:=h.same (hb.block b hB)
def MapIs.alloc (h:MapIs P K kl w b n f) (o:Obj):MapIs P K kl (w.alloc o) b n f:=by
 obtain⟨D,h,r⟩:=h;exact⟨D,h.alloc o,r⟩
def MapIs.setCell (h:MapIs P K kl w b n f) {a:Addr} (ha:b≠a.block) (u:Value):MapIs P K kl (w.setCell a u) b n f:=by
 obtain⟨D,h,r⟩:=h;exact⟨D,h.setCell ha u,r⟩
def MapIs.congr {g:α->Option Value} (h:MapIs P K kl w b n f) (e:∀s,f s=g s):MapIs P K kl w b n g:=by
 obtain rfl:f=g:=funext e;exact h
section
variable {t:TypeId} {key:Value}
def MapIs.look (h:MapIs P K kl w b n f) (hK:KeyOf P K kl) {e:TypeId} (ht:P.underlying t=some (.map K e)) {z:Value} (hz:(zeroValue e).run P w=.ok z w) {s:α} (hs:keyOf P K key=some (kl s)):
 (Instr.lookup t (.map (some b)) key false).run P w=.ok ((f s).getD z) w:=by
 obtain⟨D,h,_,i⟩:=h;obtain⟨v,k,d,c⟩:=h.lookup hK.keyed ht hz (zd:=.held z) (zp:=[]) rfl hs;rw[d];obtain⟨g,j⟩:=i s
 have a:(DataW.held v:DataW Value)=D.atKey (kl s) (.held z):=by
  unfold heldV at c;injection c with c;exact congrArg Prod.fst c
 cases hc:f s with
 | none =>
  rw[hc] at g;rw[atKey_of_not_has g] at a;injection a with a;rw[a];rfl
 | some u =>
  rw[j u hc] at a;injection a with a;rw[a];rfl
def MapIs.lookOk (h:MapIs P K kl w b n f) (hK:KeyOf P K kl) {e:TypeId} (ht:P.underlying t=some (.map K e)) {z:Value} (hz:(zeroValue e).run P w=.ok z w) {s:α} (hs:keyOf P K key=some (kl s)):
 (Instr.lookup t (.map (some b)) key true).run P w=.ok (.tuple #[(f s).getD z,.bool (f s).isSome]) w:=by
 obtain⟨D,h,_,i⟩:=h;obtain⟨v,k,d,c⟩:=h.look_ok hK.keyed ht hz (zd:=.held z) (zp:=[]) rfl hs;obtain⟨g,j⟩:=i s;rw[d,g]
 have a:(DataW.held v:DataW Value)=D.atKey (kl s) (.held z):=by
  unfold heldV at c;injection c with c;exact congrArg Prod.fst c
 cases hc:f s with
 | none =>
  rw[hc] at g;rw[atKey_of_not_has g] at a;injection a with a;rw[a];rfl
 | some u =>
  rw[j u hc] at a;injection a with a;rw[a];rfl
def upd [DecidableEq α] (f:α->Option Value) (s:α) (v:Option Value):α->Option Value:=λt=>if t=s then v else f t
def MapIs.put [DecidableEq α] (h:MapIs P K kl w b n f) (hK:KeyOf P K kl) {e:TypeId} (ht:P.underlying t=some (.map K e)) (hn:n<maxLen) {s:α} (hs:keyOf P K key=some (kl s)) (v:Value):
 ∃w',(Instr.mapUpdate t (.map (some b)) key v).run P w=.ok () w'/\MapIs P K kl w' b (if (f s).isSome then n else n+1) (upd f s (some v))/\w.grownBy w' (some b):=by
 obtain⟨D,h,l,k⟩:=h;obtain⟨w',j,p,m⟩:=h.update hK.keyed ht hn hs (val:=v) (d:=.held v) (ps:=[]) rfl
 have a:Maps.size (D.put (kl s) (.held v))=if (f s).isSome then n else n+1:=by
  rw[size_put (h.tidy hK.keyed),(k s).1,l]
 refine⟨w',j,⟨_,?_,a,λx=>?_⟩,m⟩
 ·rw[<-a];exact kF p
 have g:=hK.keyed.key hs;unfold upd;by_cases i:x=s
 ·subst i;rw[if_pos rfl];exact⟨has_put_same h.isMap g _,λu hu z=>by injection hu with hu;subst hu;exact atKey_put_same h.isMap g _ _⟩
 rw[if_neg i];have c:(kl x)≠kl s:=λe=>i (hK.apart _ _ e);exact⟨(has_put_other c _).trans (k x).1,λu hu z=>(atKey_put_other c _ _).trans ((k x).2 u hu z)⟩
def MapIs.drop [DecidableEq α] (h:MapIs P K kl w b n f) (hK:KeyOf P K kl) {e:TypeId} (ht:P.underlying t=some (.map K e)) {s:α} (hs:keyOf P K key=some (kl s)) (ty:TypeId):
 ∃w' n',(Builtin.delete_ #[t,K] ty #[.map (some b),key]).run P w=.ok (.tuple #[]) w'/\n'+(if (f s).isSome then 1 else 0)=n/\MapIs P K kl w' b n' (upd f s none)/\w.grownBy w' (some b):=by
 obtain⟨D,h,i,g⟩:=h;obtain⟨w',d,l,j⟩:=h.drop hK.keyed ht hs ty;refine⟨w',_,d,?_,⟨_,kF l,rfl,λx=>?_⟩,j.grown⟩
 ·have:=size_del (h.tidy hK.keyed) (k:=kl s);rw[(g s).1,i] at this;exact this
 unfold upd;by_cases c:x=s
 ·subst c;rw[if_pos rfl];exact⟨has_del_same,λu hu=>by cases hu⟩
 rw[if_neg c];have a:(kl x)≠kl s:=λe=>c (hK.apart _ _ e);exact⟨(has_del_other a).trans (g x).1,λu hu z=>(atKey_del_other a _).trans ((g x).2 u hu z)⟩
def MapIs.len (h:MapIs P K kl w b n f) {e:TypeId} (ht:P.underlying t=some (.map K e)) (ty:TypeId):(Builtin.len_ #[t] ty #[.map (some b)]).run P w=.ok (.int .i64 (n:Int)) w:=by
 obtain⟨D,h,a,_⟩:=h;rw[h.len ht ty,a]
end
end
variable {K:TypeId}
def fL (hK:P.underlying K=some .string):KeyOf P K Lit.string:=⟨string_keyed hK,λ_ _ e=>by injection e⟩
def bh (hK:P.underlying K=some (.int .i64)):KeyOf P K (Lit.int .i64):=⟨int_keyed hK,λ_ _ e=>by injection e⟩
def aw (hK:P.underlying K=some (.int .i64)) {n:Int} (h:i64 n):keyOf P K (.int .i64 n)=some (.int .i64 n):=
 keyOf_int_mk hK (by unfold i64 at h;simp only[Lit.wf,τ,decide_eq_true_eq];exact⟨h.1,h.2⟩)
section
variable {α:Type} [DecidableEq α] {P:Program} {K:TypeId} {kl:α->Lit} (w:À) {ops:Array Oper} {rest:List Oper} {o:Oper} {a:Act} {Q:Exit->Act->À->Prop}
def ak (hg:o.guard=none) (m x v:Operand) (t:TypeId) (hop:o.op=Op.mapUpdate t m x v\/o.op=Op.insert t m x v)
 (e:TypeId) (hK:KeyOf P K kl) (ht:P.underlying t=some (.map K e)) (b n:Nat) (f:α->Option Value)
 (hm:a.eval m=.map (some b)) (his:MapIs P K kl w b n f) (hn:n<maxLen) (s:α) (key val:Value) (hx:a.eval x=key) (hv:a.eval v=val) (hs:keyOf P K key=some (kl s))
 (hk:∀w',MapIs P K kl w' b (if (f s).isSome then n else n+1) (upd f s (some val))->w.grownBy w' (some b)->wpList P ops Q rest (a.put o.dst undef) w') :
 wpList P ops Q (o::rest) a w:=by
 refine wpList_plain hg λK' hK'=>?_;obtain⟨w',c,g,d⟩:=his.put hK ht hn hs val;unfold Oper.wp;rcases hop with hop|hop
 all_goals
  simp[execOp,hop,hm,hx,hv,c,Result.andThen];exact hK' _ _ (hk w' g d)
def jL (hg:o.guard=none) (m x:Operand) (t:TypeId) (hop:o.op=Op.call { callee:=Callee.builtin Builtin.delete,args:=#[m,x],argTypes:=#[t,K] })
 (e:TypeId) (hK:KeyOf P K kl) (ht:P.underlying t=some (.map K e)) (b n:Nat) (f:α->Option Value)
 (hm:a.eval m=.map (some b)) (his:MapIs P K kl w b n f) (s:α) (key:Value) (hx:a.eval x=key) (hs:keyOf P K key=some (kl s))
 (hk:∀w' n',n'+(if (f s).isSome then 1 else 0)=n->MapIs P K kl w' b n' (upd f s none)->w.grownBy w' (some b)->wpList P ops Q rest (a.put o.dst (.tuple #[])) w') :
 wpList P ops Q (o::rest) a w:=by
 refine wpList_plain hg λK' hK'=>?_;obtain⟨w',n',c,h,g,d⟩:=his.drop hK ht hs o.type;unfold Oper.wp;simp[execOp,hop,resolve,invoke,builtin,hm,hx,c,Result.andThen];exact hK' _ _ (hk w' n' h g d)
end
set_option maxRecDepth 100000
set_option maxHeartbeats 2000000
def em (c:UInt8):Bool:=(decide (97<=c.toNat)&&decide (c.toNat<=122))||(decide (65<=c.toNat)&&decide (c.toNat<=90))||(decide (48<=c.toNat)&&decide (c.toNat<=57))||(c.toNat==95)
def fo (l:List UInt8) (a b:Nat):Bool:=
 match l with
 | []=>false
 | c::_=>decide (a<=c.toNat)&&decide (c.toNat<=b)&&l.all em
def iJ (f:α->Bool) (l:List α) (k:Nat) (h:k<l) (hf:f l[k]=false):l.all f=false:=by
 rw[List.all_eq_false];exact⟨l[k],ν h,by simp[hf]⟩
def ik (f:α->Bool) (l:List α) (h:∀k (h:k<l.length),f l[k]=true):l.all f=true:=by
 rw[List.all_eq_true];intro x a;obtain⟨i,b,rfl⟩:=List.getElem_of_mem a;exact h i b
def ej {s:Ê} (h:0<s.size):∃t,s.data.toList=s[0]::t:=by
 have e:0<s.data.toList.length:=by simpa using h
 match hs:s.data.toList with
 | []=>rw[hs] at e;simp at e
 | c::t =>
  refine⟨t,?_⟩;have:s[0]=s.data.toList[0]'e:=rfl;rw[this];simp[hs]
variable {a:Nat}
def jk {s:Ê} {b:Nat} (h:0<s.size) (hb:¬(a<=s[0].toNat/\s[0].toNat<=b)):fo s.data.toList a b=false:=by
 obtain⟨t,e⟩:=ej h;rw[e];unfold fo;simp only[Bool.and_eq_false_iff,decide_eq_false_iff_not];left;omega
def sq {s:Ê} {b k:Nat} (h:k<s.size) (hb:em s[k]=false):fo s.data.toList a b=false:=by
 obtain⟨t,e⟩:=ej (s:=s) ω;have:s.data.toList.all em=false:=iJ em _ k (by simpa using h) hb;unfold fo;rw[this];rw[e];simp
def pQ {s:Ê} {b:Nat} (h:0<s.size) (h1:a<=s[0].toNat) (h2:s[0].toNat<=b) (hb:∀k (h:k<s.size),em s[k]=true):fo s.data.toList a b=true:=by
 obtain⟨t,e⟩:=ej h;have:s.data.toList.all em=true:=ik em _ λk hk=>hb k (by simpa using hk);unfold fo;rw[this,e];simp[h1,h2]
def tV (s:Ê) (a b:Nat) (h:0<s.size) (hm:s.size<=9223372036854775807) (w:À) (hlo:a<=s[0].toNat) (hhi:s[0].toNat<=b) :
 Calls prog 135 #[s,.int .u8 a,.int .u8 b] w λe w'=>e=.returned (.bool (fo s.data.toList a b))/\w=w':=by
 have G:decide (s[0].toNat<a)=false:=decide_eq_false ω;have F:decide (b<s[0].toNat)=false:=decide_eq_false ω;have q:¬s.toList=[]:=by rw[ByteArray.toList_eq];obtain⟨t,e⟩:=ej h;rw[e];simp
 have N:(s.toList==[])=false:=by simpa using q
 obtain⟨u,v,H⟩:=zd3 hlo hhi h;go_in;go_upto_region 4 with fail;go_loopw [25] (λi wr=>∃k:Nat,k<=s.size/\i=.int .i64 k/\Hid (∀j (h:j<s.size),j<k->em s[j]=true)/\wr=w) (λi _=>s.size-(intOf i).toNat)
 case atStart=>exact⟨0,ω,rfl,λj _ hj=>ω,rfl⟩
 case round =>
  obtain⟨k,L,rfl,d,rfl⟩:=hrel;by_cases hlt:k<s.size
  ·have n:decide ((k:Int)<s.size)=true:=decide_eq_true ω
   have p:Hid (em s[k]=true->∀j (h:j<s.size),j<k+1->em s[j]=true):=λhx j h hj=>by
    by_cases e:j=k
    ·subst e;exact hx
    exact d j h ω
   have r:Hid (em s[k]=false->fo s.data.toList a b=false):=λhx=>sq hlt hx;have f:em s[k]=((decide (97<=s[k].toNat)&&decide (s[k].toNat<=122))||(decide (65<=s[k].toNat)&&decide (s[k].toNat<=90))||(decide (48<=s[k].toNat)&&decide (s[k].toNat<=57))||(s[k].toNat==95)):=rfl;have g:=η f;have c:(s[k].toNat<48)\/(48<=s[k].toNat/\s[k].toNat<=57)\/(58<=s[k].toNat/\s[k].toNat<=64)\/(65<=s[k].toNat/\s[k].toNat<=90)\/(91<=s[k].toNat/\s[k].toNat<=96/\s[k].toNat≠95)\/(s[k].toNat=95)\/(97<=s[k].toNat/\s[k].toNat<=122)\/(123<=s[k].toNat):=ω;rcases c with c|c|c|c|c|c|c|c
   all_goals
    first|(have E:((s[k].toNat:Int)==95)=true:=by simp;omega)|(have E:((s[k].toNat:Int)==95)=false:=by simp;omega)
    first|(have D:decide ((97:Int)<=s[k].toNat)=true:=decide_eq_true ω)|(have D:decide ((97:Int)<=s[k].toNat)=false:=decide_eq_false ω)
    first|(have B:decide ((s[k].toNat:Int)<=122)=true:=decide_eq_true ω)|(have B:decide ((s[k].toNat:Int)<=122)=false:=decide_eq_false ω)
    first|(have A:decide ((65:Int)<=s[k].toNat)=true:=decide_eq_true ω)|(have A:decide ((65:Int)<=s[k].toNat)=false:=decide_eq_false ω)
    first|(have z:decide ((s[k].toNat:Int)<=90)=true:=decide_eq_true ω)|(have z:decide ((s[k].toNat:Int)<=90)=false:=decide_eq_false ω)
    first|(have y:decide ((48:Int)<=s[k].toNat)=true:=decide_eq_true ω)|(have y:decide ((48:Int)<=s[k].toNat)=false:=decide_eq_false ω)
    first|(have x:decide ((s[k].toNat:Int)<=57)=true:=decide_eq_true ω)|(have x:decide ((s[k].toNat:Int)<=57)=false:=decide_eq_false ω)
    first
    | (have m:Hid (em s[k]=true):=by
        show em s[k]=true;rw[g.o];simp;omega
       go_wp2_with fail;go_roundw
       case rel=>exact⟨k+1,ω,by go_num,p m,trivial⟩
       case measure=>simp[intOf];omega)
    | (have m:Hid (em s[k]=false):=by
        show em s[k]=false;rw[g.o];simp;omega
       go_wp2;go_ret;exact⟨by rw[r.o m.o];rfl,rfl⟩)
  obtain rfl:k=s.size:=ω;have l:=η (pQ H u v λj h=>d j h h);go_wp2;go_ret;exact⟨by rw[l.o];rfl,rfl⟩
def oH (s:Ê) (a b:Nat) (w:À) (hm:s.size<=maxLen) :
 Calls prog 135 #[s,.int .u8 a,.int .u8 b] w λe w'=>e=.returned (.bool (fo s.data.toList a b))/\w=w':=by
 unfold maxLen at hm;by_cases h:0<s.size
 ·by_cases k:a<=s[0].toNat
  ·by_cases j:s[0].toNat<=b
   ·exact tV s a b h hm w k j
   have d:=η (jk (a:=a) (b:=b) h (λx=>j x.2));have g:decide (s[0].toNat<a)=false:=decide_eq_false ω;have n:decide (b<s[0].toNat)=true:=decide_eq_true ω;have c:¬s.toList=[]:=by rw[ByteArray.toList_eq];obtain⟨t,e⟩:=ej h;rw[e];simp
   have m:(s.toList==[])=false:=by simpa using c
   go_in;go_wp2;go_ret;exact⟨by rw[d.o];rfl,rfl⟩
  have d:=η (jk (a:=a) (b:=b) h (λx=>k x.1));have g:decide (s[0].toNat<a)=true:=decide_eq_true ω;have c:¬s.toList=[]:=by rw[ByteArray.toList_eq];obtain⟨t,e⟩:=ej h;rw[e];simp
  have m:(s.toList==[])=false:=by simpa using c
  go_in;go_wp2;go_ret;exact⟨by rw[d.o];rfl,rfl⟩
 have f:s.data.toList=[]:=by
  have:s.data.toList.length=0:=by have:s.data.size=0:=by (have:s.size=s.data.size:=rfl);omega
                                  simpa using this
  exact List.length_eq_zero_iff.1 this
 have d:Hid (fo s.data.toList a b=false):=by show fo _ _ _=_;rw[f];rfl
 have c:s.toList=[]:=by rw[ByteArray.toList_eq];exact f
 go_in;go_wp2;go_ret;exact⟨by rw[d.o];rfl,rfl⟩
mutual
def dB:Ty->Bool
 | .mk k _ a=>!(k==8)&&rB a
def rB:List Ty->Bool
 | []=>true
 | x::xs=>dB x&&rB xs
end
def tw (l:List Ty):rB l=l.all dB:=by
 induction l with
 | nil=>rfl
 | cons x l ih=>rw[rB,List.all_cons,ih]
def az (i n:Int):Bool:=decide (0<=i)&&decide (i<n)
def gg (s n:Int):Bool:=decide (n<=s)&&decide (s<=32768)
def ay (i n:Int) (w:À):Calls prog 162 #[i,n] w λe w'=>e=.returned (.bool (az i n))/\w=w':=by
 by_cases b:0<=i<;>by_cases a:i<n
 all_goals
  have c:Hid (az i n=(decide (0<=i)&&decide (i<n))):=rfl;go_in;go_wp2;go_ret;exact⟨by rw[c.o];simp[b,a],rfl⟩
def jT (i n:Int) (w:À):Calls prog 136 #[i,n] w λe w'=>e=.returned (.bool (gg i n))/\w=w':=by
 by_cases b:n<=i<;>by_cases a:i<=32768
 all_goals
  have c:Hid (gg i n=(decide (n<=i)&&decide (i<=32768))):=rfl;go_in;go_wp2;go_ret;exact⟨by rw[c.o];simp[b,a],rfl⟩
def aU (k:Int) (w:À):Calls prog 176 #[k] w λe w'=>e=.returned (.agg #[k,"",()])/\Below w w w':=by
 go_in;go_wp2;exact bodyPost_ret (v:=.agg #[k,"",()]) (by simp[results,results176,go_sem]) rfl ⟨rfl,(Below.refl _ _).alloc (υ _) _⟩
def stor_any (n:Nat):∀(cs:List Value) (t:Ty) (w:À),SizeOf.sizeOf t<=n->TyR w (lo w) cs t->Calls prog 139 #[cs.toArray] w λe w'=>e=.returned (.bool (dB t))/\Below w w w':=by
 induction n with
 | zero=>intro cs t w d;cases t;simp at d
 | succ n ih =>
  intro cs t w d c;obtain⟨k,s,a,A,cap,rfl,rfl,_,U,v⟩:=ap c;have L:=v.le9;have z:Hid (∀(i:Nat) (h:i<a.length) (cs:List Value) (w:À),TyR w (lo w) cs a[i]->Calls prog 139 #[cs.toArray] w λe w'=>e=.returned (.bool (dB a[i]))/\Below w w w'):=λi h cs w c=>ih cs a[i] w (by have:=List.sizeOf_lt_of_mem (ν h);simp at d;omega) c;have I:=η v;have x:Hid (dB (.mk k s a)=(!(k==8)&&a.all dB)):=by show dB _=_;rw[dB,tw]
  by_cases f:k=8
  ·have r:(k==8)=true:=by simpa using f
   go_in;go_wp2;go_ret;exact⟨by rw[x.o,r];rfl,ζ1⟩
  have r:(k==8)=false:=by simpa using f
  go_in;go_wp2_with fail;go_loopw [11] (λi wr=>∃j:Nat,j<=a/\i=.int .i64 j/\Hid (∀q (h:q<a.length),q<j->dB a[q]=true)/\Hid (Below w w wr)) (λi _=>a.length-(intOf i).toNat)
  case atStart=>exact⟨0,ω,rfl,λq _ h=>ω,ζ1⟩
  case round =>
   obtain⟨j,V,rfl,B,l⟩:=hrel;by_cases hlt:j<a
   ·have E:=zT j a;obtain⟨g,J,T,M,X,Y,G,rfl,W,F,R,O,N,m⟩:=cS (TysR.to I (ae l)) hlt;have p:=η m
    cases hsm:dB a[j] with
    | false =>
     have y:Hid (a.all dB=false):=iJ _ _ j hlt hsm;have b:=η hsm;go_wp2_with (go_at_call 139;refine (z j hlt _ _ (p.to (ae ζ1))).mono ?_;rw[b.o];rintro e D ⟨rfl,u⟩);go_ret;exact⟨by rw[x.o,y.o];simp,bel (belA l _) u⟩
    | true =>
     have H:Hid (∀q (h:q<a.length),q<j+1->dB a[q]=true):=λq h hq=>by
      by_cases e:q=j
      ·subst e;exact hsm
      exact B q h ω
     have b:=η hsm;go_wp2_with (go_at_call 139;refine (z j hlt _ _ (p.to (ae ζ1))).mono ?_;rw[b.o];rintro e D ⟨rfl,u⟩);go_roundw
     case rel=>exact⟨j+1,ω,by go_num,H,bel (belA l _) u⟩
     case measure=>simp[intOf];omega
   have y:Hid (a.all dB=true):=ik _ _ λq h=>B q h ω;go_wp2;go_ret;exact⟨by rw[x.o,y.o,r];rfl,l⟩
def reservedWords:List (List UInt8):=[[114,101,99,111,114,100],[118,97,114,105,97,110,116],[101,102,102,101,99,116],[102,117,110],[97,99,116,111,114],[114,101,115,116,97,114,116],[101,115,99,97,108,97,116,101],[115,116,97,116,101],[111,110],[108,101,116],[105,110],[105,102],[116,104,101,110],[101,108,115,101],[109,97,116,99,104],[119,105,116,104],[97,110,100],[111,114],[110,111,116],[116,114,117,101],[102,97,108,115,101],[115,101,108,102],[102,111,114],[115,101,110,100],[97,102,116,101,114],[115,112,97,119,110],[100,111],[115,116,111,112],[102,97,105,108],[114,101,102],[105,110,116],[98,111,111,108],[116,101,120,116],[117,110,105,116]]
def primWords:List (List UInt8):=[[108,101,110],[97,116],[112,117,116],[115,108,105,99,101],[115,105,122,101],[115,117,98],[115,104,111,119]]
def iU (l:List UInt8):Bool:=reservedWords.contains l
def oz (l:List UInt8):Bool:=primWords.contains l
def aC (l:List UInt8):Bool:=fo l 65 90
def aX (l:List UInt8):Bool:=fo l 97 122&&!iU l
def fJ (l:List UInt8):Bool:=(l==[115,101,108,102])||aX l
section
variable (s:Ê) (w:À)
include s w
theorem nP:Calls prog 137 #[s] w λe w'=>e=.returned (.bool (iU s.data.toList))/\w=w':=by
 have a:Hid (iU s.data.toList=reservedWords.contains s.toList):=by show _=_;rw[ByteArray.toList_eq];rfl
 go_in;go_wp2_with fail
 all_goals
  go_ret;refine⟨?_,rfl⟩;rw[a.o];simp_all [reservedWords]
theorem ge:Calls prog 101 #[s] w λe w'=>e=.returned (.bool (oz s.data.toList))/\w=w':=by
 have a:Hid (oz s.data.toList=primWords.contains s.toList):=by show _=_;rw[ByteArray.toList_eq];rfl
 go_in;go_wp2_with fail
 all_goals
  go_ret;refine⟨?_,rfl⟩;rw[a.o];simp_all [primWords]
theorem rV (hs:s.size<=maxLen):Calls prog 95 #[s] w λe w'=>e=.returned (.bool (aC s.data.toList))/\w=w':=by
 have a:=η hs;go_in;go_wp2_with (go_at_call 135;refine (oH s 65 90 _ a).mono ?_;rintro e w' ⟨rfl,rfl⟩);go_ret;exact⟨rfl,rfl⟩
theorem nl (hs:s.size<=maxLen):Calls prog 98 #[s] w λe w'=>e=.returned (.bool (aX s.data.toList))/\w=w':=by
 have d:=η hs;have c:Hid (aX s.data.toList=(fo s.data.toList 97 122&&!iU s.data.toList)):=rfl
 cases h1:fo s.data.toList 97 122<;>cases h2:iU s.data.toList
 all_goals
  obtain⟨b,a⟩:=zd2 h1 h2;go_in;go_wp2_with (first|(go_at_call 135;refine (oH s 97 122 _ d).mono ?_;rw[b.o];rintro e w' ⟨rfl,rfl⟩)|(go_at_call 137;refine (nP s _).mono ?_;rw[a.o];rintro e w' ⟨rfl,rfl⟩));go_ret
  exact⟨by rw[c.o,b.o];try rw[a.o]
           try rfl,rfl⟩
theorem rW (hs:s.size<=maxLen):Calls prog 140 #[s] w λe w'=>e=.returned (.bool (fJ s.data.toList))/\w=w':=by
 have c:=η hs;have b:Hid (fJ s.data.toList=((s.toList==[115,101,108,102])||aX s.data.toList)):=by show _=_;rw[ByteArray.toList_eq];rfl
 cases h1:(s.toList==[115,101,108,102])<;>cases h2:aX s.data.toList
 all_goals
  have a:=η h2;go_in;go_wp2_with (go_at_call 98;refine (nl s _ c).mono ?_;rw[a.o];rintro e w' ⟨rfl,rfl⟩);go_ret
  exact⟨by rw[b.o,h1];try rw[a.o]
           try rfl,rfl⟩
theorem fT:Calls prog 167 #[s] w λe w'=>e=.returned (.agg #[(6:Int),s,()])/\Below w w w':=by
 go_in;go_wp2;exact bodyPost_ret (v:=.agg #[(6:Int),s,()]) (by simp[results,results167,go_sem]) rfl ⟨rfl,ζ1⟩
end
def Ty.kind:Ty->Int|.mk k _ _=>k
def cX (t:Ty):Bool:=t.kind==3||t.kind==4
def ju (t:Ty):Bool:=t.kind==4||t.kind==5
def nj (cs:List Value) (t:Ty) (w:À) (P:Nat->Prop) (hr:TyR w P cs t):Calls prog 181 #[cs.toArray] w λe w'=>e=.returned (.bool (cX t))/\Below w w w':=by
 obtain⟨k,s,a,A,cap,rfl,rfl,_,d,b⟩:=ap hr;have c:Hid (cX (.mk k s a)=(k==3||k==4)):=rfl
 cases h1:(k==3)<;>cases h2:(k==4)
 all_goals
  go_in;go_wp2;go_ret
  exact⟨by rw[c.o,h1];try rw[h2]
           try rfl,ζ1⟩
def jj (cs:List Value) (t:Ty) (w:À) (P:Nat->Prop) (hr:TyR w P cs t):Calls prog 183 #[cs.toArray] w λe w'=>e=.returned (.bool (ju t))/\Below w w w':=by
 obtain⟨k,s,a,A,cap,rfl,rfl,_,d,b⟩:=ap hr;have c:Hid (ju (.mk k s a)=(k==4||k==5)):=rfl
 cases h1:(k==4)<;>cases h2:(k==5)
 all_goals
  go_in;go_wp2;go_ret
  exact⟨by rw[c.o,h1];try rw[h2]
           try rfl,ζ1⟩
def varN:Nat->Nat->List UInt8
 | 0,_=>[]
 | k+1,n=>if n<128 then [UInt8.ofNat n] else UInt8.ofNat (n%128+128)::varN k (n/128)
def numB (n:Int):List UInt8:=if n<0 then [] else varN 9 n.toNat
def intB (n:Int):List UInt8:=if n < -1152921504606846976\/1152921504606846976<n then [] else if n<0 then numB (-2*n-1) else numB (2*n)
def aM (s:Ê):List UInt8:=numB (s.size:Nat)++s.data.toList
structure Nm (σ:Type) where
 num:σ->Int->Int×σ
 nam:σ->Ê->σ
def wAll {σ α:Type} (f:σ->α->List UInt8×σ):σ->List α->List UInt8×σ
 | st,[]=>([],st)
 | st,x::xs=>((f st x).1++(wAll f (f st x).2 xs).1,(wAll f (f st x).2 xs).2)
def ah {σ α:Type} (f:σ->α->List UInt8×σ) (st:σ) (l:List α):List UInt8×σ:=(numB (l.length:Nat)++(wAll f st l).1,(wAll f st l).2)
section
variable {σ:Type} (N:Nm σ)
mutual
def wTy (st:σ):Ty->List UInt8×σ
 | .mk k s a=>(numB k++(aM s++(numB (a.length:Nat)++(wTys (if k=6 then N.nam st s else st) a).1)),(wTys (if k=6 then N.nam st s else st) a).2)
def wTys (st:σ):List Ty->List UInt8×σ
 | []=>([],st)
 | x::xs=>((wTy st x).1++(wTys (wTy st x).2 xs).1,(wTys (wTy st x).2 xs).2)
end
def jb (op:Int):Bool:=decide (op=33)||decide (op=34)
def gu (op:Int):Bool:=decide (op=9)||decide (op=12)
def eNum (st:σ) (op n:Int):Int×σ:=if jb op then N.num st n else (n,st)
def eNam (st:σ) (op:Int) (s:Ê):σ:=if gu op then N.nam st s else st
mutual
def wEx (st:σ):Ex->List UInt8×σ
 | .mk op n m s a=>(numB op++(intB (eNum N st op n).1++(intB m++(aM s++(numB (a.length:Nat)++(wExs (eNam N (eNum N st op n).2 op s) a).1)))),(wExs (eNam N (eNum N st op n).2 op s) a).2)
def wExs (st:σ):List Ex->List UInt8×σ
 | []=>([],st)
 | x::xs=>((wEx st x).1++(wExs (wEx st x).2 xs).1,(wExs (wEx st x).2 xs).2)
end
def oZ (st:σ) (l:List Ty):wTys N st l=wAll (wTy N) st l:=by
 induction l generalizing st with
 | nil=>rw[wTys,wAll]
 | cons x xs ih=>rw[wTys,wAll,ih]
def lM (st:σ) (l:List Ex):wExs N st l=wAll (wEx N) st l:=by
 induction l generalizing st with
 | nil=>rw[wExs,wAll]
 | cons x xs ih=>rw[wExs,wAll,ih]
mutual
def wSt (st:σ):St->List UInt8×σ
 | .mk op n m s t xs h e a =>
  let r0:=ah (wEx N) st xs
  let r1:=wSts r0.2 h
  let r2:=wSts r1.2 e
  let r3:=wSts r2.2 a
  (numB op++(intB n++(intB m++(aM s++(aM t++(r0.1++((numB (h.length:Nat)++r1.1)++((numB (e.length:Nat)++r2.1)++(numB (a.length:Nat)++r3.1)))))))),r3.2)
def wSts (st:σ):List St->List UInt8×σ
 | []=>([],st)
 | x::xs=>((wSt st x).1++(wSts (wSt st x).2 xs).1,(wSts (wSt st x).2 xs).2)
end
def yK (st:σ) (l:List St):wSts N st l=wAll (wSt N) st l:=by
 induction l generalizing st with
 | nil=>rw[wSts,wAll]
 | cons x xs ih=>rw[wSts,wAll,ih]
def wFld (st:σ) (f:Fld):List UInt8×σ:=(aM f.name++(wTy N st f.type).1,(wTy N st f.type).2)
def bJ (st:σ) (l:List Fld):List UInt8×σ:=ah (wFld N) st l
def wCtr (st:σ) (c:Ctr):List UInt8×σ:=(aM c.name++(bJ N st c.fields).1,(bJ N st c.fields).2)
def wDcl (st:σ) (d:Dcl):List UInt8×σ:=(aM d.name++(numB (if d.record then 1 else 0)++(ah (wCtr N) st d.ctors).1),(ah (wCtr N) st d.ctors).2)
def wEff (st:σ) (e:Eff):List UInt8×σ:=(aM e.name++((bJ N st e.params).1++(wTy N (bJ N st e.params).2 e.answer).1),(wTy N (bJ N st e.params).2 e.answer).2)
def wFn (st:σ) (f:Fn):List UInt8×σ:=
 let r0:=bJ N st f.params
 let r1:=wTy N r0.2 f.result
 let r2:=wEx N r1.2 f.body
 (aM f.name++(r0.1++(r1.1++(numB f.slots++r2.1))),r2.2)
def wVr (st:σ) (v:Vr):List UInt8×σ:=(aM v.name++((wTy N st v.type).1++(wEx N (wTy N st v.type).2 v.init).1),(wEx N (wTy N st v.type).2 v.init).2)
def wHd (st:σ) (h:Hd):List UInt8×σ:=
 let r0:=bJ N st h.params
 let r1:=ah (wSt N) r0.2 h.body
 (aM h.msg++(r0.1++(numB h.slots++r1.1)),r1.2)
def wAc (st:σ) (a:Ac):List UInt8×σ:=
 let r0:=bJ N st a.params
 let r1:=ah (wVr N) r0.2 a.vars
 let r2:=ah (wHd N) r1.2 a.on
 (aM a.name++(r0.1++(numB a.slots++(r1.1++r2.1))),r2.2)
def wAcP (st:σ) (a:Ac):List UInt8×σ:=((wAc N st a).1++(numB a.policy++numB a.most),(wAc N st a).2)
end
def nm0N:Nm Unit:=⟨λ_ n=>(n,()),λ_ _=>()⟩
def hX (p:Pg):List UInt8:=(ah (wDcl nm0N) () p.types).1++((ah (wEff nm0N) () p.effects).1++((ah (wFn nm0N) () p.funs).1++(ah (wAcP nm0N) () p.actors).1))
section
variable (okN:Int->Prop) (okS:Ê->Prop)
mutual
def Ty.refs:Ty->Prop
 | .mk k s a=>(k=6->okS s)/\Ty.refss a
def Ty.refss:List Ty->Prop
 | []=>True
 | x::xs=>Ty.refs x/\Ty.refss xs
end
mutual
def Ex.refs:Ex->Prop
 | .mk op n _ s a=>(jb op=true->okN n)/\(gu op=true->okS s)/\Ex.refss a
def Ex.refss:List Ex->Prop
 | []=>True
 | x::xs=>Ex.refs x/\Ex.refss xs
end
mutual
def St.refs:St->Prop
 | .mk _ _ _ _ _ xs h e a=>Ex.refss okN okS xs/\St.refss h/\St.refss e/\St.refss a
def St.refss:List St->Prop
 | []=>True
 | x::xs=>St.refs x/\St.refss xs
end
def Fld.refs (f:Fld):Prop:=Ty.refs okS f.type
def Ctr.refs (c:Ctr):Prop:=∀f∈c.fields,f.refs okS
def Dcl.refs (d:Dcl):Prop:=∀c∈d.ctors,c.refs okS
def Fn.refs (f:Fn):Prop:=(∀q∈f.params,q.refs okS)/\f.result.refs okS/\f.body.refs okN okS
def Vr.refs (v:Vr):Prop:=v.type.refs okS/\v.init.refs okN okS
def Hd.refs (h:Hd):Prop:=(∀q∈h.params,q.refs okS)/\St.refss okN okS h.body
def Ac.refs (a:Ac):Prop:=(∀q∈a.params,q.refs okS)/\(∀v∈a.vars,v.refs okN okS)/\(∀h∈a.on,h.refs okN okS)
def Ty.refss_iff (l:List Ty):Ty.refss okS l↔∀x∈l,x.refs okS:=by
 induction l with
 | nil=>simp[Ty.refss]
 | cons x l ih=>simp[Ty.refss,ih]
def Ex.refss_iff (l:List Ex):Ex.refss okN okS l↔∀x∈l,x.refs okN okS:=by
 induction l with
 | nil=>simp[Ex.refss]
 | cons x l ih=>simp[Ex.refss,ih]
def St.refss_iff (l:List St):St.refss okN okS l↔∀x∈l,x.refs okN okS:=by
 induction l with
 | nil=>simp[St.refss]
 | cons x l ih=>simp[St.refss,ih]
end
section
variable {σ:Type} {N:Nm σ} {Inv:σ->Prop} {okN:Int->Prop} {okS:Ê->Prop}
structure NmInv (N:Nm σ) (Inv:σ->Prop) (okN:Int->Prop) (okS:Ê->Prop):Prop where
 num:∀st n,Inv st->okN n->Inv (N.num st n).2
 nam:∀st s,Inv st->okS s->Inv (N.nam st s)
def wAll_inv {f:σ->α->List UInt8×σ} (l:List α) (h:∀x∈l,∀st,Inv st->Inv (f st x).2):∀st,Inv st->Inv (wAll f st l).2:=by
 induction l with
 | nil=>intro st a;exact a
 | cons x l ih=>intro st a;rw[wAll];exact ih (λy hy=>h y (List.mem_cons_of_mem _ hy)) _ (h x List.mem_cons_self st a)
def gR {f:σ->α->List UInt8×σ} {l:List α} (h:∀x∈l,∀st,Inv st->Inv (f st x).2) {st:σ} (hs:Inv st):Inv (ah f st l).2:=wAll_inv l h st hs
variable (H:NmInv N Inv okN okS)
include H
mutual
theorem nU:∀(t:Ty) (st:σ),t.refs okS->Inv st->Inv (wTy N st t).2
 | .mk k s a,st,hr,hs=>by
  rw[wTy]
  rw[Ty.refs] at hr
  refine sr a _ hr.2 ?_
  split
  ·exact H.nam _ _ hs (hr.1 ι)
  exact hs
theorem sr:∀(l:List Ty) (st:σ),Ty.refss okS l->Inv st->Inv (wTys N st l).2
 | [],st,_,hs=>by rw[wTys];exact hs
 | x::xs,st,hr,hs=>by
  rw[wTys]
  rw[Ty.refss] at hr
  exact sr xs _ hr.2 (nU x st hr.1 hs)
end
mutual
theorem nW:∀(t:Ex) (st:σ),t.refs okN okS->Inv st->Inv (wEx N st t).2
 | .mk op n m s a,st,hr,hs=>by
  rw[wEx]
  rw[Ex.refs] at hr
  refine ss a _ hr.2.2 ?_
  have h1:Inv (eNum N st op n).2:=by
   unfold eNum;split
   ·exact H.num _ _ hs (hr.1 ι)
   exact hs
  unfold eNam;split
  ·exact H.nam _ _ h1 (hr.2.1 ι)
  exact h1
theorem ss:∀(l:List Ex) (st:σ),Ex.refss okN okS l->Inv st->Inv (wExs N st l).2
 | [],st,_,hs=>by rw[wExs];exact hs
 | x::xs,st,hr,hs=>by
  rw[wExs]
  rw[Ex.refss] at hr
  exact ss xs _ hr.2 (nW x st hr.1 hs)
end
mutual
theorem uC:∀(t:St) (st:σ),t.refs okN okS->Inv st->Inv (wSt N st t).2
 | .mk op n m s t xs h e a,st,hr,hs=>by
  rw[wSt]
  rw[St.refs] at hr
  have h0:Inv (ah (wEx N) st xs).2:=gR (λx hx st hs=>nW H x st ((Ex.refss_iff _ _ _).1 hr.1 x hx) hs) hs
  exact lL a _ hr.2.2.2 (lL e _ hr.2.2.1 (lL h _ hr.2.1 h0))
theorem lL:∀(l:List St) (st:σ),St.refss okN okS l->Inv st->Inv (wSts N st l).2
 | [],st,_,hs=>by rw[wSts];exact hs
 | x::xs,st,hr,hs=>by
  rw[wSts]
  rw[St.refss] at hr
  exact lL xs _ hr.2 (uC x st hr.1 hs)
end
theorem wFld_inv (f:Fld) (st:σ) (hr:f.refs okS) (hs:Inv st):Inv (wFld N st f).2:=nU H _ _ hr hs
theorem jY (l:List Fld) (st:σ) (hr:∀f∈l,f.refs okS) (hs:Inv st):Inv (bJ N st l).2:=gR (λx hx st hs=>wFld_inv H x st (hr x hx) hs) hs
theorem wCtr_inv (f:Ctr) (st:σ) (hr:f.refs okS) (hs:Inv st):Inv (wCtr N st f).2:=jY H _ _ hr hs
theorem sx (f:Dcl) (st:σ) (hr:f.refs okS) (hs:Inv st):Inv (wDcl N st f).2:=gR (λx hx st hs=>wCtr_inv H x st (hr x hx) hs) hs
theorem uD (f:Fn) (st:σ) (hr:f.refs okN okS) (hs:Inv st):Inv (wFn N st f).2:=nW H _ _ hr.2.2 (nU H _ _ hr.2.1 (jY H _ _ hr.1 hs))
theorem wVr_inv (f:Vr) (st:σ) (hr:f.refs okN okS) (hs:Inv st):Inv (wVr N st f).2:=nW H _ _ hr.2 (nU H _ _ hr.1 hs)
theorem wHd_inv (f:Hd) (st:σ) (hr:f.refs okN okS) (hs:Inv st):Inv (wHd N st f).2:=gR (λx hx st hs=>uC H x st ((St.refss_iff _ _ _).1 hr.2 x hx) hs) (jY H _ _ hr.1 hs)
theorem wAc_inv (f:Ac) (st:σ) (hr:f.refs okN okS) (hs:Inv st):Inv (wAc N st f).2:=
 gR (λx hx st hs=>wHd_inv H x st (hr.2.2 x hx) hs) (gR (λx hx st hs=>wVr_inv H x st (hr.2.1 x hx) hs) (jY H _ _ hr.1 hs))
end
section
def Ty.refs_any:∀t:Ty,t.refs λ_=>True
 | .mk k s a=>by rw[Ty.refs];exact⟨λ_=>trivial,(Ty.refss_iff _ _).2 λx hx=>Ty.refs_any x⟩
termination_by t=>SizeOf.sizeOf t
decreasing_by have:=List.sizeOf_lt_of_mem hx;simp;omega
def Ex.refs_any:∀t:Ex,t.refs (λ_=>True) λ_=>True
 | .mk o n m s a=>by rw[Ex.refs];exact⟨λ_=>trivial,λ_=>trivial,(Ex.refss_iff _ _ _).2 λx hx=>Ex.refs_any x⟩
termination_by t=>SizeOf.sizeOf t
decreasing_by have:=List.sizeOf_lt_of_mem hx;simp;omega
def Fn.refs_any (f:Fn):f.refs (λ_=>True) λ_=>True:=⟨λq _=>Ty.refs_any _,Ty.refs_any _,Ex.refs_any _⟩
def Dcl.refs_any (f:Dcl):f.refs λ_=>True:=λc _ q _=>Ty.refs_any _
end
end
end
section
open Proofs.Tryz
open Go.RowKit
def yW (s:Ê) (h:0<s.size) (hm:s.size<=9223372036854775807) (w:À) (hlo:65<=s[0].toNat) (hhi:s[0].toNat<=90) :
 Calls prog 202 #[s] w λe w'=>e=.returned (.bool (fo s.data.toList 65 90))/\w=w':=by
 have G:decide ((s[0].toNat:Int)<65)=false:=decide_eq_false ω;have F:decide ((90:Int)<(s[0].toNat:Int))=false:=decide_eq_false ω;have n:¬s.toList=[]:=by rw[ByteArray.toList_eq];obtain⟨t,e⟩:=ej h;rw[e];simp
 have L:(s.toList==[])=false:=by simpa using n
 obtain⟨q,r,H⟩:=zd3 hlo hhi h;go_in;go_upto_region 4 with fail;go_loopw [19] (λi wr=>∃k:Nat,k<=s.size/\i=.int .i64 k/\Hid (∀j (h:j<s.size),j<k->em s[j]=true)/\wr=w) (λi _=>s.size-(intOf i).toNat)
 case atStart=>exact⟨0,ω,rfl,λj _ hj=>ω,rfl⟩
 case round =>
  obtain⟨k,I,rfl,b,rfl⟩:=hrel;by_cases hlt:k<s.size
  ·have l:decide ((k:Int)<s.size)=true:=decide_eq_true ω
   have m:Hid (em s[k]=true->∀j (h:j<s.size),j<k+1->em s[j]=true):=λhx j h hj=>by
    by_cases e:j=k
    ·subst e;exact hx
    exact b j h ω
   have p:Hid (em s[k]=false->fo s.data.toList 65 90=false):=λhx=>sq hlt hx;have c:em s[k]=((decide (97<=s[k].toNat)&&decide (s[k].toNat<=122))||(decide (65<=s[k].toNat)&&decide (s[k].toNat<=90))||(decide (48<=s[k].toNat)&&decide (s[k].toNat<=57))||(s[k].toNat==95)):=rfl;have d:=η c;have a:(s[k].toNat<48)\/(48<=s[k].toNat/\s[k].toNat<=57)\/(58<=s[k].toNat/\s[k].toNat<=64)\/(65<=s[k].toNat/\s[k].toNat<=90)\/(91<=s[k].toNat/\s[k].toNat<=96/\s[k].toNat≠95)\/(s[k].toNat=95)\/(97<=s[k].toNat/\s[k].toNat<=122)\/(123<=s[k].toNat):=ω;rcases a with a|a|a|a|a|a|a|a
   all_goals
    first|(have B:((s[k].toNat:Int)==95)=true:=by simp;omega)|(have B:((s[k].toNat:Int)==95)=false:=by simp;omega)
    first|(have A:decide ((97:Int)<=s[k].toNat)=true:=decide_eq_true ω)|(have A:decide ((97:Int)<=s[k].toNat)=false:=decide_eq_false ω)
    first|(have z:decide ((s[k].toNat:Int)<=122)=true:=decide_eq_true ω)|(have z:decide ((s[k].toNat:Int)<=122)=false:=decide_eq_false ω)
    first|(have y:decide ((65:Int)<=s[k].toNat)=true:=decide_eq_true ω)|(have y:decide ((65:Int)<=s[k].toNat)=false:=decide_eq_false ω)
    first|(have x:decide ((s[k].toNat:Int)<=90)=true:=decide_eq_true ω)|(have x:decide ((s[k].toNat:Int)<=90)=false:=decide_eq_false ω)
    first|(have v:decide ((48:Int)<=s[k].toNat)=true:=decide_eq_true ω)|(have v:decide ((48:Int)<=s[k].toNat)=false:=decide_eq_false ω)
    first|(have u:decide ((s[k].toNat:Int)<=57)=true:=decide_eq_true ω)|(have u:decide ((s[k].toNat:Int)<=57)=false:=decide_eq_false ω)
    first
    | (have g:Hid (em s[k]=true):=by
        show em s[k]=true;rw[d.o];simp;omega
       go_wp2_with fail;go_roundw
       case rel=>exact⟨k+1,ω,by go_num,m g,trivial⟩
       case measure=>simp[intOf];omega)
    | (have g:Hid (em s[k]=false):=by
        show em s[k]=false;rw[d.o];simp;omega
       go_wp2;go_ret;exact⟨by rw[p.o g.o];rfl,rfl⟩)
  obtain rfl:k=s.size:=ω;have f:=η (pQ H q r λj h=>b j h h);go_wp2;go_ret;exact⟨by rw[f.o];rfl,rfl⟩
def tt (s:Ê) (w:À) (hm:s.size<=maxLen) :
 Calls prog 202 #[s] w λe w'=>e=.returned (.bool (fo s.data.toList 65 90))/\w=w':=by
 unfold maxLen at hm;by_cases h:0<s.size
 ·by_cases k:65<=s[0].toNat
  ·by_cases j:s[0].toNat<=90
   ·exact yW s h hm w k j
   have d:=η (jk (a:=65) (b:=90) h (λx=>j x.2));have i:decide ((s[0].toNat:Int)<65)=false:=decide_eq_false ω;have p:decide ((90:Int)<(s[0].toNat:Int))=true:=decide_eq_true ω;have c:¬s.toList=[]:=by rw[ByteArray.toList_eq];obtain⟨t,e⟩:=ej h;rw[e];simp
   have m:(s.toList==[])=false:=by simpa using c
   go_in;go_wp2;go_ret;exact⟨by rw[d.o];rfl,rfl⟩
  have d:=η (jk (a:=65) (b:=90) h (λx=>k x.1));have i:decide ((s[0].toNat:Int)<65)=true:=decide_eq_true ω;have c:¬s.toList=[]:=by rw[ByteArray.toList_eq];obtain⟨t,e⟩:=ej h;rw[e];simp
  have m:(s.toList==[])=false:=by simpa using c
  go_in;go_wp2;go_ret;exact⟨by rw[d.o];rfl,rfl⟩
 have f:s.data.toList=[]:=by
  have:s.data.toList.length=0:=by have:s.data.size=0:=by (have:s.size=s.data.size:=rfl);omega
                                  simpa using this
  exact List.length_eq_zero_iff.1 this
 have d:Hid (fo s.data.toList 65 90=false):=by show fo _ _ _=_;rw[f];rfl
 have c:s.toList=[]:=by rw[ByteArray.toList_eq];exact f
 go_in;go_wp2;go_ret;exact⟨by rw[d.o];rfl,rfl⟩
open Go.Maps Go.WideMaps Go.ChangeMaps
def cB (l:List (List UInt8)):Nat->List UInt8->Option Nat
 | 0,_=>none
 | k+1,s=>if l[k]?=some s then some k else cB l k s
def idxP (l:List (List UInt8)) (s:List UInt8):Option Nat:=cB l l s
def idxF (l:List (List UInt8)) (k:Nat) (s:List UInt8):Option Value:=(cB l k s).map λi=>.int .i64 (i:Nat)
theorem cg (l:List (List UInt8)):∀k s i,cB l k s=some i->i<k/\l[i]?=some s
 | 0,_,_,h=>by simp[cB] at h
 | k+1,s,i,h=>by
  rw[cB] at h
  split at h
  ·injection h with h;subst h;exact⟨ω,by assumption⟩
  have:=cg l k s i h;exact⟨ω,this.2⟩
abbrev SMap (w:À) (b n:Nat) (f:List UInt8->Option Value):Prop:=MapIs prog 9 Lit.string w b n f
def Pg.tyNames (p:Pg):List (List UInt8):=p.types.map λd=>d.name.data.toList
def Pg.acNames (p:Pg):List (List UInt8):=p.actors.map λd=>d.name.data.toList
def Pg.efNames (p:Pg):List (List UInt8):=p.effects.map λd=>d.name.data.toList
structure CB where
 (b bt ba be br nt na ne:Nat)
 (v0 v1 v2 v3:Value)
structure ChkR (w:À) (Q:Nat->Prop) (c:CB) (p:Pg):Prop where
 qb:Q c.b
 qt:Q c.bt
 qa:Q c.ba
 qe:Q c.be
 c0:w.cell? c.b=some c.v0
 c1:w.cell? ⟨c.b,1,none⟩=some c.v1
 c2:w.cell? ⟨c.b,2,none⟩=some c.v2
 c3:w.cell? ⟨c.b,3,none⟩=some c.v3
 c4:w.cell? ⟨c.b,4,none⟩=some (.map (some c.bt))
 c5:w.cell? ⟨c.b,5,none⟩=some (.map (some c.ba))
 c6:w.cell? ⟨c.b,6,none⟩=some (.map (some c.be))
 c7:w.cell? ⟨c.b,7,none⟩=some (.map (some c.br))
 types:SlR w Q 3 (DclR w Q) c.v0 p.types
 effects:SlR w Q 5 (EffR w Q) c.v1 p.effects
 funs:SlR w Q 11 (FnR w Q) c.v2 p.funs
 actors:SlR w Q 7 (AcR w Q) c.v3 p.actors
 mt:SMap w c.bt c.nt (idxF p.tyNames p.tyNames)
 ma:SMap w c.ba c.na (idxF p.acNames p.acNames)
 me:SMap w c.be c.ne (idxF p.efNames p.efNames)
section
variable {Q':Nat->Prop}
def au {w w':À} {Q:Nat->Prop} {a:Addr} {v:Value} (h:w.cell? a=some v) (hb:Sub Q Q' w w') (hq:Q a.block):w'.cell? a=some v:=(World.cell?_of_block (w:=w) (hb a.block hq).2).trans h
def ChkR.to {w w':À} {Q:Nat->Prop} {c:CB} {p:Pg} (h:ChkR w Q c p) (hb:Sub Q Q' w w'):ChkR w' Q' c p:=
 ⟨(hb _ h.qb).1,(hb _ h.qt).1,(hb _ h.qa).1,(hb _ h.qe).1,au h.c0 hb h.qb,au h.c1 hb h.qb,au h.c2 hb h.qb,au h.c3 hb h.qb,au h.c4 hb h.qb,au h.c5 hb h.qb,au h.c6 hb h.qb,au h.c7 hb h.qb,
  h.types.to' hb λ_ _ x=>x.to hb,h.effects.to' hb λ_ _ x=>x.to hb,h.funs.to' hb λ_ _ x=>x.to hb,h.actors.to' hb λ_ _ x=>x.to hb,h.mt.to hb h.qt,h.ma.to hb h.qa,h.me.to hb h.qe⟩
def nS (w:À):(zeroValue 3).run prog w=.ok (.int .i64 0) w:=by kernel_rfl
def ck {w:À} {b n:Nat} {f:List UInt8->Option Value} (h:SMap w b n f) {s:Ê} (hs:s.size<=maxLen):(Instr.lookup 101 (.map (some b)) (s:Vl) true).run prog w=.ok (.tuple #[(f s.data.toList).getD (.int .i64 0),.bool (f s.data.toList).isSome]) w:=
 MapIs.lookOk h (fL underlying9) underlying101 (nS w) (keyOf_string_mk underlying9 hs)
def cR {w:À} {b n:Nat} {f:List UInt8->Option Value} (h:SMap w b n f) {s:Ê} (hs:s.size<=maxLen):(Instr.lookup 101 (.map (some b)) (s:Vl) false).run prog w=.ok ((f s.data.toList).getD (.int .i64 0)) w:=
 MapIs.look h (fL underlying9) underlying101 (nS w) (keyOf_string_mk underlying9 hs)
def fH {w:À} {b n:Nat} {f:List UInt8->Option Value} (h:SMap w b n f) (k:Nat):SMap (w.drewN k) b n f:=h.same rfl
mutual
def cd (p:Pg):Ty->Bool
 | .mk k s a=>(if k=6 then (idxP p.tyNames s.data.toList).isSome else if k=7 then (idxP p.acNames s.data.toList).isSome else true)&&kJ p a
def kJ (p:Pg):List Ty->Bool
 | []=>true
 | x::xs=>cd p x&&kJ p xs
end
def rU (p:Pg) (l:List Ty):kJ p l=l.all (cd p):=by
 induction l with
 | nil=>rfl
 | cons x l ih=>rw[kJ,List.all_cons,ih]
def eU (l:List (List UInt8)) (s:List UInt8):(idxF l l s).isSome=(idxP l s).isSome:=by unfold idxF idxP;cases cB l l s<;>rfl
def bH (s:Ê):Bool:=s.data.toList.isEmpty
def se_t {s:Ê} (h:bH s=true):s.toList=[]/\(s.toList==[])=true/\s.toList.isEmpty=true:=by
 have:s.toList=[]:=by rw[ByteArray.toList_eq];simpa[bH] using h
 exact⟨this,by rw[this];rfl,by rw[this];rfl⟩
def se_f {s:Ê} (h:bH s=false):¬s.toList=[]/\(s.toList==[])=false/\s.toList.isEmpty=false:=by
 have:¬s.toList=[]:=by rw[ByteArray.toList_eq];simpa[bH] using h
 exact⟨this,by simpa using this,by simpa using this⟩
mutual
def ag:Ty->Bool
 | .mk k s a =>
  if k=1\/k=2\/k=3\/k=4 then bH s&&decide (a.length=0)
  else if k=6\/k=7 then aC s.data.toList&&decide (a.length=0)
  else if k=5 then bH s&&decide (a.length=1)&&eh a
  else if k=8 then bH s&&!decide (a.length=0)&&eh a
  else false
def eh:List Ty->Bool
 | []=>true
 | x::xs=>ag x&&eh xs
end
def fi (l:List Ty):eh l=l.all ag:=by
 induction l with
 | nil=>rfl
 | cons x l ih=>rw[eh,List.all_cons,ih]
def all_one {α:Type} (f:α->Bool) (l:List α) (h:l.length=1):l.all f=f (l[0]'ω):=by
 match l,h with
 | [x],_=>simp
def tY (n:Nat):∀(cs:List Value) (t:Ty) (w:À),SizeOf.sizeOf t<=n->TyR w (lo w) cs t->Calls prog 188 #[cs.toArray] w λe w'=>e=.returned (.bool (ag t))/\Below w w w':=by
 induction n with
 | zero=>intro cs t w H;cases t;simp at H
 | succ n ih =>
  intro cs t w H G;obtain⟨k,s,a,A,cap,rfl,rfl,_,b,J⟩:=ap G;have al:=J.le9;have O:Hid (∀(i:Nat) (h:i<a.length) (cs:List Value) (w:À),TyR w (lo w) cs a[i]->Calls prog 188 #[cs.toArray] w λe w'=>e=.returned (.bool (ag a[i]))/\Below w w w'):=λi h cs w G=>ih cs a[i] w (by have:=List.sizeOf_lt_of_mem (ν h);simp at H;omega) G;obtain⟨HA,HS⟩:=zd2 J b;clear ih H G J b;by_cases m:k=1\/k=2\/k=3\/k=4
  ·have d:Hid (ag (.mk k s a)=(bH s&&decide (a.length=0))):=by show ag _=_;rw[ag,if_pos m]
   cases b:bH s<;>cases c:decide (a.length=0)
   all_goals
    first|(obtain⟨x,E,D⟩:=se_f b)|(obtain⟨x,E,D⟩:=se_t b)
    first|(have v:((a.length:Int)==0)=false:=by simp at c;simp;exact c)|(have v:((a.length:Int)==0)=true:=by simp at c;simp;exact c)
    obtain⟨f,F⟩:=zd2 b c;clear b c;rcases m with rfl|rfl|rfl|rfl
    all_goals
     go_in;go_wp2;go_ret;exact⟨by rw[d.o,f.o,F.o];rfl,ζ1⟩
  by_cases u:k=6\/k=7
  ·have d:Hid (ag (.mk k s a)=(aC s.data.toList&&decide (a.length=0))):=by show ag _=_;rw[ag,if_neg m,if_pos u]
   clear m
   cases b:aC s.data.toList<;>cases c:decide (a.length=0)
   all_goals
    first|(have v:((a.length:Int)==0)=false:=by simp at c;simp;exact c)|(have v:((a.length:Int)==0)=true:=by simp at c;simp;exact c)
    obtain⟨f,F⟩:=zd2 b c;clear b c;rcases u with rfl|rfl
    all_goals
     go_in;go_wp2_with (go_at_call 202;refine (tt s _ HS).mono ?_;rw[show fo s.data.toList 65 90=aC s.data.toList from rfl,f.o];rintro e w' ⟨rfl,rfl⟩);go_ret;exact⟨by rw[d.o,f.o,F.o];rfl,ζ1⟩
  by_cases B:k=5
  ·subst B;have d:Hid (ag (.mk 5 s a)=(bH s&&decide (a.length=1)&&a.all ag)):=by show ag _=_;rw[ag,if_neg m,if_neg u,if_pos rfl,fi]
   clear m u
   cases b:bH s
   ·obtain⟨x,E,D⟩:=se_f b;have f:=η b;clear b;go_in;go_wp2;go_ret;exact⟨by rw[d.o,f.o];rfl,ζ1⟩
   obtain⟨x,E,D⟩:=se_t b;have f:=η b;clear b;by_cases c:a.length=1
   ·have v:((a.length:Int)==1)=true:=by simp;omega
    have hlt:0<a.length:=ω;obtain⟨g,X,Y,s1,a1,A1,N,rfl,hg,M,W,V,U,r⟩:=cS (TysR.to HA (ae (belA (belR w) (.cells #[(5:Int),s,.slice A a cap] 40)))) hlt;have F:Hid (a.all ag=ag a[0]):=all_one _ a c;have l:Hid (decide (a.length=1)=true):=decide_eq_true c;have y:=η r;simp only[Nat.zero_mul,Nat.add_zero] at W V U;clear r M c
    cases hsm:ag a[0]
    all_goals
     have p:=η hsm;clear hsm;go_in;go_wp2_with (go_at_call 188;refine (O 0 hlt _ _ y).mono ?_;rw[p.o];rintro e T ⟨rfl,z⟩);go_ret;exact⟨by rw[d.o,f.o,l.o,F.o,p.o];rfl,bel ζ1 z⟩
   have v:((a.length:Int)==1)=false:=by simp;omega
   have l:Hid (decide (a.length=1)=false):=decide_eq_false c;clear c;go_in;go_wp2;go_ret;exact⟨by rw[d.o,f.o,l.o];rfl,ζ1⟩
  by_cases L:k=8
  ·subst L;have d:Hid (ag (.mk 8 s a)=(bH s&&!decide (a.length=0)&&a.all ag)):=by show ag _=_;rw[ag,if_neg m,if_neg u,if_neg B,if_pos rfl,fi]
   clear m u B
   cases b:bH s
   ·obtain⟨x,E,D⟩:=se_f b
    have f:=η b;clear b;go_in;go_wp2;go_ret;exact⟨by rw[d.o,f.o];rfl,ζ1⟩
   obtain⟨x,E,D⟩:=se_t b
   have f:=η b;clear b;by_cases c:a.length=0
   ·have v:((a.length:Int)==0)=true:=beq_iff_eq.2 ω;have l:Hid (decide (a.length=0)=true):=decide_eq_true c;clear c;go_in;go_wp2;go_ret;exact⟨by rw[d.o,f.o,l.o];rfl,ζ1⟩
   have v:((a.length:Int)==0)=false:=beq_eq_false_iff_ne.2 ω;have l:Hid (decide (a.length=0)=false):=decide_eq_false c;clear c;go_in;go_wp2_with fail;go_loopw [65] (λi wr=>∃j:Nat,j<=a/\i=.int .i64 j/\Hid (∀q (h:q<a.length),q<j->ag a[q]=true)/\Hid (Below w w wr)) (λi _=>a.length-(intOf i).toNat)
   case atStart=>exact⟨0,ω,rfl,λq _ h=>ω,ζ1⟩
   case round =>
    obtain⟨j,hj,rfl,Z,I⟩:=hrel;by_cases hlt:j<a
    ·have u1:=zT j a;obtain⟨g,X,Y,s1,a1,A1,N,rfl,hg,M,W,V,U,r⟩:=cS (TysR.to HA (ae I)) hlt;have y:=η r;clear r M
     cases hsm:ag a[j] with
     | false =>
      have R:Hid (a.all ag=false):=iJ _ _ j hlt hsm;have p:=η hsm;clear hsm;go_wp2_with (go_at_call 188;refine (O j hlt _ _ (y.to (ae ζ1))).mono ?_;rw[p.o];rintro e T ⟨rfl,z⟩);go_ret;exact⟨by rw[d.o,R.o];simp,bel (belA I _) z⟩
     | true =>
      have HN:Hid (∀q (h:q<a.length),q<j+1->ag a[q]=true):=λq h hq=>by
       by_cases e:q=j
       ·subst e;exact hsm
       exact Z q h ω
      have p:=η hsm;clear hsm;go_wp2_with (go_at_call 188;refine (O j hlt _ _ (y.to (ae ζ1))).mono ?_;rw[p.o];rintro e T ⟨rfl,z⟩);go_roundw
      case rel=>exact⟨j+1,ω,by go_num,HN,bel (belA I _) z⟩
      case measure=>simp[intOf];omega
    have R:Hid (a.all ag=true):=ik _ _ λq h=>Z q h ω;go_wp2;go_ret;exact⟨by rw[d.o,R.o,f.o,l.o];rfl,I⟩
  have d:Hid (ag (.mk k s a)=false):=by show ag _=_;rw[ag,if_neg m,if_neg u,if_neg B,if_neg L]
  have Y:(k==1)=false:=by simp;omega
  have k2:(k==2)=false:=by simp;omega
  have k3:(k==3)=false:=by simp;omega
  have k4:(k==4)=false:=by simp;omega
  have k5:(k==5)=false:=by simp;omega
  have k6:(k==6)=false:=by simp;omega
  have k7:(k==7)=false:=by simp;omega
  have k8:(k==8)=false:=by simp;omega
  clear m u B L;go_in;go_wp2;go_ret;exact⟨by rw[d.o];rfl,ζ1⟩
def bM {w a:À} (n:Nat) (h:Below w w a):Below w w (a.drewN n):=⟨h.os,h.tape,h.output,h.size,h.block⟩
def wI (c:CB) (p:Pg) (n:Nat):∀(cs:List Value) (t:Ty) (w:À),SizeOf.sizeOf t<=n->ChkR w (lo w) c p->TyR w (lo w) cs t->Calls prog 189 #[c.b,cs.toArray] w λe w'=>e=.returned (.bool (cd p t))/\Below w w w':=by
 induction n with
 | zero=>intro cs t w M;cases t;simp at M
 | succ n ih =>
  intro cs t w M l L;obtain⟨k,s,a,A,cap,rfl,rfl,_,T,U⟩:=ap L;have ak:=U.le9;have E:Hid (∀(i:Nat) (h:i<a.length) (cs:List Value) (w:À),ChkR w (lo w) c p->TyR w (lo w) cs a[i]->Calls prog 189 #[c.b,cs.toArray] w λe w'=>e=.returned (.bool (cd p a[i]))/\Below w w w'):=λi h cs w l L=>ih cs a[i] w (by have:=List.sizeOf_lt_of_mem (ν h);simp at M;omega) l L;obtain⟨W,V⟩:=zd2 U l;have aj:c.b<w:=l.qb;have c4:=l.c4;have c5:=l.c5;have R:∀m,(Instr.lookup 101 (.map (some c.bt)) (s:Vl) true).run prog ((w.alloc (.cells #[k,s,.slice A a cap] 40)).drewN m)=.ok (.tuple #[(idxF p.tyNames p.tyNames s.data.toList).getD (.int .i64 0),.bool (idxF p.tyNames p.tyNames s.data.toList).isSome]) ((w.alloc (.cells #[k,s,.slice A a cap] 40)).drewN m):=λm=>ck (fH (l.mt.alloc _) m) T;have O:∀m,(Instr.lookup 101 (.map (some c.ba)) (s:Vl) true).run prog ((w.alloc (.cells #[k,s,.slice A a cap] 40)).drewN m)=.ok (.tuple #[(idxF p.acNames p.acNames s.data.toList).getD (.int .i64 0),.bool (idxF p.acNames p.acNames s.data.toList).isSome]) ((w.alloc (.cells #[k,s,.slice A a cap] 40)).drewN m):=λm=>ck (fH (l.ma.alloc _) m) T
  have z:Hid (cd p (.mk k s a)=((if k=6 then (idxF p.tyNames p.tyNames s.data.toList).isSome else if k=7 then (idxF p.acNames p.acNames s.data.toList).isSome else true)&&a.all (cd p))):=by show cd _ _=_;rw[cd,rU,eU,eU]
  have hk:k=6\/k=7\/(k≠6/\k≠7):=ω;rcases hk with rfl|rfl|⟨hk6,hk7⟩
  ·cases hx:(idxF p.tyNames p.tyNames s.data.toList).isSome
   ·have D:=η hx;rw[hx] at R;go_in;go_wp2_with fail;go_quiet (fail);go_wp2;go_ret;exact⟨by rw[z.o];simp[D.o],bM _ ζ1⟩
   have D:=η hx;rw[hx] at R;go_in;go_wp2_with fail;go_quiet (fail);go_wp2_with fail;go_loopw [39] (λi wr=>∃j:Nat,j<=a/\i=.int .i64 j/\Hid (∀q (h:q<a.length),q<j->cd p a[q]=true)/\Hid (Below w w wr)) (λi _=>a.length-(intOf i).toNat)
   case atStart=>exact⟨0,ω,rfl,λq _ h=>ω,bM _ ζ1⟩
   case round =>
    obtain⟨j,hj,rfl,B,f⟩:=hrel;by_cases hlt:j<a
    ·have G:=zT j a;obtain⟨g,N,k1,X,a1,A1,I,rfl,hg,H,p0,Z,Y,r⟩:=cS (TysR.to W (ae f)) hlt;obtain⟨u,v⟩:=zd2 r (V.to (ae f))
     cases hsm:cd p a[j] with
     | false =>
      have y:Hid (a.all (cd p)=false):=iJ _ _ j hlt hsm;have d:=η hsm;go_wp2_with (go_at_call 189;refine (E j hlt _ _ (v.to (ae ζ1)) (u.to (ae ζ1))).mono ?_;rw[d.o];rintro e F ⟨rfl,x⟩);go_ret;exact⟨by rw[z.o,y.o];simp,bel (belA f _) x⟩
     | true =>
      have J:Hid (∀q (h:q<a.length),q<j+1->cd p a[q]=true):=λq h hq=>by
       by_cases e:q=j
       ·subst e;exact hsm
       exact B q h ω
      have d:=η hsm;go_wp2_with (go_at_call 189;refine (E j hlt _ _ (v.to (ae ζ1)) (u.to (ae ζ1))).mono ?_;rw[d.o];rintro e F ⟨rfl,x⟩);go_roundw
      case rel=>exact⟨j+1,ω,by go_num,J,bel (belA f _) x⟩
      case measure=>simp[intOf];omega
    have y:Hid (a.all (cd p)=true):=ik _ _ λq h=>B q h ω;go_wp2;go_ret;exact⟨by rw[z.o,y.o];simp[D.o],f⟩
  ·cases hx:(idxF p.acNames p.acNames s.data.toList).isSome
   ·have D:=η hx;rw[hx] at O;go_in;go_wp2_with fail;go_quiet (fail);go_wp2;go_ret;exact⟨by rw[z.o];simp[D.o],bM _ ζ1⟩
   have D:=η hx;rw[hx] at O;go_in;go_wp2_with fail;go_quiet (fail);go_wp2_with fail;go_loopw [39] (λi wr=>∃j:Nat,j<=a/\i=.int .i64 j/\Hid (∀q (h:q<a.length),q<j->cd p a[q]=true)/\Hid (Below w w wr)) (λi _=>a.length-(intOf i).toNat)
   case atStart=>exact⟨0,ω,rfl,λq _ h=>ω,bM _ ζ1⟩
   case round =>
    obtain⟨j,hj,rfl,B,f⟩:=hrel;by_cases hlt:j<a
    ·have G:=zT j a;obtain⟨g,N,k1,X,a1,A1,I,rfl,hg,H,p0,Z,Y,r⟩:=cS (TysR.to W (ae f)) hlt;obtain⟨u,v⟩:=zd2 r (V.to (ae f))
     cases hsm:cd p a[j] with
     | false =>
      have y:Hid (a.all (cd p)=false):=iJ _ _ j hlt hsm;have d:=η hsm;go_wp2_with (go_at_call 189;refine (E j hlt _ _ (v.to (ae ζ1)) (u.to (ae ζ1))).mono ?_;rw[d.o];rintro e F ⟨rfl,x⟩);go_ret;exact⟨by rw[z.o,y.o];simp,bel (belA f _) x⟩
     | true =>
      have J:Hid (∀q (h:q<a.length),q<j+1->cd p a[q]=true):=λq h hq=>by
       by_cases e:q=j
       ·subst e;exact hsm
       exact B q h ω
      have d:=η hsm;go_wp2_with (go_at_call 189;refine (E j hlt _ _ (v.to (ae ζ1)) (u.to (ae ζ1))).mono ?_;rw[d.o];rintro e F ⟨rfl,x⟩);go_roundw
      case rel=>exact⟨j+1,ω,by go_num,J,bel (belA f _) x⟩
      case measure=>simp[intOf];omega
    have y:Hid (a.all (cd p)=true):=ik _ _ λq h=>B q h ω;go_wp2;go_ret;exact⟨by rw[z.o,y.o];simp[D.o],f⟩
  have k6:(k==6)=false:=by simpa using hk6
  have k7:(k==7)=false:=by simpa using hk7
  have HK:Hid (k≠6/\k≠7):=⟨hk6,hk7⟩
  go_in;go_wp2_with fail;go_loopw [39] (λi wr=>∃j:Nat,j<=a/\i=.int .i64 j/\Hid (∀q (h:q<a.length),q<j->cd p a[q]=true)/\Hid (Below w w wr)) (λi _=>a.length-(intOf i).toNat)
  case atStart=>exact⟨0,ω,rfl,λq _ h=>ω,ζ1⟩
  case round =>
   obtain⟨j,hj,rfl,B,f⟩:=hrel;by_cases hlt:j<a
   ·have G:=zT j a;obtain⟨g,N,k1,X,a1,A1,I,rfl,hg,H,p0,Z,Y,r⟩:=cS (TysR.to W (ae f)) hlt;obtain⟨u,v⟩:=zd2 r (V.to (ae f))
    cases hsm:cd p a[j] with
    | false =>
     have y:Hid (a.all (cd p)=false):=iJ _ _ j hlt hsm;have d:=η hsm;go_wp2_with (go_at_call 189;refine (E j hlt _ _ (v.to (ae ζ1)) (u.to (ae ζ1))).mono ?_;rw[d.o];rintro e F ⟨rfl,x⟩);go_ret;exact⟨by rw[z.o,y.o];simp,bel (belA f _) x⟩
    | true =>
     have J:Hid (∀q (h:q<a.length),q<j+1->cd p a[q]=true):=λq h hq=>by
      by_cases e:q=j
      ·subst e;exact hsm
      exact B q h ω
     have d:=η hsm;go_wp2_with (go_at_call 189;refine (E j hlt _ _ (v.to (ae ζ1)) (u.to (ae ζ1))).mono ?_;rw[d.o];rintro e F ⟨rfl,x⟩);go_roundw
     case rel=>exact⟨j+1,ω,by go_num,J,bel (belA f _) x⟩
     case measure=>simp[intOf];omega
   have y:Hid (a.all (cd p)=true):=ik _ _ λq h=>B q h ω;go_wp2;go_ret;exact⟨by rw[z.o,y.o];simp[HK.o.1,HK.o.2],f⟩
def cZ (p:Pg) (t:Ty):Bool:=ag t&&cd p t
def ci (p:Pg) (t:Ty):Bool:=cZ p t&&dB t
variable {cs:List Value}
def known_at {c:CB} {p:Pg} {t:Ty} {w:À} (hc:ChkR w (lo w) c p) (hr:TyR w (lo w) cs t):Calls prog 189 #[c.b,cs.toArray] w λe w'=>e=.returned (.bool (cd p t))/\Below w w w':=wI c p _ cs t w (υ _) hc hr
def wO {t:Ty} {w:À} (hr:TyR w (lo w) cs t):Calls prog 188 #[cs.toArray] w λe w'=>e=.returned (.bool (ag t))/\Below w w w':=tY _ cs t w (υ _) hr
def qW {t:Ty} {w:À} (hr:TyR w (lo w) cs t):Calls prog 139 #[cs.toArray] w λe w'=>e=.returned (.bool (dB t))/\Below w w w':=stor_any _ cs t w (υ _) hr
end
section
variable (c:CB) (p:Pg) (cs:List Value) (t:Ty) (w:À) (hck:ChkR w (lo w) c p) (hr:TyR w (lo w) cs t)
include c p cs t w hck hr
theorem gM:Calls prog 138 #[c.b,cs.toArray] w λe w'=>e=.returned (.bool (cZ p t))/\Below w w w':=by
 obtain⟨k,s,a,A,cap,rfl,h,_,u,m⟩:=ap hr;have i:Hid (cZ p t=(ag t&&cd p t)):=rfl;obtain⟨n,j⟩:=zd2 hck hr
 cases h1:ag t<;>cases h2:cd p t
 all_goals
  obtain⟨f,l⟩:=zd2 h1 h2;go_in;go_wp2_with (first|(go_at_call 188;refine (wO (j.to (ae ζ1))).mono ?_;rw[f.o];rintro e r ⟨rfl,d⟩;have h:=(d.cell (p:=⟨w,0,none⟩) Θ);have x:=(d.cell (p:=⟨w,1,none⟩) Θ);have v:=(d.cell (p:=⟨w,2,none⟩) Θ))|(go_at_call 189;refine (known_at (n.to (ae (bel ζ1 d))) (j.to (ae (bel ζ1 d)))).mono ?_;rw[l.o];rintro e q ⟨rfl,g⟩));go_ret;first
  | exact⟨by rw[i.o,f.o,l.o];rfl,bel (bel ζ1 d) g⟩
  | exact⟨by rw[i.o,f.o];rfl,bel ζ1 d⟩
theorem dQ:Calls prog 100 #[c.b,cs.toArray] w λe w'=>e=.returned (.bool (ci p t))/\Below w w w':=by
 obtain⟨k,s,a,A,cap,rfl,h,_,u,m⟩:=ap hr;have i:Hid (ci p t=(cZ p t&&dB t)):=rfl;obtain⟨n,j⟩:=zd2 hck hr
 cases h1:cZ p t<;>cases h2:dB t
 all_goals
  obtain⟨f,l⟩:=zd2 h1 h2;go_in;go_wp2_with (first|(go_at_call 138;refine (gM c p _ t _ (n.to (ae ζ1)) (j.to (ae ζ1))).mono ?_;rw[f.o];rintro e r ⟨rfl,d⟩;have h:=(d.cell (p:=⟨w,0,none⟩) Θ);have x:=(d.cell (p:=⟨w,1,none⟩) Θ);have v:=(d.cell (p:=⟨w,2,none⟩) Θ))|(go_at_call 139;refine (qW (j.to (ae (bel ζ1 d)))).mono ?_;rw[l.o];rintro e q ⟨rfl,g⟩));go_ret;first
  | exact⟨by rw[i.o,f.o,l.o];rfl,bel (bel ζ1 d) g⟩
  | exact⟨by rw[i.o,f.o];rfl,bel ζ1 d⟩
end
def oneF (seen:List (List UInt8)) (s:List UInt8):Option Value:=if s∈seen then some (.int .i64 1) else none
def pe (seen:List (List UInt8)) (s:List UInt8) (t:List UInt8):upd (oneF seen) s (some (.int .i64 1)) t=oneF (s::seen) t:=by
 unfold upd oneF;by_cases h:t=s<;>simp[h]
def pu (w:À) (b n:Nat) (seen:List (List UInt8)) (s:List UInt8) (r:Bool) (e:Ending) (w':À):Prop:=
 e=.returned (.bool (!decide (s∈seen)&&r))/\w.grownBy w' (some b)/\(s∉seen->SMap w' b (n+1) (oneF (s::seen)))
set_option maxRecDepth 1000000 in
def zfOnce {p:Prop} (h:p:=by
 obtain⟨m,l,f⟩:=zd3 hm hn hs;have r:=cR hm hs;by_cases d:s.data.toList∈seen
 ·have k:(oneF seen s.data.toList).getD (.int .i64 0)=.int .i64 1:=by unfold oneF;rw[if_pos d];rfl
  rw[k] at r;have q:=η d;go_in;go_wp2_with (refine ak _ rfl _ _ _ 101 (.inl rfl) 3 (fL underlying9) underlying101 b n _ rfl m l s.data.toList (s:Vl) (.int .i64 2) rfl rfl (keyOf_string_mk underlying9 f) ?_;intro a g j;have i:(Instr.lookup 101 (.map (some b)) (s:Vl) false).run prog a=.ok (.int .i64 2) a:=by (rw[cR g f.o];unfold upd;rw[if_pos rfl];rfl));go_ret;exact⟨by rw[decide_eq_true q.o];rfl,j,λh=>absurd q.o h⟩
 have k:(oneF seen s.data.toList).getD (.int .i64 0)=.int .i64 0:=by unfold oneF;rw[if_neg d];rfl
 have v:(oneF seen s.data.toList).isSome=false:=by unfold oneF;rw[if_neg d];rfl
 rw[k] at r;obtain⟨x,q⟩:=zd2 v d
 first
  | guard_hyp kk0:True
    cases hr:aX s.data.toList
  | guard_hyp kk1:True
    cases hr:aC s.data.toList
  | cases hr:fJ s.data.toList
 all_goals
  have u:=η hr;go_in
  first
   | guard_hyp kk0:True
     go_wp2_with (first|(refine ak _ rfl _ _ _ 101 (.inl rfl) 3 (fL underlying9) underlying101 b n _ rfl m l s.data.toList (s:Vl) (.int .i64 1) rfl rfl (keyOf_string_mk underlying9 f) ?_;intro a g j;have i:(Instr.lookup 101 (.map (some b)) (s:Vl) false).run prog a=.ok (.int .i64 1) a:=by (rw[cR g f.o];unfold upd;rw[if_pos rfl];rfl))|(go_at_call 98;refine (nl s _ f).mono ?_;rw[u.o];rintro e w' ⟨rfl,rfl⟩))
   | guard_hyp kk1:True
     go_wp2_with (first|(refine ak _ rfl _ _ _ 101 (.inl rfl) 3 (fL underlying9) underlying101 b n _ rfl m l s.data.toList (s:Vl) (.int .i64 1) rfl rfl (keyOf_string_mk underlying9 f) ?_;intro a g j;have i:(Instr.lookup 101 (.map (some b)) (s:Vl) false).run prog a=.ok (.int .i64 1) a:=by (rw[cR g f.o];unfold upd;rw[if_pos rfl];rfl))|(go_at_call 95;refine (rV s _ f).mono ?_;rw[u.o];rintro e w' ⟨rfl,rfl⟩))
   | go_wp2_with (first|(refine ak _ rfl _ _ _ 101 (.inl rfl) 3 (fL underlying9) underlying101 b n _ rfl m l s.data.toList (s:Vl) (.int .i64 1) rfl rfl (keyOf_string_mk underlying9 f) ?_;intro a g j;have i:(Instr.lookup 101 (.map (some b)) (s:Vl) false).run prog a=.ok (.int .i64 1) a:=by (rw[cR g f.o];unfold upd;rw[if_pos rfl];rfl))|(go_at_call 140;refine (rW s _ f).mono ?_;rw[u.o];rintro e w' ⟨rfl,rfl⟩))
  go_ret;exact⟨by rw[decide_eq_false q.o];rfl,j,λ_=>by rw[x.o] at g;exact g.congr (pe _ _)⟩) :p:=h
section
variable (b n:Nat) (s:Ê) (seen:List (List UInt8)) (w:À) (hm:SMap w b n (oneF seen)) (hn:n<maxLen) (hs:s.size<=maxLen)
include b n s seen w hm hn hs
theorem once_lower:Calls prog 94 #[.map (some b),s,.func (.func 98) #[] #[]] w (pu w b n seen s.data.toList (aX s.data.toList)):=by
 have kk0:=trivial;exact zfOnce
theorem once_upper:Calls prog 94 #[.map (some b),s,.func (.func 95) #[] #[]] w (pu w b n seen s.data.toList (aC s.data.toList)):=by
 have kk1:=trivial;exact zfOnce
theorem once_param:Calls prog 94 #[.map (some b),s,.func (.func 140) #[] #[]] w (pu w b n seen s.data.toList (fJ s.data.toList)):=by
 have kk2:=trivial;exact zfOnce
end
end
section
open Proofs.Tryz RowKit Maps WideMaps ChangeMaps
def uniq {α:Type} (nm:α->List UInt8) (right:List UInt8->Bool) (ok:α->Bool):List (List UInt8)->List α->Bool
 | _,[]=>true
 | seen,x::xs=>(!decide (nm x∈seen)&&right (nm x))&&(ok x&&uniq nm right ok (nm x::seen) xs)
variable {α:Type} {j:Nat}
def bk {l:List α} (h:j<l):l.drop j=l[j]::l.drop (j+1):=(List.drop_eq_getElem_cons h)
variable {right:List UInt8->Bool} {seen:List (List UInt8)}
def iF {nm:α->List UInt8} {ok:α->Bool} {l:List α} (h:j<l) (hb:(!decide (nm l[j]∈seen)&&right (nm l[j]))=false):uniq nm right ok seen (l.drop j)=false:=by
 rw[bk h,uniq,hb];rfl
def ed {nm:α->List UInt8} {ok:α->Bool} {l:List α} (h:j<l) (hb:ok l[j]=false):uniq nm right ok seen (l.drop j)=false:=by
 rw[bk h,uniq,hb];simp
def iG {nm:α->List UInt8} {ok:α->Bool} {l:List α} (h:j<l) (h1:(!decide (nm l[j]∈seen)&&right (nm l[j]))=true) (h2:ok l[j]=true):uniq nm right ok seen (l.drop j)=uniq nm right ok (nm l[j]::seen) (l.drop (j+1)):=by
 rw[bk h,uniq,h1,h2];rfl
def gi {nm:α->List UInt8} {ok:α->Bool} {l:List α} (h:¬j<l):uniq nm right ok seen (l.drop j)=true:=by
 rw[ε ω];rfl
def ja {a:Bool} {s:List UInt8} (h:(!decide (s∈seen)&&a)=true):s∉seen:=by
 intro b;rw[decide_eq_true b] at h;exact absurd h Θ
variable {a:À}
def belG {w b:À} {r:Nat} (h:Below w w a) (hg:a.grownBy b (some r)) (hr:w<=r):Below w w b:=
 h.grown hg h.size λk e=>by injection e with e;omega
def belC {w wr:À} (hb:Below w w wr) {a:Addr} {v:Value} (h:w.cell? a=some v):wr.cell? a=some v:=(hb.cell (World.block_lt_of_cell? w a h)).trans h
def mc (w:À):SMap (w.alloc (.map #[] 0)) w 0 (oneF []):=(MapIs.made prog 9 Lit.string w).congr λs=>by simp[oneF]
def kh (w:À) (ob:Obj):SMap ((w.alloc ob).alloc (.map #[] 0)) (w+1) 0 (oneF []):=by
 have:=mc (w.alloc ob);simpa using this
def Fld.nm (f:Fld):List UInt8:=f.name.data.toList
def de (p:Pg) (l:List Fld):Bool:=uniq Fld.nm aX (λf=>ci p f.type) [] l
def funP (p:Pg) (f:Fn):Bool:=uniq Fld.nm fJ (λf=>cZ p f.type) [] f.params&&(cZ p f.result&&gg f.slots f.params)
def cK (c:CB) (p:Pg) (v:Value) (l:List Fld) (w:À) (hck:ChkR w (lo w) c p) (hf:FldsR w (lo w) v l):Calls prog 99 #[c.b,v] w λe w'=>e=.returned (.bool (de p l))/\Below w w w':=by
 obtain⟨A,cap,rfl⟩:=hf.form;have ak:=hf.le9;obtain⟨X,HF⟩:=zd2 hck hf;have aj:=@run_makeMap prog;go_in;go_wp2_with fail;go_loopw [11] (λi wr=>∃(j:Nat) (d:List (List UInt8)),j<=l/\i=.int .i64 j/\Hid (de p l=uniq Fld.nm aX (λf=>ci p f.type) d (l.drop j))/\Hid (Below w w wr)/\Hid (SMap wr w j (oneF d))) (λi _=>l.length-(intOf i).toNat)
 case atStart=>exact⟨0,[],ω,rfl,rfl,ζ1,(MapIs.made prog 9 Lit.string w).congr λs=>by simp[oneF]⟩
 case round =>
  obtain⟨j,d,hj,rfl,z,n,B⟩:=hrel;have ab:w.heap.size<wr:=B.lt;by_cases hlt:j<l
  ·obtain⟨g,ai,U,M,V,Y,u,rfl,hg,ee,T,R,O,N,E,D⟩:=dw HF hlt;replace T:=belC n T;replace R:=belC n R;replace O:=belC n O;replace N:=belC n N;obtain⟨G,x⟩:=zd2 D E;have F:j<maxLen:=by unfold maxLen;omega
   have I:=η F
   cases h1:(!decide (l[j].nm∈d)&&aX l[j].nm) with
   | false =>
    have q:Hid (de p l=false):=by show _=_;rw[z.o];exact iF hlt h1
    have y:=η h1;go_wp2_with (go_at_call 94;refine (once_lower w j l[j].name d _ (B.alloc _) I x).mono ?_;rintro e L ⟨m,h,k⟩;rw[show (!decide (l[j].name.data.toList∈d)&&aX l[j].name.data.toList)=false from y.o] at m;subst m);go_ret;exact⟨by rw[q.o];rfl,belG (belA n _) h (υ _)⟩
   | true =>
    have W:=η (ja h1)
    cases h2:ci p l[j].type with
    | false =>
     have q:Hid (de p l=false):=by show _=_;rw[z.o];exact ed hlt h2
     obtain⟨y,J⟩:=zd2 h1 h2;go_wp2_with (first|(go_at_call 94;refine (once_lower w j l[j].name d _ (B.alloc _) I x).mono ?_;rintro e L ⟨m,h,k⟩;rw[show (!decide (l[j].name.data.toList∈d)&&aX l[j].name.data.toList)=true from y.o] at m;subst m;have r:=η (belG (belA n _) h (υ _));have e1:=h.C wr 1 (U:Vl);have e2:=h.C wr 2 (M:Vl);have e3:=h.C wr 3 (.slice Y V u))|(go_at_call 100;refine (dQ c p _ l[j].type _ (X.to (ae r)) (G.to (ae r))).mono ?_;rw[J.o];rintro e Z ⟨rfl,t⟩));go_ret;exact⟨by rw[q.o];rfl,bel r t⟩
    | true =>
     have q:Hid (de p l=uniq Fld.nm aX (λf=>ci p f.type) (l[j].nm::d) (l.drop (j+1))):=by show _=_;rw[z.o];exact iG hlt h1 h2
     obtain⟨y,J⟩:=zd2 h1 h2;go_wp2_with (first|(go_at_call 94;refine (once_lower w j l[j].name d _ (B.alloc _) I x).mono ?_;rintro e L ⟨m,h,k⟩;rw[show (!decide (l[j].name.data.toList∈d)&&aX l[j].name.data.toList)=true from y.o] at m;subst m;have r:=η (belG (belA n _) h (υ _));have e1:=h.C wr 1 (U:Vl);have e2:=h.C wr 2 (M:Vl);have e3:=h.C wr 3 (.slice Y V u);have H:=η (k W))|(go_at_call 100;refine (dQ c p _ l[j].type _ (X.to (ae r)) (G.to (ae r))).mono ?_;rw[J.o];rintro e Z ⟨rfl,t⟩));go_roundw
     case rel=>exact⟨j+1,_,ω,by go_num,q,bel r t,H.below t H.lt⟩
     case measure=>simp[intOf];omega
  have q:Hid (de p l=true):=by show _=_;rw[z.o];exact gi hlt
  go_wp2;go_ret;exact⟨by rw[q.o];rfl,n⟩
def oL (c:CB) (p:Pg) (cs:List Value) (f:Fn) (w:À) (hck:ChkR w (lo w) c p) (hf:FnR w (lo w) cs f):Calls prog 102 #[c.b,cs.toArray] w λe w'=>e=.returned (.bool (funP p f))/\Below w w w':=by
 obtain⟨A,q,k,s,a,B,cp,o,x,m,r,e,D,d,rfl,aw,J,R,ag,_⟩:=jB hf;have ax:=R.le9;obtain⟨HC,HF,HR⟩:=zd3 hck R ag;have HV:Hid (funP p f=(uniq Fld.nm fJ (λf=>cZ p f.type) [] f.params&&(cZ p f.result&&gg f.slots f.params))):=rfl;clear hck hf R ag J aw;obtain⟨l,hl⟩:=γ f.params
 rw[<-hl] at HV HF ax;rw[<-hl];clear hl;obtain⟨n,y⟩:=γ (.cells #[f.name,.slice A l q,k,s,.slice B a cp,f.slots,o,x,m,r,.slice D e d] 45:Obj)
 have az:=η y;have X:(w.alloc n).cell? ⟨w,2,none⟩=some (k:Vl):=by rw[y];simp
 have W:(w.alloc n).cell? ⟨w,3,none⟩=some (s:Vl):=by rw[y];simp
 have V:(w.alloc n).cell? ⟨w,4,none⟩=some (.slice B a cp):=by rw[y];simp
 have M:(w.alloc n).cell? ⟨w,5,none⟩=some (f.slots:Vl):=by rw[y];simp
 have N:(w.alloc n).cell? ⟨w,1,none⟩=some (.slice A l q):=by rw[y];simp
 have a2:Hid ((w.alloc n).cell? ⟨w,1,none⟩=some (.slice A l q)/\(w.alloc n).cell? ⟨w,2,none⟩=some (k:Vl)/\(w.alloc n).cell? ⟨w,3,none⟩=some (s:Vl)/\(w.alloc n).cell? ⟨w,4,none⟩=some (.slice B a cp)/\(w.alloc n).cell? ⟨w,5,none⟩=some (f.slots:Vl)):=⟨N,X,W,V,M⟩
 clear N X W V M y;have bd:=@run_makeMap prog;go_in;go_wp2_with fail;rw[<-az.o];go_loopw [12] (λi wr=>∃(j:Nat) (h:List (List UInt8)),j<=l/\i=.int .i64 j/\Hid (uniq Fld.nm fJ (λf=>cZ p f.type) [] l=uniq Fld.nm fJ (λf=>cZ p f.type) h (l.drop j))/\Hid (Below (w.alloc n).heap.size (w.alloc n) wr)/\Hid (SMap wr (w+1) j (oneF h))) (λi _=>l.length-(intOf i).toNat)
 case atStart=>exact⟨0,[],ω,rfl,rfl,ζ1,kh w n⟩
 case round =>
  obtain⟨j,h,hj,rfl,HU,E,HM⟩:=hrel;have a6:w.heap.size+1<wr:=HM.lt;by_cases hlt:j<l
  ·obtain⟨g,bc,k1,s1,a1,A1,U,rfl,hg,ee,p0,p1,p2,p3,J,af⟩:=dw HF hlt;have u:=η (bel (belA (belR w) n) E);replace p0:=belC u p0;replace p1:=belC u p1;replace p2:=belC u p2;replace p3:=belC u p3;obtain⟨ai,Y⟩:=zd2 af J;have ah:j<maxLen:=by unfold maxLen;omega
   have HJ:=η ah;clear af ee J ah
   cases h1:(!decide (l[j].nm∈h)&&fJ l[j].nm) with
   | false =>
    have I:Hid (funP p f=false):=by show _=_;rw[HV.o,HU.o,iF hlt h1];rfl
    have H:=η h1;clear h1;go_wp2_with (go_at_call 94;refine (once_param (w+1) j l[j].name h _ (HM.alloc _) HJ Y).mono ?_;rintro e w1 ⟨G,t,F⟩;rw[show (!decide (l[j].name.data.toList∈h)&&fJ l[j].name.data.toList)=false from H.o] at G;subst G;have z:=η (belG (belA E _) t Θ));go_ret;exact⟨by rw[I.o];rfl,bel ζ1 z⟩
   | true =>
    have aj:=η (ja h1)
    cases h2:cZ p l[j].type with
    | false =>
     have I:Hid (funP p f=false):=by show _=_;rw[HV.o,HU.o,ed hlt h2];rfl
     obtain⟨H,O⟩:=zd2 h1 h2;clear h1 h2;go_wp2_with (first|(go_at_call 94;refine (once_param (w+1) j l[j].name h _ (HM.alloc _) HJ Y).mono ?_;rintro e w1 ⟨G,t,F⟩;rw[show (!decide (l[j].name.data.toList∈h)&&fJ l[j].name.data.toList)=true from H.o] at G;subst G;have z:=η (belG (belA E _) t Θ);have e1:=t.C wr 1 (k1:Vl);have e2:=t.C wr 2 (s1:Vl);have e3:=t.C wr 3 (.slice A1 a1 U);clear F t)|(go_at_call 138;refine (gM c p _ l[j].type _ (HC.to (ae (bel (belA (belR w) n) z))) (ai.to (ae (bel (belA (belR w) n) z)))).mono ?_;rw[O.o];rintro e w2 ⟨rfl,L⟩));go_ret;exact⟨by rw[I.o];rfl,bel ζ1 (bel z L)⟩
    | true =>
     have I:Hid (uniq Fld.nm fJ (λf=>cZ p f.type) [] l=uniq Fld.nm fJ (λf=>cZ p f.type) (l[j].nm::h) (l.drop (j+1))):=by show _=_;rw[HU.o];exact iG hlt h1 h2
     obtain⟨H,O⟩:=zd2 h1 h2;clear h1 h2;go_wp2_with (first|(go_at_call 94;refine (once_param (w+1) j l[j].name h _ (HM.alloc _) HJ Y).mono ?_;rintro e w1 ⟨G,t,F⟩;rw[show (!decide (l[j].name.data.toList∈h)&&fJ l[j].name.data.toList)=true from H.o] at G;subst G;have z:=η (belG (belA E _) t Θ);have e1:=t.C wr 1 (k1:Vl);have e2:=t.C wr 2 (s1:Vl);have e3:=t.C wr 3 (.slice A1 a1 U);have Z:=η (F aj);clear F t)|(go_at_call 138;refine (gM c p _ l[j].type _ (HC.to (ae (bel (belA (belR w) n) z))) (ai.to (ae (bel (belA (belR w) n) z)))).mono ?_;rw[O.o];rintro e w2 ⟨rfl,L⟩));go_roundw
     case rel=>exact⟨j+1,_,ω,by go_num,I,bel z L,Z.below L Z.lt⟩
     case measure=>simp[intOf];omega
  have I:Hid (funP p f=(cZ p f.result&&gg f.slots l)):=by show _=_;rw[HV.o,HU.o,gi hlt];rfl
  obtain⟨N,X,W,V,M⟩:=a2.o;replace N:=belC E N;replace X:=belC E X;replace W:=belC E W;replace V:=belC E V;replace M:=belC E M;have u:=η (bel (belA (belR w) n) E)
  cases h1:cZ p f.result<;>cases h2:gg f.slots l
  all_goals
   obtain⟨H,O⟩:=zd2 h1 h2;clear h1 h2;go_wp2_with (first|(go_at_call 138;refine (gM c p _ f.result _ (HC.to (ae u)) (HR.to (ae u))).mono ?_;rw[H.o];rintro e w1 ⟨rfl,T⟩;have z:=η (bel u T);have d1:=belC T N;have d5:=belC T M)|(go_at_call 136;refine (jT _ _ _).mono ?_;rw[O.o];rintro e w' ⟨rfl,rfl⟩));go_ret
   exact⟨by rw[I.o,H.o];try rw[O.o]
            try rfl,z⟩
def only (b:Nat):Nat->Prop:=λk=>k=b
def Stp.imlo {own:Nat->Prop} {w w':À} (h:Stp own w w'):Sub (im own w) (lo w') w w':=λb hb=>⟨ρ hb.1 h.size,h.block b hb.1 hb.2⟩
def stpD {own:Nat->Prop} {w:À} (h:Stp own w a) (n:Nat):Stp own w (a.drewN n):=⟨h.os,h.tape,h.output,h.size,h.block⟩
def stpO {b:Nat} {w w':À} (h:Stp (only b) w a) (k:a.grownBy w' (some b)):Stp (only b) w w':=stpG h k λr e=>.inl (by injection e with e;exact e.symm)
def Ctr.nm (f:Ctr):List UInt8:=f.name.data.toList
def nD (p:Pg) (f:Fld):Bool:=bH f.name&&ci p f.type
def xH (p:Pg) (rec:Bool) (k:Ctr):Bool:=if rec then de p k.fields else k.fields.all (nD p)
def ie (d:Dcl):Bool:=match d.ctors with
 | []=>true
 | c0::rest=>d.record&&(!rest.isEmpty||(c0.name.toList != d.name.toList))
def fN (p:Pg) (seen:List (List UInt8)) (d:Dcl):Bool:=!ie d&&uniq Ctr.nm aC (xH p d.record) seen d.ctors
def gH (w:À) (bc n:Nat) (p:Pg) (seen:List (List UInt8)) (d:Dcl) (e:Ending) (w':À):Prop:=
 e=.returned (.bool (fN p seen d))/\Stp (only bc) w w'/\(fN p seen d=true->SMap w' bc (n+d.ctors) (oneF ((d.ctors.map Ctr.nm).reverse++seen)))
variable {seen':List (List UInt8)}
def pW {nm:α->List UInt8} {l:List α} (h:j<l) (e:seen'=((l.take j).map nm).reverse++seen):nm l[j]::seen'=((l.take (j+1)).map nm).reverse++seen:=by
 rw[List.take_succ_eq_append_getElem h,e,List.map_append,List.reverse_append];rfl
def sM {nm:α->List UInt8} {l:List α} (h:¬j<l) (e:seen'=((l.take j).map nm).reverse++seen):seen'=(l.map nm).reverse++seen:=by
 rw[List.take_of_length_le ω] at e;exact e
section
variable (c:CB) (p:Pg) (d:Dcl) (A:Option Addr) (q bc n:Nat) (seen:List (List UInt8)) (w:À)
def decl_bad (hd:DclR w (im (only bc) w) [.string d.name,.bool d.record,.slice A d.ctors q] d) (hb:ie d=true):Calls prog 96 #[c.b,.agg #[d.name,d.record,.slice A d.ctors q],.map (some bc)] w (gH w bc n p seen d):=by
 obtain⟨B,s,e,E,a⟩:=gG hd;obtain⟨rfl,rfl⟩:A=B/\q=s:=by simpa using e
 have f:Hid (fN p seen d=false):=by show fN _ _ _=_;unfold fN;rw[hb];rfl
 have F:=a.le9;by_cases l:d.ctors.length=0
 ·have y:((d.ctors.length:Int)==0)=true:=beq_iff_eq.2 ω;go_in;go_wp2_with fail;go_quiet (fail);go_wp2;go_ret;exact⟨by rw[f.o];rfl,stpD (stpA (Stp.refl _ _) _) _,λh=>by rw[f.o] at h;cases h⟩
 have y:((d.ctors.length:Int)==0)=false:=beq_eq_false_iff_ne.2 ω;have hlt:0<d.ctors.length:=ω
 have m:d.record=true/\(1<d.ctors.length\/(d.ctors[0].name.toList != d.name.toList)=true):=by
  unfold ie at hb;match hc:d.ctors,hlt with
  | c0::rest,_ =>
   simp only[hc] at hb;simp only[τ,Bool.or_eq_true] at hb;refine⟨hb.1,?_⟩;rcases hb.2 with h|h
   ·left;cases rest with|nil=>simp at h|cons=>simp
   right;simpa using h
 obtain⟨k,i⟩:=m;obtain⟨g,D,J,H,rfl,z,u,t,j,_⟩:=ew a hlt;simp only[Nat.zero_mul,Nat.add_zero] at u t;have G:g<w:=z.1;rw[k];by_cases r:1<d.ctors.length
 ·have x:decide ((1:Int)<(d.ctors.length:Int))=true:=decide_eq_true ω;go_in;go_wp2_with fail;go_quiet (fail);go_wp2;go_ret;exact⟨by rw[f.o];rfl,stpD (stpA (Stp.refl _ _) _) _,λh=>by rw[f.o] at h;cases h⟩
 have x:decide ((1:Int)<(d.ctors.length:Int))=false:=decide_eq_false ω;have v:(d.ctors[0].name.toList != d.name.toList)=true:=by rcases i with h|h;exact absurd h r;exact h
 have I:(d.ctors[0].name.toList==d.name.toList)=false:=by simpa using v
 go_in;go_wp2_with fail;go_quiet (fail);go_wp2;go_ret;exact⟨by rw[f.o];rfl,stpD (stpA (Stp.refl _ _) _) _,λh=>by rw[f.o] at h;cases h⟩
def qj (hb:ie d=false):0<d.ctors.length/\(d.record=true->d.ctors.length=1/\∀h:0<d.ctors.length,(d.ctors[0].name.toList != d.name.toList)=false):=by
 unfold ie at hb;match hc:d.ctors with
 | []=>simp[hc] at hb
 | c0::rest =>
  simp only[hc] at hb;refine⟨by simp,λhr=>?_⟩;rw[hr] at hb;simp only[Bool.true_and,Bool.or_eq_false_iff] at hb;obtain⟨b,a⟩:=hb
  cases rest with
  | nil=>exact⟨rfl,λ_=>by simpa using a⟩
  | cons=>simp at b
set_option maxRecDepth 1000000 in
def zfDecl {p:Prop} (h:p:=by
 obtain⟨v',e,L,x⟩:=hd;have x:CtrsR w (im (only bc) w) (.slice A d.ctors q) d.ctors:=by simp at e;rw[e.2];exact x
 first
  | guard_hyp kk0:True
    have HV:Hid (fN p seen d=uniq Ctr.nm aC (xH p true) seen d.ctors):=by show fN _ _ _=_;unfold fN;rw[hb,hr];rfl
  | have HV:Hid (fN p seen d=uniq Ctr.nm aC (xH p false) seen d.ctors):=by show fN _ _ _=_;unfold fN;rw[hb,hr];rfl
 have ar:=x.le9;obtain⟨T,O⟩:=qj d hb;have l1:((d.ctors.length:Int)==0)=false:=beq_eq_false_iff_ne.2 ω
 first
  | done
  | guard_hyp kk1:True
  | have l2:decide ((1:Int)<(d.ctors.length:Int))=false:=by have:=(O hr).1;exact decide_eq_false ω
    have l3:=(O hr).2 T;have l4:(d.ctors[0].name.toList==d.name.toList)=true:=by simpa using l3
    obtain⟨g0,ae,b8,b5,hA,bf,bd,bb,_⟩:=ew x T;simp only[Nat.zero_mul,Nat.add_zero] at bd bb;have bx:g0<w:=bf.1;subst hA
 obtain⟨l,U⟩:=γ d.ctors
 first
  | guard_hyp kk1:True
    have F:Hid (∀e G,(e=.returned (.bool (uniq Ctr.nm aC (xH p false) seen l))/\Stp (only bc) w G/\(uniq Ctr.nm aC (xH p false) seen l=true->SMap G bc (n+l) (oneF ((l.map Ctr.nm).reverse++seen))))->gH w bc n p seen d e G):=by
     intro e G h;unfold gH;rw[HV.o,<-U];exact h
    rw[<-U] at x ar hn l1
  | have F:Hid (∀e G,(e=.returned (.bool (uniq Ctr.nm aC (xH p true) seen l))/\Stp (only bc) w G/\(uniq Ctr.nm aC (xH p true) seen l=true->SMap G bc (n+l) (oneF ((l.map Ctr.nm).reverse++seen))))->gH w bc n p seen d e G):=by
     intro e G h;unfold gH;rw[HV.o,<-U];exact h
    rw[<-U] at x ar hn l1 l2
 rw[<-U];have b7:0<l.length:=by rw[U];exact T
 obtain⟨HC,HF,az,HN⟩:=zd4 hck x hm hn;clear hck x hm hn U HV hb hr O e
 first
  | guard_hyp kk1:True
    obtain⟨y,J⟩:=γ (.cells #[d.name,false,.slice A l q] 48:Obj)
  | obtain⟨y,J⟩:=γ (.cells #[d.name,true,.slice (some ⟨g0,ae,none⟩) l q] 48:Obj)
 have bk:=η J
 first
  | guard_hyp kk0:True
    have V:(w.alloc y).cell? ⟨w,1,none⟩=some (true:Vl):=by rw[J];simp
  | have V:(w.alloc y).cell? ⟨w,1,none⟩=some (false:Vl):=by rw[J];simp
 have bm:=η V;clear V J;go_in;go_wp2_with fail;go_quiet (fail);go_wp2_with fail;rw[<-bk.o]
 first
  | guard_hyp kk0:True
    go_loopw [38] (λi wr=>∃(j:Nat) (seen':List (List UInt8)),j<=l/\i=.int .i64 j/\Hid (uniq Ctr.nm aC (xH p true) seen l=uniq Ctr.nm aC (xH p true) seen' (l.drop j))/\Hid (seen'=((l.take j).map Ctr.nm).reverse++seen)/\Hid (Stp (only bc) (w.alloc y) wr)/\Hid (SMap wr bc (n+j) (oneF seen'))) (λi _=>l.length-(intOf i).toNat)
  | go_loopw [38] (λi wr=>∃(j:Nat) (seen':List (List UInt8)),j<=l/\i=.int .i64 j/\Hid (uniq Ctr.nm aC (xH p false) seen l=uniq Ctr.nm aC (xH p false) seen' (l.drop j))/\Hid (seen'=((l.take j).map Ctr.nm).reverse++seen)/\Hid (Stp (only bc) (w.alloc y) wr)/\Hid (SMap wr bc (n+j) (oneF seen'))) (λi _=>l.length-(intOf i).toNat)
 case atStart=>exact⟨0,seen,ω,rfl,rfl,rfl,stpD (Stp.refl _ _) _,fH (az.alloc _) _⟩
 case round =>
  obtain⟨j,seen',hj,rfl,H,HS,HB,HM⟩:=hrel;have B:=η ((stpA (Stp.refl (only bc) w) y).trans HB);have bz:bc<w:=az.lt;have b6:w.heap.size<wr:=by have:=HB.size;simp at this;omega
  by_cases hlt:j<l
  ·have u1:=zT j l
   first
    | guard_hyp kk1:True
      obtain⟨g,aq,A1,q1,rfl,hg,p0,Z,I,L,u⟩:=ew HF hlt
    | obtain⟨g,aq,A1,q1,hA,hg,p0,Z,I,L,u⟩:=ew HF hlt
      obtain⟨rfl,rfl⟩:g0=g/\ae=aq:=by simpa using hA
      clear hA
   replace p0:=au p0 B.sub hg;replace Z:=au Z B.sub hg;have V:=au (Q:=im (only bc) (w.alloc y)) bm HB.sub ⟨by simp,by unfold only;simp;omega⟩;obtain⟨M,Y⟩:=zd2 u L;have av:n+j<maxLen:=by have:=HN.o;omega
   have HJ:=η av;clear I L av u
   cases h1:(!decide (l[j].nm∈seen')&&aC l[j].nm) with
    | false =>
     first
      | guard_hyp kk0:True
        have m:Hid (uniq Ctr.nm aC (xH p true) seen l=false):=by show _=_;rw[H.o];exact iF hlt h1
      | have m:Hid (uniq Ctr.nm aC (xH p false) seen l=false):=by show _=_;rw[H.o];exact iF hlt h1
     have N:=η h1;clear h1;go_wp2_with (go_at_call 94;refine (once_upper bc (n+j) l[j].name seen' _ (HM.alloc _) HJ Y).mono ?_;rintro e w1 ⟨z,f,s⟩;rw[show (!decide (l[j].name.data.toList∈seen')&&aC l[j].name.data.toList)=false from N.o] at z;subst z;have D:=η (stpO (stpA B _) f));go_ret;exact F _ _ ⟨by rw[m.o];rfl,D,λh=>by rw[m.o] at h;cases h⟩
    | true =>
     obtain⟨ah,ax⟩:=zd2 (ja h1) (pW (nm:=Ctr.nm) hlt HS)
     first
      | guard_hyp kk0:True
        cases h2:de p l[j].fields with
         | false =>
          have m:Hid (uniq Ctr.nm aC (xH p true) seen l=false):=by show _=_;rw[H.o];exact ed hlt h2
          obtain⟨N,H2⟩:=zd2 h1 h2;clear h1 h2;go_wp2_with (first|(go_at_call 94;refine (once_upper bc (n+j) l[j].name seen' _ (HM.alloc _) HJ Y).mono ?_;rintro e w1 ⟨z,f,s⟩;rw[show (!decide (l[j].name.data.toList∈seen')&&aC l[j].name.data.toList)=true from N.o] at z;subst z;have D:=η (stpO (stpA B _) f);have B2:=η (stpO (stpA HB _) f);have e1:=f.C wr 1 (.slice A1 l[j].fields.length q1);have aw:=f.cell (a:=⟨w,1,none⟩) (v:=.bool true) (belC (belA (belR wr) _) V) Φ;have E:=η (s ah);clear s f)|(go_at_call 99;refine (cK c p _ l[j].fields _ (HC.to D.imlo) (FldsR.to M D.imlo)).mono ?_;rw[H2.o];rintro e w2 ⟨rfl,X⟩));go_ret;exact F _ _ ⟨by rw[m.o];rfl,stpB D X,λh=>by rw[m.o] at h;cases h⟩
         | true =>
          have m:Hid (uniq Ctr.nm aC (xH p true) seen l=uniq Ctr.nm aC (xH p true) (l[j].nm::seen') (l.drop (j+1))):=by show _=_;rw[H.o];exact iG hlt h1 h2
          obtain⟨N,H2⟩:=zd2 h1 h2;clear h1 h2;go_wp2_with (first|(go_at_call 94;refine (once_upper bc (n+j) l[j].name seen' _ (HM.alloc _) HJ Y).mono ?_;rintro e w1 ⟨z,f,s⟩;rw[show (!decide (l[j].name.data.toList∈seen')&&aC l[j].name.data.toList)=true from N.o] at z;subst z;have D:=η (stpO (stpA B _) f);have B2:=η (stpO (stpA HB _) f);have e1:=f.C wr 1 (.slice A1 l[j].fields.length q1);have aw:=f.cell (a:=⟨w,1,none⟩) (v:=.bool true) (belC (belA (belR wr) _) V) Φ;have E:=η (s ah);clear s f)|(go_at_call 99;refine (cK c p _ l[j].fields _ (HC.to D.imlo) (FldsR.to M D.imlo)).mono ?_;rw[H2.o];rintro e w2 ⟨rfl,X⟩));go_roundw
          case rel=>exact⟨j+1,_,ω,by go_num,m,ax,stpB B2 X,E.below X E.lt⟩
          case measure=>simp[intOf];omega
      | have a3:=M.le9
        have N:=η h1;clear h1;go_wp2_with (go_at_call 94;refine (once_upper bc (n+j) l[j].name seen' _ (HM.alloc _) HJ Y).mono ?_;rintro e w1 ⟨z,f,s⟩;rw[show (!decide (l[j].name.data.toList∈seen')&&aC l[j].name.data.toList)=true from N.o] at z;subst z;have D:=η (stpO (stpA B _) f);have B2:=η (stpO (stpA HB _) f);have e1:=f.C wr 1 (.slice A1 l[j].fields.length q1);have aw:=f.cell (a:=⟨w,1,none⟩) (v:=.bool false) (belC (belA (belR wr) _) V) Φ;have E:=η (s ah);clear s f);obtain⟨wo,rfl⟩:=γ wr
        obtain⟨k,u⟩:=γ (l[j].fields)
        have a5:Hid (FldsR w (im (only bc) w) (.slice A1 k q1) k):=by rw[u];exact M
        have ag:Hid (xH p false l[j]=k.all (nD p)):=by rw[u];rfl
        rw[<-u];rw[<-u] at a3;clear u M;go_loopw [57] (λi wr=>∃(t:Nat),t<=k/\i=.int .i64 t/\Hid (∀q (h:q<k.length),q<t->nD p k[q]=true)/\Hid (Below w1 w1 wr)) (λi _=>k.length-(intOf i).toNat)
        case atStart=>exact⟨0,ω,rfl,λq _ h=>ω,belR _⟩
        case round =>
         obtain⟨t,ht,rfl,HQ,HT⟩:=hrel;have r:=η (stpB D HT);by_cases R:t<k
         ·have u2:=zT t k;obtain⟨g2,bu,k1,s1,a1,A2,b2,rfl,W,ee,p0,Z,p2,p3,L,I⟩:=dw a5 R;replace p0:=au p0 r.sub W;replace Z:=au Z r.sub W;replace p2:=au p2 r.sub W;replace p3:=au p3 r.sub W;have ay:=η I;clear I ee
          cases h3:bH k[t].name with
           | false =>
            obtain⟨z1,z2,z3⟩:=se_f h3;have z4:(k[t].name.toList != [])=true:=by simpa using z1
            have m:Hid (uniq Ctr.nm aC (xH p false) seen l=false):=by
             show _=_;rw[H.o];exact ed hlt (by rw[ag.o];exact iJ _ _ t R (by unfold nD;rw[h3];rfl))
            clear h3;go_wp2;go_ret;exact F _ _ ⟨by rw[m.o];rfl,stpA r _,λh=>by rw[m.o] at h;cases h⟩
           | true =>
            obtain⟨z1,z2,z3⟩:=se_t h3;have z4:(k[t].name.toList != [])=false:=by simpa using z1
            cases h4:ci p k[t].type with
             | false =>
              have m:Hid (uniq Ctr.nm aC (xH p false) seen l=false):=by
               show _=_;rw[H.o];exact ed hlt (by rw[ag.o];exact iJ _ _ t R (by unfold nD;rw[h4];simp))
              have H4:=η h4;clear h3 h4;go_wp2_with (go_at_call 100;refine (dQ c p _ k[t].type _ (HC.to (stpA r _).imlo) (ay.to (stpA r _).imlo)).mono ?_;rw[H4.o];rintro e w3 ⟨rfl,af⟩);go_ret;exact F _ _ ⟨by rw[m.o];rfl,stpB (stpA r _) af,λh=>by rw[m.o] at h;cases h⟩
             | true =>
              have bi:Hid (∀q (h:q<k.length),q<t+1->nD p k[q]=true):=λq h hq=>by
               by_cases e:q=t
               ·subst e;unfold nD;rw[h3,h4];rfl
               exact HQ q h ω
              have H4:=η h4;clear h3 h4;go_wp2_with (go_at_call 100;refine (dQ c p _ k[t].type _ (HC.to (stpA r _).imlo) (ay.to (stpA r _).imlo)).mono ?_;rw[H4.o];rintro e w3 ⟨rfl,af⟩);go_roundw
              case rel=>exact⟨t+1,ω,by go_num,bi,bel (belA HT _) af⟩
              case measure=>simp[intOf];omega
         have u2:=zF t k
         have m:Hid (uniq Ctr.nm aC (xH p false) seen l=uniq Ctr.nm aC (xH p false) (l[j].nm::seen') (l.drop (j+1))):=by
          show _=_;rw[H.o];exact iG hlt N (by rw[ag.o];exact ik _ _ λq h=>HQ q h ω)
         go_wp2_with fail;go_roundw
         case rel=>exact⟨j+1,_,ω,by go_num,m,ax,stpB B2 HT,E.below HT E.lt⟩
         case measure=>simp[intOf];omega
  have u1:=zF j l
  first
   | guard_hyp kk0:True
     have m:Hid (uniq Ctr.nm aC (xH p true) seen l=true):=by show _=_;rw[H.o];exact gi hlt
   | have m:Hid (uniq Ctr.nm aC (xH p false) seen l=true):=by show _=_;rw[H.o];exact gi hlt
  have HE:=η (sM hlt HS);obtain rfl:j=l:=ω;go_wp2;go_ret;exact F _ _ ⟨by rw[m.o];rfl,B,λ_=>by rw[<-HE.o];exact HM⟩) :p:=h
def decl_rec (hck:ChkR w (im (only bc) w) c p) (hd:DclR w (im (only bc) w) [.string d.name,.bool true,.slice A d.ctors q] d) (hm:SMap w bc n (oneF seen)) (hn:n+d.ctors<maxLen) (hb:ie d=false) (hr:d.record=true):Calls prog 96 #[c.b,.agg #[d.name,true,.slice A d.ctors q],.map (some bc)] w (gH w bc n p seen d):=by
 have kk0:=trivial;exact zfDecl
def decl_var (hck:ChkR w (im (only bc) w) c p) (hd:DclR w (im (only bc) w) [.string d.name,.bool false,.slice A d.ctors q] d) (hm:SMap w bc n (oneF seen)) (hn:n+d.ctors<maxLen) (hb:ie d=false) (hr:d.record=false):Calls prog 96 #[c.b,.agg #[d.name,false,.slice A d.ctors q],.map (some bc)] w (gH w bc n p seen d):=by
 have kk1:=trivial;exact zfDecl
end
def tc (c:CB) (p:Pg) (cs:List Value) (d:Dcl) (bc n:Nat) (seen:List (List UInt8)) (w:À) (hck:ChkR w (im (only bc) w) c p) (hd:DclR w (im (only bc) w) cs d) (hm:SMap w bc n (oneF seen)) (hn:n+d.ctors<maxLen) :
 Calls prog 96 #[c.b,cs.toArray,.map (some bc)] w (gH w bc n p seen d):=by
 obtain⟨A,q,rfl,_⟩:=gG hd
 cases hb:ie d with
 | true=>exact decl_bad c p d A q bc n seen w hd hb
 | false =>
  cases hr:d.record with
  | true=>rw[hr] at hd;exact decl_rec c p d A q bc n seen w hck hd hm hn hb hr
  | false=>rw[hr] at hd;exact decl_var c p d A q bc n seen w hck hd hm hn hb hr
def uz {w w1:À} {ob:Obj} (h:Below (w.alloc ob).heap.size (w.alloc ob) w1):w.heap.size<w1:=by
 have:=h.size;simp at this;omega
def Vr.nm (f:Vr):List UInt8:=f.name.data.toList
def Hd.nm (f:Hd):List UInt8:=f.msg.data.toList
def hdOk (p:Pg) (h:Hd):Bool:=de p h.params&&gg h.slots h.params
def cQ (pol most:Int):Bool:=if pol=0\/pol=2 then most==0 else if pol=1 then decide (1<=most)&&decide (most<=100) else false
def acP (p:Pg) (a:Ac):Bool:=(de p a.params&&gg a.slots a.params)&&(uniq Vr.nm aX (λv=>ci p v.type) [] a.vars&&(uniq Hd.nm aC (hdOk p) [] a.on&&cQ a.policy a.most))
def qu (c:CB) (p:Pg) (cs:List Value) (f:Ac) (w:À) (hck:ChkR w (lo w) c p) (hf:AcR w (lo w) cs f):Calls prog 97 #[c.b,cs.toArray] w λe w'=>e=.returned (.bool (acP p f))/\Below w w w':=by
 obtain⟨A,q,B,cp,D,d,rfl,ca,U,bh,az,a2⟩:=jD hf;have cb:=az.le9;have bl:=a2.le9;obtain⟨HC,HF,bj,bk⟩:=zd4 hck bh az a2;have HV:Hid (acP p f=((de p f.params&&gg f.slots f.params)&&(uniq Vr.nm aX (λv=>ci p v.type) [] f.vars&&(uniq Hd.nm aC (hdOk p) [] f.on&&cQ f.policy f.most)))):=rfl;clear hck hf bh U ca az a2;obtain⟨t,am⟩:=γ f.vars
 obtain⟨n,an⟩:=γ f.on
 rw[<-am] at HV bj cb;rw[<-an] at HV bk bl;rw[<-am,<-an];clear am an;obtain⟨y,R⟩:=γ (.cells #[f.name,.slice A f.params q,f.slots,.slice B t cp,.slice D n d,f.policy,f.most] 54:Obj)
 have a7:=η R;have X:(w.alloc y).cell? ⟨w,1,none⟩=some (.slice A f.params q):=by rw[R];simp
 have W:(w.alloc y).cell? ⟨w,2,none⟩=some (f.slots:Vl):=by rw[R];simp
 have V:(w.alloc y).cell? ⟨w,3,none⟩=some (.slice B t cp):=by rw[R];simp
 have L:(w.alloc y).cell? ⟨w,4,none⟩=some (.slice D n d):=by rw[R];simp
 have H:(w.alloc y).cell? ⟨w,5,none⟩=some (f.policy:Vl):=by rw[R];simp
 have M:(w.alloc y).cell? ⟨w,6,none⟩=some (f.most:Vl):=by rw[R];simp
 have aj:Hid ((w.alloc y).cell? ⟨w,1,none⟩=some (.slice A f.params q)/\(w.alloc y).cell? ⟨w,2,none⟩=some (f.slots:Vl)/\(w.alloc y).cell? ⟨w,3,none⟩=some (.slice B t cp)/\(w.alloc y).cell? ⟨w,4,none⟩=some (.slice D n d)/\(w.alloc y).cell? ⟨w,5,none⟩=some (f.policy:Vl)/\(w.alloc y).cell? ⟨w,6,none⟩=some (f.most:Vl)):=⟨X,W,V,L,H,M⟩
 clear X W V L H M R;have cl:=@run_makeMap prog
 cases h1:de p f.params with
 | false =>
  have I:Hid (acP p f=false):=by show _=_;rw[HV.o,h1];rfl
  have E:=η h1;clear h1;go_in;go_wp2_with (go_at_call 99;rw[<-a7.o];refine (cK c p _ f.params _ (HC.to (ae ζ1)) (FldsR.to HF (ae ζ1))).mono ?_;rw[E.o];rintro e G ⟨rfl,m⟩;have B1:=η m;obtain⟨X,W,V,L,H,M⟩:=aj.o;clear X W V L H M m);go_ret;exact⟨by rw[I.o];rfl,bel ζ1 B1⟩
 | true =>
  cases h2:gg f.slots f.params with
  | false =>
   have I:Hid (acP p f=false):=by show _=_;rw[HV.o,h2];simp
   obtain⟨E,O⟩:=zd2 h1 h2;clear h1 h2;go_in;go_wp2_with (first|(go_at_call 99;rw[<-a7.o];refine (cK c p _ f.params _ (HC.to (ae ζ1)) (FldsR.to HF (ae ζ1))).mono ?_;rw[E.o];rintro e G ⟨rfl,m⟩;have B1:=η m;obtain⟨X,W,V,L,H,M⟩:=aj.o;have d1:=belC m X;have d2:=belC m W;clear X W V L H M m)|(go_at_call 136;refine (jT _ _ _).mono ?_;rw[O.o];rintro e w' ⟨rfl,rfl⟩));go_ret;exact⟨by rw[I.o];rfl,bel ζ1 B1⟩
  | true =>
   have a6:Hid (acP p f=(uniq Vr.nm aX (λv=>ci p v.type) [] t&&(uniq Hd.nm aC (hdOk p) [] n&&cQ f.policy f.most))):=by show _=_;rw[HV.o,h1,h2];rfl
   obtain⟨E,O⟩:=zd2 h1 h2;clear h1 h2 HV;go_in;go_wp2_with (first|(go_at_call 99;rw[<-a7.o];refine (cK c p _ f.params _ (HC.to (ae ζ1)) (FldsR.to HF (ae ζ1))).mono ?_;rw[E.o];rintro e G ⟨rfl,m⟩;have B1:=η m;have bi:=uz m;obtain⟨X,W,V,L,H,M⟩:=aj.o;have d1:=belC m X;have d2:=belC m W;have d3:=belC m V;clear X W V L H M m)|(go_at_call 136;refine (jT _ _ _).mono ?_;rw[O.o];rintro e w' ⟨rfl,rfl⟩));go_loopw [30] (λi wr=>∃(j:Nat) (k:List (List UInt8)),j<=t/\i=.int .i64 j/\Hid (uniq Vr.nm aX (λv=>ci p v.type) [] t=uniq Vr.nm aX (λv=>ci p v.type) k (t.drop j))/\Hid (Below (w.alloc y).heap.size (w.alloc y) wr)/\Hid (SMap wr G j (oneF k))/\Hid (SMap wr (G+1) 0 (oneF []))) (λi _=>t.length-(intOf i).toNat)
   case atStart=>exact⟨0,[],ω,rfl,rfl,belA (belA B1 _) _,(mc G).alloc _,kh G _⟩
   case round =>
    obtain⟨j,k,hj,rfl,Y,N,Z,af⟩:=hrel;have a3:G.heap.size<wr:=Z.lt;have s:=η (bel (belA (belR w) y) N);by_cases hlt:j<t
    ·obtain⟨g,b8,k1,s1,a1,A1,a5,o1,x1,m1,r1,e1,D1,d1,rfl,hg,p0,p1,p2,p3,p4,p5,p6,p7,p8,a0,U,bf,_⟩:=ku bj hlt;replace p0:=belC s p0;replace p1:=belC s p1;replace p2:=belC s p2;replace p3:=belC s p3;replace p4:=belC s p4;replace p5:=belC s p5;replace p6:=belC s p6;replace p7:=belC s p7;replace p8:=belC s p8;obtain⟨ac,T⟩:=zd2 bf U;have ag:j<maxLen:=by unfold maxLen;omega
     have HJ:=η ag;clear a0 U ag bf
     cases h1:(!decide (t[j].nm∈k)&&aX t[j].nm) with
     | false =>
      have I:Hid (acP p f=false):=by show _=_;rw[a6.o,Y.o,iF hlt h1];rfl
      have E:=η h1;clear h1;go_wp2_with (go_at_call 94;refine (once_lower G j t[j].name k _ (Z.alloc _) HJ T).mono ?_;rintro e w2 ⟨z,h,u⟩;rw[show (!decide (t[j].name.data.toList∈k)&&aX t[j].name.data.toList)=false from E.o] at z;subst z;have x:=η (belG (belA s _) h ω));go_ret;exact⟨by rw[I.o];rfl,x⟩
     | true =>
      have ad:=η (ja h1)
      cases h2:ci p t[j].type with
      | false =>
       have I:Hid (acP p f=false):=by show _=_;rw[a6.o,Y.o,ed hlt h2];rfl
       obtain⟨E,O⟩:=zd2 h1 h2;clear h1 h2;go_wp2_with (first|(go_at_call 94;refine (once_lower G j t[j].name k _ (Z.alloc _) HJ T).mono ?_;rintro e w2 ⟨z,h,u⟩;rw[show (!decide (t[j].name.data.toList∈k)&&aX t[j].name.data.toList)=true from E.o] at z;subst z;have x:=η (belG (belA s _) h ω);have c1:=h.C wr 1 (k1:Vl);have c2:=h.C wr 2 (s1:Vl);have c3:=h.C wr 3 (.slice A1 a1 a5);clear u h)|(go_at_call 100;refine (dQ c p _ t[j].type _ (HC.to (ae x)) (ac.to (ae x))).mono ?_;rw[O.o];rintro e w3 ⟨rfl,r⟩));go_ret;exact⟨by rw[I.o];rfl,bel x r⟩
      | true =>
       have I:Hid (uniq Vr.nm aX (λv=>ci p v.type) [] t=uniq Vr.nm aX (λv=>ci p v.type) (t[j].nm::k) (t.drop (j+1))):=by show _=_;rw[Y.o];exact iG hlt h1 h2
       obtain⟨E,O⟩:=zd2 h1 h2;clear h1 h2;go_wp2_with (first|(go_at_call 94;refine (once_lower G j t[j].name k _ (Z.alloc _) HJ T).mono ?_;rintro e w2 ⟨z,h,u⟩;rw[show (!decide (t[j].name.data.toList∈k)&&aX t[j].name.data.toList)=true from E.o] at z;subst z;have x:=η (belG (belA s _) h ω);have B3:=η (belG (belA N _) h Φ);have c1:=h.C wr 1 (k1:Vl);have c2:=h.C wr 2 (s1:Vl);have c3:=h.C wr 3 (.slice A1 a1 a5);have F:=η (u ad);have a9:=η ((af.alloc _).same (h.block (G+1) (by have:=af.lt;simp;omega) Θ));clear u h)|(go_at_call 100;refine (dQ c p _ t[j].type _ (HC.to (ae x)) (ac.to (ae x))).mono ?_;rw[O.o];rintro e w3 ⟨rfl,r⟩));go_roundw
       case rel=>exact⟨j+1,_,ω,by go_num,I,bel B3 r,F.below r F.lt,a9.below r a9.lt⟩
       case measure=>simp[intOf];omega
    have ap:Hid (acP p f=(uniq Hd.nm aC (hdOk p) [] n&&cQ f.policy f.most)):=by show _=_;rw[a6.o,Y.o,gi hlt];rfl
    obtain⟨_,_,_,L,_,_⟩:=aj.o;replace L:=belC N L;go_wp2_with fail;obtain⟨wo,rfl⟩:=γ wr
    go_loopw [50] (λi wr=>∃(j:Nat) (k:List (List UInt8)),j<=n/\i=.int .i64 j/\Hid (uniq Hd.nm aC (hdOk p) [] n=uniq Hd.nm aC (hdOk p) k (n.drop j))/\Hid (Below (w.alloc y).heap.size (w.alloc y) wr)/\Hid (SMap wr (G+1) j (oneF k))) (λi _=>n.length-(intOf i).toNat)
    case atStart=>exact⟨0,[],ω,rfl,rfl,N,af⟩
    case round =>
     clear N Z af Y s a3 L hj hlt;obtain⟨j,k,hj,rfl,Y,N,Z⟩:=hrel;have a3:G.heap.size+1<wr:=Z.lt;have s:=η (bel (belA (belR w) y) N);by_cases hlt:j<n
     ·obtain⟨g,b8,A1,q1,D1,d1,rfl,hg,p0,p1,p2,p3,a0,_,U,bg,_⟩:=lG bk hlt;replace p0:=belC s p0;replace p1:=belC s p1;replace p2:=belC s p2;replace p3:=belC s p3;obtain⟨ac,T⟩:=zd2 bg U;have ag:j<maxLen:=by unfold maxLen;omega
      have HJ:=η ag;clear a0 U ag bg
      cases h1:(!decide (n[j].nm∈k)&&aC n[j].nm) with
      | false =>
       have I:Hid (acP p f=false):=by show _=_;rw[ap.o,Y.o,iF hlt h1];rfl
       have E:=η h1;clear h1;go_wp2_with (go_at_call 94;refine (once_upper (G+1) j n[j].msg k _ (Z.alloc _) HJ T).mono ?_;rintro e w2 ⟨z,h,u⟩;rw[show (!decide (n[j].msg.data.toList∈k)&&aC n[j].msg.data.toList)=false from E.o] at z;subst z;have x:=η (belG (belA s _) h ω));go_ret;exact⟨by rw[I.o];rfl,x⟩
      | true =>
       have ad:=η (ja h1)
       cases h2:de p n[j].params with
       | false =>
        have I:Hid (acP p f=false):=by show _=_;rw[ap.o,Y.o,ed hlt (by unfold hdOk;rw[h2];rfl)];rfl
        obtain⟨E,O⟩:=zd2 h1 h2;clear h1 h2;go_wp2_with (first|(go_at_call 94;refine (once_upper (G+1) j n[j].msg k _ (Z.alloc _) HJ T).mono ?_;rintro e w2 ⟨z,h,u⟩;rw[show (!decide (n[j].msg.data.toList∈k)&&aC n[j].msg.data.toList)=true from E.o] at z;subst z;have x:=η (belG (belA s _) h ω);have B3:=η (belG (belA N _) h Φ);have c1:=h.C wr 1 (.slice A1 n[j].params.length q1);have c2:=h.C wr 2 (.int .i64 n[j].slots);have F:=η (u ad);clear u h)|(go_at_call 99;refine (cK c p _ n[j].params _ (HC.to (ae x)) (FldsR.to ac (ae x))).mono ?_;rw[O.o];rintro e w3 ⟨rfl,r⟩;have B4:=η (bel x r);clear r c1 c2));go_ret;exact⟨by rw[I.o];rfl,B4⟩
       | true =>
        cases h3:gg n[j].slots n[j].params.length with
        | false =>
         have I:Hid (acP p f=false):=by show _=_;rw[ap.o,Y.o,ed hlt (by unfold hdOk;rw[h3];simp)];rfl
         obtain⟨E,O,H3⟩:=zd3 h1 h2 h3;clear h1 h2 h3;go_wp2_with (first|(go_at_call 94;refine (once_upper (G+1) j n[j].msg k _ (Z.alloc _) HJ T).mono ?_;rintro e w2 ⟨z,h,u⟩;rw[show (!decide (n[j].msg.data.toList∈k)&&aC n[j].msg.data.toList)=true from E.o] at z;subst z;have x:=η (belG (belA s _) h ω);have B3:=η (belG (belA N _) h Φ);have c1:=h.C wr 1 (.slice A1 n[j].params.length q1);have c2:=h.C wr 2 (.int .i64 n[j].slots);have F:=η (u ad);clear u h)|(go_at_call 99;refine (cK c p _ n[j].params _ (HC.to (ae x)) (FldsR.to ac (ae x))).mono ?_;rw[O.o];rintro e w3 ⟨rfl,r⟩;have B4:=η (bel x r);have f1:=belC r c1;have f2:=belC r c2;clear r c1 c2)|(go_at_call 136;refine (jT _ _ _).mono ?_;rw[H3.o];rintro e w' ⟨rfl,rfl⟩));go_ret;exact⟨by rw[I.o];rfl,B4⟩
        | true =>
         have I:Hid (uniq Hd.nm aC (hdOk p) [] n=uniq Hd.nm aC (hdOk p) (n[j].nm::k) (n.drop (j+1))):=by show _=_;rw[Y.o];exact iG hlt h1 (by unfold hdOk;rw[h2,h3];rfl)
         obtain⟨E,O,H3⟩:=zd3 h1 h2 h3;clear h1 h2 h3;go_wp2_with (first|(go_at_call 94;refine (once_upper (G+1) j n[j].msg k _ (Z.alloc _) HJ T).mono ?_;rintro e w2 ⟨z,h,u⟩;rw[show (!decide (n[j].msg.data.toList∈k)&&aC n[j].msg.data.toList)=true from E.o] at z;subst z;have x:=η (belG (belA s _) h ω);have B3:=η (belG (belA N _) h Φ);have c1:=h.C wr 1 (.slice A1 n[j].params.length q1);have c2:=h.C wr 2 (.int .i64 n[j].slots);have F:=η (u ad);clear u h)|(go_at_call 99;refine (cK c p _ n[j].params _ (HC.to (ae x)) (FldsR.to ac (ae x))).mono ?_;rw[O.o];rintro e w3 ⟨rfl,r⟩;have B5:=η (bel B3 r);have a8:=η (F.below r F.lt);have f1:=belC r c1;have f2:=belC r c2;clear r c1 c2)|(go_at_call 136;refine (jT _ _ _).mono ?_;rw[H3.o];rintro e w' ⟨rfl,rfl⟩));go_roundw
         case rel=>exact⟨j+1,_,ω,by go_num,I,B5,a8⟩
         case measure=>simp[intOf];omega
     have ao:Hid (acP p f=cQ f.policy f.most):=by show _=_;rw[ap.o,Y.o,gi hlt];rfl
     obtain⟨_,_,_,_,H,M⟩:=aj.o;replace H:=belC N H;replace M:=belC N M;have J:f.policy=0\/f.policy=2\/f.policy=1\/(f.policy≠0/\f.policy≠2/\f.policy≠1):=ω;rcases J with J|J|J|⟨J,hp2,hp1⟩
     ·have HP:Hid (cQ f.policy f.most=(f.most==0)):=by show cQ _ _=_;unfold cQ;rw[if_pos (.inl J)]
      rw[J] at H;clear J
      cases hmo:(f.most==0)
      all_goals
       go_wp2;go_ret;exact⟨by rw[ao.o,HP.o,hmo];rfl,s⟩
     ·have HP:Hid (cQ f.policy f.most=(f.most==0)):=by show cQ _ _=_;unfold cQ;rw[if_pos (.inr J)]
      rw[J] at H;clear J
      cases hmo:(f.most==0)
      all_goals
       go_wp2;go_ret;exact⟨by rw[ao.o,HP.o,hmo];rfl,s⟩
     ·have HP:Hid (cQ f.policy f.most=(decide (1<=f.most)&&decide (f.most<=100))):=by show cQ _ _=_;unfold cQ;rw[if_neg ω,if_pos J]
      rw[J] at H;clear J
      cases hmo:decide (1<=f.most)<;>cases hmo2:decide (f.most<=100)
      all_goals
       go_wp2;go_ret
       exact⟨by rw[ao.o,HP.o,hmo];try rw[hmo2]
                try rfl,s⟩
     have HP:Hid (cQ f.policy f.most=false):=by show cQ _ _=_;unfold cQ;rw[if_neg ω,if_neg hp1]
     have q0:(f.policy==0)=false:=by simpa using J
     have q1:(f.policy==1)=false:=by simpa using hp1
     have q2:(f.policy==2)=false:=by simpa using hp2
     clear J hp1 hp2;go_wp2;go_ret;exact⟨by rw[ao.o,HP.o];rfl,s⟩
end
