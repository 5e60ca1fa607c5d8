/- Core -/
import Derived.Test.YtjohpidklbhmcaaGreatDoorZ44
namespace Go.Proofs.YtjohpidklbhmcaaGreatDoor
set_option linter.all false
open Go.Proofs.Tryz
open Go.RowKit Go.Maps Go.WideMaps Go.ChangeMaps
theorem pl {size:Nat}:∀{css:List (List Value)},(∀c∈css,c.length=size)->css.flatten.length=css.length*size
 | [],_=>by simp
 | c::css,h=>by rw[List.flatten_cons,μ,pl (λx hx=>h x (List.mem_cons_of_mem _ hx)),h c List.mem_cons_self,δ,Nat.succ_mul];omega
theorem pm {size:Nat}:∀(css:List (List Value)),(∀c∈css,c.length=size)->∀i (h:i<css.length),(css.flatten.drop (i*size)).take size=css[i]
 | [],_,i,h=>by simp at h
 | c::css,hl,0,_=>by
  have hc:=hl c List.mem_cons_self
  rw[Nat.zero_mul,List.drop_zero,List.flatten_cons,List.take_append_of_le_length ω,List.take_of_length_le ω];rfl
 | c::css,hl,i+1,h=>by
  have hc:=hl c List.mem_cons_self
  have e:(i+1)*size=size+i*size:=by rw[Nat.succ_mul];omega
  have h2:=pm css (λx hx=>hl x (List.mem_cons_of_mem _ hx)) i (by simpa using h)
  have e2:(c++css.flatten).drop (size+i*size)=css.flatten.drop (i*size):=by
   rw[<-List.drop_drop];congr 1;rw[<-hc,List.drop_left]
  rw[List.flatten_cons,e,e2];exact h2
section
variable {α:Type} {P:Nat->Prop}
def SlR.row {R:List Value->α->Prop} {w:World} {size n cap:Nat} {A:Option Addr} {l:List α} (h:SlR w P size R (.slice A n cap) l) (h0:0<l.length):∃g off xs,A=some ⟨g,off,none⟩/\P g/\RowG size R xs l/\∀j u,xs[j]?=some u->w.cell? ⟨g,off+j,none⟩=some u:=by
 obtain⟨J,H,a,e,I,z,B⟩:=h;injection e with e1 e2 e3;subst e1;obtain⟨g,off,E,D,x⟩:=z h0
 have d:∀c∈(List.range l).map a,c.length=size:=λc hm=>by
  obtain⟨i,k,rfl⟩:=List.mem_map.1 hm;exact (x i (List.mem_range.1 k)).1
 refine⟨g,off,((List.range l).map a).flatten,E,D,⟨by rw[pl d];simp,λi k=>?_⟩,λj u hu=>?_⟩
 ·rw[pm _ d i (by simpa using k)];simpa using B i k
 have t:j<l.length*size:=by have:=(List.getElem?_eq_some_iff.1 hu).1;rw[pl d] at this;simpa using this
 have v:0<size:=by
  rcases Nat.eq_zero_or_pos size with e|e
  ·rw[e] at t;simp at t
  exact e
 have r:j/size<l:=by rw[Nat.div_lt_iff_lt_mul v];exact t
 have q:j/size*size+j%size=j:=by rw[Nat.mul_comm];exact Nat.div_add_mod j size
 have y:=pm _ d (j/size) (by simpa using r)
 have G:(a (j/size))[j%size]?=some u:=by
  have F:(((List.range l).map a)[j/size]'(by simpa using r))=a (j/size):=by simp
  rw[F] at y;rw[<-y,List.getElem?_take,if_pos (Nat.mod_lt _ v),List.getElem?_drop,q];exact hu
 have:=(x (j/size) r).2 (j%size) u G;rw[Nat.add_assoc,q] at this;exact this
variable {xs:List Value}
def RowG.one {R:List Value->α->Prop} {size:Nat} {l:List α} (h:RowG size R xs l) (hs:0<size) (h1:∀cs a,R cs a->∀u∈cs,u.oneCell'=true):∀u∈xs,u.oneCell'=true:=by
 intro u k;obtain⟨j,i,rfl⟩:=List.mem_iff_getElem.1 k;have g:j<l.length*size:=by rw[<-h.1];exact i
 have q:j/size<l:=by rw[Nat.div_lt_iff_lt_mul hs];exact g
 have d:j/size*size+j%size=j:=by rw[Nat.mul_comm];exact Nat.div_add_mod j size
 refine h1 _ _ (h.2 _ q) _ (List.mem_iff_getElem?.2 ⟨j%size,?_⟩);rw[List.getElem?_take,if_pos (Nat.mod_lt _ hs),List.getElem?_drop,d,ξ i]
variable {cs:List Value}
def fn_one {w:World} {f:Fn} (h:FnR w P cs f):∀u∈cs,u.oneCell'=true:=by
 obtain⟨A,q,k,s,u,B,c,o,x,m,r,e,D,d,rfl,-⟩:=jB h;intro u a;simp only[List.mem_cons,List.not_mem_nil,or_false] at a;rcases a with rfl|rfl|rfl|rfl|rfl|rfl|rfl|rfl|rfl|rfl|rfl<;>rfl
def xt {W:World} {g off:Nat} (h:∀j u,xs[j]?=some u->W.cell? ⟨g,off+j,none⟩=some u):∀j u,xs[j]?=some u->W.cell? ((⟨g,off,none⟩:Addr).add j)=some u:=λj u hu=>by
 have e:(⟨g,off,none⟩:Addr).add j=⟨g,off+j,none⟩:=by
  unfold Addr.add;split
  ·rename_i a;have:j=0:=by simpa using a
   rw[this];rfl
  rfl
 rw[e];exact h j u hu
section
variable {φ ψ:Int->Int} {okN:Int->Prop} {okS:ByteArray->Prop} (h:∀n,okN n->φ n=ψ n)
include h
mutual
theorem yh:∀e:Ex,e.refs okN okS->ren φ e=ren ψ e
 | .mk op x m s kids,hr=>by
  rw[Ex.refs] at hr
  rw[ren,ren,xV kids hr.2.2]
  by_cases hc:op=33\/op=34
  ·rw[if_pos hc,if_pos hc,h x (hr.1 (by unfold jb;simpa using hc))]
  rw[if_neg hc,if_neg hc]
theorem xV:∀l:List Ex,Ex.refss okN okS l->rens φ l=rens ψ l
 | [],_=>rfl
 | x::l,hr=>by rw[Ex.refss] at hr;rw[rens,rens,yh x hr.1,xV l hr.2]
end
mutual
theorem yX:∀e:St,e.refs okN okS->renS φ e=renS ψ e
 | .mk op n m s t xs thn els arms,hr=>by
  rw[St.refs] at hr
  rw[renS,renS,xV h xs hr.1,xK thn hr.2.1,xK els hr.2.2.1,xK arms hr.2.2.2]
theorem xK:∀l:List St,St.refss okN okS l->lX φ l=lX ψ l
 | [],_=>rfl
 | x::l,hr=>by rw[St.refss] at hr;rw[lX,lX,yX x hr.1,xK l hr.2]
end
theorem yE (f:Fn) (hr:f.refs okN okS):yp φ f=yp ψ f:=by unfold yp;rw[yh h f.body hr.2.2]
theorem yF (a:Ac) (hr:a.refs okN okS):ym φ a=ym ψ a:=by
 unfold ym;have g:a.vars.map (yu φ)=a.vars.map (yu ψ):=List.map_congr_left λv hv=>by unfold yu;rw[yh h v.init (hr.2.1 v hv).2]
 have d:a.on.map (yv φ)=a.on.map (yv ψ):=List.map_congr_left λv hv=>by
  unfold yv;rw[<-eR,<-eR,xK h v.body (hr.2.2 v hv).2]
 rw[g,d]
end
def yR (x:List UInt8) (l:List (List UInt8)) (s:List UInt8) {i:Nat} (h:idxP l s=some i):idxP (x::l) s=some (i+1):=by
 have a:∀k,cB l k s=some i->cB (x::l) (k+1) s=some (i+1):=by
  intro k;induction k with
  | zero=>intro h;simp[cB] at h
  | succ k ih =>
   intro h;rw[cB] at h ⊢;rw[List.getElem?_cons_succ];split at h
   ·rename_i e;rw[if_pos e];injection h with h;rw[h]
   rename_i e;rw[if_neg e];exact ih h
 exact a _ h
def sh1_eq {x:Int} (h:0<=x) (h2:x<=1000000):sh 1 1 x=x+1:=by
 unfold sh;rw[if_pos ω];unfold wrap64;omega
def xR (φ:Int->Int) (f:Fn) (d:Dcl) (e:Eff) (a:Ac) (p:Pg):Pg:=⟨d::p.types,e::p.effects,f::p.funs.map (yp φ),a::p.actors.map (ym φ)⟩
def zo {p:Pg} {M:Nat} (f:Fn) (d:Dcl) (e:Eff) (a:Ac) (hd:DigOk p) (hl:p.funs.length<=1000000) (hf:∀g∈p.funs,g.refs (okN p) (okS p)) (ha:∀g∈p.actors,g.refs (okN p) (okS p))
 (hr:aW p M=true) (hr':aW (xR (sh 1 1) f d e a p) M=true) {s:List UInt8} (hs:s∈p.acNames):digP (xR (sh 1 1) f d e a p) M s=digP p M s:=by
 have t:∀n,okN p n->sh 1 1 n=n+1:=λn k=>sh1_eq k.1 (by have:=k.2;omega)
 have u:Emb p (xR (sh 1 1) f d e a p) (λn=>n+1):=by
  refine⟨λa b h=>ω,λn h0 h1=>?_,λs hs=>?_⟩
  ·have l:(n+1).toNat=n.toNat+1:=ω;rw[l];show (f::p.funs.map (yp (sh 1 1)))[n.toNat+1]?=_;rw[List.getElem?_cons_succ,List.getElem?_map]
   cases hx:p.funs[n.toNat]? with
   | none=>rfl
   | some g=>rw[Option.map_some,Option.map_some,yE t g (hf g (List.mem_of_getElem? hx))]
  obtain⟨i,j,-,-⟩:=xM p.tyNames s hs;have:idxP (xR (sh 1 1) f d e a p).tyNames s=some (i+1):=yR _ _ _ j;rw[this,j];simp only[Option.getD_some];show (d::p.types)[i+1]?=_;rw[List.getElem?_cons_succ]
 obtain⟨i,j,v,-⟩:=xM p.acNames s hs
 have k:(xR (sh 1 1) f d e a p).acNames=a.name.data.toList::p.acNames:=by
  unfold Pg.acNames xR;simp only[List.map_cons,List.map_map];rfl
 have q:idxP (xR (sh 1 1) f d e a p).acNames s=some (i+1):=by rw[k];exact yR _ _ _ j
 unfold digP;rw[j,q,hr,hr'];simp only[if_true]
 have l:(xR (sh 1 1) f d e a p).actors[i+1]?=(p.actors[i]?).map (ym (sh 1 1)):=by
  show (a::p.actors.map (ym (sh 1 1)))[i+1]?=_;rw[List.getElem?_cons_succ,List.getElem?_map]
 rw[l]
 cases hx:p.actors[i]? with
 | none=>rfl
 | some g =>
  have r:=List.mem_of_getElem? hx;simp only[Option.map_some];rw[yF t g (ha g r),yZ u hd r (by show _<=(f::_).length;simp) (by show _<=(d::_).length;simp)]
def zl {p:Pg} {M:Nat} (hL:Lim p) (h:aW p M=true):(∀g∈p.funs,g.refs (okN p) (okS p))/\∀g∈p.actors,g.refs (okN p) (okS p):=by
 have ho:=sO hL h;have d:p.tok:=zb (by unfold aW at h;simp only[τ] at h;exact h.1)
 exact⟨λf hf=>⟨λq hq=>hJ ((d.funs f hf).1 q hq),hJ (d.funs f hf).2,ro _ (ho.funs f hf)⟩,
  λa ha=>⟨λq hq=>hJ ((d.acts a ha).1 q hq),λv hv=>⟨hJ ((d.acts a ha).2.1 v hv),ro _ (ho.vars a ha v hv)⟩,λg hg=>⟨λq hq=>hJ ((d.acts a ha).2.2 g hg q hq),jQ _ (ho.on a ha g hg)⟩⟩⟩
def Cp {p:Pg} (hs:szPg p<=4000) (f:Fn) (d:Dcl) (e:Eff) (a:Ac) (hr:aW p 4000=true) (hr':aW (xR (sh 1 1) f d e a p) 4000=true) {s:List UInt8} (hm:s∈p.acNames):digP (xR (sh 1 1) f d e a p) 4000 s=digP p 4000 s:=
 zo f d e a (zf (zc hs) hr) (sD hs).funs (zl (zc hs) hr).1 (zl (zc hs) hr).2 hr hr' hm
set_option maxRecDepth 100000
set_option maxHeartbeats 2000000
def BH {w:World} (base:Nat) (t ty e:TypeId) (i:TypeInfo) (size c:Nat) (ht:prog.underlying t=some (.slice e)) (hi:prog.info? e=some i)
 (v:Value) (n:Nat) (xs:List Value) (hown:w.ownsRow base e size v n xs):(Builtin.append_ #[t,t] ty #[v,.slice none 0 c]).run prog w=.ok v w:=by
 rcases hown.2 with ⟨rfl,rfl⟩|⟨g,cap,cur,rfl,_,_,hnc,_⟩
 ·simp[Builtin.append_,run_underlying ht,sizeOf,typeInfo,hi,Builtin.lenOf,Builtin.firstCells]
 simp[Builtin.append_,run_underlying ht,sizeOf,typeInfo,hi,Builtin.lenOf,Builtin.firstCells,hnc,storeCells]
def RowG.cons {R:List Value->α->Prop} {size:Nat} {ys:List Value} {a:α} {l:List α} (hc:cs=size) (ha:R cs a) (h:RowG size R ys l):RowG size R (cs++ys) (a::l):=by
 refine⟨by rw[μ,hc,h.1,δ,Nat.add_mul,Nat.one_mul];omega,λi hi=>?_⟩
 cases i with
 | zero=>rw[Nat.zero_mul,List.drop_zero,List.take_append_of_le_length ω,List.take_of_length_le ω];exact ha
 | succ i =>
  have e:(i+1)*size=cs.length+i*size:=by rw[Nat.add_mul,Nat.one_mul,hc];omega
  have d:(cs++ys).drop (cs.length+i*size)=ys.drop (i*size):=by rw[<-List.drop_drop,List.drop_left]
  rw[e,d];exact h.2 i (by simpa using hi)
def ls {R:List Value->α->Prop} {Pq:Nat->Prop} {w:World} {ops:Array Oper} {rest:List Oper} {o:Oper} {a:Act} {Q:Exit->Act->World->Prop} (hgd:o.guard=none) (s x:Operand) (t:TypeId) (ho:o.op=.call { callee:=.builtin .append,args:=#[s,x],argTypes:=#[t,t] }) (e:TypeId) (i:TypeInfo) (z:Value) (size bytes:Nat) (ht:prog.underlying t=some (.slice e)) (hi:prog.info? e=some i) (hz:i.zero=some z) (hsize:i.size=size) (hby:i.bytes=bytes) (hzs:z.cells.size=size) (hsz:0<size) (g:Nat) (v:Value) (xs:List Value) (hs:a.eval s=v) (hown:w.ownsRow g e size v 1 xs) (hvg:v.ownBlock=some g) (A:Option Addr) (n cap:Nat) (l:List α) (hx:a.eval x=.slice A n cap) (hsl:SlR w Pq size R (.slice A n cap) l) (hone:∀cs a,R cs a->∀u∈cs,u.oneCell'=true) (hlen:l.length<=549755813888) (hb:bytes<=200) (hbase:g<=w) (h:∀v' w' ys,RowG size R ys l->w'.ownsRow g e size v' (1+l) (xs++ys)->w.grownBy w' (some g)->wpList prog ops Q rest (a.put o.dst v') w'):wpList prog ops Q (o::rest) a w:=by
 obtain rfl:=hsl.len.1;have y:(1+l.length)*bytes<=140737488355328:=ψ (Nat.mul_le_mul (Nat.add_le_add_left hlen 1) hb) π;have B:1+l<=maxLen:=by unfold maxLen;omega
 by_cases F:0<l.length
 ·obtain⟨G,r,ys,rfl,-,j,E⟩:=hsl.row F;refine wpList_append_own w hgd s x t ho g e i z size bytes ht hi hz hsize hby hzs hsz v 1 xs hs hown ⟨G,r,none⟩ l cap ys hx j.1 (xt E) (j.one hsz hone) B y hbase ?_;intro v' w' q k _;exact h v' w' ys j q (hvg▸k)
 have D:l=[]:=List.eq_nil_of_length_eq_zero ω;subst D
 cases A with
 | none =>
  have d:=BH (w:=w) g t o.type e i size cap ht hi v 1 xs hown;refine wpList_plain hgd λK hK=>?_;unfold Oper.wp;simp[execOp,ho,resolve,invoke,builtin,hs,hx,d,Result.andThen];exact hK _ _ (h v w [] (RowG.nil _) (by simpa using hown) ⟨rfl,rfl,rfl,υ _,λ_ _ _=>rfl⟩)
 | some ad =>
  refine wpList_append_own w hgd s x t ho g e i z size bytes ht hi hz hsize hby hzs hsz v 1 xs hs hown ad 0 cap [] hx Θ Θ Θ Ξ ω hbase ?_;intro v' w' q k _;exact h v' w' [] (RowG.nil _) q (hvg▸k)
def szPg_one (φ:Int->Int) (f:Fn) (d:Dcl) (e:Eff) (a:Ac) (p:Pg):szPg (xR φ f d e a p)=szPg p+szPg ⟨[d],[e],[f],[a]⟩:=by
 unfold szPg xR;simp only[sumN];rw[zJ szFn szFn (yp φ) (BR φ),zJ szAc szAc (ym φ) (BS φ)];omega
def BD {R:List Value->α->Prop} {size e b n m c:Nat} {B:Option Addr} {w:World} {l:List α} (ho:w.ownsRow b e size (.slice B m c) m xs) (hr:RowG size R xs l) (hl:l=n/\m=n):SlR w (nw b w) size R (.slice B n c) l:=by
 obtain⟨a,rfl⟩:=hl;rw[<-a] at ho ⊢;exact hr.sl ho (λk hk=>by have:=ho.lt k hk;exact⟨this.1,this.2⟩)
def dcl_one {w:World} (cs:List Value) (t:Dcl) (h:DclR w P cs t):∀u∈cs,u.oneCell'=true:=by
 obtain⟨A,q,rfl,-⟩:=gG h;intro u a;simp at a;rcases a with rfl|rfl|rfl<;>rfl
def eff_one {w:World} (cs:List Value) (t:Eff) (h:EffR w P cs t):∀u∈cs,u.oneCell'=true:=by
 obtain⟨A,q,k,s,a,B,c,rfl,-⟩:=jU h;intro u d;simp at d;rcases d with rfl|rfl|rfl|rfl|rfl<;>rfl
def ac_one {w:World} (cs:List Value) (t:Ac) (h:AcR w P cs t):∀u∈cs,u.oneCell'=true:=by
 obtain⟨A,q,B,c,D,d,rfl,-⟩:=jD h;intro u a;simp at a;rcases a with rfl|rfl|rfl|rfl|rfl|rfl|rfl<;>rfl
def Cd {p:Pg} {f:Fn} {d:Dcl} {e:Eff} {a:Ac} {w:World} {A0 A1 A2 A3:Option Addr} {q0 q1 q2 q3:Nat} {cf cd ce ca:List Value} (hR:ShaT.Rounds w) (h:PgAt w A0 A1 A2 A3 q0 q1 q2 q3 p) (hf:FnR w (lo w) cf f) (hd:DclR w (lo w) cd d) (he:EffR w (lo w) ce e) (ha:AcR w (lo w) ca a) (hc:cPg p+cPg ⟨[d],[e],[f],[a]⟩<=1048576) :
 Calls prog 4 #[.agg #[.slice A0 p.types q0,.slice A1 p.effects q1,.slice A2 p.funs q2,.slice A3 p.actors q3],.agg cf.toArray,.agg cd.toArray,.agg ce.toArray,.agg ca.toArray] w (aE true w):=by
 have du:szPg (xR (sh 1 1) f d e a p)<=4000000000000:=by
  rw[szPg_one];have h1:=Cg p;have h2:=Cg ⟨[d],[e],[f],[a]⟩;omega
 have b7:szPg p<=4000000000000:=BY ω;have b8:=sh_pre (p:=p) ω
 have dz:p.types.length<=1048576/\p.effects.length<=1048576:=by
  unfold cPg at hc;have h1:=Bl (f:=cDcl) (λx=>by unfold cDcl;omega) p.types;have h2:=Bl (f:=cEff) (λx=>by unfold cEff;omega) p.effects;omega
 obtain⟨F1,f2,f3,f4,fa,F5,f7,f8,f9,a8,a7,fe,be,a5,rfl,fv⟩:=jB hf;obtain⟨D1,d2,rfl,fx⟩:=gG hd;obtain⟨E1,e2,e3,e4,ea,E5,e7,rfl,fw⟩:=jU he;obtain⟨G1,g2,G3,g4,G5,g6,rfl,fy⟩:=jD ha;obtain⟨f6,ef⟩:=γ fa
 obtain⟨a6,b9⟩:=γ fe
 obtain⟨e6,eg⟩:=γ ea
 rw[<-ef,<-b9] at hf ⊢;rw[<-eg] at he ⊢;clear fv fx fw fy ef b9 eg;obtain⟨W1,Z⟩:=γ (((((w.alloc (.cells #[.slice A0 p.types q0,.slice A1 p.effects q1,.slice A2 p.funs q2,.slice A3 p.actors q3] 27)).alloc (.cells #[f.name,.slice F1 f.params f2,f3,f4,.slice F5 f6 f7,f.slots,f8,f9,a8,a7,.slice be a6 a5] 45)).alloc (.cells #[d.name,d.record,.slice D1 d.ctors d2] 48)).alloc (.cells #[e.name,.slice E1 e.params e2,e3,e4,.slice E5 e6 e7] 50)).alloc (.cells #[a.name,.slice G1 a.params g2,a.slots,.slice G3 a.vars g4,.slice G5 a.on g6,a.policy,a.most] 54))
 have B1:Hid (Below w w W1):=by rw[Z];exact ζ5
 have X0:Hid (Hs W1 w 27 #[.slice A0 p.types q0,.slice A1 p.effects q1,.slice A2 p.funs q2,.slice A3 p.actors q3]):=by rw[Z];exact ((((Hs.new _ _ _).alloc _).alloc _).alloc _).alloc _
 have X1:Hid (Hs W1 (w+1) 45 #[f.name,.slice F1 f.params f2,f3,f4,.slice F5 f6 f7,f.slots,f8,f9,a8,a7,.slice be a6 a5]):=by rw[Z];exact (((ta w _ 45 _).alloc _).alloc _).alloc _
 have X2:Hid (Hs W1 (w+2) 48 #[d.name,d.record,.slice D1 d.ctors d2]):=by rw[Z];have:=ta (w.alloc (.cells #[.slice A0 p.types q0,.slice A1 p.effects q1,.slice A2 p.funs q2,.slice A3 p.actors q3] 27)) (.cells #[f.name,.slice F1 f.params f2,f3,f4,.slice F5 f6 f7,f.slots,f8,f9,a8,a7,.slice be a6 a5] 45) 48 #[d.name,d.record,.slice D1 d.ctors d2];simp only[World.size_alloc] at this;exact (this.alloc _).alloc _
 have X3:Hid (Hs W1 (w+3) 50 #[e.name,.slice E1 e.params e2,e3,e4,.slice E5 e6 e7]):=by rw[Z];have:=ta ((w.alloc (.cells #[.slice A0 p.types q0,.slice A1 p.effects q1,.slice A2 p.funs q2,.slice A3 p.actors q3] 27)).alloc (.cells #[f.name,.slice F1 f.params f2,f3,f4,.slice F5 f6 f7,f.slots,f8,f9,a8,a7,.slice be a6 a5] 45)) (.cells #[d.name,d.record,.slice D1 d.ctors d2] 48) 50 #[e.name,.slice E1 e.params e2,e3,e4,.slice E5 e6 e7];simp only[World.size_alloc] at this;exact this.alloc _
 have X4:Hid (Hs W1 (w+4) 54 #[a.name,.slice G1 a.params g2,a.slots,.slice G3 a.vars g4,.slice G5 a.on g6,a.policy,a.most]):=by rw[Z];have:=ta (((w.alloc (.cells #[.slice A0 p.types q0,.slice A1 p.effects q1,.slice A2 p.funs q2,.slice A3 p.actors q3] 27)).alloc (.cells #[f.name,.slice F1 f.params f2,f3,f4,.slice F5 f6 f7,f.slots,f8,f9,a8,a7,.slice be a6 a5] 45)).alloc (.cells #[d.name,d.record,.slice D1 d.ctors d2] 48)) (.cells #[e.name,.slice E1 e.params e2,e3,e4,.slice E5 e6 e7] 50) 54 #[a.name,.slice G1 a.params g2,a.slots,.slice G3 a.vars g4,.slice G5 a.on g6,a.policy,a.most];simp only[World.size_alloc] at this;exact this
 have es:=η Z;obtain⟨HR,g1,HF,HD,HE,HA⟩:=zd6 (hR.mono B1) h hf hd he ha;obtain⟨et,a9,c7,eu⟩:=zd4 du b7 b8 dz;obtain⟨io,ec,d9,eb,ed⟩:=info_parts ri;obtain⟨I1,I2,I3,I4⟩:=zd4 ec d9 eb ed;obtain⟨jo,d7,d5,d6,d8⟩:=info_parts BG;obtain⟨J1,J2,J3,J4⟩:=zd4 d7 d5 d6 d8;obtain⟨ko,d3,d0,d1,d4⟩:=info_parts BK;obtain⟨K1,K2,K3,K4⟩:=zd4 d3 d0 d1 d4;obtain⟨mo,dx,dv,dw,dy⟩:=info_parts BJ;obtain⟨M1,M2,M3,M4⟩:=zd4 dx dv dw dy;clear Z hR h hf hd he ha du b7 b8 dz ec d9 eb ed d7 d5 d6 d8 d3 d0 d1 d4 dx dv dw dy hc;go_enter func4,ntmps4;go_upto_region 1 with fail;rw[<-es.o];clear es;go_upto_region 2 with (go_at_call 7;refine (pU HR).mono ?_;rintro e2 w2 ⟨rfl,Y⟩);have B2:=η (bel B1 Y);obtain⟨Y0,Y1,Y2,Y3,Y4⟩:=zd5 (kn X0 Y) (kn X1 Y) (kn X2 Y) (kn X3 Y) (kn X4 Y);obtain⟨R2,cw⟩:=zd2 (HR.mono Y) (g1.bel B2);clear Y X0 X1 X2 X3 X4 B1 HR;have a0:=Y0.c 0;have a1:=Y0.c 1;have a2:=Y0.c 2;have a3:=Y0.c 3;have ew:Hid (∀(W:World) (F2 F3:Option Addr) (M r3:Nat),Bx W 27 W (λ_=>True) [.slice A0 p.types q0,.slice A1 p.effects q1,.slice F2 p.funs M,.slice F3 p.actors r3] ((W.alloc (.cells #[(),(),(),()] 27)).setRow W #[.slice A0 p.types q0,.slice A1 p.effects q1,.slice F2 p.funs M,.slice F3 p.actors r3])):=λW F2 F3 M r3=>(Bx.one W 27 [.slice none 0 0,.slice none 0 0,.slice none 0 0,.slice none 0 0] _).o
 go_upto_region 3 with (first|(go_at_call 14;refine (By c7 cw).mono ?_;rintro e3 r ⟨F2,F3,M,r3,rfl,ee,eh,O⟩)|(refine wpList_store_row rfl 27 _ _ rfl r #[.slice A0 p.types q0,.slice A1 p.effects q1,.slice F2 p.funs M,.slice F3 p.actors r3] rfl rfl 27 #[(),(),(),()] (Hs.new _ _ _) Δ rfl Ρ ?_));obtain⟨W4,em,u⟩:=Bx.w (η (ew r F2 F3 M r3));rw[<-em];have df:=η (bel B2 O);obtain⟨Z0,Z1,Z2,Z3,Z4⟩:=zd5 (kn Y0 O) (kn Y1 O) (kn Y2 O) (kn Y3 O) (kn Y4 O);obtain⟨R3,bu⟩:=zd2 (R2.mono O) (cw.bel O);obtain⟨ev,ex⟩:=zd2 ee eh;have S3:=η (ae df);have en:=FnR.to HF S3;have eq:=DclR.to HD S3;have eo:=EffR.to HE S3;have er:=AcR.to HA S3;obtain⟨GF,GD,GE,GA⟩:=zd4 en eq eo er;clear em O ee eh en eq eo er a0 a1 a2 a3 Y0 Y1 Y2 Y3 Y4 R2 cw B2 ew;have fu:r.heap.size<W4:=u.z;have k0:=Bx.f u 2;have c4:Hid (∀X,Below r r X->SlR X (lo X) 11 (FnR r (lo r)) (.slice F2 p.funs M) (p.funs.map (yp (sh 1 1)))):=λX hX=>SlR.to' ev (ae hX) (λ_ _ h=>h)
 go_upto_region 4 with (first|(refine wpList_load_row rfl 45 _ rfl (w+1) rfl 45 _ _ _ (kn Z1 u.bl) underlying45 rfl Δ ?_)|(at_builtin;refine ls rfl (.tmp 17) (.tmp 19) 24 rfl 45 io _ 11 160 underlying24 I1 I2 I3 I4 rfl π W4 _ _ rfl (World.ownsRow_lit W4 _ 1 (υ _) π rfl) rfl F2 p.funs M (p.funs.map (yp (sh 1 1))) rfl (c4 _ (belA u.bl _)) (λ_ _ h=>fn_one h) (by rw[List.length_map];exact c7.funs) π Θ ?_;intro v5 J ys H A B;obtain⟨B2,s2,rfl⟩:=bU A;have I:Below W4 W4 J:=m5 (v:=.slice (some ⟨W4,0,none⟩) 1 1) (belR _) B (λg hg=>by simp[Value.ownBlock] at hg;omega);have G:=RowG.cons (size:=11) (R:=FnR r (lo r)) (a:=f) rfl GF H;have F:SlR J (nw W4 J) 11 (FnR r (lo r)) (.slice B2 (1+p.funs) s2) (f::p.funs.map (yp (sh 1 1))):=BD A G Φ;have de:=Bx.nk u I (K2:=λX=>SlR X (nw r X) 11 (FnR r (lo r)) (.slice B2 (1+p.funs) s2) (f::p.funs.map (yp (sh 1 1)))) (λX S=>F.to' S (λ_ _ h=>h));have f5:=Bx.f de 2;clear A B H I G F k0 fu));obtain⟨W5,el,u⟩:=Bx.w (Bx.p de 2 (.slice B2 (1+p.funs) s2));rw[<-el];clear el f5 de;have iu:w.heap.size<W5:=ρ Z0.lt u.bl.size;have ir:W5.cell? w=some (.slice A0 p.types q0):=(kn Z0 u.bl).cell 0;have ft:r.heap.size<W5:=u.z;have k1:=Bx.f u 0
 have cz:Hid (∀X,Below r r X->SlR X (lo X) 3 (DclR r (lo r)) (.slice A0 p.types q0) p.types):=λX hX=>SlR.to' bu.t (ae hX) (λ_ _ h=>h);go_upto_region 5 with (first|(refine wpList_load_row rfl 48 _ rfl (w+2) rfl 48 _ _ _ (kn Z2 u.bl) underlying48 rfl Δ ?_)|(at_builtin;refine ls rfl (.tmp 23) (.tmp 25) 22 rfl 48 ko _ 3 48 underlying22 K1 K2 K3 K4 rfl π W5 _ _ rfl (World.ownsRow_lit W5 _ 1 (υ _) π rfl) rfl A0 p.types q0 p.types rfl (cz _ (belA u.bl _)) dcl_one (by have:=eu.1;omega) π Θ ?_;intro v5 J ys H A B;obtain⟨B0,s0,rfl⟩:=bU A;have I:Below W5 W5 J:=m5 (v:=.slice (some ⟨W5,0,none⟩) 1 1) (belR _) B (λg hg=>by simp[Value.ownBlock] at hg;omega);have G:=RowG.cons (size:=3) (R:=DclR r (lo r)) (a:=d) rfl GD H;have F:SlR J (nw W5 J) 3 (DclR r (lo r)) (.slice B0 (1+p.types) s0) (d::p.types):=BD A G Φ;have dd:=Bx.nk u I (K2:=λX=>SlR X (nw r X) 3 (DclR r (lo r)) (.slice B0 (1+p.types) s0) (d::p.types)) (λX S=>F.to' S (λ_ _ h=>h));have f1:=Bx.f dd 0;clear A B H I G F k1 ft));obtain⟨W6,ek,u⟩:=Bx.w (Bx.p dd 0 (.slice B0 (1+p.types) s0));rw[<-ek];clear ek f1 dd;have it:w.heap.size<W6:=ρ Z0.lt u.bl.size;have iq:W6.cell? ⟨w,1,none⟩=some (.slice A1 p.effects q1):=(kn Z0 u.bl).cell 1
 have fs:r.heap.size<W6:=u.z;have k2:=Bx.f u 1;have cy:Hid (∀X,Below r r X->SlR X (lo X) 5 (EffR r (lo r)) (.slice A1 p.effects q1) p.effects):=λX hX=>SlR.to' bu.e (ae hX) (λ_ _ h=>h);go_upto_region 6 with (first|(refine wpList_load_row rfl 50 _ rfl (w+3) rfl 50 _ _ _ (kn Z3 u.bl) underlying50 rfl Δ ?_)|(at_builtin;refine ls rfl (.tmp 29) (.tmp 31) 23 rfl 50 mo _ 5 88 underlying23 M1 M2 M3 M4 rfl π W6 _ _ rfl (World.ownsRow_lit W6 _ 1 (υ _) π rfl) rfl A1 p.effects q1 p.effects rfl (cy _ (belA u.bl _)) eff_one (by have:=eu.2;omega) π Θ ?_;intro v5 J ys H A B;obtain⟨B1,s1,rfl⟩:=bU A;have I:Below W6 W6 J:=m5 (v:=.slice (some ⟨W6,0,none⟩) 1 1) (belR _) B (λg hg=>by simp[Value.ownBlock] at hg;omega);have G:=RowG.cons (size:=5) (R:=EffR r (lo r)) (a:=e) rfl GE H;have F:SlR J (nw W6 J) 5 (EffR r (lo r)) (.slice B1 (1+p.effects) s1) (e::p.effects):=BD A G Φ;have dc:=Bx.nk u I (K2:=λX=>SlR X (nw r X) 5 (EffR r (lo r)) (.slice B1 (1+p.effects) s1) (e::p.effects)) (λX S=>F.to' S (λ_ _ h=>h));have f0:=Bx.f dc 1;clear A B H I G F k2 fs));obtain⟨W7,ej,u⟩:=Bx.w (Bx.p dc 1 (.slice B1 (1+p.effects) s1));rw[<-ej];clear ej f0 dc;have fr:r.heap.size<W7:=u.z;have k3:=Bx.f u 3
 have cx:Hid (∀X,Below r r X->SlR X (lo X) 7 (AcR r (lo r)) (.slice F3 p.actors r3) (p.actors.map (ym (sh 1 1)))):=λX hX=>SlR.to' ex (ae hX) (λ_ _ h=>h);go_upto_region 7 with (first|(refine wpList_load_row rfl 54 _ rfl (w+4) rfl 54 _ _ _ (kn Z4 u.bl) underlying54 rfl Δ ?_)|(at_builtin;refine ls rfl (.tmp 35) (.tmp 37) 25 rfl 54 jo _ 7 112 underlying25 J1 J2 J3 J4 rfl π W7 _ _ rfl (World.ownsRow_lit W7 _ 1 (υ _) π rfl) rfl F3 p.actors r3 (p.actors.map (ym (sh 1 1))) rfl (cx _ (belA u.bl _)) ac_one (by rw[List.length_map];exact c7.acts) π Θ ?_;intro v5 J ys H A B;obtain⟨B3,s3,rfl⟩:=bU A;have I:Below W7 W7 J:=m5 (v:=.slice (some ⟨W7,0,none⟩) 1 1) (belR _) B (λg hg=>by simp[Value.ownBlock] at hg;omega);have G:=RowG.cons (size:=7) (R:=AcR r (lo r)) (a:=a) rfl GA H;have F:SlR J (nw W7 J) 7 (AcR r (lo r)) (.slice B3 (1+p.actors) s3) (a::p.actors.map (ym (sh 1 1))):=BD A G Φ;have db:=Bx.nk u I (K2:=λX=>SlR X (nw r X) 7 (AcR r (lo r)) (.slice B3 (1+p.actors) s3) (a::p.actors.map (ym (sh 1 1)))) (λX S=>F.to' S (λ_ _ h=>h));have fz:=Bx.f db 3;clear A B H I G F k3 fr));obtain⟨T,ei,u⟩:=Bx.w (Bx.p db 3 (.slice B3 (1+p.actors) s3));rw[<-ei];clear ei fz db;obtain⟨⟨⟨⟨-,kF⟩,kT⟩,kE⟩,kA⟩:=u.k T (λk hk=>⟨⟨by have:=hk.1;have:=u.hq;omega,hk.2⟩,rfl⟩)
 obtain⟨q,hq⟩:=γ (xR (sh 1 1) f d e a p)
 have lT:q.types.length=1+p.types:=by rw[hq];show (d::p.types).length=_;simp;omega
 have lE:q.effects.length=1+p.effects:=by rw[hq];show (e::p.effects).length=_;simp;omega
 have lF:q.funs.length=1+p.funs:=by rw[hq];show (f::p.funs.map (yp (sh 1 1))).length=_;simp;omega
 have lA:q.actors.length=1+p.actors:=by rw[hq];show (a::p.actors.map (ym (sh 1 1))).length=_;simp;omega
 have SB:=ae u.bl;have SN:Sub (nw r T) (lo T) T T:=λk hk=>⟨hk.2,rfl⟩
 have ak:Hid (PgAt T B0 B1 B2 B3 s0 s1 s2 s3 q):=by
  refine⟨?_,?_,?_,?_⟩
  ·rw[lT,hq];exact kT.to' SN (λ_ _ h=>DclR.to h SB)
  ·rw[lE,hq];exact kE.to' SN (λ_ _ h=>EffR.to h SB)
  ·rw[lF,hq];exact kF.to' SN (λ_ _ h=>FnR.to h SB)
  rw[lA,hq];exact kA.to' SN (λ_ _ h=>AcR.to h SB)
 obtain⟨U,R8,bb⟩:=zd3 (bu.bel u.bl) (R3.mono u.bl) (bel df u.bl);have bv:Hid (szPg q<=4000000000000):=by rw[hq];exact et
 have a0:T.cell? w=some (.slice A0 p.types q0):=(kn Z0 u.bl).cell 0;have a1:T.cell? ⟨w,1,none⟩=some (.slice A1 p.effects q1):=(kn Z0 u.bl).cell 1;have a2:T.cell? ⟨w,2,none⟩=some (.slice A2 p.funs q2):=(kn Z0 u.bl).cell 2;have a3:T.cell? ⟨w,3,none⟩=some (.slice A3 p.actors q3):=(kn Z0 u.bl).cell 3;rw[<-lT,<-lE,<-lF,<-lA] at u;have c0:T.cell? r=some (.slice B0 q.types s0):=(Bx.f u 0).1;have c1:T.cell? ⟨r,1,none⟩=some (.slice B1 q.effects s1):=(Bx.f u 1).1;have c2:T.cell? ⟨r,2,none⟩=some (.slice B2 q.funs s2):=(Bx.f u 2).1;have c3:T.cell? ⟨r,3,none⟩=some (.slice B3 q.actors s3):=(Bx.f u 3).1;have HQ:=η hq;clear kF kT kE kA lT lE lF lA SB SN hq u Z0 Z1 Z2 Z3 Z4 GF GD GE GA c4 cz cy cx ev ex bu R3 df et;by_cases t1:szPg p<=4000
 ·have T1:=η (decide_eq_true t1);obtain⟨HP,g0⟩:=zd2 (Bw t1) t1;clear t1;by_cases t2:szPg q<=4000
  ·have T2:=η (decide_eq_true t2);have c6:=η (Bw t2);clear t2
   cases r1:aW p 4000 with
   | false =>
    have ba:=η r1;clear r1;go_wp2_with (first|(go_at_call 11;refine (At HP (U.bel D) ba).mono ?_;rintro ep dt ⟨rfl,l⟩;have L:=η (bel D l);have bt:=belC l au;have bp:=belC l ao;have bs:=belC l ar;have bo:=belC l an;have br:=belC l aq;have bn:=belC l am;have bq:=belC l ap;have bm:=belC l al;clear l)|(go_at_call 8;refine (m0 (ak.bel E) bv T2).mono ?_;rintro cn b1 ⟨rfl,i⟩;have D:=η (bel E i);have au:=belC i ai;have ao:=belC i ad;have ar:=belC i ah;have an:=belC i ac;have aq:=belC i ag;have am:=belC i ab;have ap:=belC i af;have al:=belC i aa;clear i)|(go_at_call 8;refine (m0 U a9 T1).mono ?_;rintro e9 w9 ⟨rfl,j⟩;have E:=η j;have ai:=belC j a0;have ad:=belC j c0;have ah:=belC j a1;have ac:=belC j c1;have ag:=belC j a2;have ab:=belC j c2;have af:=belC j a3;have aa:=belC j c3;clear j));have N:=bel bb L;go_ret;exact⟨rfl,N⟩
   | true =>
    have ba:=η r1;clear r1
    cases M:aW q 4000 with
    | false =>
     have c5:=η M;clear M;go_wp2_with (first|(go_at_call 11;refine (At c6 (ak.bel L) c5).mono ?_;rintro ga fl ⟨rfl,y⟩;have V:=η (bel L y);have gj:=belC y bt;have ge:=belC y bp;have gi:=belC y bs;have gd:=belC y bo;have gg:=belC y br;have gc:=belC y bn;have gf:=belC y bq;have gb:=belC y bm;clear y)|(go_at_call 11;refine (At HP (U.bel D) ba).mono ?_;rintro ep dt ⟨rfl,l⟩;have L:=η (bel D l);have bt:=belC l au;have bp:=belC l ao;have bs:=belC l ar;have bo:=belC l an;have br:=belC l aq;have bn:=belC l am;have bq:=belC l ap;have bm:=belC l al;clear l)|(go_at_call 8;refine (m0 (ak.bel E) bv T2).mono ?_;rintro cn b1 ⟨rfl,i⟩;have D:=η (bel E i);have au:=belC i ai;have ao:=belC i ad;have ar:=belC i ah;have an:=belC i ac;have aq:=belC i ag;have am:=belC i ab;have ap:=belC i af;have al:=belC i aa;clear i)|(go_at_call 8;refine (m0 U a9 T1).mono ?_;rintro e9 w9 ⟨rfl,j⟩;have E:=η j;have ai:=belC j a0;have ad:=belC j c0;have ah:=belC j a1;have ac:=belC j c1;have ag:=belC j a2;have ab:=belC j c2;have af:=belC j a3;have aa:=belC j c3;clear j));have N:=bel bb V;go_ret;exact⟨rfl,N⟩
    | true =>
     have c5:=η M
     have g3:Hid (∀s∈p.acNames,digP q 4000 s=digP p 4000 s):=λs hm=>by
      have h2:=M;rw[HQ.o] at h2 ⊢;exact Cp g0 f d e a ba h2 hm
     clear M;go_wp2_with (first|(go_at_call 15;refine (Bz (R8.mono V) HP c6 (U.bel V) (ak.bel V) g3).mono ?_;rintro iv ip ⟨rfl,fb⟩)|(go_at_call 11;refine (At c6 (ak.bel L) c5).mono ?_;rintro ga fl ⟨rfl,y⟩;have V:=η (bel L y);have gj:=belC y bt;have ge:=belC y bp;have gi:=belC y bs;have gd:=belC y bo;have gg:=belC y br;have gc:=belC y bn;have gf:=belC y bq;have gb:=belC y bm;clear y)|(go_at_call 11;refine (At HP (U.bel D) ba).mono ?_;rintro ep dt ⟨rfl,l⟩;have L:=η (bel D l);have bt:=belC l au;have bp:=belC l ao;have bs:=belC l ar;have bo:=belC l an;have br:=belC l aq;have bn:=belC l am;have bq:=belC l ap;have bm:=belC l al;clear l)|(go_at_call 8;refine (m0 (ak.bel E) bv T2).mono ?_;rintro cn b1 ⟨rfl,i⟩;have D:=η (bel E i);have au:=belC i ai;have ao:=belC i ad;have ar:=belC i ah;have an:=belC i ac;have aq:=belC i ag;have am:=belC i ab;have ap:=belC i af;have al:=belC i aa;clear i)|(go_at_call 8;refine (m0 U a9 T1).mono ?_;rintro e9 w9 ⟨rfl,j⟩;have E:=η j;have ai:=belC j a0;have ad:=belC j c0;have ah:=belC j a1;have ac:=belC j c1;have ag:=belC j a2;have ab:=belC j c2;have af:=belC j a3;have aa:=belC j c3;clear j));have N:=bel (bel bb V) fb;go_ret;exact⟨rfl,N⟩
  have T2:=η (decide_eq_false t2);clear t2;go_wp2_with (first|(go_at_call 8;refine (m0 (ak.bel E) bv T2).mono ?_;rintro cn b1 ⟨rfl,i⟩;have D:=η (bel E i);have au:=belC i ai;have ao:=belC i ad;have ar:=belC i ah;have an:=belC i ac;have aq:=belC i ag;have am:=belC i ab;have ap:=belC i af;have al:=belC i aa;clear i)|(go_at_call 8;refine (m0 U a9 T1).mono ?_;rintro e9 w9 ⟨rfl,j⟩;have E:=η j;have ai:=belC j a0;have ad:=belC j c0;have ah:=belC j a1;have ac:=belC j c1;have ag:=belC j a2;have ab:=belC j c2;have af:=belC j a3;have aa:=belC j c3;clear j));have N:=bel bb D;go_ret;exact⟨rfl,N⟩
 have T1:=η (decide_eq_false t1);clear t1;go_wp2_with (go_at_call 8;refine (m0 U a9 T1).mono ?_;rintro e9 w9 ⟨rfl,j⟩;have E:=η j;have ai:=belC j a0;have ad:=belC j c0;have ah:=belC j a1;have ac:=belC j c1;have ag:=belC j a2;have ab:=belC j c2;have af:=belC j a3;have aa:=belC j c3;clear j);have N:=bel bb E;go_ret;exact⟨rfl,N⟩
end
end Go.Proofs.YtjohpidklbhmcaaGreatDoor
