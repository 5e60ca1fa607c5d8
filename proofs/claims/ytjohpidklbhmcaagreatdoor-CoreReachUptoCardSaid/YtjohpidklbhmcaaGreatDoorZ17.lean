/- Core -/
import Derived.Test.YtjohpidklbhmcaaGreatDoorZ7
import Derived.Test.YtjohpidklbhmcaaGreatDoorZ16
namespace Go.Proofs.YtjohpidklbhmcaaGreatDoor
set_option linter.all false
open Go.Proofs.Tryz
open Go.RowKit
def St.op:St->Int|.mk o _ _ _ _ _ _ _ _=>o
def St.n:St->Int|.mk _ n _ _ _ _ _ _ _=>n
def St.m:St->Int|.mk _ _ m _ _ _ _ _ _=>m
def St.thn:St->List St|.mk _ _ _ _ _ _ h _ _=>h
mutual
def St.deep:St->Nat
 | .mk _ _ _ _ _ xs h e a=>1+Ex.deeps xs+St.deeps h+St.deeps e+St.deeps a
def St.deeps:List St->Nat
 | []=>0
 | x::xs=>St.deep x+St.deeps xs
end
def il (l:List St):∀x∈l,St.deep x<=St.deeps l:=by
 induction l with
 | nil=>intro x h;cases h
 | cons y l ih =>
  intro x h;rw[St.deeps];rcases List.mem_cons.1 h with rfl|h
  ·omega
  have:=ih x h;omega
def jh (l:List St):l<=St.deeps l:=by
 induction l with
 | nil=>simp
 | cons y l ih =>
  rw[St.deeps,δ];have:1<=St.deep y:=by cases y;rw[St.deep];omega
  omega
def hdP (p:Pg) (i:Nat) (msg:ByteArray):Option (List Fld):=
 match p.actors[i]? with
 | none=>none
 | some a=>(a.on.find? λh=>h.msg.toList==msg.toList).map (·.params)
def jG (p:Pg) (E:EF) (sc:Sc) (msg:ByteArray):List Ex->Bool
 | []=>false
 | x::xs=>match E sc x none with
  | none=>false
  | some t=>if t.kind=7 then (match hdP p ((idxP p.acNames t.name.data.toList).getD 0) msg with|none=>false|some fs=>bl E sc xs fs) else false
def bL (p:Pg) (E:EF) (sc:Sc) (m:Int) (s:ByteArray) (xs:List Ex):Bool:=
 match idxP p.acNames s.data.toList with
 | none=>false
 | some i=>match p.actors[i]? with
  | none=>false
  | some a=>if m=0 then bl E sc xs a.params else if m=1 then (match xs with|[]=>false|x::xs=>isE E sc x (bTy 3)&&bl E sc xs a.params) else false
def cJ (p:Pg) (E:EF) (sc:Sc) (n m:Int) (s:ByteArray) (xs:List Ex):Option (Int×Sc):=
 if bL p E sc m s xs then (if n=-1 then some (-1,sc) else (sc.bind n (refT s)).map λsc'=>(n,sc')) else none
def mo (r:Option (List Fld)) (t:Ty):Bool:=match r with|some [f]=>bO f.type t|_=>false
def doP (p:Pg) (E:EF) (sc:Sc) (s t:ByteArray) (xs:List Ex):Bool:=
 match idxP p.efNames s.data.toList with
 | none=>false
 | some i=>match p.effects[i]? with
  | none=>false
  | some e=>bl E sc xs e.params&&mo (hdP p sc.actor.toNat t) e.answer
def dr (B:Sc->List St->Bool) (arms:List St) (_:Unit) (i:Nat) (sc:Sc):Option Unit:=
 match arms[i]? with
 | none=>none
 | some a=>if B sc a.thn then some () else none
def fP (a:St):Bool:=decide (a.op=5)&&aJ a
def fO (p:Pg) (E:EF) (B:Sc->List St->Bool) (sc:Sc) (xs:List Ex) (arms:List St):Bool:=
 match xs with
 | []=>false
 | x::_=>match E sc x none with
  | none=>false
  | some t=>arms.all fP&&(bX p sc t (dr B arms) () (arms.map λa=>(a.n,a.m))).isSome
def oG (B:Sc->List St->Bool) (sc:Sc) (n:Int) (thn:List St):List Ty->Bool
 | []=>false
 | u::_=>match sc.bind n u with|none=>false|some sc'=>B sc' thn
def jH (E:EF) (B:Sc->List St->Bool) (sc:Sc) (n:Int) (xs:List Ex) (thn:List St):Bool:=
 match xs with
 | []=>false
 | x::_=>match E sc x none with
  | none=>false
  | some t=>if t.kind=5 then oG B sc n thn t.args else false
def kU (xs:List Ex) (f:Ex->Bool):Bool:=match xs with|[]=>false|x::_=>f x
def okSc (b:Bool) (sc:Sc):Option (Int×Sc):=if b then some (-1,sc) else none
def nA (E:EF) (sc:Sc) (n:Int) (xs:List Ex):Bool:=az n sc.vars&&(match sc.vars[n.toNat]? with|none=>false|some v=>kU xs λx=>isE E sc x v.type)
def letP (E:EF) (sc:Sc) (n:Int):List Ex->Option (Int×Sc)
 | []=>none
 | x::_=>match E sc x none with
  | none=>none
  | some t=>(sc.bind n t).map λsc'=>(n,sc')
def cG (p:Pg) (E:EF) (B:Sc->List St->Bool) (sc:Sc):St->Option (Int×Sc)
 | .mk op n m s t xs thn els arms =>
  if op=1 then letP E sc n xs
  else if op=2 then okSc (nA E sc n xs) sc
  else if op=3 then okSc (kU xs (λx=>isE E sc x (bTy 2))&&(B sc thn&&B sc els)) sc
  else if op=4 then okSc (fO p E B sc xs arms) sc
  else if op=6 then okSc (jH E B sc n xs thn) sc
  else if op=7 then okSc (jG p E sc s xs) sc
  else if op=8 then okSc (kU xs (λx=>isE E sc x (bTy 3))&&jG p E sc s (xs.drop 1)) sc
  else if op=9 then cJ p E sc n m s xs
  else if op=10 then okSc (doP p E sc s t xs) sc
  else if op=11 then some (-1,sc)
  else if op=12 then okSc (kU xs λx=>isE E sc x (bTy 4)) sc
  else none
def dt (S:Sc->St->Option (Int×Sc)):Sc->List St->Bool
 | _,[]=>true
 | sc,st::rest=>aJ st&&match S sc st with
  | none=>false
  | some (_,sc')=>dt S sc' rest
def aF (p:Pg) (N:Nat):Nat->Sc->List St->Bool
 | 0,_,l=>l.isEmpty
 | n+1,sc,l=>dt (cG p (aa p N) (aF p N n)) sc l
set_option maxRecDepth 100000
set_option maxHeartbeats 2000000
open Go.Maps Go.WideMaps Go.ChangeMaps
def HdSaid (w:World) (Q:Nat->Prop) (r:Option (List Fld)) (e:Ending) (w':World):Prop:=
 Below w w w'/\match r with
  | none=>e=.returned (.tuple #[(),false])
  | some fs=>∃A cap,e=.returned (.tuple #[.slice A fs cap,true])/\FldsR w Q (.slice A fs cap) fs
def find_at {l:List Hd} {q:Hd->Bool} {j:Nat} (h:j<l):(l.drop j).find? q=if q l[j] then some l[j] else (l.drop (j+1)).find? q:=by
 rw[bk h,List.find?_cons];split<;>simp_all
def find_end {l:List Hd} {q:Hd->Bool} {j:Nat} (h:¬j<l):(l.drop j).find? q=none:=by
 rw[ε ω];rfl
def ir (c:CB) (p:Pg) (Q:Nat->Prop) (w:World) (i:Nat) (msg:ByteArray) (hck:ChkR w Q c p) (hQ:∀b,Q b->b<w.heap.size) (hi:i<p.actors.length):Calls prog 204 #[c.b,.int .i64 (i:Int),msg] w (HdSaid w Q (hdP p i msg)):=by
 obtain⟨A0,q0,z⟩:=hck.actors.form;have c3:=hck.c3;rw[z] at c3;have f:=hck.actors;rw[z] at f;have ag:=f.le9;obtain⟨g,af,A,q,B,c',D,d,rfl,hg,Y,X,W,V,J,U,T,M,_,_,_,_,e⟩:=fR f hi;obtain⟨l,y⟩:=γ (p.actors[i].on)
 have N:Hid (hdP p i msg=(l.find? λh=>h.msg.toList==msg.toList).map (·.params)):=by show hdP _ _ _=_;unfold hdP;rw[ξ hi,y]
 rw[<-y] at J e;have ab:=e.le9;obtain⟨O,HQ⟩:=zd2 e hQ;have i0:(0:Int)<=(i:Int):=ω;have i1:(i:Int)<(p.actors.length:Int):=ω;clear hck f z y e M hQ Y X W V U T;go_enter func204,ntmps204;go_wp2_with fail;go_loopw [20] (λi wr=>∃j:Nat,j<=l/\i=.int .i64 j/\Hid ((l.find? λh=>h.msg.toList==msg.toList)=((l.drop j).find? λh=>h.msg.toList==msg.toList))/\Hid (Below w w wr)) (λi _=>l.length-(intOf i).toNat)
 case atStart=>exact⟨0,ω,rfl,rfl,belR _⟩
 case round =>
  obtain⟨j,hj,rfl,E,a⟩:=hrel;clear J;by_cases hlt:j<l
  ·have Z:=zT j l;have j0:(0:Int)<=(j:Int):=ω;have j2:(j:Int)<(l.length:Int):=ω;have v:=η (find_at (q:=λh=>h.msg.toList==msg.toList) hlt);obtain⟨g2,aa,A2,q2,D2,d2,rfl,t,I,H,G,F,_,_,_,u,_⟩:=lG O hlt;have R:=η u;have L:g2<w:=HQ _ t;replace I:=belC a I;replace H:=belC a H;replace G:=belC a G;replace F:=belC a F;clear u t L;by_cases r:l[j].msg.toList=msg.toList
   ·have x:(l[j].msg.toList==msg.toList)=true:=by simpa using r
    have k:Hid (hdP p i msg=some l[j].params):=by show _=_;rw[N.o,E.o,v.o];simp only[x];rfl
    clear r;go_wp2_with fail;go_ret2;rw[k.o];exact⟨belA a _,_,_,rfl,R⟩
   have x:(l[j].msg.toList==msg.toList)=false:=by simpa using r
   have k:Hid ((l.find? λh=>h.msg.toList==msg.toList)=((l.drop (j+1)).find? λh=>h.msg.toList==msg.toList)):=by show _=_;rw[E.o,v.o];simp only[x];rfl
   clear r;go_wp2_with fail;exact⟨⟨j+1,ω,by go_num,k,belA a _⟩,by simp[intOf];omega⟩
  have Z:=zF j l;have k:Hid (hdP p i msg=none):=by show _=_;rw[N.o,E.o,find_end hlt];rfl
  go_wp2_with fail;go_ret2;rw[k.o];exact⟨a,rfl⟩
section
variable {i:Nat} {msg:ByteArray}
def wJ {p:Pg} (hFi:Fine p) {fs:List Fld} (h:hdP p i msg=some fs):∀f∈fs,ag f.type=true:=by
 unfold hdP at h;split at h
 ·cases h
 rename_i a b
 cases hf:a.on.find? (λh=>h.msg.toList==msg.toList) with
 | none=>rw[hf] at h;cases h
 | some g =>
  rw[hf] at h;injection h with h;subst h;exact (hFi.acts a (List.mem_of_getElem? b)).2.2 g (List.mem_of_find?_eq_some hf)
def gy (l:List (List UInt8)) (s:List UInt8):(idxF l l s).getD (.int .i64 0)=.int .i64 (((idxP l s).getD 0:Nat):Int):=by
 unfold idxF idxP
 cases cB l l s<;>rfl
def ac_lt0 {p:Pg} {s:List UInt8} (h0:0<p.actors.length):(idxP p.acNames s).getD 0<p.actors.length:=by
 cases h:idxP p.acNames s with
 | none=>exact h0
 | some i=>exact ac_lt h
variable {sb:Nat} {sc:Sc}
def du {w w':World} {own:Nat->Prop} {mb:Nat} (hs:Stm mb w w'):ResB w own mb sb sc false (.returned (false:Vl)) w':=⟨rfl,hs,λh=>by cases h⟩
def i8 {w w':World} {own:Nat->Prop} {mb:Nat} {b:Bool} (hs:Stm mb w w') (hc:b=true->ScS w' own mb sb sc):ResB w own mb sb sc b (.returned (b:Vl)) w':=⟨rfl,hs,hc⟩
variable {xs:List Ex}
def uQ {c:CB} {p:Pg} {mb n:Nat} (IH:xG c p mb n) (hFi:Fine p) (h0:0<p.actors.length) {own:Nat->Prop} {A:Option Addr} {cap:Nat} {w:World} (hx0:0<xs.length) (hd:∀e∈xs,Ex.deep e<=n) (he:Env w own mb sb c p sc) (ho:ScOk p sc) (hx:ExsR w (im own w) (.slice A xs cap) xs):
 Calls prog 192 #[c.b,sb,msg,.slice A xs cap] w (ResB w own mb sb sc (jG p (aa p n) sc msg xs)):=by
 have br:=hx.le9;have bt:=hx.cap
 have f:Hid (jG p (aa p n) sc msg xs=match aa p n sc xs[0] none with|none=>false|some t=>if t.kind=7 then (match hdP p ((idxP p.acNames t.name.data.toList).getD 0) msg with|none=>false|some fs=>bl (aa p n) sc (xs.drop 1) fs) else false):=by
  show _=_;match xs,hx0 with
  | x::ys,_=>rfl
 obtain⟨g,J,o1,x1,m1,s1,a1,B1,bu,rfl,hg,e1,p0,p1,p2,p3,p4,hr⟩:=aQ hx (i:=0) hx0;simp only[Nat.zero_mul,Nat.add_zero] at p0 p1 p2 p3 p4;obtain⟨HR,E,a2,HD,X,D,HX,HO⟩:=zd8 hr IH hFi hd he ho hx he.mb.1;have U:=η (hd _ (ν hx0));have bq:=he.mb.2;have j0:(0:Int)<(xs.length:Int):=ω;obtain⟨r1,M⟩:=γ (aa p n sc xs[0] none)
 have T:=η M;rw[<-M] at f;clear IH hFi hd he ho hx hr M e1
 cases r1 with
 | none =>
  go_enter func192,ntmps192;go_wp2_with (go_at_call 170;refine (fk E U X D HR).mono ?_;rw[<-T.o];rintro e2 I ⟨l,rfl⟩);go_ret;rw[f.o];exact du (smA l _)
 | some t =>
  obtain⟨k,s,a⟩:=t;have B:Hid (jG p (aa p n) sc msg xs=if k=7 then (match hdP p ((idxP p.acNames s.data.toList).getD 0) msg with|none=>false|some fs=>bl (aa p n) sc (xs.drop 1) fs) else false):=f.o;clear f;by_cases F:k=7
  ·have k7:(k==7)=true:=by simpa using F
   have f:Hid (jG p (aa p n) sc msg xs=match hdP p ((idxP p.acNames s.data.toList).getD 0) msg with|none=>false|some fs=>bl (aa p n) sc (xs.drop 1) fs):=by show _=_;rw[B.o,if_pos F]
   clear B F;go_enter func192,ntmps192;go_upto_region 4 with (go_at_call 170;refine (fk E U X D HR).mono ?_;rw[<-T.o];rintro e2 I ⟨l,k2,s2,A2,n2,z,rfl,j,r⟩;have S2:=η l;have T2:=η j;have C2:=η r;obtain⟨rfl,rfl,L⟩:k=k2/\s=s2/\s.size<=maxLen:=(by cases j with|mk _ _ _ _ _ _ _ L=>exact⟨rfl,rfl,L⟩);clear l j r);obtain⟨d,u⟩:=γ (I.alloc (.cells (ty3 k s A2 n2 z) 40))
   rw[<-u];have V:Hid (Stm mb w d):=by rw[u];exact smA S2 _
   have a7:Hid (Hs d I 40 (ty3 k s A2 n2 z)):=by rw[u];exact Hs.new _ _ _
   have C3:Hid (ScS d own mb sb sc):=by rw[u];exact C2.below ζ1
   have H:=η (X.stp V C3);have bp:w.heap.size<=I:=S2.size;clear u S2 T2 C2;obtain⟨y0,y1,y2,_,_,_⟩:=a7.facts;replace y0:=belW y0;replace y1:=belW y1;replace y2:=belW y2;have s1:=belW H.chk.c5
   have lk:∀W,Below d d W->(Instr.lookup 101 (.map (some c.ba)) (s:Vl) false).run prog W=.ok (.int .i64 (((idxP p.acNames s.data.toList).getD 0:Nat):Int)) W:=λW hb=>by
    have:=cR (H.chk.ma.below hb H.chk.qa.1) L;rw[gy] at this;exact this
   obtain⟨G,O⟩:=γ ((idxP p.acNames s.data.toList).getD 0)
   have Z:G<p.actors:=by rw[O];exact ac_lt0 h0
   rw[<-O] at lk f;clear O;have ac:=η Z;clear Z
   cases hh:hdP p G msg with
   | none =>
    rw[hh] at f;have HH:=η hh;clear hh
    go_region_held3 (λW=>Below d d W) (first|exact ad _|exact bel ι h)
     (first|(go_at_call 204;refine (ir c p (im own d.drew) d.drew G msg (H.chk.to (sof (ad _)).sub) (λb hb=>hb.1) ac).mono ?_;rw[HH.o];rintro e4 w4 ⟨h,rfl⟩))
    go_wp2_with fail;go_ret;rw[f.o];exact du (V.trans (Stm.of_below (bel (ad _) h)))
   | some fs =>
    rw[hh] at f;obtain⟨HH,a3⟩:=zd2 hh (wJ a2 hh);clear hh
    go_region_held3 (λW=>Below d d W) (first|exact ad _|exact bel ι h)
     (first|(go_at_call 204;refine (ir c p (im own d.drew) d.drew G msg (H.chk.to (sof (ad _)).sub) (λb hb=>hb.1) ac).mono ?_;rw[HH.o];rintro e4 w4 ⟨h,A4,bh,rfl,N⟩))
    obtain⟨B4,a5⟩:=zd2 (bel (ad d) h) (FldsR.to N (sof (own:=own) h).sub);clear h N y0 y1 y2 s1 lk;obtain⟨y,v⟩:=γ (xs.drop 1)
    have Y:xs.length-1=y:=by rw[v,List.length_drop]
    have ab:Hid (ExsR w4 (im own w4) (.slice (fd (some ⟨g,J,none⟩) cap 1 5) y (cap-1)) y):=by rw[v];exact SlR.from (ExsR.to HX ((V.trans (Stm.of_below B4)).subO HO)) 1 ω
    have a4:Hid (∀e∈y,Ex.deep e<=n):=λe he=>HD e (by rw[v] at he;exact List.mem_of_mem_drop he);have E4:=η (H.bel B4);obtain⟨A1,R⟩:=γ (fd (some ⟨g,J,none⟩) cap 1 5)
    have bs:∀W,(Instr.slice 41 (.slice (some ⟨g,J,none⟩) xs cap) (some (.int .i64 1)) none none).run prog W=.ok (.slice A1 y (cap-1)) W:=λW=>by
     rw[R,<-Y];exact eH W _ _ _ 1 ω
    rw[<-R] at ab;rw[<-v] at f;clear v Y R;go_wp2_with (go_at_call 168;refine (fD E a4 E4 D ab a5 a3).mono ?_;rintro e5 w5 ⟨rfl,ay,an⟩);go_ret;rw[f.o];exact i8 (V.trans ((Stm.of_below B4).trans ay)) an
  have k7:(k==7)=false:=by simpa using F
  have f:Hid (jG p (aa p n) sc msg xs=false):=by show _=_;rw[B.o,if_neg F]
  clear B F;go_enter func192,ntmps192;go_wp2_with (go_at_call 170;refine (fk E U X D HR).mono ?_;rw[<-T.o];rintro e2 I ⟨l,k2,s2,A2,n2,z,rfl,j,r⟩;obtain⟨rfl,rfl⟩:k=k2/\s=s2:=(by cases j;exact⟨rfl,rfl⟩);clear j r);go_ret;rw[f.o];exact du (smA l _)
abbrev st9 (op n m:Int) (s u:ByteArray) (A0:Option Addr) (lx c0:Nat) (A1:Option Addr) (l1 c1:Nat) (A2:Option Addr) (l2 c2:Nat) (A3:Option Addr) (l3 c3:Nat):Array Value:=
 #[op,n,m,s,u,.slice A0 lx c0,.slice A1 l1 c1,.slice A2 l2 c2,.slice A3 l3 c3]
def ef_lt {p:Pg} {s:List UInt8} (h:idxP p.efNames s=some i):i<p.effects:=by
 have:=(cg _ _ _ _ h).1;simpa[Pg.efNames] using this
variable {u:ByteArray}
def doP_none {p:Pg} {E:EF} {s:ByteArray} (h:idxP p.efNames s.data.toList=none):doP p E sc s u xs=false:=by unfold doP;rw[h]
def doP_some {p:Pg} {E:EF} {s:ByteArray} (h:idxP p.efNames s.data.toList=some i) (hi:i<p.effects):doP p E sc s u xs=(bl E sc xs p.effects[i].params&&mo (hdP p sc.actor.toNat u) p.effects[i].answer):=by
 unfold doP;rw[h];simp only[ξ hi]
def uh {p:Pg} (hD:cH p=true):∀e∈p.effects,(∀q∈e.params,ag q.type=true)/\ag e.answer=true:=by
 unfold cH at hD;split at hD
 ·cases hD
 simp only[τ] at hD;intro e a;have:=(cI _ _ hD.2.1 e a).2;unfold iu at this;simp only[τ] at this;exact⟨fI this.1,dD this.2⟩
def do_at {c:CB} {p:Pg} {mb n:Nat} (IH:xG c p mb n) (hEf:∀e∈p.effects,∀q∈e.params,ag q.type=true) {own:Nat->Prop} {op x m:Int} {s:ByteArray} {A0 A1 A2 A3:Option Addr} {c0 l1 c1 l2 c2 l3 c3:Nat} {w:World} (hd:∀e∈xs,Ex.deep e<=n) (he:Env w own mb sb c p sc) (ho:ScOk p sc) (ha0:0<=sc.actor) (hx:ExsR w (im own w) (.slice A0 xs c0) xs) (hss:s.size<=maxLen):
 Calls prog 194 #[c.b,sb,.agg (st9 op x m s u A0 xs c0 A1 l1 c1 A2 l2 c2 A3 l3 c3)] w (ResB w own mb sb sc (doP p (aa p n) sc s u xs)):=by
 have co:=hx.le9;obtain⟨H,ae⟩:∃H:Nat,sc.actor=(H:Int):=⟨sc.actor.toNat,ω⟩
 have aq:H<p.actors:=by have:=ho.actor;omega
 have ay:Hid (sc.actor.toNat=H):=by show _=_;rw[ae];rfl
 obtain⟨bs,az,aw,bp,HD,av,HO⟩:=zd7 ae aq IH hEf hd ho he.mb.1;have cn:=he.mb.2;obtain⟨d,D,B1,a2⟩:=κ w (st9 op x m s u A0 xs c0 A1 l1 c1 A2 l2 c2 A3 l3 c3) 120
 obtain⟨E1,X1,a3,ar⟩:=zd4 (he.bel B1) (ExsR.to hx (sof (own:=own) B1).sub) B1 D;have Z:w.heap.size<d:=by rw[D];simp
 clear IH hEf hd he ho hx D B1 aq ae ha0;have d1:=belW E1.chk.c6;have b3:=belW (a2.c 3)
 have lk:∀W,Below d d W->(Instr.lookup 101 (.map (some c.be)) (s:Vl) true).run prog W=.ok (.tuple #[.int .i64 (((idxP p.efNames s.data.toList).getD 0:Nat):Int),.bool (idxP p.efNames s.data.toList).isSome]) W:=λW hb=>by
  have:=ck (E1.chk.me.below hb E1.chk.qe.1) hss;rw[gy,eU] at this;exact this
 have cr:=η hss;clear hss
 cases hix:idxP p.efNames s.data.toList with
 | none =>
  rw[hix] at lk;have I:=η (doP_none (E:=aa p n) (sc:=sc) (u:=u) (xs:=xs) hix);clear hix;go_enter func194,ntmps194;go_upto_region 1 with fail;rw[<-ar.o];go_region_held3 (λW=>Below d d W) (first|exact ad _) (fail);go_upto_region 2 with fail;obtain⟨y,k⟩:=γ d.drew
  rw[<-k];have V:Hid (Below w w y):=by rw[k];exact bel a3 (ad _)
  clear k;refine tkB (λW=>Stm mb y W) (smDr _ _) (λhHeld=>?_);refine θ ?_;refine tkD ?_;go_wp2_with fail;go_ret;rw[I.o];exact du (Stm.of_below (bel V (ad _)))
 | some i =>
  have hi:=ef_lt hix;rw[hix] at lk;obtain⟨I,ax⟩:=zd2 (doP_some (E:=aa p n) (sc:=sc) (u:=u) (xs:=xs) hix hi) (bp _ (ν hi));have i0:(0:Int)<=(i:Int):=ω;have i1:(i:Int)<(p.effects.length:Int):=ω;obtain⟨bE,ac⟩:=γ (bl (aa p n) sc xs p.effects[i].params)
  rw[<-ac] at I;have H4:=η ac.symm;clear hix ac;go_enter func194,ntmps194;go_upto_region 1 with fail;rw[<-ar.o];go_region_held3 (λW=>Below d d W) (first|exact ad _) (fail);go_upto_region 2 with fail;obtain⟨y,k⟩:=γ d.drew
  rw[<-k];have O:Hid (Below d d y):=by rw[k];exact ad _
  have b1:w.heap.size<y:=by rw[k];exact Z
  obtain⟨V,E3,X3,a1⟩:=zd4 (bel a3 O) (E1.bel O) (ExsR.to X1 (sof (own:=own) O).sub) (show Hs y w 120 (st9 op x m s u A0 xs c0 A1 l1 c1 A2 l2 c2 A3 l3 c3) from (O.block _ Z).trans a2);clear k d1 b3 lk;have bj:=E3.sco;obtain⟨_,_,_,_,B⟩:=bj;have ak:=B.c3;rw[bs.o] at ak;have bi:sb≠mb:=λe=>B.isb.2 (by rw[e];exact B.om);have al:=stpC (mb:=mb) ak bi;clear B ak;have F:=E3.chk;obtain⟨AE,qE,eE⟩:=F.effects.form;have c1:=F.c1;rw[eE] at c1;have N:=F.effects;rw[eE] at N;have bm:c.b≠mb:=λe=>F.qb.2 (by rw[e];exact HO);obtain⟨g,cm,A,q,k5,s5,a5,B5,c5,rfl,hg,v0,X,U,T,R,_,_,ao,ap⟩:=jC N hi;obtain⟨a0,br⟩:=zd2 ao ap;have M:g≠mb:=λe=>hg.2 (by rw[e];exact HO);replace c1:=stpC (mb:=mb) c1 bm;replace X:=stpC (mb:=mb) X M;replace U:=stpC (mb:=mb) U M;replace T:=stpC (mb:=mb) T M;replace R:=stpC (mb:=mb) R M;have b5:=stpC (mb:=mb) (a1.c 5) Φ;have b4:=stpC (mb:=mb) (a1.c 4) Φ;have b2:=N.le9;clear F N ao ap v0 hg eE
  cases bE with
  | false =>
   refine tkB (λW=>Stm mb y W) (smDr _ _) (λhHeld=>?_);refine θ ?_;refine tkE 16 (λK hK=>?_);go_simp;(refine (fD aw HD (E3.bel (ad _)) av (ExsR.to X3 (sof (ad _)).sub) (FldsR.to a0 (sof (ad _)).sub) ax).mono ?_;rw[H4.o];rintro e4 j ⟨rfl,z,G⟩);refine tkR hK ?_ (λhHeld=>?_)
   ·exact hHeld.trans z
   clear hK K;refine θ ?_;refine tkD ?_;go_wp2_with fail;go_ret;rw[I.o];exact du ((Stm.of_below (bel V (ad _))).trans z)
  | true =>
   refine tkB (λW=>Stm mb y W) (smDr _ _) (λhHeld=>?_);refine θ ?_;refine tkE 16 (λK hK=>?_);go_simp;(refine (fD aw HD (E3.bel (ad _)) av (ExsR.to X3 (sof (ad _)).sub) (FldsR.to a0 (sof (ad _)).sub) ax).mono ?_;rw[H4.o];rintro e4 j ⟨rfl,z,G⟩);refine tkR hK ?_ (λhHeld=>?_)
   ·exact hHeld.trans z
   clear hK K;refine θ ?_;refine tkD ?_;obtain⟨r,C4⟩:=zd2 ((smDr mb y).trans z) (G Υ);have E4:=η (E3.stp r C4);clear z G hHeld;replace c1:=belW (c1 _ r);replace X:=belW (X _ r);replace U:=belW (U _ r);replace T:=belW (T _ r);replace R:=belW (R _ r);replace b4:=belW (b4 _ r);replace al:=belW (al _ r);clear b5 X;go_upto_region 4 with fail
   cases hh:hdP p H u with
   | none =>
    have ah:Hid (doP p (aa p n) sc s u xs=false):=by show _=_;rw[I.o,ay.o,hh];rfl
    have HH:=η hh;clear hh
    go_region_held3 (λW=>Below j j W) (first|exact ad _|exact bel ι l)
     (first|(go_at_call 204;refine (ir c p (im own j.drew) j.drew H u (E4.chk.to (sof (ad _)).sub) (λb hb=>hb.1) az).mono ?_;rw[HH.o];rintro e5 w5 ⟨l,rfl⟩))
    obtain⟨t,rfl⟩:=γ w5
    have J:=η (bel (ad j) l);clear l;go_upto_region 5 with fail;refine tkB (λW=>Below t t W) (ad _) (λhHeld=>?_);refine θ ?_;refine tkD ?_;go_wp2_with fail;go_ret;rw[ah.o];exact du ((Stm.of_below V).trans (r.trans (Stm.of_below (bel J (ad _)))))
   | some fs =>
    have HH:=η hh
    have au:Hid (doP p (aa p n) sc s u xs=mo (some fs) p.effects[i].answer):=by
     show _=_;rw[I.o,ay.o,hh];rfl
    clear hh I
    go_region_held3 (λW=>Below j j W) (first|exact ad _|exact bel ι l)
     (first|(go_at_call 204;refine (ir c p (im own j.drew) j.drew H u (E4.chk.to (sof (ad _)).sub) (λb hb=>hb.1) az).mono ?_;rw[HH.o];rintro e5 w5 ⟨l,A5,ca,rfl,ab⟩))
    obtain⟨t,rfl⟩:=γ w5
    obtain⟨J,bu⟩:=zd2 (bel (ad j) l) (FldsR.to ab (sof (own:=own) l).sub);obtain⟨C6,U6⟩:=zd2 (C4.below J) ((br.to (r.subO HO)).to (sof (own:=own) J).sub);have bw:∀{a:Addr} {v:Value},(∀W,Below j j W->W.cell? a=some v)->∀W,Below t t W->W.cell? a=some v:=λh W hb=>h W (bel J hb);have cq:=bw c1;have cl:=bw U;have cj:=bw T;have ci:=bw R;clear l ab c1 U T R bw b4 al;go_upto_region 5 with fail;by_cases L:fs.length=1
    ·obtain⟨f,rfl⟩:∃f,fs=[f]:=List.length_eq_one_iff.1 L;obtain⟨g6,b0,k6,s6,a6,cs,c6,rfl,cp,e6,y0,y1,y2,y3,_,Y⟩:=dw bu (i:=0) Θ;simp only[Nat.zero_mul,Nat.add_zero,List.getElem_cons_zero] at y0 y1 y2 y3 Y;have T6:=η Y;replace y1:=belW y1;replace y2:=belW y2;replace y3:=belW y3;clear L y0 Y e6;refine tkB (λW=>Below t t W) (ad _) (λhHeld=>?_);refine θ ?_;refine tkE 20 (λK hK=>?_);go_simp;(refine (lN (T6.to (sof (own:=own) (ad t)).imlo) (U6.to (sof (own:=own) (ad t)).imlo)).mono ?_;rintro e7 w7 ⟨rfl,bn⟩);refine tkR hK ?_ (λhHeld=>?_)
     ·exact bel hHeld bn
     clear hK K;refine θ ?_;refine tkD ?_;go_wp2_with fail;go_ret;rw[au.o];exact i8 ((Stm.of_below V).trans (r.trans (Stm.of_below (bel J hHeld)))) (λ_=>C6.below hHeld)
    have l1:((fs.length:Int)==1)=false:=beq_eq_false_iff_ne.2 ω
    have ah:Hid (doP p (aa p n) sc s u xs=false):=by
     show _=_;rw[au.o];match fs,L with
     | [],_=>rfl
     | [f],h=>exact absurd rfl h
     | _::_::_,_=>rfl
    clear L;refine tkB (λW=>Below t t W) (ad _) (λhHeld=>?_);refine θ ?_;refine tkD ?_;go_wp2_with fail;go_ret;rw[ah.o];exact du ((Stm.of_below V).trans (r.trans (Stm.of_below (bel J (ad _)))))
variable {σ:Type} {N:Nm σ} {B b:Nat} {fv nv:Value} {rel:World->σ->Nat->Prop} {E:WEnv N B b fv nv rel} {out:List UInt8} {st:σ} {w:World}
def ut {o x m:Int} {s:ByteArray} {y:List Ex} {h e a:List St}:(wSt N st (.mk o x m s u y h e a)).1=numB o++(intB x++(intB m++(aM s++(aM u++((ah (wEx N) st y).1++((ah (wSt N) (ah (wEx N) st y).2 h).1++((ah (wSt N) (ah (wSt N) (ah (wEx N) st y).2 h).2 e).1++(ah (wSt N) (ah (wSt N) (ah (wSt N) (ah (wEx N) st y).2 h).2 e).2 a).1)))))))/\(wSt N st (.mk o x m s u y h e a)).2=(ah (wSt N) (ah (wSt N) (ah (wSt N) (ah (wEx N) st y).2 h).2 e).2 a).2:=by
 rw[wSt];simp only[yK];exact⟨rfl,rfl⟩
def vz (n:Nat):∀(cs:List Value) (t:St) (w:World) (st:σ) (out:List UInt8),SizeOf.sizeOf t<=n->StR w (uo (wM B b) w) cs t->WS E out st w->out.length+(wSt N st t).1.length<=wTop->Calls prog 75 #[b,.agg cs.toArray] w (bG E (out++(wSt N st t).1) (wSt N st t).2 w):=by
 induction n with
 | zero=>intro cs t w st out hn;cases t;simp at hn
 | succ n ih =>
  intro cs t w st out hn p k q;obtain⟨o,x,m,s,u,y,h,e,a,D0,d0,D1,d1,D2,d2,D3,d3,rfl,rfl,a6,T,R,h1,h2,h3,h4⟩:=kA p
  have IH:Hid (∀(l:List St),SizeOf.sizeOf l<=n->∀(i:Nat) (hi:i<l.length) (cs:List Value) (w:World) (st:σ) (out:List UInt8),StR w (uo (wM B b) w) cs l[i]->WS E out st w->out.length+(wSt N st l[i]).1.length<=wTop->Calls prog 75 #[b,.agg cs.toArray] w (bG E (out++(wSt N st l[i]).1) (wSt N st l[i]).2 w)):=λl hl i hi cs w st out p k hln =>
   ih cs l[i] w st out (by have:=List.sizeOf_lt_of_mem (ν hi);omega) p k hln
  obtain⟨ao,ap,bt,bs,br,bq⟩:=zd6 (show SizeOf.sizeOf h<=n/\SizeOf.sizeOf e<=n/\SizeOf.sizeOf a<=n by simp at hn;omega) a6 h1 h2 h3 h4;clear ih hn p a6 h1 h2 h3 h4;have HV:Hid ((wSt N st (.mk o x m s u y h e a)).1=numB o++(intB x++(intB m++(aM s++(aM u++((ah (wEx N) st y).1++((ah (wSt N) (ah (wEx N) st y).2 h).1++((ah (wSt N) (ah (wSt N) (ah (wEx N) st y).2 h).2 e).1++((ah (wSt N) (ah (wSt N) (ah (wSt N) (ah (wEx N) st y).2 h).2 e).2 a).1))))))))/\(wSt N st (.mk o x m s u y h e a)).2=(ah (wSt N) (ah (wSt N) (ah (wSt N) (ah (wEx N) st y).2 h).2 e).2 a).2):=ut;have g:Hid (out.length+((numB o).length+((intB x).length+((intB m).length+((aM s).length+((aM u).length+(((ah (wEx N) st y).1).length+(((ah (wSt N) (ah (wEx N) st y).2 h).1).length+(((ah (wSt N) (ah (wSt N) (ah (wEx N) st y).2 h).2 e).1).length+(((ah (wSt N) (ah (wSt N) (ah (wSt N) (ah (wEx N) st y).2 h).2 e).2 a).1).length)))))))))<=wTop):=by show _<=_;rw[HV.o.1] at q;simpa only[μ] using q
  obtain⟨bv,bu,b3,b2⟩:=zd4 (aS s) (aS u) T R;have j:w≠b:=λe=>Nat.lt_irrefl b (e▸k.wr.lt);obtain⟨W1,M,B1,L⟩:=κ w #[o,x,m,s,u,.slice D0 y d0,.slice D1 h d1,.slice D2 e d2,.slice D3 a d3] 120
  have bc:Hid (Ch (wM B b) w W1):=Ch.of_below B1;have an:Hid (WS E out st W1):=k.bel B1;have a7:=η M;clear k M B1 T R q;go_enter func75,ntmps75;go_upto_region 1 with fail;rw[<-a7.o];clear a7;have d:=L.c 0;go_wp2_with fail;refine (eG an ap.1 (by have:=g.o;(try simp only[μ]);omega)).mono ?_;rintro e2 W2 ⟨rfl,a5,ad⟩;obtain⟨am,J,bb⟩:=zd3 a5 (ax an ad L j rfl) (bc.trans ad);clear a5 ad d L an bc;have d:=J.c 1;go_wp2_with fail;refine (jX am ap.2.1 (by have:=g.o;(try simp only[μ]);omega)).mono ?_;rintro e3 W3 ⟨rfl,a4,ac⟩;obtain⟨al,I,ba⟩:=zd3 a4 (ax am ac J j rfl) (bb.trans ac);clear a4 ac d J am bb;have d:=I.c 2;go_wp2_with fail;refine (jX al ap.2.2 (by have:=g.o;(try simp only[μ]);omega)).mono ?_;rintro e4 W4 ⟨rfl,a3,ab⟩;obtain⟨ak,H,a9⟩:=zd3 a3 (ax al ab I j rfl) (ba.trans ab);clear a3 ab d I al ba;have d:=H.c 3;go_wp2_with fail;refine (iy ak (by have:=g.o;(try simp only[μ]);omega) (by have:=g.o;have:=bv.1;omega)).mono ?_;rintro e5 W5 ⟨rfl,a2,aa⟩;obtain⟨aj,G,a8⟩:=zd3 a2 (ax ak aa H j rfl) (a9.trans aa);clear a2 aa d H ak a9;have d:=G.c 4;go_wp2_with fail;refine (iy aj (by have:=g.o;(try simp only[μ]);omega) (by have:=g.o;have:=bu.1;omega)).mono ?_;rintro e6 W6 ⟨rfl,a1,Z⟩;obtain⟨ai,F,O⟩:=zd3 a1 (ax aj Z G j rfl) (a8.trans Z);clear a1 Z d G aj a8;have d:=F.c 5;go_wp2_with fail
  refine (wl_121 (f:=wEx N) (SlR.to' bt O.sub (λ_ _ x=>x.to O.sub)) ai (by have:=g.o;(try simp only[μ]);omega) (λi hi cs W st out p k hl=>ur p k hl)).mono ?_;rintro e7 W7 ⟨rfl,a0,Y⟩;obtain⟨ag,D,au⟩:=zd3 a0 (ax ai Y F j rfl) (O.trans Y);clear a0 Y d F ai O;have d:=D.c 6;go_wp2_with fail;refine (wl_74 (f:=wSt N) (StsR.to bs au.sub) ag (by have:=g.o;(try simp only[μ]);omega) (λi hi cs W st out p k hl=>IH _ ao.1 i hi cs W st out p k hl)).mono ?_;rintro e8 W8 ⟨rfl,az,X⟩;obtain⟨af,A,ar⟩:=zd3 az (ax ag X D j rfl) (au.trans X);clear az X d D ag au;have d:=A.c 7;go_wp2_with fail;refine (wl_74 (f:=wSt N) (StsR.to br ar.sub) af (by have:=g.o;(try simp only[μ]);omega) (λi hi cs W st out p k hl=>IH _ ao.2.1 i hi cs W st out p k hl)).mono ?_;rintro e9 W9 ⟨rfl,ay,V⟩;obtain⟨ae,v,aq⟩:=zd3 ay (ax af V A j rfl) (ar.trans V);clear ay V d A af ar;have d:=v.c 8;go_wp2_with fail;refine (wl_74 (f:=wSt N) (StsR.to bq aq.sub) ae (by have:=g.o;(try simp only[μ]);omega) (λi hi cs W st out p k hl=>IH _ ao.2.2 i hi cs W st out p k hl)).mono ?_;rintro b4 b5 ⟨rfl,U,r⟩;obtain⟨bf,b1,bg⟩:=zd3 U (ax ae r v j rfl) (aq.trans r);clear U r d v ae aq;go_wp2_with fail;go_end0;refine⟨rfl,?_,bg⟩;rw[HV.o.1,HV.o.2];simpa only[χ] using bf.o
variable {cs:List Value}
def w_stmt {t:St} (hr:StR w (uo (wM B b) w) cs t) (hs:WS E out st w) (hlen:out.length+(wSt N st t).1.length<=wTop):Calls prog 75 #[b,.agg cs.toArray] w (bG E (out++(wSt N st t).1) (wSt N st t).2 w):=vz _ cs t w st out (υ _) hr hs hlen
def w_hd {gc:Nat} {t:Hd} (hcap:CapW B b gc w) (hr:HdR w (uo (wM B b) w) cs t) (hs:WS E out st w) (hlen:out.length+(wHd N st t).1.length<=wTop):Calls prog 73 #[.agg cs.toArray,gc] w (bG E (out++(wHd N st t).1) (wHd N st t).2 w):=by
 obtain⟨A,q,D,d,rfl,Z,-,h1,h2⟩:=mB hr;have HV:Hid ((wHd N st t).1=aM t.msg++((bJ N st t.params).1++(numB t.slots++((ah (wSt N) (bJ N st t.params).2 t.body).1)))/\(wHd N st t).2=(ah (wSt N) (bJ N st t.params).2 t.body).2):=⟨rfl,rfl⟩
 have h:Hid (out.length+((aM t.msg).length+(((bJ N st t.params).1).length+((numB t.slots).length+(((ah (wSt N) (bJ N st t.params).2 t.body).1).length))))<=wTop):=by show _<=_;rw[HV.o.1] at hlen;simpa only[μ] using hlen
 obtain⟨ao,ag,an,am⟩:=zd4 (aS t.msg) Z h1 h2;have r:w≠b:=λe=>Nat.lt_irrefl b (e▸hs.wr.lt);obtain⟨I,G,B1,p⟩:=κ w #[t.msg,.slice A t.params q,t.slots,.slice D t.body d] 64
 have T:Hid (Ch (wM B b) w I):=Ch.of_below B1;have O:Hid (WS E out st I):=hs.bel B1;have Y:Hid (CapW B b gc I):=hcap.to T;have ae:=η G;clear hs G B1 Z h1 h2 hlen hcap;go_enter func73,ntmps73;go_upto_region 1 with fail;rw[<-ae.o];clear ae;have g:=p.c 0;have a:=Y.2;go_wp2_with fail;refine (iy O (by have:=h.o;(try simp only[μ]);omega) (by have:=h.o;have:=ao.1;omega)).mono ?_;rintro e2 W2 ⟨rfl,ad,F⟩;obtain⟨M,l,R,X⟩:=zd4 ad (ax O F p r rfl) (T.trans F) (Y.to F);clear ad F g a p O T Y;have g:=l.c 1;have a:=X.2;go_wp2_with fail;refine (pw (FldsR.to an R.sub) M (by have:=h.o;(try simp only[μ]);omega)).mono ?_;rintro e3 W3 ⟨rfl,ac,y⟩;obtain⟨L,k,af,V⟩:=zd4 ac (ax M y l r rfl) (R.trans y) (X.to y);clear ac y g a l M R X;have g:=k.c 2;have a:=V.2;go_wp2_with fail;refine (eG L ag (by have:=h.o;(try simp only[μ]);omega)).mono ?_;rintro e4 W4 ⟨rfl,ab,v⟩;obtain⟨J,j,H,U⟩:=zd4 ab (ax L v k r rfl) (af.trans v) (V.to v);clear ab v g a k L af V;have g:=j.c 3;have a:=U.2;go_wp2_with fail;refine (wl_74 (f:=wSt N) (SlR.to' am H.sub (λ_ _ x=>x.to H.sub)) J (by have:=h.o;(try simp only[μ]);omega) (λi hi cs W st out hr hs hl=>w_stmt hr hs hl)).mono ?_;rintro e5 W5 ⟨rfl,aa,u⟩;obtain⟨ap,ar,aq,au⟩:=zd4 aa (ax J u j r rfl) (H.trans u) (U.to u);clear aa u g a j J H U;go_wp2_with fail;go_end0;refine⟨rfl,?_,aq⟩;rw[HV.o.1,HV.o.2]
 simpa only[χ] using ap.o
def uB {t:Ac} (hr:AcR w (uo (wM B b) w) cs t) (hs:WS E out st w) (hlen:out.length+(wAc N st t).1.length<=wTop):Calls prog 28 #[b,.agg cs.toArray] w (bG E (out++(wAc N st t).1) (wAc N st t).2 w):=by
 obtain⟨A,q,B_,c,D,d,rfl,ae,-,h1,h2,h3⟩:=jD hr;have HV:Hid ((wAc N st t).1=aM t.name++((bJ N st t.params).1++(numB t.slots++((ah (wVr N) (bJ N st t.params).2 t.vars).1++((ah (wHd N) (ah (wVr N) (bJ N st t.params).2 t.vars).2 t.on).1))))/\(wAc N st t).2=(ah (wHd N) (ah (wVr N) (bJ N st t.params).2 t.vars).2 t.on).2):=⟨rfl,rfl⟩
 have h:Hid (out.length+((aM t.name).length+(((bJ N st t.params).1).length+((numB t.slots).length+(((ah (wVr N) (bJ N st t.params).2 t.vars).1).length+(((ah (wHd N) (ah (wVr N) (bJ N st t.params).2 t.vars).2 t.on).1).length)))))<=wTop):=by show _<=_;rw[HV.o.1] at hlen;simpa only[μ] using hlen
 obtain⟨a1,ao,a0,az,ay⟩:=zd5 (aS t.name) ae h1 h2 h3;have k:w≠b:=λe=>Nat.lt_irrefl b (e▸hs.wr.lt);have j:w+1≠b:=λe=>by have:=hs.wr.lt;omega
 obtain⟨W1,r⟩:=γ ((w.alloc (.cells #[b] 66)).alloc (.cells #[t.name,.slice A t.params q,t.slots,.slice B_ t.vars c,.slice D t.on d,t.policy,t.most] 54))
 have B1:Below w w W1:=by rw[r];exact ζ2
 have J:Hid (Hs W1 w 66 #[b]):=by rw[r];exact (fu (Hs.new _ _ _) _)
 have G:Hid (Hs W1 (w+1) 54 #[t.name,.slice A t.params q,t.slots,.slice B_ t.vars c,.slice D t.on d,t.policy,t.most]):=by rw[r];exact (η (by have:=Hs.new (w.alloc (.cells #[b] 66)) 54 #[t.name,.slice A t.params q,t.slots,.slice B_ t.vars c,.slice D t.on d,t.policy,t.most];simpa using this))
 have an:Hid (Ch (wM B b) w W1):=Ch.of_below B1;have Z:Hid (WS E out st W1):=hs.bel B1;have al:=η r;clear hs r B1 ae h1 h2 h3 hlen;go_enter func28,ntmps28;go_upto_region 1 with fail;rw[<-al.o];clear al;have g:=G.c 0;have a:=J.c 0;go_wp2_with fail;refine (iy Z (by have:=h.o;(try simp only[μ]);omega) (by have:=h.o;have:=a1.1;omega)).mono ?_;rintro e2 W2 ⟨rfl,ak,T⟩;obtain⟨Y,I,F,ad⟩:=zd4 ak (ax Z T J k rfl) (ax Z T G j rfl) (an.trans T);clear ak T g a J G Z an;have g:=F.c 1;have a:=I.c 0;go_wp2_with fail;refine (pw (FldsR.to a0 ad.sub) Y (by have:=h.o;(try simp only[μ]);omega)).mono ?_;rintro e3 W3 ⟨rfl,aj,R⟩;obtain⟨X,H,y,am⟩:=zd4 aj (ax Y R I k rfl) (ax Y R F j rfl) (ad.trans R);clear aj R g a I F Y ad;have g:=y.c 2;have a:=H.c 0;go_wp2_with fail;refine (eG X ao.1 (by have:=h.o;(try simp only[μ]);omega)).mono ?_;rintro e4 W4 ⟨rfl,ai,O⟩;obtain⟨V,p,v,ab⟩:=zd4 ai (ax X O H k rfl) (ax X O y j rfl) (am.trans O);clear ai O g a H y X am;have g:=v.c 3;have a:=p.c 0;go_wp2_with fail;refine (wl_70 (f:=wVr N) (SlR.to' az ab.sub (λ_ _ x=>x.to ab.sub)) V ⟨nG p k rfl,p.cell 0⟩ (by have:=h.o;(try simp only[μ]);omega) (λi hi cs W st out hcp hr hs hl=>w_vr hcp hr hs hl)).mono ?_;rintro e5 W5 ⟨rfl,ag,M⟩;obtain⟨U,l,u,aa⟩:=zd4 ag (ax V M p k rfl) (ax V M v j rfl) (ab.trans M);clear ag M g a p v V ab;have g:=u.c 4
 have a:=l.c 0;go_wp2_with fail;refine (wl_72 (f:=wHd N) (SlR.to' ay aa.sub (λ_ _ x=>x.to aa.sub)) U ⟨nG l k rfl,l.cell 0⟩ (by have:=h.o;(try simp only[μ]);omega) (λi hi cs W st out hcp hr hs hl=>w_hd hcp hr hs hl)).mono ?_;rintro e6 W6 ⟨rfl,af,L⟩;obtain⟨a2,a5,a4,a3⟩:=zd4 af (ax U L l k rfl) (ax U L u j rfl) (aa.trans L);clear af L g a l u U aa;go_wp2_with fail;go_end0;refine⟨rfl,?_,a3⟩;rw[HV.o.1,HV.o.2];simpa only[χ] using a2.o
def w_actorP {gc:Nat} {t:Ac} (hcap:CapW B b gc w) (hr:AcR w (uo (wM B b) w) cs t) (hs:WS E out st w) (hlen:out.length+(wAcP N st t).1.length<=wTop):Calls prog 27 #[.agg cs.toArray,gc] w (bG E (out++(wAcP N st t).1) (wAcP N st t).2 w):=by
 obtain⟨A,q,B_,c,D,d,rfl,M,-,-,-,-⟩:=jD hr;have ag:=η hr;clear hr;have X:Hid ((wAcP N st t).1=(wAc N st t).1++(numB t.policy++(numB t.most))/\(wAcP N st t).2=(wAc N st t).2):=⟨rfl,rfl⟩
 have j:Hid (out.length+(((wAc N st t).1).length+((numB t.policy).length+((numB t.most).length)))<=wTop):=by show _<=_;rw[X.o.1] at hlen;simpa only[μ] using hlen
 have y:=η M;have v:w≠b:=λe=>Nat.lt_irrefl b (e▸hs.wr.lt);obtain⟨x,r,Y,a⟩:=κ w #[t.name,.slice A t.params q,t.slots,.slice B_ t.vars c,.slice D t.on d,t.policy,t.most] 54
 have u:Hid (Ch (wM B b) w x):=Ch.of_below Y;have H:Hid (WS E out st x):=hs.bel Y;have L:Hid (CapW B b gc x):=hcap.to u;have U:=η r;clear hs r Y M hlen hcap;go_enter func27,ntmps27;go_upto_region 1 with fail;rw[<-U.o];clear U;have g:=a.c 0;have ae:=a.c 1;have ad:=a.c 2;have ac:=a.c 3;have ab:=a.c 4;have aa:=a.c 5;have Z:=a.c 6;have f:=L.2;go_wp2_with fail;refine (uB (ag.to u.sub) H (by have:=j.o;(try simp only[μ]);omega)).mono ?_;rintro e2 W2 ⟨rfl,T,p⟩;obtain⟨G,i,W,J⟩:=zd4 T (ax H p a v rfl) (u.trans p) (L.to p);clear T p g ae ad ac ab aa Z f a H u L;have g:=i.c 5;have f:=J.2;go_wp2_with fail;refine (eG G y.2.1 (by have:=j.o;(try simp only[μ]);omega)).mono ?_;rintro e3 W3 ⟨rfl,R,l⟩;obtain⟨F,h,V,I⟩:=zd4 R (ax G l i v rfl) (W.trans l) (J.to l);clear R l g f i G W J;have g:=h.c 6;have f:=I.2;go_wp2_with fail;refine (eG F y.2.2 (by have:=j.o;(try simp only[μ]);omega)).mono ?_;rintro e4 W4 ⟨rfl,O,k⟩;obtain⟨af,aj,ah,ak⟩:=zd4 O (ax F k h v rfl) (V.trans k) (I.to k);clear O k g f h F V I;go_wp2_with fail;go_end0;refine⟨rfl,?_,ah⟩;rw[X.o.1,X.o.2];simpa only[χ] using af.o
mutual
def ren (φ:Int->Int):Ex->Ex
 | .mk op x m s kids=>.mk op (if op=33\/op=34 then φ x else x) m s (rens φ kids)
def rens (φ:Int->Int):List Ex->List Ex
 | []=>[]
 | x::xs=>ren φ x::rens φ xs
end
def lU (φ:Int->Int) (l:List Ex):rens φ l=l.map (ren φ):=by
 induction l with
 | nil=>rfl
 | cons x l ih=>rw[rens,ih];rfl
def ren_op (φ:Int->Int) (e:Ex):(ren φ e).op=e.op:=by cases e;rfl
def ren_m (φ:Int->Int) (e:Ex):(ren φ e).m=e.m:=by cases e;rfl
def ren_s (φ:Int->Int) (e:Ex):(ren φ e).s=e.s:=by cases e;rfl
def sQ (φ:Int->Int) (e:Ex):(ren φ e).kids=e.kids.map (ren φ):=by cases e;exact lU _ _
def ren_n (φ:Int->Int) (e:Ex) (h:e.op=14):(ren φ e).n=e.n:=by
 cases e with
 | mk op x m s kids=>show (if _ then _ else _)=_;rw[if_neg (by simp only[Ex.op] at h;omega)];rfl
mutual
theorem rE:∀e:Ex,ren (λx=>x) e=e
 | .mk op x m s kids=>by rw[ren,qZ,ite_self]
theorem qZ:∀l:List Ex,rens (λx=>x) l=l
 | []=>rfl
 | x::xs=>by rw[rens,rE,qZ]
end
mutual
theorem ren_deep (φ:Int->Int):∀e:Ex,(ren φ e).deep=e.deep
 | .mk op x m s kids=>by rw[ren,Ex.deep,Ex.deep,mM]
theorem mM (φ:Int->Int):∀l:List Ex,Ex.deeps (rens φ l)=Ex.deeps l
 | []=>rfl
 | x::xs=>by rw[rens,Ex.deeps,Ex.deeps,ren_deep,mM]
end
def fsig (p:Pg) (x:Int):Option (List Fld×Ty):=if az x p.funs then (p.funs[x.toNat]?).map λf=>(f.params,f.result) else none
structure Sig (p p':Pg) (φ:Int->Int):Prop where
 rcd:∀t,recP p t=recP p' t
 var:∀t,varP p t=varP p' t
 fn:∀x,fsig p x=fsig p' (φ x)
structure ScEq (p p':Pg) (sc sc':Sc):Prop where
 slots:sc.slots=sc'.slots
 bound:sc.bound=sc'.bound
 vars:sc.vars.map (·.type)=sc'.vars.map (·.type)
 self:iL p sc=iL p' sc'
 hd:0<=sc.actor->∀t,hdP p sc.actor.toNat t=hdP p' sc'.actor.toNat t
def kM {α β:Type} (R:α->β->Prop) (a:Option α) (b:Option β):Prop:=(a=none/\b=none)\/∃x y,a=some x/\b=some y/\R x y
section
variable {p p':Pg} {φ:Int->Int} {sc sc':Sc}
def ScEq.set (h:ScEq p p' sc sc') (i:Int) (t:Ty):ScEq p p' (sc.set i t) (sc'.set i t):=
 ⟨h.slots,by unfold Sc.set;rw[h.bound],h.vars,h.self,h.hd⟩
def ScEq.bind (h:ScEq p p' sc sc') (i:Int) (t:Ty):kM (ScEq p p') (sc.bind i t) (sc'.bind i t):=by
 have a:sc.bindB i=sc'.bindB i:=by unfold Sc.bindB;rw[h.bound,h.slots]
 unfold Sc.bind;rw[a]
 cases sc'.bindB i with
 | false=>exact .inl ⟨rfl,rfl⟩
 | true=>exact .inr ⟨_,_,rfl,rfl,h.set i t⟩
theorem ScEq.bindAll:∀(fs:List Fld) (m:Int) {sc sc':Sc},ScEq p p' sc sc'->kM (ScEq p p') (bindAll sc m fs) (bindAll sc' m fs)
 | [],m,sc,sc',h=>.inr ⟨_,_,rfl,rfl,h⟩
 | f::fs,m,sc,sc',h=>by
  rw[Go.Proofs.YtjohpidklbhmcaaGreatDoor.bindAll,Go.Proofs.YtjohpidklbhmcaaGreatDoor.bindAll]
  rcases h.bind m f.type with ⟨h1,h2⟩|⟨a,b,h1,h2,hr⟩
  ·rw[h1,h2];exact .inl ⟨rfl,rfl⟩
  rw[h1,h2];exact ScEq.bindAll fs (m+1) hr
def ERel (p p':Pg) (φ:Int->Int) (n:Nat) (E E':EF):Prop:=∀sc sc' e want,ScEq p p' sc sc'->Ex.deep e<=n->E sc e want=E' sc' (ren φ e) want
variable {n:Nat} {E E':EF} (hE:ERel p p' φ n E E') (hs:ScEq p p' sc sc')
include hE hs
theorem dR {e:Ex} (h:Ex.deep e<=n) (t:Ty):isE E sc e t=isE E' sc' (ren φ e) t:=by unfold isE;rw[hE _ _ _ _ hs h]
theorem en:∀(kids:List Ex) (fs:List Fld),(∀e∈kids,Ex.deep e<=n)->bl E sc kids fs=bl E' sc' (kids.map (ren φ)) fs
 | [],[],_=>rfl
 | [],_::_,_=>rfl
 | e::es,[],_=>rfl
 | e::es,f::fs,h=>by
  rw[List.map_cons,bl,bl,dR hE hs (h e List.mem_cons_self),en es fs λx hx=>h x (List.mem_cons_of_mem _ hx)]
theorem mR:∀(kids:List Ex) (fs:List Ty),(∀e∈kids,Ex.deep e<=n)->aR E sc kids fs=aR E' sc' (kids.map (ren φ)) fs
 | [],_,_=>by rw[List.map_nil,aR,aR]
 | e::es,[],_=>rfl
 | e::es,f::fs,h=>by
  rw[List.map_cons,aR,aR,dR hE hs (h e List.mem_cons_self),mR es fs λx hx=>h x (List.mem_cons_of_mem _ hx)]
theorem jW (t:Ty):∀(kids:List Ex),(∀e∈kids,Ex.deep e<=n)->(kids.all λe=>isE E sc e t)=((kids.map (ren φ)).all λe=>isE E' sc' e t)
 | [],_=>rfl
 | e::es,h=>by
  rw[List.map_cons,List.all_cons,List.all_cons,dR hE hs (h e List.mem_cons_self),jW t es λx hx=>h x (List.mem_cons_of_mem _ hx)]
theorem pZ (right:Ty->Bool) (kids:List Ex) (h:∀e∈kids,Ex.deep e<=n):gd E sc right kids=gd E' sc' right (kids.map (ren φ)):=by
 match kids,h with
 | [],_=>rfl
 | [_],_=>rfl
 | [a,b],h =>
  show (match E sc a none with|none=>false|some t=>right t&&isE E sc b t)=match E' sc' (ren φ a) none with|none=>false|some t=>right t&&isE E' sc' (ren φ b) t
  rw[hE _ _ _ _ hs (h a Θ)]
  cases E' sc' (ren φ a) none with
  | none=>rfl
  | some t=>show (right t&&isE E sc b t)=_;rw[dR hE hs (h b Θ)]
 | _::_::_::_,_=>rfl
theorem wY (kids:List Ex) (want:Option Ty) (h:∀e∈kids,Ex.deep e<=n):fw E sc kids want=fw E' sc' (kids.map (ren φ)) want:=by
 unfold fw;split
 ·rw[jW hE hs _ kids h]
 ·rfl
 match kids,h with
 | [],_=>rfl
 | k0::ks,h =>
  simp only[List.map_cons];rw[hE _ _ _ _ hs (h k0 Θ)]
  cases E' sc' (ren φ k0) none with
  | none=>rfl
  | some t=>simp only;rw[jW hE hs _ ks λx hx=>h x (List.mem_cons_of_mem _ hx)]
theorem fIf_ren (kids:List Ex) (want:Option Ty) (h:∀e∈kids,Ex.deep e<=n):fIf E sc want kids=fIf E' sc' want (kids.map (ren φ)):=by
 match kids,h with
 | [],_=>rfl
 | [_],_=>rfl
 | [_,_],_=>rfl
 | [a,b,c],h =>
  simp only[List.map_cons,List.map_nil,fIf];rw[dR hE hs (h a Θ),hE _ _ _ _ hs (h b Θ)]
  cases E' sc' (ren φ b) want with
  | none=>rfl
  | some t=>simp only;rw[dR hE hs (h c Θ)]
 | _::_::_::_::_,_=>rfl
theorem fLet_ren (x:Int) (kids:List Ex) (want:Option Ty) (h:∀e∈kids,Ex.deep e<=n):fLet E sc x want kids=fLet E' sc' x want (kids.map (ren φ)):=by
 match kids,h with
 | [],_=>rfl
 | [_],_=>rfl
 | [a,b],h =>
  simp only[List.map_cons,List.map_nil,fLet];rw[hE _ _ _ _ hs (h a Θ)]
  cases E' sc' (ren φ a) none with
  | none=>rfl
  | some t =>
   simp only;rcases hs.bind x t with ⟨h1,h2⟩|⟨s1,s2,h1,h2,hr⟩
   ·rw[h1,h2]
   rw[h1,h2];exact hE _ _ _ _ hr (h b Θ)
 | _::_::_::_,_=>rfl
theorem fCat_ren (kids:List Ex) (want:Option Ty) (h:∀e∈kids,Ex.deep e<=n):fCat E sc want kids=fCat E' sc' want (kids.map (ren φ)):=by
 match kids,h with
 | [],_=>rfl
 | [_],_=>rfl
 | [a,b],h =>
  simp only[List.map_cons,List.map_nil,fCat];rw[hE _ _ _ _ hs (h a Θ)]
  cases E' sc' (ren φ a) want with
  | none=>rfl
  | some t=>simp only;rw[dR hE hs (h b Θ)]
 | _::_::_::_,_=>rfl
theorem ud (kids:List Ex) (h:∀e∈kids,Ex.deep e<=n):dY E sc kids=dY E' sc' (kids.map (ren φ)):=by
 match kids,h with
 | [],_=>rfl
 | k0::ks,h =>
  simp only[List.map_cons,dY];rw[hE _ _ _ _ hs (h k0 Θ)]
  cases E' sc' (ren φ k0) none with
  | none=>rfl
  | some t=>simp only[List.length_map];rw[mR hE hs ks _ λx hx=>h x (List.mem_cons_of_mem _ hx)]
theorem pG (x:Int) (want:Option Ty) {k0:Ex} (h:Ex.deep k0<=n):aY E sc x want k0=aY E' sc' x want (ren φ k0):=by
 unfold aY;rw[hE _ _ _ _ hs h,hE _ _ _ _ hs h,hE _ _ _ _ hs h]
theorem wV (x:Int) (want:Option Ty) (kids:List Ex) (h:∀e∈kids,Ex.deep e<=n):aP E sc x want kids=aP E' sc' x want (kids.map (ren φ)):=by
 match kids,h with
 | [],_=>rfl
 | k0::ks,h =>
  simp only[List.map_cons,aP];rw[pG hE hs x want (h k0 Θ)]
  cases aY E' sc' x want (ren φ k0) with
  | none=>rfl
  | some t =>
   simp only
   cases bi x t with
   | none=>rfl
   | some q=>simp only[List.length_map];rw[mR hE hs ks _ λx hx=>h x (List.mem_cons_of_mem _ hx)]
variable (hp:Sig p p' φ)
include hp
theorem fRec_ren (s:ByteArray) (kids:List Ex) (h:∀e∈kids,Ex.deep e<=n):fRec p E sc s kids=fRec p' E' sc' s (kids.map (ren φ)):=by
 unfold fRec;rw[hp.rcd]
 cases recP p' (cN s) with
 | none=>rfl
 | some fs=>simp only;rw[en hE hs kids fs h]
theorem fGet_ren (x:Int) (kids:List Ex) (h:∀e∈kids,Ex.deep e<=n):fGet p E sc x kids=fGet p' E' sc' x (kids.map (ren φ)):=by
 match kids,h with
 | [],_=>rfl
 | [a],h =>
  simp only[List.map_cons,List.map_nil,fGet];rw[hE _ _ _ _ hs (h a Θ)]
  cases E' sc' (ren φ a) none with
  | none=>rfl
  | some t=>simp only;rw[hp.rcd]
 | _::_::_,_=>rfl
theorem wT (x:Int) (want:Option Ty) (kids:List Ex) (h:∀e∈kids,Ex.deep e<=n):gL p E sc x want kids=gL p' E' sc' x want (kids.map (ren φ)):=by
 match kids,h with
 | [],_=>rfl
 | [_],_=>rfl
 | [a,b],h =>
  simp only[List.map_cons,List.map_nil,gL];rw[hE _ _ _ _ hs (h a Θ)]
  cases E' sc' (ren φ a) want with
  | none=>rfl
  | some t =>
   simp only;rw[hp.rcd]
   cases recP p' t with
   | none=>rfl
   | some fs =>
    simp only
    cases fs[x.toNat]? with
    | none=>rfl
    | some f=>simp only;rw[dR hE hs (h b Θ)]
 | _::_::_::_,_=>rfl
theorem xa (x:Int) (s:ByteArray) (kids:List Ex) (h:∀e∈kids,Ex.deep e<=n):jx p E sc x s kids=jx p' E' sc' x s (kids.map (ren φ)):=by
 unfold jx;rw[hp.var]
 cases varP p' (cN s) with
 | none=>rfl
 | some cs =>
  simp only
  cases cs[x.toNat]? with
  | none=>rfl
  | some c=>simp only;rw[en hE hs kids _ h]
theorem xc (x:Int) (kids:List Ex) (h:∀e∈kids,Ex.deep e<=n):jI p E sc x kids=jI p' E' sc' (φ x) (kids.map (ren φ)):=by
 have a:∀(q:Pg) (E:EF) (sc:Sc) (x:Int) (l:List Ex),jI q E sc x l=match fsig q x with|none=>none|some r=>if bl E sc l r.1 then some r.2 else none:=by
  intro q E sc x l;unfold jI fsig;split
  ·cases q.funs[x.toNat]?<;>rfl
  rfl
 rw[a,a,hp.fn]
 cases fsig p' (φ x) with
 | none=>rfl
 | some r=>simp only;rw[en hE hs kids _ h]
theorem fFun_ren (x:Int) (kids:List Ex) (h:∀e∈kids,Ex.deep e<=n):fFun p E sc x kids=fFun p' E' sc' (φ x) (kids.map (ren φ)):=by
 have a:∀(q:Pg) (E:EF) (sc:Sc) (x:Int) (l:List Ex),fFun q E sc x l=match fsig q x with|none=>none|some r=>if l.length<=r.1.length then (if bl E sc l (r.1.take l) then some (.mk 8 nm0 ((r.1.drop l).map (·.type)++[r.2])) else none) else none:=by
  intro q E sc x l;unfold fFun fsig;split
  ·cases q.funs[x.toNat]?<;>rfl
  rfl
 rw[a,a,hp.fn]
 cases fsig p' (φ x) with
 | none=>rfl
 | some r=>simp only[List.length_map];rw[en hE hs kids _ h]
end
def rI (ctors:List Ctr) (n:Int):List Fld:=if n=-1 then [] else (match ctors[n.toNat]? with|none=>[]|some c=>c.fields)
def nF (sc:Sc) (ctors:List Ctr) (seen:List Int) (n m:Int):Bool:=(decide (n≠-1)&&!az n ctors)||decide (m<0)||decide (sc.slots<m)||decide (-1∈seen)||decide (n∈seen)
def fZ (sc:Sc) (ctors:List Ctr) (body:σ->Nat->Sc->Option σ) (i:Nat) (seen:List Int) (st:σ) (n m:Int) (rest:List (Int×Int)):
 bz sc ctors body i seen st ((n,m)::rest)=if nF sc ctors seen n m then none else (bindAll sc m (rI ctors n)).bind λsc'=>(body st i sc').bind λst'=>bz sc ctors body (i+1) (n::seen) st' rest:=by
 rw[bz];unfold nF rI;split
 ·rfl
 cases bindAll sc m _ with
 | none=>rfl
 | some s1=>show (match body st i s1 with|none=>none|some st'=>_)=(body st i s1).bind _;cases body st i s1<;>rfl
theorem oV {p p':Pg} {σ:Type} {ctors:List Ctr} {body body':σ->Nat->Sc->Option σ} (hb:∀st i sc sc',ScEq p p' sc sc'->body st i sc=body' st i sc') {sc sc':Sc} (hs:ScEq p p' sc sc') :
 ∀(rest:List (Int×Int)) (i:Nat) (seen:List Int) (st:σ),bz sc ctors body i seen st rest=bz sc' ctors body' i seen st rest
 | [],i,seen,st=>rfl
 | (n,m)::rest,i,seen,st=>by
  have hbad:nF sc ctors seen n m=nF sc' ctors seen n m:=by unfold nF;rw[hs.slots]
  rw[fZ,fZ,hbad]
  split
  ·rfl
  rcases hs.bindAll (rI ctors n) m with ⟨h1,h2⟩|⟨a,b,h1,h2,hr⟩
  ·rw[h1,h2];rfl
  rw[h1,h2]
  show (body st i a).bind _=(body' st i b).bind _
  rw[hb st i a b hr]
  congr 1
  funext st'
  exact oV hb hs rest _ _ _
variable {p':Pg} {φ:Int->Int} {sc':Sc}
def xA {p:Pg} (hp:Sig p p' φ) {body body':σ->Nat->Sc->Option σ} (hb:∀st i sc sc',ScEq p p' sc sc'->body st i sc=body' st i sc') (hs:ScEq p p' sc sc') (t:Ty) (st:σ) (arms:List (Int×Int)):
 bX p sc t body st arms=bX p' sc' t body' st arms:=by
 unfold bX;rw[hp.var]
 cases varP p' t with
 | none=>rfl
 | some cs=>simp only;rw[oV hb hs]
def xB (φ:Int->Int) (a:Ex):fy (ren φ a)=fy a:=by
 unfold fy;rw[ren_op,ren_s,sQ,List.length_map]
def kid_deep {a k:Ex} (h:k∈a.kids):Ex.deep k+1<=Ex.deep a:=by
 cases a with
 | mk o x m s l=>have:=fY l k h;rw[Ex.deep];omega
def ua {p:Pg} (hp:Sig p p' φ) {n:Nat} {E E':EF} (hE:ERel p p' φ n E E') (hs:ScEq p p' sc sc') (want:Option Ty) (kids:List Ex) (h:∀e∈kids,Ex.deep e<=n):
 dX p E sc want kids=dX p' E' sc' want (kids.map (ren φ)):=by
 match kids,h with
 | [],_=>rfl
 | k0::arms,h =>
  simp only[List.map_cons,dX];rw[hE _ _ _ _ hs (h k0 Θ)]
  cases E' sc' (ren φ k0) none with
  | none=>rfl
  | some t =>
   simp only
   have l:((arms.map (ren φ)).all fy)=arms.all fy:=by
    rw[List.all_map];congr 1;funext a;exact xB φ a
   rw[l];by_cases b:arms.all fy=true
   ·rw[if_pos b,if_pos b]
    have j:((arms.map (ren φ)).map λa=>(a.n,a.m))=arms.map λa=>(a.n,a.m):=by
     rw[List.map_map];refine List.map_congr_left λa ha=>?_;have d:a.op=14:=by have:=List.all_eq_true.1 b a ha;simp[fy] at this;exact this.1
     show ((ren φ a).n,(ren φ a).m)=_;rw[ren_n φ a d,ren_m]
    rw[j];refine xA hp (λst i s1 s2 hr=>?_) hs t _ _;unfold cE;rw[List.getElem?_map]
    cases ha:arms[i]? with
    | none=>rfl
    | some a =>
     have g:a∈arms:=List.mem_of_getElem? ha;simp only[Option.map_some,sQ];match hk:a.kids with
     | []=>rfl
     | [k] =>
      have f:Ex.deep k<=n:=by have:=kid_deep (a:=a) (k:=k) (by rw[hk];simp);have:=h a (List.mem_cons_of_mem _ g);omega
      simp only[List.map_cons,List.map_nil];rw[hE _ _ _ _ hr f,dR hE hr f]
     | _::_::_=>rfl
   rw[if_neg b,if_neg b]
def form_ren {p:Pg} (hp:Sig p p' φ) {n:Nat} {E E':EF} (hE:ERel p p' φ n E E') (hs:ScEq p p' sc sc') (op x:Int) (s:ByteArray) (kids:List Ex) (want:Option Ty) (h:∀e∈kids,Ex.deep e<=n):
 bP p E sc op x s kids want=bP p' E' sc' op (if op=33\/op=34 then φ x else x) s (kids.map (ren φ)) want:=by
 by_cases b:op=33
 ·subst b;exact xc hE hs hp x kids h
 by_cases a:op=34
 ·subst a;exact fFun_ren hE hs hp x kids h
 have g:(if op=33\/op=34 then φ x else x)=x:=if_neg ω;rw[g];unfold bP ic
 rw[if_neg b,if_neg b,if_neg a,if_neg a,hs.bound,hs.self,wY hE hs kids want h,fRec_ren hE hs hp s kids h,fGet_ren hE hs hp x kids h,wT hE hs hp x want kids h,xa hE hs hp x s kids h,
  ua hp hE hs want kids h,fIf_ren hE hs kids want h,fLet_ren hE hs x kids want h,fCat_ren hE hs kids want h,ud hE hs kids h,wV hE hs x want kids h,
  pZ hE hs dB kids h,pZ hE hs cX kids h,jW hE hs (bTy 2) kids h,jW hE hs (bTy 3) kids h]
 have f:sc.vars.length=sc'.vars.length:=by have:=congrArg List.length hs.vars;simpa using this
 have d:((sc.vars[x.toNat]?).map (·.type))=(sc'.vars[x.toNat]?).map (·.type):=by rw[<-List.getElem?_map,<-List.getElem?_map,hs.vars]
 rw[f,d]
theorem iX {p p':Pg} {φ:Int->Int} (hp:Sig p p' φ):∀(d n n':Nat),d<=n->d<=n'->ERel p p' φ d (aa p n) (aa p' n')
 | 0,n,n',_,_,sc,sc',.mk op x m s kids,want,_,hd=>by rw[Ex.deep] at hd;omega
 | d+1,0,n',h,_,_,_,_,_,_,_=>by omega
 | d+1,n+1,0,_,h,_,_,_,_,_,_=>by omega
 | d+1,n+1,n'+1,h,h',sc,sc',.mk op x m s kids,want,hs,hd=>by
  rw[Ex.deep] at hd
  have hk:∀e∈kids,Ex.deep e<=d:=λe he=>by have:=fY kids e he;omega
  have hf:=form_ren hp (iX hp d n n' ω ω) hs op x s kids want hk
  rw[ren,lU,aa,aa]
  cases hr:bK op with
  | none=>rfl
  | some q =>
   obtain⟨k,nb,sb⟩:=q
   simp only[List.length_map]
   have hsh:bj k (if op=33\/op=34 then φ x else x) m s kids nb sb=bj k x m s kids nb sb:=by
    by_cases a:op=33\/op=34
    ·have b:nb=true:=by
      rcases a with rfl|rfl
      ·have:(-1,true,false)=(k,nb,sb):=Option.some.inj hr;simp only[Prod.mk.injEq] at this;exact this.2.1.symm
      have:(-1,true,false)=(k,nb,sb):=Option.some.inj hr;simp only[Prod.mk.injEq] at this;exact this.2.1.symm
     subst b;unfold bj;simp
    rw[if_neg a]
   rw[hsh,hf]
mutual
def renS (φ:Int->Int):St->St
 | .mk op n m s t xs thn els arms=>.mk op n m s t (rens φ xs) (lX φ thn) (lX φ els) (lX φ arms)
def lX (φ:Int->Int):List St->List St
 | []=>[]
 | x::xs=>renS φ x::lX φ xs
end
def eR (φ:Int->Int) (l:List St):lX φ l=l.map (renS φ):=by
 induction l with
 | nil=>rfl
 | cons x l ih=>rw[lX,ih];rfl
mutual
theorem renS_id:∀e:St,renS (λx=>x) e=e
 | .mk op n m s t xs thn els arms=>by rw[renS,qZ,jR,jR,jR]
theorem jR:∀l:List St,lX (λx=>x) l=l
 | []=>rfl
 | x::xs=>by rw[lX,renS_id,jR]
end
mutual
theorem wu (φ:Int->Int):∀e:St,(renS φ e).deep=e.deep
 | .mk op n m s t xs thn els arms=>by rw[renS,St.deep,St.deep,mM,jr,jr,jr]
theorem jr (φ:Int->Int):∀l:List St,St.deeps (lX φ l)=St.deeps l
 | []=>rfl
 | x::xs=>by rw[lX,St.deeps,St.deeps,wu,jr]
end
def oi (φ:Int->Int) (e:St):aJ (renS φ e)=aJ e:=by
 cases e with
 | mk op n m s t xs thn els arms=>rw[renS,lU,eR,eR,eR,aJ,aJ];simp only[List.length_map]
def renS_op (φ:Int->Int) (e:St):(renS φ e).op=e.op:=by cases e;rfl
def renS_n (φ:Int->Int) (e:St):(renS φ e).n=e.n:=by cases e;rfl
def renS_m (φ:Int->Int) (e:St):(renS φ e).m=e.m:=by cases e;rfl
def renS_thn (φ:Int->Int) (e:St):(renS φ e).thn=e.thn.map (renS φ):=by cases e;exact eR _ _
structure GOk (p:Pg) (G:Ty->Prop):Prop where
 arg:∀t u,G t->t.kind=5->u∈t.args->G u
 ref:∀s:ByteArray,s.data.toList∈p.acNames->G (refT s)
 fld:∀t cs c f,G t->varP p t=some cs->c∈cs->f∈c.fields->G f.type
structure ScG (G:Ty->Prop) (sc:Sc):Prop where
 bound:∀i t,sc.bound i=some t->G t
 vars:∀v∈sc.vars,G v.type
 act:0<=sc.actor
def EG (G:Ty->Prop) (E:EF):Prop:=∀sc e t,ScG G sc->E sc e none=some t->G t
def actP (p:Pg) (s:ByteArray):Option (List Fld):=match idxP p.acNames s.data.toList with|none=>none|some i=>(p.actors[i]?).map (·.params)
def effP (p:Pg) (s:ByteArray):Option (List Fld×Ty):=match idxP p.efNames s.data.toList with|none=>none|some i=>(p.effects[i]?).map λe=>(e.params,e.answer)
structure SigS (p p':Pg) (φ:Int->Int) (G:Ty->Prop):Prop where
 e:Sig p p' φ
 act:∀s,actP p s=actP p' s
 eff:∀s,effP p s=effP p' s
 hd:∀t msg,G t->t.kind=7->hdP p ((idxP p.acNames t.name.data.toList).getD 0) msg=hdP p' ((idxP p'.acNames t.name.data.toList).getD 0) msg
variable {G:Ty->Prop}
def ScG.set (h:ScG G sc) {i:Int} {t:Ty} (ht:G t):ScG G (sc.set i t):=
 ⟨λj u hu=>by
  by_cases e:j=i
  ·have hu':(if j=i then some t else sc.bound j)=some u:=hu
   rw[if_pos e] at hu';injection hu' with hu';exact hu'▸ht
  have hu':(if j=i then some t else sc.bound j)=some u:=hu
  rw[if_neg e] at hu';exact h.bound j u hu',h.vars,h.act⟩
def ScG.bind (h:ScG G sc) {i:Int} {t:Ty} (ht:G t) (hb:sc.bind i t=some sc'):ScG G sc':=by
 unfold Sc.bind at hb;split at hb
 ·injection hb with hb;subst hb;exact h.set ht
 cases hb
theorem ScG.bindAll:∀(fs:List Fld) (m:Int) {sc sc':Sc},ScG G sc->(∀f∈fs,G f.type)->bindAll sc m fs=some sc'->ScG G sc'
 | [],m,sc,sc',h,_,hb=>by rw[Go.Proofs.YtjohpidklbhmcaaGreatDoor.bindAll] at hb;injection hb with hb;exact hb▸h
 | f::fs,m,sc,sc',h,hf,hb=>by
  rw[Go.Proofs.YtjohpidklbhmcaaGreatDoor.bindAll] at hb
  cases hx:sc.bind m f.type with
  | none=>rw[hx] at hb;cases hb
  | some s1=>rw[hx] at hb;exact ScG.bindAll fs (m+1) (h.bind (hf f List.mem_cons_self) hx) (λg hg=>hf g (List.mem_cons_of_mem _ hg)) hb
section
variable {p p':Pg} {φ:Int->Int} {G:Ty->Prop} {sc sc':Sc}
def ScB (p p':Pg) (G:Ty->Prop) (a b:Int×Sc):Prop:=a.1=b.1/\ScEq p p' a.2 b.2/\ScG G a.2
def BRel (p p':Pg) (φ:Int->Int) (G:Ty->Prop) (n:Nat) (B B':Sc->List St->Bool):Prop:=∀sc sc' l,ScEq p p' sc sc'->ScG G sc->St.deeps l<=n->B sc l=B' sc' (l.map (renS φ))
variable {d n:Nat} {E E':EF} {B B':Sc->List St->Bool}
def gq (hs:ScEq p p' sc sc') (hg:ScG G sc) {b b':Bool} (h:b=b'):kM (ScB p p' G) (okSc b sc) (okSc b' sc'):=by
 subst h
 cases b with
 | false=>exact .inl ⟨rfl,rfl⟩
 | true=>exact .inr ⟨_,_,rfl,rfl,rfl,hs,hg⟩
def ko (hs:ScEq p p' sc sc') {f f':Ex->Bool} (h:∀x∈xs,f x=f' (ren φ x)):kU xs f=kU (xs.map (ren φ)) f':=by
 cases xs with
 | nil=>rfl
 | cons x xs=>exact h x List.mem_cons_self
def lp (hs:ScEq p p' sc sc') (hg:ScG G sc) {t:Ty} (ht:G t) (n:Int):kM (ScB p p' G) ((sc.bind n t).map λs1=>(n,s1)) ((sc'.bind n t).map λs1=>(n,s1)):=by
 rcases hs.bind n t with ⟨h1,h2⟩|⟨a,b,h1,h2,hr⟩
 ·rw[h1,h2];exact .inl ⟨rfl,rfl⟩
 have:=hg.bind ht h1;rw[h1,h2];exact .inr ⟨_,_,rfl,rfl,rfl,hr,this⟩
variable (hE:ERel p p' φ d E E') (hs:ScEq p p' sc sc') (hg:ScG G sc) (hEG:EG G E) (hp:SigS p p' φ G) (hG:GOk p G) (hB:BRel p p' φ G n B B')
include hE hs
theorem letP_ren (hg:ScG G sc) (hEG:EG G E) (x:Int) (xs:List Ex) (h:∀e∈xs,Ex.deep e<=d):kM (ScB p p' G) (letP E sc x xs) (letP E' sc' x (xs.map (ren φ))):=by
 match xs,h with
 | [],_=>exact .inl ⟨rfl,rfl⟩
 | e::es,h =>
  simp only[List.map_cons,letP];have a:=hE _ _ _ none hs (h e List.mem_cons_self);rw[<-a]
  cases hx:E sc e none with
  | none=>exact .inl ⟨rfl,rfl⟩
  | some t=>exact lp hs hg (hEG _ _ _ hg hx) x
theorem vV (x:Int) (xs:List Ex) (h:∀e∈xs,Ex.deep e<=d):nA E sc x xs=nA E' sc' x (xs.map (ren φ)):=by
 have b:sc.vars.length=sc'.vars.length:=by have:=congrArg List.length hs.vars;simpa using this
 have a:((sc.vars[x.toNat]?).map (·.type))=(sc'.vars[x.toNat]?).map (·.type):=by rw[<-List.getElem?_map,<-List.getElem?_map,hs.vars]
 unfold nA;rw[b];congr 1
 cases h1:sc.vars[x.toNat]? with
 | none=>rw[h1] at a;cases h2:sc'.vars[x.toNat]? with
  | none=>rfl
  | some v=>rw[h2] at a;cases a
 | some v=>rw[h1] at a;cases h2:sc'.vars[x.toNat]? with
  | none=>rw[h2] at a;cases a
  | some u =>
   rw[h2] at a;have:v.type=u.type:=by simpa using a
   simp only;rw[this];exact ko hs λe he=>dR hE hs (h e he) _
include hg hEG hp in
theorem pV (msg:ByteArray) (xs:List Ex) (h:∀e∈xs,Ex.deep e<=d):jG p E sc msg xs=jG p' E' sc' msg (xs.map (ren φ)):=by
 match xs,h with
 | [],_=>rfl
 | e::es,h =>
  simp only[List.map_cons,jG];rw[<-hE _ _ _ none hs (h e List.mem_cons_self)]
  cases hx:E sc e none with
  | none=>rfl
  | some t =>
   simp only;by_cases a:t.kind=7
   ·rw[if_pos a,if_pos a,hp.hd t msg (hEG _ _ _ hg hx) a]
    cases hdP p' _ msg with
    | none=>rfl
    | some fs=>exact en hE hs es fs λx hx=>h x (List.mem_cons_of_mem _ hx)
   rw[if_neg a,if_neg a]
include hg hp in
theorem doP_ren (s t:ByteArray) (xs:List Ex) (h:∀e∈xs,Ex.deep e<=d):doP p E sc s t xs=doP p' E' sc' s t (xs.map (ren φ)):=by
 have a:∀(q:Pg) (E:EF) (sc:Sc) (l:List Ex),doP q E sc s t l=match effP q s with|none=>false|some r=>bl E sc l r.1&&mo (hdP q sc.actor.toNat t) r.2:=by
  intro q E sc l;unfold doP effP
  cases idxP q.efNames s.data.toList with
  | none=>rfl
  | some i=>simp only;cases q.effects[i]?<;>rfl
 rw[a,a,hp.eff,hs.hd hg.act]
 cases effP p' s with
 | none=>rfl
 | some r=>simp only;rw[en hE hs xs _ h]
include hg hp hG in
theorem tC (n m:Int) (s:ByteArray) (xs:List Ex) (h:∀e∈xs,Ex.deep e<=d):kM (ScB p p' G) (cJ p E sc n m s xs) (cJ p' E' sc' n m s (xs.map (ren φ))):=by
 have b:∀(q:Pg) (E:EF) (sc:Sc) (l:List Ex),bL q E sc m s l=match actP q s with|none=>false|some r=>if m=0 then bl E sc l r else if m=1 then (match l with|[]=>false|x::xs=>isE E sc x (bTy 3)&&bl E sc xs r) else false:=by
  intro q E sc l;unfold bL actP
  cases idxP q.acNames s.data.toList with
  | none=>rfl
  | some i=>simp only;cases q.actors[i]?<;>rfl
 have g:bL p E sc m s xs=bL p' E' sc' m s (xs.map (ren φ)):=by
  rw[b,b,hp.act]
  cases actP p' s with
  | none=>rfl
  | some r =>
   simp only;rw[en hE hs xs _ h];match xs,h with
   | [],_=>rfl
   | x::xs,h=>simp only[List.map_cons];rw[dR hE hs (h x List.mem_cons_self),en hE hs xs _ λy hy=>h y (List.mem_cons_of_mem _ hy)]
 have f:bL p E sc m s xs=true->G (refT s):=λhb=>by
  rw[b] at hb;unfold actP at hb
  cases hi:idxP p.acNames s.data.toList with
  | none=>rw[hi] at hb;cases hb
  | some i=>exact hG.ref s (List.mem_of_getElem? (cg _ _ _ _ hi).2)
 unfold cJ;rw[<-g]
 cases hb:bL p E sc m s xs with
 | false=>exact .inl ⟨rfl,rfl⟩
 | true =>
  simp only[if_true];by_cases a:n=-1
  ·rw[if_pos a,if_pos a];exact .inr ⟨_,_,rfl,rfl,rfl,hs,hg⟩
  rw[if_neg a,if_neg a];exact lp hs hg (f hb) n
include hg hEG hG hB in
theorem wF (x:Int) (xs:List Ex) (thn:List St) (h:∀e∈xs,Ex.deep e<=d) (ht:St.deeps thn<=n):jH E B sc x xs thn=jH E' B' sc' x (xs.map (ren φ)) (thn.map (renS φ)):=by
 match xs,h with
 | [],_=>rfl
 | e::es,h =>
  simp only[List.map_cons,jH];rw[<-hE _ _ _ none hs (h e List.mem_cons_self)]
  cases hx:E sc e none with
  | none=>rfl
  | some t =>
   simp only;by_cases f:t.kind=5
   ·rw[if_pos f,if_pos f]
    cases ha:t.args with
    | nil=>rfl
    | cons u us =>
     have g:G u:=hG.arg t u (hEG _ _ _ hg hx) f (by rw[ha];simp);simp only[oG];rcases hs.bind x u with ⟨h1,h2⟩|⟨a,b,h1,h2,hr⟩
     ·rw[h1,h2]
     rw[h1,h2];exact hB _ _ _ hr (hg.bind g h1) ht
   rw[if_neg f,if_neg f]
end
def rP (a:St):St.deeps a.thn+1<=a.deep:=by cases a;simp only[St.thn,St.deep];omega
theorem nu {p p':Pg} {G:Ty->Prop} {ctors:List Ctr} {body body':Unit->Nat->Sc->Option Unit} (hc:∀c∈ctors,∀f∈c.fields,G f.type) (hb:∀st i sc sc',ScEq p p' sc sc'->ScG G sc->body st i sc=body' st i sc') {sc sc':Sc} (hs:ScEq p p' sc sc') (hg:ScG G sc) :
 ∀(rest:List (Int×Int)) (i:Nat) (seen:List Int) (st:Unit),bz sc ctors body i seen st rest=bz sc' ctors body' i seen st rest
 | [],i,seen,st=>rfl
 | (n,m)::rest,i,seen,st=>by
  have hbad:nF sc ctors seen n m=nF sc' ctors seen n m:=by unfold nF;rw[hs.slots]
  rw[fZ,fZ,hbad]
  split
  ·rfl
  rcases hs.bindAll (rI ctors n) m with ⟨h1,h2⟩|⟨a,b,h1,h2,hr⟩
  ·rw[h1,h2];rfl
  have hg1:ScG G a:=hg.bindAll _ _ (λf hf=>by
   unfold rI at hf
   split at hf
   ·cases hf
   split at hf
   ·cases hf
   rename_i c hcc;exact hc c (List.mem_of_getElem? hcc) f hf) h1
  rw[h1,h2]
  show (body st i a).bind _=(body' st i b).bind _
  rw[hb st i a b hr hg1]
  congr 1
  funext st'
  exact nu hc hb hs hg rest _ _ _
section
variable {p p':Pg} {φ:Int->Int} {G:Ty->Prop} {sc sc':Sc} {d n:Nat} {E E':EF} {B B':Sc->List St->Bool}
variable (hE:ERel p p' φ d E E') (hs:ScEq p p' sc sc') (hg:ScG G sc) (hEG:EG G E) (hp:SigS p p' φ G) (hG:GOk p G) (hB:BRel p p' φ G n B B')
include hE hs hg hEG hp hG hB
theorem uk (xs:List Ex) (arms:List St) (h:∀e∈xs,Ex.deep e<=d) (ha:St.deeps arms<=n):fO p E B sc xs arms=fO p' E' B' sc' (xs.map (ren φ)) (arms.map (renS φ)):=by
 match xs,h with
 | [],_=>rfl
 | e::es,h =>
  simp only[List.map_cons,fO];rw[<-hE _ _ _ none hs (h e List.mem_cons_self)]
  cases hx:E sc e none with
  | none=>rfl
  | some t =>
   simp only
   have k:((arms.map (renS φ)).all fP)=arms.all fP:=by
    rw[List.all_map];congr 1;funext a;show (decide ((renS φ a).op=5)&&aJ (renS φ a))=_;rw[renS_op,oi];rfl
   have j:((arms.map (renS φ)).map λa=>(a.n,a.m))=arms.map λa=>(a.n,a.m):=by
    rw[List.map_map];refine List.map_congr_left λa _=>?_;show ((renS φ a).n,(renS φ a).m)=_;rw[renS_n,renS_m]
   have g:bX p sc t (dr B arms) () (arms.map λa=>(a.n,a.m))=bX p' sc' t (dr B' (arms.map (renS φ))) () (arms.map λa=>(a.n,a.m)):=by
    unfold bX;rw[<-hp.e.var]
    cases hv:varP p t with
    | none=>rfl
    | some cs =>
     simp only;rw[nu (G:=G) (λc hc f hf=>hG.fld t cs c f (hEG _ _ _ hg hx) hv hc hf) (λst i s1 s2 hr hg1=>?_) hs hg];unfold dr;rw[List.getElem?_map]
     cases hq:arms[i]? with
     | none=>rfl
     | some a =>
      have b:a∈arms:=List.mem_of_getElem? hq;simp only[Option.map_some,renS_thn];rw[hB _ _ _ hr hg1 (by have:=il arms a b;have:=rP a;omega)]
   rw[k,j,g]
theorem vP (st:St) (hx:St.deep st<=d+1) (hn:St.deep st<=n+1):kM (ScB p p' G) (cG p E B sc st) (cG p' E' B' sc' (renS φ st)):=by
 cases st with
 | mk op x m s t xs thn els arms =>
  rw[St.deep] at hx hn;have b:∀e∈xs,Ex.deep e<=d:=λe he=>by have:=fY xs e he;omega
  rw[renS,lU,eR,eR,eR];unfold cG;simp only[List.drop_one,<-List.map_tail];have f:∀e∈xs.tail,Ex.deep e<=d:=λe he=>b e (List.mem_of_mem_tail he);by_cases a:op=1
  ·rw[if_pos a,if_pos a];exact letP_ren hE hs hg hEG x xs b
  rw[if_neg a,if_neg a];by_cases a:op=2
  ·rw[if_pos a,if_pos a];exact gq hs hg (vV hE hs x xs b)
  rw[if_neg a,if_neg a];by_cases a:op=3
  ·rw[if_pos a,if_pos a];exact gq hs hg (by rw[ko hs (f':=λx=>isE E' sc' x (bTy 2)) (λe he=>dR hE hs (b e he) (bTy 2)),hB _ _ _ hs hg ω,hB _ _ els hs hg ω])
  rw[if_neg a,if_neg a];by_cases a:op=4
  ·rw[if_pos a,if_pos a];exact gq hs hg (uk hE hs hg hEG hp hG hB xs arms b ω)
  rw[if_neg a,if_neg a];by_cases a:op=6
  ·rw[if_pos a,if_pos a];exact gq hs hg (wF hE hs hg hEG hG hB x xs thn b ω)
  rw[if_neg a,if_neg a];by_cases a:op=7
  ·rw[if_pos a,if_pos a];exact gq hs hg (pV hE hs hg hEG hp s xs b)
  rw[if_neg a,if_neg a];by_cases a:op=8
  ·rw[if_pos a,if_pos a];exact gq hs hg (by rw[ko hs (f':=λx=>isE E' sc' x (bTy 3)) (λe he=>dR hE hs (b e he) (bTy 3)),pV hE hs hg hEG hp s xs.tail f])
  rw[if_neg a,if_neg a];by_cases a:op=9
  ·rw[if_pos a,if_pos a];exact tC hE hs hg hp hG x m s xs b
  rw[if_neg a,if_neg a];by_cases a:op=10
  ·rw[if_pos a,if_pos a];exact gq hs hg (doP_ren hE hs hg hp s t xs b)
  rw[if_neg a,if_neg a];by_cases a:op=11
  ·rw[if_pos a,if_pos a];exact .inr ⟨_,_,rfl,rfl,rfl,hs,hg⟩
  rw[if_neg a,if_neg a];by_cases a:op=12
  ·rw[if_pos a,if_pos a];exact gq hs hg (ko hs (λe he=>dR hE hs (b e he) (bTy 4)))
  rw[if_neg a,if_neg a];exact .inl ⟨rfl,rfl⟩
end
theorem nc {p p':Pg} {φ:Int->Int} {G:Ty->Prop} {S S':Sc->St->Option (Int×Sc)}:∀(l:List St),(∀st∈l,∀sc sc',ScEq p p' sc sc'->ScG G sc->kM (ScB p p' G) (S sc st) (S' sc' (renS φ st)))->∀{sc sc':Sc},ScEq p p' sc sc'->ScG G sc->dt S sc l=dt S' sc' (l.map (renS φ))
 | [],_,_,_,_,_=>rfl
 | st::rest,h,sc,sc',hs,hg=>by
  rw[List.map_cons,dt,dt,oi]
  congr 1
  rcases h st List.mem_cons_self sc sc' hs hg with ⟨h1,h2⟩|⟨⟨i,a⟩,⟨j,b⟩,h1,h2,_,hr,hg1⟩
  ·rw[h1,h2]
  rw[h1,h2];exact nc rest (λx hx=>h x (List.mem_cons_of_mem _ hx)) hr hg1
theorem oe {p p':Pg} {φ:Int->Int} {G:Ty->Prop} (hp:SigS p p' φ G) (hG:GOk p G) {N N':Nat} (hEG:EG G (aa p N)):∀(d n n':Nat),d<=n->d<=n'->d<=N->d<=N'->BRel p p' φ G d (aF p N n) (aF p' N' n')
 | 0,n,n',_,_,_,_,sc,sc',l,hs,hg,hd=>by
  cases l with
  | nil=>cases n<;>cases n'<;>rfl
  | cons x l =>
   have:1<=St.deep x:=by cases x;rw[St.deep];omega
   rw[St.deeps] at hd;omega
 | d+1,0,_,h,_,_,_,_,_,_,_,_,_=>by omega
 | d+1,n+1,0,_,h,_,_,_,_,_,_,_,_=>by omega
 | d+1,n+1,n'+1,h,h',hN,hN',sc,sc',l,hs,hg,hd=>by
  rw[aF,aF]
  refine nc l (λst hst s1 s2 hr hg1=>?_) hs hg
  have:=il l st hst
  exact vP (d:=d) (n:=d) (iX hp.e d N N' ω ω) hr hg1 hEG hp hG (oe hp hG hEG d n n' ω ω ω ω) st ω ω
end
end Go.Proofs.YtjohpidklbhmcaaGreatDoor
