/- Core -/
import Derived.Test.YtjohpidklbhmcaaGreatDoorZ6
import Derived.Lib.AppendStr
import Derived.Lib.Builder
import Derived.Lib.Walk
import Derived.Lib.Strings
import Derived.Lib.AppendIntMem
namespace Go.Proofs.YtjohpidklbhmcaaGreatDoor
set_option linter.all false
open Go.Proofs.Tryz
open Go.RowKit Go.Maps Go.WideMaps Go.ChangeMaps
abbrev ex5 (op x m:Int) (s:ByteArray) (A:Option Addr) (n cap:Nat):Array Value:=#[op,x,m,s,.slice A n cap]
abbrev z3:Array Value:=ty3 0 ⟨#[]⟩ none 0 0
structure Pre (W:World) (own:Nat->Prop) (mb sb eb rb kc:Nat) (c:CB) (p:Pg) (sc:Sc) (op x m:Int) (s:ByteArray) (A:Option Addr) (kids:List Ex) (cap:Nat) (wv:Value) (want:Option Ty):Prop where
 env:Env W own mb sb c p sc
 or:own rb
 bx:Hs W eb 43 (ex5 op x m s A kids cap)
 be:¬own eb
 rs:Hs W rb 40 z3
 mr:mb≠rb
 kq:im own W kc
 kc:W.cell? kc=some (c.b:Vl)
 kids:ExsR W (im own W) (.slice A kids cap) kids
 want:WantR W (im own W) wv want
section
variable {W W':World} {own:Nat->Prop} {mb sb eb rb kc:Nat} {c:CB} {p:Pg} {sc sc':Sc} {op x m:Int} {s:ByteArray} {A:Option Addr} {kids:List Ex} {cap:Nat} {wv:Value} {want:Option Ty}
def Pre.stp (h:Pre W own mb sb eb rb kc c p sc op x m s A kids cap wv want) (hs:Stm mb W W') (hsc:ScS W' own mb sb sc'):Pre W' own mb sb eb rb kc c p sc' op x m s A kids cap wv want:=
 have S:=hs.subO h.env.mb.1
 ⟨h.env.stp hs hsc,h.or,h.bx.stp hs (λe=>h.be (by unfold only at e;rw[e];exact h.env.mb.1)),h.be,h.rs.stp hs (λe=>h.mr (by unfold only at e;exact e.symm)),h.mr,(S _ h.kq).1,au h.kc S h.kq,ExsR.to h.kids S,h.want.to S⟩
def Pre.bel (h:Pre W own mb sb eb rb kc c p sc op x m s A kids cap wv want) (hs:Below W W W'):Pre W' own mb sb eb rb kc c p sc op x m s A kids cap wv want:=h.stp (Stm.of_below hs) (h.env.sco.below hs)
def Pre.start {w:World} (he:Env w own mb sb c p sc) (hk:im own w kc) (hkc:w.cell? kc=some (c.b:Vl)) (hx:ExsR w (im own w) (.slice A kids cap) kids) (hw:WantR w (im own w) wv want) :
 Pre ((w.alloc (.cells (ex5 op x m s A kids cap) 43)).alloc (.cells z3 40)) (plus own (w+1)) mb sb w (w+1) kc c p sc op x m s A kids cap wv want:=by
 have B:Below w w ((w.alloc (.cells (ex5 op x m s A kids cap) 43)).alloc (.cells z3 40)):=belA ζ1 _;have S:=aV (own:=own) (g:=w+1) B ω;have a:=he.mb.2;refine⟨he.plus B ω Θ,.inr rfl,(Hs.new w 43 _).alloc _,?_,Hs.new' w _ _,ω,(S _ hk).1,au hkc S hk,ExsR.to hx S,hw.to S⟩;rintro (h|h)
 ·have:=he.ol _ h;omega
 omega
end
def aO (p:Pg) (n:Nat):Prop:=∀(sc:Sc) (e:Ex) (want:Option Ty) (t:Ty),ScOk p sc->aL want->aa p n sc e want=some t->ag t=true
def cO (w:World) (Q:Nat->Prop) (k:Int) (hk:i64 k):TyR w Q [.int .i64 k,.string ⟨#[]⟩,.slice none 0 0] (bTy k):=TyR.of hk π SlR.nil
section
variable {w':World}
def Stp.wk {own own':Nat->Prop} {w:World} (h:Stp own w w') (hx:∀b,own b->own' b):Stp own' w w':=⟨h.os,h.tape,h.output,h.size,λk hk ho=>h.block k hk (λx=>ho (hx k x))⟩
def ad (w:World):Below w w w.drew:=(Below.refl _ _).drew
def smDr (mb:Nat) (w:World):Stm mb w w.drew:=Stm.of_below (ad w)
def bq (own:Nat->Prop) (w:World):Stp own w w.drew:=Stp.of_below (ad w)
variable {W0:World} {a:Addr} {v:Value}
def stpC {mb:Nat} (h:W0.cell? a=some v) (hn:a.block≠mb):∀W,Stm mb W0 W->W.cell? a=some v:=λW hs=>(hs.s.cell (World.block_lt_of_cell? W0 a h) (λe=>hn e)).trans h
variable {rb:Nat}
def aD {mb:Nat} (h:W0.cell? a=some v) (hn:a.block≠mb) (hr:a.block≠rb):∀W,Stp (plus (only mb) rb) W0 W->W.cell? a=some v:=λW hs=>(hs.cell (World.block_lt_of_cell? W0 a h) (λe=>by rcases e with e|e;exact hn e;exact hr e)).trans h
variable {W:World}
def stpR {mb:Nat} (h:Stp (plus (only mb) rb) W0 W) (k:Int) (s:ByteArray) (A:Option Addr) (n cap:Nat):Stp (plus (only mb) rb) W0 (set3 W rb k s A n cap):=
 ⟨h.os,h.tape,h.output,by rw[bQ];exact h.size,λi hi ho=>(aq W rb i k s A n cap (λe=>ho (.inr e))).trans (h.block i hi ho)⟩
variable {sb:Nat} {sc:Sc} {k:Int} {A:Option Addr}
def bo {w:World} {own:Nat->Prop} {mb:Nat} {t:Ty} {s:ByteArray} {n cap:Nat} (hs:Stm mb w W) (hr:w<=rb) (hmr:mb≠rb) (ho:own mb) (ht:TyR W (im (plus own rb) W) [.int .i64 k,.string s,.slice A n cap] t) (hsc:ScS W (plus own rb) mb sb sc):
 ResF w own mb sb sc (some t) (.returned (.tuple #[.agg (ty3 k s A n cap),true])) (set3 W rb k s A n cap):=
 ⟨smS hs hr hmr _ _ _ _ _,_,_,_,_,_,rfl,ht.to (aG _ _ _ _ _),hsc.sub (aG _ _ _ _ _) (aq _ _ _ _ _ _ _ _ hmr) ho⟩
def aB {w:World} {own:Nat->Prop} {mb:Nat} {s:ByteArray} {n cap:Nat} (hs:Stm mb w W) (hr:w<=rb) (hmr:mb≠rb):ResF w own mb sb sc none (.returned (.tuple #[.agg (ty3 k s A n cap),false])) (set3 W rb k s A n cap):=
 ⟨smS hs hr hmr _ _ _ _ _,_,_,_,_,_,rfl⟩
def Got (Wk:World) (own:Nat->Prop) (mb sb:Nat) (sc:Sc) (r:Option Ty) (v1 v2:Value) (W:World):Prop:=
 Stm mb Wk W/\∃b k s A n cap,v1=.pointer (some ⟨b,0,none⟩)/\Wk.heap.size<=b/\Hs W b 40 (ty3 k s A n cap)/\v2=.bool r.isSome/\∀t,r=some t->TyR W (im own W) [.int .i64 k,.string s,.slice A n cap] t/\ScS W own mb sb sc
def rK (Wk:World) (own:Nat->Prop) (mb sb:Nat) (sc:Sc) (r:Option Ty) (e:Ending) (W:World):Prop:=
 ∃k s A n cap,e=.returned (.tuple #[.agg #[.int .i64 k,.string s,.slice A n cap],r.isSome])/\Stm mb Wk W/\∀t,r=some t->TyR W (im own W) [.int .i64 k,.string s,.slice A n cap] t/\ScS W own mb sb sc
def rJ (Wk:World) (own:Nat->Prop) (mb sb:Nat) (sc:Sc) (r:Option Ty) (e:Ending) (W:World):Prop:=
 ∃k s A n cap,e=.returned (.tuple #[.agg #[.int .i64 k,.string s,.slice A n cap],r.isSome])/\Stm mb Wk W/\Hs W Wk 40 z3/\∀t,r=some t->TyR W (im (plus own Wk) W) [.int .i64 k,.string s,.slice A n cap] t/\ScS W (plus own Wk) mb sb sc
variable {Wk:World} {r:Option Ty}
def fV {own:Nat->Prop} {mb:Nat} {e:Ending} {W':World} (h:Res W own mb sb sc r e W') (hb:Below Wk Wk W):rK Wk own mb sb sc r e W':=by
 obtain⟨d,h⟩:=h;have S:=(Stm.of_below (mb:=mb) hb).trans d
 cases r with
 | none=>exact⟨_,_,_,_,_,h,S,λt a=>by cases a⟩
 | some t =>
  obtain⟨k,s,A,n,cap,f,a,b⟩:=h;exact⟨k,s,A,n,cap,f,S,λu hu=>by injection hu with hu;subst hu;exact⟨a,b⟩⟩
def fg {own:Nat->Prop} {mb:Nat} {e:Ending} {W':World} (h:Res (Wk.drew.alloc (.cells z3 40)) (plus own Wk) mb sb sc r e W') (hm:mb<Wk):rJ Wk own mb sb sc r e W':=by
 have j:Below Wk Wk (Wk.drew.alloc (.cells z3 40)):=belA (ad Wk) _;have g:Hs (Wk.drew.alloc (.cells z3 40)) Wk 40 z3:=Hs.new Wk.drew 40 z3;obtain⟨d,h⟩:=h;have S:=(Stm.of_below (mb:=mb) j).trans d;have f:=g.stp d Ω
 cases r with
 | none=>exact⟨_,_,_,_,_,h,S,f,λt a=>by cases a⟩
 | some t =>
  obtain⟨k,s,A,n,cap,i,a,b⟩:=h;exact⟨k,s,A,n,cap,i,S,f,λu hu=>by injection hu with hu;subst hu;exact⟨a,b⟩⟩
def gotA {own:Nat->Prop} {mb:Nat} {s:ByteArray} {n cap:Nat} (hs:Stm mb Wk W) (ht:∀t,r=some t->TyR W (im own W) [.int .i64 k,.string s,.slice A n cap] t/\ScS W own mb sb sc):
 Got Wk own mb sb sc r (W:Vl) (r.isSome:Vl) (W.alloc (.cells (ty3 k s A n cap) 40)):=
 ⟨smA hs _,_,_,_,_,_,_,rfl,hs.size,Hs.new _ _ _,rfl,λt h=>⟨(ht t h).1.to (sof ζ1).sub,(ht t h).2.below ζ1⟩⟩
def gotB {own:Nat->Prop} {mb:Nat} {s:ByteArray} {n cap:Nat} (hs:Stm mb Wk W) (hm:mb<Wk) (ho:own mb) (hh:Hs W Wk 40 z3) (ht:∀t,r=some t->TyR W (im (plus own Wk) W) [.int .i64 k,.string s,.slice A n cap] t/\ScS W (plus own Wk) mb sb sc):
 Got Wk own mb sb sc r (Wk:Vl) (r.isSome:Vl) (set3 W Wk k s A n cap):=
 ⟨smS hs (υ _) ω _ _ _ _ _,_,_,_,_,_,_,rfl,υ _,hh.set3 _ _ _ _ _,rfl,λt h=>⟨(ht t h).1.to (aG _ _ _ _ _),(ht t h).2.sub (aG _ _ _ _ _) (aq _ _ _ _ _ _ _ _ ω) ho⟩⟩
section
variable {W:World} {own:Nat->Prop} {mb sb eb rb kc:Nat} {c:CB} {p:Pg} {sc:Sc} {op x m:Int} {s:ByteArray} {A:Option Addr} {kids:List Ex} {cap:Nat} {wv:Value} {want:Option Ty} {n:Nat}
section
variable {cs:List Value}
def exprA (IH:xG c p mb n) (h:Pre W own mb sb eb rb kc c p sc op x m s A kids cap wv want) (ho:ScOk p sc) (hwo:aL want) {e:Ex} (hd:Ex.deep e<=n) (hr:ExR W (im own W) cs e):
 Calls prog 141 #[c.b,sb,.agg cs.toArray,wv] W.drew (rK W own mb sb sc (aa p n sc e want)):=
 (IH own sb sc cs e wv want _ hd (h.env.bel (ad W)) ho (hr.to (sof (ad W)).sub) (h.want.to (sof (ad W)).sub) hwo).mono λ_ _ hx=>fV hx (ad W)
def exprB (IH:xG c p mb n) (h:Pre W own mb sb eb rb kc c p sc op x m s A kids cap wv want) (ho:ScOk p sc) (hwo:aL want) {e:Ex} (hd:Ex.deep e<=n) (hr:ExR W (im own W) cs e):
 Calls prog 141 #[c.b,sb,.agg cs.toArray,wv] ((W.alloc (.cells z3 40)).drew) (rJ W own mb sb sc (aa p n sc e want)):=
 have B:Below W W ((W.alloc (.cells z3 40)).drew):=belA (ad W) _
 (IH (plus own W) sb sc cs e wv want _ hd (h.env.plus B (υ _) Θ) ho (hr.to (aV B (υ _))) (h.want.to (aV B (υ _))) hwo).mono λ_ _ hx=>fg hx h.env.mb.2
def hasA (IH:xG c p mb n) (h:Pre W own mb sb eb rb kc c p sc op x m s A kids cap wv want) (ho:ScOk p sc) {e:Ex} (hd:Ex.deep e<=n) (hr:ExR W (im own W) cs e):
 Calls prog 170 #[c.b,sb,.agg cs.toArray] W.drew (rK W own mb sb sc (aa p n sc e none)):=
 (fk IH hd (h.env.bel (ad W)) ho (hr.to (sof (ad W)).sub)).mono λ_ _ hx=>fV hx (ad W)
def hasB (IH:xG c p mb n) (h:Pre W own mb sb eb rb kc c p sc op x m s A kids cap wv want) (ho:ScOk p sc) {e:Ex} (hd:Ex.deep e<=n) (hr:ExR W (im own W) cs e):
 Calls prog 170 #[c.b,sb,.agg cs.toArray] ((W.alloc (.cells z3 40)).drew) (rJ W own mb sb sc (aa p n sc e none)):=
 have B:Below W W ((W.alloc (.cells z3 40)).drew):=belA (ad W) _
 (fk IH hd (h.env.plus B (υ _) Θ) ho (hr.to (aV B (υ _)))).mono λ_ _ hx=>fg hx h.env.mb.2
end
end
set_option maxRecDepth 100000
set_option maxHeartbeats 2000000
variable {l:List (List UInt8)}
def qh {s:List UInt8} (h:idxP l s=none):idxF l l s=none:=by unfold idxF;rw[show cB l l s=none from h];rfl
variable {i:Nat}
def uY {s:List UInt8} (h:idxP l s=some i):idxF l l s=some (.int .i64 (i:Nat)):=by unfold idxF;rw[show cB l l s=some i from h];rfl
def ty_lt {p:Pg} {s:List UInt8} (h:idxP p.tyNames s=some i):i<p.types:=by
 have:=(cg _ _ _ _ h).1;simpa[Pg.tyNames] using this
def ac_lt {p:Pg} {s:List UInt8} (h:idxP p.acNames s=some i):i<p.actors:=by
 have:=(cg _ _ _ _ h).1;simpa[Pg.acNames] using this
def RecSaid (w:World) (Q:Nat->Prop) (r:Option (List Fld)) (e:Ending) (w':World):Prop:=
 Below w w w'/\match r with
  | none=>e=.returned (.tuple #[(),false])
  | some fs=>∃A cap,e=.returned (.tuple #[.slice A fs cap,true])/\FldsR w Q (.slice A fs cap) fs
def VarSaid (w:World) (Q:Nat->Prop) (r:Option (List Ctr)) (e:Ending) (w':World):Prop:=
 Below w w w'/\match r with
  | none=>e=.returned (.tuple #[(),false])
  | some fs=>∃A cap,e=.returned (.tuple #[.slice A fs cap,true])/\CtrsR w Q (.slice A fs cap) fs
section
variable (c:CB) (p:Pg) (Q:Nat->Prop) (cs:List Value) (t:Ty) (w:World) (Q':Nat->Prop) (hck:ChkR w Q c p) (hq:c.b<w)
include c p Q cs t w Q' hck hq
theorem xE (hF:Fine p) (hr:TyR w Q' cs t):Calls prog 166 #[c.b,.agg cs.toArray] w (RecSaid w Q (recP p t)):=by
 obtain⟨k,s,a,A,cap,rfl,rfl,_,F,U⟩:=ap hr;have c4:=hck.c4;obtain⟨X,O,z⟩:=hck.types.form;have J:=hck.c0;rw[z] at J;have V:Hid (SlR w Q 3 (DclR w Q) (.slice X p.types O) p.types):=by rw[<-z];exact hck.types
 have B:Hid (recP p (.mk k s a)=if k=6 then (match idxP p.tyNames s.data.toList with|none=>none|some i=>match p.types[i]? with|none=>none|some d=>if d.record then (match d.ctors with|[]=>none|c::_=>some c.fields) else none) else none):=rfl;have u:∀m,(Instr.lookup 101 (.map (some c.bt)) (s:Vl) true).run prog ((w.alloc (.cells #[k,s,.slice A a cap] 40)).drewN m)=.ok (.tuple #[(idxF p.tyNames p.tyNames s.data.toList).getD (.int .i64 0),.bool (idxF p.tyNames p.tyNames s.data.toList).isSome]) ((w.alloc (.cells #[k,s,.slice A a cap] 40)).drewN m):=λm=>ck (fH (hck.mt.alloc _) m) F;clear hr U hck F z;by_cases j:k=6
 ·subst j
  cases hix:idxP p.tyNames s.data.toList with
  | none =>
   have e:Hid (recP p (.mk 6 s a)=none):=by show _=_;rw[B.o,if_pos rfl,hix]
   rw[qh hix] at u;clear hix;go_enter func166,ntmps166;go_wp2_with fail;go_quiet (fail);go_wp2_with fail;go_ret2;rw[e.o];exact⟨bM _ ζ1,rfl⟩
  | some i =>
   have f:=ty_lt hix;have l:recP p (.mk 6 s a)=if p.types[i].record then (match p.types[i].ctors with|[]=>none|c::_=>some c.fields) else none:=by rw[B.o,if_pos rfl,hix];simp only;rw[ξ f]
   rw[uY hix] at u;clear hix;obtain⟨g,Y,A1,q1,rfl,hg,R,E,p2,q,r,h⟩:=fF V f;have I:=World.block_lt_of_cell? w _ R;simp only at I;have i1:(0:Int)<=(i:Int):=ω;have i2:(i:Int)<(p.types.length:Int):=ω
   cases hrec:p.types[i].record with
   | false =>
    have e:Hid (recP p (.mk 6 s a)=none):=by show _=_;rw[l,hrec];rfl
    rw[hrec] at E;clear l hrec q r h;go_enter func166,ntmps166;go_wp2_with fail;go_quiet (fail);go_wp2_with fail;go_ret2;rw[e.o];exact⟨bM _ ζ1,rfl⟩
   | true =>
    rw[hrec] at E;have x:=hF.recs i f hrec;obtain⟨g2,T,W,N,rfl,aa,D,M,G,H,v⟩:=ew h x;simp only[Nat.zero_mul,Nat.add_zero] at D M;have y:=World.block_lt_of_cell? w _ D;simp only at y
    have e:Hid (recP p (.mk 6 s a)=some p.types[i].ctors[0].fields):=by
     show _=_;rw[l,hrec];match hc:p.types[i].ctors,x with
     | J::rest,_=>simp[hc]
    have j1:(0:Int)<(p.types[i].ctors.length:Int):=ω;have L:=η v;clear l hrec q r h G H v;go_enter func166,ntmps166;go_wp2_with fail;go_quiet (fail);go_wp2_with fail;go_ret2;rw[e.o];exact⟨bM _ ζ1,W,N,rfl,L⟩
 have e:Hid (recP p (.mk k s a)=none):=by show _=_;rw[B.o,if_neg j]
 have k6:(k==6)=false:=by simpa using j
 have Z:(k != 6)=true:=by simpa using j
 clear j;go_enter func166,ntmps166;go_wp2_with fail;go_ret2;rw[e.o];exact⟨ζ1,rfl⟩
theorem xF (hr:TyR w Q' cs t):Calls prog 173 #[c.b,.agg cs.toArray] w (VarSaid w Q (varP p t)):=by
 obtain⟨k,s,a,A,cap,rfl,rfl,_,z,H⟩:=ap hr;have X:=hck.c4;obtain⟨M,F,v⟩:=hck.types.form;have I:=hck.c0;rw[v] at I;have J:Hid (SlR w Q 3 (DclR w Q) (.slice M p.types F) p.types):=by rw[<-v];exact hck.types
 have x:Hid (varP p (.mk k s a)=if k=6 then (match idxP p.tyNames s.data.toList with|none=>none|some i=>match p.types[i]? with|none=>none|some d=>if d.record then none else some d.ctors) else none):=rfl;have r:∀m,(Instr.lookup 101 (.map (some c.bt)) (s:Vl) true).run prog ((w.alloc (.cells #[k,s,.slice A a cap] 40)).drewN m)=.ok (.tuple #[(idxF p.tyNames p.tyNames s.data.toList).getD (.int .i64 0),.bool (idxF p.tyNames p.tyNames s.data.toList).isSome]) ((w.alloc (.cells #[k,s,.slice A a cap] 40)).drewN m):=λm=>ck (fH (hck.mt.alloc _) m) z;clear hr H hck z v;by_cases h:k=6
 ·subst h
  cases hix:idxP p.tyNames s.data.toList with
  | none =>
   have e:Hid (varP p (.mk 6 s a)=none):=by show _=_;rw[x.o,if_pos rfl,hix]
   rw[qh hix] at r;clear hix;go_enter func173,ntmps173;go_wp2_with fail;go_quiet (fail);go_wp2_with fail;go_ret2;rw[e.o];exact⟨bM _ ζ1,rfl⟩
  | some i =>
   have u:=ty_lt hix;have j:varP p (.mk 6 s a)=if p.types[i].record then none else some p.types[i].ctors:=by rw[x.o,if_pos rfl,hix];simp only;rw[ξ u]
   rw[uY hix] at r;clear hix;obtain⟨g,N,L,E,rfl,W,G,y,R,l,q,f⟩:=fF J u;have B:=World.block_lt_of_cell? w _ G;simp only at B;have V:(0:Int)<=(i:Int):=ω;have U:(i:Int)<(p.types.length:Int):=ω
   cases hrec:p.types[i].record with
   | true =>
    have e:Hid (varP p (.mk 6 s a)=none):=by show _=_;rw[j,hrec];rfl
    rw[hrec] at y;clear j hrec l q f;go_enter func173,ntmps173;go_wp2_with fail;go_quiet (fail);go_wp2_with fail;go_ret2;rw[e.o];exact⟨bM _ ζ1,rfl⟩
   | false =>
    rw[hrec] at y;have e:Hid (varP p (.mk 6 s a)=some p.types[i].ctors):=by show _=_;rw[j,hrec];rfl
    have D:=η f;clear j hrec l q f;go_enter func173,ntmps173;go_wp2_with fail;go_quiet (fail);go_wp2_with fail;go_ret2;rw[e.o];exact⟨bM _ ζ1,L,E,rfl,D⟩
 have e:Hid (varP p (.mk k s a)=none):=by show _=_;rw[x.o,if_neg h]
 have T:(k==6)=false:=by simpa using h
 have O:(k != 6)=true:=by simpa using h
 clear h;go_enter func173,ntmps173;go_wp2_with fail;go_ret2;rw[e.o];exact⟨ζ1,rfl⟩
end
def fd (A:Option Addr) (cap k size:Nat):Option Addr:=if cap=k then A else A.map (·.add (k*size))
variable {P:Nat->Prop}
def SlR.from {α:Type} {w:World} {size:Nat} {R:List Value->α->Prop} {n cap:Nat} {l:List α} (h:SlR w P size R (.slice A n cap) l) (k:Nat) (hk:k<=l):SlR w P size R (.slice (fd A cap k size) (l.drop k).length (cap-k)) (l.drop k):=by
 obtain⟨y,v,p,e,x,q,b⟩:=h;injection e with e1 e2 e3;subst e1 e2 e3;refine⟨_,cap-k,λi=>p (k+i),rfl,⟨by rw[List.length_drop];omega,by rw[List.length_drop];omega⟩,λhn=>?_,λi hi=>?_⟩
 ·rw[List.length_drop] at hn;obtain⟨g,a,t,r,f⟩:=q ω;refine⟨g,a+k*size,?_,r,λi hi=>⟨(f (k+i) (by rw[List.length_drop] at hi;omega)).1,λj u hu=>?_⟩⟩
  ·unfold fd;rw[if_neg ω,t];simp[Addr.add]
  have:=(f (k+i) (by rw[List.length_drop] at hi;omega)).2 j u hu;rw[show a+k*size+i*size+j=a+(k+i)*size+j by rw[Nat.add_mul];omega];exact this
 have d:k+i<l:=by rw[List.length_drop] at hi;omega
 have:=b (k+i) d;simpa[List.getElem_drop] using this
def SlR.upto {α:Type} {w:World} {size:Nat} {R:List Value->α->Prop} {n cap:Nat} {l:List α} (h:SlR w P size R (.slice A n cap) l) (k:Nat) (hk:k<=l):SlR w P size R (.slice A (l.take k).length cap) (l.take k):=by
 obtain⟨v,t,f,e,u,j,b⟩:=h;injection e with e1 e2 e3;subst e1 e2 e3;refine⟨A,cap,f,rfl,⟨by rw[List.length_take];omega,by rw[List.length_take];omega⟩,λhn=>?_,λi hi=>?_⟩
 ·rw[List.length_take] at hn;obtain⟨g,a,r,p,q⟩:=j ω;exact⟨g,a,r,p,λi hi=>q i (by rw[List.length_take] at hi;omega)⟩
 have d:i<l.length:=by rw[List.length_take] at hi;omega
 have:=b i d;simpa[List.getElem_take] using this
def size43 (w:World):(sizeOf 43).run prog w=.ok 5 w:=by kernel_rfl
def uN (w:World):(sizeOf 118).run prog w=.ok 4 w:=by kernel_rfl
def eH (w:World) (A:Option Addr) (len cap k:Nat) (h:k<=len):(Instr.slice 41 (.slice A len cap) (some (.int .i64 (k:Int))) none none).run prog w=.ok (.slice (fd A cap k 5) (len-k) (cap-k)) w:=by
 have a:(0:Int)<=(k:Int)/\(k:Int)<=(len:Int):=ω;simp[Instr.slice,run_underlying underlying41,Instr.sliceBounds,Instr.sliceBound,asIntOf,size43,Result.andThen,h,a,fd]
def belW (h:W0.cell? a=some v):∀W,Below W0 W0 W->W.cell? a=some v:=λ_ hb=>belC hb h
def belS {g:Nat} (h:Below W0 W0 W) (hg:W0<=g) (k:Int) (s:ByteArray) (A:Option Addr) (n cap:Nat):Below W0 W0 (set3 W g k s A n cap):=
 ⟨h.os,h.tape,h.output,by rw[bQ];exact h.size,λi hi=>(aq W g i k s A n cap ω).trans (h.block i hi)⟩
def xq {c:CB} {p:Pg} {mb:Nat} {own:Nat->Prop} {op x m:Int} {s:ByteArray} {kids:List Ex} {cap:Nat} {wv:Value} {w:World} (he:Env w own mb sb c p sc) (hi:i64 x):
 Calls prog 160 #[sb,.agg (ex5 op x m s A kids cap),wv] w (ResF w own mb sb sc (sc.bound x)):=by
 have HO:=η he.mb.1;have ae:=he.mb.2;obtain⟨a,b⟩:=γ ((w.alloc (.cells #[op,x,m,.string s,.slice A kids cap] 43)).alloc (.cells #[(0:Int),.string ⟨#[]⟩,()] 40))
 have I:Below w w a:=by rw[b];exact ζ2
 have F:Hs a w 43 (ex5 op x m s A kids cap):=by rw[b];exact (Hs.new _ _ _).alloc _
 have L:Hs a (w+1) 40 z3:=by rw[b];exact Hs.new' _ _ _
 have ac:w.heap.size+2=a:=by rw[b];simp
 obtain⟨T,H,M,R⟩:=zd4 I L b (he.plus I (g:=w+1) ω ω);obtain⟨nn,i,va,ks,f⟩:=R.sco;have U:=belW f.c1;have X:=belW (F.c 1);have J:∀W,Below a a W->(Instr.lookup 176 (.map (some mb)) (x:Vl) true).run prog W=.ok (.tuple #[(i x).getD (.agg #[(0:Int),.string ⟨#[]⟩,()]),.bool (i x).isSome]) W:=λW hb=>np (f.below hb).map hi;have d:=f.val x;have O:Hid (ScS a (plus own (w+1)) mb sb sc):=⟨_,_,_,_,f⟩
 clear he hi F I b f;obtain⟨r,j⟩:=γ (sc.bound x)
 rw[<-j] at d;rw[<-j];clear j
 obtain⟨k3,s3,A3,n3,Z,D,E,q⟩:∃k s A n cap,(i x).getD (.agg #[(0:Int),.string ⟨#[]⟩,()])=.agg #[.int .i64 k,.string s,.slice A n cap]/\(i x).isSome=r.isSome/\∀t,r=some t->TyR a (im (plus own (w+1)) a) [.int .i64 k,.string s,.slice A n cap] t:=by
  cases r with
  | none =>
   have V:i x=none:=by cases hx:i x with|none=>rfl|some _=>rw[hx] at d;exact d.elim
   rw[V];exact⟨0,_,_,_,_,rfl,rfl,λt h=>by cases h⟩
  | some t =>
   cases hx:i x with
   | none=>rw[hx] at d;exact d.elim
   | some v =>
    rw[hx] at d;obtain⟨k,s,A,n,cap,e,j⟩:=d;exact⟨k,s,A,n,cap,by rw[e];rfl,rfl,λu h=>by injection h with h;subst h;exact j⟩
 rw[D,E] at J;have N:=η q;clear d D E q;go_enter func160,ntmps160;go_wp2_with fail;rw[<-M.o];go_cut [8,9] (λv1 v2 W=>Hid (Got a (plus own (w+1)) mb sb sc r v1 v2 W))
 case first =>
  refine tkB (λW=>Below a a W) (ad _) (λhHeld=>?_);refine θ ?_;refine tkE 10 (λK hK=>?_);go_simp;refine tkR hK ?_ (λhHeld=>?_)
  ·exact belA ι _
  clear hK K;refine tkE 11 (λK hK=>?_);go_simp;refine tkR hK ?_ (λhHeld=>?_)
  ·first|exact belA (ad _) _|exact belS ι ω _ _ _ _ _
  clear hK K;refine tkQ 12 ?_;refine tkD ?_;go_wp2_with fail;go_meet;exact gotA (smDr mb a) (λt h=>⟨(N t h).to (sof (ad a)).sub,O.below (ad a)⟩)
 case rest =>
 clear J U X;obtain⟨z,tb,k4,s4,A4,n4,Y,rfl,ab,B,rfl,y⟩:=hcut.o;obtain⟨l,G⟩:=zd2 z y;obtain⟨y0,y1,y2,_,_,_⟩:=B.facts;obtain⟨z0,z1,z2,q0,q1,q2⟩:=(H.stp l Ω).facts;clear hcut z B y
 cases r with
 | none =>
  go_wp2_with fail;exact bodyPost_ret (am results160 _ _ (w+1) _ _ _ _ _ rfl ((H.stp l Ω).set3 _ _ _ _ _)) rfl (aB ((Stm.of_below T).trans l) ω ω)
 | some t =>
  go_wp2_with fail;exact bodyPost_ret (am results160 _ _ (w+1) _ _ _ _ _ rfl ((H.stp l Ω).set3 _ _ _ _ _)) rfl (bo ((Stm.of_below T).trans l) ω ω HO (G t rfl).1 (G t rfl).2)
def clo_if {c:CB} {p:Pg} {mb n:Nat} (IH:xG c p mb n) (hF:aO p n) {own:Nat->Prop} {kc:Nat} {op x m:Int} {s:ByteArray} {kids:List Ex} {cap:Nat} {wv:Value} {want:Option Ty} {w:World} (hd:∀k∈kids,Ex.deep k<=n) (he:Env w own mb sb c p sc) (ho:ScOk p sc) (hk:im own w kc) (hkc:w.cell? kc=some (c.b:Vl)) (hx:ExsR w (im own w) (.slice A kids cap) kids) (hw:WantR w (im own w) wv want) (hwo:aL want) (hl:kids.length=3):
 Calls prog 175 #[sb,.agg (ex5 op x m s A kids cap),wv,kc] w (ResF w own mb sb sc (fIf (aa p n) sc want kids)):=by
 obtain⟨HP,L,HD,HF,E,HO,HW⟩:=zd7 (Pre.start (op:=op) (x:=x) (m:=m) (s:=s) he hk hkc hx hw) IH hd hF ho he.mb.1 hwo;have cg:=he.mb.2;have i0:0<kids.length:=ω;have i1:1<kids.length:=ω;have i2:2<kids.length:=ω;have j0:(0:Int)<(kids.length:Int):=ω;have j1:(1:Int)<(kids.length:Int):=ω;have j2:(2:Int)<(kids.length:Int):=ω
 have HV:Hid (fIf (aa p n) sc want kids=if isE (aa p n) sc kids[0] (bTy 2) then (match aa p n sc kids[1] want with|none=>none|some t=>if isE (aa p n) sc kids[2] t then some t else none) else none):=by
  match kids,hl with
  | [a,b,cc],_=>rfl
 obtain⟨F,U⟩:=γ ((w.alloc (.cells #[op,x,m,s,.slice A kids cap] 43)).alloc (.cells #[(0:Int),.string ⟨#[]⟩,()] 40))
 replace HP:=η HP.o;have z:Hid (Pre F (plus own (w+1)) mb sb w (w+1) kc c p sc op x m s A kids cap wv want):=by rw[U];exact HP
 have ae:Hid (Stm mb w F):=by rw[U];exact Stm.of_below ζ2
 have bt:w.heap.size+2<=F:=by rw[U];simp
 have bv:=η U;have ak:kc≠mb:=λe=>hk.2 (by rw[e];exact he.mb.1);clear hd he ho hk hkc hx hw hwo hl IH HP U hF;go_enter func175,ntmps175;go_wp2_with fail;rw[<-bv.o];have c1:=stpC (mb:=mb) z.kc ak;have b4:=stpC (mb:=mb) (z.bx.c 4) Φ;obtain⟨g,ab,o1,x1,m1,s1,a1,B1,a7,rfl,hg,Y,u,r,q,l,j,O⟩:=aQ z.kids i0;have d:g≠mb:=λe=>hg.2 (by rw[e];exact .inl HO);simp only[Nat.zero_mul,Nat.add_zero] at u r q l j;replace u:=stpC u d;replace r:=stpC r d;replace q:=stpC q d;replace l:=stpC l d;replace j:=stpC j d;have HR:=η O;clear O Y
 cases h1:isE (aa p n) sc kids[0] (bTy 2) with
 | false =>
  have Z:Hid (fIf (aa p n) sc want kids=none):=by show _=_;rw[HV.o,h1];rfl
  have H1:=η h1;clear h1
  go_region_held3 (λW=>Stm mb F W) (first|exact bq _ _|exact smDr _ _|exact Stm.trans ι (Stm.of_below f)|exact Stm.trans ι B)
   (first|(go_at_call 176;refine (aU _ _).mono ?_;rintro Y w1 ⟨rfl,f⟩)|(go_at_call 105;refine (bA L (HD _ (ν i0)) (z.env.bel (bel (ad _) f)) E (HR.to (sof (bel (ad _) f)).sub) (cO _ _ 2 Ψ) rfl).mono ?_;rw[H1.o];rintro e2 V ⟨rfl,B,M⟩))
  have N:=η ((Stm.of_below (bel (ad F) f)).trans B);obtain⟨z0,z1,z2,q0,q1,q2⟩:=(z.rs.stp N Ω).facts;clear B M c1 b4 u r q l j f;go_wp2_with fail;rw[Z.o];exact bodyPost_ret (am results175 _ _ (w+1) _ _ _ _ _ rfl ((z.rs.stp N Ω).set3 _ _ _ _ _)) rfl (aB (ae.trans N) ω ω)
 | true =>
  have a9:Hid (fIf (aa p n) sc want kids=match aa p n sc kids[1] want with|none=>none|some t=>if isE (aa p n) sc kids[2] t then some t else none):=by show _=_;rw[HV.o,h1];rfl
  have H1:=η h1;clear h1
  go_region_held3 (λW=>Stm mb F W) (first|exact bq _ _|exact smDr _ _|exact Stm.trans ι (Stm.of_below f)|exact Stm.trans ι B)
   (first|(go_at_call 176;refine (aU _ _).mono ?_;rintro Y w1 ⟨rfl,f⟩)|(go_at_call 105;refine (bA L (HD _ (ν i0)) (z.env.bel (bel (ad _) f)) E (HR.to (sof (bel (ad _) f)).sub) (cO _ _ 2 Ψ) rfl).mono ?_;rw[H1.o];rintro e2 V ⟨rfl,B,M⟩))
  have N:=η ((Stm.of_below (bel (ad F) f)).trans B);have y:=η (z.stp N (M Υ));clear B M c1 b4 u r q l j f;go_wp2_with fail;have ce:w.heap.size+2<=V:=ψ bt N.size;have c1:=stpC (mb:=mb) y.kc ak;have b4:=stpC (mb:=mb) (y.bx.c 4) Φ;obtain⟨g',X,o1,x1,m1,s1,a1,B1,a7,hA,ac,Y,u,r,q,l,j,O⟩:=aQ y.kids i1;obtain⟨rfl,rfl⟩:g=g'/\ab=X:=by simpa using hA
  simp only[Nat.one_mul] at u r q l j;replace u:=stpC u d;replace r:=stpC r d;replace q:=stpC q d;replace l:=stpC l d;replace j:=stpC j d;have aq:=η O;clear O Y hA ac;obtain⟨r1,a6⟩:=γ (aa p n sc kids[1] want)
  have D:=η a6;clear a6;go_cut [9,10] (λv1 v2 W=>Hid (Got V (plus own (w+1)) mb sb sc r1 v1 v2 W))
  case first =>
   go_region_held3 (λW=>Stm mb V W) (first|exact bq _ _|exact smDr _ _|exact v|exact smA ι _|exact (smA (Stm.refl _ _) _).trans (smDr _ _)|exact smS v (υ _) ω _ _ _ _ _)
    (first|(go_at_call 141;refine (exprB L y E HW (HD _ (ν i1)) aq).mono ?_;rw[<-D.o];rintro e3 w3 ⟨k3,s3,A3,n3,an,rfl,v,R,I⟩;obtain⟨z0,z1,z2,q0,q1,q2⟩:=R.facts)|(go_at_call 141;refine (exprA L y E HW (HD _ (ν i1)) aq).mono ?_;rw[<-D.o];rintro e3 w3 ⟨k3,s3,A3,n3,an,rfl,v,I⟩))
   all_goals
    go_wp2_with fail;go_meet;first|exact gotA v I|exact gotB v ω (.inl HO) R I
  case rest =>
  clear c1 b4 u r q l j aq;obtain⟨v,tb,k3,s3,A3,n3,an,rfl,cf,R,rfl,I⟩:=hcut.o;obtain⟨S3,b0,af⟩:=zd3 v R I;clear hcut v R I;have cd:V.heap.size<=wc:=S3.size;have RS:=η (y.rs.stp S3 Ω);obtain⟨y0,y1,y2,_,_,_⟩:=b0.facts;have H:tb≠mb:=ω;have G:tb≠w+1:=ω
  cases r1 with
  | none =>
   have Z:Hid (fIf (aa p n) sc want kids=none):=by show _=_;rw[a9.o,<-D.o]
   obtain⟨z0,z1,z2,q0,q1,q2⟩:=RS.facts;go_wp2_with fail;replace y0:=aD (mb:=mb) (rb:=w+1) y0 H G;replace y1:=aD (mb:=mb) (rb:=w+1) y1 H G;replace y2:=aD (mb:=mb) (rb:=w+1) y2 H G;refine tkB (λW=>Stp (plus (only mb) (w+1)) wc W) (bq _ _) (λhHeld=>?_);refine θ ?_;refine tkE 12 (λK hK=>?_);go_simp;refine tkR hK ?_ (λhHeld=>?_)
   ·exact stpR ι _ _ _ _ _
   clear hK K;refine tkQ 13 ?_;refine tkD ?_;clear hHeld;go_wp2_with fail;rw[Z.o];exact bodyPost_ret (am results175 _ _ (w+1) _ _ _ _ _ rfl ((RS.stp (smDr mb _) Ω).set3 _ _ _ _ _)) rfl (aB (((ae.trans N).trans S3).trans (smDr _ _)) ω ω)
  | some t =>
   have a8:Hid (fIf (aa p n) sc want kids=if isE (aa p n) sc kids[2] t then some t else none):=by show _=_;rw[a9.o,<-D.o]
   obtain⟨bb,J⟩:=zd2 (HF sc kids[1] want t E HW D.symm) (y.stp S3 (af t rfl).2);have c1:=aD (mb:=mb) (rb:=w+1) J.kc ak (by show kc≠_;have:=World.block_lt_of_cell? V _ y.kc;exact λe=>J.kq.2 (.inr e));have b4:=aD (mb:=mb) (rb:=w+1) (J.bx.c 4) Φ Θ;obtain⟨g',X,o1,x1,m1,s1,a1,B1,a7,hA,ac,Y,u,r,q,l,j,O⟩:=aQ J.kids i2;obtain⟨rfl,rfl⟩:g=g'/\ab=X:=by simpa using hA
   have T:g≠w+1:=λe=>ac.2 (.inr e);simp only[Nat.reduceMul] at u r q l j;replace u:=aD u d T;replace r:=aD r d T;replace q:=aD q d T;replace l:=aD l d T;replace j:=aD j d T;replace y0:=aD (mb:=mb) (rb:=w+1) y0 H G;replace y1:=aD (mb:=mb) (rb:=w+1) y1 H G;replace y2:=aD (mb:=mb) (rb:=w+1) y2 H G;have ba:=η O;clear O Y hA ac
   cases h4:isE (aa p n) sc kids[2] t with
   | false =>
    have Z:Hid (fIf (aa p n) sc want kids=none):=by show _=_;rw[a8.o,h4];rfl
    have H4:=η h4;clear h4;go_wp2_with fail;refine tkB (λW=>Stp (plus (only mb) (w+1)) wc W) (bq _ _) (λhHeld=>?_);refine θ ?_;refine tkE 10 (λK hK=>?_);go_simp;(refine (bA L (HD _ (ν i2)) (J.env.bel (ad _)) E (ba.to (sof (ad _)).sub) ((af t rfl).1.to (sof (ad _)).sub) bb).mono ?_;rw[H4.o];rintro e4 w4 ⟨rfl,i,aj⟩;obtain⟨z0,z1,z2,q0,q1,q2⟩:=(RS.stp ((smDr mb wc).trans i) Ω).facts);refine tkR hK ?_ (λhHeld=>?_)
    ·exact (hHeld.trans (i.s.wk (λ_ h=>.inl h)))
    clear hK K;refine tkQ 11 ?_;refine tkE 12 (λK hK=>?_);go_simp;refine tkR hK ?_ (λhHeld=>?_)
    ·exact stpR ι _ _ _ _ _
    clear hK K;refine tkQ 13 ?_;refine tkD ?_;clear hHeld;go_wp2_with fail;rw[Z.o];exact bodyPost_ret (am results175 _ _ (w+1) _ _ _ _ _ rfl ((RS.stp ((smDr mb wc).trans i) Ω).set3 _ _ _ _ _)) rfl (aB ((((ae.trans N).trans S3).trans (smDr _ _)).trans i) ω ω)
   | true =>
    have Z:Hid (fIf (aa p n) sc want kids=some t):=by show _=_;rw[a8.o,h4];rfl
    have H4:=η h4;clear h4;go_wp2_with fail;refine tkB (λW=>Stp (plus (only mb) (w+1)) wc W) (bq _ _) (λhHeld=>?_);refine θ ?_;refine tkE 10 (λK hK=>?_);go_simp;(refine (bA L (HD _ (ν i2)) (J.env.bel (ad _)) E (ba.to (sof (ad _)).sub) ((af t rfl).1.to (sof (ad _)).sub) bb).mono ?_;rw[H4.o];rintro e4 w4 ⟨rfl,i,aj⟩;obtain⟨z0,z1,z2,q0,q1,q2⟩:=(RS.stp ((smDr mb wc).trans i) Ω).facts);refine tkR hK ?_ (λhHeld=>?_)
    ·exact (hHeld.trans (i.s.wk (λ_ h=>.inl h)))
    clear hK K;refine tkQ 11 ?_;refine tkE 12 (λK hK=>?_);go_simp;refine tkR hK ?_ (λhHeld=>?_)
    ·exact stpR ι _ _ _ _ _
    clear hK K;refine tkQ 13 ?_;refine tkD ?_;clear hHeld;go_wp2_with fail;rw[Z.o];exact bodyPost_ret (am results175 _ _ (w+1) _ _ _ _ _ rfl ((RS.stp ((smDr mb wc).trans i) Ω).set3 _ _ _ _ _)) rfl (bo ((((ae.trans N).trans S3).trans (smDr _ _)).trans i) ω ω HO ((af t rfl).1.to (((smDr mb wc).trans i).subO (.inl HO))) (aj Υ))
set_option maxRecDepth 1000000 in
def zfEqT {p:Prop} (h:p:=by
 have lm:=h.le9;have bn:=h'.le9;have Y:=η h;have L:=η h';have p:=η HC;clear HC h h';by_cases M:a.length=b
 ·have t3:((a.length:Int) != (b.length:Int))=false:=by simp;omega
  have X:=η M;have bo:a.length<=b:=ω;clear M
  first
   | guard_hyp kk0:True
     go_enter func48,ntmps48
   | guard_hyp kk1:True
     go_enter func50,ntmps50
   | guard_hyp kk2:True
     go_enter func52,ntmps52
   | guard_hyp kk3:True
     go_enter func54,ntmps54
   | guard_hyp kk4:True
     go_enter func113,ntmps113
   | go_enter func115,ntmps115
  go_wp2_with fail
  first
   | guard_hyp kk0:True
     go_loopw [17] (λi wr=>∃j:Nat,j<=a/\i=.int .i64 j/\Hid (∀k (h:k<a.length) (h':k<b.length),k<j->eP a[k] b[k]=true)/\Hid (Below w w wr)) (λi _=>a.length-(intOf i).toNat)
   | guard_hyp kk1:True
     go_loopw [17] (λi wr=>∃j:Nat,j<=a/\i=.int .i64 j/\Hid (∀k (h:k<a.length) (h':k<b.length),k<j->eO a[k] b[k]=true)/\Hid (Below w w wr)) (λi _=>a.length-(intOf i).toNat)
   | guard_hyp kk2:True
     go_loopw [17] (λi wr=>∃j:Nat,j<=a/\i=.int .i64 j/\Hid (∀k (h:k<a.length) (h':k<b.length),k<j->gY a[k] b[k]=true)/\Hid (Below w w wr)) (λi _=>a.length-(intOf i).toNat)
   | guard_hyp kk3:True
     go_loopw [17] (λi wr=>∃j:Nat,j<=a/\i=.int .i64 j/\Hid (∀k (h:k<a.length) (h':k<b.length),k<j->gZ a[k] b[k]=true)/\Hid (Below w w wr)) (λi _=>a.length-(intOf i).toNat)
   | guard_hyp kk4:True
     go_loopw [17] (λi wr=>∃j:Nat,j<=a/\i=.int .i64 j/\Hid (∀k (h:k<a.length) (h':k<b.length),k<j->gW a[k] b[k]=true)/\Hid (Below w w wr)) (λi _=>a.length-(intOf i).toNat)
   | go_loopw [17] (λi wr=>∃j:Nat,j<=a/\i=.int .i64 j/\Hid (∀k (h:k<a.length) (h':k<b.length),k<j->gX a[k] b[k]=true)/\Hid (Below w w wr)) (λi _=>a.length-(intOf i).toNat)
  case atStart=>exact⟨0,ω,rfl,λk _ _ h=>ω,belR _⟩
  case round =>
   obtain⟨j,hj,rfl,y,d⟩:=hrel;by_cases hlt:j<a
   ·have c:j<b:=ω;have u1:=zT j a;have i1:(0:Int)<=(j:Int):=ω;have i2:(j:Int)<(a.length:Int):=ω;have i3:(j:Int)<(b.length:Int):=ω
    first
     | guard_hyp kk0:True
       obtain⟨g,O,B1,c1,rfl,-,p0,p1,p2,E,-⟩:=fF (SlR.to' Y (ae d) (λ_ _ x=>x.to (ae d))) hlt;obtain⟨g',B,T,R,rfl,-,J,I,H,D,-⟩:=fF (SlR.to' L (ae d) (λ_ _ x=>x.to (ae d))) c
     | guard_hyp kk5:True
       obtain⟨g,O,B0,c0,B1,c1,rfl,-,p0,p1,p2,p3,E,-⟩:=lG (SlR.to' Y (ae d) (λ_ _ x=>x.to (ae d))) hlt;obtain⟨g',B,aj,ah,T,R,rfl,-,J,I,H,N,D,-⟩:=lG (SlR.to' L (ae d) (λ_ _ x=>x.to (ae d))) c
     | guard_hyp kk1:True
       obtain⟨g,O,B0,c0,k1,s1,a1,B1,c1,rfl,-,p0,p1,p2,p3,p4,E,-⟩:=jC (SlR.to' Y (ae d) (λ_ _ x=>x.to (ae d))) hlt;obtain⟨g',B,aj,ah,ao,al,ap,T,R,rfl,-,J,I,H,N,U,D,-⟩:=jC (SlR.to' L (ae d) (λ_ _ x=>x.to (ae d))) c
     | guard_hyp kk3:True
       obtain⟨g,O,B0,c0,B1,c1,B2,c2,rfl,-,p0,p1,p2,p3,p4,p5,p6,E,-⟩:=fR (SlR.to' Y (ae d) (λ_ _ x=>x.to (ae d))) hlt;obtain⟨g',B,aj,ah,T,R,bq,bp,rfl,-,J,I,H,N,U,aa,Z,D,-⟩:=fR (SlR.to' L (ae d) (λ_ _ x=>x.to (ae d))) c
     | guard_hyp kk4:True
       obtain⟨g,O,k1,s1,a1,B1,c1,o1,x1,m1,r1,e1,D1,d1,rfl,-,p0,p1,p2,p3,p4,p5,p6,p7,p8,E,-⟩:=ku (SlR.to' Y (ae d) (λ_ _ x=>x.to (ae d))) hlt;obtain⟨g',B,ao,al,ap,T,R,a3,aw,a4,ay,a6,a9,a7,rfl,-,J,I,H,N,U,aa,Z,an,am,D,-⟩:=ku (SlR.to' L (ae d) (λ_ _ x=>x.to (ae d))) c
     | obtain⟨g,O,B0,c0,k1,s1,a1,B1,c1,o1,x1,m1,r1,e1,D1,d1,rfl,-,p0,p1,p2,p3,p4,p5,p6,p7,p8,p9,bm,E,-⟩:=jd (SlR.to' Y (ae d) (λ_ _ x=>x.to (ae d))) hlt
       obtain⟨g',B,aj,ah,ao,al,ap,T,R,a3,aw,a4,ay,a6,a9,a7,rfl,-,J,I,H,N,U,aa,Z,an,am,az,ar,D,-⟩:=jd (SlR.to' L (ae d) (λ_ _ x=>x.to (ae d))) c
    obtain⟨v,u⟩:=zd2 E D;have z0:=celA J;have z1:=celA I;have z2:=celA H
    first
     | done
     | guard_hyp kk0:True
     | have z3:=celA N
       first
        | done
        | guard_hyp kk5:True
        | have z4:=celA U
          first
           | done
           | guard_hyp kk1:True
           | have z5:=celA aa
             have z6:=celA Z
             first
              | done
              | guard_hyp kk3:True
              | have z7:=celA an
                have z8:=celA am
                first
                 | done
                 | guard_hyp kk4:True
                 | have z9:=celA az
                   have bl:=celA ar
    clear E D
    first
     | guard_hyp kk5:True
       cases hsm:gX a[j] b[j] with
        | false =>
         have t:Hid (eqL gX a b=false):=gC _ a b j hlt c hsm;have l:=η hsm;clear hsm;go_wp2_with (go_at_call 116;refine (p j hlt c _ _ _ _ l (v.to (ae ζ2)) (u.to (ae ζ2))).mono ?_;rintro F z ⟨rfl,f⟩);go_ret;exact⟨by rw[t.o];first|rfl|(simp;done),bel d (bel ζ2 f)⟩
        | true =>
         have G:Hid (∀k (h:k<a.length) (h':k<b.length),k<j+1->gX a[k] b[k]=true):=λk h h' hk=>by
          by_cases e:k=j
          ·subst e;exact hsm
          exact y k h h' ω
         have l:=η hsm;clear hsm;go_wp2_with (go_at_call 116;refine (p j hlt c _ _ _ _ l (v.to (ae ζ2)) (u.to (ae ζ2))).mono ?_;rintro F z ⟨rfl,f⟩);go_roundw
         case rel=>exact⟨j+1,ω,by go_num,G,bel d (bel ζ2 f)⟩
         case measure=>simp[intOf];omega
     | first
        | guard_hyp kk4:True
          cases hsm:gW a[j] b[j] with
           | false =>
            have t:Hid (eqL gW a b=false):=gC _ a b j hlt c hsm;have l:=η hsm;clear hsm;go_wp2_with (go_at_call 114;refine (p j hlt c _ _ _ _ l (v.to (ae ζ2)) (u.to (ae ζ2))).mono ?_;rintro F z ⟨rfl,f⟩);go_ret;exact⟨by rw[t.o];first|rfl|(simp;done),bel d (bel ζ2 f)⟩
           | true =>
            have G:Hid (∀k (h:k<a.length) (h':k<b.length),k<j+1->gW a[k] b[k]=true):=λk h h' hk=>by
             by_cases e:k=j
             ·subst e;exact hsm
             exact y k h h' ω
            have l:=η hsm;clear hsm;go_wp2_with (go_at_call 114;refine (p j hlt c _ _ _ _ l (v.to (ae ζ2)) (u.to (ae ζ2))).mono ?_;rintro F z ⟨rfl,f⟩);go_roundw
            case rel=>exact⟨j+1,ω,by go_num,G,bel d (bel ζ2 f)⟩
            case measure=>simp[intOf];omega
        | first
           | guard_hyp kk3:True
             cases hsm:gZ a[j] b[j] with
              | false =>
               have t:Hid (eqL gZ a b=false):=gC _ a b j hlt c hsm;have l:=η hsm;clear hsm;go_wp2_with (go_at_call 55;refine (p j hlt c _ _ _ _ l (v.to (ae ζ2)) (u.to (ae ζ2))).mono ?_;rintro F z ⟨rfl,f⟩);go_ret;exact⟨by rw[t.o];first|rfl|(simp;done),bel d (bel ζ2 f)⟩
              | true =>
               have G:Hid (∀k (h:k<a.length) (h':k<b.length),k<j+1->gZ a[k] b[k]=true):=λk h h' hk=>by
                by_cases e:k=j
                ·subst e;exact hsm
                exact y k h h' ω
               have l:=η hsm;clear hsm;go_wp2_with (go_at_call 55;refine (p j hlt c _ _ _ _ l (v.to (ae ζ2)) (u.to (ae ζ2))).mono ?_;rintro F z ⟨rfl,f⟩);go_roundw
               case rel=>exact⟨j+1,ω,by go_num,G,bel d (bel ζ2 f)⟩
               case measure=>simp[intOf];omega
           | first
              | guard_hyp kk2:True
                cases hsm:gY a[j] b[j] with
                 | false =>
                  have t:Hid (eqL gY a b=false):=gC _ a b j hlt c hsm;have l:=η hsm;clear hsm;go_wp2_with (go_at_call 53;refine (p j hlt c _ _ _ _ l (v.to (ae ζ2)) (u.to (ae ζ2))).mono ?_;rintro F z ⟨rfl,f⟩);go_ret;exact⟨by rw[t.o];first|rfl|(simp;done),bel d (bel ζ2 f)⟩
                 | true =>
                  have G:Hid (∀k (h:k<a.length) (h':k<b.length),k<j+1->gY a[k] b[k]=true):=λk h h' hk=>by
                   by_cases e:k=j
                   ·subst e;exact hsm
                   exact y k h h' ω
                  have l:=η hsm;clear hsm;go_wp2_with (go_at_call 53;refine (p j hlt c _ _ _ _ l (v.to (ae ζ2)) (u.to (ae ζ2))).mono ?_;rintro F z ⟨rfl,f⟩);go_roundw
                  case rel=>exact⟨j+1,ω,by go_num,G,bel d (bel ζ2 f)⟩
                  case measure=>simp[intOf];omega
              | first
                 | guard_hyp kk0:True
                   cases hsm:eP a[j] b[j] with
                    | false =>
                     have t:Hid (eqL eP a b=false):=gC _ a b j hlt c hsm;have l:=η hsm;clear hsm;go_wp2_with (go_at_call 49;refine (p j hlt c _ _ _ _ l (v.to (ae ζ2)) (u.to (ae ζ2))).mono ?_;rintro F z ⟨rfl,f⟩);go_ret;exact⟨by rw[t.o];first|rfl|(simp;done),bel d (bel ζ2 f)⟩
                    | true =>
                     have G:Hid (∀k (h:k<a.length) (h':k<b.length),k<j+1->eP a[k] b[k]=true):=λk h h' hk=>by
                      by_cases e:k=j
                      ·subst e;exact hsm
                      exact y k h h' ω
                     have l:=η hsm;clear hsm;go_wp2_with (go_at_call 49;refine (p j hlt c _ _ _ _ l (v.to (ae ζ2)) (u.to (ae ζ2))).mono ?_;rintro F z ⟨rfl,f⟩);go_roundw
                     case rel=>exact⟨j+1,ω,by go_num,G,bel d (bel ζ2 f)⟩
                     case measure=>simp[intOf];omega
                 | cases hsm:eO a[j] b[j] with
                    | false =>
                     have t:Hid (eqL eO a b=false):=gC _ a b j hlt c hsm;have l:=η hsm;clear hsm;go_wp2_with (go_at_call 51;refine (p j hlt c _ _ _ _ l (v.to (ae ζ2)) (u.to (ae ζ2))).mono ?_;rintro F z ⟨rfl,f⟩);go_ret;exact⟨by rw[t.o];first|rfl|(simp;done),bel d (bel ζ2 f)⟩
                    | true =>
                     have G:Hid (∀k (h:k<a.length) (h':k<b.length),k<j+1->eO a[k] b[k]=true):=λk h h' hk=>by
                      by_cases e:k=j
                      ·subst e;exact hsm
                      exact y k h h' ω
                     have l:=η hsm;clear hsm;go_wp2_with (go_at_call 51;refine (p j hlt c _ _ _ _ l (v.to (ae ζ2)) (u.to (ae ζ2))).mono ?_;rintro F z ⟨rfl,f⟩);go_roundw
                     case rel=>exact⟨j+1,ω,by go_num,G,bel d (bel ζ2 f)⟩
                     case measure=>simp[intOf];omega
   have u1:=zF j a
   first
    | guard_hyp kk0:True
      have t:Hid (eqL eP a b=true):=eC _ a b X λk h h'=>y k h h' ω
    | guard_hyp kk1:True
      have t:Hid (eqL eO a b=true):=eC _ a b X λk h h'=>y k h h' ω
    | guard_hyp kk2:True
      have t:Hid (eqL gY a b=true):=eC _ a b X λk h h'=>y k h h' ω
    | guard_hyp kk3:True
      have t:Hid (eqL gZ a b=true):=eC _ a b X λk h h'=>y k h h' ω
    | guard_hyp kk4:True
      have t:Hid (eqL gW a b=true):=eC _ a b X λk h h'=>y k h h' ω
    | have t:Hid (eqL gX a b=true):=eC _ a b X λk h h'=>y k h h' ω
   go_wp2_with fail;go_ret;exact⟨by rw[t.o];first|rfl|(simp;done),d⟩
 have t3:((a.length:Int) != (b.length:Int))=true:=by simp;omega
 first
  | guard_hyp kk0:True
    have V:Hid (eqL eP a b=false):=gB _ a b M
  | guard_hyp kk1:True
    have V:Hid (eqL eO a b=false):=gB _ a b M
  | guard_hyp kk2:True
    have V:Hid (eqL gY a b=false):=gB _ a b M
  | guard_hyp kk3:True
    have V:Hid (eqL gZ a b=false):=gB _ a b M
  | guard_hyp kk4:True
    have V:Hid (eqL gW a b=false):=gB _ a b M
  | have V:Hid (eqL gX a b=false):=gB _ a b M
 clear M
 first
  | guard_hyp kk0:True
    go_enter func48,ntmps48
  | guard_hyp kk1:True
    go_enter func50,ntmps50
  | guard_hyp kk2:True
    go_enter func52,ntmps52
  | guard_hyp kk3:True
    go_enter func54,ntmps54
  | guard_hyp kk4:True
    go_enter func113,ntmps113
  | go_enter func115,ntmps115
 go_wp2_with fail;go_ret;exact⟨by rw[V.o];rfl,belR _⟩) :p:=h
variable {A':Option Addr} {q q':Nat}
def eqf_48 {a b:List Dcl} {w:World} (h:SlR w (lo w) 3 (DclR w (lo w)) (.slice A a q) a) (h':SlR w (lo w) 3 (DclR w (lo w)) (.slice A' b q') b) (HC:∀(i:Nat) (hi:i<a) (hi':i<b) (cs cs':List Value) (W:World) (r:Bool),eP a[i] b[i]=r->DclR W (lo W) cs a[i]->DclR W (lo W) cs' b[i]->Calls prog 49 #[.agg cs.toArray,.agg cs'.toArray] W (aE r W)):
 Calls prog 48 #[.slice A a q,.slice A' b q',.func (.func 49) #[] #[]] w (aE (eqL eP a b) w):=by
 have kk0:=trivial;exact zfEqT
def eqf_50 {a b:List Eff} {w:World} (h:SlR w (lo w) 5 (EffR w (lo w)) (.slice A a q) a) (h':SlR w (lo w) 5 (EffR w (lo w)) (.slice A' b q') b) (HC:∀(i:Nat) (hi:i<a) (hi':i<b) (cs cs':List Value) (W:World) (r:Bool),eO a[i] b[i]=r->EffR W (lo W) cs a[i]->EffR W (lo W) cs' b[i]->Calls prog 51 #[.agg cs.toArray,.agg cs'.toArray] W (aE r W)):
 Calls prog 50 #[.slice A a q,.slice A' b q',.func (.func 51) #[] #[]] w (aE (eqL eO a b) w):=by
 have kk1:=trivial;exact zfEqT
def eqf_52 {a b:List Fn} {w:World} (h:SlR w (lo w) 11 (FnR w (lo w)) (.slice A a q) a) (h':SlR w (lo w) 11 (FnR w (lo w)) (.slice A' b q') b) (HC:∀(i:Nat) (hi:i<a) (hi':i<b) (cs cs':List Value) (W:World) (r:Bool),gY a[i] b[i]=r->FnR W (lo W) cs a[i]->FnR W (lo W) cs' b[i]->Calls prog 53 #[.agg cs.toArray,.agg cs'.toArray] W (aE r W)):
 Calls prog 52 #[.slice A a q,.slice A' b q',.func (.func 53) #[] #[]] w (aE (eqL gY a b) w):=by
 have kk2:=trivial;exact zfEqT
def eqf_54 {a b:List Ac} {w:World} (h:SlR w (lo w) 7 (AcR w (lo w)) (.slice A a q) a) (h':SlR w (lo w) 7 (AcR w (lo w)) (.slice A' b q') b) (HC:∀(i:Nat) (hi:i<a) (hi':i<b) (cs cs':List Value) (W:World) (r:Bool),gZ a[i] b[i]=r->AcR W (lo W) cs a[i]->AcR W (lo W) cs' b[i]->Calls prog 55 #[.agg cs.toArray,.agg cs'.toArray] W (aE r W)):
 Calls prog 54 #[.slice A a q,.slice A' b q',.func (.func 55) #[] #[]] w (aE (eqL gZ a b) w):=by
 have kk3:=trivial;exact zfEqT
def eqf_113 {a b:List Vr} {w:World} (h:SlR w (lo w) 9 (VrR w (lo w)) (.slice A a q) a) (h':SlR w (lo w) 9 (VrR w (lo w)) (.slice A' b q') b) (HC:∀(i:Nat) (hi:i<a) (hi':i<b) (cs cs':List Value) (W:World) (r:Bool),gW a[i] b[i]=r->VrR W (lo W) cs a[i]->VrR W (lo W) cs' b[i]->Calls prog 114 #[.agg cs.toArray,.agg cs'.toArray] W (aE r W)):
 Calls prog 113 #[.slice A a q,.slice A' b q',.func (.func 114) #[] #[]] w (aE (eqL gW a b) w):=by
 have kk4:=trivial;exact zfEqT
def eqf_115 {a b:List Hd} {w:World} (h:SlR w (lo w) 4 (HdR w (lo w)) (.slice A a q) a) (h':SlR w (lo w) 4 (HdR w (lo w)) (.slice A' b q') b) (HC:∀(i:Nat) (hi:i<a) (hi':i<b) (cs cs':List Value) (W:World) (r:Bool),gX a[i] b[i]=r->HdR W (lo W) cs a[i]->HdR W (lo W) cs' b[i]->Calls prog 116 #[.agg cs.toArray,.agg cs'.toArray] W (aE r W)):
 Calls prog 115 #[.slice A a q,.slice A' b q',.func (.func 116) #[] #[]] w (aE (eqL gX a b) w):=by
 have kk5:=trivial;exact zfEqT
def jJ {w1:World} (hb:Below W W w1):∀b o,b<W.heap.size->w1.cell? ⟨b,o,none⟩=W.cell? ⟨b,o,none⟩:=λb o h=>hb.cell (p:=⟨b,o,none⟩) h
variable {r:Bool}
def fB {F:FuncId} {ar:Array Value} {w:World} {b:Bool} (hq:b=r) (h:Calls prog F ar w (aE b w)):Calls prog F ar w (aE r w):=hq▸h
variable {cs cs':List Value}
def nZ {t t':Ty} {w:World} (hq:bO t t'=r) (hr:TyR w (lo w) cs t) (hr':TyR w (lo w) cs' t'):Calls prog 111 #[.agg cs.toArray,.agg cs'.toArray] w (aE r w):=hq▸lN hr hr'
def mh {w:World} {t:Fld} (h:FldR w P cs t):∃(k:Int) (s:ByteArray) (n:Nat) (B:Option Addr) (c:Nat),cs=[.string t.name,.int .i64 k,.string s,.slice B n c]/\TyR w P [.int .i64 k,.string s,.slice B n c] t.type:=by
 obtain⟨d,rfl,-,b⟩:=h;obtain⟨k,s,a,B,c,rfl,-⟩:=ap b;exact⟨k,s,_,B,c,rfl,b⟩
variable {r_:Bool}
def tH {a b:Fld} {w:World} (hq_:cy a b=r_) (hr:FldR w (lo w) cs a) (hr':FldR w (lo w) cs' b):Calls prog 147 #[.agg cs.toArray,.agg cs'.toArray] w (aE r_ w):=by
 subst hq_;obtain⟨k,s,n,B,c,rfl,l⟩:=mh hr;obtain⟨A,x,y,E,D,rfl,h⟩:=mh hr';obtain⟨d,f⟩:=γ (bEq a.name b.name)
 obtain⟨g,e⟩:=γ (bO a.type b.type)
 have r:Hid (cy a b=(d&&(g))):=by show _=_;rw[f,e];rfl
 have u:(ByteArray.toList a.name==ByteArray.toList b.name)=d:=f.symm;obtain⟨p,q⟩:=zd2 e.symm l;have j:=η h;clear f e l h
 rcases ch2 d g with rfl|⟨rfl,rfl⟩|⟨rfl,rfl⟩ <;>
  (go_enter func147,ntmps147;go_wp2_with (go_at_call 111;refine (nZ p (q.to (ae ζ2)) (j.to (ae ζ2))).mono ?_;rintro v t ⟨rfl,i⟩);go_ret;exact⟨by rw[r.o];first|rfl|(simp;done),by first|exact (bel ζ2 i)|exact ζ2⟩)
def eq {a b:List Fld} {w:World} (hq:eqL cy a b=r) (h:FldsR w (lo w) (.slice A a q) a) (h':FldsR w (lo w) (.slice A' b q') b):Calls prog 110 #[.slice A a q,.slice A' b q'] w (aE r w):=by
 have d:=η (fB hq (eqf_146 h h' (λi hi hi' _ _ W r hq h1 h2=>tH hq h1 h2)));clear h h' hq;go_enter func110,ntmps110;go_wp2_with (go_at_call 146;refine d.mono ?_;rintro f e ⟨rfl,c⟩);go_ret;exact⟨rfl,c⟩
def rS {a b:Ctr} {w:World} (hq_:eQ a b=r_) (hr:CtrR w (lo w) cs a) (hr':CtrR w (lo w) cs' b):Calls prog 109 #[.agg cs.toArray,.agg cs'.toArray] w (aE r_ w):=by
 subst hq_;obtain⟨A,q,rfl,-,j⟩:=jV hr;obtain⟨y,v,rfl,-,g⟩:=jV hr';obtain⟨c,e⟩:=γ (bEq a.name b.name)
 obtain⟨f,d⟩:=γ (eqL cy a.fields b.fields)
 have p:Hid (eQ a b=(c&&(f))):=by show _=_;rw[e,d];rfl
 have t:(ByteArray.toList a.name==ByteArray.toList b.name)=c:=e.symm;obtain⟨k,l⟩:=zd2 d.symm j;have i:=η g;clear e d j g
 rcases ch2 c f with rfl|⟨rfl,rfl⟩|⟨rfl,rfl⟩ <;>
  (go_enter func109,ntmps109;go_wp2_with (go_at_call 110;refine (eq k (SlR.to' l (ae ζ2) (λ_ _ x=>x.to (ae ζ2))) (SlR.to' i (ae ζ2) (λ_ _ x=>x.to (ae ζ2)))).mono ?_;rintro u r ⟨rfl,h⟩);go_ret;exact⟨by rw[p.o];first|rfl|(simp;done),by first|exact (bel ζ2 h)|exact ζ2⟩)
def tJ {a b:Dcl} {w:World} (hq_:eP a b=r_) (hr:DclR w (lo w) cs a) (hr':DclR w (lo w) cs' b):Calls prog 49 #[.agg cs.toArray,.agg cs'.toArray] w (aE r_ w):=by
 subst hq_;obtain⟨A,q,rfl,-,h⟩:=gG hr;obtain⟨G,F,rfl,-,k⟩:=gG hr';obtain⟨d,g⟩:=γ (bEq a.name b.name)
 obtain⟨c,f⟩:=γ (a.record==b.record)
 obtain⟨j,e⟩:=γ (eqL eQ a.ctors b.ctors)
 have v:Hid (eP a b=(d&&(c&&(j)))):=by show _=_;rw[g,f,e];rfl
 have D:(ByteArray.toList a.name==ByteArray.toList b.name)=d:=g.symm;have B:(a.record==b.record)=c:=f.symm;obtain⟨t,u⟩:=zd2 e.symm h;have p:=η k;clear g f e h k
 rcases ch3 d c j with rfl|⟨rfl,rfl⟩|⟨rfl,rfl,rfl⟩|⟨rfl,rfl,rfl⟩ <;>
  (go_enter func49,ntmps49;go_wp2_with (go_at_call 108;refine (fB t (eqf_108 (SlR.to' u (ae ζ2) (λ_ _ x=>x.to (ae ζ2))) (SlR.to' p (ae ζ2) (λ_ _ x=>x.to (ae ζ2))) (λi hi hi' _ _ W r hq h h2=>rS hq h h2))).mono ?_;rintro E y ⟨rfl,l⟩);go_ret;exact⟨by rw[v.o];first|rfl|(simp;done),by first|exact (bel ζ2 l)|exact ζ2⟩)
def tI {a b:Eff} {w:World} (hq_:eO a b=r_) (hr:EffR w (lo w) cs a) (hr':EffR w (lo w) cs' b):Calls prog 51 #[.agg cs.toArray,.agg cs'.toArray] w (aE r_ w):=by
 subst hq_;obtain⟨A,q,k,s,u,B,c,rfl,-,F,E⟩:=jU hr;obtain⟨A',X,Y,W,V,B',Z,rfl,-,r,p⟩:=jU hr';obtain⟨e,h⟩:=γ (bEq a.name b.name)
 obtain⟨l,g⟩:=γ (eqL cy a.params b.params)
 obtain⟨j,f⟩:=γ (bO a.answer b.answer)
 have L:Hid (eO a b=(e&&(l&&(j)))):=by show _=_;rw[h,g,f];rfl
 have O:(ByteArray.toList a.name==ByteArray.toList b.name)=e:=h.symm;obtain⟨H,G,J⟩:=zd3 g.symm f.symm F;have y:=η r;have I:=η E;have v:=η p;clear h g f F r E p
 rcases ch3 e l j with rfl|⟨rfl,rfl⟩|⟨rfl,rfl,rfl⟩|⟨rfl,rfl,rfl⟩ <;>
  (go_enter func51,ntmps51;go_wp2_with (first|(go_at_call 110;refine (eq H (SlR.to' J (ae ζ2) (λ_ _ x=>x.to (ae ζ2))) (SlR.to' y (ae ζ2) (λ_ _ x=>x.to (ae ζ2)))).mono ?_;rintro T i ⟨rfl,d⟩;have U:=jJ d;have D:w.heap.size+1<i:=(by have:=d.size;simp at this;omega);have M:w.heap.size<i:=Nat.lt_of_succ_lt D)|(go_at_call 111;refine (nZ G (I.to (ae (bel ζ2 d))) (v.to (ae (bel ζ2 d)))).mono ?_;rintro R N ⟨rfl,t⟩));go_ret;exact⟨by rw[L.o];first|rfl|(simp;done),by first|exact (bel (bel ζ2 d) t)|exact (bel ζ2 d)|exact ζ2⟩)
structure Ch (may:Nat->Obj->Prop) (w w':World):Prop where
 os:w'.os=w.os
 tape:w'.tape=w.tape
 output:w'.output=w.output
 size:w.heap.size<=w'
 block:∀k o,w.heap[k]?=some o->¬may k o->w'.heap[k]?=some o
section
variable {may:Nat->Obj->Prop} {a b c:World}
def Ch.refl (may:Nat->Obj->Prop) (w:World):Ch may w w:=⟨rfl,rfl,rfl,υ _,λ_ _ h _=>h⟩
def Ch.trans (h:Ch may a b) (k:Ch may b c):Ch may a c:=
 ⟨k.os.trans h.os,k.tape.trans h.tape,k.output.trans h.output,ψ h.size k.size,λi o hi hn=>k.block i o (h.block i o hi hn) hn⟩
def Ch.of_below (h:Below a a b):Ch may a b:=
 ⟨h.os,h.tape,h.output,h.size,λk _ hk _=>(h.block k (Array.getElem?_eq_some_iff.1 hk).1).trans hk⟩
def Ch.bel (h:Ch may a b) (k:Below b b c):Ch may a c:=h.trans (Ch.of_below k)
def Ch.mono {may':Nat->Obj->Prop} (h:Ch may a b) (hm:∀k o,may k o->may' k o):Ch may' a b:=⟨h.os,h.tape,h.output,h.size,λk o hk hn=>h.block k o hk λx=>hn (hm k o x)⟩
def Ch.below {B:Nat} (h:Ch may a b) (hm:∀k o,may k o->B<=k) (hB:B<=a):Below B a b:=
 ⟨h.os,h.tape,h.output,h.size,λk hk=>by
  have hlt:k<a.heap.size:=ω
  rw[h.block k _ (Array.getElem?_eq_getElem hlt) (λhmay=>by have:=hm k _ hmay;omega),Array.getElem?_eq_getElem hlt]⟩
def Ch.set {p:Addr} (h:Ch may a b) (v:Value) (hm:∀o,may p.block o):Ch may a (b.setCell p v):=
 h.trans ⟨rfl,rfl,rfl,by simp[World.setCell],λk o hk hn=>(Below.heap_setCell _ _ _ _ (λe=>hn (by rw[e];exact hm o))).trans hk⟩
def Ch.grown {row:Option Nat} (h:Ch may a b) (hg:b.grownBy c row) (hm:∀k o,row=some k->b.heap[k]?=some o->may k o):Ch may a c:=
 h.trans ⟨hg.os,hg.tape,hg.output,hg.size,λk o hk hn=>(hg.block k (Array.getElem?_eq_some_iff.1 hk).1 (λe=>hn (hm k o e.symm hk))).trans hk⟩
end
def uo (may:Nat->Obj->Prop) (w:World) (k:Nat):Prop:=∃o,w.heap[k]?=some o/\¬may k o
variable {may:Nat->Obj->Prop}
def Ch.sub {w:World} (h:Ch may w w'):Sub (uo may w) (uo may w') w w':=λ_ ⟨o,ho,hn⟩=>⟨⟨o,h.block _ o ho hn,hn⟩,(h.block _ o ho hn).trans ho.symm⟩
def Ch.cell {w:World} (h:Ch may w w') {g:Nat} (hg:uo may w g) (i:Nat):w'.cell? ⟨g,i,none⟩=w.cell? ⟨g,i,none⟩:=World.cell?_of_block (w:=w) (a:=⟨g,i,none⟩) (h.sub g hg).2
def wMay (B b k:Nat) (o:Obj):Prop:=B<=k/\(k=b\/∃c fz,o=.cells c 5 fz)
def WrAt (B b:Nat) (fv nv:Value) (out:List UInt8) (w:World):Prop:=
 B<=b/\B<=w/\∃pv v,w.heap[b]?=some (.cells #[pv,v,fv,nv] 84 (0,0))/\(pv=.pointer none\/pv=.pointer (some ⟨b,0,none⟩))/\w.ownsRow B 5 1 v out (Lib.byteCells out)/\v.ownBlock≠some b
variable {B:Nat} {xs:List Value}
def own_keep {w:World} {e size n:Nat} (h:w.ownsRow B e size v n xs) (hk:∀(g:Nat) (c:Array Value),w.heap[g]?=some (Obj.cells c e (0,0))->w'.heap[g]?=some (Obj.cells c e (0,0))):w'.ownsRow B e size v n xs:=by
 refine⟨h.1,?_⟩;rcases h.2 with hn|⟨g,cap,cur,rfl,hbg,hgg,rest⟩
 ·exact .inl hn
 exact .inr ⟨g,cap,cur,rfl,hbg,hk g cur hgg,rest⟩
variable {fv nv:Value} {out:List UInt8}
def WrAt.keep {b:Nat} {w:World} (h:WrAt B b fv nv out w) (hc:Ch may w w') (hb:∀c,¬may b (.cells c 84 (0,0))) (hr:∀k c,¬may k (.cells c 5 (0,0))):WrAt B b fv nv out w':=by
 obtain⟨l,f,i,v,e,j,a,d⟩:=h;exact⟨l,ψ f hc.size,i,v,hc.block _ _ e (hb _),j,own_keep a λg c hg=>hc.block _ _ hg (hr _ _),d⟩
def WrAt.bel {b:Nat} {w:World} (h:WrAt B b fv nv out w) (hc:Below w w w'):WrAt B b fv nv out w':=
 h.keep (Ch.of_below (may:=λ_ _=>False) hc) (λ_ h=>h) (λ_ _ h=>h)
def WrAt.lt {b:Nat} {w:World} (h:WrAt B b fv nv out w):b<w:=by
 obtain⟨_,_,_,_,a,_⟩:=h;exact (Array.getElem?_eq_some_iff.1 a).1
def WrAt.fn {b:Nat} {w:World} (h:WrAt B b fv nv out w):w.cell? ⟨b,2,none⟩=some fv/\w.cell? ⟨b,3,none⟩=some nv:=by
 obtain⟨_,_,_,_,a,_⟩:=h;exact⟨by rw[Lib.cell_of_heap a];rfl,by rw[Lib.cell_of_heap a];rfl⟩
def nQ (b:Nat) (w:World) (h0:w.cell? b=some (b:Vl)) :
 Calls prog 122 #[b] w λe w'=>e=.returned (.tuple #[])/\w=w':=by
 obtain⟨j,a,_⟩:=Option.map_eq_some_iff.1 (show (prog.info? 80).map (·.size)=some 2 by kernel_rfl);go_enter func122,ntmps122;go_wp2;rw[Lib.run_neq_ptr_same w _ underlying77 a];go_wp2;go_end0;exact⟨rfl,rfl⟩
def nE (b:Nat) (w:World) (h0:w.cell? b=some (.pointer none)) (hsh:w.shape? b=some (84,4)) (hfz:w.frozen? b=false) :
 Calls prog 122 #[b] w λe w'=>e=.returned (.tuple #[])/\w'=w.setCell b (b:Vl):=by
 obtain⟨j,c,a⟩:=Option.map_eq_some_iff.1 (show (prog.info? 80).map (·.size)=some 2 by kernel_rfl);go_enter func122,ntmps122;go_wp2;rw[Lib.run_to_unsafe w b underlying77 underlying218 c (by rw[a];decide) hsh (by show 0<4;omega)];simp only[Result.andThen];rw[Oper.upon_value];go_wp2;rw[run_callFunc_extern func151 Δ Δ Δ (e:=Extern.AbiNoEscape.same) Δ];rw[Lib.run_noEscape];simp only[Result.andThen];rw[Oper.upon_value];go_wp2;rw[Lib.run_from_unsafe w b underlying218 underlying77 c hsh Δ];simp only[Result.andThen];rw[Oper.upon_value];go_wp2;go_end0;exact⟨rfl,rfl⟩
def pN {b:Nat} {w:World} (h:WrAt B b fv nv out w):
 Calls prog 122 #[b] w λe w'=>e=.returned (.tuple #[])/\(∃v,w'.heap[b]?=some (.cells #[b,v,fv,nv] 84 (0,0))/\w'.ownsRow B 5 1 v out (Lib.byteCells out)/\v.ownBlock≠some b)/\Ch (wMay B b) w w':=by
 obtain⟨i,j,k,v,a,f,c,d⟩:=h;rcases f with rfl|rfl
 ·refine (nE b w (by rw[Lib.cell_of_heap a];rfl) (by simp[World.shape?,a]) (Lib.frozen_of_heap a 0)).mono ?_;rintro e w' ⟨rfl,rfl⟩;refine⟨rfl,⟨v,by simp[World.setCell,Array.getElem?_modify,a],?_,d⟩,(Ch.refl _ _).set (p:=⟨b,0,none⟩) _ λ_=>⟨i,.inl rfl⟩⟩;refine⟨c.1,?_⟩;rcases c.2 with hn|⟨g,cap,cur,rfl,hbg,hgg,rest⟩
  ·exact .inl hn
  refine .inr ⟨g,cap,cur,rfl,hbg,?_,rest⟩;rw[Below.heap_setCell w _ _ g (λe=>d (by rw[e];rfl))];exact hgg
 refine (nQ b w (by rw[Lib.cell_of_heap a];rfl)).mono ?_;rintro e w' ⟨rfl,rfl⟩;exact⟨rfl,⟨v,a,c,d⟩,Ch.refl _ _⟩
def info5:(prog.info? 5).map (λi=>(i.zero,i.size,i.bytes))=some (some (.int .u8 0),1,1):=by kernel_rfl
def eB {w:World} {base E size n:Nat} (h:w.ownsRow base E size v n xs):∀g,v.ownBlock=some g->base<=g/\∃c fz,w.heap[g]?=some (.cells c E fz):=by
 intro k a;rcases h.2 with ⟨rfl,_⟩|⟨g,cap,cur,rfl,hb,hg,_⟩
 ·simp[Value.ownBlock] at a
 simp[Value.ownBlock] at a;subst a;exact⟨hb,_,_,hg⟩
def WrSaid (B b:Nat) (fv nv:Value) (out:List UInt8) (v:Value) (w:World) (e:Ending) (w':World):Prop:=e=.returned v/\WrAt B b fv nv out w'/\Ch (wMay B b) w w'
def gb {b:Nat} {l:List UInt8} (s:ByteArray) {w:World} (h:WrAt B b fv nv l w) (hlen:l.length+s.size<=140737488355328):
 Calls prog 76 #[b,.string s] w (WrSaid B b fv nv (l++s.data.toList) (.tuple #[.int .i64 s.size,.nilIface]) w):=by
 obtain⟨R,T,I,H,G⟩:=info_parts info5;have D:=η h.2.1;have M:=h.1;obtain⟨W,V⟩:=zd2 (Lib.byteCells_length l) (pN h);clear h;go_enter func76,ntmps76;go_wp2_with (go_at_call 122;refine V.o.mono ?_);rintro e E ⟨rfl,⟨v,j,r,J⟩,A⟩;have u:=η A;clear A;have c0:E.cell? b=some (b:Vl):=by rw[Lib.cell_of_heap j];rfl
 have c1:E.cell? ⟨b,1,none⟩=some v:=by rw[Lib.cell_of_heap j];rfl
 go_wp2_with (at_builtin;refine Lib.wpList_append_own_string _ rfl _ _ 78 9 rfl B 5 R underlying78 underlying9 T I H G _ _ _ rfl r s rfl ?c3 ?c4 ?c5 ?_)
 case c3=>unfold maxLen;omega
 case c4=>omega
 case c5=>have:=u.o.size;have:=D.o;omega
 intro O q a d _;have hlt:b<E.heap.size:=(Array.getElem?_eq_some_iff.1 j).1
 have i:q.heap[b]?=some (.cells #[b,v,fv,nv] 84 (0,0)):=by
  rw[d.block b hlt (λe=>J e.symm)];exact j
 have d0:q.cell? b=some (b:Vl):=by rw[Lib.cell_of_heap i];rfl
 have d1:q.cell? ⟨b,1,none⟩=some v:=by rw[Lib.cell_of_heap i];rfl
 have f1:q.frozen? ⟨b,1,none⟩=false:=Lib.frozen_of_heap i 1
 obtain⟨z,x,cap,rfl⟩:∃z x cap,O=.slice z x cap:=by
  rcases a.2 with ⟨hv,_⟩|⟨g,cap,cur,hv,_⟩
  ·exact⟨_,_,_,hv⟩
  exact⟨_,_,_,hv⟩
 go_wp2;go_ret2
 have t:(Value.slice z x cap).ownBlock≠some b:=by
  intro e;obtain⟨_,c,N,f⟩:=eB a _ e;rw[i] at f;injection f with f;injection f with _ f;exact absurd f π
 refine⟨rfl,⟨M,?_,.pointer (some ⟨b,0,none⟩),.slice z x cap,by simp[World.setCell,Array.getElem?_modify,i],.inr rfl,?_,t⟩,(u.o.grown d ?_).set (p:=⟨b,1,none⟩) _ λ_=>⟨M,.inl rfl⟩⟩
 ·have Z:=D.o;have Y:=u.o.size;have X:=d.size;simp[World.setCell];omega
 ·have U:(l++s.data.toList).length=l.length+s.size:=by simp
  rw[U,Lib.byteCells_append,<-Lib.strCells_eq];refine⟨a.1,?_⟩;rcases a.2 with hn|⟨g,cap,cur,e2,hbg,hgg,rest⟩
  ·exact .inl hn
  refine .inr ⟨g,cap,cur,e2,hbg,?_,rest⟩;rw[Below.heap_setCell q _ _ g (λe=>t (by rw[e2];show some g=some b;rw[e]))];exact hgg
 intro k o f y;obtain⟨F,c,N,L⟩:=eB r k f;rw[L] at y;injection y with y;exact⟨F,.inr ⟨c,N,y.symm⟩⟩
end
end Go.Proofs.YtjohpidklbhmcaaGreatDoor
