/- Core -/
import Derived.Test.YtjohpidklbhmcaaGreatDoorZ32
import Derived.Test.YtjohpidklbhmcaaGreatDoorZ35
import Derived.Test.YtjohpidklbhmcaaGreatDoorZ34
namespace Go.Proofs.YtjohpidklbhmcaaGreatDoor
set_option linter.all false
open Go.Proofs.Tryz
set_option maxRecDepth 100000
set_option maxHeartbeats 2000000
open Go.RowKit Go.Maps Go.WideMaps Go.ChangeMaps
def aW (p:Pg) (M:Nat):Bool:=cH p&&(finP p&&dy p M)
variable {M:Nat}
def bod_pre {w:World} {c:CB} {p:Pg} (hck:ChkR w (lo w) c p) (hru:∃n f,RulesR w (lo w) c n f) (hD:cH p=true) (hdp:p.Deep M) (hM:M<=1000000000):BodPre w c p M:=
 ⟨hck,hru,λ_=>sY (rm hD) (mC hD) M ω,λ_=>vO (sY (rm hD) (mC hD) M ω) (rm hD M) (mC hD) (λe he=>(uh hD e he).1) (main_act hD) (upp_of hD) M (υ _) hM,mC hD,fits_of hD,hdp⟩
variable {A0 A1 A2 A3:Option Addr} {q0 q1 q2 q3:Nat}
def wm {p:Pg} {w:World} (h0:SlR w (lo w) 3 (DclR w (lo w)) (.slice A0 p.types q0) p.types) (h1:SlR w (lo w) 5 (EffR w (lo w)) (.slice A1 p.effects q1) p.effects) (h2:SlR w (lo w) 11 (FnR w (lo w)) (.slice A2 p.funs q2) p.funs) (h3:SlR w (lo w) 7 (AcR w (lo w)) (.slice A3 p.actors q3) p.actors) (hs:p.Small) (hfn:di p.types<=1000000) (hdp:p.Deep M) (hM:M<=1000000000):Calls prog 11 #[.agg #[.slice A0 p.types q0,.slice A1 p.effects q1,.slice A2 p.funs q2,.slice A3 p.actors q3]] w λe w'=>e=.returned (.bool (aW p M))/\Below w w w':=by
 obtain⟨B,g,F,i⟩:=κ w #[.slice A0 p.types q0,.slice A1 p.effects q1,.slice A2 p.funs q2,.slice A3 p.actors q3] 27
 have S:=ae F;obtain⟨N,t,z,d,A,O,Y⟩:=zd7 (nN p A0 A1 A2 A3 q0 q1 q2 q3 B (h0.to' S (λ_ _ x=>x.to S)) (h1.to' S (λ_ _ x=>x.to S)) (h2.to' S (λ_ _ x=>x.to S)) (h3.to' S (λ_ _ x=>x.to S)) hs) F g hs hfn hdp hM;clear h0 h1 h2 h3 hs hfn hdp hM S g F;go_enter func11,ntmps11;go_upto_region 1 with fail;rw[<-z.o];clear z;have W:=i.c 0;have V:=i.c 1;have U:=i.c 2;have T:=i.c 3;go_upto_region 2 with (go_at_call 41;refine N.mono ?_;rintro e2 H ⟨y,c,_,rfl,v,u⟩);obtain⟨E,k,X⟩:=zd3 y v u;clear y v u W V U T
 cases hd:cH p with
 | false =>
  have l:Hid (aW p M=false):=by show _=_;unfold aW;rw[hd];rfl
  have r:=η hd;clear hd;go_wp2_with (go_at_call 42;refine (fE c p _ k d).mono ?_;rw[r.o];rintro J G ⟨rfl,a⟩);go_ret;rw[l.o];exact⟨rfl,bel t (bel E a)⟩
 | true =>
  have r:=η hd
  cases hf:finP p with
  | false =>
   have l:Hid (aW p M=false):=by show _=_;unfold aW;rw[hd,hf];rfl
   have D:=η hf;clear hd hf;go_wp2_with (first|(go_at_call 42;refine (fE c p _ k d).mono ?_;rw[r.o];rintro J G ⟨rfl,a⟩)|(go_at_call 43;refine (oN (k.to (ae a)) d A).mono ?_;rw[D.o];rintro R j ⟨rfl,b⟩));go_ret;rw[l.o];exact⟨rfl,bel t (bel E (bel a b))⟩
  | true =>
   have l:Hid (aW p M=dy p M):=by show _=_;unfold aW;rw[hd,hf];rfl
   have D:=η hf;clear hd hf;have L:Hid (∀j,Below H H j->∃n f,RulesR j (lo j) c n f):=λj hb=>by obtain⟨n,f,h⟩:=X.o;exact⟨n,f,h.to (ae hb)⟩
   go_wp2_with (first|(go_at_call 42;refine (fE c p _ k d).mono ?_;rw[r.o];rintro J G ⟨rfl,a⟩)|(go_at_call 43;refine (oN (k.to (ae a)) d A).mono ?_;rw[D.o];rintro R j ⟨rfl,b⟩)|(go_at_call 44;refine (ul (bod_pre (k.to (ae (bel a b))) (L _ (bel a b)) r O Y)).mono ?_;rintro e5 Z ⟨rfl,I⟩));go_ret;rw[l.o];exact⟨rfl,bel t (bel E (bel a (bel b I)))⟩
variable {W:World} {B:Nat}
def rA {w:World} {b:Nat} (h:Below w w W) (hB:w<=B):Sub (lo w) (uo (wM B b) W) w W:=λk hk=>by
 have hk':k<w.heap.size:=hk
 refine⟨⟨_,(h.block k hk').trans (Array.getElem?_eq_getElem hk'),λhm=>?_⟩,h.block k hk'⟩
 have:=hm.1
 omega
def wM_B {b:Nat}:∀k o,wM B b k o->B<=k:=λ_ _ h=>h.1
def lJ (p:Pg) (M:Nat):List UInt8:=if aW p M then hX p else []
structure PgAt (w:World) (A0 A1 A2 A3:Option Addr) (q0 q1 q2 q3:Nat) (p:Pg):Prop where
 t:SlR w (lo w) 3 (DclR w (lo w)) (.slice A0 p.types q0) p.types
 e:SlR w (lo w) 5 (EffR w (lo w)) (.slice A1 p.effects q1) p.effects
 f:SlR w (lo w) 11 (FnR w (lo w)) (.slice A2 p.funs q2) p.funs
 a:SlR w (lo w) 7 (AcR w (lo w)) (.slice A3 p.actors q3) p.actors
def PgAt.bel {w:World} {p:Pg} (h:PgAt w A0 A1 A2 A3 q0 q1 q2 q3 p) (hb:Below w w W):PgAt W A0 A1 A2 A3 q0 q1 q2 q3 p:=
 have S:=ae hb
 ⟨h.t.to' S (λ_ _ x=>x.to S),h.e.to' S (λ_ _ x=>x.to S),h.f.to' S (λ_ _ x=>x.to S),h.a.to' S (λ_ _ x=>x.to S)⟩
structure Fit (p:Pg) (M:Nat):Prop where
 small:p.Small
 fn:di p.types<=1000000
 deep:p.Deep M
 m:M<=1000000000
def dl {w:World} {p:Pg} (h:PgAt w A0 A1 A2 A3 q0 q1 q2 q3 p) (hf:Fit p M):Calls prog 11 #[.agg #[.slice A0 p.types q0,.slice A1 p.effects q1,.slice A2 p.funs q2,.slice A3 p.actors q3]] w (aE (aW p M) w):=wm h.t h.e h.f h.a hf.small hf.fn hf.deep hf.m
structure PgU (B b:Nat) (W:World) (A0 A1 A2 A3:Option Addr) (q0 q1 q2 q3:Nat) (p:Pg):Prop where
 t:SlR W (uo (wM B b) W) 3 (DclR W (uo (wM B b) W)) (.slice A0 p.types q0) p.types
 e:SlR W (uo (wM B b) W) 5 (EffR W (uo (wM B b) W)) (.slice A1 p.effects q1) p.effects
 f:SlR W (uo (wM B b) W) 11 (FnR W (uo (wM B b) W)) (.slice A2 p.funs q2) p.funs
 a:SlR W (uo (wM B b) W) 7 (AcR W (uo (wM B b) W)) (.slice A3 p.actors q3) p.actors
def PgU.of {w:World} {b:Nat} {p:Pg} (h:PgAt w A0 A1 A2 A3 q0 q1 q2 q3 p) (hb:Below w w W) (hB:w<=B):PgU B b W A0 A1 A2 A3 q0 q1 q2 q3 p:=
 have S:=rA (b:=b) hb hB
 ⟨h.t.to' S (λ_ _ x=>x.to S),h.e.to' S (λ_ _ x=>x.to S),h.f.to' S (λ_ _ x=>x.to S),h.a.to' S (λ_ _ x=>x.to S)⟩
def xw (p:Pg):hX p≠[]:=by
 intro h;have:=congrArg List.length h;unfold hX ah at this;simp only[μ,List.length_nil] at this;have a:=pf (n:=((p.types.length:Nat):Int)) ω;omega
def qo {p:Pg} {w:World} (h:PgAt w A0 A1 A2 A3 q0 q1 q2 q3 p) (hf:Fit p M) (hlen:(hX p).length<=wTop):
 Calls prog 9 #[.agg #[.slice A0 p.types q0,.slice A1 p.effects q1,.slice A2 p.funs q2,.slice A3 p.actors q3]] w λe w'=>e=.returned (.string ⟨(lJ p M).toArray⟩)/\Below w w w':=by
 obtain⟨W1,B,B1,k⟩:=κ w #[.slice A0 p.types q0,.slice A1 p.effects q1,.slice A2 p.funs q2,.slice A3 p.actors q3] 27
 obtain⟨Z,N,aj,HF,ar,a7⟩:=zd6 (h.bel B1) B1 B hf hlen (show ((([]:List UInt8)++(ah (wDcl nm0N) () p.types).1)++(ah (wEff nm0N) () p.effects).1)++(ah (wFn nm0N) () p.funs).1++(ah (wAcP nm0N) () p.actors).1≠[] by have:=xw p;unfold hX at this;simpa only[List.nil_append,χ] using this);clear h hf hlen B B1;go_enter func9,ntmps9;go_upto_region 1 with fail;rw[<-aj.o];clear aj;have b0:=k.c 0;have b1:=k.c 1;have b2:=k.c 2;have b3:=k.c 3
 cases hd:aW p M with
 | false =>
  have HX:Hid (lJ p M=[]):=by show _=_;unfold lJ;rw[hd];rfl
  have HD:=η hd;clear hd;go_wp2_with (go_at_call 11;refine (dl (Z.bel (belR _)) HF).mono ?_;rw[HD.o];rintro e2 b ⟨rfl,j⟩);go_ret;rw[HX.o];exact⟨rfl,bel N j⟩
 | true =>
  have HD:=η hd;clear hd;have HX:Hid (lJ p M=hX p):=by show _=_;unfold lJ;rw[HD.o];rfl
  go_wp2_with (go_at_call 11;refine (dl (Z.bel (belR _)) HF).mono ?_;rw[HD.o];rintro e2 b ⟨rfl,j⟩);obtain⟨ap,a5,ba⟩:=zd3 (aH k j) (Z.bel j) (bel N j);clear j b0 b1 b2 b3 k Z N;refine (kG b).mono ?_;rintro e3 F ⟨rfl,G,ag⟩;obtain⟨g,A,V,O⟩:=κ F #[b] 66
  have ai:=η A
  have az:F.heap.size≠b:=λe=>by have:=G.lt;omega
  have an:Hid (WS (iY b b) [] () g):=⟨G.bel V,trivial⟩
  have U:Hid (CapW b b F g):=⟨nG O az rfl,O.cell 0⟩
  have y:Below b b g:=bel ag V;have E:=η (aH ap y);have Y:Hid (PgU b b g A0 A1 A2 A3 q0 q1 q2 q3 p):=PgU.of a5 y (υ _);have X:Hid (uo (wM b b) g w):=(rA y (υ _) _ ap.lt).1;have HL:Hid ((ah (wDcl nm0N) () p.types).1.length+((ah (wEff nm0N) () p.effects).1.length+((ah (wFn nm0N) () p.funs).1.length+(ah (wAcP nm0N) () p.actors).1.length))<=wTop):=by show _<=_;have:=ar.o;unfold hX at this;simpa only[μ] using this
  have ao:Hid (Below b b g):=y;clear ag G A V O y;go_upto_region 4 with fail;rw[<-ai.o];clear ai;have v:Hid (Ch (wM b b) g g):=Ch.refl _ _;have ay:g.cell? w=some (.slice A0 p.types q0):=(v.cell X 0).trans (E.cell 0);have d:=U.2;go_wp2_with fail;refine (wl_20 (f:=wDcl nm0N) (SlR.to' Y.t v.sub (λ_ _ x=>x.to v.sub)) an (by have:=HL.o;(try simp only[μ,List.length_nil]);omega) (λi hi cs W st out hr hs hl=>w_decl hr hs hl)).mono ?_;rintro e5 W5 ⟨rfl,af,L⟩;have am:Hid (WS (iY b b) ([]++(ah (wDcl nm0N) () p.types).1) () W5):=af;obtain⟨u,T⟩:=zd2 (v.trans L) (U.to L);clear af L ay d an v U;have ax:W5.cell? ⟨w,1,none⟩=some (.slice A1 p.effects q1):=(u.cell X 1).trans (E.cell 1);have d:=T.2;go_wp2_with fail;refine (wl_22 (f:=wEff nm0N) (SlR.to' Y.e u.sub (λ_ _ x=>x.to u.sub)) am (by have:=HL.o;(try simp only[μ,List.length_nil]);omega) (λi hi cs W st out hr hs hl=>w_effect hr hs hl)).mono ?_;rintro e6 W6 ⟨rfl,ae,J⟩;have al:Hid (WS (iY b b) (([]++(ah (wDcl nm0N) () p.types).1)++(ah (wEff nm0N) () p.effects).1) () W6):=ae;obtain⟨r,R⟩:=zd2 (u.trans J) (T.to J);clear ae J ax d am u T;have aw:W6.cell? ⟨w,2,none⟩=some (.slice A2 p.funs q2):=(r.cell X 2).trans (E.cell 2);have d:=R.2;go_wp2_with fail
  refine (wl_24 (f:=wFn nm0N) (SlR.to' Y.f r.sub (λ_ _ x=>x.to r.sub)) al (by have:=HL.o;(try simp only[μ,List.length_nil]);omega) (λi hi cs W st out hr hs hl=>w_fn hr hs hl)).mono ?_;rintro e7 W7 ⟨rfl,ad,I⟩;have ak:Hid (WS (iY b b) ((([]++(ah (wDcl nm0N) () p.types).1)++(ah (wEff nm0N) () p.effects).1)++(ah (wFn nm0N) () p.funs).1) () W7):=ad;obtain⟨l,D⟩:=zd2 (r.trans I) (R.to I);clear ad I aw d al r R;have av:W7.cell? ⟨w,3,none⟩=some (.slice A3 p.actors q3):=(l.cell X 3).trans (E.cell 3);have d:=D.2;go_wp2_with fail;refine (wl_26 (f:=wAcP nm0N) (SlR.to' Y.a l.sub (λ_ _ x=>x.to l.sub)) ak D (by have:=HL.o;(try simp only[μ,List.length_nil]);omega) (λi hi cs W st out hcp hr hs hl=>w_actorP hcp hr hs hl)).mono ?_;rintro e8 W8 ⟨rfl,ac,H⟩;have a6:Hid (WS (iY b b) (((([]++(ah (wDcl nm0N) () p.types).1)++(ah (wEff nm0N) () p.effects).1)++(ah (wFn nm0N) () p.funs).1)++(ah (wAcP nm0N) () p.actors).1) () W8):=ac;obtain⟨a9,bb⟩:=zd2 (l.trans H) (D.to H);clear ac H av d ak l D;have d:=bb.2;go_wp2_with fail;refine (mX a6.wr a7).mono ?_;rintro e9 W9 ⟨rfl,a0⟩;go_wp2_with fail;go_ret;refine⟨?_,?_⟩
  ·rw[HX.o];unfold hX;simp only[List.nil_append,χ];rfl
  have h1:=(a9.below wM_B ao.size).trans a0;exact bel ba (ao.trans h1)
structure Dg where
 funs:List Int
 names:List (List UInt8)
def posI:List Int->Int->Option Nat
 | [],_=>none
 | x::xs,n=>if x=n then some 0 else (posI xs n).map (·+1)
def dgN:Nm Dg where
 num st n:=match posI st.funs n with
  | some i=>((i:Nat),st)
  | none=>((st.funs.length:Nat),⟨st.funs++[n],st.names⟩)
 nam st s:=if s.data.toList∈st.names then st else ⟨st.funs,st.names++[s.data.toList]⟩
def posI_lt (l:List Int):∀n i,posI l n=some i->i<l.length/\l[i]?=some n:=by
 induction l with
 | nil=>intro n i h;simp[posI] at h
 | cons x l ih =>
  intro n i h;rw[posI] at h;split at h
  ·rename_i e;injection h with h;subst h e;exact⟨by simp,rfl⟩
  cases hp:posI l n with
  | none=>rw[hp] at h;simp at h
  | some j =>
   rw[hp] at h;simp at h;subst h;have:=ih n j hp;exact⟨by simp;omega,by simpa using this.2⟩
def pX (l:List Int) (n:Int) (h:posI l n=none):∀m,posI (l++[n]) m=if m=n then some l.length else posI l m:=by
 induction l with
 | nil=>intro m;simp only[List.nil_append,posI,List.length_nil,Option.map_none];by_cases e:m=n<;>simp[e,eq_comm]<;>exact λx=>e x.symm
 | cons x l ih =>
  intro m;rw[posI] at h;split at h
  ·simp at h
  rename_i e;have d:posI l n=none:=by simpa using h
  rw[List.cons_append,posI,ih d,posI];by_cases b:x=m
  ·subst b;simp[e]
  simp only[b,if_false];by_cases a:m=n
  ·subst a;simp
  simp[a]
def posV (l:List Int) (n:Int):Option Value:=(posI l n).map λi=>.int .i64 ((i:Nat):Int)
def iM (l:List (List UInt8)) (s:List UInt8):Option Value:=if s∈l then some (true:Vl) else none
def wy {l:List Int} {n:Int} (h:posI l n=none):upd (posV l) n (some (.int .i64 ((l.length:Nat):Int)))=posV (l++[n]):=by
 funext m;unfold upd posV;rw[pX l n h];by_cases e:m=n<;>simp[e]
def tF (l:List (List UInt8)) (s:List UInt8):upd (iM l) s (some (true:Vl))=iM (l++[s]):=by
 funext m;unfold upd iM;by_cases e:m=s<;>simp[e]
def oI (l:List Int):List Value:=l.map λn=>.int .i64 n
structure DB where
 (gN gF gS gD gT mN mS mT nT:Nat)
structure DBok (B b:Nat) (d:DB):Prop where
 lo:B<=d.gN/\B<=d.gF/\B<=d.gS/\B<=d.gD/\B<=d.gT/\B<=d.mN/\B<=d.mS/\B<=d.mT
 nb:d.gN≠b/\d.gF≠b/\d.gS≠b/\d.gD≠b/\d.gT≠b/\d.mN≠b/\d.mS≠b/\d.mT≠b
 dist:d.gF≠d.gD/\d.mN≠d.mS/\d.mN≠d.mT/\d.mS≠d.mT
def oT (p:Pg) (l:List (List UInt8)):List Nat:=l.map λs=>(idxP p.tyNames s).getD 0
structure DgR (p:Pg) (B b:Nat) (d:DB) (vF vD:Value) (w:World) (st:Dg):Prop where
 ok:DBok B b d
 hN:Hs w d.gN 102 #[.map (some d.mN)]
 hS:Hs w d.gS 103 #[.map (some d.mS)]
 hT:Hs w d.gT 101 #[.map (some d.mT)]
 hF:Hs w d.gF 104 #[vF]
 hD:Hs w d.gD 104 #[vD]
 iN:MapIs prog 3 (Lit.int .i64) w d.mN st.funs (posV st.funs)
 iS:MapIs prog 9 Lit.string w d.mS st.names (iM st.names)
 iT:SMap w d.mT d.nT (idxF p.tyNames p.tyNames)
 rF:w.ownsRow B 3 1 vF st.funs (oI st.funs)
 rD:w.ownsRow B 3 1 vD st.names (ints (oT p st.names))
 bF:vF.ownBlock≠some b
 bD:vD.ownBlock≠some b
 sep:∀g,vF.ownBlock=some g->vD.ownBlock≠some g
 szB:B<=w
def DgRel (p:Pg) (B b:Nat) (d:DB) (w:World) (st:Dg) (k:Nat):Prop:=st.funs.length<=k/\st.names<=k/\∃vF vD,DgR p B b d vF vD w st
variable {α:Type} {P:Program} {K:TypeId}
def MapIs.obj {kl:α->Lit} {w:World} {b n:Nat} {f:α->Option Value} (h:MapIs P K kl w b n f):∃e c,w.heap[b]?=some (.map e c):=by
 obtain⟨D,h,_⟩:=h;obtain⟨e,c,a,_⟩:=h;exact⟨e,c,a⟩
variable {O:Nat->Prop} {w':World}
def mU {may:Nat->Obj->Prop} {w:World} (h:Stp O w w') (hm:∀k o,O k->w.heap[k]?=some o->may k o):Ch may w w':=
 ⟨h.os,h.tape,h.output,h.size,λk o hk hn=>(h.block k (Array.getElem?_eq_some_iff.1 hk).1 (λho=>hn (hm k o ho hk))).trans hk⟩
def qL {w:World} {b n:Nat} {f:Int->Option Value} (h:MapIs prog 3 (Lit.int .i64) w b n f) {i:Int} (hi:i64 i):(Instr.lookup 102 (.map (some b)) (i:Vl) true).run prog w=.ok (.tuple #[(f i).getD (.int .i64 0),.bool (f i).isSome]) w:=
 MapIs.lookOk h (bh underlying3) underlying102 (nS w) (aw underlying3 hi)
def oJ {w:World} {b n:Nat} {f:Int->Option Value} (h:MapIs prog 3 (Lit.int .i64) w b n f) {i:Int} (hi:i64 i):(Instr.lookup 102 (.map (some b)) (i:Vl) false).run prog w=.ok ((f i).getD (.int .i64 0)) w:=
 MapIs.look h (bh underlying3) underlying102 (nS w) (aw underlying3 hi)
def zeroBo (w:World):(zeroValue 4).run prog w=.ok (false:Vl) w:=by kernel_rfl
def xy {w:World} {b n:Nat} {f:List UInt8->Option Value} (h:MapIs prog 9 Lit.string w b n f) {s:ByteArray} (hs:s.size<=maxLen):(Instr.lookup 103 (.map (some b)) (s:Vl) false).run prog w=.ok ((f s.data.toList).getD (false:Vl)) w:=
 MapIs.look h (fL underlying9) underlying103 (zeroBo w) (keyOf_string_mk underlying9 hs)
variable {g t:Nat} {cs:Array Value}
def nI {w:World} {t':Nat} {cs':Array Value} (h:Hs w g t cs) (h':Hs w g t' cs'):t=t':=by
 have:=Option.some.inj (h.symm.trans h');injection this
def eu {w:World} {g':Nat} {kl:α->Lit} {n:Nat} {f:α->Option Value} (h:Hs w g t cs) (h':MapIs P K kl w g' n f):g≠g':=by
 rintro rfl;obtain⟨e,c,a⟩:=h'.obj;exact absurd (Option.some.inj (h.symm.trans a)) (by intro x;cases x)
variable {v:Value} {xs:List Value}
def fK {w:World} {e size n:Nat} (h:w.ownsRow B e size v n xs) (h':Hs w g t cs) (ht:t≠e):v.ownBlock≠some g:=by
 intro x;obtain⟨_,c,b,a⟩:=eB h _ x;have:=Option.some.inj (a.symm.trans h');injection this with _ h2;exact ht h2.symm
def gp {w:World} {e size n:Nat} {kl:α->Lit} {m:Nat} {f:α->Option Value} (h:w.ownsRow B e size v n xs) (h':MapIs P K kl w g m f):v.ownBlock≠some g:=by
 intro x;obtain⟨_,c,d,a⟩:=eB h _ x;obtain⟨i,j,b⟩:=h'.obj;exact absurd (Option.some.inj (a.symm.trans b)) (by intro x;cases x)
section
variable {p:Pg} {B b:Nat} {d:DB} {vF vD:Value} {w w':World} {st:Dg}
def DgR.stp (h:DgR p B b d vF vD w st) (hs:Stp O w w') (hO:¬O d.gN/\¬O d.gS/\¬O d.gT/\¬O d.gF/\¬O d.gD/\¬O d.mN/\¬O d.mS/\¬O d.mT) (hF:∀g,vF.ownBlock=some g->¬O g) (hD:∀g,vD.ownBlock=some g->¬O g):DgR p B b d vF vD w' st:=
 ⟨h.ok,bp h.hN hs hO.1,bp h.hS hs hO.2.1,bp h.hT hs hO.2.2.1,bp h.hF hs hO.2.2.2.1,bp h.hD hs hO.2.2.2.2.1,
  h.iN.same (hs.block _ h.iN.lt hO.2.2.2.2.2.1),h.iS.same (hs.block _ h.iS.lt hO.2.2.2.2.2.2.1),h.iT.same (hs.block _ h.iT.lt hO.2.2.2.2.2.2.2),
  aI h.rF hs hF,aI h.rD hs hD,h.bF,h.bD,h.sep,ψ h.szB hs.size⟩
def DgR.keep (h:DgR p B b d vF vD w st) (hc:Ch (wMay B b) w w'):DgR p B b d vF vD w' st:=by
 have a:∀k o,w.heap[k]?=some o->k≠b->(∀c fz,o≠.cells c 5 fz)->w'.heap[k]?=w.heap[k]?:=λk o a hb ho =>
  (hc.block k o a (λi=>by rcases i.2 with x|⟨c,fz,x⟩;exact hb x;exact ho c fz x)).trans a.symm
 have j:∀g t cs,Hs w g t cs->g≠b->t≠5->w'.heap[g]?=w.heap[g]?:=λg t cs hg hb ht=>a g _ hg hb (λc fz e=>by injection e with _ e;exact ht e)
 have i:∀{α:Type} {P:Program} {K:TypeId} {kl:α->Lit} {g n:Nat} {f:α->Option Value},MapIs P K kl w g n f->g≠b->w'.heap[g]?=w.heap[g]?:=λhg hb=>by
  obtain⟨e,c,F⟩:=hg.obj;exact a _ _ F hb (λc fz e=>by cases e)
 have l:∀v n xs,w.ownsRow B 3 1 v n xs->v.ownBlock≠some b->w'.ownsRow B 3 1 v n xs:=λv n xs hv hb=>by
  refine⟨hv.1,?_⟩;rcases hv.2 with hn|⟨g,cap,cur,rfl,hbg,hgg,rest⟩
  ·exact .inl hn
  exact .inr ⟨g,cap,cur,rfl,hbg,(a g _ hgg (λe=>hb (by rw[<-e];rfl)) (λc fz e=>by injection e with _ e;exact absurd e π)).trans hgg,rest⟩
 obtain⟨E,D,A,z,y,u,r,q⟩:=h.ok.nb
 exact⟨h.ok,(j _ _ _ h.hN E π).trans h.hN,(j _ _ _ h.hS A π).trans h.hS,(j _ _ _ h.hT y π).trans h.hT,(j _ _ _ h.hF D π).trans h.hF,(j _ _ _ h.hD z π).trans h.hD,
  h.iN.same (i h.iN u),h.iS.same (i h.iS r),h.iT.same (i h.iT q),l _ _ _ h.rF h.bF,l _ _ _ h.rD h.bD,h.bF,h.bD,h.sep,ψ h.szB hc.size⟩
def oF (d:DB) (vF:Value) (k:Nat):Prop:=k=d.mN\/k=d.gF\/vF.ownBlock=some k
def oD (d:DB) (vD:Value) (k:Nat):Prop:=k=d.mS\/k=d.gD\/vD.ownBlock=some k
def oF_may (h:DgR p B b d vF vD w st):∀k o,oF d vF k->w.heap[k]?=some o->wM B b k o:=by
 rintro k o (rfl|rfl|f) ho
 ·obtain⟨e,c,a⟩:=h.iN.obj;rw[a] at ho;injection ho with ho;exact⟨h.ok.lo.2.2.2.2.2.1,.inr (by rw[<-ho];rfl)⟩
 ·rw[show w.heap[d.gF]?=_ from h.hF] at ho;injection ho with ho;exact⟨h.ok.lo.2.1,.inr (by rw[<-ho];rfl)⟩
 obtain⟨g,c,i,a⟩:=eB h.rF _ f;rw[a] at ho;injection ho with ho;exact⟨g,.inr (by rw[<-ho];rfl)⟩
def oD_may (h:DgR p B b d vF vD w st):∀k o,oD d vD k->w.heap[k]?=some o->wM B b k o:=by
 rintro k o (rfl|rfl|f) ho
 ·obtain⟨e,c,a⟩:=h.iS.obj;rw[a] at ho;injection ho with ho;exact⟨h.ok.lo.2.2.2.2.2.2.1,.inr (by rw[<-ho];rfl)⟩
 ·rw[show w.heap[d.gD]?=_ from h.hD] at ho;injection ho with ho;exact⟨h.ok.lo.2.2.2.1,.inr (by rw[<-ho];rfl)⟩
 obtain⟨g,c,i,a⟩:=eB h.rD _ f;rw[a] at ho;injection ho with ho;exact⟨g,.inr (by rw[<-ho];rfl)⟩
def wr_stp {fv nv:Value} {out:List UInt8} (h:WrAt B b fv nv out w) (hs:Stp O w w') (hm:∀k o,O k->w.heap[k]?=some o->k≠b/\∀c fz,o≠.cells c 5 fz):WrAt B b fv nv out w':=by
 refine h.keep (mU (may:=λk o=>k≠b/\∀c fz,o≠.cells c 5 fz) hs hm) (λ_ x=>x.1 rfl) (λ_ _ x=>x.2 _ _ rfl)
def oF_wr (h:DgR p B b d vF vD w st):∀k o,oF d vF k->w.heap[k]?=some o->k≠b/\∀c fz,o≠.cells c 5 fz:=by
 obtain⟨u,i,t,r,q,g,l,j⟩:=h.ok.nb;rintro k o (rfl|rfl|f) ho
 ·obtain⟨e,c,a⟩:=h.iN.obj;rw[a] at ho;injection ho with ho;exact⟨g,λc fz e=>by rw[<-ho] at e;cases e⟩
 ·rw[show w.heap[d.gF]?=_ from h.hF] at ho;injection ho with ho;exact⟨i,λc fz e=>by rw[<-ho] at e;injection e with _ e;exact absurd e π⟩
 obtain⟨v,c,fz,a⟩:=eB h.rF _ f;rw[a] at ho;injection ho with ho;exact⟨λe=>h.bF (by rw[f,e]),λc fz e=>by rw[<-ho] at e;injection e with _ e;exact absurd e π⟩
def oD_wr (h:DgR p B b d vF vD w st):∀k o,oD d vD k->w.heap[k]?=some o->k≠b/\∀c fz,o≠.cells c 5 fz:=by
 obtain⟨u,t,r,i,q,l,g,j⟩:=h.ok.nb;rintro k o (rfl|rfl|f) ho
 ·obtain⟨e,c,a⟩:=h.iS.obj;rw[a] at ho;injection ho with ho;exact⟨g,λc fz e=>by rw[<-ho] at e;cases e⟩
 ·rw[show w.heap[d.gD]?=_ from h.hD] at ho;injection ho with ho;exact⟨i,λc fz e=>by rw[<-ho] at e;injection e with _ e;exact absurd e π⟩
 obtain⟨v,c,fz,a⟩:=eB h.rD _ f;rw[a] at ho;injection ho with ho;exact⟨λe=>h.bD (by rw[f,e]),λc fz e=>by rw[<-ho] at e;injection e with _ e;exact absurd e π⟩
end
def kk {w:World} {a b c d:Value} (h:Hs w g t #[a,b,c,d]):w.cell? g=some a/\w.cell? ⟨g,1,none⟩=some b/\w.cell? ⟨g,2,none⟩=some c/\w.cell? ⟨g,3,none⟩=some d/\w.frozen? g=false/\w.frozen? ⟨g,1,none⟩=false/\w.frozen? ⟨g,2,none⟩=false/\w.frozen? ⟨g,3,none⟩=false:=⟨h.cell 0,h.cell 1,h.cell 2,h.cell 3,Lib.frozen_of_heap h 0,Lib.frozen_of_heap h 1,Lib.frozen_of_heap h 2,Lib.frozen_of_heap h 3⟩
def kN (v:Value) (rb db:Nat) (d:Int) (w:World) (e:Ending) (w':World):Prop:=e=.returned v/\RdAt rb db [] true d w'/\Stp (rdO rb db) w w'
section
variable {rb db:Nat} {fl:Bool} {d:Int} {w:World}
def fail_any (h:RdAt rb db [] fl d w):Calls prog 123 #[rb] w (kN (.tuple #[]) rb db d w):=by
 have l:=h.r.c 0;have k:=h.r.c 1;have j:w.frozen? rb=false:=Lib.frozen_of_heap h.r 0;have i:w.frozen? ⟨rb,1,none⟩=false:=Lib.frozen_of_heap h.r 1
 have g:Hid (RdAt rb db [] true d ((w.setCell rb (.string { data:=#[] })).setCell ⟨rb,1,none⟩ (true:Vl))):=
  ⟨(er (er h.r)).trans rfl,cV (cV h.d (λe=>h.ne e.symm)) (λe=>h.ne e.symm)⟩
 have a:=η ((lQ rb w (.string { data:=#[] }) 0).trans (lQ rb (w.setCell rb (.string { data:=#[] })) (true:Vl) 1));clear h;go_enter func123,ntmps123;go_wp2_with fail;go_end0;exact⟨rfl,g,bu a⟩
def ke (h:RdAt rb db [] fl d w):Calls prog 78 #[rb] w (kN (.int .i64 0) rb db d w):=by
 have q:=h.r.c 0;have k:(bstr []).size=0:=rfl;have i:=η (fail_any h);clear h;go_enter func78,ntmps78;go_wp2_with fail;go_loopw [4] (λv wr=>v=.int .i64 0/\wr=w) (λ_ _=>0)
 case atStart=>exact⟨rfl,rfl⟩
 case round =>
  obtain⟨rfl,rfl⟩:=hrel;go_wp2_with (go_at_call 123;refine i.mono ?_;rintro l j ⟨rfl,g,a⟩);go_ret;exact⟨rfl,g,a⟩
end
structure Pg.rd (p:Pg):Prop where
 t:∀x∈p.types,x.rd 0
 e:∀x∈p.effects,x.rd 0
 f:∀x∈p.funs,x.rd 0
 a:∀x∈p.actors,x.rd 0
def Ci (p:Pg) (w:World) (e:Ending) (w':World):Prop:=∃A0 A1 A2 A3 q0 q1 q2 q3,e=.returned (.tuple #[.agg #[.slice A0 p.types q0,.slice A1 p.effects q1,.slice A2 p.funs q2,.slice A3 p.actors q3],true])/\PgAt w' A0 A1 A2 A3 q0 q1 q2 q3 p/\Below w w w'
def subl4 {rb db g2 g3 base:Nat} {w:World} (h:Stp (o4 rb db g2 g3) w w') (h1:rb<base/\db<base) (h3:g2<base) (h4:g3<base):Sub (nw base w) (lo w') w w':=λk hk=>⟨(sub4 h h1.1 h1.2 h3 h4 (υ _) k hk).1.2,(sub4 h h1.1 h1.2 h3 h4 (υ _) k hk).2⟩
def lP {rb db base:Nat} {w:World} (h:Stp (rdO rb db) w w') (h1:rb<base) (h2:db<base):Sub (nw base w) (lo w') w w':=λk hk=>⟨(pA h h1 h2 k hk).1.2,(pA h h1 h2 k hk).2⟩
def Cj {p:Pg} {w:World} (hp:p.rd) (hf:Fit p M) (hr:aW p M=true) (hl:(hX p).length<=549755813888):Calls prog 10 #[.string (bstr (hX p))] w (Ci p w):=by
 obtain⟨l,aa⟩:=γ (hX p)
 have e0:l=(ah (wDcl nm0N) () p.types).1++((ah (wEff nm0N) () p.effects).1++((ah (wFn nm0N) () p.funs).1++((ah (wAcP nm0N) () p.actors).1++[]))):=by rw[aa,List.append_nil];rfl
 rw[<-aa] at hl ⊢;obtain⟨U,D⟩:=γ (((w.alloc (.cells #[(),(),(),()] 27)).alloc (.cells #[.string (bstr l),false] 145)).alloc (.cells #[(w+1:Nat),(0:Int)] 90))
 have B2:Below w w U:=by rw[D];exact ζ3
 have J:RdAt (w+1) (w+2) l false 0 U:=by
  rw[D];refine⟨fu ?_ _,?_⟩
  ·have:=Hs.new (w.alloc (.cells #[(),(),(),()] 27)) 145 #[.string (bstr l),false];simpa using this
  have:=Hs.new ((w.alloc (.cells #[(),(),(),()] 27)).alloc (.cells #[.string (bstr l),false] 145)) 90 #[(w+1:Nat),(0:Int)];simpa using this
 have bi:Hid (Hs U w 27 #[(),(),(),()]):=by rw[D];exact fu (fu (Hs.new _ _ _) _) _
 have be:U.heap.size=w+3:=by rw[D];simp
 obtain⟨ch,cf,bz,a0⟩:=zd4 be J B2 D;rw[e0] at J;have N:Hid (((ah (wDcl nm0N) () p.types).1++((ah (wEff nm0N) () p.effects).1++((ah (wFn nm0N) () p.funs).1++((ah (wAcP nm0N) () p.actors).1++[])))).length<=549755813888):=by show _<=_;rw[<-e0];exact hl
 obtain⟨bj,HP,HF,bw⟩:=zd4 J hp hf hr;clear hp hf hr hl aa e0 J D B2;go_enter func10,ntmps10;go_upto_region 2 with (go_at_call 31;refine (yQ l _).mono ?_;rintro e1 w1 ⟨rfl,rfl⟩);rw[<-a0.o];clear a0;go_wp2_with fail;refine (many_32 (f:=wDcl nm0N) bj (by have:=N.o;simp only[μ] at this ⊢;omega) (λx _=>wDcl_pos x) (λj hj tl W h1 h2=>rdcl_at (HP.t _ (ν hj)) ω h1 h2)).mono ?_;rintro e3 W3 ⟨v3,rfl,Z,ar,I⟩;obtain⟨A,q,rfl⟩:=Z.form;have ce:w.heap.size+3<=W3:=ψ ω I.size;obtain⟨bh,a4,bv,bn⟩:=zd4 (kS bi I ω ω) Z I ar;clear Z I ar;go_wp2_with fail;refine (many_34 (f:=wEff nm0N) bn (by have:=N.o;simp only[μ] at this ⊢;omega) (λx _=>wEff_pos x) (λj hj tl W h1 h2=>reff_at (HP.e _ (ν hj)) ω h1 h2)).mono ?_;rintro e4 W4 ⟨v4,rfl,Y,aq,H⟩;obtain⟨y,i,rfl⟩:=Y.form;have cd:w.heap.size+3<=W4:=ψ ω H.size;obtain⟨bg,a3,bu,bm⟩:=zd4 (kS bh H ω ω) Y H aq;clear Y H aq;go_wp2_with fail;refine (many_36 (f:=wFn nm0N) bm (by have:=N.o;simp only[μ] at this ⊢;omega) (λx _=>wFn_pos x) (λj hj tl W h1 h2=>rfn_at (HP.f _ (ν hj)) ω h1 h2)).mono ?_;rintro e5 W5 ⟨v5,rfl,X,ap,G⟩;obtain⟨u,h,rfl⟩:=X.form;have cc:w.heap.size+3<=W5:=ψ ω G.size;obtain⟨bf,a2,bt,bl⟩:=zd4 (kS bg G ω ω) X G ap;clear X G ap;go_wp2_with fail
 refine (many_38 (f:=wAcP nm0N) bl (by have:=N.o;simp only[μ] at this ⊢;omega) (λx _=>wAcP_pos x) (λj hj tl W h1 h2=>rac_at (HP.a _ (ν hj)) ω h1 h2)).mono ?_;rintro e6 R ⟨v6,rfl,V,ao,F⟩;obtain⟨r,g,rfl⟩:=V.form;have cb:w.heap.size+3<=R:=ψ ω F.size;obtain⟨aw,a1,bs,bk⟩:=zd4 (kS bf F ω ω) V F ao;clear V F ao;obtain⟨O,L,B7,X7⟩:=κ R #[.slice A p.types q,.slice y p.effects i,.slice u p.funs h,.slice r p.actors g] 27
 have av:Hid (Hs O w 27 #[(),(),(),()]):=(B7.block _ aw.lt).trans aw;have ax:=η (bk.bel B7);have T6:=Stp.of_below (own:=rdO (w+1) (w+2)) B7;have T5:=bs.trans T6;have T4:=bt.trans T5;have T3:=bu.trans T4
 have ay:Hid (PgAt O A y u r q i h g p):=by
  have S3:=lP (base:=U) T3 ω ω;have S4:=lP (base:=W3) T4 ω ω;have S5:=lP (base:=W4) T5 ω ω;have S6:=lP (base:=W5) T6 ω ω;exact⟨SlR.to' a4 S3 (λ_ _ x=>x.to S3),SlR.to' a3 S4 (λ_ _ x=>x.to S4),SlR.to' a2 S5 (λ_ _ x=>x.to S5),SlR.to' a1 S6 (λ_ _ x=>x.to S6)⟩
 have BT:Hid (Below w w O):=by
  have T:=bv.trans T3;exact bz.trans ⟨T.os,T.tape,T.output,T.size,λk hk=>T.block k ω (λe=>by rcases e with e|e<;>omega)⟩
 obtain⟨az,br,bq,bp,bo⟩:=zd5 L T3 T4 T5 T6;clear T3 T4 T5 T6 B7 L;go_upto_region 3 with fail;rw[<-az.o];clear az;obtain⟨l0,l1,l2,l3,-⟩:=kk X7;have d0:=ax.d.c 0;have ca:w.heap.size+3<=O:=by have:=X7.lt;omega
 go_upto_region 5 with (first|(go_at_call 40;refine (s7 ax).mono ?_;rintro e8 w8 ⟨rfl,rfl⟩)|(go_at_call 11;refine (dl (ay.bel (belR _)) HF).mono ?_;rw[bw.o];rintro e9 E ⟨rfl,B⟩));have X9:Hid (Hs E R 27 #[.slice A p.types q,.slice y p.effects i,.slice u p.funs h,.slice r p.actors g]):=(B.block _ X7.lt).trans X7;have au:Hid (Hs E w 27 #[(),(),(),()]):=(B.block _ av.lt).trans av;obtain⟨HU,cg,b0⟩:=zd3 (Stp.of_below (own:=rdO (w+1) (w+2)) B) (ay.bel B) (bel BT B);clear B l0 l1 l2 l3 d0;obtain⟨l0,l1,l2,l3,-⟩:=kk X9;have a9:Hid ((E.setRow w #[.slice A p.types q,.slice y p.effects i,.slice u p.funs h,.slice r p.actors g]).heap[w.heap.size]?=some (.cells #[.slice A p.types q,.slice y p.effects i,.slice u p.funs h,.slice r p.actors g] 27 (0,0))):=setRow_heap _ _ _ _ _ _ au
 have bx:Hid (Ci p w (.returned (.tuple #[.agg #[.slice A p.types q,.slice y p.effects i,.slice u p.funs h,.slice r p.actors g],true])) (E.setRow w #[.slice A p.types q,.slice y p.effects i,.slice u p.funs h,.slice r p.actors g])):=by
  have S3:=subl4 (base:=U) ((ka (g2:=w) (g3:=w) (br.trans HU)).trans (lR (w+1) (w+2) w w E #[.slice A p.types q,.slice y p.effects i,.slice u p.funs h,.slice r p.actors g])) ω ω ω;have S4:=subl4 (base:=W3) ((ka (g2:=w) (g3:=w) (bq.trans HU)).trans (lR (w+1) (w+2) w w E #[.slice A p.types q,.slice y p.effects i,.slice u p.funs h,.slice r p.actors g])) ω ω ω;have S5:=subl4 (base:=W4) ((ka (g2:=w) (g3:=w) (bp.trans HU)).trans (lR (w+1) (w+2) w w E #[.slice A p.types q,.slice y p.effects i,.slice u p.funs h,.slice r p.actors g])) ω ω ω;have S6:=subl4 (base:=W5) ((ka (g2:=w) (g3:=w) (bo.trans HU)).trans (lR (w+1) (w+2) w w E #[.slice A p.types q,.slice y p.effects i,.slice u p.funs h,.slice r p.actors g])) ω ω ω;exact⟨_,_,_,_,_,_,_,_,rfl,⟨SlR.to' a4 S3 (λ_ _ x=>x.to S3),SlR.to' a3 S4 (λ_ _ x=>x.to S4),SlR.to' a2 S5 (λ_ _ x=>x.to S5),SlR.to' a1 S6 (λ_ _ x=>x.to S6)⟩,b0.trans ⟨rfl,rfl,rfl,by simp,λk hk=>setRow_other _ _ _ _ ω⟩⟩
 go_wp2_with (refine wpList_store_row rfl 27 _ _ rfl w #[.slice A p.types q,.slice y p.effects i,.slice u p.funs h,.slice r p.actors g] rfl rfl 27 #[(),(),(),()] au Δ rfl Ρ ?_);obtain⟨r0,r1,r2,r3,-⟩:=kk (show Hs _ _ _ _ from a9);exact bodyPost_ret (v:=.tuple #[.agg #[.slice A p.types q,.slice y p.effects i,.slice u p.funs h,.slice r p.actors g],true]) (by simp[results,results10,go_sem,r0,r1,r2,r3]) rfl bx
def sumN {α:Type} (f:α->Nat):List α->Nat
 | []=>0
 | x::xs=>f x+sumN f xs
def jA {f:α->Nat} {l:List α} {j:Nat} (h:j<l):sumN f (l.drop j)=f l[j]+sumN f (l.drop (j+1)):=by rw[bk h,sumN]
def ii {f:α->Nat} {l:List α} {j:Nat} (h:¬j<l):sumN f (l.drop j)=0:=by rw[ε ω,sumN]
def jE (s:Int):Nat:=((max 0 (min s 40000))/100).toNat
def qY {s:Int} {z:Nat} (h:z=jE s):IntKind.i64.wrap ((max 0 (min s 40000)).tdiv 100)=(z:Int):=by
 subst h;rw[Go.IntWalk.i64_quo _ _ ⟨ω,ω,ω⟩];unfold jE;omega
def qX (s:Int):jE s<=400:=by unfold jE;omega
def jo (c:Ctr):Nat:=1+c.name.size+bY c.fields
def hZ (c:Dcl):Nat:=1+c.name.size+sumN jo c.ctors
def jZ (c:Eff):Nat:=1+c.name.size+bY c.params+szTy 20 c.answer
def szFn (c:Fn):Nat:=1+c.name.size+bY c.params+szTy 20 c.result+szEx 50 c.body+jE c.slots
def szVr (c:Vr):Nat:=1+c.name.size+szTy 20 c.type+szEx 50 c.init
def szHd (c:Hd):Nat:=1+c.msg.size+bY c.params+ek 50 c.body+jE c.slots
def szAc (c:Ac):Nat:=1+c.name.size+bY c.params+jE c.slots+sumN szVr c.vars+sumN szHd c.on
def szPg (p:Pg):Nat:=sumN hZ p.types+(sumN jZ p.effects+(sumN szFn p.funs+sumN szAc p.actors))
def vQ {l:List St} {d:Int} {w:World} (hl:StsR w (lo w) v l) (h1:-1<=d) (h2:d<=100) (h3:ek d l<=4000000000000):Calls prog 61 #[v,d] w (iC (ek d l) w):=tB _ v l d w (υ _) hl h1 h2 h3
def sL {p:Pg} {w:World} (h:PgAt w A0 A1 A2 A3 q0 q1 q2 q3 p) (hsz:szPg p<=4000000000000):
 Calls prog 18 #[.agg #[.slice A0 p.types q0,.slice A1 p.effects q1,.slice A2 p.funs q2,.slice A3 p.actors q3]] w (iC (szPg p) w):=by
 have l0:=h.t.le9;have l1:=h.e.le9;have l2:=h.f.le9;have l3:=h.a.le9;obtain⟨W1,a7,B1,BX⟩:=κ w #[.slice A0 p.types q0,.slice A1 p.effects q1,.slice A2 p.funs q2,.slice A3 p.actors q3] 27
 obtain⟨PB,eq,cz⟩:=zd3 (h.bel B1) B1 a7;obtain⟨k,a0⟩:=γ (szPg p)
 rw[<-a0] at hsz ⊢;have ak:=η hsz;obtain⟨T1,b7⟩:=γ (sumN jZ p.effects+(sumN szFn p.funs+sumN szAc p.actors))
 have HV:Hid (k=0+(sumN hZ (p.types.drop 0)+T1)):=by show _=_;rw[a0,b7];unfold szPg;simp
 have ee:=η b7;clear h hsz a0 b7 a7 B1;go_enter func18,ntmps18;go_upto_region 1 with fail;rw[<-cz.o];clear cz;go_wp2_with fail;go_loopw [4,3] (λi v wr=>∃(j b:Nat),j<=p.types/\i=.int .i64 j/\v=.int .i64 b/\Hid (k=b+(sumN hZ (p.types.drop j)+T1))/\Hid (Below W1 W1 wr)) (λi _ _=>p.types.length-(intOf i).toNat)
 case atStart=>exact⟨0,0,ω,rfl,rfl,HV,belR _⟩
 case round =>
  obtain⟨j,b,hj,rfl,rfl,HQ,F⟩:=hrel;have c0:wr.cell? w=some (.slice A0 p.types q0):=(aH BX F).cell 0;by_cases hlt:j<p.types
  ·have u1:=zT j p.types;have i1:(0:Int)<=(j:Int):=ω;have i2:(j:Int)<(p.types.length:Int):=ω;obtain⟨g,aq,B0,d0,hA,-,p0,p1,p2,-,ag,b1⟩:=fF (PB.bel F).t hlt;have lc:=b1.le9;have ej:=η b1;have H:k=b+(1+p.types[j].name.size+sumN jo (p.types[j].ctors.drop 0)+(sumN hZ (p.types.drop (j+1))+T1)):=by rw[HQ.o,jA hlt];unfold hZ;simp;omega
   have al:=η H;have b2:b+1+p.types[j].name.size<=4000000000000:=by have:=ak.o;omega
   have eg:=η p2;subst hA;clear b1 H ag;go_wp2_with fail;obtain⟨W2,rfl⟩:=γ wr
   go_loopw [5,3] (λi v wr=>∃(q d:Nat),q<=p.types[j].ctors.length/\i=.int .i64 q/\v=.int .i64 d/\Hid (k=d+(sumN jo (p.types[j].ctors.drop q)+(sumN hZ (p.types.drop (j+1))+T1)))/\Hid (Below W2 W2 wr)) (λi _ _=>p.types[j].ctors.length-(intOf i).toNat)
   case atStart=>exact⟨0,b+1+p.types[j].name.size,ω,rfl,by first|rfl|(simp;done),(by show _=_;rw[al.o];omega),belR _⟩
   case round =>
    obtain⟨q,d,hq,rfl,rfl,aa,A⟩:=hrel;have k0:wr.cell? w=some (.slice (some ⟨g,aq,none⟩) p.types q0):=(aH BX (bel F A)).cell 0;have k1:wr.cell? ⟨g,aq+j*3+2,none⟩=some (.slice B0 p.types[j].ctors.length d0):=belC A eg;by_cases I:q<p.types[j].ctors.length
    ·have u2:=zT q (p.types[j].ctors.length);have i3:(0:Int)<=(q:Int):=ω;have i4:(q:Int)<(p.types[j].ctors.length:Int):=ω;obtain⟨g2,bu,B2,d2,au,-,r0,r1,-,af,E⟩:=ew (SlR.to' ej (ae A) (λ_ _ x=>x.to (ae A))) I;have an:=η E;obtain⟨l,y⟩:=γ (bY p.types[j].ctors[q].fields)
     have Y:k=d+(1+p.types[j].ctors[q].name.size+l+(sumN jo (p.types[j].ctors.drop (q+1))+(sumN hZ (p.types.drop (j+1))+T1))):=by rw[aa.o,jA I,y];unfold jo;omega
     obtain⟨ax,aj⟩:=zd2 Y y;have fa:d+1+p.types[j].ctors[q].name.size+l<=4000000000000:=by have:=ak.o;omega
     have dv:Hid (bY p.types[j].ctors[q].fields<=4000000000000):=by show _<=_;rw[<-y];omega
     have x0:=belW k0;have x1:=belW k1;have x2:=belW r0;have x3:=belW r1;have v1:IntKind.i64.wrap ((d:Int)+1)=(d:Int)+1:=bf ω ω;have v2:IntKind.i64.wrap ((d:Int)+1+(p.types[j].ctors[q].name.size:Int))=(d:Int)+1+(p.types[j].ctors[q].name.size:Int):=bf ω ω;have v3:IntKind.i64.wrap ((d:Int)+1+(p.types[j].ctors[q].name.size:Int)+(l:Int))=(d:Int)+1+(p.types[j].ctors[q].name.size:Int)+(l:Int):=bf ω ω;subst au;clear E af Y y;go_upto_region 9 with fail;refine tkB (λX=>Below wr wr X) (ad _) (λhHeld=>?_);refine θ ?_;refine tkE 24 (λK hK=>?_);go_simp;refine (iQ (FldsR.to an (ae (ad _))) dv).mono ?_;rw[<-aj.o];rintro e2 w2 ⟨rfl,D⟩;refine tkR hK ?_ (λhHeld=>?_)
     ·exact bel (ad _) D
     clear hK K;refine θ ?_;refine tkD ?_;go_wp2_with fail;refine⟨⟨q+1,d+1+p.types[j].ctors[q].name.size+l,ω,by go_num,by first|rfl|(simp;done)|go_num,(by show _=_;rw[ax.o];omega),bel A (bel (ad _) D)⟩,by simp[intOf];omega⟩
    have u2:=zF q (p.types[j].ctors.length);have U:=η (ii (f:=jo) I);go_wp2_with fail;exact⟨⟨j+1,d,ω,by go_num,rfl,(by show _=_;rw[aa.o,U.o];omega),bel F A⟩,by simp[intOf];omega⟩
  have u1:=zF j p.types;have U:=η (ii (f:=hZ) hlt);have d9:Hid (k=b+T1):=by show _=_;rw[HQ.o,U.o];omega
  obtain⟨T2,b6⟩:=γ (sumN szFn p.funs+sumN szAc p.actors)
  have d7:Hid (k=b+(sumN jZ (p.effects.drop 0)+T2)):=by show _=_;rw[d9.o,ee.o,b6];simp
  obtain⟨ed,eo⟩:=zd2 b6 F.o;obtain⟨W3,rfl⟩:=γ wr
  obtain⟨df,rfl⟩:=γ b
  clear b6;go_wp2_with fail;go_loopw [6,3] (λi v wr=>∃(j b:Nat),j<=p.effects/\i=.int .i64 j/\v=.int .i64 b/\Hid (k=b+(sumN jZ (p.effects.drop j)+T2))/\Hid (Below W1 W1 wr)) (λi _ _=>p.effects.length-(intOf i).toNat)
  case atStart=>exact⟨0,df,ω,rfl,rfl,d7,eo⟩
  case round =>
   obtain⟨j,b,hj,rfl,rfl,HQ,F⟩:=hrel;have c0:wr.cell? ⟨w,1,none⟩=some (.slice A1 p.effects q1):=(aH BX F).cell 1;by_cases hlt:j<p.effects
   ·have u1:=zT j p.effects;have i1:(0:Int)<=(j:Int):=ω;have i2:(j:Int)<(p.effects.length:Int):=ω;obtain⟨g,aq,B0,d0,k2,s2,a2,B2,d2,hA,-,p0,p1,p2,p3,p4,-,ag,E,W⟩:=jC (PB.bel F).e hlt;obtain⟨an,aw⟩:=zd2 E W;obtain⟨l,y⟩:=γ (bY p.effects[j].params)
    obtain⟨J,N⟩:=γ (szTy 20 p.effects[j].answer)
    have H:k=b+(1+p.effects[j].name.size+l+J+(sumN jZ (p.effects.drop (j+1))+T2)):=by rw[HQ.o,jA hlt,y,N];unfold jZ;omega
    obtain⟨al,aj,ce⟩:=zd3 H y N;have b2:b+1+p.effects[j].name.size+l+J<=4000000000000:=by have:=ak.o;omega
    have ai:Hid (bY p.effects[j].params<=4000000000000):=by show _<=_;rw[<-y];omega
    have a5:Hid (szTy 20 p.effects[j].answer<=4000000000000):=by show _<=_;rw[<-N];omega
    have x0:=belW c0;have x1:=belW p0;have x2:=belW p1;have x3:=belW p2;have x4:=belW p3;have x5:=belW p4;have v1:IntKind.i64.wrap ((b:Int)+1)=(b:Int)+1:=bf ω ω;have v2:IntKind.i64.wrap ((b:Int)+1+(p.effects[j].name.size:Int))=(b:Int)+1+(p.effects[j].name.size:Int):=bf ω ω;have v3:IntKind.i64.wrap ((b:Int)+1+(p.effects[j].name.size:Int)+(l:Int))=(b:Int)+1+(p.effects[j].name.size:Int)+(l:Int):=bf ω ω;have v4:IntKind.i64.wrap ((b:Int)+1+(p.effects[j].name.size:Int)+(l:Int)+(J:Int))=(b:Int)+1+(p.effects[j].name.size:Int)+(l:Int)+(J:Int):=bf ω ω;subst hA;clear E W ag H y N;go_upto_region 13 with fail;refine tkB (λX=>Below wr wr X) (ad _) (λhHeld=>?_);refine θ ?_;refine tkE 16 (λK hK=>?_);go_simp;refine (iQ (FldsR.to an (ae (ad _))) ai).mono ?_;rw[<-aj.o];rintro e2 w2 ⟨rfl,D⟩;refine tkR hK ?_ (λhHeld=>?_)
    ·exact bel (ad _) D
    clear hK K;refine tkQ 17 ?_;refine tkE 24 (λK hK=>?_);go_simp;refine (od (aw.to (ae (bel (ad _) D))) ω ω a5).mono ?_;rw[<-ce.o];rintro e3 w3 ⟨rfl,B⟩;refine tkR hK ?_ (λhHeld=>?_)
    ·exact bel (bel (ad _) D) B
    clear hK K;refine θ ?_;refine tkD ?_;go_wp2_with fail;refine⟨⟨j+1,b+1+p.effects[j].name.size+l+J,ω,by go_num,by first|rfl|(simp;done)|go_num,(by show _=_;rw[al.o];omega),bel F (bel (bel (ad _) D) B)⟩,by simp[intOf];omega⟩
   have u1:=zF j p.effects;have U:=η (ii (f:=jZ) hlt);have d6:Hid (k=b+T2):=by show _=_;rw[HQ.o,U.o];omega
   obtain⟨T3,b5⟩:=γ (sumN szAc p.actors)
   have d5:Hid (k=b+(sumN szFn (p.funs.drop 0)+T3)):=by show _=_;rw[d6.o,ed.o,b5];simp
   obtain⟨ec,en⟩:=zd2 b5 F.o;obtain⟨W4,rfl⟩:=γ wr
   obtain⟨de,rfl⟩:=γ b
   clear b5;go_wp2_with fail;go_loopw [7,3] (λi v wr=>∃(j b:Nat),j<=p.funs/\i=.int .i64 j/\v=.int .i64 b/\Hid (k=b+(sumN szFn (p.funs.drop j)+T3))/\Hid (Below W1 W1 wr)) (λi _ _=>p.funs.length-(intOf i).toNat)
   case atStart=>exact⟨0,de,ω,rfl,rfl,d5,en⟩
   case round =>
    obtain⟨j,b,hj,rfl,rfl,HQ,F⟩:=hrel;have c0:wr.cell? ⟨w,2,none⟩=some (.slice A2 p.funs q2):=(aH BX F).cell 2;by_cases hlt:j<p.funs
    ·have u1:=zT j p.funs;have i1:(0:Int)<=(j:Int):=ω;have i2:(j:Int)<(p.funs.length:Int):=ω;obtain⟨g,aq,B0,d0,k2,s2,a2,B2,d2,o9,y9,m9,r9,e9,D9,f9,hA,-,p0,p1,p2,p3,p4,p5,p6,p7,p8,p9,dm,-,b8,ag,E,W,ar⟩:=jd (PB.bel F).f hlt;obtain⟨r,O,V,u⟩:=κ wr #[.string p.funs[j].name,.slice B0 p.funs[j].params.length d0,k2,s2,.slice B2 a2 d2,.int .i64 p.funs[j].slots,o9,y9,m9,r9,.slice D9 e9 f9] 45
     obtain⟨av,an,aw,cf,cg⟩:=zd5 O (FldsR.to E (ae V)) (W.to (ae V)) (ar.to (ae V)) (bel F V);obtain⟨l,y⟩:=γ (bY p.funs[j].params)
     obtain⟨J,N⟩:=γ (szTy 20 p.funs[j].result)
     obtain⟨z3,a6⟩:=γ (szEx 50 p.funs[j].body)
     obtain⟨z4,ac⟩:=γ (jE p.funs[j].slots)
     have H:k=b+(1+p.funs[j].name.size+l+J+z3+z4+(sumN szFn (p.funs.drop (j+1))+T3)):=by rw[HQ.o,jA hlt,y,N,a6,ac];unfold szFn;omega
     obtain⟨al,aj,ce,dx,cd⟩:=zd5 H y N a6 ac;have b2:b+1+p.funs[j].name.size+l+J+z3+z4<=4000000000000:=by have:=ak.o;omega
     have ai:Hid (bY p.funs[j].params<=4000000000000):=by show _<=_;rw[<-y];omega
     have a5:Hid (szTy 20 p.funs[j].result<=4000000000000):=by show _<=_;rw[<-N];omega
     have dh:Hid (szEx 50 p.funs[j].body<=4000000000000):=by show _<=_;rw[<-a6];omega
     subst hA;clear E W ar ag H y N a6 ac O V b8;go_upto_region 18 with fail;rw[<-av.o];clear av p0 p1 p2 p3 p4 p5 p6 p7 p8 p9 dm;have x0:=belW (u.c 0);have x1:=belW (u.c 1);have x2:=belW (u.c 2);have x3:=belW (u.c 3);have x4:=belW (u.c 4);have x5:=belW (u.c 5);have x6:=belW (u.c 6);have x7:=belW (u.c 7);have x8:=belW (u.c 8);have x9:=belW (u.c 9);have fc:=belW (u.c 10);have v1:IntKind.i64.wrap ((b:Int)+1)=(b:Int)+1:=bf ω ω;have v2:IntKind.i64.wrap ((b:Int)+1+(p.funs[j].name.size:Int))=(b:Int)+1+(p.funs[j].name.size:Int):=bf ω ω;have v3:IntKind.i64.wrap ((b:Int)+1+(p.funs[j].name.size:Int)+(l:Int))=(b:Int)+1+(p.funs[j].name.size:Int)+(l:Int):=bf ω ω
     have v4:IntKind.i64.wrap ((b:Int)+1+(p.funs[j].name.size:Int)+(l:Int)+(J:Int))=(b:Int)+1+(p.funs[j].name.size:Int)+(l:Int)+(J:Int):=bf ω ω;have v5:IntKind.i64.wrap ((b:Int)+1+(p.funs[j].name.size:Int)+(l:Int)+(J:Int)+(z3:Int))=(b:Int)+1+(p.funs[j].name.size:Int)+(l:Int)+(J:Int)+(z3:Int):=bf ω ω;have v6:IntKind.i64.wrap ((b:Int)+1+(p.funs[j].name.size:Int)+(l:Int)+(J:Int)+(z3:Int)+(z4:Int))=(b:Int)+1+(p.funs[j].name.size:Int)+(l:Int)+(J:Int)+(z3:Int)+(z4:Int):=bf ω ω;have vs:=qY cd;refine tkB (λX=>Below r r X) (ad _) (λhHeld=>?_);refine θ ?_;refine tkE 8 (λK hK=>?_);go_simp;refine (iQ (FldsR.to an (ae (ad _))) ai).mono ?_;rw[<-aj.o];rintro e2 w2 ⟨rfl,D⟩;refine tkR hK ?_ (λhHeld=>?_)
     ·exact bel (ad _) D
     clear hK K;refine tkQ 9 ?_;refine tkE 12 (λK hK=>?_);go_simp;refine (od (aw.to (ae (bel (ad _) D))) ω ω a5).mono ?_;rw[<-ce.o];rintro e3 w3 ⟨rfl,B⟩;refine tkR hK ?_ (λhHeld=>?_)
     ·exact bel (bel (ad _) D) B
     clear hK K;refine tkQ 13 ?_;refine tkE 16 (λK hK=>?_);go_simp;refine (pb (cf.to (ae (bel (bel (ad _) D) B))) ω ω dh).mono ?_;rw[<-dx.o];rintro e4 w4 ⟨rfl,Z⟩;refine tkR hK ?_ (λhHeld=>?_)
     ·exact bel (bel (bel (ad _) D) B) Z
     clear hK K;refine θ ?_;refine tkD ?_;go_wp2_with fail;refine⟨⟨j+1,b+1+p.funs[j].name.size+l+J+z3+z4,ω,by go_num,by first|rfl|(simp;done)|go_num,(by show _=_;rw[al.o];omega),bel cg (bel (bel (bel (ad _) D) B) Z)⟩,by simp[intOf];omega⟩
    have u1:=zF j p.funs;have U:=η (ii (f:=szFn) hlt);have d4:Hid (k=b+T3):=by show _=_;rw[HQ.o,U.o];omega
    have d3:Hid (k=b+sumN szAc (p.actors.drop 0)):=by show _=_;rw[d4.o,ec.o];simp
    have em:=η F.o;obtain⟨W6,rfl⟩:=γ wr
    obtain⟨dd,rfl⟩:=γ b
    go_wp2_with fail;go_loopw [9,3] (λi v wr=>∃(j b:Nat),j<=p.actors/\i=.int .i64 j/\v=.int .i64 b/\Hid (k=b+sumN szAc (p.actors.drop j))/\Hid (Below W1 W1 wr)) (λi _ _=>p.actors.length-(intOf i).toNat)
    case atStart=>exact⟨0,dd,ω,rfl,rfl,d3,em⟩
    case round =>
     obtain⟨j,b,hj,rfl,rfl,HQ,F⟩:=hrel;obtain⟨R,rfl⟩:=γ wr
     have c0:R.cell? ⟨w,3,none⟩=some (.slice A3 p.actors q3):=(aH BX F).cell 3;by_cases hlt:j<p.actors
     ·have u1:=zT j p.actors;have i1:(0:Int)<=(j:Int):=ω;have i2:(j:Int)<(p.actors.length:Int):=ω;obtain⟨g,aq,A9,q9,B0,d0,D0,e0,hA,-,p0,p1,p2,p3,p4,p5,p6,-,b8,ag,E,bz,b0⟩:=fR (PB.bel F).a hlt;have lv:=bz.le9;have lh:=b0.le9;obtain⟨r,O,V,u⟩:=κ R #[.string p.actors[j].name,.slice A9 p.actors[j].params.length q9,.int .i64 p.actors[j].slots,.slice B0 p.actors[j].vars.length d0,.slice D0 p.actors[j].on.length e0,.int .i64 p.actors[j].policy,.int .i64 p.actors[j].most] 54
      obtain⟨av,an,dy,eh,cg⟩:=zd5 O (FldsR.to E (ae V)) (SlR.to' bz (ae V) (λ_ _ x=>x.to (ae V))) (SlR.to' b0 (ae V) (λ_ _ x=>x.to (ae V))) (bel F V);obtain⟨l,y⟩:=γ (bY p.actors[j].params)
      obtain⟨z4,ac⟩:=γ (jE p.actors[j].slots)
      obtain⟨T5,b3⟩:=γ (sumN szAc (p.actors.drop (j+1)))
      obtain⟨T4,b4⟩:=γ (sumN szHd p.actors[j].on+T5)
      have H:k=b+1+p.actors[j].name.size+l+z4+(sumN szVr (p.actors[j].vars.drop 0)+T4):=by rw[HQ.o,jA hlt,y,ac,b4,b3];unfold szAc;simp only[List.drop_zero];omega
      obtain⟨al,aj,cd,eb,ea⟩:=zd5 H y ac b4 b3;have b2:b+1+p.actors[j].name.size+l+z4<=4000000000000:=by have:=ak.o;omega
      have ai:Hid (bY p.actors[j].params<=4000000000000):=by show _<=_;rw[<-y];omega
      subst hA;clear E bz b0 ag H y ac b4 b3 O V b8;go_upto_region 23 with fail;rw[<-av.o];clear av p0 p1 p2 p3 p4 p5 p6;have x0:=belW (u.c 0);have x1:=belW (u.c 1);have x2:=belW (u.c 2);have x3:=belW (u.c 3);have x4:=belW (u.c 4);have x5:=belW (u.c 5);have x6:=belW (u.c 6);have v1:IntKind.i64.wrap ((b:Int)+1)=(b:Int)+1:=bf ω ω;have v2:IntKind.i64.wrap ((b:Int)+1+(p.actors[j].name.size:Int))=(b:Int)+1+(p.actors[j].name.size:Int):=bf ω ω;have v3:IntKind.i64.wrap ((b:Int)+1+(p.actors[j].name.size:Int)+(l:Int))=(b:Int)+1+(p.actors[j].name.size:Int)+(l:Int):=bf ω ω;have v4:IntKind.i64.wrap ((b:Int)+1+(p.actors[j].name.size:Int)+(l:Int)+(z4:Int))=(b:Int)+1+(p.actors[j].name.size:Int)+(l:Int)+(z4:Int):=bf ω ω;have vs:=qY cd;refine tkB (λX=>Below r r X) (ad _) (λhHeld=>?_);refine θ ?_
      refine θ ?_;refine tkE 8 (λK hK=>?_);go_simp;refine (iQ (FldsR.to an (ae (ad _))) ai).mono ?_;rw[<-aj.o];rintro e2 w2 ⟨rfl,D⟩;refine tkR hK ?_ (λhHeld=>?_)
      ·exact bel (ad _) D
      clear hK K;refine θ ?_;refine tkD ?_;have ep:Hid (Below r r w2):=bel (ad _) D;clear x0 x1 x2 x3 x4 x5 x6 v1 v2 v3 v4 vs;go_wp2_with fail;go_loopw [11,3] (λi v wr=>∃(q d:Nat),q<=p.actors[j].vars.length/\i=.int .i64 q/\v=.int .i64 d/\Hid (k=d+(sumN szVr (p.actors[j].vars.drop q)+T4))/\Hid (Below r r wr)) (λi _ _=>p.actors[j].vars.length-(intOf i).toNat)
      case atStart=>exact⟨0,b+1+p.actors[j].name.size+l+z4,ω,rfl,by first|rfl|(simp;done),al,ep⟩
      case round =>
       obtain⟨q,d,hq,rfl,rfl,aa,A⟩:=hrel;have k0:wr.cell? ⟨R,3,none⟩=some (.slice B0 p.actors[j].vars.length d0):=(aH u A).cell 3;by_cases I:q<p.actors[j].vars.length
       ·have u2:=zT q (p.actors[j].vars.length);have i3:(0:Int)<=(q:Int):=ω;have i4:(q:Int)<(p.actors[j].vars.length:Int):=ω;obtain⟨g2,bu,k2,s2,a2,B2,d2,o9,y9,m9,r9,e9,D9,f9,au,-,r0,r1,r2,r3,r4,r5,r6,r7,r8,-,af,W,ar⟩:=ku (SlR.to' dy (ae A) (λ_ _ x=>x.to (ae A))) I;obtain⟨aw,cf⟩:=zd2 W ar;obtain⟨G,M⟩:=γ (szTy 20 p.actors[j].vars[q].type)
        obtain⟨T,L⟩:=γ (szEx 50 p.actors[j].vars[q].init)
        have Y:k=d+(1+p.actors[j].vars[q].name.size+G+T+(sumN szVr (p.actors[j].vars.drop (q+1))+T4)):=by rw[aa.o,jA I,M,L];unfold szVr;omega
        obtain⟨ax,cc,cb⟩:=zd3 Y M L;have dr:d+1+p.actors[j].vars[q].name.size+G+T<=4000000000000:=by have:=ak.o;omega
        have a4:Hid (szTy 20 p.actors[j].vars[q].type<=4000000000000):=by show _<=_;rw[<-M];omega
        have a3:Hid (szEx 50 p.actors[j].vars[q].init<=4000000000000):=by show _<=_;rw[<-L];omega
        have x0:=belW k0;have x1:=belW r0;have x2:=belW r1;have x3:=belW r2;have x4:=belW r3;have x5:=belW r4;have x6:=belW r5;have x7:=belW r6;have x8:=belW r7;have x9:=belW r8;have v1:IntKind.i64.wrap ((d:Int)+1)=(d:Int)+1:=bf ω ω;have v2:IntKind.i64.wrap ((d:Int)+1+(p.actors[j].vars[q].name.size:Int))=(d:Int)+1+(p.actors[j].vars[q].name.size:Int):=bf ω ω;have v3:IntKind.i64.wrap ((d:Int)+1+(p.actors[j].vars[q].name.size:Int)+(G:Int))=(d:Int)+1+(p.actors[j].vars[q].name.size:Int)+(G:Int):=bf ω ω;have v4:IntKind.i64.wrap ((d:Int)+1+(p.actors[j].vars[q].name.size:Int)+(G:Int)+(T:Int))=(d:Int)+1+(p.actors[j].vars[q].name.size:Int)+(G:Int)+(T:Int):=bf ω ω;subst au;clear W ar af Y M L;go_upto_region 27 with fail;refine tkB (λX=>Below wr wr X) (ad _) (λhHeld=>?_);refine θ ?_;refine tkE 16 (λK hK=>?_);go_simp;refine (od (aw.to (ae (ad _))) ω ω a4).mono ?_;rw[<-cc.o];rintro e2 w3 ⟨rfl,B⟩;refine tkR hK ?_ (λhHeld=>?_)
        ·exact bel (ad _) B
        clear hK K;refine tkQ 17 ?_;refine tkE 24 (λK hK=>?_);go_simp;refine (pb (cf.to (ae (bel (ad _) B))) ω ω a3).mono ?_;rw[<-cb.o];rintro e3 w4 ⟨rfl,Z⟩;refine tkR hK ?_ (λhHeld=>?_)
        ·exact bel (bel (ad _) B) Z
        clear hK K;refine θ ?_;refine tkD ?_;go_wp2_with fail;refine⟨⟨q+1,d+1+p.actors[j].vars[q].name.size+G+T,ω,by go_num,by first|rfl|(simp;done)|go_num,(by show _=_;rw[ax.o];omega),bel A (bel (bel (ad _) B) Z)⟩,by simp[intOf];omega⟩
       have u2:=zF q (p.actors[j].vars.length);have U:=η (ii (f:=szVr) I);have d1:Hid (k=d+(sumN szHd (p.actors[j].on.drop 0)+T5)):=by show _=_;rw[aa.o,U.o,eb.o];simp
       have el:=η A.o;obtain⟨Wb,rfl⟩:=γ wr
       obtain⟨dt,rfl⟩:=γ d
       go_wp2_with fail;go_loopw [12,3] (λi v wr=>∃(q d:Nat),q<=p.actors[j].on.length/\i=.int .i64 q/\v=.int .i64 d/\Hid (k=d+(sumN szHd (p.actors[j].on.drop q)+T5))/\Hid (Below r r wr)) (λi _ _=>p.actors[j].on.length-(intOf i).toNat)
       case atStart=>exact⟨0,dt,ω,rfl,rfl,d1,el⟩
       case round =>
        obtain⟨q,d,hq,rfl,rfl,aa,A⟩:=hrel;have k0:wr.cell? ⟨R,4,none⟩=some (.slice D0 p.actors[j].on.length e0):=(aH u A).cell 4;by_cases I:q<p.actors[j].on.length
        ·have u2:=zT q (p.actors[j].on.length);have i3:(0:Int)<=(q:Int):=ω;have i4:(q:Int)<(p.actors[j].on.length:Int):=ω;obtain⟨g2,bu,A8,q8,D8,d8,au,-,r0,r1,r2,r3,-,db,af,E,cy⟩:=lG (SlR.to' eh (ae A) (λ_ _ x=>x.to (ae A))) I;obtain⟨ei,ef⟩:=zd2 E cy;obtain⟨G,M⟩:=γ (bY p.actors[j].on[q].params)
         obtain⟨T,L⟩:=γ (ek 50 p.actors[j].on[q].body)
         obtain⟨z8,bx⟩:=γ (jE p.actors[j].on[q].slots)
         have Y:k=d+(1+p.actors[j].on[q].msg.size+G+T+z8+(sumN szHd (p.actors[j].on.drop (q+1))+T5)):=by rw[aa.o,jA I,M,L,bx];unfold szHd;omega
         obtain⟨ax,cc,cb,dw⟩:=zd4 Y M L bx;have dr:d+1+p.actors[j].on[q].msg.size+G+T+z8<=4000000000000:=by have:=ak.o;omega
         have a4:Hid (bY p.actors[j].on[q].params<=4000000000000):=by show _<=_;rw[<-M];omega
         have a3:Hid (ek 50 p.actors[j].on[q].body<=4000000000000):=by show _<=_;rw[<-L];omega
         have x0:=belW k0;have x1:=belW r0;have x2:=belW r1;have x3:=belW r2;have x4:=belW r3;have v1:IntKind.i64.wrap ((d:Int)+1)=(d:Int)+1:=bf ω ω;have v2:IntKind.i64.wrap ((d:Int)+1+(p.actors[j].on[q].msg.size:Int))=(d:Int)+1+(p.actors[j].on[q].msg.size:Int):=bf ω ω;have v3:IntKind.i64.wrap ((d:Int)+1+(p.actors[j].on[q].msg.size:Int)+(G:Int))=(d:Int)+1+(p.actors[j].on[q].msg.size:Int)+(G:Int):=bf ω ω;have v4:IntKind.i64.wrap ((d:Int)+1+(p.actors[j].on[q].msg.size:Int)+(G:Int)+(T:Int))=(d:Int)+1+(p.actors[j].on[q].msg.size:Int)+(G:Int)+(T:Int):=bf ω ω;have v5:IntKind.i64.wrap ((d:Int)+1+(p.actors[j].on[q].msg.size:Int)+(G:Int)+(T:Int)+(z8:Int))=(d:Int)+1+(p.actors[j].on[q].msg.size:Int)+(G:Int)+(T:Int)+(z8:Int):=bf ω ω;have vt:=qY dw;subst au;clear E cy af db Y M L bx;go_upto_region 31 with fail;refine tkB (λX=>Below wr wr X) (ad _) (λhHeld=>?_);refine θ ?_;refine tkE 16 (λK hK=>?_);go_simp
         refine (iQ (FldsR.to ei (ae (ad _))) a4).mono ?_;rw[<-cc.o];rintro e2 w3 ⟨rfl,B⟩;refine tkR hK ?_ (λhHeld=>?_)
         ·exact bel (ad _) B
         clear hK K;refine tkQ 17 ?_;refine tkE 24 (λK hK=>?_);go_simp;refine (vQ (StsR.to ef (ae (bel (ad _) B))) ω ω a3).mono ?_;rw[<-cb.o];rintro e3 w4 ⟨rfl,Z⟩;refine tkR hK ?_ (λhHeld=>?_)
         ·exact bel (bel (ad _) B) Z
         clear hK K;refine θ ?_;refine tkD ?_;go_wp2_with fail;refine⟨⟨q+1,d+1+p.actors[j].on[q].msg.size+G+T+z8,ω,by go_num,by first|rfl|(simp;done)|go_num,(by show _=_;rw[ax.o];omega),bel A (bel (bel (ad _) B) Z)⟩,by simp[intOf];omega⟩
        have u2:=zF q (p.actors[j].on.length);have U:=η (ii (f:=szHd) I);go_wp2_with fail;exact⟨⟨j+1,d,ω,by go_num,rfl,(by show _=_;rw[aa.o,U.o,ea.o];omega),bel cg A⟩,by simp[intOf];omega⟩
     have u1:=zF j p.actors;have U:=η (ii (f:=szAc) hlt);have dz:k=b:=by rw[HQ.o,U.o];omega
     subst dz;go_wp2_with fail;go_ret;exact⟨rfl,bel eq F⟩
end Go.Proofs.YtjohpidklbhmcaaGreatDoor
