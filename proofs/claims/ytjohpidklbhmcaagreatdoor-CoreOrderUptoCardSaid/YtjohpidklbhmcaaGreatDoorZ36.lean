/- Core -/
import Derived.Test.YtjohpidklbhmcaaGreatDoorZ35
import Derived.Test.YtjohpidklbhmcaaGreatDoorZ2
import Derived.Laws.EntriesVeiled
namespace Go.Proofs.YtjohpidklbhmcaaGreatDoor
set_option linter.all false
open Proofs.Tryz RowKit Maps WideMaps ChangeMaps
set_option maxRecDepth 100000
set_option maxHeartbeats 2000000
section
def aW (p:Pg) (M:Nat):Bool:=cH p&&(finP p&&dy p M)
variable {M:Nat}
def bod_pre {w:À} {c:CB} {p:Pg} (hck:ChkR w (lo w) c p) (hru:∃n f,RulesR w (lo w) c n f) (hD:cH p=true) (hdp:p.Deep M) (hM:M<=1000000000):BodPre w c p M:=
 ⟨hck,hru,λ_=>sY (rm hD) (mC hD) M ω,λ_=>vO (sY (rm hD) (mC hD) M ω) (rm hD M) (mC hD) (λe he=>(uh hD e he).1) (main_act hD) (upp_of hD) M (υ _) hM,mC hD,fits_of hD,hdp⟩
variable {A0 A1 A2 A3:Option Addr} {q0 q1 q2 q3:Nat}
def wm {p:Pg} {w:À} (h0:SlR w (lo w) 3 (DclR w (lo w)) (.slice A0 p.types q0) p.types) (h1:SlR w (lo w) 5 (EffR w (lo w)) (.slice A1 p.effects q1) p.effects) (h2:SlR w (lo w) 11 (FnR w (lo w)) (.slice A2 p.funs q2) p.funs) (h3:SlR w (lo w) 7 (AcR w (lo w)) (.slice A3 p.actors q3) p.actors) (hs:p.Small) (hfn:di p.types<=1000000) (hdp:p.Deep M) (hM:M<=1000000000):Calls prog 11 #[.agg #[.slice A0 p.types q0,.slice A1 p.effects q1,.slice A2 p.funs q2,.slice A3 p.actors q3]] w λe w'=>e=.returned (.bool (aW p M))/\Below w w w':=by
 obtain⟨B,g,F,i⟩:=κ w #[.slice A0 p.types q0,.slice A1 p.effects q1,.slice A2 p.funs q2,.slice A3 p.actors q3] 27
 have S:=ae F;obtain⟨N,t,z,d,A,O,Y⟩:=zd7 (nN p A0 A1 A2 A3 q0 q1 q2 q3 B (h0.to' S (λ_ _ x=>x.to S)) (h1.to' S (λ_ _ x=>x.to S)) (h2.to' S (λ_ _ x=>x.to S)) (h3.to' S (λ_ _ x=>x.to S)) hs) F g hs hfn hdp hM;clear h0 h1 h2 h3 hs hfn hdp hM S g F;go_in;go_upto_region 1 with fail;rw[<-z.o];clear z;have W:=i.c 0;have V:=i.c 1;have U:=i.c 2;have T:=i.c 3;go_upto_region 2 with (go_at_call 41;refine N.mono ?_;rintro e2 H ⟨y,c,_,rfl,v,u⟩);obtain⟨E,k,X⟩:=zd3 y v u;clear y v u W V U T
 cases hd:cH p with
 | false =>
  have l:Hid (aW p M=false):=by show _=_;unfold aW;rw[hd];rfl
  have r:=η hd;clear hd;go_wp2_with (go_at_call 42;refine (fE c p _ k d).mono ?_;rw[r.o];rintro J G ⟨rfl,a⟩);go_ret;rw[l.o];exact⟨rfl,bel t (bel E a)⟩
 | true =>
  have r:=η hd
  cases hf:finP p with
  | false =>
   have l:Hid (aW p M=false):=by show _=_;unfold aW;rw[hd,hf];rfl
   have D:=η hf;clear hd hf;go_wp2_with (first|(go_at_call 42;refine (fE c p _ k d).mono ?_;rw[r.o];rintro J G ⟨rfl,a⟩)|(go_at_call 43;refine (oN (k.to (ae a)) d A).mono ?_;rw[D.o];rintro R j ⟨rfl,b⟩));go_ret;rw[l.o];exact⟨rfl,bel t (bel E (bel a b))⟩
  | true =>
   have l:Hid (aW p M=dy p M):=by show _=_;unfold aW;rw[hd,hf];rfl
   have D:=η hf;clear hd hf;have L:Hid (∀j,Below H H j->∃n f,RulesR j (lo j) c n f):=λj hb=>by obtain⟨n,f,h⟩:=X.o;exact⟨n,f,h.to (ae hb)⟩
   go_wp2_with (first|(go_at_call 42;refine (fE c p _ k d).mono ?_;rw[r.o];rintro J G ⟨rfl,a⟩)|(go_at_call 43;refine (oN (k.to (ae a)) d A).mono ?_;rw[D.o];rintro R j ⟨rfl,b⟩)|(go_at_call 44;refine (ul (bod_pre (k.to (ae (bel a b))) (L _ (bel a b)) r O Y)).mono ?_;rintro e5 Z ⟨rfl,I⟩));go_ret;rw[l.o];exact⟨rfl,bel t (bel E (bel a (bel b I)))⟩
variable {W:À} {B:Nat}
def rA {w:À} {b:Nat} (h:Below w w W) (hB:w<=B):Sub (lo w) (uo (wM B b) W) w W:=λk hk=>by
 have hk':k<w.heap.size:=hk
 refine⟨⟨_,(h.block k hk').trans (Array.getElem?_eq_getElem hk'),λhm=>?_⟩,h.block k hk'⟩
 have:=hm.1
 omega
def wM_B {b:Nat}:∀k o,wM B b k o->B<=k:=λ_ _ h=>h.1
def lJ (p:Pg) (M:Nat):List UInt8:=if aW p M then hX p else []
structure PgAt (w:À) (A0 A1 A2 A3:Option Addr) (q0 q1 q2 q3:Nat) (p:Pg):Prop where
 t:SlR w (lo w) 3 (DclR w (lo w)) (.slice A0 p.types q0) p.types
 e:SlR w (lo w) 5 (EffR w (lo w)) (.slice A1 p.effects q1) p.effects
 f:SlR w (lo w) 11 (FnR w (lo w)) (.slice A2 p.funs q2) p.funs
 a:SlR w (lo w) 7 (AcR w (lo w)) (.slice A3 p.actors q3) p.actors
def PgAt.bel {w:À} {p:Pg} (h:PgAt w A0 A1 A2 A3 q0 q1 q2 q3 p) (hb:Below w w W):PgAt W A0 A1 A2 A3 q0 q1 q2 q3 p:=
 have S:=ae hb
 ⟨h.t.to' S (λ_ _ x=>x.to S),h.e.to' S (λ_ _ x=>x.to S),h.f.to' S (λ_ _ x=>x.to S),h.a.to' S (λ_ _ x=>x.to S)⟩
structure Fit (p:Pg) (M:Nat):Prop where
 small:p.Small
 fn:di p.types<=1000000
 deep:p.Deep M
 m:M<=1000000000
def dl {w:À} {p:Pg} (h:PgAt w A0 A1 A2 A3 q0 q1 q2 q3 p) (hf:Fit p M):Calls prog 11 #[.agg #[.slice A0 p.types q0,.slice A1 p.effects q1,.slice A2 p.funs q2,.slice A3 p.actors q3]] w (aE (aW p M) w):=wm h.t h.e h.f h.a hf.small hf.fn hf.deep hf.m
structure PgU (B b:Nat) (W:À) (A0 A1 A2 A3:Option Addr) (q0 q1 q2 q3:Nat) (p:Pg):Prop where
 t:SlR W (uo (wM B b) W) 3 (DclR W (uo (wM B b) W)) (.slice A0 p.types q0) p.types
 e:SlR W (uo (wM B b) W) 5 (EffR W (uo (wM B b) W)) (.slice A1 p.effects q1) p.effects
 f:SlR W (uo (wM B b) W) 11 (FnR W (uo (wM B b) W)) (.slice A2 p.funs q2) p.funs
 a:SlR W (uo (wM B b) W) 7 (AcR W (uo (wM B b) W)) (.slice A3 p.actors q3) p.actors
def PgU.of {w:À} {b:Nat} {p:Pg} (h:PgAt w A0 A1 A2 A3 q0 q1 q2 q3 p) (hb:Below w w W) (hB:w<=B):PgU B b W A0 A1 A2 A3 q0 q1 q2 q3 p:=
 have S:=rA (b:=b) hb hB
 ⟨h.t.to' S (λ_ _ x=>x.to S),h.e.to' S (λ_ _ x=>x.to S),h.f.to' S (λ_ _ x=>x.to S),h.a.to' S (λ_ _ x=>x.to S)⟩
def xw (p:Pg):hX p≠[]:=by
 intro h;have:=congrArg List.length h;unfold hX ah at this;simp only[μ,List.length_nil] at this;have a:=pf (n:=((p.types.length:Nat):Int)) ω;omega
def qo {p:Pg} {w:À} (h:PgAt w A0 A1 A2 A3 q0 q1 q2 q3 p) (hf:Fit p M) (hlen:(hX p).length<=wTop):
 Calls prog 9 #[.agg #[.slice A0 p.types q0,.slice A1 p.effects q1,.slice A2 p.funs q2,.slice A3 p.actors q3]] w λe w'=>e=.returned (.string ⟨(lJ p M).toArray⟩)/\Below w w w':=by
 obtain⟨W1,B,B1,k⟩:=κ w #[.slice A0 p.types q0,.slice A1 p.effects q1,.slice A2 p.funs q2,.slice A3 p.actors q3] 27
 obtain⟨Z,N,aj,HF,ar,a7⟩:=zd6 (h.bel B1) B1 B hf hlen (show ((([]:List UInt8)++(ah (wDcl nm0N) () p.types).1)++(ah (wEff nm0N) () p.effects).1)++(ah (wFn nm0N) () p.funs).1++(ah (wAcP nm0N) () p.actors).1≠[] by have:=xw p;unfold hX at this;simpa only[List.nil_append,χ] using this);clear h hf hlen B B1;go_in;go_upto_region 1 with fail;rw[<-aj.o];clear aj;have b0:=k.c 0;have b1:=k.c 1;have b2:=k.c 2;have b3:=k.c 3
 cases hd:aW p M with
 | false =>
  have HX:Hid (lJ p M=[]):=by show _=_;unfold lJ;rw[hd];rfl
  have HD:=η hd;clear hd;go_wp2_with (go_at_call 11;refine (dl (Z.bel (belR _)) HF).mono ?_;rw[HD.o];rintro e2 b ⟨rfl,j⟩);go_ret;rw[HX.o];exact⟨rfl,bel N j⟩
 | true =>
  have HD:=η hd;clear hd;have HX:Hid (lJ p M=hX p):=by show _=_;unfold lJ;rw[HD.o];rfl
  go_wp2_with (go_at_call 11;refine (dl (Z.bel (belR _)) HF).mono ?_;rw[HD.o];rintro e2 b ⟨rfl,j⟩);obtain⟨ap,a5,ba⟩:=zd3 (aH k j) (Z.bel j) (bel N j);clear j b0 b1 b2 b3 k Z N;refine (kG b).mono ?_;rintro e3 F ⟨rfl,G,ag⟩;obtain⟨g,A,V,O⟩:=κ F #[b] 66
  have ai:=η A
  have az:F.heap.size≠b:=λe=>by have:=G.lt;omega
  have an:Hid (WS (iY b b) [] () g):=⟨G.bel V,trivial⟩
  have U:Hid (CapW b b F g):=⟨nG O az rfl,O.cell 0⟩
  have y:Below b b g:=bel ag V;have E:=η (aH ap y);have Y:Hid (PgU b b g A0 A1 A2 A3 q0 q1 q2 q3 p):=PgU.of a5 y (υ _);have X:Hid (uo (wM b b) g w):=(rA y (υ _) _ ap.lt).1;have HL:Hid ((ah (wDcl nm0N) () p.types).1.length+((ah (wEff nm0N) () p.effects).1.length+((ah (wFn nm0N) () p.funs).1.length+(ah (wAcP nm0N) () p.actors).1.length))<=wTop):=by show _<=_;have:=ar.o;unfold hX at this;simpa only[μ] using this
  have ao:Hid (Below b b g):=y;clear ag G A V O y;go_upto_region 4 with fail;rw[<-ai.o];clear ai;have v:Hid (Ch (wM b b) g g):=Ch.refl _ _;have ay:g.cell? w=some (.slice A0 p.types q0):=(v.cell X 0).trans (E.cell 0);have d:=U.2;go_wp2_with fail;refine (wl_20 (f:=wDcl nm0N) (SlR.to' Y.t v.sub (λ_ _ x=>x.to v.sub)) an (by have:=HL.o;(try simp only[μ,List.length_nil]);omega) (λi hi cs W st out hr hs hl=>w_decl hr hs hl)).mono ?_;rintro e5 W5 ⟨rfl,af,L⟩;have am:Hid (WS (iY b b) ([]++(ah (wDcl nm0N) () p.types).1) () W5):=af;obtain⟨u,T⟩:=zd2 (v.trans L) (U.to L);clear af L ay d an v U;have ax:W5.cell? ⟨w,1,none⟩=some (.slice A1 p.effects q1):=(u.cell X 1).trans (E.cell 1);have d:=T.2;go_wp2_with fail;refine (wl_22 (f:=wEff nm0N) (SlR.to' Y.e u.sub (λ_ _ x=>x.to u.sub)) am (by have:=HL.o;(try simp only[μ,List.length_nil]);omega) (λi hi cs W st out hr hs hl=>w_effect hr hs hl)).mono ?_;rintro e6 W6 ⟨rfl,ae,J⟩;have al:Hid (WS (iY b b) (([]++(ah (wDcl nm0N) () p.types).1)++(ah (wEff nm0N) () p.effects).1) () W6):=ae;obtain⟨r,R⟩:=zd2 (u.trans J) (T.to J);clear ae J ax d am u T;have aw:W6.cell? ⟨w,2,none⟩=some (.slice A2 p.funs q2):=(r.cell X 2).trans (E.cell 2);have d:=R.2;go_wp2_with fail
  refine (wl_24 (f:=wFn nm0N) (SlR.to' Y.f r.sub (λ_ _ x=>x.to r.sub)) al (by have:=HL.o;(try simp only[μ,List.length_nil]);omega) (λi hi cs W st out hr hs hl=>w_fn hr hs hl)).mono ?_;rintro e7 W7 ⟨rfl,ad,I⟩;have ak:Hid (WS (iY b b) ((([]++(ah (wDcl nm0N) () p.types).1)++(ah (wEff nm0N) () p.effects).1)++(ah (wFn nm0N) () p.funs).1) () W7):=ad;obtain⟨l,D⟩:=zd2 (r.trans I) (R.to I);clear ad I aw d al r R;have av:W7.cell? ⟨w,3,none⟩=some (.slice A3 p.actors q3):=(l.cell X 3).trans (E.cell 3);have d:=D.2;go_wp2_with fail;refine (wl_26 (f:=wAcP nm0N) (SlR.to' Y.a l.sub (λ_ _ x=>x.to l.sub)) ak D (by have:=HL.o;(try simp only[μ,List.length_nil]);omega) (λi hi cs W st out hcp hr hs hl=>w_actorP hcp hr hs hl)).mono ?_;rintro e8 W8 ⟨rfl,ac,H⟩;have a6:Hid (WS (iY b b) (((([]++(ah (wDcl nm0N) () p.types).1)++(ah (wEff nm0N) () p.effects).1)++(ah (wFn nm0N) () p.funs).1)++(ah (wAcP nm0N) () p.actors).1) () W8):=ac;obtain⟨a9,bb⟩:=zd2 (l.trans H) (D.to H);clear ac H av d ak l D;have d:=bb.2;go_wp2_with fail;refine (mX a6.wr a7).mono ?_;rintro e9 W9 ⟨rfl,a0⟩;go_wp2;go_ret;refine⟨?_,?_⟩
  ·rw[HX.o];unfold hX;simp only[List.nil_append,χ];rfl
  have h1:=(a9.below wM_B ao.size).trans a0;exact bel ba (ao.trans h1)
structure Dg where
 funs:List Int
 names:List (List UInt8)
def posI:List Int->Int->Option Nat
 | [],_=>none
 | x::xs,n=>if x=n then some 0 else (posI xs n).map (·+1)
def dgN:Nm Dg where
 num st n:=match posI st.funs n with
  | some i=>((i:Nat),st)
  | none=>((st.funs.length:Nat),⟨st.funs++[n],st.names⟩)
 nam st s:=if s.data.toList∈st.names then st else ⟨st.funs,st.names++[s.data.toList]⟩
def posI_lt (l:List Int):∀n i,posI l n=some i->i<l.length/\l[i]?=some n:=by
 induction l with
 | nil=>intro n i h;simp[posI] at h
 | cons x l ih =>
  intro n i h;rw[posI] at h;split at h
  ·rename_i e;injection h with h;subst h e;exact⟨by simp,rfl⟩
  cases hp:posI l n with
  | none=>rw[hp] at h;simp at h
  | some j =>
   rw[hp] at h;simp at h;subst h;have:=ih n j hp;exact⟨by simp;omega,by simpa using this.2⟩
def pX (l:List Int) (n:Int) (h:posI l n=none):∀m,posI (l++[n]) m=if m=n then some l.length else posI l m:=by
 induction l with
 | nil=>intro m;simp only[List.nil_append,posI,List.length_nil,Option.map_none];by_cases e:m=n<;>simp[e,eq_comm]<;>exact λx=>e x.symm
 | cons x l ih =>
  intro m;rw[posI] at h;split at h
  ·simp at h
  rename_i e;have d:posI l n=none:=by simpa using h
  rw[List.cons_append,posI,ih d,posI];by_cases b:x=m
  ·subst b;simp[e]
  simp only[b,if_false];by_cases a:m=n
  ·subst a;simp
  simp[a]
def posV (l:List Int) (n:Int):Option Value:=(posI l n).map λi=>.int .i64 ((i:Nat):Int)
def iM (l:List (List UInt8)) (s:List UInt8):Option Value:=if s∈l then some (true:Vl) else none
def wy {l:List Int} {n:Int} (h:posI l n=none):upd (posV l) n (some (.int .i64 ((l.length:Nat):Int)))=posV (l++[n]):=by
 funext m;unfold upd posV;rw[pX l n h];by_cases e:m=n<;>simp[e]
def tF (l:List (List UInt8)) (s:List UInt8):upd (iM l) s (some (true:Vl))=iM (l++[s]):=by
 funext m;unfold upd iM;by_cases e:m=s<;>simp[e]
def oI (l:List Int):List Value:=l.map λn=>.int .i64 n
structure DB where
 (gN gF gS gD gT mN mS mT nT:Nat)
structure DBok (B b:Nat) (d:DB):Prop where
 lo:B<=d.gN/\B<=d.gF/\B<=d.gS/\B<=d.gD/\B<=d.gT/\B<=d.mN/\B<=d.mS/\B<=d.mT
 nb:d.gN≠b/\d.gF≠b/\d.gS≠b/\d.gD≠b/\d.gT≠b/\d.mN≠b/\d.mS≠b/\d.mT≠b
 dist:d.gF≠d.gD/\d.mN≠d.mS/\d.mN≠d.mT/\d.mS≠d.mT
def oT (p:Pg) (l:List (List UInt8)):List Nat:=l.map λs=>(idxP p.tyNames s).getD 0
structure DgR (p:Pg) (B b:Nat) (d:DB) (vF vD:Value) (w:À) (st:Dg):Prop where
 ok:DBok B b d
 hN:Hs w d.gN 102 #[.map (some d.mN)]
 hS:Hs w d.gS 103 #[.map (some d.mS)]
 hT:Hs w d.gT 101 #[.map (some d.mT)]
 hF:Hs w d.gF 104 #[vF]
 hD:Hs w d.gD 104 #[vD]
 iN:MapIs prog 3 (Lit.int .i64) w d.mN st.funs (posV st.funs)
 iS:MapIs prog 9 Lit.string w d.mS st.names (iM st.names)
 iT:SMap w d.mT d.nT (idxF p.tyNames p.tyNames)
 rF:w.ownsRow B 3 1 vF st.funs (oI st.funs)
 rD:w.ownsRow B 3 1 vD st.names (ints (oT p st.names))
 bF:vF.ownBlock≠some b
 bD:vD.ownBlock≠some b
 sep:∀g,vF.ownBlock=some g->vD.ownBlock≠some g
 szB:B<=w
def DgRel (p:Pg) (B b:Nat) (d:DB) (w:À) (st:Dg) (k:Nat):Prop:=st.funs.length<=k/\st.names<=k/\∃vF vD,DgR p B b d vF vD w st
variable {α:Type} {P:Program} {K:TypeId}
def MapIs.obj {kl:α->Lit} {w:À} {b n:Nat} {f:α->Option Value} (h:MapIs P K kl w b n f):∃e c,w.heap[b]?=some (.map e c):=by
 obtain⟨D,h,_⟩:=h;obtain⟨e,c,a,_⟩:=h;exact⟨e,c,a⟩
variable {O:Nat->Prop} {w':À}
def mU {may:Nat->Obj->Prop} {w:À} (h:Stp O w w') (hm:∀k o,O k->w.heap[k]?=some o->may k o):Ch may w w':=
 ⟨h.os,h.tape,h.output,h.size,λk o hk hn=>(h.block k (Array.getElem?_eq_some_iff.1 hk).1 (λho=>hn (hm k o ho hk))).trans hk⟩
def qL {w:À} {b n:Nat} {f:Int->Option Value} (h:MapIs prog 3 (Lit.int .i64) w b n f) {i:Int} (hi:i64 i):(Instr.lookup 102 (.map (some b)) (i:Vl) true).run prog w=.ok (.tuple #[(f i).getD (.int .i64 0),.bool (f i).isSome]) w:=
 MapIs.lookOk h (bh underlying3) underlying102 (nS w) (aw underlying3 hi)
def oJ {w:À} {b n:Nat} {f:Int->Option Value} (h:MapIs prog 3 (Lit.int .i64) w b n f) {i:Int} (hi:i64 i):(Instr.lookup 102 (.map (some b)) (i:Vl) false).run prog w=.ok ((f i).getD (.int .i64 0)) w:=
 MapIs.look h (bh underlying3) underlying102 (nS w) (aw underlying3 hi)
def zeroBo (w:À):(zeroValue 4).run prog w=.ok (false:Vl) w:=by kernel_rfl
def xy {w:À} {b n:Nat} {f:List UInt8->Option Value} (h:MapIs prog 9 Lit.string w b n f) {s:Ê} (hs:s.size<=maxLen):(Instr.lookup 103 (.map (some b)) (s:Vl) false).run prog w=.ok ((f s.data.toList).getD (false:Vl)) w:=
 MapIs.look h (fL underlying9) underlying103 (zeroBo w) (keyOf_string_mk underlying9 hs)
variable {g t:Nat} {cs:Array Value}
def nI {w:À} {t':Nat} {cs':Array Value} (h:Hs w g t cs) (h':Hs w g t' cs'):t=t':=by
 have:=Option.some.inj (h.symm.trans h');injection this
def eu {w:À} {g':Nat} {kl:α->Lit} {n:Nat} {f:α->Option Value} (h:Hs w g t cs) (h':MapIs P K kl w g' n f):g≠g':=by
 rintro rfl;obtain⟨e,c,a⟩:=h'.obj;exact absurd (Option.some.inj (h.symm.trans a)) (by intro x;cases x)
variable {v:Value} {xs:List Value}
def fK {w:À} {e size n:Nat} (h:w.ownsRow B e size v n xs) (h':Hs w g t cs) (ht:t≠e):v.ownBlock≠some g:=by
 intro x;obtain⟨_,c,b,a⟩:=eB h _ x;have:=Option.some.inj (a.symm.trans h');injection this with _ h2;exact ht h2.symm
def gp {w:À} {e size n:Nat} {kl:α->Lit} {m:Nat} {f:α->Option Value} (h:w.ownsRow B e size v n xs) (h':MapIs P K kl w g m f):v.ownBlock≠some g:=by
 intro x;obtain⟨_,c,d,a⟩:=eB h _ x;obtain⟨i,j,b⟩:=h'.obj;exact absurd (Option.some.inj (a.symm.trans b)) (by intro x;cases x)
section
variable {p:Pg} {B b:Nat} {d:DB} {vF vD:Value} {w w':À} {st:Dg}
def DgR.keep (h:DgR p B b d vF vD w st) (hc:Ch (wMay B b) w w'):DgR p B b d vF vD w' st:=by
 have a:∀k o,w.heap[k]?=some o->k≠b->(∀c fz,o≠.cells c 5 fz)->w'.heap[k]?=w.heap[k]?:=λk o a hb ho =>
  (hc.block k o a (λi=>by rcases i.2 with x|⟨c,fz,x⟩;exact hb x;exact ho c fz x)).trans a.symm
 have j:∀g t cs,Hs w g t cs->g≠b->t≠5->w'.heap[g]?=w.heap[g]?:=λg t cs hg hb ht=>a g _ hg hb (λc fz e=>by injection e with _ e;exact ht e)
 have i:∀{α:Type} {P:Program} {K:TypeId} {kl:α->Lit} {g n:Nat} {f:α->Option Value},MapIs P K kl w g n f->g≠b->w'.heap[g]?=w.heap[g]?:=λhg hb=>by
  obtain⟨e,c,F⟩:=hg.obj;exact a _ _ F hb (λc fz e=>by cases e)
 have l:∀v n xs,w.ownsRow B 3 1 v n xs->v.ownBlock≠some b->w'.ownsRow B 3 1 v n xs:=λv n xs hv hb=>by
  refine⟨hv.1,?_⟩;rcases hv.2 with hn|⟨g,cap,cur,rfl,hbg,hgg,rest⟩
  ·exact .inl hn
  exact .inr ⟨g,cap,cur,rfl,hbg,(a g _ hgg (λe=>hb (by rw[<-e];rfl)) (λc fz e=>by injection e with _ e;exact absurd e π)).trans hgg,rest⟩
 obtain⟨E,D,A,z,y,u,r,q⟩:=h.ok.nb
 exact⟨h.ok,(j _ _ _ h.hN E π).trans h.hN,(j _ _ _ h.hS A π).trans h.hS,(j _ _ _ h.hT y π).trans h.hT,(j _ _ _ h.hF D π).trans h.hF,(j _ _ _ h.hD z π).trans h.hD,
  h.iN.same (i h.iN u),h.iS.same (i h.iS r),h.iT.same (i h.iT q),l _ _ _ h.rF h.bF,l _ _ _ h.rD h.bD,h.bF,h.bD,h.sep,ψ h.szB hc.size⟩
def oF (d:DB) (vF:Value) (k:Nat):Prop:=k=d.mN\/k=d.gF\/vF.ownBlock=some k
def oD (d:DB) (vD:Value) (k:Nat):Prop:=k=d.mS\/k=d.gD\/vD.ownBlock=some k
def oF_may (h:DgR p B b d vF vD w st):∀k o,oF d vF k->w.heap[k]?=some o->wM B b k o:=by
 rintro k o (rfl|rfl|f) ho
 ·obtain⟨e,c,a⟩:=h.iN.obj;rw[a] at ho;injection ho with ho;exact⟨h.ok.lo.2.2.2.2.2.1,.inr (by rw[<-ho];rfl)⟩
 ·rw[show w.heap[d.gF]?=_ from h.hF] at ho;injection ho with ho;exact⟨h.ok.lo.2.1,.inr (by rw[<-ho];rfl)⟩
 obtain⟨g,c,i,a⟩:=eB h.rF _ f;rw[a] at ho;injection ho with ho;exact⟨g,.inr (by rw[<-ho];rfl)⟩
def oD_may (h:DgR p B b d vF vD w st):∀k o,oD d vD k->w.heap[k]?=some o->wM B b k o:=by
 rintro k o (rfl|rfl|f) ho
 ·obtain⟨e,c,a⟩:=h.iS.obj;rw[a] at ho;injection ho with ho;exact⟨h.ok.lo.2.2.2.2.2.2.1,.inr (by rw[<-ho];rfl)⟩
 ·rw[show w.heap[d.gD]?=_ from h.hD] at ho;injection ho with ho;exact⟨h.ok.lo.2.2.2.1,.inr (by rw[<-ho];rfl)⟩
 obtain⟨g,c,i,a⟩:=eB h.rD _ f;rw[a] at ho;injection ho with ho;exact⟨g,.inr (by rw[<-ho];rfl)⟩
def wr_stp {fv nv:Value} {out:List UInt8} (h:WrAt B b fv nv out w) (hs:Stp O w w') (hm:∀k o,O k->w.heap[k]?=some o->k≠b/\∀c fz,o≠.cells c 5 fz):WrAt B b fv nv out w':=by
 refine h.keep (mU (may:=λk o=>k≠b/\∀c fz,o≠.cells c 5 fz) hs hm) (λ_ x=>x.1 rfl) (λ_ _ x=>x.2 _ _ rfl)
def oF_wr (h:DgR p B b d vF vD w st):∀k o,oF d vF k->w.heap[k]?=some o->k≠b/\∀c fz,o≠.cells c 5 fz:=by
 obtain⟨u,i,t,r,q,g,l,j⟩:=h.ok.nb;rintro k o (rfl|rfl|f) ho
 ·obtain⟨e,c,a⟩:=h.iN.obj;rw[a] at ho;injection ho with ho;exact⟨g,λc fz e=>by rw[<-ho] at e;cases e⟩
 ·rw[show w.heap[d.gF]?=_ from h.hF] at ho;injection ho with ho;exact⟨i,λc fz e=>by rw[<-ho] at e;injection e with _ e;exact absurd e π⟩
 obtain⟨v,c,fz,a⟩:=eB h.rF _ f;rw[a] at ho;injection ho with ho;exact⟨λe=>h.bF (by rw[f,e]),λc fz e=>by rw[<-ho] at e;injection e with _ e;exact absurd e π⟩
def oD_wr (h:DgR p B b d vF vD w st):∀k o,oD d vD k->w.heap[k]?=some o->k≠b/\∀c fz,o≠.cells c 5 fz:=by
 obtain⟨u,t,r,i,q,l,g,j⟩:=h.ok.nb;rintro k o (rfl|rfl|f) ho
 ·obtain⟨e,c,a⟩:=h.iS.obj;rw[a] at ho;injection ho with ho;exact⟨g,λc fz e=>by rw[<-ho] at e;cases e⟩
 ·rw[show w.heap[d.gD]?=_ from h.hD] at ho;injection ho with ho;exact⟨i,λc fz e=>by rw[<-ho] at e;injection e with _ e;exact absurd e π⟩
 obtain⟨v,c,fz,a⟩:=eB h.rD _ f;rw[a] at ho;injection ho with ho;exact⟨λe=>h.bD (by rw[f,e]),λc fz e=>by rw[<-ho] at e;injection e with _ e;exact absurd e π⟩
end
def kk {w:À} {a b c d:Value} (h:Hs w g t #[a,b,c,d]):w.cell? g=some a/\w.cell? ⟨g,1,none⟩=some b/\w.cell? ⟨g,2,none⟩=some c/\w.cell? ⟨g,3,none⟩=some d/\w.frozen? g=false/\w.frozen? ⟨g,1,none⟩=false/\w.frozen? ⟨g,2,none⟩=false/\w.frozen? ⟨g,3,none⟩=false:=⟨h.cell 0,h.cell 1,h.cell 2,h.cell 3,Lib.frozen_of_heap h 0,Lib.frozen_of_heap h 1,Lib.frozen_of_heap h 2,Lib.frozen_of_heap h 3⟩
section
variable {rb db:Nat} {fl:Bool} {d:Int} {w:À}
end
structure Pg.rd (p:Pg):Prop where
 t:∀x∈p.types,x.rd 0
 e:∀x∈p.effects,x.rd 0
 f:∀x∈p.funs,x.rd 0
 a:∀x∈p.actors,x.rd 0
def Ci (p:Pg) (w:À) (e:Ending) (w':À):Prop:=∃A0 A1 A2 A3 q0 q1 q2 q3,e=.returned (.tuple #[.agg #[.slice A0 p.types q0,.slice A1 p.effects q1,.slice A2 p.funs q2,.slice A3 p.actors q3],true])/\PgAt w' A0 A1 A2 A3 q0 q1 q2 q3 p/\Below w w w'
def subl4 {rb db g2 g3 base:Nat} {w:À} (h:Stp (o4 rb db g2 g3) w w') (h1:rb<base/\db<base) (h3:g2<base) (h4:g3<base):Sub (nw base w) (lo w') w w':=λk hk=>⟨(sub4 h h1.1 h1.2 h3 h4 (υ _) k hk).1.2,(sub4 h h1.1 h1.2 h3 h4 (υ _) k hk).2⟩
def lP {rb db base:Nat} {w:À} (h:Stp (rdO rb db) w w') (h1:rb<base) (h2:db<base):Sub (nw base w) (lo w') w w':=λk hk=>⟨(pA h h1 h2 k hk).1.2,(pA h h1 h2 k hk).2⟩
def Cj {p:Pg} {w:À} (hp:p.rd) (hf:Fit p M) (hr:aW p M=true) (hl:(hX p).length<=549755813888):Calls prog 10 #[.string (bstr (hX p))] w (Ci p w):=by
 obtain⟨l,aa⟩:=γ (hX p)
 have e0:l=(ah (wDcl nm0N) () p.types).1++((ah (wEff nm0N) () p.effects).1++((ah (wFn nm0N) () p.funs).1++((ah (wAcP nm0N) () p.actors).1++[]))):=by rw[aa,List.append_nil];rfl
 rw[<-aa] at hl ⊢;obtain⟨U,D⟩:=γ (((w.alloc (.cells #[(),(),(),()] 27)).alloc (.cells #[.string (bstr l),false] 145)).alloc (.cells #[(w+1:Nat),(0:Int)] 90))
 have B2:Below w w U:=by rw[D];exact ζ3
 have J:RdAt (w+1) (w+2) l false 0 U:=by
  rw[D];refine⟨fu ?_ _,?_⟩
  ·have:=Hs.new (w.alloc (.cells #[(),(),(),()] 27)) 145 #[.string (bstr l),false];simpa using this
  have:=Hs.new ((w.alloc (.cells #[(),(),(),()] 27)).alloc (.cells #[.string (bstr l),false] 145)) 90 #[(w+1:Nat),(0:Int)];simpa using this
 have bi:Hid (Hs U w 27 #[(),(),(),()]):=by rw[D];exact fu (fu (Hs.new _ _ _) _) _
 have be:U.heap.size=w+3:=by rw[D];simp
 obtain⟨ch,cf,bz,a0⟩:=zd4 be J B2 D;rw[e0] at J;have N:Hid (((ah (wDcl nm0N) () p.types).1++((ah (wEff nm0N) () p.effects).1++((ah (wFn nm0N) () p.funs).1++((ah (wAcP nm0N) () p.actors).1++[])))).length<=549755813888):=by show _<=_;rw[<-e0];exact hl
 obtain⟨bj,HP,HF,bw⟩:=zd4 J hp hf hr;clear hp hf hr hl aa e0 J D B2;go_in;go_upto_region 2 with (go_at_call 31;refine (yQ l _).mono ?_;rintro e1 w1 ⟨rfl,rfl⟩);rw[<-a0.o];clear a0;go_wp2_with fail;refine (many_32 (f:=wDcl nm0N) bj (by have:=N.o;simp only[μ] at this ⊢;omega) (λx _=>wDcl_pos x) (λj hj tl W h1 h2=>rdcl_at (HP.t _ (ν hj)) ω h1 h2)).mono ?_;rintro e3 W3 ⟨v3,rfl,Z,ar,I⟩;obtain⟨A,q,rfl⟩:=Z.form;have ce:w.heap.size+3<=W3:=ψ ω I.size;obtain⟨bh,a4,bv,bn⟩:=zd4 (kS bi I ω ω) Z I ar;clear Z I ar;go_wp2_with fail;refine (many_34 (f:=wEff nm0N) bn (by have:=N.o;simp only[μ] at this ⊢;omega) (λx _=>wEff_pos x) (λj hj tl W h1 h2=>reff_at (HP.e _ (ν hj)) ω h1 h2)).mono ?_;rintro e4 W4 ⟨v4,rfl,Y,aq,H⟩;obtain⟨y,i,rfl⟩:=Y.form;have cd:w.heap.size+3<=W4:=ψ ω H.size;obtain⟨bg,a3,bu,bm⟩:=zd4 (kS bh H ω ω) Y H aq;clear Y H aq;go_wp2_with fail;refine (many_36 (f:=wFn nm0N) bm (by have:=N.o;simp only[μ] at this ⊢;omega) (λx _=>wFn_pos x) (λj hj tl W h1 h2=>rfn_at (HP.f _ (ν hj)) ω h1 h2)).mono ?_;rintro e5 W5 ⟨v5,rfl,X,ap,G⟩;obtain⟨u,h,rfl⟩:=X.form;have cc:w.heap.size+3<=W5:=ψ ω G.size;obtain⟨bf,a2,bt,bl⟩:=zd4 (kS bg G ω ω) X G ap;clear X G ap;go_wp2_with fail
 refine (many_38 (f:=wAcP nm0N) bl (by have:=N.o;simp only[μ] at this ⊢;omega) (λx _=>wAcP_pos x) (λj hj tl W h1 h2=>rac_at (HP.a _ (ν hj)) ω h1 h2)).mono ?_;rintro e6 R ⟨v6,rfl,V,ao,F⟩;obtain⟨r,g,rfl⟩:=V.form;have cb:w.heap.size+3<=R:=ψ ω F.size;obtain⟨aw,a1,bs,bk⟩:=zd4 (kS bf F ω ω) V F ao;clear V F ao;obtain⟨O,L,B7,X7⟩:=κ R #[.slice A p.types q,.slice y p.effects i,.slice u p.funs h,.slice r p.actors g] 27
 have av:Hid (Hs O w 27 #[(),(),(),()]):=(B7.block _ aw.lt).trans aw;have ax:=η (bk.bel B7);have T6:=Stp.of_below (own:=rdO (w+1) (w+2)) B7;have T5:=bs.trans T6;have T4:=bt.trans T5;have T3:=bu.trans T4
 have ay:Hid (PgAt O A y u r q i h g p):=by
  have S3:=lP (base:=U) T3 ω ω;have S4:=lP (base:=W3) T4 ω ω;have S5:=lP (base:=W4) T5 ω ω;have S6:=lP (base:=W5) T6 ω ω;exact⟨SlR.to' a4 S3 (λ_ _ x=>x.to S3),SlR.to' a3 S4 (λ_ _ x=>x.to S4),SlR.to' a2 S5 (λ_ _ x=>x.to S5),SlR.to' a1 S6 (λ_ _ x=>x.to S6)⟩
 have BT:Hid (Below w w O):=by
  have T:=bv.trans T3;exact bz.trans ⟨T.os,T.tape,T.output,T.size,λk hk=>T.block k ω (λe=>by rcases e with e|e<;>omega)⟩
 obtain⟨az,br,bq,bp,bo⟩:=zd5 L T3 T4 T5 T6;clear T3 T4 T5 T6 B7 L;go_upto_region 3 with fail;rw[<-az.o];clear az;obtain⟨l0,l1,l2,l3,-⟩:=kk X7;have d0:=ax.d.c 0
 go_upto_region 5 with (first|(go_at_call 40;refine (s7 ax).mono ?_;rintro e8 w8 ⟨rfl,rfl⟩)|(go_at_call 11;refine (dl (ay.bel (belR _)) HF).mono ?_;rw[bw.o];rintro e9 E ⟨rfl,B⟩));have X9:Hid (Hs E R 27 #[.slice A p.types q,.slice y p.effects i,.slice u p.funs h,.slice r p.actors g]):=(B.block _ X7.lt).trans X7;have au:Hid (Hs E w 27 #[(),(),(),()]):=(B.block _ av.lt).trans av;obtain⟨HU,cg,b0⟩:=zd3 (Stp.of_below (own:=rdO (w+1) (w+2)) B) (ay.bel B) (bel BT B);clear B l0 l1 l2 l3 d0;obtain⟨l0,l1,l2,l3,-⟩:=kk X9;have a9:Hid ((E.setRow w #[.slice A p.types q,.slice y p.effects i,.slice u p.funs h,.slice r p.actors g]).heap[w.heap.size]?=some (.cells #[.slice A p.types q,.slice y p.effects i,.slice u p.funs h,.slice r p.actors g] 27 (0,0))):=setRow_heap _ _ _ _ _ _ au
 have bx:Hid (Ci p w (.returned (.tuple #[.agg #[.slice A p.types q,.slice y p.effects i,.slice u p.funs h,.slice r p.actors g],true])) (E.setRow w #[.slice A p.types q,.slice y p.effects i,.slice u p.funs h,.slice r p.actors g])):=by
  have S3:=subl4 (base:=U) ((ka (g2:=w) (g3:=w) (br.trans HU)).trans (lR (w+1) (w+2) w w E #[.slice A p.types q,.slice y p.effects i,.slice u p.funs h,.slice r p.actors g])) ω ω ω;have S4:=subl4 (base:=W3) ((ka (g2:=w) (g3:=w) (bq.trans HU)).trans (lR (w+1) (w+2) w w E #[.slice A p.types q,.slice y p.effects i,.slice u p.funs h,.slice r p.actors g])) ω ω ω;have S5:=subl4 (base:=W4) ((ka (g2:=w) (g3:=w) (bp.trans HU)).trans (lR (w+1) (w+2) w w E #[.slice A p.types q,.slice y p.effects i,.slice u p.funs h,.slice r p.actors g])) ω ω ω;have S6:=subl4 (base:=W5) ((ka (g2:=w) (g3:=w) (bo.trans HU)).trans (lR (w+1) (w+2) w w E #[.slice A p.types q,.slice y p.effects i,.slice u p.funs h,.slice r p.actors g])) ω ω ω;exact⟨_,_,_,_,_,_,_,_,rfl,⟨SlR.to' a4 S3 (λ_ _ x=>x.to S3),SlR.to' a3 S4 (λ_ _ x=>x.to S4),SlR.to' a2 S5 (λ_ _ x=>x.to S5),SlR.to' a1 S6 (λ_ _ x=>x.to S6)⟩,b0.trans ⟨rfl,rfl,rfl,by simp,λk hk=>setRow_other _ _ _ _ ω⟩⟩
 go_wp2_with (refine wpList_store_row rfl 27 _ _ rfl w #[.slice A p.types q,.slice y p.effects i,.slice u p.funs h,.slice r p.actors g] rfl rfl 27 #[(),(),(),()] au Δ rfl Ρ ?_);obtain⟨r0,r1,r2,r3,-⟩:=kk (show Hs _ _ _ _ from a9);exact bodyPost_ret (v:=.tuple #[.agg #[.slice A p.types q,.slice y p.effects i,.slice u p.funs h,.slice r p.actors g],true]) (by simp[results,results10,go_sem,r0,r1,r2,r3]) rfl bx
def sumN {α:Type} (f:α->Nat):List α->Nat
 | []=>0
 | x::xs=>f x+sumN f xs
def jA {f:α->Nat} {l:List α} {j:Nat} (h:j<l):sumN f (l.drop j)=f l[j]+sumN f (l.drop (j+1)):=by rw[bk h,sumN]
def ii {f:α->Nat} {l:List α} {j:Nat} (h:¬j<l):sumN f (l.drop j)=0:=by rw[ε ω,sumN]
def jE (s:Int):Nat:=((max 0 (min s 40000))/100).toNat
def qY {s:Int} {z:Nat} (h:z=jE s):IntKind.i64.wrap ((max 0 (min s 40000)).tdiv 100)=(z:Int):=by
 subst h;rw[Go.IntWalk.i64_quo _ _ ⟨ω,ω,ω⟩];unfold jE;omega
def qX (s:Int):jE s<=400:=by unfold jE;omega
def jo (c:Ctr):Nat:=1+c.name.size+bY c.fields
def hZ (c:Dcl):Nat:=1+c.name.size+sumN jo c.ctors
def jZ (c:Eff):Nat:=1+c.name.size+bY c.params+szTy 20 c.answer
def szFn (c:Fn):Nat:=1+c.name.size+bY c.params+szTy 20 c.result+szEx 50 c.body+jE c.slots
def szVr (c:Vr):Nat:=1+c.name.size+szTy 20 c.type+szEx 50 c.init
def szHd (c:Hd):Nat:=1+c.msg.size+bY c.params+ek 50 c.body+jE c.slots
def szAc (c:Ac):Nat:=1+c.name.size+bY c.params+jE c.slots+sumN szVr c.vars+sumN szHd c.on
def szPg (p:Pg):Nat:=sumN hZ p.types+(sumN jZ p.effects+(sumN szFn p.funs+sumN szAc p.actors))
def vQ {l:List St} {d:Int} {w:À} (hl:StsR w (lo w) v l) (h1:-1<=d) (h2:d<=100) (h3:ek d l<=4000000000000):Calls prog 61 #[v,d] w (iC (ek d l) w):=tB _ v l d w (υ _) hl h1 h2 h3
def sL {p:Pg} {w:À} (h:PgAt w A0 A1 A2 A3 q0 q1 q2 q3 p) (hsz:szPg p<=4000000000000):
 Calls prog 18 #[.agg #[.slice A0 p.types q0,.slice A1 p.effects q1,.slice A2 p.funs q2,.slice A3 p.actors q3]] w (iC (szPg p) w):=by
 have l0:=h.t.le9;have l1:=h.e.le9;have l2:=h.f.le9;have l3:=h.a.le9;obtain⟨W1,a7,B1,BX⟩:=κ w #[.slice A0 p.types q0,.slice A1 p.effects q1,.slice A2 p.funs q2,.slice A3 p.actors q3] 27
 obtain⟨PB,eq,cz⟩:=zd3 (h.bel B1) B1 a7;obtain⟨k,a0⟩:=γ (szPg p)
 rw[<-a0] at hsz ⊢;have ak:=η hsz;obtain⟨T1,b7⟩:=γ (sumN jZ p.effects+(sumN szFn p.funs+sumN szAc p.actors))
 have HV:Hid (k=0+(sumN hZ (p.types.drop 0)+T1)):=by show _=_;rw[a0,b7];unfold szPg;simp
 have ee:=η b7;clear h hsz a0 b7 a7 B1;go_in;go_upto_region 1 with fail;rw[<-cz.o];clear cz;go_wp2_with fail;go_loopw [4,3] (λi v wr=>∃(j b:Nat),j<=p.types/\i=.int .i64 j/\v=.int .i64 b/\Hid (k=b+(sumN hZ (p.types.drop j)+T1))/\Hid (Below W1 W1 wr)) (λi _ _=>p.types.length-(intOf i).toNat)
 case atStart=>exact⟨0,0,ω,rfl,rfl,HV,belR _⟩
 case round =>
  obtain⟨j,b,hj,rfl,rfl,HQ,F⟩:=hrel;have c0:wr.cell? w=some (.slice A0 p.types q0):=(aH BX F).cell 0;by_cases hlt:j<p.types
  ·have i1:(0:Int)<=(j:Int):=ω;have i2:(j:Int)<(p.types.length:Int):=ω;obtain⟨g,aq,B0,d0,hA,-,p0,p1,p2,-,ag,b1⟩:=fF (PB.bel F).t hlt;have lc:=b1.le9;have ej:=η b1;have H:k=b+(1+p.types[j].name.size+sumN jo (p.types[j].ctors.drop 0)+(sumN hZ (p.types.drop (j+1))+T1)):=by rw[HQ.o,jA hlt];unfold hZ;simp;omega
   have al:=η H;have b2:b+1+p.types[j].name.size<=4000000000000:=by have:=ak.o;omega
   have eg:=η p2;subst hA;clear b1 H ag;go_wp2_with fail;obtain⟨W2,rfl⟩:=γ wr
   go_loopw [5,3] (λi v wr=>∃(q d:Nat),q<=p.types[j].ctors.length/\i=.int .i64 q/\v=.int .i64 d/\Hid (k=d+(sumN jo (p.types[j].ctors.drop q)+(sumN hZ (p.types.drop (j+1))+T1)))/\Hid (Below W2 W2 wr)) (λi _ _=>p.types[j].ctors.length-(intOf i).toNat)
   case atStart=>exact⟨0,b+1+p.types[j].name.size,ω,rfl,by first|rfl|(simp;done),(by show _=_;rw[al.o];omega),belR _⟩
   case round =>
    obtain⟨q,d,hq,rfl,rfl,aa,A⟩:=hrel;have k0:wr.cell? w=some (.slice (some ⟨g,aq,none⟩) p.types q0):=(aH BX (bel F A)).cell 0;have k1:wr.cell? ⟨g,aq+j*3+2,none⟩=some (.slice B0 p.types[j].ctors.length d0):=belC A eg;by_cases I:q<p.types[j].ctors.length
    ·have i3:(0:Int)<=(q:Int):=ω;have i4:(q:Int)<(p.types[j].ctors.length:Int):=ω;obtain⟨g2,bu,B2,d2,au,-,r0,r1,-,af,E⟩:=ew (SlR.to' ej (ae A) (λ_ _ x=>x.to (ae A))) I;have an:=η E;obtain⟨l,y⟩:=γ (bY p.types[j].ctors[q].fields)
     have Y:k=d+(1+p.types[j].ctors[q].name.size+l+(sumN jo (p.types[j].ctors.drop (q+1))+(sumN hZ (p.types.drop (j+1))+T1))):=by rw[aa.o,jA I,y];unfold jo;omega
     obtain⟨ax,aj⟩:=zd2 Y y;have fa:d+1+p.types[j].ctors[q].name.size+l<=4000000000000:=by have:=ak.o;omega
     have dv:Hid (bY p.types[j].ctors[q].fields<=4000000000000):=by show _<=_;rw[<-y];omega
     have x0:=belW k0;have x1:=belW k1;have x2:=belW r0;have x3:=belW r1;have v1:IntKind.i64.wrap ((d:Int)+1)=(d:Int)+1:=bf ω ω;have v2:IntKind.i64.wrap ((d:Int)+1+(p.types[j].ctors[q].name.size:Int))=(d:Int)+1+(p.types[j].ctors[q].name.size:Int):=bf ω ω;have v3:IntKind.i64.wrap ((d:Int)+1+(p.types[j].ctors[q].name.size:Int)+(l:Int))=(d:Int)+1+(p.types[j].ctors[q].name.size:Int)+(l:Int):=bf ω ω;subst au;clear E af Y y;go_upto_region 9 with fail;refine tkB (λX=>Below wr wr X) (ad _) (λhHeld=>?_);refine θ ?_;refine tkE 24 (λK hK=>?_);go_simp;refine (iQ (FldsR.to an (ae (ad _))) dv).mono ?_;rw[<-aj.o];rintro e2 w2 ⟨rfl,D⟩;refine tkR hK ?_ (λhHeld=>?_)
     ·exact bel (ad _) D
     clear hK K;refine θ ?_;refine tkD ?_;go_wp2_with fail;refine⟨⟨q+1,d+1+p.types[j].ctors[q].name.size+l,ω,by go_num,by first|rfl|(simp;done)|go_num,(by show _=_;rw[ax.o];omega),bel A (bel (ad _) D)⟩,by simp[intOf];omega⟩
    have U:=η (ii (f:=jo) I);go_wp2_with fail;exact⟨⟨j+1,d,ω,by go_num,rfl,(by show _=_;rw[aa.o,U.o];omega),bel F A⟩,by simp[intOf];omega⟩
  have U:=η (ii (f:=hZ) hlt);have d9:Hid (k=b+T1):=by show _=_;rw[HQ.o,U.o];omega
  obtain⟨T2,b6⟩:=γ (sumN szFn p.funs+sumN szAc p.actors)
  have d7:Hid (k=b+(sumN jZ (p.effects.drop 0)+T2)):=by show _=_;rw[d9.o,ee.o,b6];simp
  obtain⟨ed,eo⟩:=zd2 b6 F.o;obtain⟨W3,rfl⟩:=γ wr
  obtain⟨df,rfl⟩:=γ b
  clear b6;go_wp2_with fail;go_loopw [6,3] (λi v wr=>∃(j b:Nat),j<=p.effects/\i=.int .i64 j/\v=.int .i64 b/\Hid (k=b+(sumN jZ (p.effects.drop j)+T2))/\Hid (Below W1 W1 wr)) (λi _ _=>p.effects.length-(intOf i).toNat)
  case atStart=>exact⟨0,df,ω,rfl,rfl,d7,eo⟩
  case round =>
   obtain⟨j,b,hj,rfl,rfl,HQ,F⟩:=hrel;have c0:wr.cell? ⟨w,1,none⟩=some (.slice A1 p.effects q1):=(aH BX F).cell 1;by_cases hlt:j<p.effects
   ·have i1:(0:Int)<=(j:Int):=ω;have i2:(j:Int)<(p.effects.length:Int):=ω;obtain⟨g,aq,B0,d0,k2,s2,a2,B2,d2,hA,-,p0,p1,p2,p3,p4,-,ag,E,W⟩:=jC (PB.bel F).e hlt;obtain⟨an,aw⟩:=zd2 E W;obtain⟨l,y⟩:=γ (bY p.effects[j].params)
    obtain⟨J,N⟩:=γ (szTy 20 p.effects[j].answer)
    have H:k=b+(1+p.effects[j].name.size+l+J+(sumN jZ (p.effects.drop (j+1))+T2)):=by rw[HQ.o,jA hlt,y,N];unfold jZ;omega
    obtain⟨al,aj,ce⟩:=zd3 H y N;have b2:b+1+p.effects[j].name.size+l+J<=4000000000000:=by have:=ak.o;omega
    have ai:Hid (bY p.effects[j].params<=4000000000000):=by show _<=_;rw[<-y];omega
    have a5:Hid (szTy 20 p.effects[j].answer<=4000000000000):=by show _<=_;rw[<-N];omega
    have x0:=belW c0;have x1:=belW p0;have x2:=belW p1;have x3:=belW p2;have x4:=belW p3;have x5:=belW p4;have v1:IntKind.i64.wrap ((b:Int)+1)=(b:Int)+1:=bf ω ω;have v2:IntKind.i64.wrap ((b:Int)+1+(p.effects[j].name.size:Int))=(b:Int)+1+(p.effects[j].name.size:Int):=bf ω ω;have v3:IntKind.i64.wrap ((b:Int)+1+(p.effects[j].name.size:Int)+(l:Int))=(b:Int)+1+(p.effects[j].name.size:Int)+(l:Int):=bf ω ω;have v4:IntKind.i64.wrap ((b:Int)+1+(p.effects[j].name.size:Int)+(l:Int)+(J:Int))=(b:Int)+1+(p.effects[j].name.size:Int)+(l:Int)+(J:Int):=bf ω ω;subst hA;clear E W ag H y N;go_upto_region 13 with fail;refine tkB (λX=>Below wr wr X) (ad _) (λhHeld=>?_);refine θ ?_;refine tkE 16 (λK hK=>?_);go_simp;refine (iQ (FldsR.to an (ae (ad _))) ai).mono ?_;rw[<-aj.o];rintro e2 w2 ⟨rfl,D⟩;refine tkR hK ?_ (λhHeld=>?_)
    ·exact bel (ad _) D
    clear hK K;refine tkQ 17 ?_;refine tkE 24 (λK hK=>?_);go_simp;refine (od (aw.to (ae (bel (ad _) D))) ω ω a5).mono ?_;rw[<-ce.o];rintro e3 w3 ⟨rfl,B⟩;refine tkR hK ?_ (λhHeld=>?_)
    ·exact bel (bel (ad _) D) B
    clear hK K;refine θ ?_;refine tkD ?_;go_wp2_with fail;refine⟨⟨j+1,b+1+p.effects[j].name.size+l+J,ω,by go_num,by first|rfl|(simp;done)|go_num,(by show _=_;rw[al.o];omega),bel F (bel (bel (ad _) D) B)⟩,by simp[intOf];omega⟩
   have U:=η (ii (f:=jZ) hlt);have d6:Hid (k=b+T2):=by show _=_;rw[HQ.o,U.o];omega
   obtain⟨T3,b5⟩:=γ (sumN szAc p.actors)
   have d5:Hid (k=b+(sumN szFn (p.funs.drop 0)+T3)):=by show _=_;rw[d6.o,ed.o,b5];simp
   obtain⟨ec,en⟩:=zd2 b5 F.o;obtain⟨W4,rfl⟩:=γ wr
   obtain⟨de,rfl⟩:=γ b
   clear b5;go_wp2_with fail;go_loopw [7,3] (λi v wr=>∃(j b:Nat),j<=p.funs/\i=.int .i64 j/\v=.int .i64 b/\Hid (k=b+(sumN szFn (p.funs.drop j)+T3))/\Hid (Below W1 W1 wr)) (λi _ _=>p.funs.length-(intOf i).toNat)
   case atStart=>exact⟨0,de,ω,rfl,rfl,d5,en⟩
   case round =>
    obtain⟨j,b,hj,rfl,rfl,HQ,F⟩:=hrel;have c0:wr.cell? ⟨w,2,none⟩=some (.slice A2 p.funs q2):=(aH BX F).cell 2;by_cases hlt:j<p.funs
    ·have i1:(0:Int)<=(j:Int):=ω;have i2:(j:Int)<(p.funs.length:Int):=ω;obtain⟨g,aq,B0,d0,k2,s2,a2,B2,d2,o9,y9,m9,r9,e9,D9,f9,hA,-,p0,p1,p2,p3,p4,p5,p6,p7,p8,p9,dm,-,b8,ag,E,W,ar⟩:=jd (PB.bel F).f hlt;obtain⟨r,O,V,u⟩:=κ wr #[.string p.funs[j].name,.slice B0 p.funs[j].params.length d0,k2,s2,.slice B2 a2 d2,.int .i64 p.funs[j].slots,o9,y9,m9,r9,.slice D9 e9 f9] 45
     obtain⟨av,an,aw,cf,cg⟩:=zd5 O (FldsR.to E (ae V)) (W.to (ae V)) (ar.to (ae V)) (bel F V);obtain⟨l,y⟩:=γ (bY p.funs[j].params)
     obtain⟨J,N⟩:=γ (szTy 20 p.funs[j].result)
     obtain⟨z3,a6⟩:=γ (szEx 50 p.funs[j].body)
     obtain⟨z4,ac⟩:=γ (jE p.funs[j].slots)
     have H:k=b+(1+p.funs[j].name.size+l+J+z3+z4+(sumN szFn (p.funs.drop (j+1))+T3)):=by rw[HQ.o,jA hlt,y,N,a6,ac];unfold szFn;omega
     obtain⟨al,aj,ce,dx,cd⟩:=zd5 H y N a6 ac;have b2:b+1+p.funs[j].name.size+l+J+z3+z4<=4000000000000:=by have:=ak.o;omega
     have ai:Hid (bY p.funs[j].params<=4000000000000):=by show _<=_;rw[<-y];omega
     have a5:Hid (szTy 20 p.funs[j].result<=4000000000000):=by show _<=_;rw[<-N];omega
     have dh:Hid (szEx 50 p.funs[j].body<=4000000000000):=by show _<=_;rw[<-a6];omega
     subst hA;clear E W ar ag H y N a6 ac O V b8;go_upto_region 18 with fail;rw[<-av.o];clear av p0 p1 p2 p3 p4 p5 p6 p7 p8 p9 dm;have x0:=belW (u.c 0);have x1:=belW (u.c 1);have x2:=belW (u.c 2);have x3:=belW (u.c 3);have x4:=belW (u.c 4);have x5:=belW (u.c 5);have x6:=belW (u.c 6);have x7:=belW (u.c 7);have x8:=belW (u.c 8);have x9:=belW (u.c 9);have fc:=belW (u.c 10);have v1:IntKind.i64.wrap ((b:Int)+1)=(b:Int)+1:=bf ω ω;have v2:IntKind.i64.wrap ((b:Int)+1+(p.funs[j].name.size:Int))=(b:Int)+1+(p.funs[j].name.size:Int):=bf ω ω;have v3:IntKind.i64.wrap ((b:Int)+1+(p.funs[j].name.size:Int)+(l:Int))=(b:Int)+1+(p.funs[j].name.size:Int)+(l:Int):=bf ω ω
     have v4:IntKind.i64.wrap ((b:Int)+1+(p.funs[j].name.size:Int)+(l:Int)+(J:Int))=(b:Int)+1+(p.funs[j].name.size:Int)+(l:Int)+(J:Int):=bf ω ω;have v5:IntKind.i64.wrap ((b:Int)+1+(p.funs[j].name.size:Int)+(l:Int)+(J:Int)+(z3:Int))=(b:Int)+1+(p.funs[j].name.size:Int)+(l:Int)+(J:Int)+(z3:Int):=bf ω ω;have v6:IntKind.i64.wrap ((b:Int)+1+(p.funs[j].name.size:Int)+(l:Int)+(J:Int)+(z3:Int)+(z4:Int))=(b:Int)+1+(p.funs[j].name.size:Int)+(l:Int)+(J:Int)+(z3:Int)+(z4:Int):=bf ω ω;have vs:=qY cd;refine tkB (λX=>Below r r X) (ad _) (λhHeld=>?_);refine θ ?_;refine tkE 8 (λK hK=>?_);go_simp;refine (iQ (FldsR.to an (ae (ad _))) ai).mono ?_;rw[<-aj.o];rintro e2 w2 ⟨rfl,D⟩;refine tkR hK ?_ (λhHeld=>?_)
     ·exact bel (ad _) D
     clear hK K;refine tkQ 9 ?_;refine tkE 12 (λK hK=>?_);go_simp;refine (od (aw.to (ae (bel (ad _) D))) ω ω a5).mono ?_;rw[<-ce.o];rintro e3 w3 ⟨rfl,B⟩;refine tkR hK ?_ (λhHeld=>?_)
     ·exact bel (bel (ad _) D) B
     clear hK K;refine tkQ 13 ?_;refine tkE 16 (λK hK=>?_);go_simp;refine (pb (cf.to (ae (bel (bel (ad _) D) B))) ω ω dh).mono ?_;rw[<-dx.o];rintro e4 w4 ⟨rfl,Z⟩;refine tkR hK ?_ (λhHeld=>?_)
     ·exact bel (bel (bel (ad _) D) B) Z
     clear hK K;refine θ ?_;refine tkD ?_;go_wp2_with fail;refine⟨⟨j+1,b+1+p.funs[j].name.size+l+J+z3+z4,ω,by go_num,by first|rfl|(simp;done)|go_num,(by show _=_;rw[al.o];omega),bel cg (bel (bel (bel (ad _) D) B) Z)⟩,by simp[intOf];omega⟩
    have U:=η (ii (f:=szFn) hlt);have d4:Hid (k=b+T3):=by show _=_;rw[HQ.o,U.o];omega
    have d3:Hid (k=b+sumN szAc (p.actors.drop 0)):=by show _=_;rw[d4.o,ec.o];simp
    have em:=η F.o;obtain⟨W6,rfl⟩:=γ wr
    obtain⟨dd,rfl⟩:=γ b
    go_wp2_with fail;go_loopw [9,3] (λi v wr=>∃(j b:Nat),j<=p.actors/\i=.int .i64 j/\v=.int .i64 b/\Hid (k=b+sumN szAc (p.actors.drop j))/\Hid (Below W1 W1 wr)) (λi _ _=>p.actors.length-(intOf i).toNat)
    case atStart=>exact⟨0,dd,ω,rfl,rfl,d3,em⟩
    case round =>
     obtain⟨j,b,hj,rfl,rfl,HQ,F⟩:=hrel;obtain⟨R,rfl⟩:=γ wr
     have c0:R.cell? ⟨w,3,none⟩=some (.slice A3 p.actors q3):=(aH BX F).cell 3;by_cases hlt:j<p.actors
     ·have i1:(0:Int)<=(j:Int):=ω;have i2:(j:Int)<(p.actors.length:Int):=ω;obtain⟨g,aq,A9,q9,B0,d0,D0,e0,hA,-,p0,p1,p2,p3,p4,p5,p6,-,b8,ag,E,bz,b0⟩:=fR (PB.bel F).a hlt;have lv:=bz.le9;have lh:=b0.le9;obtain⟨r,O,V,u⟩:=κ R #[.string p.actors[j].name,.slice A9 p.actors[j].params.length q9,.int .i64 p.actors[j].slots,.slice B0 p.actors[j].vars.length d0,.slice D0 p.actors[j].on.length e0,.int .i64 p.actors[j].policy,.int .i64 p.actors[j].most] 54
      obtain⟨av,an,dy,eh,cg⟩:=zd5 O (FldsR.to E (ae V)) (SlR.to' bz (ae V) (λ_ _ x=>x.to (ae V))) (SlR.to' b0 (ae V) (λ_ _ x=>x.to (ae V))) (bel F V);obtain⟨l,y⟩:=γ (bY p.actors[j].params)
      obtain⟨z4,ac⟩:=γ (jE p.actors[j].slots)
      obtain⟨T5,b3⟩:=γ (sumN szAc (p.actors.drop (j+1)))
      obtain⟨T4,b4⟩:=γ (sumN szHd p.actors[j].on+T5)
      have H:k=b+1+p.actors[j].name.size+l+z4+(sumN szVr (p.actors[j].vars.drop 0)+T4):=by rw[HQ.o,jA hlt,y,ac,b4,b3];unfold szAc;simp only[List.drop_zero];omega
      obtain⟨al,aj,cd,eb,ea⟩:=zd5 H y ac b4 b3;have b2:b+1+p.actors[j].name.size+l+z4<=4000000000000:=by have:=ak.o;omega
      have ai:Hid (bY p.actors[j].params<=4000000000000):=by show _<=_;rw[<-y];omega
      subst hA;clear E bz b0 ag H y ac b4 b3 O V b8;go_upto_region 23 with fail;rw[<-av.o];clear av p0 p1 p2 p3 p4 p5 p6;have x0:=belW (u.c 0);have x1:=belW (u.c 1);have x2:=belW (u.c 2);have v1:IntKind.i64.wrap ((b:Int)+1)=(b:Int)+1:=bf ω ω;have v2:IntKind.i64.wrap ((b:Int)+1+(p.actors[j].name.size:Int))=(b:Int)+1+(p.actors[j].name.size:Int):=bf ω ω;have v3:IntKind.i64.wrap ((b:Int)+1+(p.actors[j].name.size:Int)+(l:Int))=(b:Int)+1+(p.actors[j].name.size:Int)+(l:Int):=bf ω ω;have v4:IntKind.i64.wrap ((b:Int)+1+(p.actors[j].name.size:Int)+(l:Int)+(z4:Int))=(b:Int)+1+(p.actors[j].name.size:Int)+(l:Int)+(z4:Int):=bf ω ω;have vs:=qY cd;refine tkB (λX=>Below r r X) (ad _) (λhHeld=>?_);refine θ ?_
      refine θ ?_;refine tkE 8 (λK hK=>?_);go_simp;refine (iQ (FldsR.to an (ae (ad _))) ai).mono ?_;rw[<-aj.o];rintro e2 w2 ⟨rfl,D⟩;refine tkR hK ?_ (λhHeld=>?_)
      ·exact bel (ad _) D
      clear hK K;refine θ ?_;refine tkD ?_;have ep:Hid (Below r r w2):=bel (ad _) D;clear x0 x1 x2 v1 v2 v3 v4 vs;go_wp2_with fail;go_loopw [11,3] (λi v wr=>∃(q d:Nat),q<=p.actors[j].vars.length/\i=.int .i64 q/\v=.int .i64 d/\Hid (k=d+(sumN szVr (p.actors[j].vars.drop q)+T4))/\Hid (Below r r wr)) (λi _ _=>p.actors[j].vars.length-(intOf i).toNat)
      case atStart=>exact⟨0,b+1+p.actors[j].name.size+l+z4,ω,rfl,by first|rfl|(simp;done),al,ep⟩
      case round =>
       obtain⟨q,d,hq,rfl,rfl,aa,A⟩:=hrel;have k0:wr.cell? ⟨R,3,none⟩=some (.slice B0 p.actors[j].vars.length d0):=(aH u A).cell 3;by_cases I:q<p.actors[j].vars.length
       ·have i3:(0:Int)<=(q:Int):=ω;have i4:(q:Int)<(p.actors[j].vars.length:Int):=ω;obtain⟨g2,bu,k2,s2,a2,B2,d2,o9,y9,m9,r9,e9,D9,f9,au,-,r0,r1,r2,r3,r4,r5,r6,r7,r8,-,af,W,ar⟩:=ku (SlR.to' dy (ae A) (λ_ _ x=>x.to (ae A))) I;obtain⟨aw,cf⟩:=zd2 W ar;obtain⟨G,M⟩:=γ (szTy 20 p.actors[j].vars[q].type)
        obtain⟨T,L⟩:=γ (szEx 50 p.actors[j].vars[q].init)
        have Y:k=d+(1+p.actors[j].vars[q].name.size+G+T+(sumN szVr (p.actors[j].vars.drop (q+1))+T4)):=by rw[aa.o,jA I,M,L];unfold szVr;omega
        obtain⟨ax,cc,cb⟩:=zd3 Y M L;have dr:d+1+p.actors[j].vars[q].name.size+G+T<=4000000000000:=by have:=ak.o;omega
        have a4:Hid (szTy 20 p.actors[j].vars[q].type<=4000000000000):=by show _<=_;rw[<-M];omega
        have a3:Hid (szEx 50 p.actors[j].vars[q].init<=4000000000000):=by show _<=_;rw[<-L];omega
        have x0:=belW k0;have x1:=belW r0;have x2:=belW r1;have x3:=belW r2;have x4:=belW r3;have x5:=belW r4;have x6:=belW r5;have x7:=belW r6;have x8:=belW r7;have x9:=belW r8;have v1:IntKind.i64.wrap ((d:Int)+1)=(d:Int)+1:=bf ω ω;have v2:IntKind.i64.wrap ((d:Int)+1+(p.actors[j].vars[q].name.size:Int))=(d:Int)+1+(p.actors[j].vars[q].name.size:Int):=bf ω ω;have v3:IntKind.i64.wrap ((d:Int)+1+(p.actors[j].vars[q].name.size:Int)+(G:Int))=(d:Int)+1+(p.actors[j].vars[q].name.size:Int)+(G:Int):=bf ω ω;have v4:IntKind.i64.wrap ((d:Int)+1+(p.actors[j].vars[q].name.size:Int)+(G:Int)+(T:Int))=(d:Int)+1+(p.actors[j].vars[q].name.size:Int)+(G:Int)+(T:Int):=bf ω ω;subst au;clear W ar af Y M L;go_upto_region 27 with fail;refine tkB (λX=>Below wr wr X) (ad _) (λhHeld=>?_);refine θ ?_;refine tkE 16 (λK hK=>?_);go_simp;refine (od (aw.to (ae (ad _))) ω ω a4).mono ?_;rw[<-cc.o];rintro e2 w3 ⟨rfl,B⟩;refine tkR hK ?_ (λhHeld=>?_)
        ·exact bel (ad _) B
        clear hK K;refine tkQ 17 ?_;refine tkE 24 (λK hK=>?_);go_simp;refine (pb (cf.to (ae (bel (ad _) B))) ω ω a3).mono ?_;rw[<-cb.o];rintro e3 w4 ⟨rfl,Z⟩;refine tkR hK ?_ (λhHeld=>?_)
        ·exact bel (bel (ad _) B) Z
        clear hK K;refine θ ?_;refine tkD ?_;go_wp2_with fail;refine⟨⟨q+1,d+1+p.actors[j].vars[q].name.size+G+T,ω,by go_num,by first|rfl|(simp;done)|go_num,(by show _=_;rw[ax.o];omega),bel A (bel (bel (ad _) B) Z)⟩,by simp[intOf];omega⟩
       have U:=η (ii (f:=szVr) I);have d1:Hid (k=d+(sumN szHd (p.actors[j].on.drop 0)+T5)):=by show _=_;rw[aa.o,U.o,eb.o];simp
       have el:=η A.o;obtain⟨Wb,rfl⟩:=γ wr
       obtain⟨dt,rfl⟩:=γ d
       go_wp2_with fail;go_loopw [12,3] (λi v wr=>∃(q d:Nat),q<=p.actors[j].on.length/\i=.int .i64 q/\v=.int .i64 d/\Hid (k=d+(sumN szHd (p.actors[j].on.drop q)+T5))/\Hid (Below r r wr)) (λi _ _=>p.actors[j].on.length-(intOf i).toNat)
       case atStart=>exact⟨0,dt,ω,rfl,rfl,d1,el⟩
       case round =>
        obtain⟨q,d,hq,rfl,rfl,aa,A⟩:=hrel;have k0:wr.cell? ⟨R,4,none⟩=some (.slice D0 p.actors[j].on.length e0):=(aH u A).cell 4;by_cases I:q<p.actors[j].on.length
        ·have i3:(0:Int)<=(q:Int):=ω;have i4:(q:Int)<(p.actors[j].on.length:Int):=ω;obtain⟨g2,bu,A8,q8,D8,d8,au,-,r0,r1,r2,r3,-,db,af,E,cy⟩:=lG (SlR.to' eh (ae A) (λ_ _ x=>x.to (ae A))) I;obtain⟨ei,ef⟩:=zd2 E cy;obtain⟨G,M⟩:=γ (bY p.actors[j].on[q].params)
         obtain⟨T,L⟩:=γ (ek 50 p.actors[j].on[q].body)
         obtain⟨z8,bx⟩:=γ (jE p.actors[j].on[q].slots)
         have Y:k=d+(1+p.actors[j].on[q].msg.size+G+T+z8+(sumN szHd (p.actors[j].on.drop (q+1))+T5)):=by rw[aa.o,jA I,M,L,bx];unfold szHd;omega
         obtain⟨ax,cc,cb,dw⟩:=zd4 Y M L bx;have dr:d+1+p.actors[j].on[q].msg.size+G+T+z8<=4000000000000:=by have:=ak.o;omega
         have a4:Hid (bY p.actors[j].on[q].params<=4000000000000):=by show _<=_;rw[<-M];omega
         have a3:Hid (ek 50 p.actors[j].on[q].body<=4000000000000):=by show _<=_;rw[<-L];omega
         have x0:=belW k0;have x1:=belW r0;have x2:=belW r1;have x3:=belW r2;have x4:=belW r3;have v1:IntKind.i64.wrap ((d:Int)+1)=(d:Int)+1:=bf ω ω;have v2:IntKind.i64.wrap ((d:Int)+1+(p.actors[j].on[q].msg.size:Int))=(d:Int)+1+(p.actors[j].on[q].msg.size:Int):=bf ω ω;have v3:IntKind.i64.wrap ((d:Int)+1+(p.actors[j].on[q].msg.size:Int)+(G:Int))=(d:Int)+1+(p.actors[j].on[q].msg.size:Int)+(G:Int):=bf ω ω;have v4:IntKind.i64.wrap ((d:Int)+1+(p.actors[j].on[q].msg.size:Int)+(G:Int)+(T:Int))=(d:Int)+1+(p.actors[j].on[q].msg.size:Int)+(G:Int)+(T:Int):=bf ω ω;have v5:IntKind.i64.wrap ((d:Int)+1+(p.actors[j].on[q].msg.size:Int)+(G:Int)+(T:Int)+(z8:Int))=(d:Int)+1+(p.actors[j].on[q].msg.size:Int)+(G:Int)+(T:Int)+(z8:Int):=bf ω ω;have vt:=qY dw;subst au;clear E cy af db Y M L bx;go_upto_region 31 with fail;refine tkB (λX=>Below wr wr X) (ad _) (λhHeld=>?_);refine θ ?_;refine tkE 16 (λK hK=>?_);go_simp
         refine (iQ (FldsR.to ei (ae (ad _))) a4).mono ?_;rw[<-cc.o];rintro e2 w3 ⟨rfl,B⟩;refine tkR hK ?_ (λhHeld=>?_)
         ·exact bel (ad _) B
         clear hK K;refine tkQ 17 ?_;refine tkE 24 (λK hK=>?_);go_simp;refine (vQ (StsR.to ef (ae (bel (ad _) B))) ω ω a3).mono ?_;rw[<-cb.o];rintro e3 w4 ⟨rfl,Z⟩;refine tkR hK ?_ (λhHeld=>?_)
         ·exact bel (bel (ad _) B) Z
         clear hK K;refine θ ?_;refine tkD ?_;go_wp2_with fail;refine⟨⟨q+1,d+1+p.actors[j].on[q].msg.size+G+T+z8,ω,by go_num,by first|rfl|(simp;done)|go_num,(by show _=_;rw[ax.o];omega),bel A (bel (bel (ad _) B) Z)⟩,by simp[intOf];omega⟩
        have U:=η (ii (f:=szHd) I);go_wp2_with fail;exact⟨⟨j+1,d,ω,by go_num,rfl,(by show _=_;rw[aa.o,U.o,ea.o];omega),bel cg A⟩,by simp[intOf];omega⟩
     have U:=η (ii (f:=szAc) hlt);have dz:k=b:=by rw[HQ.o,U.o];omega
     subst dz;go_wp2;go_ret;exact⟨rfl,bel eq F⟩
end
section
section
variable {p:Pg} {B b:Nat} {d:DB} {vF vD:Value} {w w':À} {st:Dg}
def DgR.numbered {n:Int} (h:DgR p B b d vF vD w st) (hb:b<w) (hp:posI st.funs n=none) {vv:Value} {w4 w5:À} {ob:Obj}
 (h4:MapIs prog 3 (Lit.int .i64) w4 d.mN (st.funs+1) (upd (posV st.funs) n (some (.int .i64 ((st.funs.length:Nat):Int))))) (g4:w.grownBy w4 (some d.mN))
 (hown:w5.ownsRow B 3 1 vv (st.funs+1) (oI st.funs++[.int .i64 n])) (g5:(w4.alloc ob).grownBy w5 vF.ownBlock) (hvb:vv.ownBlock=vF.ownBlock\/vv.ownBlock=some (w4.alloc ob).heap.size) :
 DgR p B b d vv vD (w5.setCell d.gF vv) ⟨st.funs++[n],st.names⟩/\Stp (oF d vF) w (w5.setCell d.gF vv):=by
 have z:Stp (oF d vF) w w4:=⟨g4.os,g4.tape,g4.output,g4.size,λk hk hn=>g4.block k hk (λe=>hn (.inl (by injection e)))⟩
 have f:Stp (oF d vF) w (w4.alloc ob):=stpA z ob;have y:Stp (oF d vF) w w5:=⟨g5.os.trans f.os,g5.tape.trans f.tape,g5.output.trans f.output,ψ f.size g5.size,λk hk hn=>(g5.block k (ρ hk f.size) (λe=>hn (.inr (.inr e.symm)))).trans (f.block k hk hn)⟩
 have a:Stp (oF d vF) w (w5.setCell d.gF vv):=y.trans ⟨rfl,rfl,rfl,by simp[World.setCell],λk _ hk=>Below.heap_setCell _ _ _ _ (λe=>hk (.inr (.inl e)))⟩;have r:d.gF≠d.mN:=eu h.hF h.iN;have q:vF.ownBlock≠some d.gF:=fK h.rF h.hF π;have E:vF.ownBlock≠some d.mN:=gp h.rF h.iN;have I:w<=(w4.alloc ob).heap.size:=f.size;have J:w4+1=(w4.alloc ob).heap.size:=by simp
 have j:∀k,k<w.heap.size->vF.ownBlock≠some k->vv.ownBlock≠some k:=λk hk hv e=>by
  rcases hvb with x|x
  ·exact hv (by rw[<-x,e])
  rw[e] at x;injection x with x;omega
 have v:Hs w5 d.gF 104 #[vF]:=by
  have H:Hs w4 d.gF 104 #[vF]:=(g4.block _ h.hF.lt (λe=>r (by injection e))).trans h.hF;have l:Hs (w4.alloc ob) d.gF 104 #[vF]:=fu H ob;exact (g5.block _ l.lt (λe=>q e.symm)).trans l
 have t:MapIs prog 3 (Lit.int .i64) w5 d.mN (st.funs+1) (upd (posV st.funs) n (some (.int .i64 ((st.funs.length:Nat):Int)))):=by
  have l:=h4.alloc ob;exact l.same (g5.block _ l.lt (λe=>E e.symm))
 have hlt:∀g,vD.ownBlock=some g->g<w.heap.size:=λg hg=>by
  obtain⟨_,c,L,G⟩:=eB h.rD _ hg;exact (Array.getElem?_eq_some_iff.1 G).1
 have i:¬(oF d vF) d.gN/\¬(oF d vF) d.gS/\¬(oF d vF) d.gT/\¬(oF d vF) d.gD/\¬(oF d vF) d.mS/\¬(oF d vF) d.mT:=by
  refine⟨?_,?_,?_,?_,?_,?_⟩
  ·rintro (x|x|x)
   ·exact eu h.hN h.iN x
   ·exact absurd (nI h.hN (x▸h.hF)) π
   exact fK h.rF h.hN π x
  ·rintro (x|x|x)
   ·exact eu h.hS h.iN x
   ·exact absurd (nI h.hS (x▸h.hF)) π
   exact fK h.rF h.hS π x
  ·rintro (x|x|x)
   ·exact eu h.hT h.iN x
   ·exact absurd (nI h.hT (x▸h.hF)) π
   exact fK h.rF h.hT π x
  ·rintro (x|x|x)
   ·exact eu h.hD h.iN x
   ·exact h.ok.dist.1 x.symm
   exact fK h.rF h.hD π x
  ·rintro (x|x|x)
   ·exact h.ok.dist.2.1 x.symm
   ·exact eu h.hF h.iS x.symm
   exact gp h.rF h.iS x
  rintro (x|x|x)
  ·exact h.ok.dist.2.2.1 x.symm
  ·exact eu h.hF h.iT x.symm
  exact gp h.rF h.iT x
 have D:∀g,vD.ownBlock=some g->¬(oF d vF) g:=λg hg=>by
  rintro (x|x|x)
  ·exact gp h.rD h.iN (x▸hg)
  ·exact fK h.rD h.hF π (x▸hg)
  exact h.sep g x hg
 have A:(w5.setCell d.gF vv).ownsRow B 3 1 vv (st.funs+1) (oI st.funs++[.int .i64 n]):=aI hown (cu _ _ _) (λk hk e=>j d.gF h.hF.lt q (by rw[hk,show k=d.gF from e]));have F:Hs (w5.setCell d.gF vv) d.gF 104 #[vv]:=(heap_setCell_same _ _ _ _ _ _ v).trans rfl;have u:MapIs prog 3 (Lit.int .i64) (w5.setCell d.gF vv) d.mN (st.funs+1) (upd (posV st.funs) n (some (.int .i64 ((st.funs.length:Nat):Int)))):=t.setCell (λe=>r e.symm) _;rw[wy hp] at u;exact⟨⟨h.ok,bp h.hN a i.1,bp h.hS a i.2.1,bp h.hT a i.2.2.1,F,bp h.hD a i.2.2.2.1,(by simpa using u),h.iS.same (a.block _ h.iS.lt i.2.2.2.2.1),h.iT.same (a.block _ h.iT.lt i.2.2.2.2.2),(by simpa[oI] using A),aI h.rD a D,j b hb h.bF,h.bD,(λg hg e=>j g (hlt g e) (λx=>h.sep g x e) hg),ψ h.szB a.size⟩,a⟩
def DgR.named {s:List UInt8} (h:DgR p B b d vF vD w st) (hb:b<w) {vv:Value} {w4 w5:À} {ob:Obj}
 (h4:MapIs prog 9 Lit.string w4 d.mS (st.names+1) (upd (iM st.names) s (some (true:Vl)))) (g4:w.grownBy w4 (some d.mS))
 (hown:w5.ownsRow B 3 1 vv (st.names+1) (ints (oT p st.names)++[.int .i64 (((idxP p.tyNames s).getD 0:Nat):Int)])) (g5:(w4.alloc ob).grownBy w5 vD.ownBlock) (hvb:vv.ownBlock=vD.ownBlock\/vv.ownBlock=some (w4.alloc ob).heap.size) :
 DgR p B b d vF vv (w5.setCell d.gD vv) ⟨st.funs,st.names++[s]⟩/\Stp (oD d vD) w (w5.setCell d.gD vv):=by
 have z:Stp (oD d vD) w w4:=⟨g4.os,g4.tape,g4.output,g4.size,λk hk hn=>g4.block k hk (λe=>hn (.inl (by injection e)))⟩
 have f:Stp (oD d vD) w (w4.alloc ob):=stpA z ob;have y:Stp (oD d vD) w w5:=⟨g5.os.trans f.os,g5.tape.trans f.tape,g5.output.trans f.output,ψ f.size g5.size,λk hk hn=>(g5.block k (ρ hk f.size) (λe=>hn (.inr (.inr e.symm)))).trans (f.block k hk hn)⟩
 have a:Stp (oD d vD) w (w5.setCell d.gD vv):=y.trans ⟨rfl,rfl,rfl,by simp[World.setCell],λk _ hk=>Below.heap_setCell _ _ _ _ (λe=>hk (.inr (.inl e)))⟩;have r:d.gD≠d.mS:=eu h.hD h.iS;have q:vD.ownBlock≠some d.gD:=fK h.rD h.hD π;have E:vD.ownBlock≠some d.mS:=gp h.rD h.iS;have I:w<=(w4.alloc ob).heap.size:=f.size;have J:w4+1=(w4.alloc ob).heap.size:=by simp
 have j:∀k,k<w.heap.size->vD.ownBlock≠some k->vv.ownBlock≠some k:=λk hk hv e=>by
  rcases hvb with x|x
  ·exact hv (by rw[<-x,e])
  rw[e] at x;injection x with x;omega
 have v:Hs w5 d.gD 104 #[vD]:=by
  have H:Hs w4 d.gD 104 #[vD]:=(g4.block _ h.hD.lt (λe=>r (by injection e))).trans h.hD;have l:Hs (w4.alloc ob) d.gD 104 #[vD]:=fu H ob;exact (g5.block _ l.lt (λe=>q e.symm)).trans l
 have t:MapIs prog 9 Lit.string w5 d.mS (st.names+1) (upd (iM st.names) s (some (true:Vl))):=by
  have l:=h4.alloc ob;exact l.same (g5.block _ l.lt (λe=>E e.symm))
 have hlt:∀g,vF.ownBlock=some g->g<w.heap.size:=λg hg=>by
  obtain⟨_,c,L,G⟩:=eB h.rF _ hg;exact (Array.getElem?_eq_some_iff.1 G).1
 have i:¬(oD d vD) d.gN/\¬(oD d vD) d.gS/\¬(oD d vD) d.gT/\¬(oD d vD) d.gF/\¬(oD d vD) d.mN/\¬(oD d vD) d.mT:=by
  refine⟨?_,?_,?_,?_,?_,?_⟩
  ·rintro (x|x|x)
   ·exact eu h.hN h.iS x
   ·exact absurd (nI h.hN (x▸h.hD)) π
   exact fK h.rD h.hN π x
  ·rintro (x|x|x)
   ·exact eu h.hS h.iS x
   ·exact absurd (nI h.hS (x▸h.hD)) π
   exact fK h.rD h.hS π x
  ·rintro (x|x|x)
   ·exact eu h.hT h.iS x
   ·exact absurd (nI h.hT (x▸h.hD)) π
   exact fK h.rD h.hT π x
  ·rintro (x|x|x)
   ·exact eu h.hF h.iS x
   ·exact h.ok.dist.1 x
   exact fK h.rD h.hF π x
  ·rintro (x|x|x)
   ·exact h.ok.dist.2.1 x
   ·exact eu h.hD h.iN x.symm
   exact gp h.rD h.iN x
  rintro (x|x|x)
  ·exact h.ok.dist.2.2.2 x.symm
  ·exact eu h.hD h.iT x.symm
  exact gp h.rD h.iT x
 have D:∀g,vF.ownBlock=some g->¬(oD d vD) g:=λg hg=>by
  rintro (x|x|x)
  ·exact gp h.rF h.iS (x▸hg)
  ·exact fK h.rF h.hD π (x▸hg)
  exact h.sep g hg x
 have A:(w5.setCell d.gD vv).ownsRow B 3 1 vv (st.names+1) (ints (oT p st.names)++[.int .i64 (((idxP p.tyNames s).getD 0:Nat):Int)]):=aI hown (cu _ _ _) (λk hk e=>j d.gD h.hD.lt q (by rw[hk,show k=d.gD from e]));have F:Hs (w5.setCell d.gD vv) d.gD 104 #[vv]:=(heap_setCell_same _ _ _ _ _ _ v).trans rfl;have u:MapIs prog 9 Lit.string (w5.setCell d.gD vv) d.mS (st.names+1) (upd (iM st.names) s (some (true:Vl))):=t.setCell (λe=>r e.symm) _;rw[tF] at u;exact⟨⟨h.ok,bp h.hN a i.1,bp h.hS a i.2.1,bp h.hT a i.2.2.1,bp h.hF a i.2.2.2.1,F,h.iN.same (a.block _ h.iN.lt i.2.2.2.2.1),(by simpa using u),h.iT.same (a.block _ h.iT.lt i.2.2.2.2.2),aI h.rF a D,(by simpa[ints,oT] using A),h.bF,j b hb h.bD,(λg hg e=>j g (hlt g hg) (λx=>h.sep g hg x) e),ψ h.szB a.size⟩,a⟩
end
set_option maxRecDepth 100000
set_option maxHeartbeats 2000000
def wz {l:List Int} {n:Int} (h:posI l n=none):posV (l++[n]) n=some (.int .i64 ((l.length:Nat):Int)):=by unfold posV;rw[pX l n h];simp
def declV_at (l:List (List UInt8)) (s:List UInt8):(idxF l l s).getD (.int .i64 0)=.int .i64 (((idxP l s).getD 0:Nat):Int):=by
 unfold idxF idxP
 cases cB l l s<;>rfl
section
variable {p:Pg} {B b:Nat} {d:DB} {vF vD:Value} {w w':À} {st:Dg} {fv nv:Value} {out:List UInt8}
def DigFun (p:Pg) (B b:Nat) (d:DB) (fv nv:Value) (out:List UInt8) (vD:Value) (v:Value) (st:Dg) (w:À) (e:Ending) (w':À):Prop:=e=.returned v/\WrAt B b fv nv out w'/\(∃vF',DgR p B b d vF' vD w' st)/\Ch (wM B b) w w'
def DigNam (p:Pg) (B b:Nat) (d:DB) (fv nv:Value) (out:List UInt8) (vF:Value) (st:Dg) (w:À) (e:Ending) (w':À):Prop:=e=.returned (.tuple #[])/\WrAt B b fv nv out w'/\(∃vD',DgR p B b d vF vD' w' st)/\Ch (wM B b) w w'
def dig_fun (h:DgR p B b d vF vD w st) (hw:WrAt B b fv nv out w) (hl:st.funs<=wTop) {n:Int} (hn:i64 n) :
 Calls prog 45 #[n,d.gN,d.gF] w (DigFun p B b d fv nv out vD (.int .i64 (dgN.num st n).1) (dgN.num st n).2 w):=by
 obtain⟨a,HW,HN⟩:=zd3 h hw hn;have c0:=h.hN.c 0;have T:=qL h.iN hn;have X:=oJ h.iN hn
 cases hp:posI st.funs n with
 | some i =>
  have u:posV st.funs n=some (.int .i64 ((i:Nat):Int)):=by unfold posV;rw[hp];rfl
  rw[u] at T X;have r:Hid (dgN.num st n=(((i:Nat):Int),st)):=by show _=_;simp only[dgN,hp]
  go_in;go_wp2;go_ret;rw[r.o];exact⟨rfl,HW,⟨_,a⟩,Ch.refl _ _⟩
 | none =>
  have u:posV st.funs n=none:=by unfold posV;rw[hp];rfl
  rw[u] at T;have ab:Hid (dgN.num st n=(((st.funs.length:Nat):Int),⟨st.funs++[n],st.names⟩)):=by show _=_;simp only[dgN,hp]
  obtain⟨N,ai⟩:=zd2 hp u;obtain⟨x,v,A⟩:=bU h.rF;have r:=η A;have aj:Hid (b<w):=hw.lt;obtain⟨y,L,I,J,M⟩:=jz;have t:Hid (prog.info? 3=some y/\y.zero=some (.int .i64 0)/\y.size=1/\y.bytes=8):=⟨L,I,J,M⟩
  have f0:w.cell? d.gF=some (.slice x st.funs v):=by have:=h.hF.cell 0;rw[A] at this;exact this
  have aq:st.funs.length<=1099511627776:=hl;have H:st.funs<maxLen:=by unfold maxLen;omega
  have ag:=η H;go_in;go_upto_region 4 with (refine ak _ rfl _ _ _ 102 (.inl rfl) 3 (bh underlying3) underlying102 d.mN st.funs (posV st.funs) rfl a.iN ag n (n:Vl) (.int .i64 ((st.funs.length:Nat):Int)) rfl rfl (aw underlying3 HN) ?_;intro l D j;rw[ai.o] at D);have af:Hid (MapIs prog 3 (Lit.int .i64) l d.mN (st.funs+1) (upd (posV st.funs) n (some (.int .i64 ((st.funs.length:Nat):Int))))):=D;have ah:=η j;have W:d.gF≠d.mN:=eu a.hF a.iN;have V:vF.ownBlock≠some d.mN:=gp a.rF a.iN;have R:vF.ownBlock≠some d.gF:=fK a.rF a.hF π;have U:Hs l d.gF 104 #[vF]:=(j.block _ a.hF.lt (λe=>W (by injection e))).trans a.hF;have f4:l.cell? d.gF=some (.slice x st.funs v):=by have:=U.cell 0;rw[r.o] at this;exact this
  have O:l.ownsRow B 3 1 vF st.funs (oI st.funs):=aI a.rF (P:=only d.mN) ⟨j.os,j.tape,j.output,j.size,λk hk hn=>j.block k hk (λe=>hn (by injection e))⟩ (λk hk e=>V (by rw[hk,show k=d.mN from e]))
  have ad:Hid ((l.alloc (.cells #[n] 3)).ownsRow B 3 1 (.slice x st.funs v) st.funs (oI st.funs)):=by
   rw[r.o] at O;exact aI O (stpA (Stp.refl (λ_=>False) l) _) (λ_ _ e=>e)
  have ac:Hid (B<=(l.alloc (.cells #[n] 3)).heap.size):=by show _<=_;have:=a.szB;have:=j.size;simp;omega
  have E:=fu U (.cells #[n] 3)
  have Z:Hid (∀f,(l.alloc (.cells #[n] 3)).grownBy f (Value.slice x st.funs v).ownBlock->f.cell? d.gF=some vF):=λf hg=>by
   have:Hs f d.gF 104 #[vF]:=(hg.block _ E.lt (λe=>R (by rw[r.o];exact e.symm))).trans E;exact this.cell 0
  have Y:Hid (∀f,(l.alloc (.cells #[n] 3)).grownBy f (Value.slice x st.funs v).ownBlock->f.frozen? d.gF=false):=λf hg=>by
   have:Hs f d.gF 104 #[vF]:=(hg.block _ E.lt (λe=>R (by rw[r.o];exact e.symm))).trans E;exact Lib.frozen_of_heap this 0
  go_wp2_with (at_builtin;refine wpList_append_own_at _ rfl (.tmp 19) (.tmp 21) 104 rfl B 3 y (.int .i64 0) 1 8 underlying104 t.1 t.2.1 t.2.2.1 t.2.2.2 rfl π (.slice x st.funs v) st.funs (oI st.funs) rfl ad l 1 1 [.int .i64 n] rfl rfl (ib (Hs.new _ _ _)) one1 Ξ ω ac ?_;intro vv f q g G z;obtain⟨A5,c5,rfl⟩:=bU q;have F:=η (a.numbered aj N af ah q (by rw[r.o];exact g) (by rw[r.o];exact z));have x0:f.cell? d.gF=some (vF):=Z f g;have x1:f.frozen? d.gF=false:=Y f g;have z0:(f.setCell d.gF (.slice A5 (st.funs+1) c5)).cell? d.gN=some (.map (some d.mN)):=F.1.hN.cell 0;have z1:=oJ F.1.iN HN;rw[wz N.o] at z1);go_ret;rw[ab.o];refine⟨?_,wr_stp HW F.2 (oF_wr a),⟨_,F.1⟩,mU F.2 (oF_may a)⟩;rfl
def dig_nam (h:DgR p B b d vF vD w st) (hw:WrAt B b fv nv out w) (hl:st.names<=wTop) {s:Ê} (hn:s.size<=maxLen) :
 Calls prog 46 #[s,d.gS,d.gD,d.gT] w (DigNam p B b d fv nv out vF (dgN.nam st s) w):=by
 obtain⟨a,HW,HN⟩:=zd3 h hw hn;have c0:=h.hS.c 0;have W:=xy h.iS hn;by_cases u:s.data.toList∈st.names
 ·have v:iM st.names s.data.toList=some (true:Vl):=by unfold iM;rw[if_pos u]
  rw[v] at W;have q:Hid (dgN.nam st s=st):=by show _=_;simp only[dgN];rw[if_pos u]
  clear h hw hn u v;go_in;go_wp2;go_end0;rw[q.o];exact⟨rfl,HW,⟨_,a⟩,Ch.refl _ _⟩
 have v:iM st.names s.data.toList=none:=by unfold iM;rw[if_neg u]
 rw[v] at W;have ag:Hid (dgN.nam st s=⟨st.funs,st.names++[s.data.toList]⟩):=by show _=_;simp only[dgN];rw[if_neg u]
 have ao:=η v;obtain⟨y,x,E⟩:=bU h.rD;have q:=η E;have ap:Hid (b<w):=hw.lt;obtain⟨A,N,J,M,O⟩:=jz;have r:Hid (prog.info? 3=some A/\A.zero=some (.int .i64 0)/\A.size=1/\A.bytes=8):=⟨N,J,M,O⟩
 have av:st.names.length<=1099511627776:=hl;have I:st.names<maxLen:=by unfold maxLen;omega
 have am:=η I;obtain⟨t,L⟩:=γ ((idxP p.tyNames s.data.toList).getD 0)
 have T:=η L;clear h hw hn u v hl N J M O E I L;go_in;go_upto_region 2 with (refine ak _ rfl _ _ _ 103 (.inl rfl) 4 (fL underlying9) underlying103 d.mS st.names (iM st.names) rfl a.iS am s.data.toList (s:Vl) (true:Vl) rfl rfl (keyOf_string_mk underlying9 HN) ?_;intro j F f;rw[ao.o] at F);have al:Hid (MapIs prog 9 Lit.string j d.mS (st.names+1) (upd (iM st.names) s.data.toList (some (true:Vl)))):=F;have an:=η f;have n1:d.gD≠d.mS:=eu a.hD a.iS;have n4:vD.ownBlock≠some d.mS:=gp a.rD a.iS;have V:vD.ownBlock≠some d.gD:=fK a.rD a.hD π;have n6:d.gT≠d.mS:=eu a.hT a.iS;have X:Hs j d.gD 104 #[vD]:=(f.block _ a.hD.lt (λe=>n1 (by injection e))).trans a.hD;have f4:j.cell? d.gD=some (.slice y st.names x):=by have:=X.cell 0;rw[q.o] at this;exact this
 have Z:Hs j d.gT 101 #[.map (some d.mT)]:=(f.block _ a.hT.lt (λe=>n6 (by injection e))).trans a.hT;have f5:=Z.c 0;have R:SMap j d.mT d.nT (idxF p.tyNames p.tyNames):=a.iT.same (f.block _ a.iT.lt (λe=>a.ok.dist.2.2.2 (by injection e with e;exact e.symm)));have l5:=cR R HN;rw[declV_at,<-T.o] at l5;have U:j.ownsRow B 3 1 vD st.names (ints (oT p st.names)):=aI a.rD (P:=only d.mS) ⟨f.os,f.tape,f.output,f.size,λk hk hn=>f.block k hk (λe=>hn (by injection e))⟩ (λk hk e=>n4 (by rw[hk,show k=d.mS from e]))
 have ai:Hid ((j.alloc (.cells #[.int .i64 ((t:Nat):Int)] 3)).ownsRow B 3 1 (.slice y st.names x) st.names (ints (oT p st.names))):=by
  rw[q.o] at U;exact aI U (stpA (Stp.refl (λ_=>False) j) _) (λ_ _ e=>e)
 have ah:Hid (B<=(j.alloc (.cells #[.int .i64 ((t:Nat):Int)] 3)).heap.size):=by show _<=_;have:=a.szB;have:=f.size;simp;omega
 have G:=fu X (.cells #[.int .i64 ((t:Nat):Int)] 3)
 have ae:Hid (∀g,(j.alloc (.cells #[.int .i64 ((t:Nat):Int)] 3)).grownBy g (Value.slice y st.names x).ownBlock->g.cell? d.gD=some vD):=λg hg=>by
  have:Hs g d.gD 104 #[vD]:=(hg.block _ G.lt (λe=>V (by rw[q.o];exact e.symm))).trans G;exact this.cell 0
 have ad:Hid (∀g,(j.alloc (.cells #[.int .i64 ((t:Nat):Int)] 3)).grownBy g (Value.slice y st.names x).ownBlock->g.frozen? d.gD=false):=λg hg=>by
  have:Hs g d.gD 104 #[vD]:=(hg.block _ G.lt (λe=>V (by rw[q.o];exact e.symm))).trans G;exact Lib.frozen_of_heap this 0
 clear F f n1 n4 V n6 X G U c0 W Z R;go_wp2_with (at_builtin;refine wpList_append_own_at _ rfl (.tmp 11) (.tmp 15) 104 rfl B 3 A (.int .i64 0) 1 8 underlying104 r.1 r.2.1 r.2.2.1 r.2.2.2 rfl π (.slice y st.names x) st.names (ints (oT p st.names)) rfl ai j 1 1 [.int .i64 ((t:Nat):Int)] rfl rfl (ib (Hs.new _ _ _)) one1 Ξ ω ah ?_;intro vv g l i H D;obtain⟨A5,c5,rfl⟩:=bU l;have Y:=η (a.named (s:=s.data.toList) ap al an (by rw[<-T.o];exact l) (by rw[q.o];exact i) (by rw[q.o];exact D));have x0:g.cell? d.gD=some (vD):=ae g i;have x1:g.frozen? d.gD=false:=ad g i;clear l i H D);go_end0;rw[ag.o];exact⟨rfl,wr_stp HW Y.2 (oD_wr a),⟨_,Y.1⟩,mU Y.2 (oD_may a)⟩
end
def fvD (d:DB):Value:=.func (.func 45) #[] #[d.gN,d.gF]
def nvD (d:DB):Value:=.func (.func 46) #[] #[d.gS,d.gD,d.gT]
def num_le {st:Dg} {n:Int} {k:Nat} (h:st.funs<=k) (hk:k<=wTop):i64 (dgN.num st n).1:=by
 have e:(dgN.num st n).1=match posI st.funs n with|some i=>((i:Nat):Int)|none=>((st.funs.length:Nat):Int):=by
  simp only[dgN];cases posI st.funs n<;>rfl
 rw[e];unfold i64 wTop at *
 cases hp:posI st.funs n with
 | none=>(constructor<;>dsimp only<;>omega)
 | some i=>have:=(posI_lt _ _ _ hp).1;constructor<;>dsimp only<;>omega
def rc (st:Dg) (n:Int):(dgN.num st n).2.funs.length<=st.funs+1/\(dgN.num st n).2.names=st.names:=by
 simp only[dgN]
 cases posI st.funs n<;>simp
def rh (st:Dg) (s:Ê):(dgN.nam st s).names.length<=st.names+1/\(dgN.nam st s).funs=st.funs:=by
 simp only[dgN];split<;>simp
def rq (p:Pg) (B b:Nat) (d:DB):WEnv dgN B b (fvD d) (nvD d) (DgRel p B b d) where
 keep w w' st k h hc:=by
  obtain⟨j,r,l,q,i⟩:=h;exact⟨j,r,l,q,i.keep hc⟩
 mono w st k k' h hk:=⟨ψ h.1 hk,ψ h.2.1 hk,h.2.2⟩
 num:=⟨45,_,rfl,(λa W'=>by kernel_rfl),λw st n k out hn hk hw h=>by
  obtain⟨j,r,l,q,i⟩:=h;refine (dig_fun i hw (ψ j hk) hn).mono ?_;rintro e w' ⟨rfl,f,⟨t,g⟩,hc⟩;refine⟨rfl,num_le j hk,f,⟨ψ (rc st n).1 ω,?_,t,q,g⟩,hc⟩;rw[(rc st n).2];omega⟩
 nam:=⟨46,_,rfl,(λa W'=>by kernel_rfl),λw st s k out hn hk hw h=>by
  obtain⟨j,r,l,q,i⟩:=h;refine (dig_nam i hw (ψ r hk) hn).mono ?_;rintro e w' ⟨rfl,f,⟨u,g⟩,hc⟩;refine⟨rfl,f,⟨?_,ψ (rh st s).1 ω,l,u,g⟩,hc⟩;rw[(rh st s).2];omega⟩
variable {B:Nat} {fv nv:Value} {out:List UInt8}
def WrAt.wk {B' b:Nat} {w:À} (h:WrAt B b fv nv out w) (hB:B'<=B):WrAt B' b fv nv out w:=by
 obtain⟨k,j,f,v,e,i,a,d⟩:=h;refine⟨ω,ω,f,v,e,i,⟨a.1,?_⟩,d⟩;rcases a.2 with hn|⟨g,cap,cur,rfl,hbg,rest⟩
 ·exact .inl hn
 exact .inr ⟨g,cap,cur,rfl,ω,rest⟩
def WrAt.setF {b:Nat} {w:À} (h:WrAt B b fv nv out w) (f:Value):WrAt B b f nv out (w.setCell ⟨b,2,none⟩ f):=by
 obtain⟨l,p,i,v,g,j,d,a⟩:=h;refine⟨l,by simp[World.setCell];omega,i,v,(heap_setCell_same _ _ _ _ _ _ g).trans rfl,j,aI d (cu _ _ _) (λk hk e=>a (by rw[hk,show k=b from e])),a⟩
def WrAt.setN {b:Nat} {w:À} (h:WrAt B b fv nv out w) (f:Value):WrAt B b fv f out (w.setCell ⟨b,3,none⟩ f):=by
 obtain⟨l,p,i,v,g,j,d,a⟩:=h;refine⟨l,by simp[World.setCell];omega,i,v,(heap_setCell_same _ _ _ _ _ _ g).trans rfl,j,aI d (cu _ _ _) (λk hk e=>a (by rw[hk,show k=b from e])),a⟩
def bZ (p:Pg):Nat->Nat->Dg->List UInt8×Dg
 | 0,_,st=>([],st)
 | k+1,i,st=>match st.funs[i]? with
  | none=>([],st)
  | some n=>match p.funs[n.toNat]? with
   | none=>([],st)
   | some f=>((wFn dgN st f).1++(bZ p k (i+1) (wFn dgN st f).2).1,(bZ p k (i+1) (wFn dgN st f).2).2)
def cC (p:Pg):Nat->Nat->Dg->List UInt8×Dg
 | 0,_,st=>([],st)
 | k+1,i,st=>match st.names[i]? with
  | none=>([],st)
  | some s=>match p.types[(idxP p.tyNames s).getD 0]? with
   | none=>([],st)
   | some f=>((wDcl dgN st f).1++(cC p k (i+1) (wDcl dgN st f).2).1,(cC p k (i+1) (wDcl dgN st f).2).2)
def dg0:Dg:=⟨[],[]⟩
def je (p:Pg) (a:Ac):List UInt8:=
 (wAc dgN dg0 a).1++((bZ p (p.funs+1) 0 (wAc dgN dg0 a).2).1++(cC p (p.types+1) 0 (bZ p (p.funs+1) 0 (wAc dgN dg0 a).2).2).1)
structure DgOk (p:Pg) (st:Dg):Prop where
 nf:st.funs.Nodup
 rf:∀n∈st.funs,0<=n/\n<(p.funs.length:Int)
 nn:st.names.Nodup
 rn:∀s∈st.names,s∈p.tyNames
structure DigOk (p:Pg):Prop where
 ac:∀a∈p.actors,∀st,DgOk p st->DgOk p (wAc dgN st a).2
 fn:∀f∈p.funs,∀st,DgOk p st->DgOk p (wFn dgN st f).2
 ty:∀f∈p.types,∀st,DgOk p st->DgOk p (wDcl dgN st f).2
def digP (p:Pg) (M:Nat) (s:List UInt8):List Nat:=match idxP p.acNames s with
 | none=>List.replicate 32 0
 | some i=>if aW p M then (match p.actors[i]? with|none=>List.replicate 32 0|some a=>ShaT.shaS (je p a |>.map UInt8.toNat)) else List.replicate 32 0
def dbOf (n gT mT nT:Nat):DB:=⟨n+1+1,n+1+1+1+1,n+1+1+1,n+1+1+1+1+1,gT,n,n+1,mT,nT⟩
def dw5 (W:À):À:=(((((W.alloc (.map #[] 0)).alloc (.map #[] 0)).alloc (.cells #[.map (some W)] 102)).alloc (.cells #[.map (some (W+1))] 103)).alloc (.cells #[()] 104)).alloc (.cells #[()] 104)
def dw6 (W:À) (b:Nat) (d:DB):À:=((dw5 W).setCell ⟨b,2,none⟩ (fvD d)).setCell ⟨b,3,none⟩ (nvD d)
def rt (W:À):Below W W (dw5 W):=by unfold dw5;exact ζ6
def dw5_size (W:À):(dw5 W).heap.size=W+6:=by unfold dw5;simp
def dw5_hs (W:À):Hs (dw5 W) (W+2) 102 #[.map (some W)]/\Hs (dw5 W) (W+3) 103 #[.map (some (W+1))]/\Hs (dw5 W) (W+4) 104 #[()]/\Hs (dw5 W) (W+5) 104 #[()]:=by
 unfold dw5;refine⟨?_,?_,?_,?_⟩
 ·have:=Hs.new ((W.alloc (.map #[] 0)).alloc (.map #[] 0)) 102 #[.map (some W)];exact fu (fu (fu (by simpa using this) _) _) _
 ·have:=Hs.new (((W.alloc (.map #[] 0)).alloc (.map #[] 0)).alloc (.cells #[.map (some W)] 102)) 103 #[.map (some (W+1))];exact fu (fu (by simpa using this) _) _
 ·have:=Hs.new ((((W.alloc (.map #[] 0)).alloc (.map #[] 0)).alloc (.cells #[.map (some W)] 102)).alloc (.cells #[.map (some (W+1))] 103)) 104 #[()];exact fu (by simpa using this) _
 have:=Hs.new (((((W.alloc (.map #[] 0)).alloc (.map #[] 0)).alloc (.cells #[.map (some W)] 102)).alloc (.cells #[.map (some (W+1))] 103)).alloc (.cells #[()] 104)) 104 #[()];simpa using this
def dw5_maps (W:À):MapIs prog 3 (Lit.int .i64) (dw5 W) W 0 (posV [])/\MapIs prog 9 Lit.string (dw5 W) (W+1) 0 (iM []):=by
 unfold dw5;refine⟨?_,?_⟩
 ·exact ((((((MapIs.made prog 3 (Lit.int .i64) W).alloc _).alloc _).alloc _).alloc _).alloc _).congr λs=>rfl
 have:=MapIs.made prog 9 Lit.string (W.alloc (.map #[] 0));have a:MapIs prog 9 Lit.string ((W.alloc (.map #[] 0)).alloc (.map #[] 0)) (W+1) 0 (λ_=>none):=by simpa using this
 exact ((((a.alloc _).alloc _).alloc _).alloc _).congr λs=>by unfold iM;simp
def xk {p:Pg} {B0 b gT mT nT:Nat} {W:À} (hw:WrAt b b fv nv [] W) (hT:Hs W gT 101 #[.map (some mT)]) (iT:SMap W mT nT (idxF p.tyNames p.tyNames)) (h1:B0<=gT) (h2:B0<=mT) (h3:gT<b) (h4:mT<b):
 DgR p B0 b (dbOf W gT mT nT) () () (dw6 W b (dbOf W gT mT nT)) dg0/\WrAt B0 b (fvD (dbOf W gT mT nT)) (nvD (dbOf W gT mT nT)) [] (dw6 W b (dbOf W gT mT nT)):=by
 have v:=hw.lt;obtain⟨u,t,r,q⟩:=dw5_hs W;obtain⟨j,i⟩:=dw5_maps W;have g:=rt W;have l:Hs (dw5 W) gT 101 #[.map (some mT)]:=(g.block _ hT.lt).trans hT;have f:SMap (dw5 W) mT nT (idxF p.tyNames p.tyNames):=iT.below g iT.lt;have a:Stp (only b) (dw5 W) (dw6 W b (dbOf W gT mT nT)):=(cu (dw5 W) ⟨b,2,none⟩ _).trans (cu _ ⟨b,3,none⟩ _);have d:∀k,k≠b->¬only b k:=λk h e=>h e;refine⟨⟨⟨⟨?_,?_,?_,?_,?_,?_,?_,?_⟩,⟨?_,?_,?_,?_,?_,?_,?_,?_⟩,?_,?_,?_,?_⟩,?_,?_,?_,?_,?_,?_,?_,?_,⟨rfl,.inl ⟨rfl,rfl⟩⟩,⟨rfl,.inl ⟨rfl,rfl⟩⟩,by simp[Value.ownBlock],by simp[Value.ownBlock],by simp[Value.ownBlock],?_⟩,?_⟩;all_goals (try (simp only[dbOf];omega))
 ·exact bp u a (d _ (by simp only[dbOf];omega))
 ·exact bp t a (d _ (by simp only[dbOf];omega))
 ·exact bp l a (d _ (by simp only[dbOf];omega))
 ·exact bp r a (d _ (by simp only[dbOf];omega))
 ·exact bp q a (d _ (by simp only[dbOf];omega))
 ·exact j.same (a.block _ j.lt (d _ ω))
 ·exact i.same (a.block _ i.lt (d _ ω))
 ·exact f.same (a.block _ f.lt (d _ (by show mT≠b;omega)))
 ·have:=a.size;rw[dw5_size] at this;omega
 exact (((hw.bel g).setF _).setN _).wk ω
def iR {p:Pg} {A0 A1 A2 A3:Option Addr} {q0 q1 q2 q3:Nat} {w:À} (h:PgAt w A0 A1 A2 A3 q0 q1 q2 q3 p) (hsz:szPg p<=4000000000000) :
 Calls prog 8 #[.agg #[.slice A0 p.types q0,.slice A1 p.effects q1,.slice A2 p.funs q2,.slice A3 p.actors q3]] w (aE (decide (szPg p<=4000)) w):=by
 obtain⟨u,e,t,f⟩:=κ w #[.slice A0 p.types q0,.slice A1 p.effects q1,.slice A2 p.funs q2,.slice A3 p.actors q3] 27
 obtain⟨v,l,j⟩:=zd3 (h.bel t) t e;obtain⟨a,b⟩:=γ (szPg p)
 obtain⟨x,k⟩:=zd2 b hsz;rw[<-b];clear h e t hsz b;go_in;go_upto_region 1 with fail;rw[<-j.o];clear j;have F:=f.c 0;have E:=f.c 1;have D:=f.c 2;have B:=f.c 3;by_cases i:a<=4000
 ·have y:decide ((a:Int)<=4000)=true:=decide_eq_true ω;have d:decide (a<=4000)=true:=decide_eq_true i;have r:=η d;clear d;go_wp2_with (go_at_call 18;refine (sL (v.bel (belR _)) k).mono ?_;rw[<-x.o];rintro d A ⟨rfl,g⟩);go_ret;rw[r.o];exact⟨rfl,bel l g⟩
 have y:decide ((a:Int)<=4000)=false:=decide_eq_false ω;have d:decide (a<=4000)=false:=decide_eq_false i;have r:=η d;clear d;go_wp2_with (go_at_call 18;refine (sL (v.bel (belR _)) k).mono ?_;rw[<-x.o];rintro d A ⟨rfl,g⟩);go_ret;rw[r.o];exact⟨rfl,bel l g⟩
end
section
variable {st1 st2:Dg} {o2:List UInt8} {F j:Nat}
def ui {p:Pg} {nx:Nat} {f:Fn} (h:bZ p (F+1) 0 st1=(o2++(bZ p (F+1-j) j st2).1,(bZ p (F+1-j) j st2).2)) (hf:st2.funs[j]?=some ((nx:Nat):Int)/\p.funs[nx]?=some f) (hj:j<F+1):
 bZ p (F+1) 0 st1=((o2++(wFn dgN st2 f).1)++(bZ p (F+1-(j+1)) (j+1) (wFn dgN st2 f).2).1,(bZ p (F+1-(j+1)) (j+1) (wFn dgN st2 f).2).2):=by
 obtain⟨k,b⟩:∃k,F+1-j=k+1:=⟨F-j,ω⟩
 have a:F+1-(j+1)=k:=ω;rw[h,b,a,bZ];simp only[hf.1,Int.toNat_natCast,hf.2,χ]
def se {p:Pg} (h:bZ p (F+1) 0 st1=(o2++(bZ p (F+1-j) j st2).1,(bZ p (F+1-j) j st2).2)) (hj:¬j<st2.funs):bZ p (F+1) 0 st1=(o2,st2):=by
 have e:bZ p (F+1-j) j st2=([],st2):=by
  cases F+1-j with
  | zero=>rfl
  | succ k=>rw[bZ,List.getElem?_eq_none ω]
 rw[h,e,List.append_nil]
def uj {p:Pg} {nx:Nat} {f:Dcl} (h:cC p (F+1) 0 st1=(o2++(cC p (F+1-j) j st2).1,(cC p (F+1-j) j st2).2)) (hf:∃s,st2.names[j]?=some s/\(idxP p.tyNames s).getD 0=nx/\p.types[nx]?=some f) (hj:j<F+1):
 cC p (F+1) 0 st1=((o2++(wDcl dgN st2 f).1)++(cC p (F+1-(j+1)) (j+1) (wDcl dgN st2 f).2).1,(cC p (F+1-(j+1)) (j+1) (wDcl dgN st2 f).2).2):=by
 obtain⟨k,b⟩:∃k,F+1-j=k+1:=⟨F-j,ω⟩
 have a:F+1-(j+1)=k:=ω;rw[h,b,a,cC];obtain⟨s,g,e,d⟩:=hf;simp only[g,e,d,χ]
def sg {p:Pg} (h:cC p (F+1) 0 st1=(o2++(cC p (F+1-j) j st2).1,(cC p (F+1-j) j st2).2)) (hj:¬j<st2.names):cC p (F+1) 0 st1=(o2,st2):=by
 have e:cC p (F+1-j) j st2=([],st2):=by
  cases F+1-j with
  | zero=>rfl
  | succ k=>rw[cC,List.getElem?_eq_none ω]
 rw[h,e,List.append_nil]
def DigL (p:Pg) (B b:Nat) (d:DB) (run:Pg->Nat->Nat->Dg->List UInt8×Dg) (F:Nat) (o1:List UInt8) (st1:Dg) (len:Dg->Nat) (j:Nat) (W0 wx:À):Prop:=
 ∃o2 st2,run p (F+1) 0 st1=(o2++(run p (F+1-j) j st2).1,(run p (F+1-j) j st2).2)/\WS (rq p B b d) (o1++o2) st2 wx/\Ch (wM B b) W0 wx/\DgOk p st2/\j<=len st2
variable {st:Dg}
def DgOk.fun_lt {p:Pg} (h:DgOk p st) (hj:j<st.funs):(st.funs[j]).toNat<p.funs/\(((st.funs[j]).toNat:Nat):Int)=st.funs[j]:=by
 have:=h.rf _ (ν hj);omega
def yC (l:List (List UInt8)) (s:List UInt8) (h:s∈l):∃i,idxP l s=some i/\i<l.length:=by
 have b:∀k,(∃i,i<k/\l[i]?=some s)->∃i,cB l k s=some i:=by
  intro k;induction k with
  | zero=>rintro ⟨i,a,_⟩;omega
  | succ k ih =>
   rintro ⟨i,a,d⟩;rw[cB];by_cases e:l[k]?=some s
   ·rw[if_pos e];exact⟨k,rfl⟩
   rw[if_neg e];refine ih ⟨i,?_,d⟩;rcases Nat.lt_or_ge i k with x|x
   ·exact x
   have:i=k:=ω;subst this;exact absurd d e
 obtain⟨i,a,rfl⟩:=List.getElem_of_mem h;obtain⟨k,f⟩:=b l ⟨i,a,ξ a⟩;exact⟨k,f,(cg _ _ _ _ f).1⟩
def DgOk.name_lt {p:Pg} (h:DgOk p st) (hj:j<st.names):(idxP p.tyNames st.names[j]).getD 0<p.types.length:=by
 obtain⟨i,a,b⟩:=yC _ _ (h.rn _ (ν hj));rw[a];have:p.tyNames.length=p.types:=by unfold Pg.tyNames;simp
 show i<_;omega
def names_le {p:Pg} (h:DgOk p st):st.names.length<=p.types:=by
 have d:∀(l m:List (List UInt8)),l.Nodup->(∀s∈l,s∈m)->l.length<=m:=by
  intro l;induction l with
  | nil=>intro m _ _;simp
  | cons x l ih =>
   intro m a b;rw[List.nodup_cons] at a;have i:=ih (m.erase x) a.2 (λs hs=>(List.mem_erase_of_ne (λe=>a.1 (by rw[<-e];exact hs))).2 (b s (List.mem_cons_of_mem _ hs)));have g:=List.length_erase_of_mem (b x List.mem_cons_self);have f:=List.length_pos_of_mem (b x List.mem_cons_self);simp only[δ];omega
 have:=d _ _ h.nn h.rn;have e:p.tyNames.length=p.types:=by unfold Pg.tyNames;simp
 omega
def vi (st:Dg):NmInv dgN (λst'=>st.funs.length<=st'.funs/\st.names.length<=st'.names) (λ_=>True) (λ_=>True) where
 num st' n h _:=by
  refine⟨ψ h.1 ?_,by rw[(rc st' n).2];exact h.2⟩;simp only[dgN]
  cases posI st'.funs n<;>simp
 nam st' s h _:=by
  refine⟨by rw[(rh st' s).2];exact h.1,ψ h.2 ?_⟩;simp only[dgN];split<;>simp
def wFn_mono (st:Dg) (f:Fn):st.funs<=(wFn dgN st f).2.funs.length/\st.names<=(wFn dgN st f).2.names.length:=uD (vi st) f st (Fn.refs_any f) ⟨υ _,υ _⟩
def vB (st:Dg) (f:Dcl):st.funs<=(wDcl dgN st f).2.funs.length/\st.names<=(wDcl dgN st f).2.names.length:=sx (vi st) f st (Dcl.refs_any f) ⟨υ _,υ _⟩
def dgok0 (p:Pg):DgOk p dg0:=⟨List.nodup_nil,λ_ h=>absurd h (by simp[dg0]),List.nodup_nil,λ_ h=>absurd h (by simp[dg0])⟩
end
section
def mf (l:List (List UInt8)) (j:Nat) (s:List UInt8):Int:=match cB l j s with|none=>-1|some i=>(i:Nat)
variable {l:List (List UInt8)} {j:Nat}
def wG {s:List UInt8} (h:l[j]?=some s):mf l (j+1) s=(j:Nat):=by unfold mf;rw[cB,if_pos h]
def lastI_no {s:List UInt8} (h:¬l[j]?=some s):mf l (j+1) s=mf l j s:=by unfold mf;rw[cB,if_neg h]
def vu {p:Pg} (h:j<p.actors):p.acNames[j]?=some p.actors[j].name.data.toList:=by
 unfold Pg.acNames;rw[List.getElem?_map,ξ h];rfl
def DigSaid (p:Pg) (M:Nat) (s:Ê) (w:À) (e:Ending) (w':À):Prop:=e=.returned (.agg (ShaT.u8s (digP p M s.data.toList)))/\Below w w w'
def xm (p:Pg) (a:Ac):je p a≠[]:=by
 intro h;have:=congrArg List.length h;unfold je wAc at this;simp only[μ,List.length_nil] at this;have b:=(aS a.name).2;omega
def oS {p:Pg} {M:Nat} {A0 A1 A2 A3:Option Addr} {q0 q1 q2 q3:Nat} {w:À} (h:PgAt w A0 A1 A2 A3 q0 q1 q2 q3 p) (hf:Fit p M) (hR:ShaT.Rounds w) (hd:aW p M=true->DigOk p) {s:Ê} (hs:s.size<=maxLen) (hl:aW p M=true->∀a∈p.actors,(je p a).length<=1000000) :
 Calls prog 12 #[.agg #[.slice A0 p.types.length q0,.slice A1 p.effects.length q1,.slice A2 p.funs.length q2,.slice A3 p.actors.length q3],.string s] w (DigSaid p M s w):=by
 have la:=h.a.le9;have lt:=h.t.le9;have lf:=h.f.le9;obtain⟨W1,ax⟩:=γ ((w.alloc (.cells #[.slice A0 p.types.length q0,.slice A1 p.effects.length q1,.slice A2 p.funs.length q2,.slice A3 p.actors.length q3] 27)).alloc (.cells ShaT.z32 34))
 have B1:Below w w W1:=by rw[ax];exact ζ2
 have d4:Hid (Hs W1 w 27 #[.slice A0 p.types.length q0,.slice A1 p.effects.length q1,.slice A2 p.funs.length q2,.slice A3 p.actors.length q3]):=by rw[ax];exact fu (Hs.new _ _ _) _
 have fb:Hid (Hs W1 (w+1) 34 ShaT.z32):=by rw[ax];exact η (by have:=Hs.new (w.alloc (.cells #[.slice A0 p.types.length q0,.slice A1 p.effects.length q1,.slice A2 p.funs.length q2,.slice A3 p.actors.length q3] 27)) 34 ShaT.z32;simpa using this)
 obtain⟨PB,fy,ds,HF,HR,HD,HL,gx⟩:=zd8 (h.bel B1) B1 ax hf (hR.mono B1) hd hl hs;have b3:=d4.o.c 3;clear h hf hR hd hl hs ax B1;have gq:=@run_makeMap prog;go_in;go_upto_region 1 with fail;rw[ShaT.z32_lit,<-ds.o];clear ds;go_wp2_with fail;clear b3;go_loopw [21,5] (λi v wr=>∃j:Nat,j<=p.actors.length/\i=.int .i64 j/\v=.int .i64 (mf p.acNames j s.data.toList)/\Hid (Below W1 W1 wr)) (λi _ _=>p.actors.length-(intOf i).toNat)
 case atStart=>exact⟨0,ω,rfl,rfl,belR _⟩
 case round =>
  obtain⟨j,hj,rfl,rfl,HB⟩:=hrel;by_cases hlt:j<p.actors.length
  ·have i1:(0:Int)<=(j:Int):=ω;have i2:(j:Int)<(p.actors.length:Int):=ω;obtain⟨g,bu,B0,c0,B1,c1,B2,c2,rfl,-,p0,p1,p2,p3,p4,p5,p6,U,-⟩:=fR (PB.o.bel HB.o).a hlt;clear U;by_cases hn:p.acNames[j]?=some s.data.toList
   ·have ab:=hn;rw[vu hlt] at ab
    have t1:(ByteArray.toList p.actors[j].name==ByteArray.toList s)=true:=by
     have e:p.actors[j].name=s:=by injection ab with e;exact ByteArray.ext (Array.toList_inj.1 e)
     rw[e];exact beq_self_eq_true _
    have HN:=η (wG hn);clear hn ab;go_wp2_with fail;exact⟨⟨j+1,ω,by go_num,by rw[HN.o],bel HB.o ζ1⟩,by simp[intOf];omega⟩
   have t1:(ByteArray.toList p.actors[j].name==ByteArray.toList s)=false:=by
    rw[beq_eq_false_iff_ne];intro e;refine hn ?_;rw[vu hlt];rw[ByteArray.toList_eq,ByteArray.toList_eq] at e;rw[e]
   have HN:=η (lastI_no hn);clear hn;go_wp2_with fail;exact⟨⟨j+1,ω,by go_num,by rw[HN.o],bel HB.o ζ1⟩,by simp[intOf];omega⟩
  obtain rfl:j=p.actors.length:=ω;obtain⟨ah,ay,bl,bq,dx⟩:=zd5 (aH d4.o HB.o) (aH fb.o HB.o) (PB.o.bel HB.o) (bel fy.o HB.o) (HR.o.mono HB.o);have l:p.acNames.length=p.actors.length:=by unfold Pg.acNames;simp
  cases hx:idxP p.acNames s.data.toList with
  | none =>
   have hL:mf p.acNames p.actors.length s.data.toList=-1:=by unfold mf;rw[<-l,show cB p.acNames p.acNames.length s.data.toList=none from hx]
   have HX:Hid (digP p M s.data.toList=List.replicate 32 0):=by show _=_;unfold digP;rw[hx]
   rw[hL];clear hx hL l;have A:Hid (∀hh:True,(wr.setRow (w+1) ShaT.z32).heap[w.heap.size+1]?=some (.cells ShaT.z32 34)/\Below w w (wr.setRow (w+1) ShaT.z32)):=λ_=>⟨setRow_heap _ _ _ _ _ _ ay.o,bq.o.trans ⟨rfl,rfl,rfl,by simp,λk hk=>setRow_other _ _ _ _ ω⟩⟩
   go_wp2_with (refine wpList_store_row rfl 34 _ _ rfl (w+1) ShaT.z32 rfl rfl 34 ShaT.z32 ay.o ShaT.info23 rfl (ShaT.u8s_one _) ?_);exact bodyPost_ret (results_cell_row results12 _ _ (w+1) 34 ShaT.z32 _ _ rfl (A.o trivial).1 underlying34 rfl ShaT.info23) rfl ⟨by rw[HX.o];rfl,(A.o trivial).2⟩
  | some at_ =>
   have hL:mf p.acNames p.actors.length s.data.toList=((at_:Nat):Int):=by unfold mf;rw[<-l,show cB p.acNames p.acNames.length s.data.toList=some at_ from hx]
   have b8:at_<p.actors.length:=by rw[<-l];exact (cg _ _ _ _ hx).1
   have cm:=η hx;rw[hL];have a0:decide ((at_:Int)<0)=false:=decide_eq_false ω;have b0:=ah.o.c 0;have b1:=ah.o.c 1;have b2:=ah.o.c 2;have b3:=ah.o.c 3;clear hx hL l
   cases hri:aW p M with
   | false =>
    have HX:Hid (digP p M s.data.toList=List.replicate 32 0):=by show _=_;unfold digP;rw[cm.o,hri];rfl
    have Y:=η hri;clear hri;go_upto_region 9 with (go_at_call 11;refine (dl (bl.o.bel (belR _)) HF.o).mono ?_;rw[Y.o];rintro e2 b ⟨rfl,r⟩);obtain⟨I,bc⟩:=zd2 (aH ay.o r) (bel bq.o r);clear r b0 b1 b2 b3;have A:Hid (∀hh:True,(b.setRow (w+1) ShaT.z32).heap[w.heap.size+1]?=some (.cells ShaT.z32 34)/\Below w w (b.setRow (w+1) ShaT.z32)):=λ_=>⟨setRow_heap _ _ _ _ _ _ I.o,bc.o.trans ⟨rfl,rfl,rfl,by simp,λk hk=>setRow_other _ _ _ _ ω⟩⟩
    go_wp2_with (refine wpList_store_row rfl 34 _ _ rfl (w+1) ShaT.z32 rfl rfl 34 ShaT.z32 I.o ShaT.info23 rfl (ShaT.u8s_one _) ?_);exact bodyPost_ret (results_cell_row results12 _ _ (w+1) 34 ShaT.z32 _ _ rfl (A.o trivial).1 underlying34 rfl ShaT.info23) rfl ⟨by rw[HX.o];rfl,(A.o trivial).2⟩
   | true =>
    have Y:=η hri;clear hri;go_upto_region 10 with (go_at_call 11;refine (dl (bl.o.bel (belR _)) HF.o).mono ?_;rw[Y.o];rintro e2 b ⟨rfl,r⟩);obtain⟨I,bb,ch,bc,cf⟩:=zd5 (aH ay.o r) (aH ah.o r) (bl.o.bel r) (bel bq.o r) (dx.o.mono r);clear r b0 b1 b2 b3 ay ah bl bq dx HB;go_upto_region 11 with fail;obtain⟨W3,aw⟩:=γ ((b.alloc (.map #[] 0)).alloc (.cells #[.map (some b)] 101))
    rw[<-aw];have B3:Below b b W3:=by rw[aw];exact ζ2
    have e8:Hid (Hs W3 (b+1) 101 #[.map (some b)]):=by rw[aw];exact η (by have:=Hs.new (b.alloc (.map #[] 0)) 101 #[.map (some b)];simpa using this)
    have fd:Hid (SMap W3 b 0 (idxF p.tyNames 0)):=by rw[aw];exact ((MapIs.made prog 9 Lit.string b).alloc _).congr λs=>rfl
    have fx:=η B3;have b0:W3.cell? w=some (.slice A0 p.types.length q0):=(aH bb.o B3).cell 0;have fk:Hid (p.tyNames.length=p.types.length):=by show _=_;unfold Pg.tyNames;simp
    clear aw B3 a0;go_wp2_with fail;clear b0;go_loopw [44] (λi wr=>∃j:Nat,j<=p.types.length/\i=.int .i64 j/\Hid (Below b b wr)/\Hid (Hs wr (b+1) 101 #[.map (some b)])/\Hid (∃n,n<=j/\SMap wr b n (idxF p.tyNames j))) (λi _=>p.types.length-(intOf i).toNat)
    case atStart=>exact⟨0,ω,rfl,fx.o,e8.o,0,υ _,fd.o⟩
    case round =>
     obtain⟨j,hj,rfl,a2,X,bn⟩:=hrel;by_cases hlt:j<p.types.length
     ·have i1:(0:Int)<=(j:Int):=ω;have i2:(j:Int)<(p.types.length:Int):=ω;obtain⟨n,hn,de⟩:=bn.o;obtain⟨g,bu,B1,c1,rfl,-,p0,p1,p2,-,dd,-⟩:=fF (ch.o.bel a2.o).t hlt;have ab:p.tyNames[j]?=some p.types[j].name.data.toList:=by unfold Pg.tyNames;rw[List.getElem?_map,ξ hlt];rfl
      obtain⟨cj,ff,fj,fi⟩:=zd4 (kj ab) (de.alloc (.cells #[.string p.types[j].name,.bool p.types[j].record,.slice B1 p.types[j].ctors.length c1] 48)) hn dd;have t0:=X.o.c 0;have t1:=celA t0;have fm:Hid (n<maxLen):=by show _<_;unfold maxLen;omega
      have dt:=η (fu X.o (.cells #[.string p.types[j].name,.bool p.types[j].record,.slice B1 p.types[j].ctors.length c1] 48));clear de ab hn dd bn;go_upto_region 15 with (refine ak _ rfl _ _ _ 101 (.inl rfl) 3 (fL underlying9) underlying101 b n (idxF p.tyNames j) rfl ff.o fm.o p.types[j].name.data.toList (.string p.types[j].name) (.int .i64 j) rfl rfl (keyOf_string_mk underlying9 fi.o) ?_;intro w4 cb dm;rw[cj.o] at cb);have bo:Hid (∃n',n'<=j+1/\SMap w4 b n' (idxF p.tyNames (j+1))):=⟨_,by have:=fj.o;split<;>omega,cb⟩
      have d1:=η dm;clear cb dm t0 t1 p0 p1 p2;go_wp2_with fail;refine⟨⟨j+1,ω,by go_num,um (belA a2.o _) d1.o (λk e=>by injection e with e;omega),(d1.o.block _ dt.o.lt (λe=>by injection e with e;omega)).trans dt.o,bo.o⟩,by simp[intOf];omega⟩
     obtain rfl:j=p.types.length:=ω;obtain⟨nT,eq,b5⟩:=bn.o;rw[<-fk.o] at b5;have bm:=η b5;clear b5 eq bn;go_upto_region 17 with (go_at_call 19;refine (kG wr).mono ?_;rintro e4 F ⟨rfl,bd,bf⟩);have du:Hid (Hs F (b+1) 101 #[.map (some b)]):=(bf.block _ X.o.lt).trans X.o;have bo:Hid (SMap F b nT (idxF p.tyNames p.tyNames.length)):=bm.o.below bf bm.o.lt;obtain⟨dr,d3⟩:=zd2 bd (a2.o.trans (bf.mono a2.o.size));have gr:wr.heap.size<F.heap.size:=bd.lt;have gs:=X.o.lt;have Z:=η (xk (p:=p) (B0:=b) bd du.o bo.o (Nat.le_succ _) (υ _) X.o.lt bm.o.lt);clear bd bf a2 X bm;go_upto_region 19 with fail;change Code.wp _ _ _ _ (dw5 F);obtain⟨W5,b9⟩:=γ (dw5 F)
     have db:=dr.o.bel (rt F);rw[<-b9] at db ⊢;have dq:=η b9;clear b9;obtain⟨er,r,pv,vv,W,-,-,-⟩:=db;have c2:W5.cell? ⟨wr,2,none⟩=some (.func (.func 62) #[] #[]):=by rw[Lib.cell_of_heap W];rfl
     have c3:W5.cell? ⟨wr,3,none⟩=some (.func (.func 63) #[] #[]):=by rw[Lib.cell_of_heap W];rfl
     have f2:W5.frozen? ⟨wr,2,none⟩=false:=Lib.frozen_of_heap W 2;have f3:W5.frozen? ⟨wr,3,none⟩=false:=Lib.frozen_of_heap W 3;have ex:∀v,(W5.setCell ⟨wr,2,none⟩ v).cell? ⟨wr,3,none⟩=some (.func (.func 63) #[] #[]):=λv=>by rw[Lib.cell_of_heap ((heap_setCell_same _ _ _ _ _ _ W).trans rfl)];rfl
     have es:∀v,(W5.setCell ⟨wr,2,none⟩ v).frozen? ⟨wr,3,none⟩=false:=λv=>Lib.frozen_of_heap ((heap_setCell_same _ _ _ _ _ _ W).trans rfl) 3;clear er r W;go_upto_region 21 with fail;rw[dq.o];change Code.wp _ _ _ _ (dw6 F wr (dbOf F (b+1) b nT));obtain⟨DD,bk⟩:=γ (dbOf F (b+1) b nT)
     obtain⟨H,rfl⟩:=γ wr
     have Z:=Z;have B6:Below b b (dw6 F H DD):=d3.o.trans (((rt F).mono d3.o.size).trans ((Below.refl _ _).setCell (p:=⟨H,2,none⟩) (show b.heap.size<=H.heap.size by omega) _ |>.setCell (p:=⟨H,3,none⟩) (show b.heap.size<=H.heap.size by omega) _));rw[<-bk] at Z ⊢;obtain⟨W6,dj⟩:=γ (dw6 F H DD)
     rw[<-dj] at Z B6 ⊢;clear dj;obtain⟨d2,ct,fa⟩:=zd3 B6 (aH bb.o B6) (aH I.o B6);have PU:Hid (PgU b H W6 A0 A1 A2 A3 q0 q1 q2 q3 p):=PgU.of ch.o B6 (υ _);have UX:Hid (uo (wM b H) W6 w):=(rA B6 (υ _) _ bb.o.lt).1;have UR:Hid (uo (wM b H) W6 (w+1)):=(rA B6 (υ _) _ I.o.lt).1;have eF:DD.gF=F.heap.size+1+1+1+1:=by rw[bk];rfl
     have eD:DD.gD=F.heap.size+1+1+1+1+1:=by rw[bk];rfl
     have dw:Hid (WS (rq p b H DD) [] dg0 W6):=⟨Z.o.2,⟨υ _,υ _,_,_,Z.o.1⟩⟩
     rw[<-eD,<-eF];clear eD eF bk;have co:=η (HD.o Y.o);obtain⟨G,bg⟩:=γ (p.actors[at_])
     have cs:Hid (G∈p.actors):=by rw[bg];exact ν b8
     have ei:Hid (digP p M s.data.toList=ShaT.shaS ((je p G).map UInt8.toNat)):=by show _=_;unfold digP;rw[cm.o,Y.o];simp only[if_true,ξ b8,<-bg]
     have d0:=η (HL.o Y.o G cs.o);obtain⟨O7,bj⟩:=γ ((wAc dgN dg0 G).1)
     obtain⟨S7,bh⟩:=γ ((wAc dgN dg0 G).2)
     have ao:Hid (je p G=O7++((bZ p (p.funs.length+1) 0 S7).1++(cC p (p.types.length+1) 0 (bZ p (p.funs.length+1) 0 S7).2).1)):=by show _=_;rw[bj,bh];rfl
     have N:Hid (O7.length+((bZ p (p.funs.length+1) 0 S7).1.length+(cC p (p.types.length+1) 0 (bZ p (p.funs.length+1) 0 S7).2).1.length)<=1000000):=by show _<=_;have:=d0.o;rw[ao.o] at this;simpa only[μ] using this
     have an:Hid (O7.length+(bZ p (p.funs.length+1) 0 S7).1.length<=1000000):=by show _<=_;have:=N.o;omega
     have fo:Hid (([]:List UInt8).length+(wAc dgN dg0 G).1.length<=wTop):=by show _<=_;rw[<-bj];have:=N.o;unfold wTop;simp;omega
     obtain⟨dz,ce⟩:=zd2 bj bh;have el:Hid (DgOk p S7):=by show DgOk _ _;rw[bh];exact co.o.ac G cs.o _ (dgok0 p)
     have k3:=ct.o.c 3;have j0:(0:Int)<=((at_:Nat):Int):=ω;have j1:((at_:Nat):Int)<(p.actors.length:Int):=ω;obtain⟨ga,f5,fz,e0,d5,dp,g0,gw,rfl,-,p0,p1,p2,p3,p4,p5,p6,bw,-⟩:=fR PU.o.a b8;rw[<-bg] at bw p0 p1 p2 p3 p4 p5 p6;have TA:=η bw;clear bw bg bj bh B6 c2 c3 f2 f3 ex es dq dr Z du bo;go_wp2_with (go_at_call 28;refine (uB TA.o dw.o fo.o).mono ?_;rintro e7 W7 ⟨rfl,dc,dg⟩);have fg:Hid (WS (rq p b H DD) O7 S7 W7):=by rw[dz.o,ce.o];exact dc
     have fw:=η dg;clear dc dg k3 p0 p1 p2 p3 p4 p5 p6 dw dz ce;go_wp2_with fail;go_loopw [16] (λi wr=>∃j:Nat,i=.int .i64 j/\Hid (DigL p b H DD bZ p.funs.length O7 S7 (λst=>st.funs.length) j W7 wr)) (λi _=>p.funs.length-(intOf i).toNat)
     case atStart=>exact⟨0,rfl,[],S7,rfl,by rw[List.append_nil];exact fg.o,Ch.refl _ _,el.o,Nat.zero_le _⟩
     case round =>
      obtain⟨j,rfl,a1⟩:=hrel;obtain⟨o2,d,hq,R,V,au,df⟩:=a1.o;obtain⟨HQ,af,y,bp,u⟩:=zd5 hq R (fw.o.trans V) V au;obtain⟨b4,bz,vF,vD,E⟩:=R.rel;obtain⟨AF,cF,O⟩:=bU E.rF;obtain⟨ag,ae⟩:=zd2 E O;have k0:wr.cell? DD.gF=some (.slice AF d.funs.length cF):=by have:=E.hF.cell 0;rw[O] at this;exact this
      have dh:d.funs.length<=p.funs.length:=(by have:=lZ p.funs.length _ u.o.nf (λx hx=>u.o.rf x hx);omega)
      clear hq R V au b4 bz E O a1;by_cases hlt:j<d.funs.length
      ·have i1:(0:Int)<=(j:Int):=ω;have i2:(j:Int)<(d.funs.length:Int):=ω;obtain⟨gF,ew,ar,-,-⟩:=ez ag.o.rF ω;rw[ae.o] at ar;injection ar with ha _ hc;have T:=ag.o.rF;rw[ae.o,ha] at T;obtain⟨q,B⟩:=γ ((d.funs[j]).toNat:Nat)
       have l:q<p.funs.length:=by rw[B];exact (u.o.fun_lt hlt).1
       have k1:wr.cell? ⟨gF,j,none⟩=some (.int .i64 ((q:Nat):Int)):=by rw[B];exact dk T (by unfold oI;rw[List.getElem?_map,ξ hlt];show some _=_;rw[(u.o.fun_lt hlt).2])
       have av:d.funs[j]?=some ((q:Nat):Int)/\p.funs[q]?=some p.funs[q]:=⟨by rw[ξ hlt,B,(u.o.fun_lt hlt).2],ξ l⟩
       have cn:=η av;subst ha;have k2:wr.cell? ⟨w,2,none⟩=some (.slice A2 p.funs.length q2):=(y.o.cell UX.o 2).trans (ct.o.cell 2);have i3:(0:Int)<=((q:Nat):Int):=ω;have i4:((q:Nat):Int)<(p.funs.length:Int):=ω;obtain⟨g,bu,fz,e0,k_,s_,a_,d5,dp,o_,x_,m_,r_,e_,gz,gu,rfl,-,p0,p1,p2,p3,p4,p5,p6,p7,p8,p9,gp,U,-⟩:=jd (SlR.to' PU.o.f y.o.sub (λ_ _ x=>x.to y.o.sub)) l;obtain⟨T1,az⟩:=zd2 U (ui HQ.o cn.o ω);obtain⟨ck,cj,ba⟩:=zd3 (show (O7++o2).length+(wFn dgN d p.funs[q]).1.length<=wTop by have:=an.o;rw[az.o] at this;simp only[μ] at this ⊢;unfold wTop;omega) l (co.o.fn _ (ν l) d u.o);have cl:Hid (j+1<=(wFn dgN d p.funs[q]).2.funs.length):=by show _<=_;have:=(wFn_mono d p.funs[q]).1;omega
       clear U B T av hc;go_upto_region 25 with fail;go_still_tail 9,Δ
       change wpList _ _ _ _ _ wr.drew;go_wp2_with (go_at_call 25;refine (w_fn (T1.o.to (Ch.of_below (ad wr)).sub) (af.o.bel (ad _)) ck.o).mono ?_;rintro e9 W9 ⟨rfl,bv,b6⟩);exact⟨⟨j+1,by go_num,_,_,az.o,by rw[<-χ];exact bv,(bp.o.bel (ad _)).trans b6,ba.o,cl.o⟩,by simp[intOf];omega⟩
      have u1:=zF j d.funs.length;obtain⟨J,dv⟩:=zd2 (se HQ.o hlt) af.o;have fv:=y;have ek:=u;obtain⟨O8,bi⟩:=γ (O7++o2)
      obtain⟨S8,rfl⟩:=γ d
      have da:Hid (O8.length+(cC p (p.types.length+1) 0 S8).1.length<=1000000):=by show _<=_;have:=N.o;rw[J.o] at this;dsimp only at this;rw[bi,μ];omega
      have dy:Hid (je p G=O8++(cC p (p.types.length+1) 0 S8).1):=by show _=_;rw[ao.o,J.o,bi];simp only[χ]
      rw[<-bi] at dv;obtain⟨W8,rfl⟩:=γ wr
      clear an N HQ af bp y u ag ae dh df bi ao d0 J;have an:=da;go_wp2_with fail;go_loopw [17] (λi wr=>∃j:Nat,i=.int .i64 j/\Hid (DigL p b H DD cC p.types.length O8 S8 (λst=>st.names.length) j W8 wr)) (λi _=>p.types.length-(intOf i).toNat)
      case atStart=>exact⟨0,rfl,[],S8,rfl,by rw[List.append_nil];exact dv.o,Ch.refl _ _,ek.o,Nat.zero_le _⟩
      case round =>
       obtain⟨j,rfl,a1⟩:=hrel;obtain⟨o2,d,hq,R,V,au,df⟩:=a1.o;obtain⟨HQ,af,y,bp,u⟩:=zd5 hq R (fv.o.trans V) V au;obtain⟨b4,bz,vF,vD,E⟩:=R.rel;obtain⟨AF,cF,O⟩:=bU E.rD;obtain⟨ag,ae⟩:=zd2 E O;have k0:wr.cell? DD.gD=some (.slice AF d.names.length cF):=by have:=E.hD.cell 0;rw[O] at this;exact this
       have dh:d.names.length<=p.types.length:=(names_le u.o)
       clear hq R V au b4 bz E O a1;by_cases hlt:j<d.names.length
       ·have i1:(0:Int)<=(j:Int):=ω;have i2:(j:Int)<(d.names.length:Int):=ω;obtain⟨gF,ew,ar,-,-⟩:=ez ag.o.rD ω;rw[ae.o] at ar;injection ar with ha _ hc;have T:=ag.o.rD;rw[ae.o,ha] at T;obtain⟨q,B⟩:=γ ((idxP p.tyNames (d.names[j])).getD 0:Nat)
        have l:q<p.types.length:=by rw[B];exact u.o.name_lt hlt
        have k1:wr.cell? ⟨gF,j,none⟩=some (.int .i64 ((q:Nat):Int)):=by rw[B];exact dk T (by unfold ints oT;rw[List.getElem?_map,List.getElem?_map,ξ hlt];rfl)
        have av:∃s,d.names[j]?=some s/\(idxP p.tyNames s).getD 0=q/\p.types[q]?=some p.types[q]:=⟨_,ξ hlt,B.symm,ξ l⟩
        have cn:=η av;subst ha;have k2:wr.cell? w=some (.slice A0 p.types.length q0):=(y.o.cell UX.o 0).trans (ct.o.cell 0);have i3:(0:Int)<=((q:Nat):Int):=ω;have i4:((q:Nat):Int)<(p.types.length:Int):=ω;obtain⟨g,bu,d5,dp,rfl,-,p0,p1,p2,U,-⟩:=fF (SlR.to' PU.o.t y.o.sub (λ_ _ x=>x.to y.o.sub)) l;obtain⟨T1,az⟩:=zd2 U (uj HQ.o cn.o ω);obtain⟨ck,cj,ba⟩:=zd3 (show (O8++o2).length+(wDcl dgN d p.types[q]).1.length<=wTop by have:=an.o;rw[az.o] at this;simp only[μ] at this ⊢;unfold wTop;omega) l (co.o.ty _ (ν l) d u.o);have cl:Hid (j+1<=(wDcl dgN d p.types[q]).2.names.length):=by show _<=_;have:=(vB d p.types[q]).2;omega
        clear U B T av hc;go_upto_region 29 with fail;go_still_tail 9,Δ
        change wpList _ _ _ _ _ wr.drew;go_wp2_with (go_at_call 21;refine (w_decl (T1.o.to (Ch.of_below (ad wr)).sub) (af.o.bel (ad _)) ck.o).mono ?_;rintro e9 W9 ⟨rfl,bv,b6⟩);exact⟨⟨j+1,by go_num,_,_,az.o,by rw[<-χ];exact bv,(bp.o.bel (ad _)).trans b6,ba.o,cl.o⟩,by simp[intOf];omega⟩
       have J:=η (sg HQ.o hlt)
       have fl:Hid (O8++o2≠[]):=by
        intro e;have h1:je p G=[]:=by rw[dy.o,J.o];exact e
        exact xm p G h1
       have ca:Hs wr (w+1) 34 ShaT.z32:=(y.o.sub _ UR.o).2.trans fa.o;have dn:Below b b wr:=d2.o.trans (y.o.below wM_B d2.o.size);obtain⟨cq,eh⟩:=zd2 dn ca;obtain⟨fs,be⟩:=γ (⟨(O8++o2).toArray⟩:Ê)
       have fq:Hid ((⟨(O8++o2).toArray⟩:Ê)=fs):=be.symm;have a8:je p G=O8++o2:=by rw[dy.o,J.o]
       have eg:Hid (fs.size<=1000000):=by
        show _<=_;have:=HL.o Y.o G cs.o;rw[a8] at this;rw[be];show (O8++o2).toArray.size<=_;simpa using this
       obtain⟨D,hD⟩:=γ (ShaT.shaS (ShaT.nats fs))
       have cp:Hid (D.length=32):=by show _=_;rw[hD];exact ShaT.dgTo_length _ 32
       have ft:Hid (ShaT.shaS (ShaT.nats fs)=D):=hD.symm
       have fe:Hid (digP p M s.data.toList=D):=by
        show _=_;rw[ei.o,a8,hD,be];simp[ShaT.nats]
       clear ca dn be a8 hD
       have A:Hid (∀L,Below b wr L->(L.setRow (w+1) (ShaT.u8s D)).heap[w.heap.size+1]?=some (.cells (ShaT.u8s D) 34)/\Below w w (L.setRow (w+1) (ShaT.u8s D))/\L.heap[w.heap.size+1]?=some (.cells ShaT.z32 34)):=λL hb=>by
        have h1:L.heap[w.heap.size+1]?=some (.cells ShaT.z32 34):=(hb.block _ I.o.lt).trans eh.o;exact⟨setRow_heap _ _ _ _ _ _ h1,(bel bc.o (cq.o.trans hb)).trans ⟨rfl,rfl,rfl,by simp,λk hk=>setRow_other _ _ _ _ ω⟩,h1⟩
       have ej:Hid (∀W9,Below b wr W9->ShaT.Rounds W9):=λW9 hb=>cf.o.mono (cq.o.trans hb);go_wp2_with (first|(go_at_call 30;refine (mX af.o.wr fl.o).mono ?_;rw[fq.o];rintro e9 W9 ⟨rfl,di⟩;have cr:=η di;clear di)|(go_at_call 47;refine (ShaT.sha_any _ eg.o _ (ej.o _ cr.o)).mono ?_;rw[ft.o];rintro gt L ⟨rfl,b7⟩;have ci:=η (A.o L (cr.o.trans (b7.mono (ψ cq.o.size cr.o.size))));clear b7)|(refine wpList_store_row rfl 34 _ _ rfl (w+1) (ShaT.u8s D) rfl rfl 34 ShaT.z32 ci.o.2.2 (by rw[ShaT.u8s_size,cp.o];exact ShaT.info23) (by rw[ShaT.u8s_size,cp.o];rfl) (ShaT.u8s_one _) ?_));exact bodyPost_ret (results_cell_row results12 _ _ (w+1) 34 (ShaT.u8s D) _ _ rfl ci.o.1 underlying34 rfl (by rw[ShaT.u8s_size,cp.o];exact ShaT.info23)) rfl ⟨by rw[fe.o],ci.o.2.1⟩
end
