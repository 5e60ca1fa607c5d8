/- Core -/
import Derived.Test.YtjohpidklbhmcaaGreatDoorZ27
namespace Go.Proofs.YtjohpidklbhmcaaGreatDoor
set_option linter.all false
open Proofs.Tryz RowKit Maps WideMaps ChangeMaps
set_option maxRecDepth 100000
set_option maxHeartbeats 2000000
section
def lK:List Int:=[36,35,34,33,25,31,30,29,28,27,26,24,23,22,21,20,17,16,19,18,32,15,13,12,11,10,9,8,7,6,5,4,3,2,1]
def uV {op:Int} (h:op∉lK):bK op=none:=by
 unfold lK at h;simp only[List.mem_cons,List.not_mem_nil,or_false,not_or] at h;unfold bK;simp only[h,if_false]
def CondSaid (w:À) (c:CB) (e:Ending) (w':À):Prop:=e=.returned (.map (some w))/\∃n f,RB w w w' c w n f lK
def nR (c:CB) (w:À):Calls prog 93 #[c.b] w (CondSaid w c):=by
 have r:=@run_makeMap prog;have q:Hid (RB w w (w.alloc (.map #[] 0)) c w 0 (λ_=>none) []):=⟨ζ1,υ _,by simp,MapIs.made prog 3 (Lit.int .i64) w,υ _,λop=>⟨λh=>(by cases h),λ_=>rfl⟩⟩
 go_in;go_wp2_with (first|(go_at_call 130;refine (constants_any q Θ).mono ?_;rintro R y ⟨rfl,E,J,g⟩;have p:=η g;(clear g))|(go_at_call 131;refine (structures_any p Θ).mono ?_;rintro O x ⟨rfl,D,I,f⟩;have l:=η f;(clear f))|(go_at_call 132;refine (choices_any l Θ).mono ?_;rintro N v ⟨rfl,B,H,e⟩;have k:=η e;(clear e))|(go_at_call 133;refine (pH k Θ).mono ?_;rintro M u ⟨rfl,A,G,d⟩;have j:=η d;(clear d))|(go_at_call 134;refine (calls_any j Θ).mono ?_;rintro L t ⟨rfl,z,F,a⟩;have i:=η a;(clear a)));go_ret;exact⟨rfl,_,_,i⟩
def kj {l:List (List UInt8)} {k:Nat} {s:List UInt8} (h:l[k]?=some s):upd (idxF l k) s (some (.int .i64 (k:Nat)))=idxF l (k+1):=by
 funext x;unfold upd idxF;rw[cB];by_cases e:x=s
 ·subst e;rw[if_pos rfl,if_pos h];rfl
 rw[if_neg e,if_neg (by rw[h];intro a;injection a with a;exact e a.symm)]
structure NC (w wr:À) (p:Pg) (v0 v1 v2 v3:Value) (j1 j2 j3 n1 n2 n3:Nat):Prop where
 bel:Below w w wr
 px:Hs wr w 27 #[v0,v1,v2,v3]
 cx:Hs wr (w+1+1+1+1) 159 #[v0,v1,v2,v3,.map (some (w+1)),.map (some (w+1+1)),.map (some (w+1+1+1)),.map none]
 m1:SMap wr (w+1) n1 (idxF p.tyNames j1)
 m2:SMap wr (w+1+1) n2 (idxF p.acNames j2)
 m3:SMap wr (w+1+1+1) n3 (idxF p.efNames j3)
 l1:n1<=j1
 l2:n2<=j2
 l3:n3<=j3
section
variable {w wr wr':À} {p:Pg} {v0 v1 v2 v3:Value} {j1 j2 j3 n1 n2 n3 n:Nat}
def NC.bels (h:NC w wr p v0 v1 v2 v3 j1 j2 j3 n1 n2 n3) (hb:Below wr wr wr'):NC w wr' p v0 v1 v2 v3 j1 j2 j3 n1 n2 n3:=
 ⟨Below.trans h.bel (hb.mono h.bel.size),aH h.px hb,aH h.cx hb,h.m1.below hb h.m1.lt,h.m2.below hb h.m2.lt,h.m3.below hb h.m3.lt,h.l1,h.l2,h.l3⟩
def uA {g:Nat} (h:Below w w wr) (hg:wr.grownBy wr' (some g)) (hl:w<=g):Below w w wr':=
 ⟨hg.os.trans h.os,hg.tape.trans h.tape,hg.output.trans h.output,ψ h.size hg.size,λi hi=>(hg.block i (ρ hi h.size) (λe=>by injection e with e;omega)).trans (h.block i hi)⟩
def NC.put1 (h:NC w wr p v0 v1 v2 v3 j1 j2 j3 n1 n2 n3) {s:List UInt8} (hs:p.tyNames[j1]?=some s) (hM:SMap wr' (w+1) (if (idxF p.tyNames j1 s).isSome then n1 else n1+1) (upd (idxF p.tyNames j1) s (some (.int .i64 ((j1:Nat):Int))))) (hg:wr.grownBy wr' (some (w+1))):NC w wr' p v0 v1 v2 v3 (j1+1) j2 j3 (if (idxF p.tyNames j1 s).isSome then n1 else n1+1) n2 n3:=by
 have a:=hM;rw[kj hs] at a;exact⟨uA h.bel hg ω,aN h.px hg ω,aN h.cx hg ω,a,(h.m2.same (hg.block _ h.m2.lt (λe=>by injection e with e;omega))),(h.m3.same (hg.block _ h.m3.lt (λe=>by injection e with e;omega))),(by have:=h.l1;split<;>omega),h.l2,h.l3⟩
def NC.put2 (h:NC w wr p v0 v1 v2 v3 j1 j2 j3 n1 n2 n3) {s:List UInt8} (hs:p.acNames[j2]?=some s) (hM:SMap wr' (w+1+1) (if (idxF p.acNames j2 s).isSome then n2 else n2+1) (upd (idxF p.acNames j2) s (some (.int .i64 ((j2:Nat):Int))))) (hg:wr.grownBy wr' (some (w+1+1))):NC w wr' p v0 v1 v2 v3 j1 (j2+1) j3 n1 (if (idxF p.acNames j2 s).isSome then n2 else n2+1) n3:=by
 have a:=hM;rw[kj hs] at a;exact⟨uA h.bel hg ω,aN h.px hg ω,aN h.cx hg ω,(h.m1.same (hg.block _ h.m1.lt (λe=>by injection e with e;omega))),a,(h.m3.same (hg.block _ h.m3.lt (λe=>by injection e with e;omega))),h.l1,(by have:=h.l2;split<;>omega),h.l3⟩
def NC.put3 (h:NC w wr p v0 v1 v2 v3 j1 j2 j3 n1 n2 n3) {s:List UInt8} (hs:p.efNames[j3]?=some s) (hM:SMap wr' (w+1+1+1) (if (idxF p.efNames j3 s).isSome then n3 else n3+1) (upd (idxF p.efNames j3) s (some (.int .i64 ((j3:Nat):Int))))) (hg:wr.grownBy wr' (some (w+1+1+1))):NC w wr' p v0 v1 v2 v3 j1 j2 (j3+1) n1 n2 (if (idxF p.efNames j3 s).isSome then n3 else n3+1):=by
 have a:=hM;rw[kj hs] at a;exact⟨uA h.bel hg ω,aN h.px hg ω,aN h.cx hg ω,(h.m1.same (hg.block _ h.m1.lt (λe=>by injection e with e;omega))),(h.m2.same (hg.block _ h.m2.lt (λe=>by injection e with e;omega))),a,h.l1,h.l2,(by have:=h.l3;split<;>omega)⟩
end
def vx (w:À) (p:Pg) (e:Ending) (w':À):Prop:=Below w w w'/\∃c:CB,w.heap.size<=c.b/\e=.returned (c.b:Vl)/\ChkR w' (lo w') c p/\∃n f,RulesR w' (lo w') c n f
variable {w5:À}
def chk_end {w wd:À} {p:Pg} {A0 A1 A2 A3:Option Addr} {q0 q1 q2 q3 n1 n2 n3 n5:Nat} {f5:Int->Option Value} {cc:CB} (hcc:cc=⟨(w+1+1+1+1),w+1,w+1+1,w+1+1+1,wd,n1,n2,n3,.slice A0 p.types q0,.slice A1 p.effects q1,.slice A2 p.funs q2,.slice A3 p.actors q3⟩) (hc:NC w wd p (.slice A0 p.types q0) (.slice A1 p.effects q1) (.slice A2 p.funs q2) (.slice A3 p.actors q3) p.types p.actors p.effects n1 n2 n3) (hr:RB wd wd w5 cc wd n5 f5 lK) (hx:Hs w5 (w+1+1+1+1) 159 #[.slice A0 p.types q0,.slice A1 p.effects q1,.slice A2 p.funs q2,.slice A3 p.actors q3,.map (some (w+1)),.map (some (w+1+1)),.map (some (w+1+1+1)),.map none]) (h0:SlR w (lo w) 3 (DclR w (lo w)) (.slice A0 p.types q0) p.types) (h1:SlR w (lo w) 5 (EffR w (lo w)) (.slice A1 p.effects q1) p.effects) (h2:SlR w (lo w) 11 (FnR w (lo w)) (.slice A2 p.funs q2) p.funs) (h3:SlR w (lo w) 7 (AcR w (lo w)) (.slice A3 p.actors q3) p.actors):
 vx w p (.returned (.pointer (some ⟨(w+1+1+1+1),0,none⟩))) (w5.setCell ⟨(w+1+1+1+1),7,none⟩ (.map (some wd))):=by
 have l:Below w w wd:=hc.bel;have f:Below w w w5:=l.trans (hr.bel.mono l.size);have e:=hx.put 7 (.map (some wd));have a:∀b,b≠(w.heap.size+1+1+1+1)->(w5.setCell ⟨(w+1+1+1+1),7,none⟩ (.map (some wd))).heap[b]?=w5.heap[b]?:=λb hb=>Below.heap_setCell _ _ _ _ hb;have q:Below w w (w5.setCell ⟨(w+1+1+1+1),7,none⟩ (.map (some wd))):=⟨f.os,f.tape,f.output,by simp[World.setCell];exact f.size,λi hi=>(a i ω).trans (f.block i hi)⟩
 have d:(w5.setCell ⟨(w+1+1+1+1),7,none⟩ (.map (some wd))).heap.size=w5:=by simp[World.setCell]
 have z:=hr.bel.size;have u:=hc.m1.lt;have t:=hc.m2.lt;have r:=hc.m3.lt;have A:=hc.cx.lt;have S:=ae q;subst hcc;refine⟨q,⟨(w+1+1+1+1),w+1,w+1+1,w+1+1+1,wd,n1,n2,n3,.slice A0 p.types q0,.slice A1 p.effects q1,.slice A2 p.funs q2,.slice A3 p.actors q3⟩,(by show w.heap.size<=w+1+1+1+1;omega),rfl,⟨(by show _<_;rw[d];show _+1<_;omega),(by show _<_;rw[d];show _+1<_;omega),(by show _<_;rw[d];show _+1<_;omega),(by show _<_;rw[d];show _+1<_;omega),?_,?_,?_,?_,?_,?_,?_,?_,h0.to' S (λ_ _ x=>x.to S),h1.to' S (λ_ _ x=>x.to S),h2.to' S (λ_ _ x=>x.to S),h3.to' S (λ_ _ x=>x.to S),?_,?_,?_⟩,n5,f5,?_⟩
 ·exact e.cell 0
 ·exact e.cell 1
 ·exact e.cell 2
 ·exact e.cell 3
 ·exact e.cell 4
 ·exact e.cell 5
 ·exact e.cell 6
 ·exact e.cell 7
 ·have:=hc.m1.same ((a _ (by first|omega|(simp only;omega))).trans (hr.bel.block _ u));simpa[Pg.tyNames] using this
 ·have:=hc.m2.same ((a _ (by first|omega|(simp only;omega))).trans (hr.bel.block _ t));simpa[Pg.acNames] using this
 ·have:=hc.m3.same ((a _ (by first|omega|(simp only;omega))).trans (hr.bel.block _ r));simpa[Pg.efNames] using this
 have k:wd.heap.size<w5:=hr.map.lt;have j:wd.heap.size≠(w.heap.size+1+1+1+1):=ω;refine⟨by show _<_;rw[d];exact k,hr.map.same (a _ j),λop=>?_⟩;by_cases g:op∈lK
 ·obtain⟨v,y,h⟩:=(hr.rule op).1 g;rw[y];exact h.to (λb hb=>⟨by show b<_;rw[d];exact hb.2,a b (by have:=hb.1;omega)⟩)
 rw[(hr.rule op).2 g];exact uV g
def nN (p:Pg) (A0 A1 A2 A3:Option Addr) (q0 q1 q2 q3:Nat) (w:À) (h0:SlR w (lo w) 3 (DclR w (lo w)) (.slice A0 p.types q0) p.types) (h1:SlR w (lo w) 5 (EffR w (lo w)) (.slice A1 p.effects q1) p.effects) (h2:SlR w (lo w) 11 (FnR w (lo w)) (.slice A2 p.funs q2) p.funs) (h3:SlR w (lo w) 7 (AcR w (lo w)) (.slice A3 p.actors q3) p.actors)
 (hs:p.Small):Calls prog 41 #[.agg #[.slice A0 p.types q0,.slice A1 p.effects q1,.slice A2 p.funs q2,.slice A3 p.actors q3]] w (vx w p):=by
 have a9:=@run_makeMap prog;have t0:=hs.types;have t1:=hs.effects;have t2:=hs.actors;obtain⟨H0,H1,H2,H3⟩:=zd4 h0 h1 h2 h3;obtain⟨W1,J⟩:=γ (((((w.alloc (.cells #[.slice A0 p.types q0,.slice A1 p.effects q1,.slice A2 p.funs q2,.slice A3 p.actors q3] 27)).alloc (.map #[] 0)).alloc (.map #[] 0)).alloc (.map #[] 0)).alloc (.cells #[.slice A0 p.types q0,.slice A1 p.effects q1,.slice A2 p.funs q2,.slice A3 p.actors q3,.map (some (w+1)),.map (some (w+1+1)),.map (some (w+1+1+1)),.map none] 159))
 have a:Hid (NC w W1 p (.slice A0 p.types q0) (.slice A1 p.effects q1) (.slice A2 p.funs q2) (.slice A3 p.actors q3) 0 0 0 0 0 0):=by
  rw[J];refine⟨ζ5,((((Hs.new w 27 _).alloc _).alloc _).alloc _).alloc _,uZ w _ _ _ _ 159 _,?_,?_,?_,υ _,υ _,υ _⟩
  ·have:=(((MapIs.made prog 9 Lit.string (w.alloc (.cells #[.slice A0 p.types q0,.slice A1 p.effects q1,.slice A2 p.funs q2,.slice A3 p.actors q3] 27))).alloc (.map #[] 0)).alloc (.map #[] 0)).alloc (.cells #[.slice A0 p.types q0,.slice A1 p.effects q1,.slice A2 p.funs q2,.slice A3 p.actors q3,.map (some (w+1)),.map (some (w+1+1)),.map (some (w+1+1+1)),.map none] 159);have:=this.congr (g:=idxF p.tyNames 0) (λs=>rfl);simpa using this
  ·have:=((MapIs.made prog 9 Lit.string ((w.alloc (.cells #[.slice A0 p.types q0,.slice A1 p.effects q1,.slice A2 p.funs q2,.slice A3 p.actors q3] 27)).alloc (.map #[] 0))).alloc (.map #[] 0)).alloc (.cells #[.slice A0 p.types q0,.slice A1 p.effects q1,.slice A2 p.funs q2,.slice A3 p.actors q3,.map (some (w+1)),.map (some (w+1+1)),.map (some (w+1+1+1)),.map none] 159);have:=this.congr (g:=idxF p.acNames 0) (λs=>rfl);simpa using this
  have:=(MapIs.made prog 9 Lit.string (((w.alloc (.cells #[.slice A0 p.types q0,.slice A1 p.effects q1,.slice A2 p.funs q2,.slice A3 p.actors q3] 27)).alloc (.map #[] 0)).alloc (.map #[] 0))).alloc (.cells #[.slice A0 p.types q0,.slice A1 p.effects q1,.slice A2 p.funs q2,.slice A3 p.actors q3,.map (some (w+1)),.map (some (w+1+1)),.map (some (w+1+1+1)),.map none] 159);have:=this.congr (g:=idxF p.efNames 0) (λs=>rfl);simpa using this
 have aa:=η J;clear h0 h1 h2 h3 J;go_in;go_upto_region 2 with fail;rw[<-aa.o];clear aa;have V:=a.px.c 0;go_wp2_with fail;clear V;have u:=a;clear a;go_loopw [19] (λi wr=>∃(j k h f:Nat),j<=p.types/\i=.int .i64 j/\Hid (NC w wr p (.slice A0 p.types q0) (.slice A1 p.effects q1) (.slice A2 p.funs q2) (.slice A3 p.actors q3) j 0 0 k h f)) (λi _=>p.types.length-(intOf i).toNat)
 case atStart=>exact⟨0,_,_,_,ω,rfl,u⟩
 case round =>
  clear u;obtain⟨j,k,h,f,hj,rfl,a⟩:=hrel;by_cases hlt:j<p.types
  ·obtain⟨g1,E,X,M,rfl,Z,U,T,R,_,r,_⟩:=fF (SlR.to' H0 (ae a.bel) (λ_ _ x=>x.to (ae a.bel))) hlt;have A:=η r;have j0:(0:Int)<=(j:Int):=ω;have j1:(j:Int)<(p.types.length:Int):=ω;clear r;go_upto_region 5 with fail;refine wp_region_still_tail 7 Δ Δ ?_;obtain⟨l,d⟩:=γ ((wr.alloc (.cells #[.string p.types[j].name,.bool p.types[j].record,.slice X p.types[j].ctors.length M] 48)).drew)
   have B:Below wr wr l:=by rw[d];exact ζ1.drew
   have f0:l.cell? wr=some (.string p.types[j].name):=by rw[d];simp
   change wpStill _ _ (World.drew _) (λa'=>wpList _ _ _ _ a' (World.drew _)) _ _;rw[<-d];have e:=η (a.bels B);have d0:=e.cx.c 4;have z:Hid (p.tyNames[j]?=some p.types[j].name.data.toList):=by show _=_;unfold Pg.tyNames;rw[List.getElem?_map,ξ hlt];rfl
   have y:Hid (k<maxLen):=by have:=e.l1;show k<maxLen;unfold maxLen;omega
   clear d B a U T R;simp only[List.take_succ_cons,List.take_zero,List.drop_succ_cons,List.drop_zero];repeat still_step
   refine wpStill_nil ?_;go_wp2_with (refine ak _ rfl _ _ _ 101 (.inl rfl) 3 (fL underlying9) underlying101 (w+1) k _ rfl e.m1 y p.types[j].name.data.toList (.string p.types[j].name) (.int .i64 (j:Int)) rfl rfl (keyOf_string_mk underlying9 A) ?_;intro w3 L G);exact⟨⟨j+1,_,_,_,ω,by go_num,e.put1 z L G⟩,by simp[intOf];omega⟩
  have t:j=p.types:=ω;have v:Hid (NC w wr p (.slice A0 p.types q0) (.slice A1 p.effects q1) (.slice A2 p.funs q2) (.slice A3 p.actors q3) p.types 0 0 k h f):=by have:=a.o;rw[t] at this;exact this
  clear a t;have a:=v;clear v;obtain⟨wa,rfl⟩:=γ wr
  have V:=a.px.c 3;go_wp2_with fail;clear V;have u:=a;clear a;go_loopw [35] (λi wr=>∃(j k h f:Nat),j<=p.actors/\i=.int .i64 j/\Hid (NC w wr p (.slice A0 p.types q0) (.slice A1 p.effects q1) (.slice A2 p.funs q2) (.slice A3 p.actors q3) p.types j 0 k h f)) (λi _=>p.actors.length-(intOf i).toNat)
  case atStart=>exact⟨0,_,_,_,ω,rfl,u⟩
  case round =>
   clear u;obtain⟨j,k,h,f,hj,rfl,a⟩:=hrel;by_cases hlt:j<p.actors
   ·obtain⟨g1,E,X,M,C2,d2,C3,d3,rfl,Z,U,T,R,c3,c4,c5,c6,_,_,r,_,_,_⟩:=fR (SlR.to' H3 (ae a.bel) (λ_ _ x=>x.to (ae a.bel))) hlt;have A:=η r;have j0:(0:Int)<=(j:Int):=ω;have j1:(j:Int)<(p.actors.length:Int):=ω;clear r;go_upto_region 10 with fail;refine wp_region_still_tail 7 Δ Δ ?_;obtain⟨l,d⟩:=γ ((wr.alloc (.cells #[.string p.actors[j].name,.slice X p.actors[j].params.length M,.int .i64 p.actors[j].slots,.slice C2 p.actors[j].vars.length d2,.slice C3 p.actors[j].on.length d3,.int .i64 p.actors[j].policy,.int .i64 p.actors[j].most] 54)).drew)
    have B:Below wr wr l:=by rw[d];exact ζ1.drew
    have f0:l.cell? wr=some (.string p.actors[j].name):=by rw[d];simp
    change wpStill _ _ (World.drew _) (λa'=>wpList _ _ _ _ a' (World.drew _)) _ _;rw[<-d];have e:=η (a.bels B);have d0:=e.cx.c 5;have z:Hid (p.acNames[j]?=some p.actors[j].name.data.toList):=by show _=_;unfold Pg.acNames;rw[List.getElem?_map,ξ hlt];rfl
    have y:Hid (h<maxLen):=by have:=e.l2;show h<maxLen;unfold maxLen;omega
    clear d B a U T R c3 c4 c5 c6;simp only[List.take_succ_cons,List.take_zero,List.drop_succ_cons,List.drop_zero];repeat still_step
    refine wpStill_nil ?_;go_wp2_with (refine ak _ rfl _ _ _ 101 (.inl rfl) 3 (fL underlying9) underlying101 (w+1+1) h _ rfl e.m2 y p.actors[j].name.data.toList (.string p.actors[j].name) (.int .i64 (j:Int)) rfl rfl (keyOf_string_mk underlying9 A) ?_;intro w3 L G);exact⟨⟨j+1,_,_,_,ω,by go_num,e.put2 z L G⟩,by simp[intOf];omega⟩
   have t:j=p.actors:=ω;have v:Hid (NC w wr p (.slice A0 p.types q0) (.slice A1 p.effects q1) (.slice A2 p.funs q2) (.slice A3 p.actors q3) p.types p.actors 0 k h f):=by have:=a.o;rw[t] at this;exact this
   clear a t;have a:=v;clear v;obtain⟨wb,rfl⟩:=γ wr
   have V:=a.px.c 1;go_wp2_with fail;clear V;have u:=a;clear a;go_loopw [51] (λi wr=>∃(j k h f:Nat),j<=p.effects/\i=.int .i64 j/\Hid (NC w wr p (.slice A0 p.types q0) (.slice A1 p.effects q1) (.slice A2 p.funs q2) (.slice A3 p.actors q3) p.types p.actors j k h f)) (λi _=>p.effects.length-(intOf i).toNat)
   case atStart=>exact⟨0,_,_,_,ω,rfl,u⟩
   case round =>
    clear u;obtain⟨j,k,h,f,hj,rfl,a⟩:=hrel;by_cases hlt:j<p.effects
    ·obtain⟨g1,E,X,M,k1,s1,a1,C2,d2,rfl,Z,U,T,R,c3,c4,_,r,_,_⟩:=jC (SlR.to' H1 (ae a.bel) (λ_ _ x=>x.to (ae a.bel))) hlt;have A:=η r;have j0:(0:Int)<=(j:Int):=ω;have j1:(j:Int)<(p.effects.length:Int):=ω;clear r;go_upto_region 15 with fail;refine wp_region_still_tail 7 Δ Δ ?_;obtain⟨l,d⟩:=γ ((wr.alloc (.cells #[.string p.effects[j].name,.slice X p.effects[j].params.length M,k1,s1,.slice C2 a1 d2] 50)).drew)
     have B:Below wr wr l:=by rw[d];exact ζ1.drew
     have f0:l.cell? wr=some (.string p.effects[j].name):=by rw[d];simp
     change wpStill _ _ (World.drew _) (λa'=>wpList _ _ _ _ a' (World.drew _)) _ _;rw[<-d];have e:=η (a.bels B);have d0:=e.cx.c 6;have z:Hid (p.efNames[j]?=some p.effects[j].name.data.toList):=by show _=_;unfold Pg.efNames;rw[List.getElem?_map,ξ hlt];rfl
     have y:Hid (f<maxLen):=by have:=e.l3;show f<maxLen;unfold maxLen;omega
     clear d B a U T R c3 c4;simp only[List.take_succ_cons,List.take_zero,List.drop_succ_cons,List.drop_zero];repeat still_step
     refine wpStill_nil ?_;go_wp2_with (refine ak _ rfl _ _ _ 101 (.inl rfl) 3 (fL underlying9) underlying101 (w+1+1+1) f _ rfl e.m3 y p.effects[j].name.data.toList (.string p.effects[j].name) (.int .i64 (j:Int)) rfl rfl (keyOf_string_mk underlying9 A) ?_;intro w3 L G);exact⟨⟨j+1,_,_,_,ω,by go_num,e.put3 z L G⟩,by simp[intOf];omega⟩
    have t:j=p.effects:=ω;have v:Hid (NC w wr p (.slice A0 p.types q0) (.slice A1 p.effects q1) (.slice A2 p.funs q2) (.slice A3 p.actors q3) p.types p.actors p.effects k h f):=by have:=a.o;rw[t] at this;exact this
    clear a t;have a:=v;clear v;obtain⟨wd,rfl⟩:=γ wr
    obtain⟨O,H⟩:=γ (⟨(w+1+1+1+1),w+1,w+1+1,w+1+1+1,wd,k,h,f,.slice A0 p.types q0,.slice A1 p.effects q1,.slice A2 p.funs q2,.slice A3 p.actors q3⟩:CB)
    have I:(w.heap.size+1+1+1+1)=O.b:=by rw[H]
    obtain⟨au,bb⟩:=zd2 H I;have Y:(Value.pointer (some ⟨(w+1+1+1+1),0,none⟩))=.pointer (some ⟨O.b,0,none⟩):=by rw[I]
    have aq:=η Y;clear H I Y;go_upto_region 17 with fail;have N:=nR O wd;rw[<-aq.o] at N;have ar:=η N;clear N;go_wp2_with (go_at_call 93;refine ar.mono ?_;rintro e5 w5 ⟨rfl,n5,f5,F⟩;have R5:=η F;have W:=η (aH a.cx F.bel);have y7:w5.cell? ⟨(w+1+1+1+1),7,none⟩=some (.map none):=W.cell 7;have y8:w5.frozen? ⟨(w+1+1+1+1),7,none⟩=false:=W.free 7;clear F);go_ret;refine chk_end au a R5 W H0 H1 H2 H3
def SetSaid (B:Nat) (w0:À) (T fb cb:Nat) (v1 v2 v3:Value) (vw:Nat->Value) (S:FSt) (lim:Nat) (X:Nat->Prop) (w:À) (e:Ending) (w':À):Prop:=
 e=.returned (.tuple #[])/\∃vr',FM B w0 w' T fb cb v1 v2 v3 vr' vw S lim X/\∀b,X b->w'.heap[b]?=w.heap[b]?
variable {T:Nat}
def qC {S:FSt} {o:Nat} (hr:∀x∈S.ready,x<T/\S.fin.getD x false=true) (h:S.fin.getD o false=false):o∉S.ready:=λhm=>by have:=(hr o hm).2;rw[h] at this;cases this
variable {vw:Nat->Value}
def cb_ne {B:Nat} {w0 w:À} {fb cb:Nat} {v1 v2 v3 vr:Value} {S:FSt} {lim:Nat} {X:Nat->Prop} (h:FM B w0 w T fb cb v1 v2 v3 vr vw S lim X):¬(vr.ownBlock=some cb):=λe=>by
 obtain⟨tag,t0,t1,t2,t3,t4,t5,t6,t7⟩:=h.tags
 have:=t5 cb e
 omega
def qg (T:Nat) (l:List Nat) (h:l.Nodup) (hl:∀x∈l,x<T):l<=T:=by
 have:=lZ T (l.map λn=>((n:Nat):Int)) (List.Pairwise.map _ (λa b hab e=>hab ω) h) (λi hi=>by obtain⟨x,d,rfl⟩:=List.mem_map.1 hi;have:=hl x d;omega);simpa using this
def oj {B:Nat} {w0 w:À} {fb cb:Nat} {v1 v2 v3 vr:Value} {S:FSt} {lim:Nat} {X:Nat->Prop} (h:FM B w0 w T fb cb v1 v2 v3 vr vw S lim X) {o:Nat} (ho:o<T) (hT:T<=1000000):
 Calls prog 103 #[.int .i64 (o:Nat),fb,cb] w (SetSaid B w0 T fb cb v1 v2 v3 vw (S.settle o) lim X w):=by
 obtain⟨E,c1,j,ab,R⟩:=ez h.r1 ω;obtain⟨Z,V,H⟩:=bU h.rr;have HT:S.ready<=T:=qg T _ h.nd (λx hx=>(h.rl x hx).1);have A:=h.r1;rw[j] at A;have ac:=h.lf;have N:S.fin[o]?=some (S.fin.getD o false):=by rw[List.getD_eq_getElem?_getD,ξ ω];rfl
 have U:w.cell? ⟨E,o,none⟩=some (.bool (S.fin.getD o false)):=dk A (by rw[List.getElem?_map,N];rfl);have f0:w.cell? fb=some (.slice E T c1):=by have:=h.hf.cell 0;rw[j] at this;exact this
 have f2:w.frozen? ⟨E,o,none⟩=false:=lT A;have o0:(0:Int)<=((o:Nat):Int):=ω;have o1:((o:Nat):Int)<((T:Nat):Int):=ω;have F:=η h;obtain⟨p,L,I,J,M⟩:=jz;have l:Hid (prog.info? 3=some p/\p.zero=some (.int .i64 0)/\p.size=1/\p.bytes=8):=⟨L,I,J,M⟩
 obtain⟨Y,ae,k⟩:=zd3 ho j H;clear h A ac N L I J M j H ab R
 cases hb:S.fin.getD o false with
 | true =>
  have W:Hid (S.settle o=S):=by show _=_;unfold FSt.settle;rw[hb];rfl
  rw[hb] at U;clear hb;go_in;go_wp2;exact bodyPost_ret (v:=.tuple #[]) (by simp[results,results103,go_sem]) rfl ⟨rfl,vr,by rw[W.o];exact F,λ_ _=>rfl⟩
 | false =>
  have W:Hid (S.settle o={ ({ S with fin:=S.fin.set o true }:FSt) with ready:=S.ready++[o] }):=by show _=_;unfold FSt.settle;rw[hb];rfl
  have HN:=η (qC F.rl hb);rw[hb] at U;clear hb;have y:=η (F.flag ae Y)
  have af:Hid (({ S with fin:=S.fin.set o true }:FSt).fin.getD o false=true):=by
   show (S.fin.set o true).getD o false=true;have:=F.lf;have:=Y.o;rw[List.getD_eq_getElem?_getD,List.getElem?_set_self ω];rfl
  obtain⟨d,i⟩:=γ (w.setCell ⟨E,o,none⟩ (true:Vl))
  have g:Hid (FM B w0 d T fb cb v1 v2 v3 vr vw { S with fin:=S.fin.set o true } lim X):=by rw[i];exact y.1
  have ai:Hid (∀b,X b->d.heap[b]?=w.heap[b]?):=by rw[i];exact y.2
  have O:=η i;go_in;go_upto_region 2 with fail;rw[<-O.o];clear i O y f0 U f2;have y0:d.cell? cb=some (.slice Z S.ready V):=by have:=g.hc.cell 0;rw[k.o] at this;exact this
  have a:=η (g.bels (belA (belR d) (.cells #[.int .i64 ((o:Nat):Int)] 3)));have ag:Hid ((d.alloc (.cells #[.int .i64 ((o:Nat):Int)] 3)).ownsRow B 3 1 (.slice Z S.ready V) S.ready (ints S.ready)):=by have:=a.rr;rw[k.o] at this;exact this
  have aa:=a.szB;go_wp2_with (at_builtin;refine wpList_append_own_at _ rfl (.tmp 12) (.tmp 14) 104 rfl B 3 p (.int .i64 0) 1 8 underlying104 l.1 l.2.1 l.2.2.1 l.2.2.2 rfl π (.slice Z S.ready V) S.ready (ints S.ready) rfl ag d 1 1 [.int .i64 ((o:Nat):Int)] rfl rfl (ib (Hs.new _ _ _)) one1 Ξ ω aa ?_;intro vv z e f D t;obtain⟨A5,c5,rfl⟩:=bU e;have u:(d.alloc (.cells #[.int .i64 ((o:Nat):Int)] 3)).grownBy z vr.ownBlock:=(by rw[k.o];exact f);have G:(Value.slice A5 (S.ready+1) c5).ownBlock=vr.ownBlock\/(Value.slice A5 (S.ready+1) c5).ownBlock=some (d.alloc (.cells #[.int .i64 ((o:Nat):Int)] 3)).heap.size:=(by rw[k.o];exact t);have HP:=η (a.push Y HN af e u G);have r:Hs z cb 104 #[vr]:=bp a.hc (pE u) (cb_ne a);have x0:z.cell? cb=some vr:=r.cell 0;have x1:z.frozen? cb=false:=r.free 0;clear e f D t u G r);exact bodyPost_ret (v:=.tuple #[]) (by simp[results,results103,go_sem]) rfl ⟨rfl,_,by rw[W.o];exact HP.1,λb hb=>(HP.2 b hb).trans ((belA (belR d) _).block b (g.xl b hb) |>.trans (ai b hb))⟩
def nb (base:Nat) (v:Value) (w:À) (k:Nat):Prop:=base<=k/\k<w/\v.ownBlock≠some k
def nw (base:Nat) (w:À) (k:Nat):Prop:=base<=k/\k<w
def RowG {α:Type} (size:Nat) (R:List Value->α->Prop) (xs:List Value) (l:List α):Prop:=xs.length=l.length*size/\∀i (hi:i<l.length),R ((xs.drop (i*size)).take size) l[i]
section
variable {α:Type} {size:Nat} {R:À->(Nat->Prop)->List Value->α->Prop}
def RowG.nil (Q:List Value->α->Prop):RowG size Q [] []:=⟨by simp,λi hi=>absurd hi Θ⟩
variable {Q:List Value->α->Prop} {xs:List Value} {l:List α}
def RowG.snoc {cs:List Value} {a:α} (h:RowG size Q xs l) (hc:cs=size) (ha:Q cs a):RowG size Q (xs++cs) (l++[a]):=by
 refine⟨by simp[h.1,hc];rw[Nat.add_mul,Nat.one_mul],λi hi=>?_⟩;by_cases b:i<l.length
 ·have j:=h.1;have e:(i+1)*size<=l.length*size:=Nat.mul_le_mul_right _ b;rw[Nat.add_mul,Nat.one_mul] at e;rw[List.drop_append_of_le_length ω,List.take_append_of_le_length (by rw[List.length_drop];omega),List.getElem_append_left b];exact h.2 i b
 have d:i=l.length:=by simp at hi;omega
 subst d;have g:(xs++cs).drop (l.length*size)=cs:=by rw[<-h.1,List.drop_append_of_le_length (υ _),List.drop_length,List.nil_append]
 have f:(l++[a])[l.length]'hi=a:=by simp
 rw[g,f,List.take_of_length_le ω];exact ha
def RowG.to {Q':List Value->α->Prop} (h:RowG size Q xs l) (hq:∀cs a,Q cs a->Q' cs a):RowG size Q' xs l:=⟨h.1,λi hi=>hq _ _ (h.2 i hi)⟩
variable {base:Nat} {v:Value}
def RowG.sl {w:À} {P:Nat->Prop} {e:Nat} (h:RowG size Q xs l) (ho:w.ownsRow base e size v l xs) (hq:∀g,v.ownBlock=some g->P g):SlR w P size Q v l:=by
 have b:=λg hg=>ho.cells (g:=g) hg;obtain⟨f,a⟩:=ho;rcases a with ⟨rfl,h0⟩|⟨g,cap,cur,rfl,hb,hh,hnc,hcm,hcs,hct⟩
 ·have:l=[]:=List.eq_nil_of_length_eq_zero h0;subst this;exact SlR.nil
 refine⟨some ⟨g,0,none⟩,cap,λi=>(xs.drop (i*size)).take size,rfl,⟨ψ hnc hcm,hnc⟩,λ_=>⟨g,0,rfl,hq g rfl,λi hi=>⟨?_,λj u hu=>?_⟩⟩,λi hi=>h.2 i hi⟩
 ·have d:(i+1)*size<=l.length*size:=Nat.mul_le_mul_right _ hi;rw[Nat.add_mul,Nat.one_mul] at d;rw[List.length_take,List.length_drop];omega
 rw[List.getElem?_take] at hu;split at hu
 ·rw[List.getElem?_drop] at hu;have:=b g rfl _ _ hu
  have e:(⟨g,0,none⟩:Addr).add (i*size+j)=⟨g,0+i*size+j,none⟩:=by
   unfold Addr.add;split
   ·rename_i h;simp at h;simp[h]
   simp
  rw[e] at this;exact this
 cases hu
def sub_nb {rb db:Nat} {w w':À} (h:Stp (rdO rb db) w w') (h1:rb<base) (h2:db<base):Sub (nb base v w) (nb base v w') w w':=λk hk =>
 ⟨⟨hk.1,ρ hk.2.1 h.size,hk.2.2⟩,h.block k hk.2.1 (λe=>by have:=hk.1;rcases e with e|e<;>omega)⟩
def vM {w w':À} (hv:∀g,v.ownBlock=some g->g<w.heap.size) (hb:base<=w):Sub (nw w w') (nb base v w') w' w':=λk hk =>
 ⟨⟨ψ hb hk.1,hk.2,λe=>by have:=hv k e;have:=hk.1;omega⟩,rfl⟩
variable {w2:À} {ob:Obj}
def sub_push {v':Value} (hg:(w2.alloc ob).grownBy w5 v.ownBlock) (hvb:v'.ownBlock=v.ownBlock\/v'.ownBlock=some (w2.alloc ob).heap.size):Sub (nb base v w2) (nb base v' w5) w2 w5:=λk hk=>by
 have h1:k<(w2.alloc ob).heap.size:=by have:=hk.2.1;simp;omega
 refine⟨⟨hk.1,ρ h1 hg.size,λe=>?_⟩,?_⟩
 ·rcases hvb with x|x
  ·exact hk.2.2 (by rw[<-x,e])
  rw[e] at x;injection x with x;omega
 exact (hg.block k h1 (λe=>hk.2.2 e.symm)).trans ((belA (belR w2) ob).block k hk.2.1)
def stp_push {O:Nat->Prop} {w:À} (h:Stp O w w2) (hg:(w2.alloc ob).grownBy w5 v.ownBlock) (hv:∀g,v.ownBlock=some g->w.heap.size<=g):Stp O w w5:=by
 have a:=stpA h ob;exact⟨hg.os.trans a.os,hg.tape.trans a.tape,hg.output.trans a.output,ψ a.size hg.size,λk hk hn=>(hg.block k (ρ hk a.size) (λe=>by have:=hv k e.symm;omega)).trans (a.block k hk hn)⟩
def rd_push {rb db:Nat} {l:List UInt8} {fl:Bool} {d:Int} (h:RdAt rb db l fl d w2) (hg:(w2.alloc ob).grownBy w5 v.ownBlock) (hv:∀g,v.ownBlock=some g->g≠rb/\g≠db):RdAt rb db l fl d w5:=by
 have b:=fu h.r ob;have a:=fu h.d ob;exact⟨(hg.block _ b.lt (λe=>(hv _ e.symm).1 rfl)).trans b,(hg.block _ a.lt (λe=>(hv _ e.symm).2 rfl)).trans a⟩
def yd (R:À->(Nat->Prop)->List Value->α->Prop) (size:Nat) (l:List α) (rb db:Nat) (tl:List UInt8) (d:Int) (w:À) (e:Ending) (w':À):Prop:=
 ∃v,e=.returned v/\SlR w' (nw w w') size (R w' (nw w w')) v l/\RdAt rb db tl false d w'/\Stp (rdO rb db) w w'
def cW (R:À->(Nat->Prop)->List Value->α->Prop) (a:α) (rb db:Nat) (tl:List UInt8) (d:Int) (w:À) (e:Ending) (w':À):Prop:=
 ∃cs,e=.returned (.agg cs.toArray)/\R w' (nw w w') cs a/\RdAt rb db tl false d w'/\Stp (rdO rb db) w w'
def MLoop (R:À->(Nat->Prop)->List Value->α->Prop) (size e:Nat) (f:Unit->α->List UInt8×Unit) (l:List α) (rb db:Nat) (tl:List UInt8) (d:Int) (j:Nat) (v:Value) (w wr:À):Prop:=
 ∃xs,wr.ownsRow w e size v j xs/\RowG size (R wr (nb w v wr)) xs (l.take j)/\RdAt rb db ((wAll f () (l.drop j)).1++tl) false d wr/\Stp (rdO rb db) w wr
def wAll_u {f:Unit->α->List UInt8×Unit} {j:Nat} (h:j<l):(wAll f () (l.drop j)).1=(f () l[j]).1++(wAll f () (l.drop (j+1))).1:=by rw[bk h,wAll]
def wAll_ge {f:Unit->α->List UInt8×Unit} (h:∀a∈l,0<(f () a).1.length):l<=(wAll f () l).1.length:=by
 induction l with
 | nil=>simp
 | cons x l ih =>
  rw[wAll];have d:=ih (λa ha=>h a (List.mem_cons_of_mem _ ha));have b:=h x List.mem_cons_self;simp only[δ,μ];have e:(f () x).2=():=rfl;rw[e];omega
def qv {f:Unit->α->List UInt8×Unit} (j:Nat):(wAll f () (l.drop j)).1.length<=(wAll f () l).1.length:=by
 induction j generalizing l with
 | zero=>exact υ _
 | succ j ih =>
  cases l with
  | nil=>simp
  | cons x l =>
   rw[List.drop_succ_cons];refine ψ (ih (l:=l)) ?_;rw[wAll,μ];exact Nat.le_add_left _ _
end
mutual
def szTy (d:Int):Ty->Nat
 | .mk _ s a=>if d<0 then 1000000 else 1+s.size+iK (d-1) a
def iK (d:Int):List Ty->Nat
 | []=>0
 | x::xs=>szTy d x+iK d xs
end
mutual
def szEx (d:Int):Ex->Nat
 | .mk _ _ _ s a=>if d<0 then 1000000 else 1+s.size+fc (d-1) a
def fc (d:Int):List Ex->Nat
 | []=>0
 | x::xs=>szEx d x+fc d xs
end
variable {d:Int} {j:Nat}
def szTys_at {l:List Ty} (h:j<l):iK d (l.drop j)=szTy d l[j]+iK d (l.drop (j+1)):=by rw[bk h,iK]
def sG {l:List Ex} (h:j<l):fc d (l.drop j)=szEx d l[j]+fc d (l.drop (j+1)):=by rw[bk h,fc]
def iC (n:Nat) (w:À) (e:Ending) (w':À):Prop:=e=.returned (.int .i64 (n:Int))/\Below w w w'
set_option maxRecDepth 1000000 in
def zfSize {p:Prop} (h:p:=by
 induction k with
  | zero=>intro cs t d w H;cases t;simp at H
  | succ k ih =>
   intro cs t d w H r a5 a4 B
   first
    | guard_hyp kk0:True
      obtain⟨G,s,a,A,cap,rfl,rfl,_,hs,L⟩:=ap r
    | obtain⟨op,x,m,s,a,A,cap,rfl,rfl,_,hs,L⟩:=dJ r
   have lm:=L.le9
   first
    | guard_hyp kk0:True
      have Y:Hid (∀(i:Nat) (h:i<a.length) (cs:List Value) (d:Int) (w W:À),TyR w (lo w) cs a[i]->Below w w W->-1<=d->d<=100->szTy d a[i]<=4000000000000->Calls prog 59 #[cs.toArray,d] W (iC (szTy d a[i]) W)):=λi h cs d w W r hW h1 h2 h3 =>
       ih cs a[i] d W (by have:=List.sizeOf_lt_of_mem (ν h);simp at H;omega) (r.to (ae hW)) h1 h2 h3
    | have Y:Hid (∀(i:Nat) (h:i<a.length) (cs:List Value) (d:Int) (w W:À),ExR w (lo w) cs a[i]->Below w w W->-1<=d->d<=100->szEx d a[i]<=4000000000000->Calls prog 60 #[cs.toArray,d] W (iC (szEx d a[i]) W)):=λi h cs d w W r hW h1 h2 h3 =>
       ih cs a[i] d W (by have:=List.sizeOf_lt_of_mem (ν h);simp at H;omega) (r.to (ae hW)) h1 h2 h3
   have HA:=η L;have a3:s.size<=9223372036854775807:=hs;by_cases f:d<0
   ·have u0:decide (d<0)=true:=decide_eq_true f
    first
     | guard_hyp kk0:True
       have u:Hid (szTy d (.mk G s a)=1000000):=by show _=_;rw[szTy,if_pos f]
     | have u:Hid (szEx d (.mk op x m s a)=1000000):=by show _=_;rw[szEx,if_pos f]
    clear ih H r L B
    first
     | guard_hyp kk0:True
       go_in
     | go_in
    go_wp2;go_ret;rw[u.o];exact⟨rfl,ζ1⟩
   have u0:decide (d<0)=false:=decide_eq_false f
   first
    | guard_hyp kk0:True
      have u:Hid (szTy d (.mk G s a)=1+s.size+iK (d-1) (a.drop 0)):=by show _=_;rw[szTy,if_neg f];rfl
      obtain⟨e,p⟩:=γ (szTy d (.mk G s a))
    | have u:Hid (szEx d (.mk op x m s a)=1+s.size+fc (d-1) (a.drop 0)):=by show _=_;rw[szEx,if_neg f];rfl
      obtain⟨e,p⟩:=γ (szEx d (.mk op x m s a))
   rw[<-p] at B u;rw[<-p];have ah:=η B;have a2:1+s.size<=4000000000000:=by have:=u.o;omega
   have d1:wrap64 (d-1)=d-1:=by unfold wrap64;omega
   have T:=η (show -1<=d-1/\d-1<=100 by omega)
   first
    | guard_hyp kk0:True
      obtain⟨O,l⟩:=γ (w.alloc (.cells #[G,s,.slice A a cap] 40))
    | obtain⟨O,l⟩:=γ (w.alloc (.cells #[op,x,m,s,.slice A a cap] 43))
   have B1:Hid (Below w w O):=by rw[l];exact ζ1
   first
    | guard_hyp kk0:True
      have F:Hid (Hs O w 40 #[G,s,.slice A a cap]):=by rw[l];exact Hs.new _ _ _
    | have F:Hid (Hs O w 43 #[op,x,m,s,.slice A a cap]):=by rw[l];exact Hs.new _ _ _
   have X:=η l;clear ih H r L B p l
   first
    | guard_hyp kk0:True
      go_in
    | go_in
   go_upto_region 1 with fail;rw[<-X.o];clear X
   first
    | guard_hyp kk0:True
      have b1:=F.c 1
    | have b1:=F.c 3
   go_wp2_with fail;clear b1
   first
    | guard_hyp kk0:True
      go_loopw [6,5] (λi v wr=>∃(j b:Nat),j<=a/\i=.int .i64 j/\v=.int .i64 b/\Hid (e=b+iK (d-1) (a.drop j))/\Hid (Below w w wr)/\Hid (Hs wr w 40 #[G,s,.slice A a cap])) (λi _ _=>a.length-(intOf i).toNat)
    | go_loopw [6,5] (λi v wr=>∃(j b:Nat),j<=a/\i=.int .i64 j/\v=.int .i64 b/\Hid (e=b+fc (d-1) (a.drop j))/\Hid (Below w w wr)/\Hid (Hs wr w 43 #[op,x,m,s,.slice A a cap])) (λi _ _=>a.length-(intOf i).toNat)
   case atStart=>exact⟨0,1+s.size,ω,rfl,by first|rfl|(simp;done)|(simp;omega),u,B1,F⟩
   case round =>
    obtain⟨j,b,hj,rfl,rfl,R,U,Z⟩:=hrel
    first
     | guard_hyp kk0:True
       have b2:=Z.c 2
     | have b2:=Z.c 4
    by_cases hlt:j<a
    ·have u1:=zT j a
     first
      | guard_hyp kk0:True
        have M:=η (szTys_at (d:=d-1) hlt);obtain⟨g,aa,k1,s1,a1,C1,af,rfl,hg,e1,p0,p1,p2,I⟩:=cS (TysR.to HA (ae U)) hlt
      | have M:=η (sG (d:=d-1) hlt)
        obtain⟨g,aa,o1,x1,m1,s1,a1,C1,af,rfl,hg,e1,p0,p1,p2,p3,p4,I⟩:=aQ (ExsR.to HA (ae U)) hlt
     have HR:=η I;have j0:(0:Int)<=(j:Int):=ω;have j1:(j:Int)<(a.length:Int):=ω
     first
      | guard_hyp kk0:True
        have D:e=b+(szTy (d-1) a[j]+iK (d-1) (a.drop (j+1))):=by rw[R.o,M.o]
        obtain⟨N,y⟩:=γ (szTy (d-1) a[j])
      | have D:e=b+(szEx (d-1) a[j]+fc (d-1) (a.drop (j+1))):=by rw[R.o,M.o]
        obtain⟨N,y⟩:=γ (szEx (d-1) a[j])
     rw[<-y] at D;obtain⟨aj,E⟩:=zd2 D y;have a6:b+N<=4000000000000:=by have:=ah.o;omega
     have V:Hid (N<=4000000000000):=by show _<=_;omega
     clear I e1 hg D y
     first
      | guard_hyp kk0:True
        go_wp2_with (go_at_call 59;refine (Y j hlt _ (d-1) _ _ HR (belR _) T.1 T.2 (by rw[<-E.o];exact V)).mono ?_;rw[<-E.o];rintro e2 w2 ⟨rfl,J⟩)
      | go_wp2_with (go_at_call 60;refine (Y j hlt _ (d-1) _ _ HR (belR _) T.1 T.2 (by rw[<-E.o];exact V)).mono ?_;rw[<-E.o];rintro e2 w2 ⟨rfl,J⟩)
     refine⟨⟨j+1,b+N,ω,by go_num,by first|rfl|(simp;done)|go_num,?_,bel U J,aH Z J⟩,by simp[intOf];omega⟩;show _=_;rw[aj.o];omega
    have u1:=zF j a
    first
     | guard_hyp kk0:True
       have HE:Hid (b=e):=by show _=_;rw[R.o,ε ω,iK];rfl
     | have HE:Hid (b=e):=by show _=_;rw[R.o,ε ω,fc];rfl
    go_wp2;go_ret;rw[HE.o];exact⟨rfl,U⟩) :p:=h
def styp_any (k:Nat):∀(cs:List Value) (t:Ty) (d:Int) (w:À),SizeOf.sizeOf t<=k->TyR w (lo w) cs t->-1<=d->d<=100->szTy d t<=4000000000000->Calls prog 59 #[.agg cs.toArray,d] w (iC (szTy d t) w):=by
 have kk0:=trivial;exact zfSize
variable {cs:List Value}
def od {t:Ty} {w:À} (hr:TyR w (lo w) cs t) (h1:-1<=d) (h2:d<=100) (h3:szTy d t<=4000000000000):Calls prog 59 #[cs.toArray,d] w (iC (szTy d t) w):=styp_any _ cs t d w (υ _) hr h1 h2 h3
def sexpr_any (k:Nat):∀(cs:List Value) (t:Ex) (d:Int) (w:À),SizeOf.sizeOf t<=k->ExR w (lo w) cs t->-1<=d->d<=100->szEx d t<=4000000000000->Calls prog 60 #[.agg cs.toArray,d] w (iC (szEx d t) w):=by
 have kk1:=trivial;exact zfSize
def pb {t:Ex} {w:À} (hr:ExR w (lo w) cs t) (h1:-1<=d) (h2:d<=100) (h3:szEx d t<=4000000000000):Calls prog 60 #[cs.toArray,d] w (iC (szEx d t) w):=sexpr_any _ cs t d w (υ _) hr h1 h2 h3
def szFs:List Fld->Nat
 | []=>0
 | f::fs=>f.name.size+szTy 20 f.type+szFs fs
def bY (l:List Fld):Nat:=l.length+szFs l
def szFs_at {l:List Fld} (h:j<l):szFs (l.drop j)=l[j].name.size+szTy 20 l[j].type+szFs (l.drop (j+1)):=by rw[bk h,szFs]
def bf {x:Int} (h1:0<=x) (h2:x<=9223372036854775807):IntKind.i64.wrap x=x:=by
 rw[IntKind.wrap_i64];omega
def iQ {v:Value} {l:List Fld} {w:À} (hl:FldsR w (lo w) v l) (hsz:bY l<=4000000000000):Calls prog 58 #[v] w (iC (bY l) w):=by
 obtain⟨A,cap,rfl⟩:=hl.form;have lm:=hl.le9;have O:=η hl;obtain⟨d,b⟩:=γ (bY l)
 rw[<-b] at hsz;rw[<-b];have r:=η hsz;have F:Hid (d=l.length+szFs (l.drop 0)):=b;have V:l.length<=4000000000000:=by have:=F.o;omega
 clear hl hsz b;go_in;go_wp2_with fail;go_loopw [4,3] (λi v wr=>∃(j a:Nat),j<=l/\i=.int .i64 j/\v=.int .i64 a/\Hid (d=a+szFs (l.drop j))/\Hid (Below w w wr)) (λi _ _=>l.length-(intOf i).toNat)
 case atStart=>exact⟨0,l,ω,rfl,rfl,F,belR _⟩
 case round =>
  obtain⟨j,a,hj,rfl,rfl,H,t⟩:=hrel;by_cases hlt:j<l
  ·have I:=η (szFs_at hlt);obtain⟨g,T,k1,s1,a1,C1,d1,rfl,L,M,B,y,x,u,D,h⟩:=dw (FldsR.to O (ae t)) hlt;have N:=η h;have j0:(0:Int)<=(j:Int):=ω;have j1:(j:Int)<(l.length:Int):=ω;obtain⟨e,f⟩:=γ (szTy 20 l[j].type)
   have k:d=a+(l[j].name.size+e+szFs (l.drop (j+1))):=by rw[H.o,I.o,f]
   obtain⟨G,q⟩:=zd2 k f;have U:l[j].name.size<=4000000000000:=by have:=r.o;omega
   have W:a+l[j].name.size+e<=4000000000000:=by have:=r.o;omega
   have E:Hid (e<=4000000000000):=by show _<=_;omega
   have x0:=belW B;have x1:=belW y;have Z:=belW x;have Y:=belW u;have v1:IntKind.i64.wrap ((a:Int)+(l[j].name.size:Int))=(a:Int)+(l[j].name.size:Int):=bf ω ω;have v2:IntKind.i64.wrap ((a:Int)+(l[j].name.size:Int)+(e:Int))=(a:Int)+(l[j].name.size:Int)+(e:Int):=bf ω ω;clear h M L k f D B y x u;go_upto_region 5 with fail
   go_region_held3 (λX=>Below wr wr X) (first|exact ad _|exact bel ι p)
    (first|(go_at_call 59;refine (od (N.to (ae (ad _))) ω ω (by rw[<-q.o];exact E)).mono ?_;rw[<-q.o];rintro e2 w2 ⟨rfl,p⟩))
   go_wp2_with fail;refine⟨⟨j+1,a+l[j].name.size+e,ω,by go_num,by first|rfl|(simp;done)|go_num,?_,bel t (bel (ad _) p)⟩,by simp[intOf];omega⟩;show _=_;rw[G.o];omega
  have R:Hid (a=d):=by show _=_;rw[H.o,ε ω,szFs];rfl
  go_wp2;go_ret;rw[R.o];exact⟨rfl,t⟩
mutual
def szSt (d:Int):St->Nat
 | .mk _ _ _ s u xs h e a=>1+s.size+u.size+(if d-1<0 then 1000000 else eZ (d-1) h)+(if d-1<0 then 1000000 else eZ (d-1) e)+(if d-1<0 then 1000000 else eZ (d-1) a)+fc d xs
def eZ (d:Int):List St->Nat
 | []=>0
 | x::xs=>szSt d x+eZ d xs
end
def ek (d:Int) (l:List St):Nat:=if d<0 then 1000000 else eZ d l
def szStl_at {l:List St} (h:j<l):eZ d (l.drop j)=szSt d l[j]+eZ d (l.drop (j+1)):=by rw[bk h,eZ]
def szSt_mk {o n m:Int} {s u:Ê} {xs:List Ex} {h e a:List St}:szSt d (.mk o n m s u xs h e a)=1+s.size+u.size+ek (d-1) h+ek (d-1) e+ek (d-1) a+fc d xs:=by rw[szSt];rfl
def tB (k:Nat):∀(v:Value) (l:List St) (d:Int) (w:À),SizeOf.sizeOf l<=k->StsR w (lo w) v l->-1<=d->d<=100->ek d l<=4000000000000->Calls prog 61 #[v,d] w (iC (ek d l) w):=by
 induction k with
 | zero=>intro v l d w hn;cases l<;>simp at hn
 | succ k ih =>
  intro v l d w hn hl dq dp V;obtain⟨A,cap,rfl⟩:=hl.form;have lm:=hl.le9
  have IH:Hid (∀(i:Nat) (h:i<l.length) (o n m:Int) (s u:Ê) (xs:List Ex) (a b c:List St),l[i]=.mk o n m s u xs a b c->∀(q:List St),q=a\/q=b\/q=c->∀(v:Value) (d:Int) (w W:À),StsR w (lo w) v q->Below w w W->-1<=d->d<=100->ek d q<=4000000000000->Calls prog 61 #[v,d] W (iC (ek d q) W)):=λi h o n m s u xs a b c e q hq v d w W hr hW h1 h2 h3 =>
   ih v q d W (by
    have h4:=List.sizeOf_lt_of_mem (ν h);rw[e] at h4;simp at h4;rcases hq with rfl|rfl|rfl<;>omega) (StsR.to hr (ae hW)) h1 h2 h3
  have HL:=η hl;by_cases Y:d<0
  ·have HV:Hid (ek d l=1000000):=by show _=_;unfold ek;rw[if_pos Y]
   clear ih hn hl V;go_in;go_wp2;go_ret;rw[HV.o];exact⟨rfl,belR _⟩
  have HV:Hid (ek d l=0+eZ d (l.drop 0)):=by show _=_;unfold ek;rw[if_neg Y];simp
  obtain⟨B,R⟩:=γ (ek d l)
  rw[<-R] at V HV;rw[<-R];have bb:=η V;have d1:IntKind.i64.wrap (d-1)=d-1:=by rw[IntKind.wrap_i64];omega
  have M:=η (show -1<=d-1/\d-1<=100/\-1<=d/\d<=100 by omega);clear ih hn hl V R;go_in;go_wp2_with fail;go_loopw [6,5] (λi v wr=>∃(j f:Nat),j<=l/\i=.int .i64 j/\v=.int .i64 f/\Hid (B=f+eZ d (l.drop j))/\Hid (Below w w wr)) (λi _ _=>l.length-(intOf i).toNat)
  case atStart=>exact⟨0,0,ω,rfl,rfl,HV,belR _⟩
  case round =>
   obtain⟨j,f,hj,rfl,rfl,HQ,HB⟩:=hrel;by_cases hlt:j<l
   ·have cm:=η (szStl_at (d:=d) hlt);obtain⟨g1,c9,ab,x1,m1,g,t,r,O,T,U,D0,d0,D1,L,D2,d2,D3,d3,rfl,bv,e1,p0,p1,p2,p3,p4,p5,p6,p7,p8,bx,bs,br,ai,a0,a4,a5⟩:=pD (StsR.to HL (ae HB)) hlt;have lY:=ai.le9;obtain⟨HY,HT,ci,cn,ap⟩:=zd5 ai a0 a4 a5 e1;obtain⟨y,ac⟩:=γ (ek (d-1) O)
    obtain⟨F,af⟩:=γ (ek (d-1) T)
    obtain⟨N,ag⟩:=γ (ek (d-1) U)
    have I:B=f+(1+g.size+t.size+y+F+N+fc d (r.drop 0)+eZ d (l.drop (j+1))):=by rw[HQ.o,cm.o,e1,szSt_mk,ac,af,ag];rfl
    have cg:=η I;have hb:f+1+g.size+t.size+y+F+N<=4000000000000:=by have:=bb.o;omega
    obtain⟨a6,a7,a8⟩:=zd3 ac af ag;have j0:(0:Int)<=(j:Int):=ω;have j1:(j:Int)<(l.length:Int):=ω;obtain⟨b2,al⟩:=γ wr
    have bu:=η lY;obtain⟨p,Z,B5,E⟩:=κ wr #[ab,x1,m1,g,t,.slice D0 r d0,.slice D1 O L,.slice D2 T d2,.slice D3 U d3] 120
    obtain⟨cl,ba,bd⟩:=zd3 (bel HB B5) Z al;clear al;have S5:=ae B5;have IT:Hid (∀W,Below p p W->Calls prog 61 #[.slice D1 O L,.int .i64 (d-1)] W (λe w'=>e=.returned (.int .i64 ((y:Nat):Int))/\Below W W w')):=λW hW=>by rw[a6.o];exact IH j hlt _ _ _ _ _ _ _ _ _ ap O (.inl rfl) _ _ p W (StsR.to HT S5) hW M.1 M.2.1 (by rw[<-a6.o];omega)
    have IE:Hid (∀W,Below p p W->Calls prog 61 #[.slice D2 T d2,.int .i64 (d-1)] W (λe w'=>e=.returned (.int .i64 ((F:Nat):Int))/\Below W W w')):=λW hW=>by rw[a7.o];exact IH j hlt _ _ _ _ _ _ _ _ _ ap T (.inr (.inl rfl)) _ _ p W (StsR.to ci S5) hW M.1 M.2.1 (by rw[<-a7.o];omega)
    have IA:Hid (∀W,Below p p W->Calls prog 61 #[.slice D3 U d3,.int .i64 (d-1)] W (λe w'=>e=.returned (.int .i64 ((N:Nat):Int))/\Below W W w')):=λW hW=>by rw[a8.o];exact IH j hlt _ _ _ _ _ _ _ _ _ ap U (.inr (.inr rfl)) _ _ p W (StsR.to cn S5) hW M.1 M.2.1 (by rw[<-a8.o];omega)
    have Y5:=η (ExsR.to HY S5);clear e1 ai a0 a4 a5 bx bs br bv I ac af ag Z B5 S5;go_upto_region 8 with fail;rw[<-ba.o];clear ba p0 p1 p2 p3 p4 p5 p6 p7 p8;have b3:=belW (E.c 3);have b4:=belW (E.c 4);have b6:=belW (E.c 6);have b7:=belW (E.c 7);have b8:=belW (E.c 8);have v1:IntKind.i64.wrap ((f:Int)+1)=(f:Int)+1:=bf ω ω;have v2:IntKind.i64.wrap ((f:Int)+1+(g.size:Int))=(f:Int)+1+(g.size:Int):=bf ω ω;have v3:IntKind.i64.wrap ((f:Int)+1+(g.size:Int)+(t.size:Int))=(f:Int)+1+(g.size:Int)+(t.size:Int):=bf ω ω;have v4:IntKind.i64.wrap ((f:Int)+1+(g.size:Int)+(t.size:Int)+(y:Int))=(f:Int)+1+(g.size:Int)+(t.size:Int)+(y:Int):=bf ω ω;have v5:IntKind.i64.wrap ((f:Int)+1+(g.size:Int)+(t.size:Int)+(y:Int)+(F:Int))=(f:Int)+1+(g.size:Int)+(t.size:Int)+(y:Int)+(F:Int):=bf ω ω;have v6:IntKind.i64.wrap ((f:Int)+1+(g.size:Int)+(t.size:Int)+(y:Int)+(F:Int)+(N:Int))=(f:Int)+1+(g.size:Int)+(t.size:Int)+(y:Int)+(F:Int)+(N:Int):=bf ω ω;refine tkB (λX=>Below p p X) (ad _) (λhHeld=>?_);refine θ ?_
    refine θ ?_;refine tkE 14 (λK hK=>?_);go_simp;refine (IT _ (ad _)).mono ?_;rintro e2 w2 ⟨rfl,D⟩;refine tkR hK ?_ (λhHeld=>?_)
    ·exact bel (ad _) D
    clear hK K;refine tkQ 15 ?_;refine tkE 20 (λK hK=>?_);go_simp;refine (IE _ (bel (ad _) D)).mono ?_;rintro e3 w3 ⟨rfl,J⟩;refine tkR hK ?_ (λhHeld=>?_)
    ·exact bel (bel (ad _) D) J
    clear hK K;refine tkQ 21 ?_;refine tkE 26 (λK hK=>?_);go_simp;refine (IA _ (bel (bel (ad _) D) J)).mono ?_;rintro e4 w4 ⟨rfl,ak⟩;refine tkR hK ?_ (λhHeld=>?_)
    ·exact bel (bel (bel (ad _) D) J) ak
    clear hK K;refine θ ?_;refine tkD ?_;rw[<-bd.o];have B6:=η (bel (bel (bel (ad _) D) J) ak);obtain⟨W6,rfl⟩:=γ w4
    have co:Hid (Hs W6 b2 120 #[ab,x1,m1,g,t,.slice D0 r d0,.slice D1 O L,.slice D2 T d2,.slice D3 U d3]):=by rw[bd.o];exact aH E B6
    obtain⟨ck,Y6⟩:=zd2 (bel cl B6) (ExsR.to Y5 (ae B6));obtain⟨H,G⟩:=γ (f+1+g.size+t.size+y+F+N)
    have ea:(f:Int)+1+(g.size:Int)+(t.size:Int)+(y:Int)+(F:Int)+(N:Int)=((H:Nat):Int):=by rw[G];push_cast;rfl
    have cf:Hid (B=H+(fc d (r.drop 0)+eZ d (l.drop (j+1)))):=by show _=_;rw[cg.o,G];omega
    rw[ea];clear v1 v2 v3 v4 v5 v6 ea G b3 b4 b6 b7 b8 IT IE IA hb D J ak B6;go_wp2_with fail;go_loopw [8,5] (λi v wr2=>∃(q x:Nat),q<=r.length/\i=.int .i64 q/\v=.int .i64 x/\Hid (B=x+(fc d (r.drop q)+eZ d (l.drop (j+1))))/\Hid (Below W6 W6 wr2)) (λi _ _=>r.length-(intOf i).toNat)
    case atStart=>exact⟨0,H,ω,rfl,rfl,cf,belR _⟩
    case round =>
     obtain⟨q,x,hq,rfl,rfl,bc,aa⟩:=hrel;have cc:=η (aH co aa);have c5:=cc.c 5;by_cases a3:q<r.length
     ·have bm:=η (sG (d:=d) a3);obtain⟨g2,c8,o2,x2,m2,s2,a2,C2,dt,rfl,-,b1,r0,r1,r2,r3,r4,a1⟩:=aQ (ExsR.to Y6 (ae aa)) a3;have cd:=η a1;have dn:(0:Int)<=(q:Int):=ω;have dm:(q:Int)<(r.length:Int):=ω;obtain⟨z1,ah⟩:=γ (szEx d r[q])
      have I:B=x+(z1+fc d (r.drop (q+1))+eZ d (l.drop (j+1))):=by rw[bc.o,bm.o,ah]
      obtain⟨ce,a9⟩:=zd2 I ah;have ds:x+z1<=4000000000000:=by have:=bb.o;omega
      have cb:Hid (z1<=4000000000000):=by show _<=_;omega
      clear a1 b1 I ah;go_wp2_with (go_at_call 60;refine (pb (cd.to (ae (belR _))) (by have:=M.o;omega) (by have:=M.o;omega) (by rw[<-a9.o];exact cb)).mono ?_;rw[<-a9.o];rintro e8 w8 ⟨rfl,bw⟩);refine⟨⟨q+1,x+z1,ω,by go_num,by first|rfl|(simp;done)|go_num,?_,bel aa bw⟩,by simp[intOf];omega⟩;show _=_;rw[ce.o];omega
     have cj:Hid (B=x+eZ d (l.drop (j+1))):=by show _=_;rw[bc.o,ε ω,fc];omega
     go_wp2_with fail;exact⟨⟨j+1,x,ω,by go_num,rfl,cj,bel ck aa⟩,by simp[intOf];omega⟩
   have HE:Hid (f=B):=by show _=_;rw[HQ.o,ε ω,eZ];rfl
   go_wp2;go_ret;rw[HE.o];exact⟨rfl,HB⟩
end
section
def m8 {w:À} {b:Nat} {t:TypeId} {z:Nat} {v:Value} {j:Nat} {xs:List Value} (h:w.ownsRow b t z v j xs) (o:Obj):(w.alloc o).ownsRow b t z v j xs:=aI h (stpA (Stp.refl (λ_=>False) w) _) (λ_ _ e=>e)
def BA {w:À} {n:Nat} (h:n<=w) (o:Obj):n<=(w.alloc o).heap.size:=by simp;omega
def iD {α:Type} (N E:Nat) (R:À->(Nat->Prop)->List Value->α->Prop) (z:Nat):Prop:=
 ∀{f:Unit->α->List UInt8×Unit} {l:List α} {rb db:Nat} {tl:List UInt8} {d:Int} {w:À},RdAt rb db ((ah f () l).1++tl) false d w->((ah f () l).1++tl).length<=549755813888->(∀a∈l,0<(f () a).1.length) ->
  (∀(j:Nat) (hj:j<l) (tl:List UInt8) (W:À),RdAt rb db ((f () l[j]).1++tl) false d W->((f () l[j]).1++tl).length<=549755813888->Calls prog E #[db] W (cW R l[j] rb db tl d W)) ->
  Calls prog N #[db,.func (.func E) #[db] #[]] w (yd R z l rb db tl d w)
def Ro {α:Type} (_:À->(Nat->Prop)->List Value->α->Prop) (_ _:Nat):Prop:=True
abbrev MLo {α:Type} {R:À->(Nat->Prop)->List Value->α->Prop} {z e:Nat} (_:Ro R z e):=MLoop R z e
def kR {P:Prop} (h:P:=by
 obtain⟨io,hio,hiz,his,hib⟩:=info_parts INF;obtain⟨H1,H2,H3,H4⟩:=zd4 hio hiz his hib;have e0:(ah f () l).1++tl=numB (l.length:Nat)++((wAll f () l).1++tl):=by unfold ah;rw[χ]
 rw[e0] at h hll;have HC':=η HC;obtain⟨HH,HLL⟩:=zd2 h hll;have hge:=wAll_ge hpos;have hll2:((wAll f () l).1++tl).length<=549755813888:=by rw[μ] at hll;omega
 have HL2:=η hll2;have hln:l<=((wAll f () l).1++tl).length:=by rw[μ];omega
 obtain⟨nL,hnL⟩:=γ (((wAll f () l).1++tl).length)
 rw[<-hnL] at hln hll2;have u9:decide ((l.length:Int)>((nL:Nat):Int))=false:=decide_eq_false ω;have u8:decide (nL<l)=false:=decide_eq_false ω;have HNL:=η hnL;have hlen:l.length<=549755813888:=ω;have HNK:Hid (nOk ((l.length:Nat):Int)):=by show nOk _;unfold nOk;omega
 have d0:=h.d.c 0;have hrb:=h.r.lt;have hdb:=h.d.lt;go_enter FN,NT;go_upto_region 2 with (go_at_call 78;refine (dH HH HNK HLL).mono ?_;rintro e1 w1 ⟨rfl,hr1,hs1⟩);have d1:=hr1.d.c 0;obtain⟨HR1,HS1⟩:=zd2 hr1 (bu (db:=db) hs1);go_wp2_with (go_at_call 79;refine (ij HR1).mono ?_;rw[<-HNL.o];rintro e2 w2 ⟨rfl,rfl⟩);go_loopw [7,6] (λi v wr=>∃j:Nat,j<=l/\i=.int .i64 j/\Hid (MLo RO f l rb db tl d j v w wr)) (λi _ _=>l.length-(intOf i).toNat)
 case atStart=>exact⟨0,ω,rfl,[],⟨rfl,.inl ⟨rfl,rfl⟩⟩,RowG.nil _,HR1,HS1⟩
 case round =>
  obtain⟨j,hj,rfl,HM⟩:=hrel;obtain⟨xs,hown,hrow,hrd,hst⟩:=HM.o;obtain⟨Ar,cr,rfl⟩:=bU hown;obtain⟨HOW,HRW,HRD,HST⟩:=zd4 hown hrow hrd hst;by_cases hlt:j<l
  ·have u1:=zT j l;have HU:=η (wAll_u (f:=f) hlt);have HRD2:Hid (RdAt rb db ((f () l[j]).1++((wAll f () (l.drop (j+1))).1++tl)) false d wr):=by have:=HRD.o;rw[HU.o,χ] at this;exact this
   have HLJ:Hid (((f () l[j]).1++((wAll f () (l.drop (j+1))).1++tl)).length<=549755813888):=by
    show _<=_;have h1:=qv (f:=f) (l:=l) j;have h2:=HL2.o;rw[HU.o] at h1;simp only[μ] at h1 h2 ⊢;omega
   go_upto_region 8 with (go_at_call 81;refine (wS HRD).mono ?_;rintro e2 w2 ⟨rfl,rfl⟩);go_wp2_with fail;refine (HC' j hlt _ _ HRD2 HLJ).mono ?_;rintro e3 W3 ⟨cs,rfl,hcr,hr3,hs3⟩;first|obtain⟨k,s,a,B,c,rfl,-⟩:=ap hcr|obtain⟨k,s,n,B,c,rfl,-⟩:=mh hcr|obtain⟨A,q,rfl,-⟩:=jV hcr|obtain⟨o,x,m,s,a,B,c,rfl,-⟩:=dJ hcr|obtain⟨o,x,m,s,u,y,t,e,a,D0,d0,D1,d1,D2,d2,D3,d3,rfl,-⟩:=kA hcr|obtain⟨A,q,rfl,-⟩:=gG hcr|obtain⟨A,q,k,s,a,B,c,rfl,-⟩:=jU hcr|obtain⟨A,q,k,s,a,B,c,o,x,m,r,e,D,dd,rfl,-⟩:=jB hcr|obtain⟨A,q,B,c,D,dd,rfl,-⟩:=jD hcr|obtain⟨k,s,a,B,c,o,x,m,r,e,D,dd,rfl,-⟩:=mu hcr|obtain⟨A,q,D,dd,rfl,-⟩:=mB hcr
   obtain⟨HCR,HR3,HS3⟩:=zd3 hcr hr3 hs3;have hvl:∀g,(Value.slice Ar j cr).ownBlock=some g->g<wr.heap.size:=λg hg=>(HOW.lt g hg).2;have hvb:∀g,(Value.slice Ar j cr).ownBlock=some g->w.heap.size<=g:=λg hg=>(HOW.lt g hg).1;obtain⟨HVB,HO3⟩:=zd2 hvb (aI HOW HS3 (λg hg e=>by have:=hvb g hg;rcases e with e|e<;>omega));have hsz3:w.heap.size<=W3:=ψ HST.size HS3.size;have HRW3:=η (RowG.snoc (HRW.to λcs a x=>x.to (sub_nb HS3 hrb hdb)) rfl (HCR.to (vM hvl HST.size)));have hTK:l.take j++[l[j]]=l.take (j+1):=(List.take_succ_eq_append_getElem hlt).symm;rw[hTK] at HRW3;have HS23:=η (HST.trans HS3);go_wp2_with (at_builtin;refine wpList_append_own_at _ rfl (.tmp 32) (.tmp 35) _ rfl w _ io _ _ _ UN H1 H2 H3 H4 rfl π (.slice Ar j cr) j xs rfl (m8 HO3 _) W3 1 1 _ rfl rfl (World.news_of_block (Hs.new _ _ _)) (by intro u hu;simp at hu;repeat (first|(subst hu;rfl)|(rcases hu with rfl|hu;rfl))) Ξ ω (BA hsz3 _) ?_;intro vv w5 hown5 hgrow5 hnil5 hvb5;obtain⟨A5,c5,rfl⟩:=bU hown5);have HP:Hid (MLo RO f l rb db tl d (j+1) (.slice A5 (j+1) c5) w w5):=⟨_,hown5,HRW3.to λcs a x=>x.to (sub_push hgrow5 hvb5),rd_push HR3 hgrow5 (λg hg=>by have:=HVB g hg;constructor<;>omega),stp_push HS23 hgrow5 HVB⟩
   go_wp2_with fail;exact⟨⟨j+1,ω,by go_num,HP⟩,by simp[intOf];omega⟩
  obtain rfl:j=l:=ω;have u1:decide ((l.length:Int)<(l.length:Int))=false:=decide_eq_false ω;go_wp2;go_ret;have hrw:=HRW.o;rw[List.take_length] at hrw;have hrd:=HRD.o;rw[List.drop_length,wAll,List.nil_append] at hrd;exact⟨_,rfl,(hrw.to λcs a x=>x.to (P':=nw w wr) (λk hk=>⟨⟨hk.1,hk.2.1⟩,rfl⟩)).sl HOW (λg hg=>HOW.lt g hg),hrd,HST⟩):P:=h
def info_40:(prog.info? 40).map (λi=>(i.zero,i.size,i.bytes))=some (some (.agg #[(0:Int),"",()]),3,48):=by kernel_rfl
def many_152:iD 152 87 TyR 3:=by
 intro f l rb db tl d w h hll hpos HC;obtain⟨INF,FN,NT,UN⟩:=And.intro info_40 (And.intro func152 (And.intro ntmps152 underlying38));have RO:Ro TyR 3 40:=trivial;exact kR
def info_118:(prog.info? 118).map (λi=>(i.zero,i.size,i.bytes))=some (some (.agg #["",(0:Int),"",()]),4,64):=by kernel_rfl
def many_85:iD 85 86 FldR 4:=by
 intro f l rb db tl d w h hll hpos HC;obtain⟨INF,FN,NT,UN⟩:=And.intro info_118 (And.intro func85 (And.intro ntmps85 underlying37));have RO:Ro FldR 4 118:=trivial;exact kR
def info_122:(prog.info? 122).map (λi=>(i.zero,i.size,i.bytes))=some (some (.agg #["",()]),2,40):=by kernel_rfl
def many_83:iD 83 84 CtrR 2:=by
 intro f l rb db tl d w h hll hpos HC;obtain⟨INF,FN,NT,UN⟩:=And.intro info_122 (And.intro func83 (And.intro ntmps83 underlying46));have RO:Ro CtrR 2 122:=trivial;exact kR
def BL:(prog.info? 43).map (λi=>(i.zero,i.size,i.bytes))=some (some (.agg #[(0:Int),(0:Int),(0:Int),"",()]),5,64):=by kernel_rfl
def many_153:iD 153 88 ExR 5:=by
 intro f l rb db tl d w h hll hpos HC;obtain⟨INF,FN,NT,UN⟩:=And.intro BL (And.intro func153 (And.intro ntmps153 underlying41));have RO:Ro ExR 5 43:=trivial;exact kR
def BZ:(prog.info? 120).map (λi=>(i.zero,i.size,i.bytes))=some (some (.agg #[(0:Int),(0:Int),(0:Int),"","",(),(),(),()]),9,152):=by kernel_rfl
def many_154:iD 154 129 StR 9:=by
 intro f l rb db tl d w h hll hpos HC;obtain⟨INF,FN,NT,UN⟩:=And.intro BZ (And.intro func154 (And.intro ntmps154 underlying62));have RO:Ro StR 9 120:=trivial;exact kR
def BK:(prog.info? 48).map (λi=>(i.zero,i.size,i.bytes))=some (some (.agg #["",false,()]),3,48):=by kernel_rfl
def many_32:iD 32 33 DclR 3:=by
 intro f l rb db tl d w h hll hpos HC;obtain⟨INF,FN,NT,UN⟩:=And.intro BK (And.intro func32 (And.intro ntmps32 underlying22));have RO:Ro DclR 3 48:=trivial;exact kR
def BJ:(prog.info? 50).map (λi=>(i.zero,i.size,i.bytes))=some (some (.agg #["",(),(0:Int),"",()]),5,88):=by kernel_rfl
def many_34:iD 34 35 EffR 5:=by
 intro f l rb db tl d w h hll hpos HC;obtain⟨INF,FN,NT,UN⟩:=And.intro BJ (And.intro func34 (And.intro ntmps34 underlying23));have RO:Ro EffR 5 50:=trivial;exact kR
def ri:(prog.info? 45).map (λi=>(i.zero,i.size,i.bytes))=some (some (.agg #["",(),(0:Int),"",(),(0:Int),(0:Int),(0:Int),(0:Int),"",()]),11,160):=by kernel_rfl
def many_36:iD 36 37 FnR 11:=by
 intro f l rb db tl d w h hll hpos HC;obtain⟨INF,FN,NT,UN⟩:=And.intro ri (And.intro func36 (And.intro ntmps36 underlying24));have RO:Ro FnR 11 45:=trivial;exact kR
def BG:(prog.info? 54).map (λi=>(i.zero,i.size,i.bytes))=some (some (.agg #["",(),(0:Int),(),(),(0:Int),(0:Int)]),7,112):=by kernel_rfl
def many_38:iD 38 39 AcR 7:=by
 intro f l rb db tl d w h hll hpos HC;obtain⟨INF,FN,NT,UN⟩:=And.intro BG (And.intro func38 (And.intro ntmps38 underlying25));have RO:Ro AcR 7 54:=trivial;exact kR
def Cm:(prog.info? 61).map (λi=>(i.zero,i.size,i.bytes))=some (some (.agg #["",(0:Int),"",(),(0:Int),(0:Int),(0:Int),"",()]),9,128):=by kernel_rfl
def many_89:iD 89 90 VrR 9:=by
 intro f l rb db tl d w h hll hpos HC;obtain⟨INF,FN,NT,UN⟩:=And.intro Cm (And.intro func89 (And.intro ntmps89 underlying51));have RO:Ro VrR 9 61:=trivial;exact kR
def Cl:(prog.info? 64).map (λi=>(i.zero,i.size,i.bytes))=some (some (.agg #["",(),(0:Int),()]),4,72):=by kernel_rfl
def many_91:iD 91 92 HdR 4:=by
 intro f l rb db tl d w h hll hpos HC;obtain⟨INF,FN,NT,UN⟩:=And.intro Cl (And.intro func91 (And.intro ntmps91 underlying52));have RO:Ro HdR 4 64:=trivial;exact kR
end
section
def cfN (l:List Ctr):Nat:=(l.map λc=>c.fields.length).sum
def di (l:List Dcl):Nat:=(l.map λd=>cfN d.ctors).sum
variable {j:Nat}
def cfN_drop {l:List Ctr} (h:j<l):cfN (l.drop j)=l[j].fields.length+cfN (l.drop (j+1)):=by
 unfold cfN;rw[bk h,List.map_cons,List.sum_cons]
def sd {l:List Dcl} (h:j<l):di (l.drop j)=cfN l[j].ctors+di (l.drop (j+1)):=by
 unfold di;rw[bk h,List.map_cons,List.sum_cons]
def jf (l:List Ctr):Nat:=l.length
def ni (S:FSt) (o:Nat):(S.settle o).wait=S.wait:=by unfold FSt.settle;split<;>rfl
def gK (S:FSt) (o:Nat):(S.settle o).needs=S.needs:=by unfold FSt.settle;split<;>rfl
variable {S:FSt}
def vE {p:Pg} {l:List Dcl} (h:j<l):gU p j (l.drop j) S=gU p (j+1) (l.drop (j+1)) (uI p j S l[j]):=by rw[bk h,gU]
def pj {α β:Type} {f:β->α->β} {l:List α} {s:β} (h:j<l):(l.drop j).foldl f s=(l.drop (j+1)).foldl f (f s l[j]):=by rw[bk h,List.foldl_cons]
def ql {α β:Type} {f:β->α->β} {l:List α} {s:β} (h:¬j<l):(l.drop j).foldl f s=s:=by rw[ε ω];rfl
def ty_lt0 {p:Pg} {s:List UInt8} (h0:0<p.types.length):(idxP p.tyNames s).getD 0<p.types.length:=by
 cases h:idxP p.tyNames s with
 | none=>exact h0
 | some i=>exact ty_lt h
def sW {cnt:Nat} (h:∀l∈S.wait,l.length<=cnt):(S.wait.getD j []).length<=cnt:=by
 rw[List.getD_eq_getElem?_getD]
 cases hx:S.wait[j]? with
 | none=>simp
 | some y=>exact h y (List.mem_of_getElem? hx)
def ti {cnt:Nat} (h:∀l∈S.wait,l.length<=cnt):∀l∈(S.waitOn j).wait,l.length<=cnt+1:=by
 intro l a;unfold FSt.waitOn at a;rcases List.mem_or_eq_of_mem_set a with a|a
 ·have:=h l a;omega
 subst a;have:=sW (j:=j) h;simp only[μ,δ,List.length_nil];omega
variable {B T fb cb:Nat} {w0:À} {v1 v3 vr:Value} {vw:Nat->Value} {X:Nat->Prop}
def FM.own_set {w:À} {v2:Value} {lim:Nat} (h:FM B w0 w T fb cb v1 v2 v3 vr vw S lim X) {nb i:Nat} {u:Value} (hx:X nb) (hB:B<=nb):FM B w0 (w.setCell ⟨nb,i,none⟩ u) T fb cb v1 v2 v3 vr vw S lim X:=by
 obtain⟨f,x,v,t,r,q,p,l,g⟩:=h.tags;have a:=cu w ⟨nb,i,none⟩ u;have y:=g nb hx;have d:∀b k,f b=k->k<6+T->¬only nb b:=λb k h1 h2 e=>by unfold only at e;subst e;omega
 exact⟨kL h.bel h.szB a (λb e=>by unfold only at e;simp at e;omega),by simp[World.setCell];exact h.szB,bp h.hf a (d _ _ x ω),h.hfB,bp h.hc a (d _ _ v ω),h.hcB,aI h.r1 a (λb e=>d b _ (t b e) ω),aI h.r2 a (λb e=>d b _ (r b e) ω),aI h.r3 a (λb e=>d b _ (q b e) ω),aI h.rr a (λb e=>d b _ (p b e) ω),λj hj=>aI (h.rw j hj) a (λb e=>d b _ (l j b hj e) ω),⟨f,x,v,t,r,q,p,l,g⟩,λb hb=>by simp[World.setCell];exact h.xl b hb,h.lf,h.lw,h.own,h.wl,h.nd,h.rl⟩
variable {NDS:List (Nat×Int)}
def wait_at {w w':À} {g2 cap:Nat} {v':Value} {k0 n cw:Nat} {Aw:Option Addr} (h:FM B w0 w T fb cb v1 (.slice g2 T cap) v3 vr vw S (NDS+1) X) (hn:n=(S.wait.getD k0 []).length) (hvw:vw k0=.slice Aw n cw) (hND:S.needs=NDS) (hk:k0<T) (hrow:w'.ownsRow B 3 1 v' (n+1) (ints (S.wait.getD k0 [])++[.int .i64 ((NDS.length:Nat):Int)])) (hg:w.grownBy w' (Value.slice Aw n cw).ownBlock) (hv:v'.ownBlock=(Value.slice Aw n cw).ownBlock\/v'.ownBlock=some w):
 FM B w0 (w'.setCell ⟨g2,k0,none⟩ v') T fb cb v1 (.slice g2 T cap) v3 vr (λi=>if i=k0 then v' else vw i) (S.waitOn k0) (NDS+1) X/\(∀b,X b->(w'.setCell ⟨g2,k0,none⟩ v').heap[b]?=w.heap[b]?)/\w'.cell? ⟨g2,k0,none⟩=some (vw k0)/\w'.frozen? ⟨g2,k0,none⟩=false:=by
 subst hND;rw[<-hvw] at hg hv;rw[hn] at hrow;have d:=h.wait rfl hk hrow hg hv;obtain⟨j,t,r,q,g,p,l,f,k⟩:=h.tags;have a:=aI h.r2 (pE hg) (λb e e2=>by have v:=g b e;have u:=f k0 b hk e2;omega);exact⟨d.1,d.2,dk a (by simp[List.getElem?_map,List.getElem?_range hk]),lT a⟩
def row_max {w:À} {base n size:Nat} {e:TypeId} {v:Value} {xs:List Value} (h:w.ownsRow base e size v n xs):n<=9223372036854775807:=by
 rcases h.2 with ⟨_,e1⟩|⟨g,cap,cur,e1,hb,hg,hc1,hc2,_⟩
 ·omega
 have:cap<=9223372036854775807:=hc2;omega
def news2 {w:À} {b:Nat} {x y:Value} {t:TypeId} (h:Hs w b t #[x,y]):∀(j:Nat) (u:Value),[x,y][j]?=some u->w.cell? ((⟨b,0,none⟩:Addr).add j)=some u:=World.news_of_block (cs:=#[x,y]) h
def one2 {x y:Int}:∀u∈[Value.int .i64 x,Value.int .i64 y],u.oneCell'=true:=by intro u hu;simp at hu;rcases hu with rfl|rfl<;>rfl
def need_at {w w':À} {v2 v':Value} {i:Nat} {l:Int} (h:FM B w0 w T fb cb v1 v2 v3 vr vw S (NDS+1) X) (hND:S.needs=NDS) (hi:i<T) (hrow:w'.ownsRow B 172 2 v' (NDS+1) (bC NDS++[.int .i64 ((i:Nat):Int),.int .i64 l])) (hg:w.grownBy w' v3.ownBlock) (hv:v'.ownBlock=v3.ownBlock\/v'.ownBlock=some w):
 FM B w0 w' T fb cb v1 v2 v' vr vw (S.need i l) (S.need i l).needs.length X/\∀b,X b->w'.heap[b]?=w.heap[b]?:=by
 subst hND;exact h.need hi hrow hg hv
def sa {p:Pg} {left:Int} {f:Fld} (h:f.type.kind=6):fC p (S,left) f=(S.waitOn ((idxP p.tyNames f.type.name.data.toList).getD 0),wrapI (left+1)):=by unfold fC;rw[if_pos h]
def t8 {p:Pg} {left:Int} {f:Fld} (h:¬f.type.kind=6):fC p (S,left) f=(S,left):=by unfold fC;rw[if_neg h]
def mk169 (W:À) (T:Nat) (h:T<=1000000):(Instr.makeSlice 169 (.int .i64 ((T:Nat):Int)) (.int .i64 ((T:Nat):Int))).run prog W=.ok (.slice W T T) (W.alloc (.cells (madeCells #[false] T) 4)):=by
 obtain⟨i,d,b,a,e⟩:∃i0,prog.info? 4=some i0/\i0.zero=some (false:Vl)/\i0.size=1/\i0.bytes=1:=info_parts Δ;have:=run_makeSlice (P:=prog) W 169 4 i (false:Vl) underlying169 d b .i64 .i64 (T:Int) (T:Int) ω (Int.le_refl _) (by simp[a];omega) (by rw[e];omega) ω;rw[this];simp[a,Value.cells]
def mk170 (W:À) (T:Nat) (h:T<=1000000):(Instr.makeSlice 170 (.int .i64 ((T:Nat):Int)) (.int .i64 ((T:Nat):Int))).run prog W=.ok (.slice W T T) (W.alloc (.cells (madeCells #[()] T) 104)):=by
 obtain⟨i,d,b,a,e⟩:∃i0,prog.info? 104=some i0/\i0.zero=some ()/\i0.size=1/\i0.bytes=24:=info_parts Δ;have:=run_makeSlice (P:=prog) W 170 104 i () underlying170 d b .i64 .i64 (T:Int) (T:Int) ω (Int.le_refl _) (by simp[a];omega) (by rw[e];omega) ω;rw[this];simp[a,Value.cells]
def FM.start (w:À) (T:Nat) (hT:T<=1000000):FM w w ((((w.alloc (.cells (madeCells #[.bool false] T) 4)).alloc (.cells #[.slice w T T] 169)).alloc (.cells (madeCells #[.slice none 0 0] T) 104)).alloc (.cells #[.slice none 0 0] 104)) T (w+1) (w+1+1+1) (.slice w T T) (.slice (some ⟨w+1+1,0,none⟩) T T) (.slice none 0 0) (.slice none 0 0) (λ_=>.slice none 0 0) (FSt.start T) 0 (λ_=>False):=by
 have d:∀j,j<T->(FSt.start T).wait.getD j []=[]:=λj hj=>by simp[FSt.start,List.getD_eq_getElem?_getD,List.getElem?_replicate,hj]
 have a:T<=maxLen:=by unfold maxLen;omega
 refine⟨ζ4,by simp;omega,((dI w _ 169 _).alloc _).alloc _,ω,rk w _ _ _ 104 _,ω,?_,?_,World.ownsRow_nil _ _ _ _,World.ownsRow_nil _ _ _ _,λj hj=>by rw[d j hj];exact World.ownsRow_nil _ _ _ _,?_,λ_ h=>h.elim,by simp[FSt.start],by simp[FSt.start],λq hq=>by simp[FSt.start] at hq,λl hl n hn=>?_,by simp[FSt.start],λx hx=>by simp[FSt.start] at hx⟩
 ·have:=(((World.ownsRow_lit (base:=w) (e:=4) (size:=1) w (madeCells #[.bool false] T) T (υ _) a (by rw[size_madeCells];omega)).alloc (.cells #[.slice w T T] 169)).alloc (.cells (madeCells #[.slice none 0 0] T) 104)).alloc (.cells #[.slice none 0 0] 104);rw[toList_madeCells_one] at this;simpa[FSt.start] using this
 ·have:=(World.ownsRow_lit (base:=w) (e:=104) (size:=1) ((w.alloc (.cells (madeCells #[.bool false] T) 4)).alloc (.cells #[.slice w T T] 169)) (madeCells #[.slice none 0 0] T) T Φ a (by rw[size_madeCells];omega)).alloc (.cells #[.slice none 0 0] 104);rw[toList_madeCells_one] at this;have f:(List.range T).map (λ_=>Value.slice none 0 0)=List.replicate T (.slice none 0 0):=by rw[List.map_const',List.length_range]
  rw[f];simpa using this
 ·refine⟨λb=>if b=w.heap.size then 2 else if b=w.heap.size+1 then 0 else if b=w.heap.size+1+1 then 3 else 1,by simp,(by simp only[];rw[if_neg ω,if_neg ω,if_neg ω]),λb hb=>?_,λb hb=>?_,λb hb=>by simp[Value.ownBlock] at hb,λb hb=>by simp[Value.ownBlock] at hb,λj b _ hb=>by simp[Value.ownBlock] at hb,λb hb=>hb.elim⟩
  ·have:w.heap.size=b:=by simpa[Value.ownBlock] using hb
   subst this;simp
  have:w.heap.size+1+1=b:=by simpa[Value.ownBlock] using hb
  subst this;simp only[];rw[if_neg ω,if_neg ω,if_pos trivial]
 have:l=[]:=by simp[FSt.start] at hl;exact hl.2
 subst this;cases hn
def oN {c:CB} {p:Pg} {w:À} (hck:ChkR w (lo w) c p) (hsm:p.Small) (hfn:di p.types<=1000000):Calls prog 43 #[.pointer (some ⟨c.b,0,none⟩)] w λe w'=>e=.returned (.bool (finP p))/\Below w.heap.size w w':=by
 obtain⟨AT,qT,eT⟩:=hck.types.form;have cT:=hck.c0;rw[eT] at cT;have hT:=hck.types;rw[eT] at hT;obtain⟨HT,cm,ij⟩:=zd3 hT hck cT;have tl:=hsm.types;obtain⟨ik,gv⟩:=zd2 hsm.ctors hfn;have g9:=λW=>mk169 W p.types.length tl;have g8:=λW=>mk170 W p.types.length tl;obtain⟨g1,du⟩:=γ w.heap.size
 obtain⟨M,dt⟩:=γ (w.heap.size+1+1)
 obtain⟨fb,dx⟩:=γ (w.heap.size+1)
 obtain⟨cb,a9⟩:=γ (w.heap.size+1+1+1)
 obtain⟨W1,d2⟩:=γ ((((w.alloc (.cells (madeCells #[.bool false] p.types.length) 4)).alloc (.cells #[.slice (some ⟨w.heap.size,0,none⟩) p.types.length p.types.length] 169)).alloc (.cells (madeCells #[.slice none 0 0] p.types.length) 104)).alloc (.cells #[.slice none 0 0] 104))
 have ek:Hid (FM w.heap.size w W1 p.types.length fb cb (.slice g1 p.types.length p.types.length) (.slice M p.types.length p.types.length) (.slice none 0 0) (.slice none 0 0) (λ_=>.slice none 0 0) (FSt.start p.types.length) 0 (λ_=>False)):=by rw[d2,du,dt,dx,a9];exact FM.start w _ tl
 obtain⟨h7,ih,il,jx,ie⟩:=zd5 d2 dx a9 du dt;obtain⟨FN,d5⟩:=γ (gU p 0 p.types (FSt.start p.types.length))
 have ei:Hid (finP p=decide ((gI (p.types.length+1) 0 FN).ready.length=p.types.length)):=by show _=_;unfold finP;rw[d5]
 have fs:Hid (FN=gU p 0 (p.types.drop 0) (FSt.start p.types.length)):=d5;have iq:Hid (W1.cell? ⟨c.b,0,none⟩=some (.slice AT p.types.length qT)):=belC ek.o.bel cT;obtain⟨io,e7,e5,e6,e8⟩:=jz;have ck:Hid (prog.info? 3=some io/\io.zero=some (.int .i64 0)/\io.size=1/\io.bytes=8):=⟨e7,e5,e6,e8⟩
 obtain⟨i2,fa,dp,dq,dr⟩:∃i0,prog.info? 172=some i0/\i0.zero=some (.agg #[.int .i64 0,.int .i64 0])/\i0.size=2/\i0.bytes=16:=info_parts Δ;have cl:Hid (prog.info? 172=some i2/\i2.zero=some (.agg #[.int .i64 0,.int .i64 0])/\i2.size=2/\i2.bytes=16):=⟨fa,dp,dq,dr⟩
 clear hck hT eT hsm hfn du dt dx a9 d2 d5 e7 e5 e6 e8 fa dp dq dr;have d0:=λ(o1 o2:Obj)=>belC (belA (belA (belR w) o1) o2) cT;go_in;go_upto_region 6 with fail;rw[<-h7.o,<-il.o,<-ie.o,<-ih.o];have y0:=iq.o;clear d0 g9 g8 cT;go_wp2_with fail;clear y0;go_loopw [40,3] (λi v3 wr=>∃(j t:Nat) (H:Option Addr) (D:Nat) (v:Value) (A:Nat->Value) (S:FSt),j<=p.types.length/\i=.int .i64 j/\v3=.slice H S.needs.length D/\Hid (S.needs.length+gO (p.types.drop j)=gO p.types)/\Hid (t+di (p.types.drop j)=di p.types)/\Hid (FN=gU p j (p.types.drop j) S)/\Hid (∀l∈S.wait,l.length<=t)/\Hid (FM w.heap.size w wr p.types.length fb cb (.slice g1 p.types.length p.types.length) (.slice M p.types.length p.types.length) (.slice H S.needs.length D) v A S S.needs.length (λ_=>False))) (λi _ _=>p.types.length-(intOf i).toNat)
 case atStart=>exact⟨0,0,none,0,_,_,FSt.start p.types.length,ω,rfl,rfl,by show 0+_=_;simp,by show 0+_=_;simp,fs.o,(λl hl=>by have:l=[]:=(by simp[FSt.start] at hl;exact hl.2);subst this;simp),ek.o⟩
 case round =>
  clear ek fs;obtain⟨j,t,H,D,v,A,S,hj,rfl,rfl,aj,O,HV,E,g⟩:=hrel;by_cases hlt:j<p.types.length
  ·obtain⟨I,fy,ft⟩:=zd3 (vE (p:=p) (S:=S) hlt) (kX hlt) (sd hlt);obtain⟨ga,i8,Aa,qa,rfl,fc,c0,c1,c2,_,a7,dz⟩:=fF HT.o hlt;have en:=η dz;have lC:=dz.le9;replace c0:=belC g.o.bel c0;replace c1:=belC g.o.bel c1;replace c2:=belC g.o.bel c2;have j0:(0:Int)<=(j:Int):=ω;have j1:(j:Int)<(p.types.length:Int):=ω;obtain⟨h,bk⟩:=γ (p.types[j].ctors)
   rw[<-bk] at c2 lC en fy ft;have ep:Hid (FN=gU p (j+1) (p.types.drop (j+1)) ((h.drop 0).foldl (mD p j) S)):=by show _=_;rw[HV.o,I.o,bk];rfl
   clear dz a7 fc I bk;go_upto_region 9 with fail;obtain⟨W2,Z⟩:=γ (wr.alloc (.cells #[.string p.types[j].name,.bool p.types[j].record,.slice Aa h.length qa] 48))
   have fw:Hid (FM w.heap.size w W2 p.types.length fb cb (.slice g1 p.types.length p.types.length) (.slice M p.types.length p.types.length) (.slice H S.needs.length D) v A S S.needs.length (λ_=>False)):=by rw[Z];exact g.o.bels ζ1
   have av:Hid (S.needs.length+jf (h.drop 0)+gO (p.types.drop (j+1))=gO p.types):=by show _=_;have h1:=aj.o;have h2:=fy.o;unfold jf;simp only[List.drop_zero];omega
   have eo:Hid (t+cfN (h.drop 0)+di (p.types.drop (j+1))=di p.types):=by show _=_;have h1:=O.o;have h2:=ft.o;simp only[List.drop_zero];omega
   have d9:=E;rw[<-Z];have hz:W2.cell? ⟨wr.heap.size,2,none⟩=some (.slice Aa h.length qa):=by rw[Z];simp
   clear c0 c1 c2 g HV aj O E Z;go_wp2_with fail;clear hz;go_loopw [48,3] (λi v3 wr=>∃(q t:Nat) (H:Option Addr) (D:Nat) (v:Value) (A:Nat->Value) (S:FSt),q<=h.length/\i=.int .i64 q/\v3=.slice H S.needs.length D/\Hid (S.needs.length+jf (h.drop q)+gO (p.types.drop (j+1))=gO p.types)/\Hid (t+cfN (h.drop q)+di (p.types.drop (j+1))=di p.types)/\Hid (FN=gU p (j+1) (p.types.drop (j+1)) ((h.drop q).foldl (mD p j) S))/\Hid (∀l∈S.wait,l.length<=t)/\Hid (FM w.heap.size w wr p.types.length fb cb (.slice g1 p.types.length p.types.length) (.slice M p.types.length p.types.length) (.slice H S.needs.length D) v A S S.needs.length (λ_=>False))) (λi _ _=>h.length-(intOf i).toNat)
   case atStart=>exact⟨0,t,H,D,v,A,S,ω,rfl,rfl,av.o,eo.o,ep.o,d9.o,fw.o⟩
   case round =>
    clear fw av eo ep d9;obtain⟨q,t,H,D,v,A,S,hq,rfl,rfl,aj,O,HV,E,g⟩:=hrel;by_cases df:q<h.length
    ·obtain⟨I,bq⟩:=zd2 (pj (f:=mD p j) (s:=S) df) (cfN_drop df);obtain⟨gc,i7,Ac,qc,rfl,hh,e0,e1,_,_,dv⟩:=ew en.o df;have eh:=η dv;have lF:=dv.le9;replace e0:=belC g.o.bel e0;replace e1:=belC g.o.bel e1;have q0:(0:Int)<=(q:Int):=ω;have q1:(q:Int)<(h.length:Int):=ω;obtain⟨u,bi⟩:=γ (h[q].fields)
     rw[<-bi] at e1 lF eh bq;obtain⟨V,d3⟩:=γ (u.foldl (fC p) (S,0))
     have ce:Hid (FN=gU p (j+1) (p.types.drop (j+1)) ((h.drop (q+1)).foldl (mD p j) (gJ j V))):=by show _=_;rw[HV.o,I.o,d3,bi];rfl
     have fk:Hid (V=(u.drop 0).foldl (fC p) (S,0)):=d3;obtain⟨k,bl⟩:=γ S.needs
     have N:=η bl.symm;have a7:S.needs.length=k.length:=by rw[bl]
     rw[a7] at g;clear dv hh I bi d3 bl
     have f1:Hid (k.length<1000000):=by
      show _<_;have h1:=aj.o;have h2:=ik.o;have h3:jf (h.drop q)=h.length-q:=by unfold jf;rw[List.length_drop]
      omega
     have gp:Hid (k.length+jf (h.drop q)+gO (p.types.drop (j+1))=gO p.types):=by show _=_;have:=aj.o;omega
     rw[a7];clear a7;go_upto_region 13 with fail;obtain⟨J,a8⟩:=γ (wr.heap.size+1)
     obtain⟨W3,ba⟩:=γ ((wr.alloc (.cells #[.string h[q].name,.slice Ac u.length qc] 122)).alloc (.cells #[.int .i64 (j:Int),.int .i64 0] 172))
     have fv:Hid (FM w.heap.size w W3 p.types.length fb cb (.slice g1 p.types.length p.types.length) (.slice M p.types.length p.types.length) (.slice H k.length D) v A S (k.length+1) (λb=>b=J)):=by
      rw[ba];have h1:=(g.o.bels (belA (belR _) (.cells #[.string h[q].name,.slice Ac u.length qc] 122))).box (.cells #[.int .i64 (j:Int),.int .i64 0] 172);refine (h1.less (λb hb=>.inr ?_)).more (Nat.le_succ _);rw[hb,a8];simp
     have ed:Hid (Hs W3 J 172 #[.int .i64 (j:Int),.int .i64 0]):=by rw[ba,a8];exact dI wr _ 172 _
     have hy:W3.cell? ⟨wr.heap.size,1,none⟩=some (.slice Ac u.length qc):=by rw[ba];simp
     have gq:Hid (w.heap.size<=J):=by show _<=_;rw[a8];have:=g.o.szB;omega
     rw[<-ba,<-a8];have f0:Hid (t+(u.length-0)+(cfN (h.drop (q+1))+di (p.types.drop (j+1)))=di p.types):=by show _=_;have h1:=O.o;have h2:=bq.o;omega
     have d8:=E;clear e0 e1 g ba a8 O bq E HV;go_wp2_with fail;clear hy;go_loopw [57] (λi wr=>∃(r t:Nat) (d:Int) (v:Value) (A:Nat->Value) (S:FSt),r<=u.length/\i=.int .i64 r/\Hid (S.needs=k)/\Hid (t+(u.length-r)+(cfN (h.drop (q+1))+di (p.types.drop (j+1)))=di p.types)/\Hid (V=(u.drop r).foldl (fC p) (S,d))/\Hid (∀l∈S.wait,l.length<=t)/\Hid (FM w.heap.size w wr p.types.length fb cb (.slice g1 p.types.length p.types.length) (.slice M p.types.length p.types.length) (.slice H k.length D) v A S (k.length+1) (λb=>b=J))/\Hid (Hs wr J 172 #[.int .i64 (j:Int),.int .i64 d])) (λi _=>u.length-(intOf i).toNat)
     case atStart=>exact⟨0,t,0,v,A,S,ω,rfl,N.o,f0.o,fk.o,d8.o,fv.o,ed.o⟩
     case round =>
      clear fv ed f0 d8 fk N;obtain⟨r,t,d,v,A,S,hr,rfl,N,ax,HQ,E,g,cj⟩:=hrel;by_cases de:r<u.length
      ·have I:=η (pj (f:=fC p) (s:=(S,d)) de);obtain⟨gf,i6,kf,sf,af,Bf,cf,rfl,hg,ef,y0,y1,y2,y3,hfn,ey⟩:=dw eh.o de
       have hd:sf.size<=maxLen:=by
        obtain⟨k',s',a',A',c',ee,_,_,hf,_⟩:=ap ey;obtain⟨_,rfl,_⟩:kf=k'/\sf=s'/\_:=by simpa using ee
        exact hf
       have e4:u[r].type.kind=kf:=by rw[ef];rfl
       have e2:u[r].type.name=sf:=by rw[ef];rfl
       obtain⟨fo,go⟩:=zd2 e4 e2;replace y0:=belC g.o.bel y0;replace y1:=belC g.o.bel y1;replace y2:=belC g.o.bel y2;replace y3:=belC g.o.bel y3;have r0:(0:Int)<=(r:Int):=ω;have r1:(r:Int)<(u.length:Int):=ω;clear hg hfn ey ef e4 e2;obtain⟨W5,cc,B5,f2⟩:=κ wr #[.string u[r].name,.int .i64 kf,.string sf,.slice Bf af.length cf] 118
       have ao:=η (g.o.bels B5)
       obtain⟨bp,fg⟩:=zd2 (aH cj.o B5) cc;clear cc B5;go_upto_region 16 with fail;rw[<-fg.o];clear fg y0 y1 y2 y3;have x5:W5.cell? ⟨wr.heap.size,1,none⟩=some (.int .i64 kf):=f2.o.cell 1;by_cases h6:kf=6
       ·as_aux_lemma =>
         have k6:(kf==6)=true:=beq_iff_eq.2 h6;obtain⟨F,b7⟩:=γ ((idxP p.tyNames sf.data.toList).getD 0)
         have ae:F<p.types.length:=by rw[b7];exact ty_lt0 ω
         have R:Hid (V=(u.drop (r+1)).foldl (fC p) (S.waitOn F,wrapI (d+1))):=by show _=_;rw[HQ.o,I.o,sa (by rw[fo.o];exact h6),go.o,b7]
         have dm:=belW (belC ao.o.bel cm.o.c4);have dn:=belW (show W5.cell? ⟨wr.heap.size,2,none⟩=some (.string sf) from f2.o.cell 2)
         have lk:∀W,Below W5.heap.size W5 W->(Instr.lookup 101 (.map (some c.bt)) (.string sf) false).run prog W=.ok (.int .i64 ((F:Nat):Int)) W:=λW hb=>by
          have:=cR ((cm.o.mt.below ao.o.bel cm.o.qt).below hb (ρ cm.o.qt ao.o.bel.size)) hd;rw[gy,<-b7] at this;exact this
         clear h6 b7;go_upto_region 17 with fail;go_region_held3 (λX=>Below W5.heap.size W5 X) (first|exact ad _) (fail);go_upto_region 18 with fail;obtain⟨w6,bu⟩:=γ W5.drew
         rw[<-bu];have ej:Hid (FM w.heap.size w w6 p.types.length fb cb (.slice g1 p.types.length p.types.length) (.slice M p.types.length p.types.length) (.slice H k.length D) v A S (k.length+1) (λb=>b=J)):=by rw[bu];exact ao.o.bels (ad _)
         have gu:Hid (Hs w6 J 172 #[.int .i64 (j:Int),.int .i64 d]):=by rw[bu];exact bp.o
         obtain⟨Aw,cw,bv⟩:=bU (ej.o.rw F ae);obtain⟨wn,a6⟩:=γ ((S.wait.getD F []).length)
         rw[<-a6] at bv;obtain⟨h5,fi⟩:=zd2 a6 bv;have s5:w6.cell? ⟨M,F,none⟩=some (.slice Aw wn cw):=by rw[<-bv];exact dk ej.o.r2 (by simp[List.getElem?_map,List.getElem?_range ae])
         have ju:(0:Int)<=(F:Int):=ω;have jt:(F:Int)<(p.types.length:Int):=ω;have ds:=sW (j:=F) E.o;have a9:=ax.o;have f7:=gv.o;have dl:wn<1000000:=by rw[a6];omega
         obtain⟨eg,id,aa,aw⟩:=zd4 dl ae (ej.o.bels (belA (belR w6) (.cells #[.int .i64 ((k.length:Nat):Int)] 3))) (aH gu.o (belA (belR w6) (.cells #[.int .i64 ((k.length:Nat):Int)] 3)));have ia:Hid ((w6.alloc (.cells #[.int .i64 ((k.length:Nat):Int)] 3)).ownsRow w.heap.size 3 1 (.slice Aw wn cw) wn (ints (S.wait.getD F []))):=by have:=aa.o.rw F ae;rw[fi.o,<-a6] at this;exact this
         have eb:=η aa.o.szB;clear bu dm dn lk x5 bv a6 ds a9 f7 dl ae ao bp;go_upto_region 19 with (at_builtin;refine wpList_append_own_at _ rfl (.tmp 78) (.tmp 81) 104 rfl w.heap.size 3 io (.int .i64 0) 1 8 underlying104 ck.o.1 ck.o.2.1 ck.o.2.2.1 ck.o.2.2.2 rfl π (.slice Aw wn cw) wn (ints (S.wait.getD F [])) rfl ia.o ⟨w6.heap.size,0,none⟩ 1 1 [.int .i64 ((k.length:Nat):Int)] rfl rfl (ib (Hs.new _ _ _)) one1 (by have:=eg.o;unfold maxLen;omega) (by have:=eg.o;omega) eb.o ?_;intro vv w8 G L ar ac;have T:=η (wait_at aa.o h5.o fi.o N.o id.o G L ac);obtain⟨A8,c8,rfl⟩:=bU G;have x0:w8.cell? ⟨M,F,none⟩=some (A F):=T.o.2.2.1;have x1:w8.frozen? ⟨M,F,none⟩=false:=T.o.2.2.2;clear G L ar ac);obtain⟨w9,bs⟩:=γ (w8.setCell ⟨M,F,none⟩ (.slice A8 (wn+1) c8))
         rw[<-bs];have ii:Hid (FM w.heap.size w w9 p.types.length fb cb (.slice g1 p.types.length p.types.length) (.slice M p.types.length p.types.length) (.slice H k.length D) v (λi=>if i=F then .slice A8 (wn+1) c8 else A i) (S.waitOn F) (k.length+1) (λb=>b=J)):=by rw[bs];exact T.o.1
         have bo:Hid (Hs w9 J 172 #[.int .i64 (j:Int),.int .i64 d]):=by rw[bs];exact (T.o.2.1 J rfl).trans aw.o
         have n1:w9.cell? ⟨J,1,none⟩=some (.int .i64 d):=bo.o.cell 1;have n2:w9.frozen? ⟨J,1,none⟩=false:=bo.o.free 1;clear bs x0 T;go_wp2_with fail;refine⟨⟨r+1,t+1,wrapI (d+1),v,_,S.waitOn F,ω,by go_num,N.o,?_,R.o,ti E.o,ii.o.own_set rfl gq.o,?_⟩,by simp[intOf];omega⟩
         ·show _=_;have:=ax.o;omega
         have:=bo.o.put 1 (.int .i64 (wrapI (d+1)));show Hs _ _ _ _;simpa using this
       have k6:(kf==6)=false:=beq_eq_false_iff_ne.2 h6;have R:Hid (V=(u.drop (r+1)).foldl (fC p) (S,d)):=by show _=_;rw[HQ.o,I.o,t8 (by rw[fo.o];exact h6)]
       clear h6;go_wp2_with fail;refine⟨⟨r+1,t+1,d,v,A,S,ω,by go_num,N.o,?_,R.o,(λl hl=>Nat.le_succ_of_le (E.o l hl)),ao.o,bp.o⟩,by simp[intOf];omega⟩;show _=_;have:=ax.o;omega
      as_aux_lemma =>
       have ci:Hid (V=(S,d)):=by show _=_;rw[HQ.o,ql de]
       have n0:wr.cell? ⟨J,0,none⟩=some (.int .i64 (j:Int)):=cj.o.cell 0;have n1:wr.cell? ⟨J,1,none⟩=some (.int .i64 d):=cj.o.cell 1;obtain⟨aa,aw⟩:=zd2 (g.o.bels (belA (belR wr) (.cells #[.int .i64 (j:Int),.int .i64 d] 172))) (aH cj.o (belA (belR wr) (.cells #[.int .i64 (j:Int),.int .i64 d] 172)));have eb:=η aa.o.szB;have fj:Hid ((wr.alloc (.cells #[.int .i64 (j:Int),.int .i64 d] 172)).ownsRow w.heap.size 172 2 (.slice H k.length D) k.length (bC k)):=by have:=aa.o.r3;rw[N.o] at this;exact this
       have fp:=η hlt;go_upto_region 22 with (at_builtin;refine wpList_append_own_at _ rfl (.tmp 89) (.tmp 91) 168 rfl w.heap.size 172 i2 (.agg #[.int .i64 0,.int .i64 0]) 2 16 underlying168 cl.o.1 cl.o.2.1 cl.o.2.2.1 cl.o.2.2.2 rfl π (.slice H k.length D) k.length (bC k) rfl fj.o ⟨wr.heap.size,0,none⟩ 1 1 [.int .i64 (j:Int),.int .i64 d] rfl rfl (news2 (Hs.new _ _ _)) one2 (by have:=f1.o;unfold maxLen;omega) (by have:=f1.o;omega) eb.o ?_;intro vv w8 G L ar ac;have T:=η (need_at aa.o N.o fp.o G L ac);obtain⟨A8,c8,rfl⟩:=bU G;clear G L ar ac);have gs:Hid (Hs w8 J 172 #[.int .i64 (j:Int),.int .i64 d]):=(T.o.2 J rfl).trans aw.o;have n2:w8.cell? ⟨J,1,none⟩=some (.int .i64 d):=gs.o.cell 1;have fu:=η (T.o.1.less (X':=λ_=>False) (λb hb=>hb.elim))
       have be:Hid ((gJ j V).needs.length=k.length+1):=by
        show _=_;rw[ci.o];unfold gJ FSt.need;split
        ·rw[gK];simp[N.o]
        simp[N.o]
       have fx:Hid ((gJ j V).wait=S.wait):=by
        show _=_;rw[ci.o];unfold gJ FSt.need;split
        ·rw[ni]
        rfl
       have fn:Hid ((gJ j V).needs.length+jf (h.drop (q+1))+gO (p.types.drop (j+1))=gO p.types):=by
        show _=_;rw[be.o];have h1:=gp.o;rw[show jf (h.drop q)=jf (h.drop (q+1))+1 by unfold jf;rw[List.length_drop,List.length_drop];omega] at h1;omega
       have fz:Hid (t+cfN (h.drop (q+1))+di (p.types.drop (j+1))=di p.types):=by show _=_;have:=ax.o;omega
       clear n0 n1 T aa aw fj;by_cases B:d=0
       ·have l0:(d==0)=true:=beq_iff_eq.2 B;have bg:Hid (gJ j V=(S.need j d).settle j):=by show _=_;rw[ci.o];unfold gJ;rw[if_pos B]
        clear B;go_wp2_with (go_at_call 103;refine (oj fu.o fp.o tl).mono ?_;rintro e9 w9 ⟨rfl,c7,dy,_⟩);refine⟨⟨q+1,t,A8,c8,c7,A,gJ j V,ω,by go_num,by rw[be.o],fn.o,fz.o,ce.o,?_,?_⟩,by simp[intOf];omega⟩
        ·show ∀l∈_,_;rw[fx.o];exact E.o
        have he:=be.o;rw[bg.o,gK] at he;rw[bg.o,gK,he];have h9:=dy;rw[he] at h9;exact h9
       have l0:(d==0)=false:=beq_eq_false_iff_ne.2 B;have bg:Hid (gJ j V=S.need j d):=by show _=_;rw[ci.o];unfold gJ;rw[if_neg B]
       clear B;go_wp2_with fail;refine⟨⟨q+1,t,A8,c8,v,A,gJ j V,ω,by go_num,by rw[be.o],fn.o,fz.o,ce.o,?_,?_⟩,by simp[intOf];omega⟩
       ·show ∀l∈_,_;rw[fx.o];exact E.o
       have he:=be.o;rw[bg.o] at he;rw[bg.o,he];have h9:=fu.o;rw[he] at h9;exact h9
    have b9:h.drop q=[]:=ε ω;have ce:Hid (FN=gU p (j+1) (p.types.drop (j+1)) S):=by show _=_;rw[HV.o,b9];rfl
    have av:Hid (S.needs.length+gO (p.types.drop (j+1))=gO p.types):=by show _=_;have:=aj.o;rw[b9] at this;exact this
    have ip:Hid (t+di (p.types.drop (j+1))=di p.types):=by show _=_;have:=O.o;rw[b9] at this;exact this
    clear b9;go_wp2_with fail;exact⟨⟨j+1,t,H,D,v,A,S,ω,by go_num,rfl,av.o,ip.o,ce.o,E.o,g.o⟩,by simp[intOf];omega⟩
  as_aux_lemma =>
   have ig:Hid (FN=S):=by show _=_;rw[HV.o,ε ω];rfl
   obtain⟨Y,cd⟩:=γ S.needs.length
   obtain⟨WT,fd⟩:=γ S.wait
   obtain⟨PF,d4⟩:=γ (gI (p.types.length+1) 0 FN)
   have an:Hid (PF=gI (p.types.length+1-0) 0 S):=by show _=_;rw[d4,ig.o];rfl
   have eu:Hid (finP p=decide (PF.ready.length=p.types.length)):=by show _=_;rw[ei.o,d4]
   have y:Hid (S.needs.length=Y/\S.wait=WT):=⟨cd.symm,fd.symm⟩
   rw[<-cd] at g;rw[<-cd];obtain⟨wP,rfl⟩:=γ wr
   have fr:=g;clear cd fd d4 g aj O HV E ei;go_wp2_with fail;go_loopw [16] (λi wr=>∃(a:Nat) (v:Value) (S:FSt),a<=p.types.length/\i=.int .i64 a/\Hid (S.needs.length=Y/\S.wait=WT)/\Hid (PF=gI (p.types.length+1-a) a S)/\Hid (FM w.heap.size w wr p.types.length fb cb (.slice g1 p.types.length p.types.length) (.slice M p.types.length p.types.length) (.slice H Y D) v A S Y (λ_=>False))) (λi _=>p.types.length-(intOf i).toNat)
   case atStart=>exact⟨0,v,S,ω,rfl,y.o,an.o,fr.o⟩
   case round =>
    clear fr an y;obtain⟨a,v,S,ha,rfl,y,an,g⟩:=hrel;obtain⟨rl,bx⟩:=γ S.ready.length
    obtain⟨Ar,cr,bw⟩:=bU g.o.rr;rw[<-bx] at bw;obtain⟨ai,ea⟩:=zd2 bx bw;have jw:rl<=p.types.length:=by rw[bx];exact qg _ _ g.o.nd (λx hx=>(g.o.rl x hx).1)
    have y0:wr.cell? ⟨cb,0,none⟩=some (.slice Ar rl cr):=by have:=g.o.hc.cell 0;rw[bw] at this;exact this
    clear bx bw;by_cases jv:a<rl
    ·obtain⟨gr,ht,e1,_,_⟩:=ez (g.o.rr) (by have:=ai.o;omega);rw[ea.o,<-ai.o] at e1;obtain⟨rfl,rfl⟩:Ar=some ⟨gr,0,none⟩/\cr=ht:=by simpa using e1
     have al:a<S.ready.length:=by have:=ai.o;omega
     obtain⟨x,hx⟩:=γ (S.ready.getD a 0)
     have ev:x∈S.ready:=by rw[hx,List.getD_eq_getElem?_getD,ξ al];exact ν al
     have dc:x<p.types.length:=(g.o.rl x ev).1
     have y1:wr.cell? ⟨gr,a,none⟩=some (.int .i64 (x:Int)):=by
      have hr:=g.o.rr;rw[ea.o,<-ai.o] at hr;refine dk hr ?_;unfold ints;rw[List.getElem?_map,ξ al,hx,List.getD_eq_getElem?_getD,ξ al];rfl
     obtain⟨U,br⟩:=γ (S.wait.getD x [])
     have ff:Hid (U=WT.getD x []):=by show _=_;rw[br,y.o.2]
     have ch:=g.o.rw x dc;rw[<-br] at ch;obtain⟨Ax,cx,dd⟩:=bU ch;have lW:=row_max ch;have h8:=η dd;have y2:wr.cell? ⟨M,x,none⟩=some (.slice Ax U.length cx):=by rw[<-dd];exact dk g.o.r2 (by simp[List.getElem?_map,List.getElem?_range dc])
     have fl:Hid (PF=gI (p.types.length-a) (a+1) ((U.drop 0).foldl gt S)):=by
      show _=_;rw[an.o,show p.types.length+1-a=(p.types.length-a)+1 by omega,gI,if_pos al,<-hx,<-br];rfl
     have fe:=η dc;have a0:(0:Int)<=(a:Int):=ω;have a2:(a:Int)<(rl:Int):=ω;have x0:(0:Int)<=(x:Int):=ω;have x1:(x:Int)<(p.types.length:Int):=ω;obtain⟨wQ,rfl⟩:=γ wr
     have fq:=g;have ec:=y;clear hx ev br ch dd al an g e1 y;go_wp2_with fail;clear y0 y1 y2;go_loopw [115] (λi wr=>∃(b:Nat) (v:Value) (S:FSt),b<=U.length/\i=.int .i64 b/\Hid (S.needs.length=Y/\S.wait=WT)/\Hid (PF=gI (p.types.length-a) (a+1) ((U.drop b).foldl gt S))/\Hid (FM w.heap.size w wr p.types.length fb cb (.slice g1 p.types.length p.types.length) (.slice M p.types.length p.types.length) (.slice H Y D) v A S Y (λ_=>False))) (λi _=>U.length-(intOf i).toNat)
     case atStart=>exact⟨0,v,S,ω,rfl,ec.o,fl.o,fq.o⟩
     case round =>
      clear fq fl ec ea ai;obtain⟨b,v,S,hb,rfl,y,HP,g⟩:=hrel;by_cases ca:b<U.length
      ·as_aux_lemma =>
        have I:=η (pj (f:=gt) (s:=S) ca);have cg:=g.o.rw x fe.o;rw[y.o.2,<-ff.o,h8.o] at cg;obtain⟨gx,hp,ex,_,_⟩:=ez cg ω;obtain⟨rfl,rfl⟩:Ax=some ⟨gx,0,none⟩/\cx=hp:=by simpa using ex
        obtain⟨n,hn⟩:=γ (U[b])
        rw[<-hn] at I;have y3:wr.cell? ⟨gx,b,none⟩=some (.int .i64 (n:Int)):=dk cg (by unfold ints;rw[List.getElem?_map,ξ ca,hn];rfl)
        have b5:n<Y:=by
         have hm:WT.getD x []∈S.wait:=by
          rw[y.o.2,List.getD_eq_getElem?_getD,ξ (by have:=g.o.lw;rw[y.o.2] at this;rw[this];exact fe.o)];exact ν _
         exact g.o.wl _ hm n (by rw[<-ff.o,hn];exact ν ca)
        have am:n<S.needs.length:=by rw[y.o.1];exact b5
        obtain⟨g3,hw,e3,_,_⟩:=ez g.o.r3 ω;rw[y.o.1] at e3;obtain⟨rfl,rfl⟩:H=some ⟨g3,0,none⟩/\D=hw:=by simpa using e3
        obtain⟨ow,dh⟩:=γ ((S.needs.getD n (0,0)).1)
        obtain⟨lf,b6⟩:=γ ((S.needs.getD n (0,0)).2)
        have b4:=g.o.r3;rw[y.o.1] at b4;have y4:wr.cell? ⟨g3,n*2+1,none⟩=some (.int .i64 lf):=by rw[b6];exact dk b4 (ji _ am).2
        have y5:wr.frozen? ⟨g3,n*2+1,none⟩=false:=lT b4;have HD:=η (g.o.decr (n:=n) (by rw[y.o.1]) am);rw[<-b6] at HD
        have b8:((S.dec n).needs.getD n (0,0))=(ow,wrapI (lf-1)):=by
         unfold FSt.dec;rw[dh,b6];simp only[List.getD_eq_getElem?_getD,List.getElem?_set_self am];rfl
        have fm:Hid (gt S n=if wrapI (lf-1)=0 then (S.dec n).settle ow else S.dec n):=by show _=_;unfold gt;rw[b8]
        have bf:Hid ((S.dec n).needs.length=Y/\(S.dec n).wait=WT):=⟨by unfold FSt.dec;simp[y.o.1],y.o.2⟩
        have dg:ow<p.types.length:=by
         rw[dh];refine g.o.own _ ?_;rw[List.getD_eq_getElem?_getD,ξ am];exact ν am
        have ic:=η dg;obtain⟨W2,Z⟩:=γ (wr.setCell ⟨g3,n*2+1,none⟩ (.int .i64 (wrapI (lf-1))))
        have em:Hid (FM w.heap.size w W2 p.types.length fb cb (.slice g1 p.types.length p.types.length) (.slice M p.types.length p.types.length) (.slice g3 Y D) v A (S.dec n) Y (λ_=>False)):=by rw[Z];exact HD.o.1
        have b3:=em.o.r3;rw[bf.o.1] at b3;have dj:n<(S.dec n).needs.length:=by rw[bf.o.1];exact b5
        have y6:W2.cell? ⟨g3,n*2+1,none⟩=some (.int .i64 (wrapI (lf-1))):=by have:=dk b3 (ji _ dj).2;rw[b8] at this;exact this
        have y7:W2.cell? ⟨g3,n*2,none⟩=some (.int .i64 ((ow:Nat):Int)):=by have:=dk b3 (ji _ dj).1;rw[b8] at this;exact this
        have fh:=η Z;have b0:(0:Int)<=(b:Int):=ω;have b2:(b:Int)<(U.length:Int):=ω;have n0:(0:Int)<=(n:Int):=ω;have n1:(n:Int)<(Y:Int):=ω;clear cg ex hn e3 dh b6 b4 HD b8 dg Z b3 dj am b5;go_upto_region 33 with fail;rw[<-fh.o];clear y3 y4 y5 fh;by_cases B:wrapI (lf-1)=0
        ·have l0:(wrap64 (lf-1)==0)=true:=beq_iff_eq.2 B;have R:Hid (PF=gI (p.types.length-a) (a+1) ((U.drop (b+1)).foldl gt ((S.dec n).settle ow))):=by show _=_;rw[HP.o,I.o,fm.o,if_pos B]
         clear B;go_wp2_with (go_at_call 103;refine (oj em.o ic.o tl).mono ?_;rintro e9 w9 ⟨rfl,c7,dy,_⟩);exact⟨⟨b+1,c7,(S.dec n).settle ow,ω,by go_num,⟨by rw[gK];exact bf.o.1,by rw[ni];exact bf.o.2⟩,R.o,dy⟩,by simp[intOf];omega⟩
        have l0:(wrap64 (lf-1)==0)=false:=beq_eq_false_iff_ne.2 B;have R:Hid (PF=gI (p.types.length-a) (a+1) ((U.drop (b+1)).foldl gt (S.dec n))):=by show _=_;rw[HP.o,I.o,fm.o,if_neg B]
        clear B;go_wp2_with fail;exact⟨⟨b+1,v,S.dec n,ω,by go_num,bf.o,R.o,em.o⟩,by simp[intOf];omega⟩
      have R:Hid (PF=gI (p.types.length+1-(a+1)) (a+1) S):=by show _=_;rw[HP.o,ql ca,show p.types.length+1-(a+1)=p.types.length-a by omega]
      go_wp2_with fail;exact⟨⟨a+1,v,S,ω,by go_num,y.o,R.o,g.o⟩,by simp[intOf];omega⟩
    have el:Hid (finP p=decide (rl=p.types.length)):=by
     show _=_;rw[eu.o,an.o,show p.types.length+1-a=(p.types.length-a)+1 by omega,gI,if_neg (by have:=ai.o;omega),<-ai.o]
    go_upto_region 36 with fail;replace y0:=belW y0;have y1:=belW (belC g.o.bel ij.o);by_cases bz:rl=p.types.length
    ·have r1:((rl:Int)==(p.types.length:Int))=true:=beq_iff_eq.2 ω;have HX:Hid (finP p=true):=by show _=_;rw[el.o];exact decide_eq_true bz
     clear bz;go_region_held3 (λX=>Below wr.heap.size wr X) (first|exact ad _) (fail);go_wp2;go_ret;rw[HX.o];exact⟨rfl,bel g.o.bel (ad _)⟩
    have r1:((rl:Int)==(p.types.length:Int))=false:=beq_eq_false_iff_ne.2 ω;have HX:Hid (finP p=false):=by show _=_;rw[el.o];exact decide_eq_false bz
    clear bz;go_region_held3 (λX=>Below wr.heap.size wr X) (first|exact ad _) (fail);go_wp2;go_ret;rw[HX.o];exact⟨rfl,bel g.o.bel (ad _)⟩
end
