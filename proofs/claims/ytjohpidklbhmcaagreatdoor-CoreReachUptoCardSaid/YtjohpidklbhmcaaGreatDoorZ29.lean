/- Core -/
import Derived.Test.YtjohpidklbhmcaaGreatDoorZ27
namespace Go.Proofs.YtjohpidklbhmcaaGreatDoor
set_option linter.all false
open Go.Proofs.Tryz
set_option maxRecDepth 100000
set_option maxHeartbeats 2000000
open Go.RowKit Go.Maps Go.WideMaps Go.ChangeMaps
def lK:List Int:=[36,35,34,33,25,31,30,29,28,27,26,24,23,22,21,20,17,16,19,18,32,15,13,12,11,10,9,8,7,6,5,4,3,2,1]
def uV {op:Int} (h:op∉lK):bK op=none:=by
 unfold lK at h;simp only[List.mem_cons,List.not_mem_nil,or_false,not_or] at h;unfold bK;simp only[h,if_false]
def CondSaid (w:World) (c:CB) (e:Ending) (w':World):Prop:=e=.returned (.map (some w))/\∃n f,RB w w w' c w n f lK
def nR (c:CB) (w:World):Calls prog 93 #[c.b] w (CondSaid w c):=by
 have r:=@run_makeMap prog;have q:Hid (RB w w (w.alloc (.map #[] 0)) c w 0 (λ_=>none) []):=⟨ζ1,υ _,by simp,MapIs.made prog 3 (Lit.int .i64) w,υ _,λop=>⟨λh=>(by cases h),λ_=>rfl⟩⟩
 go_enter func93,ntmps93;go_wp2_with (first|(go_at_call 130;refine (constants_any q Θ).mono ?_;rintro R y ⟨rfl,E,J,g⟩;have p:=η g;(clear g))|(go_at_call 131;refine (structures_any p Θ).mono ?_;rintro O x ⟨rfl,D,I,f⟩;have l:=η f;(clear f))|(go_at_call 132;refine (choices_any l Θ).mono ?_;rintro N v ⟨rfl,B,H,e⟩;have k:=η e;(clear e))|(go_at_call 133;refine (pH k Θ).mono ?_;rintro M u ⟨rfl,A,G,d⟩;have j:=η d;(clear d))|(go_at_call 134;refine (calls_any j Θ).mono ?_;rintro L t ⟨rfl,z,F,a⟩;have i:=η a;(clear a)));go_ret;exact⟨rfl,_,_,i⟩
def kj {l:List (List UInt8)} {k:Nat} {s:List UInt8} (h:l[k]?=some s):upd (idxF l k) s (some (.int .i64 (k:Nat)))=idxF l (k+1):=by
 funext x;unfold upd idxF;rw[cB];by_cases e:x=s
 ·subst e;rw[if_pos rfl,if_pos h];rfl
 rw[if_neg e,if_neg (by rw[h];intro a;injection a with a;exact e a.symm)]
structure NC (w wr:World) (p:Pg) (v0 v1 v2 v3:Value) (j1 j2 j3 n1 n2 n3:Nat):Prop where
 bel:Below w w wr
 px:Hs wr w 27 #[v0,v1,v2,v3]
 cx:Hs wr (w+1+1+1+1) 159 #[v0,v1,v2,v3,.map (some (w+1)),.map (some (w+1+1)),.map (some (w+1+1+1)),.map none]
 m1:SMap wr (w+1) n1 (idxF p.tyNames j1)
 m2:SMap wr (w+1+1) n2 (idxF p.acNames j2)
 m3:SMap wr (w+1+1+1) n3 (idxF p.efNames j3)
 l1:n1<=j1
 l2:n2<=j2
 l3:n3<=j3
section
variable {w wr wr':World} {p:Pg} {v0 v1 v2 v3:Value} {j1 j2 j3 n1 n2 n3 n:Nat}
def NC.bels (h:NC w wr p v0 v1 v2 v3 j1 j2 j3 n1 n2 n3) (hb:Below wr wr wr'):NC w wr' p v0 v1 v2 v3 j1 j2 j3 n1 n2 n3:=
 ⟨Below.trans h.bel (hb.mono h.bel.size),aH h.px hb,aH h.cx hb,h.m1.below hb h.m1.lt,h.m2.below hb h.m2.lt,h.m3.below hb h.m3.lt,h.l1,h.l2,h.l3⟩
def uA {g:Nat} (h:Below w w wr) (hg:wr.grownBy wr' (some g)) (hl:w<=g):Below w w wr':=
 ⟨hg.os.trans h.os,hg.tape.trans h.tape,hg.output.trans h.output,ψ h.size hg.size,λi hi=>(hg.block i (ρ hi h.size) (λe=>by injection e with e;omega)).trans (h.block i hi)⟩
def NC.put1 (h:NC w wr p v0 v1 v2 v3 j1 j2 j3 n1 n2 n3) {s:List UInt8} (hs:p.tyNames[j1]?=some s) (hM:SMap wr' (w+1) (if (idxF p.tyNames j1 s).isSome then n1 else n1+1) (upd (idxF p.tyNames j1) s (some (.int .i64 ((j1:Nat):Int))))) (hg:wr.grownBy wr' (some (w+1))):NC w wr' p v0 v1 v2 v3 (j1+1) j2 j3 (if (idxF p.tyNames j1 s).isSome then n1 else n1+1) n2 n3:=by
 have a:=hM;rw[kj hs] at a;exact⟨uA h.bel hg ω,aN h.px hg ω,aN h.cx hg ω,a,(h.m2.same (hg.block _ h.m2.lt (λe=>by injection e with e;omega))),(h.m3.same (hg.block _ h.m3.lt (λe=>by injection e with e;omega))),(by have:=h.l1;split<;>omega),h.l2,h.l3⟩
def NC.put2 (h:NC w wr p v0 v1 v2 v3 j1 j2 j3 n1 n2 n3) {s:List UInt8} (hs:p.acNames[j2]?=some s) (hM:SMap wr' (w+1+1) (if (idxF p.acNames j2 s).isSome then n2 else n2+1) (upd (idxF p.acNames j2) s (some (.int .i64 ((j2:Nat):Int))))) (hg:wr.grownBy wr' (some (w+1+1))):NC w wr' p v0 v1 v2 v3 j1 (j2+1) j3 n1 (if (idxF p.acNames j2 s).isSome then n2 else n2+1) n3:=by
 have a:=hM;rw[kj hs] at a;exact⟨uA h.bel hg ω,aN h.px hg ω,aN h.cx hg ω,(h.m1.same (hg.block _ h.m1.lt (λe=>by injection e with e;omega))),a,(h.m3.same (hg.block _ h.m3.lt (λe=>by injection e with e;omega))),h.l1,(by have:=h.l2;split<;>omega),h.l3⟩
def NC.put3 (h:NC w wr p v0 v1 v2 v3 j1 j2 j3 n1 n2 n3) {s:List UInt8} (hs:p.efNames[j3]?=some s) (hM:SMap wr' (w+1+1+1) (if (idxF p.efNames j3 s).isSome then n3 else n3+1) (upd (idxF p.efNames j3) s (some (.int .i64 ((j3:Nat):Int))))) (hg:wr.grownBy wr' (some (w+1+1+1))):NC w wr' p v0 v1 v2 v3 j1 j2 (j3+1) n1 n2 (if (idxF p.efNames j3 s).isSome then n3 else n3+1):=by
 have a:=hM;rw[kj hs] at a;exact⟨uA h.bel hg ω,aN h.px hg ω,aN h.cx hg ω,(h.m1.same (hg.block _ h.m1.lt (λe=>by injection e with e;omega))),(h.m2.same (hg.block _ h.m2.lt (λe=>by injection e with e;omega))),a,h.l1,h.l2,(by have:=h.l3;split<;>omega)⟩
end
def vx (w:World) (p:Pg) (e:Ending) (w':World):Prop:=Below w w w'/\∃c:CB,w.heap.size<=c.b/\e=.returned (c.b:Vl)/\ChkR w' (lo w') c p/\∃n f,RulesR w' (lo w') c n f
variable {w5:World}
def chk_end {w wd:World} {p:Pg} {A0 A1 A2 A3:Option Addr} {q0 q1 q2 q3 n1 n2 n3 n5:Nat} {f5:Int->Option Value} {cc:CB} (hcc:cc=⟨(w+1+1+1+1),w+1,w+1+1,w+1+1+1,wd,n1,n2,n3,.slice A0 p.types q0,.slice A1 p.effects q1,.slice A2 p.funs q2,.slice A3 p.actors q3⟩) (hc:NC w wd p (.slice A0 p.types q0) (.slice A1 p.effects q1) (.slice A2 p.funs q2) (.slice A3 p.actors q3) p.types p.actors p.effects n1 n2 n3) (hr:RB wd wd w5 cc wd n5 f5 lK) (hx:Hs w5 (w+1+1+1+1) 159 #[.slice A0 p.types q0,.slice A1 p.effects q1,.slice A2 p.funs q2,.slice A3 p.actors q3,.map (some (w+1)),.map (some (w+1+1)),.map (some (w+1+1+1)),.map none]) (h0:SlR w (lo w) 3 (DclR w (lo w)) (.slice A0 p.types q0) p.types) (h1:SlR w (lo w) 5 (EffR w (lo w)) (.slice A1 p.effects q1) p.effects) (h2:SlR w (lo w) 11 (FnR w (lo w)) (.slice A2 p.funs q2) p.funs) (h3:SlR w (lo w) 7 (AcR w (lo w)) (.slice A3 p.actors q3) p.actors):
 vx w p (.returned (.pointer (some ⟨(w+1+1+1+1),0,none⟩))) (w5.setCell ⟨(w+1+1+1+1),7,none⟩ (.map (some wd))):=by
 have l:Below w w wd:=hc.bel;have f:Below w w w5:=l.trans (hr.bel.mono l.size);have e:=hx.put 7 (.map (some wd));have a:∀b,b≠(w.heap.size+1+1+1+1)->(w5.setCell ⟨(w+1+1+1+1),7,none⟩ (.map (some wd))).heap[b]?=w5.heap[b]?:=λb hb=>Below.heap_setCell _ _ _ _ hb;have q:Below w w (w5.setCell ⟨(w+1+1+1+1),7,none⟩ (.map (some wd))):=⟨f.os,f.tape,f.output,by simp[World.setCell];exact f.size,λi hi=>(a i ω).trans (f.block i hi)⟩
 have d:(w5.setCell ⟨(w+1+1+1+1),7,none⟩ (.map (some wd))).heap.size=w5:=by simp[World.setCell]
 have z:=hr.bel.size;have u:=hc.m1.lt;have t:=hc.m2.lt;have r:=hc.m3.lt;have A:=hc.cx.lt;have S:=ae q;subst hcc;refine⟨q,⟨(w+1+1+1+1),w+1,w+1+1,w+1+1+1,wd,n1,n2,n3,.slice A0 p.types q0,.slice A1 p.effects q1,.slice A2 p.funs q2,.slice A3 p.actors q3⟩,(by show w.heap.size<=w+1+1+1+1;omega),rfl,⟨(by show _<_;rw[d];show _+1<_;omega),(by show _<_;rw[d];show _+1<_;omega),(by show _<_;rw[d];show _+1<_;omega),(by show _<_;rw[d];show _+1<_;omega),?_,?_,?_,?_,?_,?_,?_,?_,h0.to' S (λ_ _ x=>x.to S),h1.to' S (λ_ _ x=>x.to S),h2.to' S (λ_ _ x=>x.to S),h3.to' S (λ_ _ x=>x.to S),?_,?_,?_⟩,n5,f5,?_⟩
 ·exact e.cell 0
 ·exact e.cell 1
 ·exact e.cell 2
 ·exact e.cell 3
 ·exact e.cell 4
 ·exact e.cell 5
 ·exact e.cell 6
 ·exact e.cell 7
 ·have:=hc.m1.same ((a _ (by first|omega|(simp only;omega))).trans (hr.bel.block _ u));simpa[Pg.tyNames] using this
 ·have:=hc.m2.same ((a _ (by first|omega|(simp only;omega))).trans (hr.bel.block _ t));simpa[Pg.acNames] using this
 ·have:=hc.m3.same ((a _ (by first|omega|(simp only;omega))).trans (hr.bel.block _ r));simpa[Pg.efNames] using this
 have k:wd.heap.size<w5:=hr.map.lt;have j:wd.heap.size≠(w.heap.size+1+1+1+1):=ω;refine⟨by show _<_;rw[d];exact k,hr.map.same (a _ j),λop=>?_⟩;by_cases g:op∈lK
 ·obtain⟨v,y,h⟩:=(hr.rule op).1 g;rw[y];exact h.to (λb hb=>⟨by show b<_;rw[d];exact hb.2,a b (by have:=hb.1;omega)⟩)
 rw[(hr.rule op).2 g];exact uV g
def nN (p:Pg) (A0 A1 A2 A3:Option Addr) (q0 q1 q2 q3:Nat) (w:World) (h0:SlR w (lo w) 3 (DclR w (lo w)) (.slice A0 p.types q0) p.types) (h1:SlR w (lo w) 5 (EffR w (lo w)) (.slice A1 p.effects q1) p.effects) (h2:SlR w (lo w) 11 (FnR w (lo w)) (.slice A2 p.funs q2) p.funs) (h3:SlR w (lo w) 7 (AcR w (lo w)) (.slice A3 p.actors q3) p.actors)
 (hs:p.Small):Calls prog 41 #[.agg #[.slice A0 p.types q0,.slice A1 p.effects q1,.slice A2 p.funs q2,.slice A3 p.actors q3]] w (vx w p):=by
 have a9:=@run_makeMap prog;have t0:=hs.types;have t1:=hs.effects;have t2:=hs.actors;obtain⟨H0,H1,H2,H3⟩:=zd4 h0 h1 h2 h3;obtain⟨W1,J⟩:=γ (((((w.alloc (.cells #[.slice A0 p.types q0,.slice A1 p.effects q1,.slice A2 p.funs q2,.slice A3 p.actors q3] 27)).alloc (.map #[] 0)).alloc (.map #[] 0)).alloc (.map #[] 0)).alloc (.cells #[.slice A0 p.types q0,.slice A1 p.effects q1,.slice A2 p.funs q2,.slice A3 p.actors q3,.map (some (w+1)),.map (some (w+1+1)),.map (some (w+1+1+1)),.map none] 159))
 have a:Hid (NC w W1 p (.slice A0 p.types q0) (.slice A1 p.effects q1) (.slice A2 p.funs q2) (.slice A3 p.actors q3) 0 0 0 0 0 0):=by
  rw[J];refine⟨ζ5,((((Hs.new w 27 _).alloc _).alloc _).alloc _).alloc _,uZ w _ _ _ _ 159 _,?_,?_,?_,υ _,υ _,υ _⟩
  ·have:=(((MapIs.made prog 9 Lit.string (w.alloc (.cells #[.slice A0 p.types q0,.slice A1 p.effects q1,.slice A2 p.funs q2,.slice A3 p.actors q3] 27))).alloc (.map #[] 0)).alloc (.map #[] 0)).alloc (.cells #[.slice A0 p.types q0,.slice A1 p.effects q1,.slice A2 p.funs q2,.slice A3 p.actors q3,.map (some (w+1)),.map (some (w+1+1)),.map (some (w+1+1+1)),.map none] 159);have:=this.congr (g:=idxF p.tyNames 0) (λs=>rfl);simpa using this
  ·have:=((MapIs.made prog 9 Lit.string ((w.alloc (.cells #[.slice A0 p.types q0,.slice A1 p.effects q1,.slice A2 p.funs q2,.slice A3 p.actors q3] 27)).alloc (.map #[] 0))).alloc (.map #[] 0)).alloc (.cells #[.slice A0 p.types q0,.slice A1 p.effects q1,.slice A2 p.funs q2,.slice A3 p.actors q3,.map (some (w+1)),.map (some (w+1+1)),.map (some (w+1+1+1)),.map none] 159);have:=this.congr (g:=idxF p.acNames 0) (λs=>rfl);simpa using this
  have:=(MapIs.made prog 9 Lit.string (((w.alloc (.cells #[.slice A0 p.types q0,.slice A1 p.effects q1,.slice A2 p.funs q2,.slice A3 p.actors q3] 27)).alloc (.map #[] 0)).alloc (.map #[] 0))).alloc (.cells #[.slice A0 p.types q0,.slice A1 p.effects q1,.slice A2 p.funs q2,.slice A3 p.actors q3,.map (some (w+1)),.map (some (w+1+1)),.map (some (w+1+1+1)),.map none] 159);have:=this.congr (g:=idxF p.efNames 0) (λs=>rfl);simpa using this
 have aa:=η J;clear h0 h1 h2 h3 J;go_enter func41,ntmps41;go_upto_region 2 with fail;rw[<-aa.o];clear aa;have V:=a.px.c 0;go_wp2_with fail;clear V;have u:=a;clear a;go_loopw [19] (λi wr=>∃(j k h f:Nat),j<=p.types/\i=.int .i64 j/\Hid (NC w wr p (.slice A0 p.types q0) (.slice A1 p.effects q1) (.slice A2 p.funs q2) (.slice A3 p.actors q3) j 0 0 k h f)) (λi _=>p.types.length-(intOf i).toNat)
 case atStart=>exact⟨0,_,_,_,ω,rfl,u⟩
 case round =>
  clear u;obtain⟨j,k,h,f,hj,rfl,a⟩:=hrel;by_cases hlt:j<p.types
  ·have D:=zT j p.types;obtain⟨g1,E,X,M,rfl,Z,U,T,R,_,r,_⟩:=fF (SlR.to' H0 (ae a.bel) (λ_ _ x=>x.to (ae a.bel))) hlt;have A:=η r;have j0:(0:Int)<=(j:Int):=ω;have j1:(j:Int)<(p.types.length:Int):=ω;clear r;go_upto_region 5 with fail;refine wp_region_still_tail 7 Δ Δ ?_;obtain⟨l,d⟩:=γ ((wr.alloc (.cells #[.string p.types[j].name,.bool p.types[j].record,.slice X p.types[j].ctors.length M] 48)).drew)
   have B:Below wr wr l:=by rw[d];exact ζ1.drew
   have f0:l.cell? wr=some (.string p.types[j].name):=by rw[d];simp
   change wpStill _ _ (World.drew _) (λa'=>wpList _ _ _ _ a' (World.drew _)) _ _;rw[<-d];have e:=η (a.bels B);have d0:=e.cx.c 4;have z:Hid (p.tyNames[j]?=some p.types[j].name.data.toList):=by show _=_;unfold Pg.tyNames;rw[List.getElem?_map,ξ hlt];rfl
   have y:Hid (k<maxLen):=by have:=e.l1;show k<maxLen;unfold maxLen;omega
   clear d B a U T R;simp only[List.take_succ_cons,List.take_zero,List.drop_succ_cons,List.drop_zero];repeat still_step
   refine wpStill_nil ?_;go_wp2_with (refine ak _ rfl _ _ _ 101 (.inl rfl) 3 (fL underlying9) underlying101 (w+1) k _ rfl e.m1 y p.types[j].name.data.toList (.string p.types[j].name) (.int .i64 (j:Int)) rfl rfl (keyOf_string_mk underlying9 A) ?_;intro w3 L G);exact⟨⟨j+1,_,_,_,ω,by go_num,e.put1 z L G⟩,by simp[intOf];omega⟩
  have D:=zF j p.types;have t:j=p.types:=ω;have v:Hid (NC w wr p (.slice A0 p.types q0) (.slice A1 p.effects q1) (.slice A2 p.funs q2) (.slice A3 p.actors q3) p.types 0 0 k h f):=by have:=a.o;rw[t] at this;exact this
  clear a t;have a:=v;clear v;obtain⟨wa,rfl⟩:=γ wr
  have V:=a.px.c 3;go_wp2_with fail;clear V;have u:=a;clear a;go_loopw [35] (λi wr=>∃(j k h f:Nat),j<=p.actors/\i=.int .i64 j/\Hid (NC w wr p (.slice A0 p.types q0) (.slice A1 p.effects q1) (.slice A2 p.funs q2) (.slice A3 p.actors q3) p.types j 0 k h f)) (λi _=>p.actors.length-(intOf i).toNat)
  case atStart=>exact⟨0,_,_,_,ω,rfl,u⟩
  case round =>
   clear u;obtain⟨j,k,h,f,hj,rfl,a⟩:=hrel;by_cases hlt:j<p.actors
   ·have D:=zT j p.actors;obtain⟨g1,E,X,M,C2,d2,C3,d3,rfl,Z,U,T,R,c3,c4,c5,c6,_,_,r,_,_,_⟩:=fR (SlR.to' H3 (ae a.bel) (λ_ _ x=>x.to (ae a.bel))) hlt;have A:=η r;have j0:(0:Int)<=(j:Int):=ω;have j1:(j:Int)<(p.actors.length:Int):=ω;clear r;go_upto_region 10 with fail;refine wp_region_still_tail 7 Δ Δ ?_;obtain⟨l,d⟩:=γ ((wr.alloc (.cells #[.string p.actors[j].name,.slice X p.actors[j].params.length M,.int .i64 p.actors[j].slots,.slice C2 p.actors[j].vars.length d2,.slice C3 p.actors[j].on.length d3,.int .i64 p.actors[j].policy,.int .i64 p.actors[j].most] 54)).drew)
    have B:Below wr wr l:=by rw[d];exact ζ1.drew
    have f0:l.cell? wr=some (.string p.actors[j].name):=by rw[d];simp
    change wpStill _ _ (World.drew _) (λa'=>wpList _ _ _ _ a' (World.drew _)) _ _;rw[<-d];have e:=η (a.bels B);have d0:=e.cx.c 5;have z:Hid (p.acNames[j]?=some p.actors[j].name.data.toList):=by show _=_;unfold Pg.acNames;rw[List.getElem?_map,ξ hlt];rfl
    have y:Hid (h<maxLen):=by have:=e.l2;show h<maxLen;unfold maxLen;omega
    clear d B a U T R c3 c4 c5 c6;simp only[List.take_succ_cons,List.take_zero,List.drop_succ_cons,List.drop_zero];repeat still_step
    refine wpStill_nil ?_;go_wp2_with (refine ak _ rfl _ _ _ 101 (.inl rfl) 3 (fL underlying9) underlying101 (w+1+1) h _ rfl e.m2 y p.actors[j].name.data.toList (.string p.actors[j].name) (.int .i64 (j:Int)) rfl rfl (keyOf_string_mk underlying9 A) ?_;intro w3 L G);exact⟨⟨j+1,_,_,_,ω,by go_num,e.put2 z L G⟩,by simp[intOf];omega⟩
   have D:=zF j p.actors;have t:j=p.actors:=ω;have v:Hid (NC w wr p (.slice A0 p.types q0) (.slice A1 p.effects q1) (.slice A2 p.funs q2) (.slice A3 p.actors q3) p.types p.actors 0 k h f):=by have:=a.o;rw[t] at this;exact this
   clear a t;have a:=v;clear v;obtain⟨wb,rfl⟩:=γ wr
   have V:=a.px.c 1;go_wp2_with fail;clear V;have u:=a;clear a;go_loopw [51] (λi wr=>∃(j k h f:Nat),j<=p.effects/\i=.int .i64 j/\Hid (NC w wr p (.slice A0 p.types q0) (.slice A1 p.effects q1) (.slice A2 p.funs q2) (.slice A3 p.actors q3) p.types p.actors j k h f)) (λi _=>p.effects.length-(intOf i).toNat)
   case atStart=>exact⟨0,_,_,_,ω,rfl,u⟩
   case round =>
    clear u;obtain⟨j,k,h,f,hj,rfl,a⟩:=hrel;by_cases hlt:j<p.effects
    ·have D:=zT j p.effects;obtain⟨g1,E,X,M,k1,s1,a1,C2,d2,rfl,Z,U,T,R,c3,c4,_,r,_,_⟩:=jC (SlR.to' H1 (ae a.bel) (λ_ _ x=>x.to (ae a.bel))) hlt;have A:=η r;have j0:(0:Int)<=(j:Int):=ω;have j1:(j:Int)<(p.effects.length:Int):=ω;clear r;go_upto_region 15 with fail;refine wp_region_still_tail 7 Δ Δ ?_;obtain⟨l,d⟩:=γ ((wr.alloc (.cells #[.string p.effects[j].name,.slice X p.effects[j].params.length M,k1,s1,.slice C2 a1 d2] 50)).drew)
     have B:Below wr wr l:=by rw[d];exact ζ1.drew
     have f0:l.cell? wr=some (.string p.effects[j].name):=by rw[d];simp
     change wpStill _ _ (World.drew _) (λa'=>wpList _ _ _ _ a' (World.drew _)) _ _;rw[<-d];have e:=η (a.bels B);have d0:=e.cx.c 6;have z:Hid (p.efNames[j]?=some p.effects[j].name.data.toList):=by show _=_;unfold Pg.efNames;rw[List.getElem?_map,ξ hlt];rfl
     have y:Hid (f<maxLen):=by have:=e.l3;show f<maxLen;unfold maxLen;omega
     clear d B a U T R c3 c4;simp only[List.take_succ_cons,List.take_zero,List.drop_succ_cons,List.drop_zero];repeat still_step
     refine wpStill_nil ?_;go_wp2_with (refine ak _ rfl _ _ _ 101 (.inl rfl) 3 (fL underlying9) underlying101 (w+1+1+1) f _ rfl e.m3 y p.effects[j].name.data.toList (.string p.effects[j].name) (.int .i64 (j:Int)) rfl rfl (keyOf_string_mk underlying9 A) ?_;intro w3 L G);exact⟨⟨j+1,_,_,_,ω,by go_num,e.put3 z L G⟩,by simp[intOf];omega⟩
    have D:=zF j p.effects;have t:j=p.effects:=ω;have v:Hid (NC w wr p (.slice A0 p.types q0) (.slice A1 p.effects q1) (.slice A2 p.funs q2) (.slice A3 p.actors q3) p.types p.actors p.effects k h f):=by have:=a.o;rw[t] at this;exact this
    clear a t;have a:=v;clear v;obtain⟨wd,rfl⟩:=γ wr
    have SB:=η a.o.bel;obtain⟨O,H⟩:=γ (⟨(w+1+1+1+1),w+1,w+1+1,w+1+1+1,wd,k,h,f,.slice A0 p.types q0,.slice A1 p.effects q1,.slice A2 p.funs q2,.slice A3 p.actors q3⟩:CB)
    have I:(w.heap.size+1+1+1+1)=O.b:=by rw[H]
    obtain⟨au,bb⟩:=zd2 H I;have Y:(Value.pointer (some ⟨(w+1+1+1+1),0,none⟩))=.pointer (some ⟨O.b,0,none⟩):=by rw[I]
    have aq:=η Y;have ba:=a.cx.lt;clear H I Y;go_upto_region 17 with fail;have N:=nR O wd;rw[<-aq.o] at N;have ar:=η N;clear N;go_wp2_with (go_at_call 93;refine ar.mono ?_;rintro e5 w5 ⟨rfl,n5,f5,F⟩;have R5:=η F;have W:=η (aH a.cx F.bel);have y7:w5.cell? ⟨(w+1+1+1+1),7,none⟩=some (.map none):=W.cell 7;have y8:w5.frozen? ⟨(w+1+1+1+1),7,none⟩=false:=W.free 7;clear F);go_ret;refine chk_end au a R5 W H0 H1 H2 H3
def SetSaid (B:Nat) (w0:World) (T fb cb:Nat) (v1 v2 v3:Value) (vw:Nat->Value) (S:FSt) (lim:Nat) (X:Nat->Prop) (w:World) (e:Ending) (w':World):Prop:=
 e=.returned (.tuple #[])/\∃vr',FM B w0 w' T fb cb v1 v2 v3 vr' vw S lim X/\∀b,X b->w'.heap[b]?=w.heap[b]?
variable {T:Nat}
def qC {S:FSt} {o:Nat} (hr:∀x∈S.ready,x<T/\S.fin.getD x false=true) (h:S.fin.getD o false=false):o∉S.ready:=λhm=>by have:=(hr o hm).2;rw[h] at this;cases this
variable {vw:Nat->Value}
def cb_ne {B:Nat} {w0 w:World} {fb cb:Nat} {v1 v2 v3 vr:Value} {S:FSt} {lim:Nat} {X:Nat->Prop} (h:FM B w0 w T fb cb v1 v2 v3 vr vw S lim X):¬(vr.ownBlock=some cb):=λe=>by
 obtain⟨tag,t0,t1,t2,t3,t4,t5,t6,t7⟩:=h.tags
 have:=t5 cb e
 omega
def qg (T:Nat) (l:List Nat) (h:l.Nodup) (hl:∀x∈l,x<T):l<=T:=by
 have:=lZ T (l.map λn=>((n:Nat):Int)) (List.Pairwise.map _ (λa b hab e=>hab ω) h) (λi hi=>by obtain⟨x,d,rfl⟩:=List.mem_map.1 hi;have:=hl x d;omega);simpa using this
def oj {B:Nat} {w0 w:World} {fb cb:Nat} {v1 v2 v3 vr:Value} {S:FSt} {lim:Nat} {X:Nat->Prop} (h:FM B w0 w T fb cb v1 v2 v3 vr vw S lim X) {o:Nat} (ho:o<T) (hT:T<=1000000):
 Calls prog 103 #[.int .i64 (o:Nat),fb,cb] w (SetSaid B w0 T fb cb v1 v2 v3 vw (S.settle o) lim X w):=by
 obtain⟨E,c1,j,ab,R⟩:=ez h.r1 ω;obtain⟨Z,V,H⟩:=bU h.rr;have HT:S.ready<=T:=qg T _ h.nd (λx hx=>(h.rl x hx).1);have A:=h.r1;rw[j] at A;have ac:=h.lf;have N:S.fin[o]?=some (S.fin.getD o false):=by rw[List.getD_eq_getElem?_getD,ξ ω];rfl
 have U:w.cell? ⟨E,o,none⟩=some (.bool (S.fin.getD o false)):=dk A (by rw[List.getElem?_map,N];rfl);have f0:w.cell? fb=some (.slice (some ⟨E,0,none⟩) T c1):=by have:=h.hf.cell 0;rw[j] at this;exact this
 have f2:w.frozen? ⟨E,o,none⟩=false:=lT A;have o0:(0:Int)<=((o:Nat):Int):=ω;have o1:((o:Nat):Int)<((T:Nat):Int):=ω;have F:=η h;obtain⟨p,L,I,J,M⟩:=jz;have l:Hid (prog.info? 3=some p/\p.zero=some (.int .i64 0)/\p.size=1/\p.bytes=8):=⟨L,I,J,M⟩
 obtain⟨Y,ae,k⟩:=zd3 ho j H;clear h A ac N L I J M j H ab R
 cases hb:S.fin.getD o false with
 | true =>
  have W:Hid (S.settle o=S):=by show _=_;unfold FSt.settle;rw[hb];rfl
  rw[hb] at U;clear hb;go_enter func103,ntmps103;go_wp2_with fail;exact bodyPost_ret (v:=.tuple #[]) (by simp[results,results103,go_sem]) rfl ⟨rfl,vr,by rw[W.o];exact F,λ_ _=>rfl⟩
 | false =>
  have W:Hid (S.settle o={ ({ S with fin:=S.fin.set o true }:FSt) with ready:=S.ready++[o] }):=by show _=_;unfold FSt.settle;rw[hb];rfl
  have HN:=η (qC F.rl hb);rw[hb] at U;clear hb;have y:=η (F.flag ae Y)
  have af:Hid (({ S with fin:=S.fin.set o true }:FSt).fin.getD o false=true):=by
   show (S.fin.set o true).getD o false=true;have:=F.lf;have:=Y.o;rw[List.getD_eq_getElem?_getD,List.getElem?_set_self ω];rfl
  obtain⟨d,i⟩:=γ (w.setCell ⟨E,o,none⟩ (true:Vl))
  have g:Hid (FM B w0 d T fb cb v1 v2 v3 vr vw { S with fin:=S.fin.set o true } lim X):=by rw[i];exact y.1
  have ai:Hid (∀b,X b->d.heap[b]?=w.heap[b]?):=by rw[i];exact y.2
  have O:=η i;go_enter func103,ntmps103;go_upto_region 2 with fail;rw[<-O.o];clear i O y f0 U f2;have y0:d.cell? cb=some (.slice Z S.ready V):=by have:=g.hc.cell 0;rw[k.o] at this;exact this
  have a:=η (g.bels (belA (belR d) (.cells #[.int .i64 ((o:Nat):Int)] 3)));have ag:Hid ((d.alloc (.cells #[.int .i64 ((o:Nat):Int)] 3)).ownsRow B 3 1 (.slice Z S.ready V) S.ready (ints S.ready)):=by have:=a.rr;rw[k.o] at this;exact this
  have aa:=a.szB;have ak:=a.hc.lt;go_wp2_with (at_builtin;refine wpList_append_own_at _ rfl (.tmp 12) (.tmp 14) 104 rfl B 3 p (.int .i64 0) 1 8 underlying104 l.1 l.2.1 l.2.2.1 l.2.2.2 rfl π (.slice Z S.ready V) S.ready (ints S.ready) rfl ag d 1 1 [.int .i64 ((o:Nat):Int)] rfl rfl (ib (Hs.new _ _ _)) one1 Ξ ω aa ?_;intro vv z e f D t;obtain⟨A5,c5,rfl⟩:=bU e;have u:(d.alloc (.cells #[.int .i64 ((o:Nat):Int)] 3)).grownBy z vr.ownBlock:=(by rw[k.o];exact f);have G:(Value.slice A5 (S.ready+1) c5).ownBlock=vr.ownBlock\/(Value.slice A5 (S.ready+1) c5).ownBlock=some (d.alloc (.cells #[.int .i64 ((o:Nat):Int)] 3)).heap.size:=(by rw[k.o];exact t);have HP:=η (a.push Y HN af e u G);have r:Hs z cb 104 #[vr]:=bp a.hc (pE u) (cb_ne a);have x0:z.cell? cb=some vr:=r.cell 0;have x1:z.frozen? cb=false:=r.free 0;clear e f D t u G r);exact bodyPost_ret (v:=.tuple #[]) (by simp[results,results103,go_sem]) rfl ⟨rfl,_,by rw[W.o];exact HP.1,λb hb=>(HP.2 b hb).trans ((belA (belR d) _).block b (g.xl b hb) |>.trans (ai b hb))⟩
def nb (base:Nat) (v:Value) (w:World) (k:Nat):Prop:=base<=k/\k<w/\v.ownBlock≠some k
def nw (base:Nat) (w:World) (k:Nat):Prop:=base<=k/\k<w
def RowG {α:Type} (size:Nat) (R:List Value->α->Prop) (xs:List Value) (l:List α):Prop:=xs.length=l.length*size/\∀i (hi:i<l.length),R ((xs.drop (i*size)).take size) l[i]
section
variable {α:Type} {size:Nat} {R:World->(Nat->Prop)->List Value->α->Prop}
def RowG.nil (Q:List Value->α->Prop):RowG size Q [] []:=⟨by simp,λi hi=>absurd hi Θ⟩
variable {Q:List Value->α->Prop} {xs:List Value} {l:List α}
def RowG.snoc {cs:List Value} {a:α} (h:RowG size Q xs l) (hc:cs=size) (ha:Q cs a):RowG size Q (xs++cs) (l++[a]):=by
 refine⟨by simp[h.1,hc];rw[Nat.add_mul,Nat.one_mul],λi hi=>?_⟩;by_cases b:i<l.length
 ·have j:=h.1;have e:(i+1)*size<=l.length*size:=Nat.mul_le_mul_right _ b;rw[Nat.add_mul,Nat.one_mul] at e;rw[List.drop_append_of_le_length ω,List.take_append_of_le_length (by rw[List.length_drop];omega),List.getElem_append_left b];exact h.2 i b
 have d:i=l.length:=by simp at hi;omega
 subst d;have g:(xs++cs).drop (l.length*size)=cs:=by rw[<-h.1,List.drop_append_of_le_length (υ _),List.drop_length,List.nil_append]
 have f:(l++[a])[l.length]'hi=a:=by simp
 rw[g,f,List.take_of_length_le ω];exact ha
def RowG.to {Q':List Value->α->Prop} (h:RowG size Q xs l) (hq:∀cs a,Q cs a->Q' cs a):RowG size Q' xs l:=⟨h.1,λi hi=>hq _ _ (h.2 i hi)⟩
variable {base:Nat} {v:Value}
def RowG.sl {w:World} {P:Nat->Prop} {e:Nat} (h:RowG size Q xs l) (ho:w.ownsRow base e size v l xs) (hq:∀g,v.ownBlock=some g->P g):SlR w P size Q v l:=by
 have b:=λg hg=>ho.cells (g:=g) hg;obtain⟨f,a⟩:=ho;rcases a with ⟨rfl,h0⟩|⟨g,cap,cur,rfl,hb,hh,hnc,hcm,hcs,hct⟩
 ·have:l=[]:=List.eq_nil_of_length_eq_zero h0;subst this;exact SlR.nil
 refine⟨some ⟨g,0,none⟩,cap,λi=>(xs.drop (i*size)).take size,rfl,⟨ψ hnc hcm,hnc⟩,λ_=>⟨g,0,rfl,hq g rfl,λi hi=>⟨?_,λj u hu=>?_⟩⟩,λi hi=>h.2 i hi⟩
 ·have d:(i+1)*size<=l.length*size:=Nat.mul_le_mul_right _ hi;rw[Nat.add_mul,Nat.one_mul] at d;rw[List.length_take,List.length_drop];omega
 rw[List.getElem?_take] at hu;split at hu
 ·rw[List.getElem?_drop] at hu;have:=b g rfl _ _ hu
  have e:(⟨g,0,none⟩:Addr).add (i*size+j)=⟨g,0+i*size+j,none⟩:=by
   unfold Addr.add;split
   ·rename_i h;simp at h;simp[h]
   simp
  rw[e] at this;exact this
 cases hu
def sub_nb {rb db:Nat} {w w':World} (h:Stp (rdO rb db) w w') (h1:rb<base) (h2:db<base):Sub (nb base v w) (nb base v w') w w':=λk hk =>
 ⟨⟨hk.1,ρ hk.2.1 h.size,hk.2.2⟩,h.block k hk.2.1 (λe=>by have:=hk.1;rcases e with e|e<;>omega)⟩
def vM {w w':World} (hv:∀g,v.ownBlock=some g->g<w.heap.size) (hb:base<=w):Sub (nw w w') (nb base v w') w' w':=λk hk =>
 ⟨⟨ψ hb hk.1,hk.2,λe=>by have:=hv k e;have:=hk.1;omega⟩,rfl⟩
variable {w2:World} {ob:Obj}
def sub_push {v':Value} (hg:(w2.alloc ob).grownBy w5 v.ownBlock) (hvb:v'.ownBlock=v.ownBlock\/v'.ownBlock=some (w2.alloc ob).heap.size):Sub (nb base v w2) (nb base v' w5) w2 w5:=λk hk=>by
 have h1:k<(w2.alloc ob).heap.size:=by have:=hk.2.1;simp;omega
 refine⟨⟨hk.1,ρ h1 hg.size,λe=>?_⟩,?_⟩
 ·rcases hvb with x|x
  ·exact hk.2.2 (by rw[<-x,e])
  rw[e] at x;injection x with x;omega
 exact (hg.block k h1 (λe=>hk.2.2 e.symm)).trans ((belA (belR w2) ob).block k hk.2.1)
def stp_push {O:Nat->Prop} {w:World} (h:Stp O w w2) (hg:(w2.alloc ob).grownBy w5 v.ownBlock) (hv:∀g,v.ownBlock=some g->w.heap.size<=g):Stp O w w5:=by
 have a:=stpA h ob;exact⟨hg.os.trans a.os,hg.tape.trans a.tape,hg.output.trans a.output,ψ a.size hg.size,λk hk hn=>(hg.block k (ρ hk a.size) (λe=>by have:=hv k e.symm;omega)).trans (a.block k hk hn)⟩
def rd_push {rb db:Nat} {l:List UInt8} {fl:Bool} {d:Int} (h:RdAt rb db l fl d w2) (hg:(w2.alloc ob).grownBy w5 v.ownBlock) (hv:∀g,v.ownBlock=some g->g≠rb/\g≠db):RdAt rb db l fl d w5:=by
 have b:=fu h.r ob;have a:=fu h.d ob;exact⟨(hg.block _ b.lt (λe=>(hv _ e.symm).1 rfl)).trans b,(hg.block _ a.lt (λe=>(hv _ e.symm).2 rfl)).trans a⟩
def yd (R:World->(Nat->Prop)->List Value->α->Prop) (size:Nat) (l:List α) (rb db:Nat) (tl:List UInt8) (d:Int) (w:World) (e:Ending) (w':World):Prop:=
 ∃v,e=.returned v/\SlR w' (nw w w') size (R w' (nw w w')) v l/\RdAt rb db tl false d w'/\Stp (rdO rb db) w w'
def cW (R:World->(Nat->Prop)->List Value->α->Prop) (a:α) (rb db:Nat) (tl:List UInt8) (d:Int) (w:World) (e:Ending) (w':World):Prop:=
 ∃cs,e=.returned (.agg cs.toArray)/\R w' (nw w w') cs a/\RdAt rb db tl false d w'/\Stp (rdO rb db) w w'
def MLoop (R:World->(Nat->Prop)->List Value->α->Prop) (size e:Nat) (f:Unit->α->List UInt8×Unit) (l:List α) (rb db:Nat) (tl:List UInt8) (d:Int) (j:Nat) (v:Value) (w wr:World):Prop:=
 ∃xs,wr.ownsRow w e size v j xs/\RowG size (R wr (nb w v wr)) xs (l.take j)/\RdAt rb db ((wAll f () (l.drop j)).1++tl) false d wr/\Stp (rdO rb db) w wr
def wAll_u {f:Unit->α->List UInt8×Unit} {j:Nat} (h:j<l):(wAll f () (l.drop j)).1=(f () l[j]).1++(wAll f () (l.drop (j+1))).1:=by rw[bk h,wAll]
def wAll_ge {f:Unit->α->List UInt8×Unit} (h:∀a∈l,0<(f () a).1.length):l<=(wAll f () l).1.length:=by
 induction l with
 | nil=>simp
 | cons x l ih =>
  rw[wAll];have d:=ih (λa ha=>h a (List.mem_cons_of_mem _ ha));have b:=h x List.mem_cons_self;simp only[δ,μ];have e:(f () x).2=():=rfl;rw[e];omega
def qv {f:Unit->α->List UInt8×Unit} (j:Nat):(wAll f () (l.drop j)).1.length<=(wAll f () l).1.length:=by
 induction j generalizing l with
 | zero=>exact υ _
 | succ j ih =>
  cases l with
  | nil=>simp
  | cons x l =>
   rw[List.drop_succ_cons];refine ψ (ih (l:=l)) ?_;rw[wAll,μ];exact Nat.le_add_left _ _
end
mutual
def szTy (d:Int):Ty->Nat
 | .mk _ s a=>if d<0 then 1000000 else 1+s.size+iK (d-1) a
def iK (d:Int):List Ty->Nat
 | []=>0
 | x::xs=>szTy d x+iK d xs
end
mutual
def szEx (d:Int):Ex->Nat
 | .mk _ _ _ s a=>if d<0 then 1000000 else 1+s.size+fc (d-1) a
def fc (d:Int):List Ex->Nat
 | []=>0
 | x::xs=>szEx d x+fc d xs
end
variable {d:Int} {j:Nat}
def szTys_at {l:List Ty} (h:j<l):iK d (l.drop j)=szTy d l[j]+iK d (l.drop (j+1)):=by rw[bk h,iK]
def sG {l:List Ex} (h:j<l):fc d (l.drop j)=szEx d l[j]+fc d (l.drop (j+1)):=by rw[bk h,fc]
def iC (n:Nat) (w:World) (e:Ending) (w':World):Prop:=e=.returned (.int .i64 (n:Int))/\Below w w w'
set_option maxRecDepth 1000000 in
def zfSize {p:Prop} (h:p:=by
 induction k with
  | zero=>intro cs t d w H;cases t;simp at H
  | succ k ih =>
   intro cs t d w H r a5 a4 B
   first
    | guard_hyp kk0:True
      obtain⟨G,s,a,A,cap,rfl,rfl,_,hs,L⟩:=ap r
    | obtain⟨op,x,m,s,a,A,cap,rfl,rfl,_,hs,L⟩:=dJ r
   have lm:=L.le9
   first
    | guard_hyp kk0:True
      have Y:Hid (∀(i:Nat) (h:i<a.length) (cs:List Value) (d:Int) (w W:World),TyR w (lo w) cs a[i]->Below w w W->-1<=d->d<=100->szTy d a[i]<=4000000000000->Calls prog 59 #[.agg cs.toArray,d] W (iC (szTy d a[i]) W)):=λi h cs d w W r hW h1 h2 h3 =>
       ih cs a[i] d W (by have:=List.sizeOf_lt_of_mem (ν h);simp at H;omega) (r.to (ae hW)) h1 h2 h3
    | have Y:Hid (∀(i:Nat) (h:i<a.length) (cs:List Value) (d:Int) (w W:World),ExR w (lo w) cs a[i]->Below w w W->-1<=d->d<=100->szEx d a[i]<=4000000000000->Calls prog 60 #[.agg cs.toArray,d] W (iC (szEx d a[i]) W)):=λi h cs d w W r hW h1 h2 h3 =>
       ih cs a[i] d W (by have:=List.sizeOf_lt_of_mem (ν h);simp at H;omega) (r.to (ae hW)) h1 h2 h3
   have HA:=η L;have a3:s.size<=9223372036854775807:=hs;by_cases f:d<0
   ·have u0:decide (d<0)=true:=decide_eq_true f
    first
     | guard_hyp kk0:True
       have u:Hid (szTy d (.mk G s a)=1000000):=by show _=_;rw[szTy,if_pos f]
     | have u:Hid (szEx d (.mk op x m s a)=1000000):=by show _=_;rw[szEx,if_pos f]
    clear ih H r L B
    first
     | guard_hyp kk0:True
       go_enter func59,ntmps59
     | go_enter func60,ntmps60
    go_wp2_with fail;go_ret;rw[u.o];exact⟨rfl,ζ1⟩
   have u0:decide (d<0)=false:=decide_eq_false f
   first
    | guard_hyp kk0:True
      have u:Hid (szTy d (.mk G s a)=1+s.size+iK (d-1) (a.drop 0)):=by show _=_;rw[szTy,if_neg f];rfl
      obtain⟨e,p⟩:=γ (szTy d (.mk G s a))
    | have u:Hid (szEx d (.mk op x m s a)=1+s.size+fc (d-1) (a.drop 0)):=by show _=_;rw[szEx,if_neg f];rfl
      obtain⟨e,p⟩:=γ (szEx d (.mk op x m s a))
   rw[<-p] at B u;rw[<-p];have ah:=η B;have a2:1+s.size<=4000000000000:=by have:=u.o;omega
   have d1:wrap64 (d-1)=d-1:=by unfold wrap64;omega
   have T:=η (show -1<=d-1/\d-1<=100 by omega)
   first
    | guard_hyp kk0:True
      obtain⟨O,l⟩:=γ (w.alloc (.cells #[G,s,.slice A a cap] 40))
    | obtain⟨O,l⟩:=γ (w.alloc (.cells #[op,x,m,s,.slice A a cap] 43))
   have B1:Hid (Below w w O):=by rw[l];exact ζ1
   first
    | guard_hyp kk0:True
      have F:Hid (Hs O w 40 #[G,s,.slice A a cap]):=by rw[l];exact Hs.new _ _ _
    | have F:Hid (Hs O w 43 #[op,x,m,s,.slice A a cap]):=by rw[l];exact Hs.new _ _ _
   have X:=η l;clear ih H r L B p l
   first
    | guard_hyp kk0:True
      go_enter func59,ntmps59
    | go_enter func60,ntmps60
   go_upto_region 1 with fail;rw[<-X.o];clear X
   first
    | guard_hyp kk0:True
      have b1:=F.c 1
    | have b1:=F.c 3
   go_wp2_with fail;clear b1
   first
    | guard_hyp kk0:True
      go_loopw [6,5] (λi v wr=>∃(j b:Nat),j<=a/\i=.int .i64 j/\v=.int .i64 b/\Hid (e=b+iK (d-1) (a.drop j))/\Hid (Below w w wr)/\Hid (Hs wr w 40 #[G,s,.slice A a cap])) (λi _ _=>a.length-(intOf i).toNat)
    | go_loopw [6,5] (λi v wr=>∃(j b:Nat),j<=a/\i=.int .i64 j/\v=.int .i64 b/\Hid (e=b+fc (d-1) (a.drop j))/\Hid (Below w w wr)/\Hid (Hs wr w 43 #[op,x,m,s,.slice A a cap])) (λi _ _=>a.length-(intOf i).toNat)
   case atStart=>exact⟨0,1+s.size,ω,rfl,by first|rfl|(simp;done)|(simp;omega),u,B1,F⟩
   case round =>
    obtain⟨j,b,hj,rfl,rfl,R,U,Z⟩:=hrel
    first
     | guard_hyp kk0:True
       have b2:=Z.c 2
     | have b2:=Z.c 4
    by_cases hlt:j<a
    ·have u1:=zT j a
     first
      | guard_hyp kk0:True
        have M:=η (szTys_at (d:=d-1) hlt);obtain⟨g,aa,k1,s1,a1,C1,af,rfl,hg,e1,p0,p1,p2,I⟩:=cS (TysR.to HA (ae U)) hlt
      | have M:=η (sG (d:=d-1) hlt)
        obtain⟨g,aa,o1,x1,m1,s1,a1,C1,af,rfl,hg,e1,p0,p1,p2,p3,p4,I⟩:=aQ (ExsR.to HA (ae U)) hlt
     have HR:=η I;have j0:(0:Int)<=(j:Int):=ω;have j1:(j:Int)<(a.length:Int):=ω
     first
      | guard_hyp kk0:True
        have D:e=b+(szTy (d-1) a[j]+iK (d-1) (a.drop (j+1))):=by rw[R.o,M.o]
        obtain⟨N,y⟩:=γ (szTy (d-1) a[j])
      | have D:e=b+(szEx (d-1) a[j]+fc (d-1) (a.drop (j+1))):=by rw[R.o,M.o]
        obtain⟨N,y⟩:=γ (szEx (d-1) a[j])
     rw[<-y] at D;obtain⟨aj,E⟩:=zd2 D y;have a6:b+N<=4000000000000:=by have:=ah.o;omega
     have V:Hid (N<=4000000000000):=by show _<=_;omega
     clear I e1 hg D y
     first
      | guard_hyp kk0:True
        go_wp2_with (go_at_call 59;refine (Y j hlt _ (d-1) _ _ HR (belR _) T.1 T.2 (by rw[<-E.o];exact V)).mono ?_;rw[<-E.o];rintro e2 w2 ⟨rfl,J⟩)
      | go_wp2_with (go_at_call 60;refine (Y j hlt _ (d-1) _ _ HR (belR _) T.1 T.2 (by rw[<-E.o];exact V)).mono ?_;rw[<-E.o];rintro e2 w2 ⟨rfl,J⟩)
     refine⟨⟨j+1,b+N,ω,by go_num,by first|rfl|(simp;done)|go_num,?_,bel U J,aH Z J⟩,by simp[intOf];omega⟩;show _=_;rw[aj.o];omega
    have u1:=zF j a
    first
     | guard_hyp kk0:True
       have HE:Hid (b=e):=by show _=_;rw[R.o,ε ω,iK];rfl
     | have HE:Hid (b=e):=by show _=_;rw[R.o,ε ω,fc];rfl
    go_wp2_with fail;go_ret;rw[HE.o];exact⟨rfl,U⟩) :p:=h
def styp_any (k:Nat):∀(cs:List Value) (t:Ty) (d:Int) (w:World),SizeOf.sizeOf t<=k->TyR w (lo w) cs t->-1<=d->d<=100->szTy d t<=4000000000000->Calls prog 59 #[.agg cs.toArray,d] w (iC (szTy d t) w):=by
 have kk0:=trivial;exact zfSize
variable {cs:List Value}
def od {t:Ty} {w:World} (hr:TyR w (lo w) cs t) (h1:-1<=d) (h2:d<=100) (h3:szTy d t<=4000000000000):Calls prog 59 #[.agg cs.toArray,d] w (iC (szTy d t) w):=styp_any _ cs t d w (υ _) hr h1 h2 h3
def sexpr_any (k:Nat):∀(cs:List Value) (t:Ex) (d:Int) (w:World),SizeOf.sizeOf t<=k->ExR w (lo w) cs t->-1<=d->d<=100->szEx d t<=4000000000000->Calls prog 60 #[.agg cs.toArray,d] w (iC (szEx d t) w):=by
 have kk1:=trivial;exact zfSize
def pb {t:Ex} {w:World} (hr:ExR w (lo w) cs t) (h1:-1<=d) (h2:d<=100) (h3:szEx d t<=4000000000000):Calls prog 60 #[.agg cs.toArray,d] w (iC (szEx d t) w):=sexpr_any _ cs t d w (υ _) hr h1 h2 h3
def szFs:List Fld->Nat
 | []=>0
 | f::fs=>f.name.size+szTy 20 f.type+szFs fs
def bY (l:List Fld):Nat:=l.length+szFs l
def szFs_at {l:List Fld} (h:j<l):szFs (l.drop j)=l[j].name.size+szTy 20 l[j].type+szFs (l.drop (j+1)):=by rw[bk h,szFs]
def bf {x:Int} (h1:0<=x) (h2:x<=9223372036854775807):IntKind.i64.wrap x=x:=by
 rw[IntKind.wrap_i64];omega
def iQ {v:Value} {l:List Fld} {w:World} (hl:FldsR w (lo w) v l) (hsz:bY l<=4000000000000):Calls prog 58 #[v] w (iC (bY l) w):=by
 obtain⟨A,cap,rfl⟩:=hl.form;have lm:=hl.le9;have O:=η hl;obtain⟨d,b⟩:=γ (bY l)
 rw[<-b] at hsz;rw[<-b];have r:=η hsz;have F:Hid (d=l.length+szFs (l.drop 0)):=b;have V:l.length<=4000000000000:=by have:=F.o;omega
 clear hl hsz b;go_enter func58,ntmps58;go_wp2_with fail;go_loopw [4,3] (λi v wr=>∃(j a:Nat),j<=l/\i=.int .i64 j/\v=.int .i64 a/\Hid (d=a+szFs (l.drop j))/\Hid (Below w w wr)) (λi _ _=>l.length-(intOf i).toNat)
 case atStart=>exact⟨0,l,ω,rfl,rfl,F,belR _⟩
 case round =>
  obtain⟨j,a,hj,rfl,rfl,H,t⟩:=hrel;by_cases hlt:j<l
  ·have J:=zT j l;have I:=η (szFs_at hlt);obtain⟨g,T,k1,s1,a1,C1,d1,rfl,L,M,B,y,x,u,D,h⟩:=dw (FldsR.to O (ae t)) hlt;have N:=η h;have j0:(0:Int)<=(j:Int):=ω;have j1:(j:Int)<(l.length:Int):=ω;obtain⟨e,f⟩:=γ (szTy 20 l[j].type)
   have k:d=a+(l[j].name.size+e+szFs (l.drop (j+1))):=by rw[H.o,I.o,f]
   obtain⟨G,q⟩:=zd2 k f;have U:l[j].name.size<=4000000000000:=by have:=r.o;omega
   have W:a+l[j].name.size+e<=4000000000000:=by have:=r.o;omega
   have E:Hid (e<=4000000000000):=by show _<=_;omega
   have x0:=belW B;have x1:=belW y;have Z:=belW x;have Y:=belW u;have v1:IntKind.i64.wrap ((a:Int)+(l[j].name.size:Int))=(a:Int)+(l[j].name.size:Int):=bf ω ω;have v2:IntKind.i64.wrap ((a:Int)+(l[j].name.size:Int)+(e:Int))=(a:Int)+(l[j].name.size:Int)+(e:Int):=bf ω ω;clear h M L k f D B y x u;go_upto_region 5 with fail
   go_region_held3 (λX=>Below wr wr X) (first|exact ad _|exact bel ι p)
    (first|(go_at_call 59;refine (od (N.to (ae (ad _))) ω ω (by rw[<-q.o];exact E)).mono ?_;rw[<-q.o];rintro e2 w2 ⟨rfl,p⟩))
   go_wp2_with fail;refine⟨⟨j+1,a+l[j].name.size+e,ω,by go_num,by first|rfl|(simp;done)|go_num,?_,bel t (bel (ad _) p)⟩,by simp[intOf];omega⟩;show _=_;rw[G.o];omega
  have J:=zF j l;have R:Hid (a=d):=by show _=_;rw[H.o,ε ω,szFs];rfl
  go_wp2_with fail;go_ret;rw[R.o];exact⟨rfl,t⟩
mutual
def szSt (d:Int):St->Nat
 | .mk _ _ _ s u xs h e a=>1+s.size+u.size+(if d-1<0 then 1000000 else eZ (d-1) h)+(if d-1<0 then 1000000 else eZ (d-1) e)+(if d-1<0 then 1000000 else eZ (d-1) a)+fc d xs
def eZ (d:Int):List St->Nat
 | []=>0
 | x::xs=>szSt d x+eZ d xs
end
def ek (d:Int) (l:List St):Nat:=if d<0 then 1000000 else eZ d l
def szStl_at {l:List St} (h:j<l):eZ d (l.drop j)=szSt d l[j]+eZ d (l.drop (j+1)):=by rw[bk h,eZ]
def szSt_mk {o n m:Int} {s u:ByteArray} {xs:List Ex} {h e a:List St}:szSt d (.mk o n m s u xs h e a)=1+s.size+u.size+ek (d-1) h+ek (d-1) e+ek (d-1) a+fc d xs:=by rw[szSt];rfl
def tB (k:Nat):∀(v:Value) (l:List St) (d:Int) (w:World),SizeOf.sizeOf l<=k->StsR w (lo w) v l->-1<=d->d<=100->ek d l<=4000000000000->Calls prog 61 #[v,d] w (iC (ek d l) w):=by
 induction k with
 | zero=>intro v l d w hn;cases l<;>simp at hn
 | succ k ih =>
  intro v l d w hn hl dq dp V;obtain⟨A,cap,rfl⟩:=hl.form;have lm:=hl.le9
  have IH:Hid (∀(i:Nat) (h:i<l.length) (o n m:Int) (s u:ByteArray) (xs:List Ex) (a b c:List St),l[i]=.mk o n m s u xs a b c->∀(q:List St),q=a\/q=b\/q=c->∀(v:Value) (d:Int) (w W:World),StsR w (lo w) v q->Below w w W->-1<=d->d<=100->ek d q<=4000000000000->Calls prog 61 #[v,d] W (iC (ek d q) W)):=λi h o n m s u xs a b c e q hq v d w W hr hW h1 h2 h3 =>
   ih v q d W (by
    have h4:=List.sizeOf_lt_of_mem (ν h);rw[e] at h4;simp at h4;rcases hq with rfl|rfl|rfl<;>omega) (StsR.to hr (ae hW)) h1 h2 h3
  have HL:=η hl;by_cases Y:d<0
  ·have u0:decide (d<0)=true:=decide_eq_true Y;have HV:Hid (ek d l=1000000):=by show _=_;unfold ek;rw[if_pos Y]
   clear ih hn hl V;go_enter func61,ntmps61;go_wp2_with fail;go_ret;rw[HV.o];exact⟨rfl,belR _⟩
  have u0:decide (d<0)=false:=decide_eq_false Y;have HV:Hid (ek d l=0+eZ d (l.drop 0)):=by show _=_;unfold ek;rw[if_neg Y];simp
  obtain⟨B,R⟩:=γ (ek d l)
  rw[<-R] at V HV;rw[<-R];have bb:=η V;have d1:IntKind.i64.wrap (d-1)=d-1:=by rw[IntKind.wrap_i64];omega
  have M:=η (show -1<=d-1/\d-1<=100/\-1<=d/\d<=100 by omega);clear ih hn hl V R;go_enter func61,ntmps61;go_wp2_with fail;go_loopw [6,5] (λi v wr=>∃(j f:Nat),j<=l/\i=.int .i64 j/\v=.int .i64 f/\Hid (B=f+eZ d (l.drop j))/\Hid (Below w w wr)) (λi _ _=>l.length-(intOf i).toNat)
  case atStart=>exact⟨0,0,ω,rfl,rfl,HV,belR _⟩
  case round =>
   obtain⟨j,f,hj,rfl,rfl,HQ,HB⟩:=hrel;by_cases hlt:j<l
   ·have bp:=zT j l;have cm:=η (szStl_at (d:=d) hlt);obtain⟨g1,c9,ab,x1,m1,g,t,r,O,T,U,D0,d0,D1,L,D2,d2,D3,d3,rfl,bv,e1,p0,p1,p2,p3,p4,p5,p6,p7,p8,bx,bs,br,ai,a0,a4,a5⟩:=pD (StsR.to HL (ae HB)) hlt;have lY:=ai.le9;obtain⟨HY,HT,ci,cn,ap⟩:=zd5 ai a0 a4 a5 e1;obtain⟨y,ac⟩:=γ (ek (d-1) O)
    obtain⟨F,af⟩:=γ (ek (d-1) T)
    obtain⟨N,ag⟩:=γ (ek (d-1) U)
    have I:B=f+(1+g.size+t.size+y+F+N+fc d (r.drop 0)+eZ d (l.drop (j+1))):=by rw[HQ.o,cm.o,e1,szSt_mk,ac,af,ag];rfl
    have cg:=η I;have hb:f+1+g.size+t.size+y+F+N<=4000000000000:=by have:=bb.o;omega
    obtain⟨a6,a7,a8⟩:=zd3 ac af ag;have j0:(0:Int)<=(j:Int):=ω;have j1:(j:Int)<(l.length:Int):=ω;obtain⟨b2,al⟩:=γ wr
    have bu:=η lY;obtain⟨p,Z,B5,E⟩:=κ wr #[ab,x1,m1,g,t,.slice D0 r d0,.slice D1 O L,.slice D2 T d2,.slice D3 U d3] 120
    obtain⟨cl,ba,bd⟩:=zd3 (bel HB B5) Z al;clear al;have S5:=ae B5;have IT:Hid (∀W,Below p p W->Calls prog 61 #[.slice D1 O L,.int .i64 (d-1)] W (λe w'=>e=.returned (.int .i64 ((y:Nat):Int))/\Below W W w')):=λW hW=>by rw[a6.o];exact IH j hlt _ _ _ _ _ _ _ _ _ ap O (.inl rfl) _ _ p W (StsR.to HT S5) hW M.1 M.2.1 (by rw[<-a6.o];omega)
    have IE:Hid (∀W,Below p p W->Calls prog 61 #[.slice D2 T d2,.int .i64 (d-1)] W (λe w'=>e=.returned (.int .i64 ((F:Nat):Int))/\Below W W w')):=λW hW=>by rw[a7.o];exact IH j hlt _ _ _ _ _ _ _ _ _ ap T (.inr (.inl rfl)) _ _ p W (StsR.to ci S5) hW M.1 M.2.1 (by rw[<-a7.o];omega)
    have IA:Hid (∀W,Below p p W->Calls prog 61 #[.slice D3 U d3,.int .i64 (d-1)] W (λe w'=>e=.returned (.int .i64 ((N:Nat):Int))/\Below W W w')):=λW hW=>by rw[a8.o];exact IH j hlt _ _ _ _ _ _ _ _ _ ap U (.inr (.inr rfl)) _ _ p W (StsR.to cn S5) hW M.1 M.2.1 (by rw[<-a8.o];omega)
    have Y5:=η (ExsR.to HY S5);clear e1 ai a0 a4 a5 bx bs br bv I ac af ag Z B5 S5;go_upto_region 8 with fail;rw[<-ba.o];clear ba p0 p1 p2 p3 p4 p5 p6 p7 p8;have b3:=belW (E.c 3);have b4:=belW (E.c 4);have b6:=belW (E.c 6);have b7:=belW (E.c 7);have b8:=belW (E.c 8);have v1:IntKind.i64.wrap ((f:Int)+1)=(f:Int)+1:=bf ω ω;have v2:IntKind.i64.wrap ((f:Int)+1+(g.size:Int))=(f:Int)+1+(g.size:Int):=bf ω ω;have v3:IntKind.i64.wrap ((f:Int)+1+(g.size:Int)+(t.size:Int))=(f:Int)+1+(g.size:Int)+(t.size:Int):=bf ω ω;have v4:IntKind.i64.wrap ((f:Int)+1+(g.size:Int)+(t.size:Int)+(y:Int))=(f:Int)+1+(g.size:Int)+(t.size:Int)+(y:Int):=bf ω ω;have v5:IntKind.i64.wrap ((f:Int)+1+(g.size:Int)+(t.size:Int)+(y:Int)+(F:Int))=(f:Int)+1+(g.size:Int)+(t.size:Int)+(y:Int)+(F:Int):=bf ω ω;have v6:IntKind.i64.wrap ((f:Int)+1+(g.size:Int)+(t.size:Int)+(y:Int)+(F:Int)+(N:Int))=(f:Int)+1+(g.size:Int)+(t.size:Int)+(y:Int)+(F:Int)+(N:Int):=bf ω ω;refine tkB (λX=>Below p p X) (ad _) (λhHeld=>?_);refine θ ?_
    refine θ ?_;refine tkE 14 (λK hK=>?_);go_simp;refine (IT _ (ad _)).mono ?_;rintro e2 w2 ⟨rfl,D⟩;refine tkR hK ?_ (λhHeld=>?_)
    ·exact bel (ad _) D
    clear hK K;refine tkQ 15 ?_;refine tkE 20 (λK hK=>?_);go_simp;refine (IE _ (bel (ad _) D)).mono ?_;rintro e3 w3 ⟨rfl,J⟩;refine tkR hK ?_ (λhHeld=>?_)
    ·exact bel (bel (ad _) D) J
    clear hK K;refine tkQ 21 ?_;refine tkE 26 (λK hK=>?_);go_simp;refine (IA _ (bel (bel (ad _) D) J)).mono ?_;rintro e4 w4 ⟨rfl,ak⟩;refine tkR hK ?_ (λhHeld=>?_)
    ·exact bel (bel (bel (ad _) D) J) ak
    clear hK K;refine θ ?_;refine tkD ?_;rw[<-bd.o];have B6:=η (bel (bel (bel (ad _) D) J) ak);obtain⟨W6,rfl⟩:=γ w4
    have co:Hid (Hs W6 b2 120 #[ab,x1,m1,g,t,.slice D0 r d0,.slice D1 O L,.slice D2 T d2,.slice D3 U d3]):=by rw[bd.o];exact aH E B6
    obtain⟨ck,Y6⟩:=zd2 (bel cl B6) (ExsR.to Y5 (ae B6));obtain⟨H,G⟩:=γ (f+1+g.size+t.size+y+F+N)
    have ea:(f:Int)+1+(g.size:Int)+(t.size:Int)+(y:Int)+(F:Int)+(N:Int)=((H:Nat):Int):=by rw[G];push_cast;rfl
    have cf:Hid (B=H+(fc d (r.drop 0)+eZ d (l.drop (j+1)))):=by show _=_;rw[cg.o,G];omega
    have dr:H<=4000000000000:=ω;rw[ea];clear v1 v2 v3 v4 v5 v6 ea G b3 b4 b6 b7 b8 IT IE IA hb D J ak B6;have lY:r.length<=9223372036854775807:=bu.o;go_wp2_with fail;go_loopw [8,5] (λi v wr2=>∃(q x:Nat),q<=r.length/\i=.int .i64 q/\v=.int .i64 x/\Hid (B=x+(fc d (r.drop q)+eZ d (l.drop (j+1))))/\Hid (Below W6 W6 wr2)) (λi _ _=>r.length-(intOf i).toNat)
    case atStart=>exact⟨0,H,ω,rfl,rfl,cf,belR _⟩
    case round =>
     obtain⟨q,x,hq,rfl,rfl,bc,aa⟩:=hrel;have cc:=η (aH co aa);have c5:=cc.c 5;by_cases a3:q<r.length
     ·have u2:=zT q r;have bm:=η (sG (d:=d) a3);obtain⟨g2,c8,o2,x2,m2,s2,a2,C2,dt,rfl,-,b1,r0,r1,r2,r3,r4,a1⟩:=aQ (ExsR.to Y6 (ae aa)) a3;have cd:=η a1;have dn:(0:Int)<=(q:Int):=ω;have dm:(q:Int)<(r.length:Int):=ω;obtain⟨z1,ah⟩:=γ (szEx d r[q])
      have I:B=x+(z1+fc d (r.drop (q+1))+eZ d (l.drop (j+1))):=by rw[bc.o,bm.o,ah]
      obtain⟨ce,a9⟩:=zd2 I ah;have ds:x+z1<=4000000000000:=by have:=bb.o;omega
      have cb:Hid (z1<=4000000000000):=by show _<=_;omega
      clear a1 b1 I ah;go_wp2_with (go_at_call 60;refine (pb (cd.to (ae (belR _))) (by have:=M.o;omega) (by have:=M.o;omega) (by rw[<-a9.o];exact cb)).mono ?_;rw[<-a9.o];rintro e8 w8 ⟨rfl,bw⟩);refine⟨⟨q+1,x+z1,ω,by go_num,by first|rfl|(simp;done)|go_num,?_,bel aa bw⟩,by simp[intOf];omega⟩;show _=_;rw[ce.o];omega
     have u2:=zF q r;have cj:Hid (B=x+eZ d (l.drop (j+1))):=by show _=_;rw[bc.o,ε ω,fc];omega
     go_wp2_with fail;exact⟨⟨j+1,x,ω,by go_num,rfl,cj,bel ck aa⟩,by simp[intOf];omega⟩
   have bp:=zF j l;have HE:Hid (f=B):=by show _=_;rw[HQ.o,ε ω,eZ];rfl
   go_wp2_with fail;go_ret;rw[HE.o];exact⟨rfl,HB⟩
end Go.Proofs.YtjohpidklbhmcaaGreatDoor
