/- Core -/
import Derived.Test.YtjohpidklbhmcaaGreatDoorZ36
import Derived.Test.YtjohpidklbhmcaaGreatDoorZ2
namespace Go.Proofs.YtjohpidklbhmcaaGreatDoor
set_option linter.all false
open Go.Proofs.Tryz
open Go.RowKit Go.Maps Go.WideMaps Go.ChangeMaps
section
variable {p:Pg} {B b:Nat} {d:DB} {vF vD:Value} {w w':World} {st:Dg}
def DgR.numbered {n:Int} (h:DgR p B b d vF vD w st) (hb:b<w) (hp:posI st.funs n=none) {vv:Value} {w4 w5:World} {ob:Obj}
 (h4:MapIs prog 3 (Lit.int .i64) w4 d.mN (st.funs+1) (upd (posV st.funs) n (some (.int .i64 ((st.funs.length:Nat):Int))))) (g4:w.grownBy w4 (some d.mN))
 (hown:w5.ownsRow B 3 1 vv (st.funs+1) (oI st.funs++[.int .i64 n])) (g5:(w4.alloc ob).grownBy w5 vF.ownBlock) (hvb:vv.ownBlock=vF.ownBlock\/vv.ownBlock=some (w4.alloc ob).heap.size) :
 DgR p B b d vv vD (w5.setCell d.gF vv) ⟨st.funs++[n],st.names⟩/\Stp (oF d vF) w (w5.setCell d.gF vv):=by
 have z:Stp (oF d vF) w w4:=⟨g4.os,g4.tape,g4.output,g4.size,λk hk hn=>g4.block k hk (λe=>hn (.inl (by injection e)))⟩
 have f:Stp (oF d vF) w (w4.alloc ob):=stpA z ob;have y:Stp (oF d vF) w w5:=⟨g5.os.trans f.os,g5.tape.trans f.tape,g5.output.trans f.output,ψ f.size g5.size,λk hk hn=>(g5.block k (ρ hk f.size) (λe=>hn (.inr (.inr e.symm)))).trans (f.block k hk hn)⟩
 have a:Stp (oF d vF) w (w5.setCell d.gF vv):=y.trans ⟨rfl,rfl,rfl,by simp[World.setCell],λk _ hk=>Below.heap_setCell _ _ _ _ (λe=>hk (.inr (.inl e)))⟩;have r:d.gF≠d.mN:=eu h.hF h.iN;have q:vF.ownBlock≠some d.gF:=fK h.rF h.hF π;have E:vF.ownBlock≠some d.mN:=gp h.rF h.iN;have I:w<=(w4.alloc ob).heap.size:=f.size;have J:w4+1=(w4.alloc ob).heap.size:=by simp
 have j:∀k,k<w.heap.size->vF.ownBlock≠some k->vv.ownBlock≠some k:=λk hk hv e=>by
  rcases hvb with x|x
  ·exact hv (by rw[<-x,e])
  rw[e] at x;injection x with x;omega
 have v:Hs w5 d.gF 104 #[vF]:=by
  have H:Hs w4 d.gF 104 #[vF]:=(g4.block _ h.hF.lt (λe=>r (by injection e))).trans h.hF;have l:Hs (w4.alloc ob) d.gF 104 #[vF]:=fu H ob;exact (g5.block _ l.lt (λe=>q e.symm)).trans l
 have t:MapIs prog 3 (Lit.int .i64) w5 d.mN (st.funs+1) (upd (posV st.funs) n (some (.int .i64 ((st.funs.length:Nat):Int)))):=by
  have l:=h4.alloc ob;exact l.same (g5.block _ l.lt (λe=>E e.symm))
 have hlt:∀g,vD.ownBlock=some g->g<w.heap.size:=λg hg=>by
  obtain⟨_,c,L,G⟩:=eB h.rD _ hg;exact (Array.getElem?_eq_some_iff.1 G).1
 have i:¬(oF d vF) d.gN/\¬(oF d vF) d.gS/\¬(oF d vF) d.gT/\¬(oF d vF) d.gD/\¬(oF d vF) d.mS/\¬(oF d vF) d.mT:=by
  refine⟨?_,?_,?_,?_,?_,?_⟩
  ·rintro (x|x|x)
   ·exact eu h.hN h.iN x
   ·exact absurd (nI h.hN (x▸h.hF)) π
   exact fK h.rF h.hN π x
  ·rintro (x|x|x)
   ·exact eu h.hS h.iN x
   ·exact absurd (nI h.hS (x▸h.hF)) π
   exact fK h.rF h.hS π x
  ·rintro (x|x|x)
   ·exact eu h.hT h.iN x
   ·exact absurd (nI h.hT (x▸h.hF)) π
   exact fK h.rF h.hT π x
  ·rintro (x|x|x)
   ·exact eu h.hD h.iN x
   ·exact h.ok.dist.1 x.symm
   exact fK h.rF h.hD π x
  ·rintro (x|x|x)
   ·exact h.ok.dist.2.1 x.symm
   ·exact eu h.hF h.iS x.symm
   exact gp h.rF h.iS x
  rintro (x|x|x)
  ·exact h.ok.dist.2.2.1 x.symm
  ·exact eu h.hF h.iT x.symm
  exact gp h.rF h.iT x
 have D:∀g,vD.ownBlock=some g->¬(oF d vF) g:=λg hg=>by
  rintro (x|x|x)
  ·exact gp h.rD h.iN (x▸hg)
  ·exact fK h.rD h.hF π (x▸hg)
  exact h.sep g x hg
 have A:(w5.setCell d.gF vv).ownsRow B 3 1 vv (st.funs+1) (oI st.funs++[.int .i64 n]):=aI hown (cu _ _ _) (λk hk e=>j d.gF h.hF.lt q (by rw[hk,show k=d.gF from e]));have F:Hs (w5.setCell d.gF vv) d.gF 104 #[vv]:=(heap_setCell_same _ _ _ _ _ _ v).trans rfl;have u:MapIs prog 3 (Lit.int .i64) (w5.setCell d.gF vv) d.mN (st.funs+1) (upd (posV st.funs) n (some (.int .i64 ((st.funs.length:Nat):Int)))):=t.setCell (λe=>r e.symm) _;rw[wy hp] at u;exact⟨⟨h.ok,bp h.hN a i.1,bp h.hS a i.2.1,bp h.hT a i.2.2.1,F,bp h.hD a i.2.2.2.1,(by simpa using u),h.iS.same (a.block _ h.iS.lt i.2.2.2.2.1),h.iT.same (a.block _ h.iT.lt i.2.2.2.2.2),(by simpa[oI] using A),aI h.rD a D,j b hb h.bF,h.bD,(λg hg e=>j g (hlt g e) (λx=>h.sep g x e) hg),ψ h.szB a.size⟩,a⟩
def DgR.named {s:List UInt8} (h:DgR p B b d vF vD w st) (hb:b<w) {vv:Value} {w4 w5:World} {ob:Obj}
 (h4:MapIs prog 9 Lit.string w4 d.mS (st.names+1) (upd (iM st.names) s (some (true:Vl)))) (g4:w.grownBy w4 (some d.mS))
 (hown:w5.ownsRow B 3 1 vv (st.names+1) (ints (oT p st.names)++[.int .i64 (((idxP p.tyNames s).getD 0:Nat):Int)])) (g5:(w4.alloc ob).grownBy w5 vD.ownBlock) (hvb:vv.ownBlock=vD.ownBlock\/vv.ownBlock=some (w4.alloc ob).heap.size) :
 DgR p B b d vF vv (w5.setCell d.gD vv) ⟨st.funs,st.names++[s]⟩/\Stp (oD d vD) w (w5.setCell d.gD vv):=by
 have z:Stp (oD d vD) w w4:=⟨g4.os,g4.tape,g4.output,g4.size,λk hk hn=>g4.block k hk (λe=>hn (.inl (by injection e)))⟩
 have f:Stp (oD d vD) w (w4.alloc ob):=stpA z ob;have y:Stp (oD d vD) w w5:=⟨g5.os.trans f.os,g5.tape.trans f.tape,g5.output.trans f.output,ψ f.size g5.size,λk hk hn=>(g5.block k (ρ hk f.size) (λe=>hn (.inr (.inr e.symm)))).trans (f.block k hk hn)⟩
 have a:Stp (oD d vD) w (w5.setCell d.gD vv):=y.trans ⟨rfl,rfl,rfl,by simp[World.setCell],λk _ hk=>Below.heap_setCell _ _ _ _ (λe=>hk (.inr (.inl e)))⟩;have r:d.gD≠d.mS:=eu h.hD h.iS;have q:vD.ownBlock≠some d.gD:=fK h.rD h.hD π;have E:vD.ownBlock≠some d.mS:=gp h.rD h.iS;have I:w<=(w4.alloc ob).heap.size:=f.size;have J:w4+1=(w4.alloc ob).heap.size:=by simp
 have j:∀k,k<w.heap.size->vD.ownBlock≠some k->vv.ownBlock≠some k:=λk hk hv e=>by
  rcases hvb with x|x
  ·exact hv (by rw[<-x,e])
  rw[e] at x;injection x with x;omega
 have v:Hs w5 d.gD 104 #[vD]:=by
  have H:Hs w4 d.gD 104 #[vD]:=(g4.block _ h.hD.lt (λe=>r (by injection e))).trans h.hD;have l:Hs (w4.alloc ob) d.gD 104 #[vD]:=fu H ob;exact (g5.block _ l.lt (λe=>q e.symm)).trans l
 have t:MapIs prog 9 Lit.string w5 d.mS (st.names+1) (upd (iM st.names) s (some (true:Vl))):=by
  have l:=h4.alloc ob;exact l.same (g5.block _ l.lt (λe=>E e.symm))
 have hlt:∀g,vF.ownBlock=some g->g<w.heap.size:=λg hg=>by
  obtain⟨_,c,L,G⟩:=eB h.rF _ hg;exact (Array.getElem?_eq_some_iff.1 G).1
 have i:¬(oD d vD) d.gN/\¬(oD d vD) d.gS/\¬(oD d vD) d.gT/\¬(oD d vD) d.gF/\¬(oD d vD) d.mN/\¬(oD d vD) d.mT:=by
  refine⟨?_,?_,?_,?_,?_,?_⟩
  ·rintro (x|x|x)
   ·exact eu h.hN h.iS x
   ·exact absurd (nI h.hN (x▸h.hD)) π
   exact fK h.rD h.hN π x
  ·rintro (x|x|x)
   ·exact eu h.hS h.iS x
   ·exact absurd (nI h.hS (x▸h.hD)) π
   exact fK h.rD h.hS π x
  ·rintro (x|x|x)
   ·exact eu h.hT h.iS x
   ·exact absurd (nI h.hT (x▸h.hD)) π
   exact fK h.rD h.hT π x
  ·rintro (x|x|x)
   ·exact eu h.hF h.iS x
   ·exact h.ok.dist.1 x
   exact fK h.rD h.hF π x
  ·rintro (x|x|x)
   ·exact h.ok.dist.2.1 x
   ·exact eu h.hD h.iN x.symm
   exact gp h.rD h.iN x
  rintro (x|x|x)
  ·exact h.ok.dist.2.2.2 x.symm
  ·exact eu h.hD h.iT x.symm
  exact gp h.rD h.iT x
 have D:∀g,vF.ownBlock=some g->¬(oD d vD) g:=λg hg=>by
  rintro (x|x|x)
  ·exact gp h.rF h.iS (x▸hg)
  ·exact fK h.rF h.hD π (x▸hg)
  exact h.sep g hg x
 have A:(w5.setCell d.gD vv).ownsRow B 3 1 vv (st.names+1) (ints (oT p st.names)++[.int .i64 (((idxP p.tyNames s).getD 0:Nat):Int)]):=aI hown (cu _ _ _) (λk hk e=>j d.gD h.hD.lt q (by rw[hk,show k=d.gD from e]));have F:Hs (w5.setCell d.gD vv) d.gD 104 #[vv]:=(heap_setCell_same _ _ _ _ _ _ v).trans rfl;have u:MapIs prog 9 Lit.string (w5.setCell d.gD vv) d.mS (st.names+1) (upd (iM st.names) s (some (true:Vl))):=t.setCell (λe=>r e.symm) _;rw[tF] at u;exact⟨⟨h.ok,bp h.hN a i.1,bp h.hS a i.2.1,bp h.hT a i.2.2.1,bp h.hF a i.2.2.2.1,F,h.iN.same (a.block _ h.iN.lt i.2.2.2.2.1),(by simpa using u),h.iT.same (a.block _ h.iT.lt i.2.2.2.2.2),aI h.rF a D,(by simpa[ints,oT] using A),h.bF,j b hb h.bD,(λg hg e=>j g (hlt g hg) (λx=>h.sep g hg x) e),ψ h.szB a.size⟩,a⟩
end
set_option maxRecDepth 100000
set_option maxHeartbeats 2000000
def wz {l:List Int} {n:Int} (h:posI l n=none):posV (l++[n]) n=some (.int .i64 ((l.length:Nat):Int)):=by unfold posV;rw[pX l n h];simp
def declV_at (l:List (List UInt8)) (s:List UInt8):(idxF l l s).getD (.int .i64 0)=.int .i64 (((idxP l s).getD 0:Nat):Int):=by
 unfold idxF idxP
 cases cB l l s<;>rfl
section
variable {p:Pg} {B b:Nat} {d:DB} {vF vD:Value} {w w':World} {st:Dg} {fv nv:Value} {out:List UInt8}
def DigFun (p:Pg) (B b:Nat) (d:DB) (fv nv:Value) (out:List UInt8) (vD:Value) (v:Value) (st:Dg) (w:World) (e:Ending) (w':World):Prop:=e=.returned v/\WrAt B b fv nv out w'/\(∃vF',DgR p B b d vF' vD w' st)/\Ch (wM B b) w w'
def DigNam (p:Pg) (B b:Nat) (d:DB) (fv nv:Value) (out:List UInt8) (vF:Value) (st:Dg) (w:World) (e:Ending) (w':World):Prop:=e=.returned (.tuple #[])/\WrAt B b fv nv out w'/\(∃vD',DgR p B b d vF vD' w' st)/\Ch (wM B b) w w'
def dig_fun (h:DgR p B b d vF vD w st) (hw:WrAt B b fv nv out w) (hl:st.funs<=wTop) {n:Int} (hn:i64 n) :
 Calls prog 45 #[n,d.gN,d.gF] w (DigFun p B b d fv nv out vD (.int .i64 (dgN.num st n).1) (dgN.num st n).2 w):=by
 obtain⟨a,HW,HN⟩:=zd3 h hw hn;have c0:=h.hN.c 0;have T:=qL h.iN hn;have X:=oJ h.iN hn
 cases hp:posI st.funs n with
 | some i =>
  have u:posV st.funs n=some (.int .i64 ((i:Nat):Int)):=by unfold posV;rw[hp];rfl
  rw[u] at T X;have r:Hid (dgN.num st n=(((i:Nat):Int),st)):=by show _=_;simp only[dgN,hp]
  clear h hw hn hp u;go_enter func45,ntmps45;go_wp2_with fail;go_ret;rw[r.o];exact⟨rfl,HW,⟨_,a⟩,Ch.refl _ _⟩
 | none =>
  have u:posV st.funs n=none:=by unfold posV;rw[hp];rfl
  rw[u] at T;have ab:Hid (dgN.num st n=(((st.funs.length:Nat):Int),⟨st.funs++[n],st.names⟩)):=by show _=_;simp only[dgN,hp]
  obtain⟨N,ai⟩:=zd2 hp u;obtain⟨x,v,A⟩:=bU h.rF;have r:=η A;have aj:Hid (b<w):=hw.lt;obtain⟨y,L,I,J,M⟩:=jz;have t:Hid (prog.info? 3=some y/\y.zero=some (.int .i64 0)/\y.size=1/\y.bytes=8):=⟨L,I,J,M⟩
  have f0:w.cell? d.gF=some (.slice x st.funs v):=by have:=h.hF.cell 0;rw[A] at this;exact this
  have aq:st.funs.length<=1099511627776:=hl;have H:st.funs<maxLen:=by unfold maxLen;omega
  have ag:=η H;clear h hw hn hp u hl L I J M A H X;go_enter func45,ntmps45;go_upto_region 4 with (refine ak _ rfl _ _ _ 102 (.inl rfl) 3 (bh underlying3) underlying102 d.mN st.funs (posV st.funs) rfl a.iN ag n (n:Vl) (.int .i64 ((st.funs.length:Nat):Int)) rfl rfl (aw underlying3 HN) ?_;intro l D j;rw[ai.o] at D);have af:Hid (MapIs prog 3 (Lit.int .i64) l d.mN (st.funs+1) (upd (posV st.funs) n (some (.int .i64 ((st.funs.length:Nat):Int))))):=D;have ah:=η j;have W:d.gF≠d.mN:=eu a.hF a.iN;have V:vF.ownBlock≠some d.mN:=gp a.rF a.iN;have R:vF.ownBlock≠some d.gF:=fK a.rF a.hF π;have U:Hs l d.gF 104 #[vF]:=(j.block _ a.hF.lt (λe=>W (by injection e))).trans a.hF;have f4:l.cell? d.gF=some (.slice x st.funs v):=by have:=U.cell 0;rw[r.o] at this;exact this
  have O:l.ownsRow B 3 1 vF st.funs (oI st.funs):=aI a.rF (P:=only d.mN) ⟨j.os,j.tape,j.output,j.size,λk hk hn=>j.block k hk (λe=>hn (by injection e))⟩ (λk hk e=>V (by rw[hk,show k=d.mN from e]))
  have ad:Hid ((l.alloc (.cells #[n] 3)).ownsRow B 3 1 (.slice x st.funs v) st.funs (oI st.funs)):=by
   rw[r.o] at O;exact aI O (stpA (Stp.refl (λ_=>False) l) _) (λ_ _ e=>e)
  have ac:Hid (B<=(l.alloc (.cells #[n] 3)).heap.size):=by show _<=_;have:=a.szB;have:=j.size;simp;omega
  have E:=fu U (.cells #[n] 3)
  have Z:Hid (∀f,(l.alloc (.cells #[n] 3)).grownBy f (Value.slice x st.funs v).ownBlock->f.cell? d.gF=some vF):=λf hg=>by
   have:Hs f d.gF 104 #[vF]:=(hg.block _ E.lt (λe=>R (by rw[r.o];exact e.symm))).trans E;exact this.cell 0
  have Y:Hid (∀f,(l.alloc (.cells #[n] 3)).grownBy f (Value.slice x st.funs v).ownBlock->f.frozen? d.gF=false):=λf hg=>by
   have:Hs f d.gF 104 #[vF]:=(hg.block _ E.lt (λe=>R (by rw[r.o];exact e.symm))).trans E;exact Lib.frozen_of_heap this 0
  clear D j W V R U E O f0 c0 T;go_wp2_with (at_builtin;refine wpList_append_own_at _ rfl (.tmp 19) (.tmp 21) 104 rfl B 3 y (.int .i64 0) 1 8 underlying104 t.1 t.2.1 t.2.2.1 t.2.2.2 rfl π (.slice x st.funs v) st.funs (oI st.funs) rfl ad l 1 1 [.int .i64 n] rfl rfl (ib (Hs.new _ _ _)) one1 Ξ ω ac ?_;intro vv f q g G z;obtain⟨A5,c5,rfl⟩:=bU q;have F:=η (a.numbered aj N af ah q (by rw[r.o];exact g) (by rw[r.o];exact z));have x0:f.cell? d.gF=some (vF):=Z f g;have x1:f.frozen? d.gF=false:=Y f g;have z0:(f.setCell d.gF (.slice A5 (st.funs+1) c5)).cell? d.gN=some (.map (some d.mN)):=F.1.hN.cell 0;have z1:=oJ F.1.iN HN;rw[wz N.o] at z1;clear q g G z);go_ret;rw[ab.o];refine⟨?_,wr_stp HW F.2 (oF_wr a),⟨_,F.1⟩,mU F.2 (oF_may a)⟩;rfl
def dig_nam (h:DgR p B b d vF vD w st) (hw:WrAt B b fv nv out w) (hl:st.names<=wTop) {s:ByteArray} (hn:s.size<=maxLen) :
 Calls prog 46 #[s,d.gS,d.gD,d.gT] w (DigNam p B b d fv nv out vF (dgN.nam st s) w):=by
 obtain⟨a,HW,HN⟩:=zd3 h hw hn;have c0:=h.hS.c 0;have W:=xy h.iS hn;by_cases u:s.data.toList∈st.names
 ·have v:iM st.names s.data.toList=some (true:Vl):=by unfold iM;rw[if_pos u]
  rw[v] at W;have q:Hid (dgN.nam st s=st):=by show _=_;simp only[dgN];rw[if_pos u]
  clear h hw hn u v;go_enter func46,ntmps46;go_wp2_with fail;go_end0;rw[q.o];exact⟨rfl,HW,⟨_,a⟩,Ch.refl _ _⟩
 have v:iM st.names s.data.toList=none:=by unfold iM;rw[if_neg u]
 rw[v] at W;have ag:Hid (dgN.nam st s=⟨st.funs,st.names++[s.data.toList]⟩):=by show _=_;simp only[dgN];rw[if_neg u]
 have ao:=η v;obtain⟨y,x,E⟩:=bU h.rD;have q:=η E;have ap:Hid (b<w):=hw.lt;obtain⟨A,N,J,M,O⟩:=jz;have r:Hid (prog.info? 3=some A/\A.zero=some (.int .i64 0)/\A.size=1/\A.bytes=8):=⟨N,J,M,O⟩
 have f0:w.cell? d.gD=some (.slice y st.names x):=by have:=h.hD.cell 0;rw[E] at this;exact this
 have av:st.names.length<=1099511627776:=hl;have I:st.names<maxLen:=by unfold maxLen;omega
 have am:=η I;obtain⟨t,L⟩:=γ ((idxP p.tyNames s.data.toList).getD 0)
 have T:=η L;clear h hw hn u v hl N J M O E I L;go_enter func46,ntmps46;go_upto_region 2 with (refine ak _ rfl _ _ _ 103 (.inl rfl) 4 (fL underlying9) underlying103 d.mS st.names (iM st.names) rfl a.iS am s.data.toList (s:Vl) (true:Vl) rfl rfl (keyOf_string_mk underlying9 HN) ?_;intro j F f;rw[ao.o] at F);have al:Hid (MapIs prog 9 Lit.string j d.mS (st.names+1) (upd (iM st.names) s.data.toList (some (true:Vl)))):=F;have an:=η f;have n1:d.gD≠d.mS:=eu a.hD a.iS;have n4:vD.ownBlock≠some d.mS:=gp a.rD a.iS;have V:vD.ownBlock≠some d.gD:=fK a.rD a.hD π;have n6:d.gT≠d.mS:=eu a.hT a.iS;have X:Hs j d.gD 104 #[vD]:=(f.block _ a.hD.lt (λe=>n1 (by injection e))).trans a.hD;have f4:j.cell? d.gD=some (.slice y st.names x):=by have:=X.cell 0;rw[q.o] at this;exact this
 have Z:Hs j d.gT 101 #[.map (some d.mT)]:=(f.block _ a.hT.lt (λe=>n6 (by injection e))).trans a.hT;have f5:=Z.c 0;have R:SMap j d.mT d.nT (idxF p.tyNames p.tyNames):=a.iT.same (f.block _ a.iT.lt (λe=>a.ok.dist.2.2.2 (by injection e with e;exact e.symm)));have l5:=cR R HN;rw[declV_at,<-T.o] at l5;have U:j.ownsRow B 3 1 vD st.names (ints (oT p st.names)):=aI a.rD (P:=only d.mS) ⟨f.os,f.tape,f.output,f.size,λk hk hn=>f.block k hk (λe=>hn (by injection e))⟩ (λk hk e=>n4 (by rw[hk,show k=d.mS from e]))
 have ai:Hid ((j.alloc (.cells #[.int .i64 ((t:Nat):Int)] 3)).ownsRow B 3 1 (.slice y st.names x) st.names (ints (oT p st.names))):=by
  rw[q.o] at U;exact aI U (stpA (Stp.refl (λ_=>False) j) _) (λ_ _ e=>e)
 have ah:Hid (B<=(j.alloc (.cells #[.int .i64 ((t:Nat):Int)] 3)).heap.size):=by show _<=_;have:=a.szB;have:=f.size;simp;omega
 have G:=fu X (.cells #[.int .i64 ((t:Nat):Int)] 3)
 have ae:Hid (∀g,(j.alloc (.cells #[.int .i64 ((t:Nat):Int)] 3)).grownBy g (Value.slice y st.names x).ownBlock->g.cell? d.gD=some vD):=λg hg=>by
  have:Hs g d.gD 104 #[vD]:=(hg.block _ G.lt (λe=>V (by rw[q.o];exact e.symm))).trans G;exact this.cell 0
 have ad:Hid (∀g,(j.alloc (.cells #[.int .i64 ((t:Nat):Int)] 3)).grownBy g (Value.slice y st.names x).ownBlock->g.frozen? d.gD=false):=λg hg=>by
  have:Hs g d.gD 104 #[vD]:=(hg.block _ G.lt (λe=>V (by rw[q.o];exact e.symm))).trans G;exact Lib.frozen_of_heap this 0
 clear F f n1 n4 V n6 X G U f0 c0 W Z R;go_wp2_with (at_builtin;refine wpList_append_own_at _ rfl (.tmp 11) (.tmp 15) 104 rfl B 3 A (.int .i64 0) 1 8 underlying104 r.1 r.2.1 r.2.2.1 r.2.2.2 rfl π (.slice y st.names x) st.names (ints (oT p st.names)) rfl ai j 1 1 [.int .i64 ((t:Nat):Int)] rfl rfl (ib (Hs.new _ _ _)) one1 Ξ ω ah ?_;intro vv g l i H D;obtain⟨A5,c5,rfl⟩:=bU l;have Y:=η (a.named (s:=s.data.toList) ap al an (by rw[<-T.o];exact l) (by rw[q.o];exact i) (by rw[q.o];exact D));have x0:g.cell? d.gD=some (vD):=ae g i;have x1:g.frozen? d.gD=false:=ad g i;clear l i H D);go_end0;rw[ag.o];exact⟨rfl,wr_stp HW Y.2 (oD_wr a),⟨_,Y.1⟩,mU Y.2 (oD_may a)⟩
end
def fvD (d:DB):Value:=.func (.func 45) #[] #[d.gN,d.gF]
def nvD (d:DB):Value:=.func (.func 46) #[] #[d.gS,d.gD,d.gT]
def num_le {st:Dg} {n:Int} {k:Nat} (h:st.funs<=k) (hk:k<=wTop):i64 (dgN.num st n).1:=by
 have e:(dgN.num st n).1=match posI st.funs n with|some i=>((i:Nat):Int)|none=>((st.funs.length:Nat):Int):=by
  simp only[dgN];cases posI st.funs n<;>rfl
 rw[e];unfold i64 wTop at *
 cases hp:posI st.funs n with
 | none=>(constructor<;>dsimp only<;>omega)
 | some i=>have:=(posI_lt _ _ _ hp).1;constructor<;>dsimp only<;>omega
def rc (st:Dg) (n:Int):(dgN.num st n).2.funs.length<=st.funs+1/\(dgN.num st n).2.names=st.names:=by
 simp only[dgN]
 cases posI st.funs n<;>simp
def rh (st:Dg) (s:ByteArray):(dgN.nam st s).names.length<=st.names+1/\(dgN.nam st s).funs=st.funs:=by
 simp only[dgN];split<;>simp
def rq (p:Pg) (B b:Nat) (d:DB):WEnv dgN B b (fvD d) (nvD d) (DgRel p B b d) where
 keep w w' st k h hc:=by
  obtain⟨j,r,l,q,i⟩:=h;exact⟨j,r,l,q,i.keep hc⟩
 mono w st k k' h hk:=⟨ψ h.1 hk,ψ h.2.1 hk,h.2.2⟩
 num:=⟨45,_,rfl,(λa W'=>by kernel_rfl),λw st n k out hn hk hw h=>by
  obtain⟨j,r,l,q,i⟩:=h;refine (dig_fun i hw (ψ j hk) hn).mono ?_;rintro e w' ⟨rfl,f,⟨t,g⟩,hc⟩;refine⟨rfl,num_le j hk,f,⟨ψ (rc st n).1 ω,?_,t,q,g⟩,hc⟩;rw[(rc st n).2];omega⟩
 nam:=⟨46,_,rfl,(λa W'=>by kernel_rfl),λw st s k out hn hk hw h=>by
  obtain⟨j,r,l,q,i⟩:=h;refine (dig_nam i hw (ψ r hk) hn).mono ?_;rintro e w' ⟨rfl,f,⟨u,g⟩,hc⟩;refine⟨rfl,f,⟨?_,ψ (rh st s).1 ω,l,u,g⟩,hc⟩;rw[(rh st s).2];omega⟩
variable {B:Nat} {fv nv:Value} {out:List UInt8}
def WrAt.wk {B' b:Nat} {w:World} (h:WrAt B b fv nv out w) (hB:B'<=B):WrAt B' b fv nv out w:=by
 obtain⟨k,j,f,v,e,i,a,d⟩:=h;refine⟨ω,ω,f,v,e,i,⟨a.1,?_⟩,d⟩;rcases a.2 with hn|⟨g,cap,cur,rfl,hbg,rest⟩
 ·exact .inl hn
 exact .inr ⟨g,cap,cur,rfl,ω,rest⟩
def WrAt.setF {b:Nat} {w:World} (h:WrAt B b fv nv out w) (f:Value):WrAt B b f nv out (w.setCell ⟨b,2,none⟩ f):=by
 obtain⟨l,p,i,v,g,j,d,a⟩:=h;refine⟨l,by simp[World.setCell];omega,i,v,(heap_setCell_same _ _ _ _ _ _ g).trans rfl,j,aI d (cu _ _ _) (λk hk e=>a (by rw[hk,show k=b from e])),a⟩
def WrAt.setN {b:Nat} {w:World} (h:WrAt B b fv nv out w) (f:Value):WrAt B b fv f out (w.setCell ⟨b,3,none⟩ f):=by
 obtain⟨l,p,i,v,g,j,d,a⟩:=h;refine⟨l,by simp[World.setCell];omega,i,v,(heap_setCell_same _ _ _ _ _ _ g).trans rfl,j,aI d (cu _ _ _) (λk hk e=>a (by rw[hk,show k=b from e])),a⟩
def bZ (p:Pg):Nat->Nat->Dg->List UInt8×Dg
 | 0,_,st=>([],st)
 | k+1,i,st=>match st.funs[i]? with
  | none=>([],st)
  | some n=>match p.funs[n.toNat]? with
   | none=>([],st)
   | some f=>((wFn dgN st f).1++(bZ p k (i+1) (wFn dgN st f).2).1,(bZ p k (i+1) (wFn dgN st f).2).2)
def cC (p:Pg):Nat->Nat->Dg->List UInt8×Dg
 | 0,_,st=>([],st)
 | k+1,i,st=>match st.names[i]? with
  | none=>([],st)
  | some s=>match p.types[(idxP p.tyNames s).getD 0]? with
   | none=>([],st)
   | some f=>((wDcl dgN st f).1++(cC p k (i+1) (wDcl dgN st f).2).1,(cC p k (i+1) (wDcl dgN st f).2).2)
def dg0:Dg:=⟨[],[]⟩
def je (p:Pg) (a:Ac):List UInt8:=
 (wAc dgN dg0 a).1++((bZ p (p.funs+1) 0 (wAc dgN dg0 a).2).1++(cC p (p.types+1) 0 (bZ p (p.funs+1) 0 (wAc dgN dg0 a).2).2).1)
structure DgOk (p:Pg) (st:Dg):Prop where
 nf:st.funs.Nodup
 rf:∀n∈st.funs,0<=n/\n<(p.funs.length:Int)
 nn:st.names.Nodup
 rn:∀s∈st.names,s∈p.tyNames
structure DigOk (p:Pg):Prop where
 ac:∀a∈p.actors,∀st,DgOk p st->DgOk p (wAc dgN st a).2
 fn:∀f∈p.funs,∀st,DgOk p st->DgOk p (wFn dgN st f).2
 ty:∀f∈p.types,∀st,DgOk p st->DgOk p (wDcl dgN st f).2
def digP (p:Pg) (M:Nat) (s:List UInt8):List Nat:=match idxP p.acNames s with
 | none=>List.replicate 32 0
 | some i=>if aW p M then (match p.actors[i]? with|none=>List.replicate 32 0|some a=>ShaT.shaS (je p a |>.map UInt8.toNat)) else List.replicate 32 0
def dbOf (n gT mT nT:Nat):DB:=⟨n+1+1,n+1+1+1+1,n+1+1+1,n+1+1+1+1+1,gT,n,n+1,mT,nT⟩
def dw5 (W:World):World:=(((((W.alloc (.map #[] 0)).alloc (.map #[] 0)).alloc (.cells #[.map (some W)] 102)).alloc (.cells #[.map (some (W+1))] 103)).alloc (.cells #[()] 104)).alloc (.cells #[()] 104)
def dw6 (W:World) (b:Nat) (d:DB):World:=((dw5 W).setCell ⟨b,2,none⟩ (fvD d)).setCell ⟨b,3,none⟩ (nvD d)
def rt (W:World):Below W W (dw5 W):=by unfold dw5;exact ζ6
def dw5_size (W:World):(dw5 W).heap.size=W+6:=by unfold dw5;simp
def dw5_hs (W:World):Hs (dw5 W) (W+2) 102 #[.map (some W)]/\Hs (dw5 W) (W+3) 103 #[.map (some (W+1))]/\Hs (dw5 W) (W+4) 104 #[()]/\Hs (dw5 W) (W+5) 104 #[()]:=by
 unfold dw5;refine⟨?_,?_,?_,?_⟩
 ·have:=Hs.new ((W.alloc (.map #[] 0)).alloc (.map #[] 0)) 102 #[.map (some W)];exact fu (fu (fu (by simpa using this) _) _) _
 ·have:=Hs.new (((W.alloc (.map #[] 0)).alloc (.map #[] 0)).alloc (.cells #[.map (some W)] 102)) 103 #[.map (some (W+1))];exact fu (fu (by simpa using this) _) _
 ·have:=Hs.new ((((W.alloc (.map #[] 0)).alloc (.map #[] 0)).alloc (.cells #[.map (some W)] 102)).alloc (.cells #[.map (some (W+1))] 103)) 104 #[()];exact fu (by simpa using this) _
 have:=Hs.new (((((W.alloc (.map #[] 0)).alloc (.map #[] 0)).alloc (.cells #[.map (some W)] 102)).alloc (.cells #[.map (some (W+1))] 103)).alloc (.cells #[()] 104)) 104 #[()];simpa using this
def dw5_maps (W:World):MapIs prog 3 (Lit.int .i64) (dw5 W) W 0 (posV [])/\MapIs prog 9 Lit.string (dw5 W) (W+1) 0 (iM []):=by
 unfold dw5;refine⟨?_,?_⟩
 ·exact ((((((MapIs.made prog 3 (Lit.int .i64) W).alloc _).alloc _).alloc _).alloc _).alloc _).congr λs=>rfl
 have:=MapIs.made prog 9 Lit.string (W.alloc (.map #[] 0));have a:MapIs prog 9 Lit.string ((W.alloc (.map #[] 0)).alloc (.map #[] 0)) (W+1) 0 (λ_=>none):=by simpa using this
 exact ((((a.alloc _).alloc _).alloc _).alloc _).congr λs=>by unfold iM;simp
def xk {p:Pg} {B0 b gT mT nT:Nat} {W:World} (hw:WrAt b b fv nv [] W) (hT:Hs W gT 101 #[.map (some mT)]) (iT:SMap W mT nT (idxF p.tyNames p.tyNames)) (h1:B0<=gT) (h2:B0<=mT) (h3:gT<b) (h4:mT<b):
 DgR p B0 b (dbOf W gT mT nT) () () (dw6 W b (dbOf W gT mT nT)) dg0/\WrAt B0 b (fvD (dbOf W gT mT nT)) (nvD (dbOf W gT mT nT)) [] (dw6 W b (dbOf W gT mT nT)):=by
 have v:=hw.lt;obtain⟨u,t,r,q⟩:=dw5_hs W;obtain⟨j,i⟩:=dw5_maps W;have g:=rt W;have l:Hs (dw5 W) gT 101 #[.map (some mT)]:=(g.block _ hT.lt).trans hT;have f:SMap (dw5 W) mT nT (idxF p.tyNames p.tyNames):=iT.below g iT.lt;have a:Stp (only b) (dw5 W) (dw6 W b (dbOf W gT mT nT)):=(cu (dw5 W) ⟨b,2,none⟩ _).trans (cu _ ⟨b,3,none⟩ _);have d:∀k,k≠b->¬only b k:=λk h e=>h e;refine⟨⟨⟨⟨?_,?_,?_,?_,?_,?_,?_,?_⟩,⟨?_,?_,?_,?_,?_,?_,?_,?_⟩,?_,?_,?_,?_⟩,?_,?_,?_,?_,?_,?_,?_,?_,⟨rfl,.inl ⟨rfl,rfl⟩⟩,⟨rfl,.inl ⟨rfl,rfl⟩⟩,by simp[Value.ownBlock],by simp[Value.ownBlock],by simp[Value.ownBlock],?_⟩,?_⟩;all_goals (try (simp only[dbOf];omega))
 ·exact bp u a (d _ (by simp only[dbOf];omega))
 ·exact bp t a (d _ (by simp only[dbOf];omega))
 ·exact bp l a (d _ (by simp only[dbOf];omega))
 ·exact bp r a (d _ (by simp only[dbOf];omega))
 ·exact bp q a (d _ (by simp only[dbOf];omega))
 ·exact j.same (a.block _ j.lt (d _ ω))
 ·exact i.same (a.block _ i.lt (d _ ω))
 ·exact f.same (a.block _ f.lt (d _ (by show mT≠b;omega)))
 ·have:=a.size;rw[dw5_size] at this;omega
 exact (((hw.bel g).setF _).setN _).wk ω
def iR {p:Pg} {A0 A1 A2 A3:Option Addr} {q0 q1 q2 q3:Nat} {w:World} (h:PgAt w A0 A1 A2 A3 q0 q1 q2 q3 p) (hsz:szPg p<=4000000000000) :
 Calls prog 8 #[.agg #[.slice A0 p.types q0,.slice A1 p.effects q1,.slice A2 p.funs q2,.slice A3 p.actors q3]] w (aE (decide (szPg p<=4000)) w):=by
 obtain⟨u,e,t,f⟩:=κ w #[.slice A0 p.types q0,.slice A1 p.effects q1,.slice A2 p.funs q2,.slice A3 p.actors q3] 27
 obtain⟨v,l,j⟩:=zd3 (h.bel t) t e;obtain⟨a,b⟩:=γ (szPg p)
 obtain⟨x,k⟩:=zd2 b hsz;rw[<-b];clear h e t hsz b;go_enter func8,ntmps8;go_upto_region 1 with fail;rw[<-j.o];clear j;have F:=f.c 0;have E:=f.c 1;have D:=f.c 2;have B:=f.c 3;by_cases i:a<=4000
 ·have y:decide ((a:Int)<=4000)=true:=decide_eq_true ω;have d:decide (a<=4000)=true:=decide_eq_true i;have r:=η d;clear d;go_wp2_with (go_at_call 18;refine (sL (v.bel (belR _)) k).mono ?_;rw[<-x.o];rintro d A ⟨rfl,g⟩);go_ret;rw[r.o];exact⟨rfl,bel l g⟩
 have y:decide ((a:Int)<=4000)=false:=decide_eq_false ω;have d:decide (a<=4000)=false:=decide_eq_false i;have r:=η d;clear d;go_wp2_with (go_at_call 18;refine (sL (v.bel (belR _)) k).mono ?_;rw[<-x.o];rintro d A ⟨rfl,g⟩);go_ret;rw[r.o];exact⟨rfl,bel l g⟩
end Go.Proofs.YtjohpidklbhmcaaGreatDoor
