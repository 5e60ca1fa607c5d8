import Derived.Test.YtbmknjfgjphfbaaGreatDoorZ03
set_option linter.all false
namespace Go.Proofs.YtbmknjfgjphfbaaGreatDoor
open Proofs.Tryz RowKit Maps WideMaps ChangeMaps
set_option maxRecDepth 100000
set_option maxHeartbeats 8000000
section
structure Agr (n:Nat) (W X:À):Prop where
 z:W.heap.size≤X.heap.size
 b:∀b,n≤b→b<W.heap.size→X.heap[b]?=W.heap[b]?
abbrev zero5:Array Value:=#[.int .i64 0,.string ⟨#[]⟩,.int .i64 0,.int .i64 0,.slice none 0 0]
abbrev cl (k:Int) (s:Ê) (n p:Int) (A:Option Addr) (l cap:Nat):List Value:=[.int .i64 k,.string s,.int .i64 n,.int .i64 p,.slice A l cap]
section
variable {w W1 W2:World} {b:Nat} {k n p:Int} {s:ByteArray} {A:Option Addr} {l c:Nat}
theorem cf5 (h:Hs w b 83 (cl k s n p A l c).toArray):w.cell? ⟨b,0,none⟩=some (.int .i64 k)∧w.cell? ⟨b,1,none⟩=some (.string s)∧w.cell? ⟨b,2,none⟩=some (.int .i64 n)∧w.cell? ⟨b,3,none⟩=some (.int .i64 p)∧w.cell? ⟨b,4,none⟩=some (.slice A l c):=⟨h.c 0,h.c 1,h.c 2,h.c 3,h.c 4⟩
theorem nx5 (B:Hid (Below w.heap.size w W1)) (Y:Hid (Hs W1 b 83 (cl k s n p A l c).toArray)) (h:Below W1.heap.size W1 W2):Hid (Below w.heap.size w W2)∧Hid (Hs W2 b 83 (cl k s n p A l c).toArray)∧W2.cell? ⟨b,0,none⟩=some (.int .i64 k)∧W2.cell? ⟨b,1,none⟩=some (.string s)∧W2.cell? ⟨b,2,none⟩=some (.int .i64 n)∧W2.cell? ⟨b,3,none⟩=some (.int .i64 p)∧W2.cell? ⟨b,4,none⟩=some (.slice A l c):=⟨η (bel B.out h),η (hs_bel Y.out h),cf5 (hs_bel Y.out h)⟩
theorem nb5 (w:World) (k:Int) (s:ByteArray) (n p:Int) (A:Option Addr) (l c:Nat):∃W,Hid (W=w.alloc (.cells (cl k s n p A l c).toArray 83))∧Hid (Below w.heap.size w W)∧Hid (Hs W w.heap.size 83 (cl k s n p A l c).toArray)∧W.cell? ⟨w.heap.size,0,none⟩=some (.int .i64 k)∧W.cell? ⟨w.heap.size,1,none⟩=some (.string s)∧W.cell? ⟨w.heap.size,2,none⟩=some (.int .i64 n)∧W.cell? ⟨w.heap.size,3,none⟩=some (.int .i64 p)∧W.cell? ⟨w.heap.size,4,none⟩=some (.slice A l c):=⟨_,η rfl,η (belA (belR _) _),η (Hs.new _ _ _),cf5 (Hs.new _ _ _)⟩
variable {ops:Array Oper} {rest:List Oper} {o:Oper} {a:Act} {Q:Exit→Act→World→Prop} {g:Nat} {x:Operand} {cs:List Value}
theorem lr5 (Y:Hid (Hs w g 83 cs.toArray)) (h:wpList Tryz.prog ops Q rest (a.put o.dst (.agg cs.toArray)) w) (hgd:o.guard=none:=by rfl) (ho:o.op=.load 83 x:=by rfl) (hx:a.eval x=.pointer (some ⟨g,0,none⟩):=by rfl) (hi:(Tryz.prog.info? 83).map (·.size)=some cs.toArray.size:=by kernel_rfl):wpList Tryz.prog ops Q (o::rest) a w:=wpList_load_row hgd 83 x ho g hx 83 _ _ _ Y.out Tryz.underlying83 rfl hi h
end
def RowE (E:Nat→Prop) (n:Nat) (v:Value) (l:List Nd) (X:À):Prop:=n≤X.heap.size∧(∀g,v.ownBlock=some g→¬E g)∧∃xs,X.ownsRow n 83 5 v l.length xs∧RowG 5 (NdR X (fun b=>nb n v X b∧¬E b)) xs l
def NoE (_:Nat):Prop:=False
abbrev RowX (n:Nat) (v:Value) (l:List Nd) (X:À):Prop:=RowE NoE n v l X
structure Sw (c:Cx) (w:À) (n0:Nat) (W:À) (q:List Tk) (h:Bool) (K:À→Prop):Prop where
 pw:PW c W q h
 st:Stp (only c.pb) w W
 lo:c.pb<w.heap.size∧c.B≤w.heap.size∧w.heap.size≤n0∧n0≤W.heap.size
 bx:n0=w.heap.size+1→Hs W w.heap.size 83 zero5
 k:∀X,Agr n0 W X→K X
section
variable {c:Cx} {w W W':À} {n0:Nat} {q q':List Tk} {h h':Bool} {K K2:À→Prop}
theorem Agr.refl (n:Nat) (W:À):Agr n W W:=⟨Nat.le_refl _,fun _ _ _=>rfl⟩
theorem Agr.trans {n:Nat} {A B C:À} (x:Agr n A B) (y:Agr n B C):Agr n A C:=⟨Nat.le_trans x.z y.z,fun b h1 h2=>(y.b b h1 (Nat.lt_of_lt_of_le h2 x.z)).trans (x.b b h1 h2)⟩
theorem Agr.mono {n m:Nat} {A B:À} (x:Agr n A B) (h:n≤m):Agr m A B:=⟨x.z,fun b h1 h2=>x.b b (Nat.le_trans h h1) h2⟩
theorem Agr.sub {n m:Nat} {A B:À} (x:Agr n A B) (h:n≤m):Sub (nw m A) (nw m B) A B:=fun b hb=>⟨⟨hb.1,Nat.lt_of_lt_of_le hb.2 x.z⟩,x.b b (Nat.le_trans h hb.1) hb.2⟩
theorem Agr.subn {n m:Nat} {A B:À} (v:Value) (x:Agr n A B) (h:n≤m):Sub (nb m v A) (nb m v B) A B:=fun b hb=>⟨⟨hb.1,Nat.lt_of_lt_of_le hb.2.1 x.z,hb.2.2⟩,x.b b (Nat.le_trans h hb.1) hb.2.1⟩
theorem Sw.agr (A:Hid (Sw c w n0 W q h K)) (s:Stp (only c.pb) W W'):Agr n0 W W':=⟨s.size,fun b h1 h2=>s.block b h2 (fun e=>by have:=A.o.lo;unfold only at e;omega)⟩
theorem Sw.nk (A:Hid (Sw c w n0 W q h K)) (s:Stp (only c.pb) W W') (p:PW c W' q' h') (hk:∀X,Agr n0 W' X→K2 X):Hid (Sw c w n0 W' q' h' (fun X=>K X∧K2 X)):=
 ⟨p,A.o.st.trans s,⟨A.o.lo.1,A.o.lo.2.1,A.o.lo.2.2.1,Nat.le_trans A.o.lo.2.2.2 s.size⟩,fun e=>hs_stp (A.o.bx e) s (fun e=>by have:=A.o.lo;unfold only at e;omega),fun X x=>⟨A.o.k X ((Sw.agr A s).trans x),hk X x⟩⟩
theorem Sw.n (A:Hid (Sw c w n0 W q h K)) (s:Stp (only c.pb) W W') (p:PW c W' q' h'):Hid (Sw c w n0 W' q' h' K):=
 ⟨p,A.o.st.trans s,⟨A.o.lo.1,A.o.lo.2.1,A.o.lo.2.2.1,Nat.le_trans A.o.lo.2.2.2 s.size⟩,fun e=>hs_stp (A.o.bx e) s (fun e=>by have:=A.o.lo;unfold only at e;omega),fun X x=>A.o.k X ((Sw.agr A s).trans x)⟩
theorem Sw.bel (A:Hid (Sw c w n0 W q h K)) (b:Below W.heap.size W W'):Hid (Sw c w n0 W' q h K):=Sw.n A (Stp.of_below b) (A.o.pw.bel b)
theorem Sw.nd (A:Hid (Sw c w n0 W q h K)) (s:Stp (only c.pb) W W') (p:PW c W' q' h') {cs:List Value} {a:Nd} (r:NdR W' (nw W.heap.size W') cs a):Hid (Sw c w n0 W' q' h' (fun X=>K X∧NdR X (nw W.heap.size X) cs a)):=
 Sw.nk A s p fun X x=>r.to (x.sub A.o.lo.2.2.2)
theorem RowX.to {E:Nat→Prop} {n:Nat} {v:Value} {l:List Nd} {X Y:À} (h:RowE E n v l X) {m:Nat} (x:Agr m X Y) (hm:m≤n):RowE E n v l Y:=by
 obtain⟨hz,he,xs,ho,hr⟩:=h
 refine⟨Nat.le_trans hz x.z,he,xs,⟨ho.1,?_⟩,hr.to fun cs a y=>y.to fun b hb=>⟨⟨((x.subn v hm) b hb.1).1,hb.2⟩,((x.subn v hm) b hb.1).2⟩⟩
 rcases ho.2 with hn|⟨g,cap,cur,rfl,hb,hgg,rest⟩
 · exact .inl hn
 · exact .inr ⟨g,cap,cur,rfl,hb,(x.b g (Nat.le_trans hm hb) (Array.getElem?_eq_some_iff.1 hgg).1).trans hgg,rest⟩
theorem RowV.x {b:Nat} {W W':À} {v:Value} {l:List Nd} (r:RowV b W W' v l) (hz:W.heap.size≤W'.heap.size) {E:Nat→Prop} (hE:∀g,E g→¬(W.heap.size≤g∧g<W'.heap.size)):RowE E W.heap.size v l W':=by
 obtain⟨_,xs,ho,hr⟩:=r
 exact⟨hz,fun g hg e=>hE g e (ho.lt g hg),xs,ho,hr.to fun cs a y=>y.to fun b hb=>⟨⟨hb,fun e=>hE b e ⟨hb.1,hb.2.1⟩⟩,rfl⟩⟩
theorem RowE.e {E F:Nat→Prop} {n:Nat} {v:Value} {l:List Nd} {X:À} (h:RowE E n v l X) (hF:∀g,F g→X.heap.size≤g):RowE F n v l X:=by
 obtain⟨hz,he,xs,ho,hr⟩:=h
 exact⟨hz,fun g hg e=>by have:=(ho.lt g hg).2;have:=hF g e;omega,xs,ho,hr.to fun cs a y=>y.to fun b hb=>⟨⟨hb.1,fun e=>by have:=hb.1.2.1;have:=hF b e;omega⟩,rfl⟩⟩
theorem RowE.set {E:Nat→Prop} {n g i:Nat} {u v:Value} {l:List Nd} {X:À} (h:RowE E n v l X) (hg:E g):RowE E n v l (X.setCell ⟨g,i,none⟩ u):=by
 obtain⟨hz,he,xs,ho,hr⟩:=h
 have hb:∀b,b≠g→(X.setCell ⟨g,i,none⟩ u).heap[b]?=X.heap[b]?:=fun b hb=>Below.heap_setCell _ _ _ _ hb
 refine⟨by rw[size_set];exact hz,he,xs,⟨ho.1,?_⟩,hr.to fun cs a y=>y.to fun b h2=>⟨⟨⟨h2.1.1,by rw[size_set];exact h2.1.2.1,h2.1.2.2⟩,h2.2⟩,hb b (fun e=>h2.2 (e▸hg))⟩⟩
 rcases ho.2 with hn|⟨g2,cap,cur,rfl,h3,hgg,rest⟩
 · exact .inl hn
 · exact .inr ⟨g2,cap,cur,rfl,h3,(hb g2 (fun e=>he g2 rfl (e▸hg))).trans hgg,rest⟩
theorem Sw.rw (A:Hid (Sw c w n0 W q h K)) (s:Stp (only c.pb) W W') (p:PW c W' q' h') {b:Nat} {v:Value} {l:List Nd} (r:RowV b W W' v l):Hid (Sw c w n0 W' q' h' (fun X=>K X∧RowX W.heap.size v l X)):=
 Sw.nk A s p fun X x=>RowX.to (r.x s.size (fun _ h=>h.elim)) x A.o.lo.2.2.2
theorem Sw.al (A:Hid (Sw c w n0 W q h K)) (cs:Array Value):Hid (Sw c w n0 (W.alloc (.cells cs 83)) q h (fun X=>K X∧Hs X W.heap.size 83 cs)):=
 Sw.nk A (Stp.of_below (belA (belR _) _)) (A.o.pw.bel (belA (belR _) _)) fun X x=>(x.b _ A.o.lo.2.2.2 (by simp)).trans (Hs.new W 83 cs)
theorem Sw.s0 {r:List Tk} (k:PW c w r h):Hid (Sw c w w.heap.size w r h (fun _=>True)):=⟨k,Stp.refl _ _,⟨k.box.lt,k.lo.2.2,Nat.le_refl _,Nat.le_refl _⟩,fun e=>by omega,fun _ _=>trivial⟩
theorem Sw.s1 {r:List Tk} (k:PW c w r h):∃W,Hid (W=w.alloc (.cells zero5 83))∧Hid (Sw c w (w.heap.size+1) W r h (fun _=>True)):=
 ⟨_,rfl,k.bel (belA (belR _) _),Stp.of_below (belA (belR _) _),⟨k.box.lt,k.lo.2.2,by omega,by simp⟩,fun _=>Hs.new _ _ _,fun _ _=>trivial⟩
theorem Sw.now (A:Hid (Sw c w n0 W q h K)):K W:=A.o.k W (Agr.refl _ _)
theorem Sw.e (A:Hid (Sw c w (w.heap.size+1) W q h K)) {k n p:Int} {s:Ê} {D:Option Addr} {l cap:Nat} {a:Nd} (hk:∀X,w.heap.size<X.heap.size→K X→NdR X (nw w.heap.size X) (cl k s n p D l cap) a) :
 Hid (Res NdV c w h (.ok a q) (.returned (.agg (cl k s n p D l cap).toArray)) (W.setRow w.heap.size (cl k s n p D l cap).toArray)):=by
 have hb:∀b,b≠w.heap.size→(W.setRow w.heap.size (cl k s n p D l cap).toArray).heap[b]?=W.heap[b]?:=fun b hb=>setRow_other _ _ _ _ hb
 have hz:(W.setRow w.heap.size (cl k s n p D l cap).toArray).heap.size=W.heap.size:=by simp
 have s':Stp (only c.pb) w (W.setRow w.heap.size (cl k s n p D l cap).toArray):=stp_row A.o.st (Nat.le_refl _) _
 have hl:=A.o.lo
 refine⟨_,rfl,⟨k,s,n,p,D,l,cap,rfl,?_⟩,s',?_⟩
 · exact hk _ (by rw[hz];omega) (A.o.k _ ⟨by rw[hz];exact Nat.le_refl _,fun b h1 h2=>hb b ω⟩)
 · exact A.o.pw.stp' (by rw[hz];exact Nat.le_refl _) (fun b h1 h2=>hb b ω) ((hb _ ω).trans A.o.pw.box) (List.suffix_refl _)
theorem RowX.lt {E:Nat→Prop} {n:Nat} {v:Value} {l:List Nd} {X:À} (h:RowE E n v l X):n≤X.heap.size∧∀g,v.ownBlock=some g→n≤g∧g<X.heap.size:=by
 obtain⟨hz,_,xs,ho,hr⟩:=h;exact⟨hz,fun g hg=>ho.lt g hg⟩
theorem Sw.push {E:Nat→Prop} {n m N:Nat} {v v5:Value} {l:List Nd} {cs xs:List Value} {a:Nd} {W5:À} {ob:Obj} (A:Hid (Sw c w n0 W q h K)) (hg:(W.alloc ob).grownBy W5 v.ownBlock) (hvb:v5.ownBlock=v.ownBlock∨v5.ownBlock=some (W.alloc ob).heap.size) (hown':W5.ownsRow n 83 5 v5 N (xs++cs)) (hN:N=l.length+1) (hr:RowG 5 (NdR W (fun b=>nb n v W b∧¬E b)) xs l) (hnd:NdR W (nw m W) cs a) (hcs:cs.length=5) (hm:n≤m∧∀g,v.ownBlock=some g→n≤g∧g<m) (hn:n0≤n) (hE:∀b,E b→b<m∧b<W.heap.size:=by exact fun _ h=>h.elim) (hv0:∀g,v.ownBlock=some g→¬E g:=by exact fun _ _ h=>h.elim):Hid (Sw c w n0 W5 q h (RowE E n v5 (l++[a]))):=by
 have hown:W5.ownsRow n 83 5 v5 (l.length+1) (xs++cs):=hN▸hown'
 have hl:=A.o.lo
 have hv:∀g,v.ownBlock=some g→w.heap.size≤g:=fun g e=>by have:=(hm.2 g e).1;omega
 have st:=stp_push A.o.st hg hv
 have hz:=hg.size
 have R5:RowE E n v5 (l++[a]) W5:=by
  refine⟨?_,fun g e h=>?_,xs++cs,by rw[List.length_append];exact hown,(hr.snoc hcs (hnd.to fun b hb=>⟨⟨⟨Nat.le_trans hm.1 hb.1,hb.2,fun e=>by have:=(hm.2 b e).2;have:=hb.1;omega⟩,fun e=>by have:=(hE b e).1;have:=hb.1;omega⟩,rfl⟩)).to fun cs a x=>x.to fun b hb=>⟨⟨((sub_push hg hvb) b hb.1).1,hb.2⟩,((sub_push hg hvb) b hb.1).2⟩⟩
  rotate_left
  · rcases hvb with e2|e2
    · exact hv0 g (e2▸e) h
    · rw[e] at e2;injection e2 with e2;have:=(hE g h).2;simp at e2;omega
  have hw:W.heap.size≤(W.alloc ob).heap.size:=by simp
  rcases hown.2 with ⟨_,e⟩|⟨g,cap,cur,e,hb,hgg,_⟩
  · omega
  · have:=(Array.getElem?_eq_some_iff.1 hgg).1;omega
 refine⟨A.o.pw.grow hg (fun g e=>by have:=hv g e;omega),st,⟨hl.1,hl.2.1,hl.2.2.1,?_⟩,fun e=>?_,fun X x=>RowX.to R5 x hn⟩
 · have hw:W.heap.size≤(W.alloc ob).heap.size:=by simp
   omega
 · have hb:=A.o.bx e
   exact (hg.block w.heap.size (by have:=hb.lt;simp;omega) (fun e2=>by have:=(hm.2 _ e2.symm).1;omega)).trans (hs_al hb ob)
theorem Sw.eg {α:Type} {Rv:À→À→Value→α→Prop} (A:Hid (Sw c w (w.heap.size+1) W q h K)) {cells:Array Value} {v:Value} {a:α} (hk:∀X,w.heap.size<X.heap.size→K X→Rv w X v a) :
 Hid (Res Rv c w h (.ok a q) (.returned v) (W.setRow w.heap.size cells)):=by
 have hb:∀b,b≠w.heap.size→(W.setRow w.heap.size cells).heap[b]?=W.heap[b]?:=fun b hb=>setRow_other _ _ _ _ hb
 have hz:(W.setRow w.heap.size cells).heap.size=W.heap.size:=by simp
 have s':Stp (only c.pb) w (W.setRow w.heap.size cells):=stp_row A.o.st (Nat.le_refl _) _
 have hl:=A.o.lo
 refine⟨_,rfl,?_,s',?_⟩
 · exact hk _ (by rw[hz];omega) (A.o.k _ ⟨by rw[hz];exact Nat.le_refl _,fun b h1 h2=>hb b ω⟩)
 · exact A.o.pw.stp' (by rw[hz];exact Nat.le_refl _) (fun b h1 h2=>hb b ω) ((hb _ ω).trans A.o.pw.box) (List.suffix_refl _)
theorem Sw.setg (A:Hid (Sw c w n0 W q h K)) {g i:Nat} {v:Value} (hg:n0≤g) (hk:∀X,Agr n0 (W.setCell ⟨g,i,none⟩ v) X→K2 X):Hid (Sw c w n0 (W.setCell ⟨g,i,none⟩ v) q h K2):=by
 have hl:=A.o.lo
 have hb:∀b,b≠g→(W.setCell ⟨g,i,none⟩ v).heap[b]?=W.heap[b]?:=fun b hb=>Below.heap_setCell _ _ _ _ hb
 refine⟨A.o.pw.stp' (by rw[size_set];exact Nat.le_refl _) (fun b h1 h2=>hb b ω) ((hb _ ω).trans A.o.pw.box) (List.suffix_refl _),stp_setO A.o.st ω i v,⟨hl.1,hl.2.1,hl.2.2.1,by rw[size_set];exact hl.2.2.2⟩,fun e=>(hb _ ω).trans (A.o.bx e),hk⟩
theorem agr_set (W:À) (g i:Nat) (v:Value) {n:Nat} (hn:g<n):Agr n W (W.setCell ⟨g,i,none⟩ v):=⟨by rw[size_set];exact Nat.le_refl _,fun b h1 _=>Below.heap_setCell _ _ _ _ (by simp;omega)⟩
theorem hs_agr {n g:Nat} {t:TypeId} {cs:Array Value} {X Y:À} (h:Hs X g t cs) (x:Agr n X Y) (hn:n≤g):Hs Y g t cs:=(x.b g hn h.lt).trans h
theorem Sw.bd {α:Type} {Rv:À→À→Value→α→Prop} {h0:Bool} {R:Re α} (A:Hid (Sw c w n0 W q h K)) (s:Stp (only c.pb) W W') (e:R=.bad q'):Res Rv c w h0 R (.panicked [{ v:=.iface 140 (.int .i64 (offP c.e q')),recovered:=false }]) W':=by
 rw[e];exact⟨rfl,A.o.st.trans s⟩
end
theorem kid0 {X:À} {P:Nat→Prop}:NdsR X P (.slice none 0 0) []:=SlR.nil
theorem kids_of {X:À} {n g:Nat} {cs:Array Value} (hn:n≤g) (hg:Hs X g 83 cs) (css:List (List Value)) (l:List Nd) (hc:cs.toList=css.flatten) (hl:css.length=l.length) (h5:∀x∈css,x.length=5) (hm:l.length≤maxLen) (hr:∀i (h1:i<css.length) (h2:i<l.length),NdR X (nw n X) css[i] l[i]) :
 NdsR X (nw n X) (.slice (some ⟨g,0,none⟩) l.length l.length) l:=by
 refine⟨_,_,fun i=>css.getD i [],rfl,⟨hm,Nat.le_refl _⟩,fun _=>⟨g,0,rfl,⟨hn,hg.lt⟩,fun i hi=>?_⟩,fun i hi=>?_⟩
 · have e:css.getD i []=css[i]' ω:=by simp[List.getD_eq_getElem?_getD,hl,hi]
   show (css.getD i []).length=5∧∀(j:Nat) (u:Value),(css.getD i [])[j]?=some u→_
   rw[e]
   refine⟨h5 _ (List.getElem_mem _),fun j u hu=>?_⟩
   have hj:j<5:=by
    have h1:=(List.getElem?_eq_some_iff.1 hu).1
    rw[h5 _ (List.getElem_mem _)] at h1;exact h1
   rw[Hs.cell hg]
   have:cs.toList[0+i*5+j]?=some u:=by
    rw[hc]
    clear e hr hc hg
    have key:∀(css:List (List Value)) (i:Nat) (h:i<css.length),(∀x∈css,x.length=5)→j<5→css.flatten[i*5+j]?=(css[i])[j]?:=by
     intro css
     induction css with
     | nil=>intro i h;simp at h
     | cons x xs ih =>
      intro i h hx hj
      cases i with
      | zero=>simp only[List.flatten_cons,Nat.zero_mul,Nat.zero_add,List.getElem_cons_zero];rw[List.getElem?_append_left (by rw[hx x (by simp)];exact hj)]
      | succ i =>
       simp only[List.flatten_cons,List.getElem_cons_succ]
       rw[List.getElem?_append_right (by rw[hx x (by simp)];omega),hx x (by simp),show (i+1)*5+j-5=i*5+j by omega]
       exact ih i (by simpa using h) (fun y hy=>hx y (by simp[hy])) hj
    rw[Nat.zero_add,key css i ω h5 hj];exact hu
   rw[←this];simp
 · have e:css.getD i []=css[i]' ω:=by simp[List.getD_eq_getElem?_getD,hl,hi]
   show NdR X (nw n X) (css.getD i []) l[i]
   rw[e];exact hr i ω hi
theorem NdR.lo {X:À} {n m:Nat} {cs:List Value} {a:Nd} (h:NdR X (nw m X) cs a) (hn:n≤m):NdR X (nw n X) cs a:=h.to fun b hb=>⟨⟨Nat.le_trans hn hb.1,hb.2⟩,rfl⟩
theorem kid1 {X:À} {n g:Nat} {c1:List Value} {a:Nd} (hg:Hs X g 83 c1.toArray) (hn:n≤g) (h1:NdR X (nw n X) c1 a) (l1:c1.length=5):NdsR X (nw n X) (.slice (some ⟨g,0,none⟩) 1 1) [a]:=
 kids_of hn hg [c1] [a] (by simp) rfl (by simp[l1]) (by simp[maxLen]) (fun i x y=>by match i,x with|0,_=>exact h1)
theorem kid2 {X:À} {n g:Nat} {c1 c2:List Value} {a b:Nd} (hg:Hs X g 83 (c1++c2).toArray) (hn:n≤g) (h1:NdR X (nw n X) c1 a) (h2:NdR X (nw n X) c2 b) (l1:c1.length=5) (l2:c2.length=5):NdsR X (nw n X) (.slice (some ⟨g,0,none⟩) 2 2) [a,b]:=
 kids_of hn hg [c1,c2] [a,b] (by simp) rfl (by simp[l1,l2]) (by simp[maxLen]) (fun i x y=>by match i,x with|0,_=>exact h1|1,_=>exact h2)
theorem kid3 {X:À} {n g:Nat} {c1 c2 c3:List Value} {a b d:Nd} (hg:Hs X g 83 (c1++(c2++c3)).toArray) (hn:n≤g) (h1:NdR X (nw n X) c1 a) (h2:NdR X (nw n X) c2 b) (h3:NdR X (nw n X) c3 d) (l1:c1.length=5) (l2:c2.length=5) (l3:c3.length=5):NdsR X (nw n X) (.slice (some ⟨g,0,none⟩) 3 3) [a,b,d]:=
 kids_of hn hg [c1,c2,c3] [a,b,d] (by simp) rfl (by simp[l1,l2,l3]) (by simp[maxLen]) (fun i x y=>by match i,x with|0,_=>exact h1|1,_=>exact h2|2,_=>exact h3)
theorem RowX.nds {E:Nat→Prop} {n m:Nat} {v:Value} {l:List Nd} {X:À} (h:RowE E m v l X) (hn:n≤m):NdsR X (nw n X) v l:=by
 obtain⟨_,_,xs,ho,hr⟩:=h
 exact (hr.to fun cs a y=>y.to (P':=nw n X) fun b hb=>⟨⟨Nat.le_trans hn hb.1.1,hb.1.2.1⟩,rfl⟩).sl ho fun g hg=>by have:=ho.lt g hg;exact⟨Nat.le_trans hn this.1,this.2⟩
theorem RowX.v {E:Nat→Prop} {n b:Nat} {v:Value} {l:List Nd} {w X:À} (h:RowE E n v l X) (hn:w.heap.size≤n) (hb:l.length≤b):RowV b w X v l:=by
 obtain⟨_,_,xs,ho,hr⟩:=h
 exact⟨hb,xs,⟨ho.1,ho.2.imp id fun ⟨g,cap,cur,e,hb,t⟩=>⟨g,cap,cur,e,Nat.le_trans hn hb,t⟩⟩,hr.to fun cs a y=>y.to fun b hb=>⟨⟨Nat.le_trans hn hb.1.1,hb.1.2⟩,rfl⟩⟩
end
theorem RowV.form {b:Nat} {w w':À} {v:Value} {l:List Nd} (h:RowV b w w' v l):∃A cap,v=.slice A l.length cap:=by
 obtain⟨_,xs,ho,_⟩:=h;exact row_form ho
theorem Sw.ge {c:Cx} {w W:À} {n0:Nat} {q:List Tk} {h:Bool} {K:À→Prop} (A:Hid (Sw c w n0 W q h K)):w.heap.size≤W.heap.size:=Nat.le_trans A.o.lo.2.2.1 A.o.lo.2.2.2
theorem RowV.nil (b:Nat) (w w':À):RowV b w w' (.slice none 0 0) []:=⟨by simp,[],⟨by simp,.inl ⟨rfl,rfl⟩⟩,RowG.nil _⟩
theorem hmf (fn:Fn) (first cap:Array Value) (w:À):(Instr.makeFunc fn first cap).run prog w=.ok (.func fn first cap) w:=rfl
theorem list_said {F:FuncId} {c:Cx} {h:Bool} {m:M Nd} {s:Ê} {n:Nat} (hE:Ent F) (hS:Suf m) (HI:Said F #[.pointer (some ⟨c.pb,0,none⟩)] c false NdV m) (h0:s.data.toList≠[]) (hn:n≤1000000000) :
 Said 138 #[.pointer (some ⟨c.pb,0,none⟩),.string s,.func (.func F) #[.pointer (some ⟨c.pb,0,none⟩)] #[]] c h (RowV (n+1)) (listP s.data.toList m n):=by
 intro w r k hne
 have A:=Sw.s0 k
 obtain⟨IT,H0⟩:=zd2 (items_said (h:=h) hE hS HI h0 hn) h0
 obtain⟨R,hR⟩:∃R,R=listP s.data.toList m n r:=⟨_,rfl⟩
 rw[←hR] at hne ⊢
 obtain⟨HN,HR⟩:=zd2 hne hR
 clear hR hne k HI h0
 go_in
 go_wp2_with fail
 cases a:(wl r==s.data.toList) with
 | true =>
  have H:=η (HR.o.trans (acc_t a))
  refine (accept_yes A.o.pw a H0.o).mono ?_
  rintro _ W1 ⟨rfl,s1,p⟩
  have S:=η (And.intro s1 p)
  clear s1 p
  go_wp2
  go_ret
  rw[H.o]
  exact⟨_,rfl,RowV.nil _ _ _,S.o.1,S.o.2⟩
 | false =>
  have H:=η (HR.o.trans (acc_f a))
  refine (accept_no A.o.pw a).mono ?_
  rintro _ W1 ⟨rfl,s1,p⟩
  have S:=η s1
  have A:=Sw.n A s1 p
  clear s1 p
  go_wp2_with fail
  cases hm:itemsP s.data.toList m n r with
  | out=>exact absurd (H.o.trans hm) HN.o
  | bad q =>
   refine (IT.o.bad A.o.pw hm).mono ?_
   rintro _ W2 ⟨rfl,s2⟩
   exact⟨rfl,Sw.bd A s2 (H.o.trans hm)⟩
  | ok x q =>
   have HM:=η (H.o.trans hm)
   refine (IT.o.ok A.o.pw hm).mono ?_
   rintro _ W2 ⟨v,rfl,hv,s2,p2⟩
   have S2:=η (And.intro hv (And.intro s2 p2))
   clear hv s2 p2
   go_wp2
   go_ret
   rw[HM.o]
   obtain⟨h1,xs,h2,h3⟩:=S2.o.1
   exact⟨_,rfl,⟨h1,xs,⟨h2.1,h2.2.imp id fun ⟨g,cap,cur,e,hb,t⟩=>⟨g,cap,cur,e,Nat.le_trans S.o.size hb,t⟩⟩,h3.to fun cs a y=>y.to fun b hb=>⟨⟨Nat.le_trans S.o.size hb.1,hb.2⟩,rfl⟩⟩,S.o.trans S2.o.2.1,S2.o.2.2⟩
theorem typ_said (c:Cx):∀(n:Nat),n≤1000000000→∀(h:Bool),Said 144 #[.pointer (some ⟨c.pb,0,none⟩)] c h NdV (typP c.e n)
 | 0,_,h=>fun w r k hne=>absurd rfl hne
 | n+1,hn,h=>fun w r k hne=>by
  have IH:=η (typ_said c n ω)
  have LS:=η (list_said (F:=144) (c:=c) (h:=h) (m:=typP c.e n) (s:=⟨#[41]⟩) (n:=n) (fun _ _=>by kernel_rfl) inferInstance (typ_said c n ω false) π ω)
  have TX:=η k.tx
  obtain⟨W0,HW,A⟩:=Sw.s1 k
  obtain⟨R,hR⟩:∃R,R=typP c.e (n+1) r:=⟨_,rfl⟩
  rw[←hR] at hne ⊢
  obtain⟨io,hio,hiz,his,hib⟩:=info_parts info_83
  have HIO:=η (And.intro hio (And.intro hiz (And.intro his hib)))
  clear hio hiz his hib
  have HMF:=hmf
  obtain⟨HN,HR⟩:=zd2 hne hR
  clear hR hne k
  go_in
  go_upto_region 1 with fail
  rw[←HW.o]
  clear HW
  go_wp2_with fail
  have TX2:=η (A.o.pw.tx)
  refine (offset_any A.o.pw).mono ?_
  rintro _ W1 ⟨rfl,b⟩
  replace A:=Sw.bel A b
  clear b
  go_wp2_with fail
  cases a3:(wl (r)==[91]) with
  | true =>
   have H5:=η (HR.o.trans (acc_t a3))
   refine (accept_yes A.o.pw (s:=⟨#[91]⟩) a3 π).mono ?_
   rintro _ W4 ⟨rfl,s,p⟩
   replace A:=Sw.n A s p
   clear s p HR a3
   go_wp2_with fail
   cases m6:typP c.e n ((r).tail) with
   | out=>exact absurd (H5.o.trans (bd_out m6)) HN.o
   | bad q9 =>
    refine (Said.bad (IH.o h) A.o.pw m6).mono ?_
    rintro _ W7 ⟨rfl,s⟩
    exact⟨rfl,Sw.bd A s (H5.o.trans (bd_bad m6))⟩
   | ok x10 q9 =>
    obtain⟨H8,Z11,Y12⟩:=zd3 (H5.o.trans (bd_ok m6)) (Sw.ge A) (A.o.lo.2.2.2)
    refine (Said.ok (IH.o h) A.o.pw m6).mono ?_
    rintro _ W7 ⟨_,rfl,⟨k13,s14,n15,p16,D17,l18,c19,rfl,hnd⟩,s,p⟩
    replace A:=Sw.nd A s p hnd
    clear s p hnd m6 H5
    replace A:=Sw.al A (cl k13 s14 n15 p16 D17 l18 c19).toArray
    go_wp2_with (refine wpList_load_row rfl 83 _ rfl W7.heap.size rfl 83 _ _ _ (Sw.now A).2 underlying83 rfl Δ ?_)
    cases a20:(wl (q9)==[93]) with
    | false =>
     refine (expect_no A.o.pw (s:=⟨#[93]⟩) a20).mono ?_
     rintro _ W21 ⟨rfl,s⟩
     exact⟨rfl,Sw.bd A s (H8.o.trans (bd_bad (exp_f a20)))⟩
    | true =>
     have H22:=η (H8.o.trans (bd_ok (exp_t a20)))
     refine (expect_yes A.o.pw (s:=⟨#[93]⟩) a20 π).mono ?_
     rintro _ W21 ⟨rfl,s,p⟩
     replace A:=Sw.n A s p
     clear s p H8 a20
     go_wp2_with (refine wpList_load_row rfl 83 _ rfl W7.heap.size rfl 83 _ _ _ (Sw.now A).2 underlying83 rfl Δ ?_)
     have Z23:=η (Sw.ge A)
     replace A:=Sw.al A ((cl k13 s14 n15 p16 D17 l18 c19)).toArray
     refine (node_any _ _ _ _ _ _ _ _).mono ?_
     rintro _ W24 ⟨rfl,b⟩
     replace A:=Sw.bel A b
     clear b
     have E:=Sw.e A (k:=13) (s:=e0) (n:=0) (p:=(offP c.e (r))) (D:=(some ⟨W21.heap.size,0,none⟩)) (l:=1) (cap:=1) (a:=.mk 13 e0 0 (offP c.e (r)) [x10]) fun X hx k=>NdR.of ⟨by unfold i64;omega,(by unfold i64;omega),TX2.o.2.2.2.2⟩ (by show e0.size≤_;decide) (kid1 (k.2) Z23.o (NdR.lo k.1.1.2 Z11.o) rfl)
     have O:=setRow_heap _ _ _ (cl 13 e0 0 (offP c.e (r)) (some ⟨W21.heap.size,0,none⟩) 1 1).toArray _ _ (A.o.bx rfl)
     go_wp2_with (refine wpList_store_row rfl 83 _ _ rfl w.heap.size (cl 13 e0 0 (offP c.e (r)) (some ⟨W21.heap.size,0,none⟩) 1 1).toArray rfl rfl 83 _ (A.o.bx rfl) Δ rfl (by simp[Value.oneCell']) ?_)
     exact bodyPost_ret (results_cell_row results144 _ _ w.heap.size 83 _ _ _ rfl O underlying83 rfl Δ) rfl (by rw[H22.o];exact E.o)
  | false =>
   have H26:=η (HR.o.trans (acc_f a3))
   refine (accept_no A.o.pw (s:=⟨#[91]⟩) a3).mono ?_
   rintro _ W25 ⟨rfl,s,p⟩
   replace A:=Sw.n A s p
   clear s p HR a3
   go_wp2_with fail
   cases a27:(wl (r)==[114,101,102]) with
   | true =>
    have H29:=η (H26.o.trans (acc_t a27))
    refine (accept_yes A.o.pw (s:=⟨#[114,101,102]⟩) a27 π).mono ?_
    rintro _ W28 ⟨rfl,s,p⟩
    replace A:=Sw.n A s p
    clear s p H26 a27
    go_wp2_with fail
    cases a30:uppB (wl ((r).tail)) with
    | false =>
     refine (name_no A.o.pw p_uppB a30).mono ?_
     rintro _ W31 ⟨rfl,s⟩
     exact⟨rfl,Sw.bd A s (H29.o.trans (bd_bad (nam_f a30)))⟩
    | true =>
     have H32:=η (H29.o.trans (bd_ok (nam_t a30)))
     have TS33:=η (A.o.pw.tx.2.1)
     refine (name_yes A.o.pw p_uppB a30 (by rfl)).mono ?_
     rintro _ W31 ⟨rfl,s,p⟩
     replace A:=Sw.n A s p
     clear s p H29 a30
     go_wp2_with fail
     refine (node_any _ _ _ _ _ _ _ _).mono ?_
     rintro _ W34 ⟨rfl,b⟩
     replace A:=Sw.bel A b
     clear b
     have E:=Sw.e A (k:=14) (s:=(wrd ((r).tail))) (n:=0) (p:=(offP c.e (r))) (D:=none) (l:=0) (cap:=0) (a:=.mk 14 (wrd ((r).tail)) 0 (offP c.e (r)) []) fun X hx k=>NdR.of ⟨by unfold i64;omega,(by unfold i64;omega),TX2.o.2.2.2.2⟩ TS33.o (kid0)
     have O:=setRow_heap _ _ _ (cl 14 (wrd ((r).tail)) 0 (offP c.e (r)) none 0 0).toArray _ _ (A.o.bx rfl)
     go_wp2_with (refine wpList_store_row rfl 83 _ _ rfl w.heap.size (cl 14 (wrd ((r).tail)) 0 (offP c.e (r)) none 0 0).toArray rfl rfl 83 _ (A.o.bx rfl) Δ rfl (by simp[Value.oneCell']) ?_)
     exact bodyPost_ret (results_cell_row results144 _ _ w.heap.size 83 _ _ _ rfl O underlying83 rfl Δ) rfl (by rw[H32.o];exact E.o)
   | false =>
    have H36:=η (H26.o.trans (acc_f a27))
    refine (accept_no A.o.pw (s:=⟨#[114,101,102]⟩) a27).mono ?_
    rintro _ W35 ⟨rfl,s,p⟩
    replace A:=Sw.n A s p
    clear s p H26 a27
    go_wp2_with fail
    cases a37:(wl (r)==[102,117,110]) with
    | true =>
     have H39:=η (H36.o.trans (acc_t a37))
     refine (accept_yes A.o.pw (s:=⟨#[102,117,110]⟩) a37 π).mono ?_
     rintro _ W38 ⟨rfl,s,p⟩
     replace A:=Sw.n A s p
     clear s p H36 a37
     go_wp2_with fail
     cases a40:(wl ((r).tail)==[40]) with
     | false =>
      refine (expect_no A.o.pw (s:=⟨#[40]⟩) a40).mono ?_
      rintro _ W41 ⟨rfl,s⟩
      exact⟨rfl,Sw.bd A s (H39.o.trans (bd_bad (exp_f a40)))⟩
     | true =>
      have H42:=η (H39.o.trans (bd_ok (exp_t a40)))
      refine (expect_yes A.o.pw (s:=⟨#[40]⟩) a40 π).mono ?_
      rintro _ W41 ⟨rfl,s,p⟩
      replace A:=Sw.n A s p
      clear s p H39 a40
      go_wp2_with fail
      cases m43:listP [41] (typP c.e n) n (((r).tail).tail) with
      | out=>exact absurd (H42.o.trans (bd_out m43)) HN.o
      | bad q46 =>
       refine (Said.bad (LS.o) A.o.pw m43).mono ?_
       rintro _ W44 ⟨rfl,s⟩
       exact⟨rfl,Sw.bd A s (H42.o.trans (bd_bad m43))⟩
      | ok x47 q46 =>
       obtain⟨H45,Z48,Y49⟩:=zd3 (H42.o.trans (bd_ok m43)) (Sw.ge A) (A.o.lo.2.2.2)
       refine (Said.ok (LS.o) A.o.pw m43).mono ?_
       rintro _ W44 ⟨_,rfl,hrow,s,p⟩
       obtain⟨Ar50,cr51,rfl⟩:=hrow.form
       have HL52:=η (hrow.1)
       replace A:=Sw.rw A s p hrow
       clear s p hrow m43 H42
       go_wp2_with fail
       cases a53:(wl (q46)==[58]) with
       | false =>
        refine (expect_no A.o.pw (s:=⟨#[58]⟩) a53).mono ?_
        rintro _ W54 ⟨rfl,s⟩
        exact⟨rfl,Sw.bd A s (H45.o.trans (bd_bad (exp_f a53)))⟩
       | true =>
        have H55:=η (H45.o.trans (bd_ok (exp_t a53)))
        refine (expect_yes A.o.pw (s:=⟨#[58]⟩) a53 π).mono ?_
        rintro _ W54 ⟨rfl,s,p⟩
        replace A:=Sw.n A s p
        clear s p H45 a53
        go_wp2_with fail
        cases m56:typP c.e n ((q46).tail) with
        | out=>exact absurd (H55.o.trans (bd_out m56)) HN.o
        | bad q59 =>
         refine (Said.bad (IH.o h) A.o.pw m56).mono ?_
         rintro _ W57 ⟨rfl,s⟩
         exact⟨rfl,Sw.bd A s (H55.o.trans (bd_bad m56))⟩
        | ok x60 q59 =>
         obtain⟨H58,Z61,Y62,RL63⟩:=zd4 (H55.o.trans (bd_ok m56)) (Sw.ge A) (A.o.lo.2.2.2) (RowX.lt (Sw.now A).2)
         refine (Said.ok (IH.o h) A.o.pw m56).mono ?_
         rintro _ W57 ⟨_,rfl,⟨k64,s65,n66,p67,D68,l69,c70,rfl,hnd⟩,s,p⟩
         replace A:=Sw.nd A s p hnd
         clear s p hnd m56 H55
         obtain⟨_,_,xs74,ho,hr⟩:=(Sw.now A).1.2
         obtain⟨HO71,HRW72,HD73⟩:=zd3 ho hr ((Sw.now A).2)
         clear ho hr
         go_wp2_with (first|(at_builtin;refine wpList_append_own_at _ rfl (.tmp 38) (.tmp 41) 81 rfl W41.heap.size 83 io _ 5 64 underlying81 HIO.o.1 HIO.o.2.1 HIO.o.2.2.1 HIO.o.2.2.2 rfl π (.slice Ar50 (x47.length) cr51) (x47.length) xs74 rfl (row_al HO71.o _) ⟨W57.heap.size,0,none⟩ 1 1 (cl k64 s65 n66 p67 D68 l69 c70) rfl rfl (World.news_of_block (Hs.new _ _ _)) (by intro u hu;simp at hu;repeat (first|(subst hu;rfl)|(rcases hu with rfl|hu;rfl))) (by have:=HL52.o;unfold maxLen;omega) (by have:=HL52.o;omega) (sz_al (RowX.lt (Sw.now A).1.2).1 _) ?_;intro vv W77 hown hgrow hnil hvb;obtain⟨Ar75,cr76,rfl⟩:=row_form hown;replace A:=Sw.push A hgrow hvb hown (by simp<;>omega) HRW72.o HD73.o rfl RL63.o Y49.o;clear hown hgrow hnil hvb))
         refine (node_any _ _ _ _ _ _ _ _).mono ?_
         rintro _ W79 ⟨rfl,b⟩
         replace A:=Sw.bel A b
         clear b
         have E:=Sw.e A (k:=15) (s:=e0) (n:=0) (p:=(offP c.e (r))) (D:=Ar75) (l:=(x47.length+1)) (cap:=cr76) (a:=.mk 15 e0 0 (offP c.e (r)) (x47++[x60])) fun X hx k=>NdR.of ⟨by unfold i64;omega,(by unfold i64;omega),TX2.o.2.2.2.2⟩ (by show e0.size≤_;decide) (RowX.nds k Z48.o)
         have O:=setRow_heap _ _ _ (cl 15 e0 0 (offP c.e (r)) Ar75 (x47.length+1) cr76).toArray _ _ (A.o.bx rfl)
         go_wp2_with (refine wpList_store_row rfl 83 _ _ rfl w.heap.size (cl 15 e0 0 (offP c.e (r)) Ar75 (x47.length+1) cr76).toArray rfl rfl 83 _ (A.o.bx rfl) Δ rfl (by simp[Value.oneCell']) ?_)
         exact bodyPost_ret (results_cell_row results144 _ _ w.heap.size 83 _ _ _ rfl O underlying83 rfl Δ) rfl (by rw[H58.o];exact E.o)
    | false =>
     have H81:=η (H36.o.trans (acc_f a37))
     refine (accept_no A.o.pw (s:=⟨#[102,117,110]⟩) a37).mono ?_
     rintro _ W80 ⟨rfl,s,p⟩
     replace A:=Sw.n A s p
     clear s p H36 a37
     go_wp2_with fail
     cases a82:typB (wl (r)) with
     | false =>
      refine (name_no A.o.pw p_typB a82).mono ?_
      rintro _ W83 ⟨rfl,s⟩
      exact⟨rfl,Sw.bd A s (H81.o.trans (bd_bad (nam_f a82)))⟩
     | true =>
      have H84:=η (H81.o.trans (bd_ok (nam_t a82)))
      have TS85:=η (A.o.pw.tx.2.1)
      refine (name_yes A.o.pw p_typB a82 (by rfl)).mono ?_
      rintro _ W83 ⟨rfl,s,p⟩
      replace A:=Sw.n A s p
      clear s p H81 a82
      go_wp2_with fail
      refine (node_any _ _ _ _ _ _ _ _).mono ?_
      rintro _ W86 ⟨rfl,b⟩
      replace A:=Sw.bel A b
      clear b
      have E:=Sw.e A (k:=12) (s:=(wrd (r))) (n:=0) (p:=(offP c.e (r))) (D:=none) (l:=0) (cap:=0) (a:=.mk 12 (wrd (r)) 0 (offP c.e (r)) []) fun X hx k=>NdR.of ⟨by unfold i64;omega,(by unfold i64;omega),TX2.o.2.2.2.2⟩ TS85.o (kid0)
      have O:=setRow_heap _ _ _ (cl 12 (wrd (r)) 0 (offP c.e (r)) none 0 0).toArray _ _ (A.o.bx rfl)
      go_wp2_with (refine wpList_store_row rfl 83 _ _ rfl w.heap.size (cl 12 (wrd (r)) 0 (offP c.e (r)) none 0 0).toArray rfl rfl 83 _ (A.o.bx rfl) Δ rfl (by simp[Value.oneCell']) ?_)
      exact bodyPost_ret (results_cell_row results144 _ _ w.heap.size 83 _ _ _ rfl O underlying83 rfl Δ) rfl (by rw[H84.o];exact E.o)
end Go.Proofs.YtbmknjfgjphfbaaGreatDoor
