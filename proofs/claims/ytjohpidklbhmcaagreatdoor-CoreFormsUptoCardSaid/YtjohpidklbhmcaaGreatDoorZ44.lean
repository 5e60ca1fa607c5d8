/- Core -/
import Derived.Test.YtjohpidklbhmcaaGreatDoorZ42
import Derived.Test.YtjohpidklbhmcaaGreatDoorZ37
namespace Go.Proofs.YtjohpidklbhmcaaGreatDoor
set_option linter.all false
open Go.Proofs.Tryz
set_option maxRecDepth 100000
set_option maxHeartbeats 16000000
open Go.RowKit Go.Maps Go.WideMaps Go.ChangeMaps
theorem pl {size:Nat}:∀{css:List (List Value)},(∀c∈css,c.length=size)->css.flatten.length=css.length*size
 | [],_=>by simp
 | c::css,h=>by rw[List.flatten_cons,μ,pl (λx hx=>h x (List.mem_cons_of_mem _ hx)),h c List.mem_cons_self,δ,Nat.succ_mul];omega
theorem pm {size:Nat}:∀(css:List (List Value)),(∀c∈css,c.length=size)->∀i (h:i<css.length),(css.flatten.drop (i*size)).take size=css[i]
 | [],_,i,h=>by simp at h
 | c::css,hl,0,_=>by
  have hc:=hl c List.mem_cons_self
  rw[Nat.zero_mul,List.drop_zero,List.flatten_cons,List.take_append_of_le_length ω,List.take_of_length_le ω];rfl
 | c::css,hl,i+1,h=>by
  have hc:=hl c List.mem_cons_self
  have e:(i+1)*size=size+i*size:=by rw[Nat.succ_mul];omega
  have h2:=pm css (λx hx=>hl x (List.mem_cons_of_mem _ hx)) i (by simpa using h)
  have e2:(c++css.flatten).drop (size+i*size)=css.flatten.drop (i*size):=by
   rw[<-List.drop_drop];congr 1;rw[<-hc,List.drop_left]
  rw[List.flatten_cons,e,e2];exact h2
section
variable {α:Type} {P:Nat->Prop}
def SlR.row {R:List Value->α->Prop} {w:World} {size n cap:Nat} {A:Option Addr} {l:List α} (h:SlR w P size R (.slice A n cap) l) (h0:0<l.length):∃g off xs,A=some ⟨g,off,none⟩/\P g/\RowG size R xs l/\∀j u,xs[j]?=some u->w.cell? ⟨g,off+j,none⟩=some u:=by
 obtain⟨J,H,a,e,I,z,B⟩:=h;injection e with e1 e2 e3;subst e1;obtain⟨g,off,E,D,x⟩:=z h0
 have d:∀c∈(List.range l.length).map a,c.length=size:=λc hm=>by
  obtain⟨i,k,rfl⟩:=List.mem_map.1 hm;exact (x i (List.mem_range.1 k)).1
 refine⟨g,off,((List.range l.length).map a).flatten,E,D,⟨by rw[pl d];simp,λi k=>?_⟩,λj u hu=>?_⟩
 ·rw[pm _ d i (by simpa using k)];simpa using B i k
 have t:j<l.length*size:=by have:=(List.getElem?_eq_some_iff.1 hu).1;rw[pl d] at this;simpa using this
 have v:0<size:=by
  rcases Nat.eq_zero_or_pos size with e|e
  ·rw[e] at t;simp at t
  exact e
 have r:j/size<l.length:=by rw[Nat.div_lt_iff_lt_mul v];exact t
 have q:j/size*size+j%size=j:=by rw[Nat.mul_comm];exact Nat.div_add_mod j size
 have y:=pm _ d (j/size) (by simpa using r)
 have G:(a (j/size))[j%size]?=some u:=by
  have F:(((List.range l.length).map a)[j/size]'(by simpa using r))=a (j/size):=by simp
  rw[F] at y;rw[<-y,List.getElem?_take,if_pos (Nat.mod_lt _ v),List.getElem?_drop,q];exact hu
 have:=(x (j/size) r).2 (j%size) u G;rw[Nat.add_assoc,q] at this;exact this
variable {xs:List Value}
def RowG.one {R:List Value->α->Prop} {size:Nat} {l:List α} (h:RowG size R xs l) (hs:0<size) (h1:∀cs a,R cs a->∀u∈cs,u.oneCell'=true):∀u∈xs,u.oneCell'=true:=by
 intro u k;obtain⟨j,i,rfl⟩:=List.mem_iff_getElem.1 k;have g:j<l.length*size:=by rw[<-h.1];exact i
 have q:j/size<l.length:=by rw[Nat.div_lt_iff_lt_mul hs];exact g
 have d:j/size*size+j%size=j:=by rw[Nat.mul_comm];exact Nat.div_add_mod j size
 refine h1 _ _ (h.2 _ q) _ (List.mem_iff_getElem?.2 ⟨j%size,?_⟩);rw[List.getElem?_take,if_pos (Nat.mod_lt _ hs),List.getElem?_drop,d,ξ i]
def fn_one {w:World} {cs:List Value} {f:Fn} (h:FnR w P cs f):∀u∈cs,u.oneCell'=true:=by
 obtain⟨A,q,k,s,u,B,c,o,x,m,r,e,D,d,rfl,-⟩:=jB h;intro u a;simp only[List.mem_cons,List.not_mem_nil,or_false] at a;rcases a with rfl|rfl|rfl|rfl|rfl|rfl|rfl|rfl|rfl|rfl|rfl<;>rfl
variable {k:Nat}
def RowG.upd {R:List Value->α->Prop} {size:Nat} {xs':List Value} {l:List α} {a:α} (h:RowG size R xs l) (hl:xs'.length=xs.length) (ho:∀j,j<k*size\/(k+1)*size<=j->xs'[j]?=xs[j]?) (hn:R ((xs'.drop (k*size)).take size) a):RowG size R xs' (l.set k a):=by
 refine⟨by rw[hl,h.1];simp,λi hi=>?_⟩;have d:i<l.length:=by simpa using hi
 by_cases e:k=i
 ·subst e;rw[List.getElem_set_self];exact hn
 rw[List.getElem_set_ne e]
 have g:(xs'.drop (i*size)).take size=(xs.drop (i*size)).take size:=by
  apply List.ext_getElem?;intro j;rw[List.getElem?_take,List.getElem?_take];split
  ·rename_i q;rw[List.getElem?_drop,List.getElem?_drop];refine ho _ ?_;rcases Nat.lt_or_gt_of_ne e with e3|e3
   ·right;have:(k+1)*size<=i*size:=Nat.mul_le_mul_right _ e3;omega
   left;have:(i+1)*size<=k*size:=Nat.mul_le_mul_right _ e3;rw[Nat.succ_mul] at this;omega
  rfl
 rw[g];exact h.2 i d
variable {g:Nat}
def xt {W:World} {off:Nat} (h:∀j u,xs[j]?=some u->W.cell? ⟨g,off+j,none⟩=some u):∀j u,xs[j]?=some u->W.cell? ((⟨g,off,none⟩:Addr).add j)=some u:=λj u hu=>by
 have e:(⟨g,off,none⟩:Addr).add j=⟨g,off+j,none⟩:=by
  unfold Addr.add;split
  ·rename_i a;have:j=0:=by simpa using a
   rw[this];rfl
  rfl
 rw[e];exact h j u hu
def put5 (xs:List Value) (i:Nat) (a b c d e:Value):List Value:=((((xs.set i a).set (i+1) b).set (i+2) c).set (i+3) d).set (i+4) e
variable {a d:Value}
def chg_row {R:List Value->Fn->Prop} {l:List Fn} (h:RowG 11 R xs l) (hk:k<l.length) {b c e:Value} {f:Fn} (hf:∀c0 c1 c2 c3 c4 c5 c6 c7 c8 c9 c10,R [c0,c1,c2,c3,c4,c5,c6,c7,c8,c9,c10] l[k]->R [c0,c1,c2,c3,c4,c5,a,b,c,d,e] f):RowG 11 R (put5 xs (k*11+6) a b c d e) (l.set k f):=by
 refine h.upd (by simp[put5]) (λj hj=>?_) ?_
 ·unfold put5;rw[List.getElem?_set_ne ω,List.getElem?_set_ne ω,List.getElem?_set_ne ω,List.getElem?_set_ne ω,List.getElem?_set_ne ω]
 have i:=h.2 k hk
 have g:((xs.drop (k*11)).take 11).length=11:=by
  rw[List.length_take,List.length_drop,h.1];have:(k+1)*11<=l.length*11:=Nat.mul_le_mul_right _ hk;omega
 have q:((put5 xs (k*11+6) a b c d e).drop (k*11)).take 11=put5 ((xs.drop (k*11)).take 11) 6 a b c d e:=by
  unfold put5;simp only[List.drop_set,List.take_set];rw[if_neg ω,if_neg ω,if_neg ω,if_neg ω,if_neg ω];simp only[List.take_set];have:k*11+6-k*11=6:=ω;have:k*11+6+1-k*11=7:=ω;have:k*11+6+2-k*11=8:=ω;have:k*11+6+3-k*11=9:=ω;have:k*11+6+4-k*11=10:=ω;simp only[*]
 rw[q];generalize (xs.drop (k*11)).take 11=cs at i g;match cs,g,i with
 | [c0,c1,c2,c3,c4,c5,c6,c7,c8,c9,c10],_,i=>exact hf _ _ _ _ _ _ _ _ _ _ _ i
def fn_wb {w:World} {f:Fn} {e:Ex} {b c u:Value} (he:ExR w P [a,b,c,d,u] e) (c0 c1 c2 c3 c4 c5 c6 c7 c8 c9 c10:Value) (h:FnR w P [c0,c1,c2,c3,c4,c5,c6,c7,c8,c9,c10] f):FnR w P [c0,c1,c2,c3,c4,c5,a,b,c,d,u] (f.wb e):=by
 obtain⟨v,j,D,i,t,r,q,g,B⟩:=h;have l:j.length=3:=by obtain⟨k,s,x,A,cap,e,-⟩:=ap g;rw[e];rfl
 match j,l with
 | [x,y,z],_ =>
  simp only[List.cons_append,List.nil_append,List.cons.injEq] at i;obtain⟨rfl,rfl,rfl,rfl,rfl,rfl,-⟩:=i;exact⟨_,[_,_,_],[a,b,c,d,u],rfl,t,r,q,g,he⟩
def row_cells {w:World} {base size n cap:Nat} {e:TypeId} (h:w.ownsRow base e size (.slice (some ⟨g,0,none⟩) n cap) n xs):∀j u,xs[j]?=some u->w.cell? ⟨g,j,none⟩=some u:=λj u hu=>dk h hu
def row_put5 {w:World} {base n size cap i:Nat} {e:TypeId} {b c u:Value} (h:w.ownsRow base e size (.slice (some ⟨g,0,none⟩) n cap) n xs) (hi:i+5<=n*size):
 (((((w.setCell ⟨g,i,none⟩ a).setCell ⟨g,i+1,none⟩ b).setCell ⟨g,i+2,none⟩ c).setCell ⟨g,i+3,none⟩ d).setCell ⟨g,i+4,none⟩ u).ownsRow base e size (.slice (some ⟨g,0,none⟩) n cap) n (put5 xs i a b c d u):=
 iH (iH (iH (iH (iH h ω) ω) ω) ω) ω
variable {A0 A1 A2 A3:Option Addr} {q0 q1 q2 q3:Nat}
def iw {p:Pg} (hk:k<p.funs.length) {w:World} (h:PgAt w A0 A1 A2 A3 q0 q1 q2 q3 p) {o x m:Int} {s:ByteArray} {B:Option Addr} {n c:Nat} {e:Ex} (he:ExR w (lo w) [.int .i64 o,.int .i64 x,.int .i64 m,.string s,.slice B n c] e) (hm:p.funs.length<=1000000):
 Calls prog 16 #[.agg #[.slice A0 p.types.length q0,.slice A1 p.effects.length q1,.slice A2 p.funs.length q2,.slice A3 p.actors.length q3],.int .i64 k,.agg #[.int .i64 o,.int .i64 x,.int .i64 m,.string s,.slice B n c]] w λz w'=>∃A2' q2',z=.returned (.agg #[.slice A0 p.types.length q0,.slice A1 p.effects.length q1,.slice A2' p.funs.length q2',.slice A3 p.actors.length q3])/\PgAt w' A0 A1 A2' A3 q0 q1 q2' q3 (chg p k hk e)/\Below w.heap.size w w':=by
 obtain⟨g,ac,xs,rfl,-,L,X⟩:=h.f.row ω;obtain⟨HP,HE,N,ai,az,J⟩:=zd6 h he L X (L.one (by decide) (λ_ _=>fn_one)) hk;obtain⟨y,D⟩:=γ (((w.alloc (.cells #[.slice A0 p.types.length q0,.slice A1 p.effects.length q1,.slice (some ⟨g,ac,none⟩) p.funs.length q2,.slice A3 p.actors.length q3] 27)).alloc (.cells #[.int .i64 o,.int .i64 x,.int .i64 m,.string s,.slice B n c] 43)).alloc (.cells #[.slice none 0 0,.slice none 0 0,.slice none 0 0,.slice none 0 0] 27))
 have C0:Hid (Hs y w.heap.size 27 #[.slice A0 p.types.length q0,.slice A1 p.effects.length q1,.slice (some ⟨g,ac,none⟩) p.funs.length q2,.slice A3 p.actors.length q3]):=by rw[D];exact ((Hs.new _ _ _).alloc _).alloc _
 have C1:Hid (Hs y (w.heap.size+1) 43 #[.int .i64 o,.int .i64 x,.int .i64 m,.string s,.slice B n c]):=by rw[D];exact (dI w _ 43 _).alloc _
 have C2:Hid (Hs y (w.heap.size+1+1) 27 #[.slice none 0 0,.slice none 0 0,.slice none 0 0,.slice none 0 0]):=by rw[D];exact kK w _ _ 27 _
 have B1:Hid (Below w.heap.size w y):=by rw[D];exact ζ3
 have ag:Hid (w.heap.size+3=y.heap.size):=by show _=_;rw[D];simp
 have A:w.heap.size<y.heap.size:=by have:=ag.o;omega
 have bi:w.heap.size+1<y.heap.size:=by have:=ag.o;omega
 have au:=η D;obtain⟨io,ap,an,ao,aq⟩:=info_parts ri;have Z:=η (And.intro ap (And.intro an (And.intro ao aq)));clear h he L X D ap an ao aq;go_enter func16,ntmps16;go_upto_region 1 with (fail);rw[<-au.o];clear au;have a0:=C0.o.c 2;go_upto_region 2 with (at_builtin;refine wpList_append_grows _ rfl (.tmp 7) (.tmp 9) 24 rfl 45 io _ 11 160 underlying24 Z.o.1 Z.o.2.1 Z.o.2.2.1 Z.o.2.2.2 rfl (by decide) (some ⟨y.heap.size,0,none⟩) 0 0 [] rfl (λe=>by cases e) rfl (λ_ _ j u hu=>by simp at hu) ⟨g,ac,none⟩ p.funs.length q2 xs rfl N.o.1 (xt λj u hu=>belC (bel B1.o ζ1) (ai.o j u hu)) az.o (by have:=J.o;omega) (by unfold maxLen;omega) ω ?_;intro v5 w5 G M;rw[Nat.zero_add,List.nil_append] at G;obtain⟨d,r,rfl,ar,-⟩:=ez G (by have:=J.o;omega);have C5:Hid (Hs w5 w.heap.size 27 _):=(C0.o.alloc _).grown M (by simp);have k5:=C5.o.cell 2;have f5:=C5.o.free 2;have a1:=η G;have R:=η M;have a6:=η ar;clear G M ar);obtain⟨U,I⟩:=γ (w5.setCell ⟨w.heap.size,2,none⟩ (.slice (some ⟨d,0,none⟩) p.funs.length r))
 have T:Hid (y.heap.size+1<=d):=by have:=a6.o;show _<=_;simpa using this
 have D0:Hid (Hs U w.heap.size 27 #[.slice A0 p.types.length q0,.slice A1 p.effects.length q1,.slice (some ⟨d,0,none⟩) p.funs.length r,.slice A3 p.actors.length q3]):=by rw[I];exact er C5.o
 have D1:Hid (Hs U (w.heap.size+1) 43 #[.int .i64 o,.int .i64 x,.int .i64 m,.string s,.slice B n c]):=by rw[I];exact cV ((C1.o.alloc _).grown R.o (by simp)) ω
 have D2:Hid (Hs U (w.heap.size+1+1) 27 #[.slice none 0 0,.slice none 0 0,.slice none 0 0,.slice none 0 0]):=by rw[I];exact cV ((C2.o.alloc _).grown R.o (by simp)) ω
 have Y:Hid (U.ownsRow (y.alloc (.cells #[] 45)).heap.size 45 11 (.slice (some ⟨d,0,none⟩) p.funs.length r) p.funs.length xs):=by
  rw[I];refine aI a1.o (cu _ _ _) (λb hb=>?_);simp[Value.ownBlock] at hb;unfold only;show ¬b=w.heap.size;have:=T.o;omega
 have BU:Hid (Below w.heap.size w U):=by rw[I];exact cL (qq (belA B1.o _) R.o) (by show w.heap.size<=w.heap.size;omega)
 have e0:=D0.o.c 2;have e1:=D1.o.c 0;have e2:=D1.o.c 1;have e3:=D1.o.c 2;have e4:=D1.o.c 3;have e5:=D1.o.c 4;have a5:=η N.o.1;have am:Hid (k*11+11<=p.funs.length*11):=by have:=Nat.mul_le_mul_right 11 (Nat.succ_le_of_lt J.o);show _<=_;omega
 have hf:∀j,U.frozen? ⟨d,j,none⟩=false:=λj=>lT Y.o;have E:∀i,i<11->∃u,U.cell? ⟨d,k*11+i,none⟩=some u:=λi hi=>⟨_,dk Y.o (ξ (by have:=a5.o;have:=am.o;omega))⟩
 obtain⟨u6,r6⟩:=E 6 (by decide);obtain⟨u7,r7⟩:=E 7 (by decide);obtain⟨u8,r8⟩:=E 8 (by decide);obtain⟨u9,r9⟩:=E 9 (by decide);obtain⟨bz,a4⟩:=E 10 (by decide);have k0:(0:Int)<=(k:Int):=ω;have k1:(k:Int)<(p.funs.length:Int):=by have:=J.o;omega
 rw[<-I];have HU:=η I;clear I a0 k5 f5 C5 E;go_upto_region 3 with (fail);obtain⟨V,hV⟩:=γ (((((U.setCell ⟨d,k*11+6,none⟩ (.int .i64 o)).setCell ⟨d,k*11+6+1,none⟩ (.int .i64 x)).setCell ⟨d,k*11+6+2,none⟩ (.int .i64 m)).setCell ⟨d,k*11+6+3,none⟩ (.string s)).setCell ⟨d,k*11+6+4,none⟩ (.slice B n c))
 have ay:Hid (V.ownsRow (y.alloc (.cells #[] 45)).heap.size 45 11 (.slice (some ⟨d,0,none⟩) p.funs.length r) p.funs.length (put5 xs (k*11+6) (.int .i64 o) (.int .i64 x) (.int .i64 m) (.string s) (.slice B n c))):=by
  rw[hV];exact row_put5 Y.o (by have:=am.o;omega)
 have l:∀b,b<y.heap.size->b≠d:=λb hb=>by have:=T.o;omega
 have F0:Hid (Hs V w.heap.size 27 #[.slice A0 p.types.length q0,.slice A1 p.effects.length q1,.slice (some ⟨d,0,none⟩) p.funs.length r,.slice A3 p.actors.length q3]):=by
  rw[hV];exact cV (cV (cV (cV (cV D0.o (l _ A)) (l _ A)) (l _ A)) (l _ A)) (l _ A)
 have q:w.heap.size+1+1<y.heap.size:=by have:=ag.o;omega
 have F2:Hid (Hs V (w.heap.size+1+1) 27 #[.slice none 0 0,.slice none 0 0,.slice none 0 0,.slice none 0 0]):=by
  rw[hV];exact cV (cV (cV (cV (cV D2.o (l _ q)) (l _ q)) (l _ q)) (l _ q)) (l _ q)
 have BV:Hid (Below w.heap.size w V):=by
  have hg:w.heap.size<=d:=by have:=T.o;omega
  rw[hV];exact cL (cL (cL (cL (cL BU.o hg) hg) hg) hg) hg
 rw[<-hV];clear hV e0 e1 e2 e3 e4 e5 hf r6 r7 r8 r9 a4 D0 D1 D2 BU Y;have y0:=F0.o.c 0;have y1:=F0.o.c 1;have y2:=F0.o.c 2;have y3:=F0.o.c 3;obtain⟨z0,z1,z2,z3,f0,f1,f2,f3⟩:=kk F2.o;have ax:=η (er (i:=3) (v:=.slice A3 p.actors.length q3) (er (i:=2) (v:=.slice (some ⟨d,0,none⟩) p.funs.length r) (er (i:=1) (v:=.slice A1 p.effects.length q1) (er (i:=0) (v:=.slice A0 p.types.length q0) F2.o))));have W:w.heap.size<=w.heap.size+1+1:=ω;have BF:=η (cL (a:=⟨w.heap.size+1+1,3,none⟩) (v:=.slice A3 p.actors.length q3) (cL (a:=⟨w.heap.size+1+1,2,none⟩) (v:=.slice (some ⟨d,0,none⟩) p.funs.length r) (cL (a:=⟨w.heap.size+1+1,1,none⟩) (v:=.slice A1 p.effects.length q1) (cL (a:=⟨w.heap.size+1+1,0,none⟩) (v:=.slice A0 p.types.length q0) BV.o W) W) W) W)
 have H:∀b,(Value.slice (some (⟨d,0,none⟩:Addr)) p.funs.length r).ownBlock=some b->¬only (w.heap.size+1+1) b:=λb hb=>by
  simp[Value.ownBlock] at hb;unfold only;have:=l _ q;omega
 have O:=η (aI (aI (aI (aI ay.o (cu _ ⟨w.heap.size+1+1,0,none⟩ (.slice A0 p.types.length q0)) H) (cu _ ⟨w.heap.size+1+1,1,none⟩ (.slice A1 p.effects.length q1)) H) (cu _ ⟨w.heap.size+1+1,2,none⟩ (.slice (some ⟨d,0,none⟩) p.funs.length r)) H) (cu _ ⟨w.heap.size+1+1,3,none⟩ (.slice A3 p.actors.length q3)) H);clear H l;go_wp2_with fail;refine bodyPost_ret (results_cell_row results16 _ _ (w.heap.size+1+1) 27 #[.slice A0 p.types.length q0,.slice A1 p.effects.length q1,.slice (some ⟨d,0,none⟩) p.funs.length r,.slice A3 p.actors.length q3] _ _ rfl ax.o underlying27 rfl (by kernel_rfl)) rfl ?_;generalize (((V.setCell ⟨w.heap.size+1+1,0,none⟩ (.slice A0 p.types.length q0)).setCell ⟨w.heap.size+1+1,1,none⟩ (.slice A1 p.effects.length q1)).setCell ⟨w.heap.size+1+1,2,none⟩ (.slice (some ⟨d,0,none⟩) p.funs.length r)).setCell ⟨w.heap.size+1+1,3,none⟩ (.slice A3 p.actors.length q3)=F at BF O ⊢;have S:=ae BF.o;have hq:=(HP.o.bel BF.o)
 have hR:RowG 11 (FnR F (lo F)) (put5 xs (k*11+6) (.int .i64 o) (.int .i64 x) (.int .i64 m) (.string s) (.slice B n c)) (chg p k J.o e).funs:=
  chg_row (N.o.to λ_ _ h=>h.to S) J.o (λ_ _ _ _ _ _ _ _ _ _ _ h=>fn_wb (HE.o.to S) _ _ _ _ _ _ _ _ _ _ _ h)
 have ad:(chg p k J.o e).funs.length=p.funs.length:=by show (p.funs.set k _).length=_;simp
 have hS:=hR.sl (P:=lo F) (v:=.slice (some ⟨d,0,none⟩) p.funs.length r) (by rw[ad];exact O.o) (λb hb=>by
  obtain⟨g',c',e2,_,hl⟩:=ez O.o (by have:=J.o;omega);simp[Value.ownBlock] at hb e2;unfold lo;omega)
 exact⟨some ⟨d,0,none⟩,r,rfl,⟨hq.t,hq.e,by rw[ad];exact hS,hq.a⟩,BF.o⟩
def pL {p:Pg} {M N:Nat} (h:Fit p M) (hm:M<=N) (hn:N<=1000000000):Fit p N:=⟨h.small,h.fn,⟨λf hf=>by have:=h.deep.funs f hf;omega,λa ha v hv=>by have:=h.deep.vars a ha v hv;omega,λa ha v hv=>by have:=h.deep.on a ha v hv;omega⟩,hn⟩
def fit_chg {p:Pg} {M:Nat} (h:Fit p M) (hk:k<p.funs.length) {x:Ex} (hx:x.deep<=M):Fit (chg p k hk x) M:=by
 have a:(chg p k hk x).funs.length=p.funs.length:=by show (p.funs.set k _).length=_;simp
 refine⟨⟨h.small.ctors,h.small.types,h.small.effects,by rw[a];exact h.small.funs,h.small.actors⟩,h.fn,⟨λf hf=>?_,h.deep.vars,h.deep.on⟩,h.m⟩;rcases List.mem_or_eq_of_mem_set hf with h1|h1
 ·exact h.deep.funs f h1
 subst h1;exact hx
def c_chg {p:Pg} (hk:k<p.funs.length) {x:Ex} {r:Bool} (hf:Fit p 8003) (hx:x.deep<=8003) (hr:aW (chg p k hk x) 8003=r) {w:World} (h:PgAt w A0 A1 A2 A3 q0 q1 q2 q3 (chg p k hk x)):
 Calls prog 11 #[.agg #[.slice A0 p.types.length q0,.slice A1 p.effects.length q1,.slice A2 p.funs.length q2,.slice A3 p.actors.length q3]] w (aE r w):=by
 have:=dl h (fit_chg hf hk hx);have a:(chg p k hk x).funs.length=p.funs.length:=by show (p.funs.set k _).length=_;simp
 rw[hr,a] at this;exact this
structure FPre (p:Pg) (k:Nat) (hk:k<p.funs.length):Prop where
 fit:Fit p 8003
 len:p.funs.length<=1000000
 deep:2*Ex.deep p.funs[k].body+2<=8003
 yes:aW (chg p k hk (exIf p.funs[k].body)) 8003=true
 no:aW (chg p k hk (oQ p.funs[k].body)) 8003=decide (p.funs[k].result.kind=2)
 neg:aW (chg p k hk (oR p.funs[k].body)) 8003=decide (p.funs[k].result.kind=3)
 cat:aW (chg p k hk (kW p.funs[k].body)) 8003=ju p.funs[k].result
def fpre_of {p:Pg} (hs:szPg p<=4000) (hr:aW p 8003=true) (hk:k<p.funs.length):FPre p k hk:=by
 have d:=uK hs;have g:=d.funs _ (ν hk);have a:=wL (M:=8000) hr (pL (py hs) (by omega:4000<=8000) ω).deep hk ω;exact⟨pL (py hs) ω ω,(sD hs).funs,ω,a.1,a.2.1,a.2.2.1,a.2.2.2⟩
variable {k:Int}
def ty_kind {w:World} {l:List Value} {t:Ty} (h:TyR w P (.int .i64 k::l) t):t.kind=k:=by
 obtain⟨g,s,a,A,cap,e,d,-⟩:=ap h;rw[d];injection e with e1 _;injection e1 with _ e1;exact e1.symm
section
variable {W:World} {g t:Nat} {o x m:Int} {s:ByteArray} {D:Option Addr} {n d:Nat} {b:Ex} (hb:ExR W (lo W) [.int .i64 o,.int .i64 x,.int .i64 m,.string s,.slice D n d] b)
include hb
theorem ex_1 (op:Int) (h:Hs W g t #[.int .i64 o,.int .i64 x,.int .i64 m,.string s,.slice D n d]) (h1:0<=op:=by decide) (h2:op<=100:=by decide):ExR W (lo W) [.int .i64 op,.int .i64 0,.int .i64 0,.string ⟨#[]⟩,.slice (some ⟨g,0,none⟩) 1 1] (.mk op 0 0 nm0 [b]):=
 ExR.of ⟨aZ op h1 h2,aZ 0,aZ 0⟩ (by decide) (ia (size:=5) (R:=ExR W (lo W)) [[.int .i64 o,.int .i64 x,.int .i64 m,.string s,.slice D n d]] [b] 1 h h.lt rfl (by simp) rfl (by decide) (by decide) ⟨hb,trivial⟩)
theorem ex_2 (h:Hs W g t #[.int .i64 o,.int .i64 x,.int .i64 m,.string s,.slice D n d,.int .i64 o,.int .i64 x,.int .i64 m,.string s,.slice D n d]):ExR W (lo W) [.int .i64 25,.int .i64 0,.int .i64 0,.string ⟨#[]⟩,.slice (some ⟨g,0,none⟩) 2 2] (kW b):=
 ExR.of ⟨aZ 25,aZ 0,aZ 0⟩ (by decide) (ia (size:=5) (R:=ExR W (lo W)) [[.int .i64 o,.int .i64 x,.int .i64 m,.string s,.slice D n d],[.int .i64 o,.int .i64 x,.int .i64 m,.string s,.slice D n d]] [b,b] 2 h h.lt rfl (by simp) rfl (by decide) (by decide) ⟨hb,hb,trivial⟩)
theorem ex_3 (h:Hs W g t #[.int .i64 2,.int .i64 1,.int .i64 0,.string ⟨#[]⟩,.slice none 0 0,.int .i64 o,.int .i64 x,.int .i64 m,.string s,.slice D n d,.int .i64 o,.int .i64 x,.int .i64 m,.string s,.slice D n d]):ExR W (lo W) [.int .i64 15,.int .i64 0,.int .i64 0,.string ⟨#[]⟩,.slice (some ⟨g,0,none⟩) 3 3] (exIf b):=
 ExR.of ⟨aZ 15,aZ 0,aZ 0⟩ (by decide) (ia (size:=5) (R:=ExR W (lo W)) [[.int .i64 2,.int .i64 1,.int .i64 0,.string ⟨#[]⟩,.slice none 0 0],[.int .i64 o,.int .i64 x,.int .i64 m,.string s,.slice D n d],[.int .i64 o,.int .i64 x,.int .i64 m,.string s,.slice D n d]] [iA,b,b] 3 h h.lt rfl (by simp) rfl (by decide) (by decide) ⟨kI (aZ 2) (aZ 1),hb,hb,trivial⟩)
end
structure FAt (W:World) (b0 b6 b7:Nat) (A0 A1 A2 A3:Option Addr) (q0 q1 q2 q3:Nat) (p:Pg) (o x m:Int) (s:ByteArray) (D:Option Addr) (n d:Nat) (b:Ex) (ct:Array Value):Prop where
 bx:Hs W b0 27 #[.slice A0 p.types.length q0,.slice A1 p.effects.length q1,.slice A2 p.funs.length q2,.slice A3 p.actors.length q3]
 bb:Hs W b6 43 #[.int .i64 o,.int .i64 x,.int .i64 m,.string s,.slice D n d]
 bt:Hs W b7 40 ct
 pg:PgAt W A0 A1 A2 A3 q0 q1 q2 q3 p
 ex:ExR W (lo W) [.int .i64 o,.int .i64 x,.int .i64 m,.string s,.slice D n d] b
def FAt.bel {W W':World} {b0 b6 b7:Nat} {p:Pg} {o x m:Int} {s:ByteArray} {D:Option Addr} {n d:Nat} {b:Ex} {ct:Array Value} (h:FAt W b0 b6 b7 A0 A1 A2 A3 q0 q1 q2 q3 p o x m s D n d b ct) (hb:Below W.heap.size W W'):FAt W' b0 b6 b7 A0 A1 A2 A3 q0 q1 q2 q3 p o x m s D n d b ct:=⟨aH h.bx hb,aH h.bb hb,aH h.bt hb,h.pg.bel hb,h.ex.to (ae hb)⟩
def tX {p:Pg} {kn:Nat} (hk:kn<p.funs.length) (hp:FPre p kn hk) {w:World} (hR:ShaT.Rounds w) (h:PgAt w A0 A1 A2 A3 q0 q1 q2 q3 p) (hs:szPg p<=4000) (hr:aW p 8003=true):
 Calls prog 6 #[.agg #[.slice A0 p.types.length q0,.slice A1 p.effects.length q1,.slice A2 p.funs.length q2,.slice A3 p.actors.length q3],.int .i64 kn] w (aE true w):=by
 obtain⟨W1,T⟩:=γ (w.alloc (.cells #[.slice A0 p.types.length q0,.slice A1 p.effects.length q1,.slice A2 p.funs.length q2,.slice A3 p.actors.length q3] 27))
 have C1:Hid (Hs W1 w.heap.size 27 #[.slice A0 p.types.length q0,.slice A1 p.effects.length q1,.slice A2 p.funs.length q2,.slice A3 p.actors.length q3]):=by rw[T];exact Hs.new _ _ _
 have B1:Hid (Below w.heap.size w W1):=by rw[T];exact ζ1
 have az:=η T;have an:w.heap.size<W1.heap.size:=by rw[T];simp
 obtain⟨G,HR,HS,a4,a5⟩:=zd5 hp (hR.mono B1.o) hs hr (h.bel B1.o);have ah:p.funs.length<=1000000:=hp.len;clear T hp hR hs hr h;go_enter func6,ntmps6;go_upto_region 1 with (fail);rw[<-az.o];clear az;go_upto_region 2 with (go_at_call 7;refine (pU HR.o).mono ?_;rintro e2 w2 ⟨rfl,R⟩);obtain⟨C2,ar,B2⟩:=zd3 (aH C1.o R) (a5.o.bel R) (bel B1.o R);have am:w.heap.size<w2.heap.size:=ρ an R.size;clear R;have O:=C2.o.c 0;have N:=C2.o.c 1;have M:=C2.o.c 2;have L:=C2.o.c 3;have k0:(0:Int)<=(kn:Int):=ω;have k1:(kn:Int)<(p.funs.length:Int):=by have:=hk;omega
 have l0:decide ((kn:Int)<0)=false:=decide_eq_false ω;have l1:decide ((p.funs.length:Int)<=(kn:Int))=false:=decide_eq_false ω;go_upto_region 4 with (first|(go_at_call 8;refine (iR ar.o (by have:=HS.o;omega)).mono ?_;rw[decide_eq_true HS.o];rintro e3 w3 ⟨rfl,J⟩;have b0:=belC J O;have b1:=belC J N;have b2:=belC J M;have b3:=belC J L;have aq:=η (ar.o.bel J);have ak:=η J;clear J)|(go_at_call 11;refine (dl aq.o G.o.fit).mono ?_;rw[a4.o];rintro e4 H ⟨rfl,I⟩;have d0:=belC I b0;have d1:=belC I b1;have d2:=belC I b2;have d3:=belC I b3;have ap:=η (aq.o.bel I);have aj:=η I;clear I));obtain⟨g,bl,A,q,k,sn,ta,B,c,o,x,m,r,es,D,d,rfl,ax,m0,m1,m2,m3,m4,m5,m6,m7,m8,m9,bm,-,-,-,-,aw,ay⟩:=jd ap.o.f hk;have a9:g<H.heap.size:=ax;have bn:w.heap.size<H.heap.size:=ρ am (ψ ak.o.size aj.o.size);obtain⟨a6,ai⟩:=zd2 ay (ty_kind aw);clear ay aw b0 b1 b3 O N M L ax;go_upto_region 6 with (fail);obtain⟨U,hU⟩:=γ ((H.alloc (.cells #[.int .i64 o,.int .i64 x,.int .i64 m,.string r,.slice D es.length d] 43)).alloc (.cells #[.int .i64 k,.string sn,.slice B ta.length c] 40))
 have BU:Below H.heap.size H U:=by rw[hU];exact ζ2
 have F:Hid (FAt U w.heap.size H.heap.size (H.heap.size+1) A0 A1 (some ⟨g,bl,none⟩) A3 q0 q1 q2 q3 p o x m r D es.length d p.funs[kn].body #[.int .i64 k,.string sn,.slice B ta.length c]):=
  ⟨aH (aH (aH C2.o ak.o) aj.o) BU,by rw[hU];exact (Hs.new _ _ _).alloc _,by rw[hU];exact dI _ _ _ _,ap.o.bel BU,a6.o.to (ae BU)⟩
 have B6:=η (bel (bel (bel B2.o ak.o) aj.o) BU);rw[<-hU];clear hU BU C2 C1 ap aq ar a5 a6 B2 B1 ak aj d0 d1 d2 d3 b2 m0 m1 m2 m3 m4 m5 m6 m7 m8 m9 bm k0 k1 l0 l1 an am bn a9 HR HS a4;obtain⟨z2,ag⟩:∃z,(k==2)=z:=⟨_,rfl⟩
 obtain⟨z3,af⟩:∃z,(k==3)=z:=⟨_,rfl⟩
 obtain⟨z4,ad⟩:∃z,(k==4)=z:=⟨_,rfl⟩
 obtain⟨z5,ac⟩:∃z,(k==5)=z:=⟨_,rfl⟩
 have R2:Hid (aW (chg p kn hk (oQ p.funs[kn].body)) 8003=z2):=by show _=_;rw[G.o.no,ai.o,<-ag];rfl
 have R3:Hid (aW (chg p kn hk (oR p.funs[kn].body)) 8003=z3):=by show _=_;rw[G.o.neg,ai.o,<-af];rfl
 have R4:Hid (aW (chg p kn hk (kW p.funs[kn].body)) 8003=(z4||z5)):=by show _=_;rw[G.o.cat];unfold ju;rw[ai.o,<-ad,<-ac]
 have HZ:=η (And.intro ag (And.intro af (And.intro ad ac)));clear ag af ad ac ai;have V:w.heap.size<U.heap.size:=F.o.bx.lt;have W:H.heap.size<U.heap.size:=F.o.bb.lt;have O:=F.o.bx.c 0;have N:=F.o.bx.c 1;have M:=F.o.bx.c 2;have L:=F.o.bx.c 3;have c0:=F.o.bb.c 0;have c1:=F.o.bb.c 1;have Z:=F.o.bb.c 2;have Y:=F.o.bb.c 3;have X:=F.o.bb.c 4;go_upto_region 7 with (first|(go_at_call 16;refine (iw hk (F.o.bel ζ1).pg (ex_3 (F.o.bel ζ1).ex (Hs.new _ _ _)) ah).mono ?_;rintro e8 w8 ⟨A8,q8,rfl,j,t⟩;have i:=η t;have u:=η j;clear t j)|(go_at_call 11;refine (c_chg hk G.o.fit (by have:=G.o.deep;simp only[exIf,oQ,oR,kW,Ex.deep,Ex.deeps,iA];omega) G.o.yes u.o).mono ?_;rintro e9 U7 ⟨rfl,l⟩;have a:=η l;clear l));obtain⟨E,B7⟩:=zd2 (F.o.bel (bel (bel ζ1 i.o) a.o)) (bel B6.o (bel (bel ζ1 i.o) a.o));clear O N M L c0 c1 Z Y X F B6 i a u V W;have V:w.heap.size<U7.heap.size:=E.o.bx.lt;have W:H.heap.size<U7.heap.size:=E.o.bb.lt;have O:=E.o.bx.c 0;have N:=E.o.bx.c 1;have M:=E.o.bx.c 2;have L:=E.o.bx.c 3;have c0:=E.o.bb.c 0;have c1:=E.o.bb.c 1;have Z:=E.o.bb.c 2;have Y:=E.o.bb.c 3;have X:=E.o.bb.c 4
 go_upto_region 8 with (first|(go_at_call 16;refine (iw hk (E.o.bel ζ1).pg (ex_1 (E.o.bel ζ1).ex 18 (Hs.new _ _ _)) ah).mono ?_;rintro e8 w8 ⟨A8,q8,rfl,j,t⟩;have i:=η t;have u:=η j;clear t j)|(go_at_call 11;refine (c_chg hk G.o.fit (by have:=G.o.deep;simp only[exIf,oQ,oR,kW,Ex.deep,Ex.deeps,iA];omega) R2.o u.o).mono ?_;rintro e9 U8 ⟨rfl,l⟩;have a:=η l;clear l));obtain⟨y,B8⟩:=zd2 (E.o.bel (bel (bel ζ1 i.o) a.o)) (bel B7.o (bel (bel ζ1 i.o) a.o));clear O N M L c0 c1 Z Y X E B7 i a u V W;have V:w.heap.size<U8.heap.size:=y.o.bx.lt;have W:H.heap.size<U8.heap.size:=y.o.bb.lt;have O:=y.o.bx.c 0;have N:=y.o.bx.c 1;have M:=y.o.bx.c 2;have L:=y.o.bx.c 3;have c0:=y.o.bb.c 0;have c1:=y.o.bb.c 1;have Z:=y.o.bb.c 2;have Y:=y.o.bb.c 3;have X:=y.o.bb.c 4;go_upto_region 9 with (first|(go_at_call 16;refine (iw hk (y.o.bel ζ1).pg (ex_1 (y.o.bel ζ1).ex 19 (Hs.new _ _ _)) ah).mono ?_;rintro e8 w8 ⟨A8,q8,rfl,j,t⟩;have i:=η t;have u:=η j;clear t j)|(go_at_call 11;refine (c_chg hk G.o.fit (by have:=G.o.deep;simp only[exIf,oQ,oR,kW,Ex.deep,Ex.deeps,iA];omega) R3.o u.o).mono ?_;rintro e9 U9 ⟨rfl,l⟩;have a:=η l;clear l));obtain⟨v,B9⟩:=zd2 (y.o.bel (bel (bel ζ1 i.o) a.o)) (bel B8.o (bel (bel ζ1 i.o) a.o));clear O N M L c0 c1 Z Y X y B8 i a u V W;have V:w.heap.size<U9.heap.size:=v.o.bx.lt;have W:H.heap.size<U9.heap.size:=v.o.bb.lt;have O:=v.o.bx.c 0
 have N:=v.o.bx.c 1;have M:=v.o.bx.c 2;have L:=v.o.bx.c 3;have c0:=v.o.bb.c 0;have c1:=v.o.bb.c 1;have Z:=v.o.bb.c 2;have Y:=v.o.bb.c 3;have X:=v.o.bb.c 4;go_upto_region 10 with (first|(go_at_call 16;refine (iw hk (v.o.bel ζ1).pg (ex_2 (v.o.bel ζ1).ex (Hs.new _ _ _)) ah).mono ?_;rintro e8 w8 ⟨A8,q8,rfl,j,t⟩;have i:=η t;have u:=η j;clear t j)|(go_at_call 11;refine (c_chg hk G.o.fit (by have:=G.o.deep;simp only[exIf,oQ,oR,kW,Ex.deep,Ex.deeps,iA];omega) R4.o u.o).mono ?_;rintro e9 UA ⟨rfl,l⟩;have a:=η l;clear l));obtain⟨FA,BA⟩:=zd2 (v.o.bel (bel (bel ζ1 i.o) a.o)) (bel B9.o (bel (bel ζ1 i.o) a.o));clear O N M L c0 c1 Z Y X v B9 i a u V W;have t0:=FA.o.bt.c 0;obtain⟨ag,af,ad,ac⟩:=HZ.o;clear HZ R2 R3 R4 FA
 cases z2<;>cases z3<;>cases z4<;>cases z5
 all_goals
  go_wp2_with fail;go_ret;exact⟨rfl,BA.o⟩
inductive Idle (p:Pg) (k:Int):Prop
 | big (h:¬szPg p<=4000)
 | wrong (hs:szPg p<=4000) (h:aW p 8003=false)
 | low (hs:szPg p<=4000) (hr:aW p 8003=true) (h:k<0)
 | high (hs:szPg p<=4000) (hr:aW p 8003=true) (h0:0<=k) (h:(p.funs.length:Int)<=k)
def jw {p:Pg} (hi:Idle p k) {w:World} (hR:ShaT.Rounds w) (h:PgAt w A0 A1 A2 A3 q0 q1 q2 q3 p) (hb:szPg p<=4000000000000):
 Calls prog 6 #[.agg #[.slice A0 p.types.length q0,.slice A1 p.effects.length q1,.slice A2 p.funs.length q2,.slice A3 p.actors.length q3],.int .i64 k] w (aE true w):=by
 obtain⟨V,u⟩:=γ (w.alloc (.cells #[.slice A0 p.types.length q0,.slice A1 p.effects.length q1,.slice A2 p.funs.length q2,.slice A3 p.actors.length q3] 27))
 have W:Hid (Hs V w.heap.size 27 #[.slice A0 p.types.length q0,.slice A1 p.effects.length q1,.slice A2 p.funs.length q2,.slice A3 p.actors.length q3]):=by rw[u];exact Hs.new _ _ _
 have B:Hid (Below w.heap.size w V):=by rw[u];exact ζ1
 obtain⟨D,Y,v,E⟩:=zd4 u (hR.mono B.o) hb (h.bel B.o);clear u hR h hb;go_enter func6,ntmps6;go_upto_region 1 with (fail);rw[<-D.o];clear D;go_upto_region 2 with (go_at_call 7;refine (pU Y.o).mono ?_;rintro e2 Z ⟨rfl,t⟩);obtain⟨y,g,A⟩:=zd3 (aH W.o t) (E.o.bel t) (bel B.o t);clear t W E B;have M:=y.o.c 0;have L:=y.o.c 1;have J:=y.o.c 2;have I:=y.o.c 3
 cases hi with
 | big hs =>
  have r:=η (decide_eq_false hs);clear hs;go_wp2_with (go_at_call 8;refine (iR g.o v.o).mono ?_;rw[r.o];rintro G F ⟨rfl,a⟩;have i:=η a;clear a);go_ret;exact⟨rfl,bel A.o i.o⟩
 | wrong hs hr =>
  obtain⟨r,x,l⟩:=zd3 (decide_eq_true hs) (pL (py hs) (by omega:4000<=8003) ω) hr;clear hs hr;go_wp2_with (first|(go_at_call 8;refine (iR g.o v.o).mono ?_;rw[r.o];rintro G F ⟨rfl,a⟩;have U:=belC a M;have T:=belC a L;have H:=belC a J;have R:=belC a I;have j:=η (g.o.bel a);have i:=η a;clear a)|(go_at_call 11;refine (dl j.o x.o).mono ?_;rw[l.o];rintro O N ⟨rfl,d⟩;have q:=η d;clear d));go_ret;exact⟨rfl,bel (bel A.o i.o) q.o⟩
 | low hs hr hk =>
  obtain⟨r,x,l⟩:=zd3 (decide_eq_true hs) (pL (py hs) (by omega:4000<=8003) ω) hr;have X:decide (k<0)=true:=decide_eq_true hk;clear hs hr hk;go_wp2_with (first|(go_at_call 8;refine (iR g.o v.o).mono ?_;rw[r.o];rintro G F ⟨rfl,a⟩;have U:=belC a M;have T:=belC a L;have H:=belC a J;have R:=belC a I;have j:=η (g.o.bel a);have i:=η a;clear a)|(go_at_call 11;refine (dl j.o x.o).mono ?_;rw[l.o];rintro O N ⟨rfl,d⟩;have q:=η d;clear d));go_ret;exact⟨rfl,bel (bel A.o i.o) q.o⟩
 | high hs hr hk0 hk =>
  obtain⟨r,x,l⟩:=zd3 (decide_eq_true hs) (pL (py hs) (by omega:4000<=8003) ω) hr;have X:decide (k<0)=false:=decide_eq_false ω;have l1:decide ((p.funs.length:Int)<=k)=true:=decide_eq_true hk;clear hs hr hk0 hk;go_wp2_with (first|(go_at_call 8;refine (iR g.o v.o).mono ?_;rw[r.o];rintro G F ⟨rfl,a⟩;have U:=belC a M;have T:=belC a L;have H:=belC a J;have R:=belC a I;have j:=η (g.o.bel a);have i:=η a;clear a)|(go_at_call 11;refine (dl j.o x.o).mono ?_;rw[l.o];rintro O N ⟨rfl,d⟩;have d2:=belC d H;have q:=η d;clear d));go_ret;exact⟨rfl,bel (bel A.o i.o) q.o⟩
def tW {p:Pg} {w:World} (hR:ShaT.Rounds w) (h:PgAt w A0 A1 A2 A3 q0 q1 q2 q3 p) (hb:szPg p<=4000000000000):
 Calls prog 6 #[.agg #[.slice A0 p.types.length q0,.slice A1 p.effects.length q1,.slice A2 p.funs.length q2,.slice A3 p.actors.length q3],.int .i64 k] w (aE true w):=by
 by_cases a:szPg p<=4000
 ·cases hr:aW p 8003 with
  | false=>exact jw (.wrong a hr) hR h hb
  | true =>
   by_cases j:k<0
   ·exact jw (.low a hr j) hR h hb
   by_cases i:(p.funs.length:Int)<=k
   ·exact jw (.high a hr ω i) hR h hb
   obtain⟨d,rfl⟩:∃d:Nat,k=(d:Int):=⟨k.toNat,ω⟩
   have g:d<p.funs.length:=ω;exact tX g (fpre_of a hr g) hR h a hr
 exact jw (.big a) hR h hb
end
end Go.Proofs.YtjohpidklbhmcaaGreatDoor
