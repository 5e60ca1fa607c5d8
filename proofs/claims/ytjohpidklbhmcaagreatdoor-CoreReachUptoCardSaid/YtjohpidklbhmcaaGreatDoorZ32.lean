/- Core -/
import Derived.Test.YtjohpidklbhmcaaGreatDoorZ29
namespace Go.Proofs.YtjohpidklbhmcaaGreatDoor
set_option linter.all false
open Go.Proofs.Tryz
set_option maxRecDepth 100000
set_option maxHeartbeats 2000000
open Go.RowKit Go.Maps Go.WideMaps Go.ChangeMaps
def cfN (l:List Ctr):Nat:=(l.map λc=>c.fields.length).sum
def di (l:List Dcl):Nat:=(l.map λd=>cfN d.ctors).sum
variable {j:Nat}
def cfN_drop {l:List Ctr} (h:j<l):cfN (l.drop j)=l[j].fields.length+cfN (l.drop (j+1)):=by
 unfold cfN;rw[bk h,List.map_cons,List.sum_cons]
def sd {l:List Dcl} (h:j<l):di (l.drop j)=cfN l[j].ctors+di (l.drop (j+1)):=by
 unfold di;rw[bk h,List.map_cons,List.sum_cons]
def jf (l:List Ctr):Nat:=l.length
def ni (S:FSt) (o:Nat):(S.settle o).wait=S.wait:=by unfold FSt.settle;split<;>rfl
def gK (S:FSt) (o:Nat):(S.settle o).needs=S.needs:=by unfold FSt.settle;split<;>rfl
variable {S:FSt}
def vE {p:Pg} {l:List Dcl} (h:j<l):gU p j (l.drop j) S=gU p (j+1) (l.drop (j+1)) (uI p j S l[j]):=by rw[bk h,gU]
def pj {α β:Type} {f:β->α->β} {l:List α} {s:β} (h:j<l):(l.drop j).foldl f s=(l.drop (j+1)).foldl f (f s l[j]):=by rw[bk h,List.foldl_cons]
def ql {α β:Type} {f:β->α->β} {l:List α} {s:β} (h:¬j<l):(l.drop j).foldl f s=s:=by rw[ε ω];rfl
def ty_lt0 {p:Pg} {s:List UInt8} (h0:0<p.types.length):(idxP p.tyNames s).getD 0<p.types.length:=by
 cases h:idxP p.tyNames s with
 | none=>exact h0
 | some i=>exact ty_lt h
def sW {cnt:Nat} (h:∀l∈S.wait,l.length<=cnt):(S.wait.getD j []).length<=cnt:=by
 rw[List.getD_eq_getElem?_getD]
 cases hx:S.wait[j]? with
 | none=>simp
 | some y=>exact h y (List.mem_of_getElem? hx)
def ti {cnt:Nat} (h:∀l∈S.wait,l.length<=cnt):∀l∈(S.waitOn j).wait,l.length<=cnt+1:=by
 intro l a;unfold FSt.waitOn at a;rcases List.mem_or_eq_of_mem_set a with a|a
 ·have:=h l a;omega
 subst a;have:=sW (j:=j) h;simp only[μ,δ,List.length_nil];omega
variable {B T fb cb:Nat} {w0:World} {v1 v3 vr:Value} {vw:Nat->Value} {X:Nat->Prop}
def FM.own_set {w:World} {v2:Value} {lim:Nat} (h:FM B w0 w T fb cb v1 v2 v3 vr vw S lim X) {nb i:Nat} {u:Value} (hx:X nb) (hB:B<=nb):FM B w0 (w.setCell ⟨nb,i,none⟩ u) T fb cb v1 v2 v3 vr vw S lim X:=by
 obtain⟨f,x,v,t,r,q,p,l,g⟩:=h.tags;have a:=cu w ⟨nb,i,none⟩ u;have y:=g nb hx;have d:∀b k,f b=k->k<6+T->¬only nb b:=λb k h1 h2 e=>by unfold only at e;subst e;omega
 exact⟨kL h.bel h.szB a (λb e=>by unfold only at e;simp at e;omega),by simp[World.setCell];exact h.szB,bp h.hf a (d _ _ x ω),h.hfB,bp h.hc a (d _ _ v ω),h.hcB,aI h.r1 a (λb e=>d b _ (t b e) ω),aI h.r2 a (λb e=>d b _ (r b e) ω),aI h.r3 a (λb e=>d b _ (q b e) ω),aI h.rr a (λb e=>d b _ (p b e) ω),λj hj=>aI (h.rw j hj) a (λb e=>d b _ (l j b hj e) ω),⟨f,x,v,t,r,q,p,l,g⟩,λb hb=>by simp[World.setCell];exact h.xl b hb,h.lf,h.lw,h.own,h.wl,h.nd,h.rl⟩
variable {NDS:List (Nat×Int)}
def wait_at {w w':World} {g2 cap:Nat} {v':Value} {k0 n cw:Nat} {Aw:Option Addr} (h:FM B w0 w T fb cb v1 (.slice (some ⟨g2,0,none⟩) T cap) v3 vr vw S (NDS+1) X) (hn:n=(S.wait.getD k0 []).length) (hvw:vw k0=.slice Aw n cw) (hND:S.needs=NDS) (hk:k0<T) (hrow:w'.ownsRow B 3 1 v' (n+1) (ints (S.wait.getD k0 [])++[.int .i64 ((NDS.length:Nat):Int)])) (hg:w.grownBy w' (Value.slice Aw n cw).ownBlock) (hv:v'.ownBlock=(Value.slice Aw n cw).ownBlock\/v'.ownBlock=some w):
 FM B w0 (w'.setCell ⟨g2,k0,none⟩ v') T fb cb v1 (.slice (some ⟨g2,0,none⟩) T cap) v3 vr (λi=>if i=k0 then v' else vw i) (S.waitOn k0) (NDS+1) X/\(∀b,X b->(w'.setCell ⟨g2,k0,none⟩ v').heap[b]?=w.heap[b]?)/\w'.cell? ⟨g2,k0,none⟩=some (vw k0)/\w'.frozen? ⟨g2,k0,none⟩=false:=by
 subst hND;rw[<-hvw] at hg hv;rw[hn] at hrow;have d:=h.wait rfl hk hrow hg hv;obtain⟨j,t,r,q,g,p,l,f,k⟩:=h.tags;have a:=aI h.r2 (pE hg) (λb e e2=>by have v:=g b e;have u:=f k0 b hk e2;omega);exact⟨d.1,d.2,dk a (by simp[List.getElem?_map,List.getElem?_range hk]),lT a⟩
def row_max {w:World} {base n size:Nat} {e:TypeId} {v:Value} {xs:List Value} (h:w.ownsRow base e size v n xs):n<=9223372036854775807:=by
 rcases h.2 with ⟨_,e1⟩|⟨g,cap,cur,e1,hb,hg,hc1,hc2,_⟩
 ·omega
 have:cap<=9223372036854775807:=hc2;omega
def news2 {w:World} {b:Nat} {x y:Value} {t:TypeId} (h:Hs w b t #[x,y]):∀(j:Nat) (u:Value),[x,y][j]?=some u->w.cell? ((⟨b,0,none⟩:Addr).add j)=some u:=World.news_of_block (cs:=#[x,y]) h
def one2 {x y:Int}:∀u∈[Value.int .i64 x,Value.int .i64 y],u.oneCell'=true:=by intro u hu;simp at hu;rcases hu with rfl|rfl<;>rfl
def need_at {w w':World} {v2 v':Value} {i:Nat} {l:Int} (h:FM B w0 w T fb cb v1 v2 v3 vr vw S (NDS+1) X) (hND:S.needs=NDS) (hi:i<T) (hrow:w'.ownsRow B 172 2 v' (NDS+1) (bC NDS++[.int .i64 ((i:Nat):Int),.int .i64 l])) (hg:w.grownBy w' v3.ownBlock) (hv:v'.ownBlock=v3.ownBlock\/v'.ownBlock=some w):
 FM B w0 w' T fb cb v1 v2 v' vr vw (S.need i l) (S.need i l).needs.length X/\∀b,X b->w'.heap[b]?=w.heap[b]?:=by
 subst hND;exact h.need hi hrow hg hv
def sa {p:Pg} {left:Int} {f:Fld} (h:f.type.kind=6):fC p (S,left) f=(S.waitOn ((idxP p.tyNames f.type.name.data.toList).getD 0),wrapI (left+1)):=by unfold fC;rw[if_pos h]
def t8 {p:Pg} {left:Int} {f:Fld} (h:¬f.type.kind=6):fC p (S,left) f=(S,left):=by unfold fC;rw[if_neg h]
def mk169 (W:World) (T:Nat) (h:T<=1000000):(Instr.makeSlice 169 (.int .i64 ((T:Nat):Int)) (.int .i64 ((T:Nat):Int))).run prog W=.ok (.slice (some ⟨W,0,none⟩) T T) (W.alloc (.cells (madeCells #[false] T) 4)):=by
 obtain⟨i,d,b,a,e⟩:∃i0,prog.info? 4=some i0/\i0.zero=some (false:Vl)/\i0.size=1/\i0.bytes=1:=info_parts Δ;have:=run_makeSlice (P:=prog) W 169 4 i (false:Vl) underlying169 d b .i64 .i64 (T:Int) (T:Int) ω (Int.le_refl _) (by simp[a];omega) (by rw[e];omega) ω;rw[this];simp[a,Value.cells]
def mk170 (W:World) (T:Nat) (h:T<=1000000):(Instr.makeSlice 170 (.int .i64 ((T:Nat):Int)) (.int .i64 ((T:Nat):Int))).run prog W=.ok (.slice (some ⟨W,0,none⟩) T T) (W.alloc (.cells (madeCells #[()] T) 104)):=by
 obtain⟨i,d,b,a,e⟩:∃i0,prog.info? 104=some i0/\i0.zero=some ()/\i0.size=1/\i0.bytes=24:=info_parts Δ;have:=run_makeSlice (P:=prog) W 170 104 i () underlying170 d b .i64 .i64 (T:Int) (T:Int) ω (Int.le_refl _) (by simp[a];omega) (by rw[e];omega) ω;rw[this];simp[a,Value.cells]
def FM.start (w:World) (T:Nat) (hT:T<=1000000):FM w w ((((w.alloc (.cells (madeCells #[.bool false] T) 4)).alloc (.cells #[.slice (some ⟨w,0,none⟩) T T] 169)).alloc (.cells (madeCells #[.slice none 0 0] T) 104)).alloc (.cells #[.slice none 0 0] 104)) T (w+1) (w+1+1+1) (.slice (some ⟨w,0,none⟩) T T) (.slice (some ⟨w+1+1,0,none⟩) T T) (.slice none 0 0) (.slice none 0 0) (λ_=>.slice none 0 0) (FSt.start T) 0 (λ_=>False):=by
 have d:∀j,j<T->(FSt.start T).wait.getD j []=[]:=λj hj=>by simp[FSt.start,List.getD_eq_getElem?_getD,List.getElem?_replicate,hj]
 have a:T<=maxLen:=by unfold maxLen;omega
 refine⟨ζ4,by simp;omega,((dI w _ 169 _).alloc _).alloc _,ω,rk w _ _ _ 104 _,ω,?_,?_,World.ownsRow_nil _ _ _ _,World.ownsRow_nil _ _ _ _,λj hj=>by rw[d j hj];exact World.ownsRow_nil _ _ _ _,?_,λ_ h=>h.elim,by simp[FSt.start],by simp[FSt.start],λq hq=>by simp[FSt.start] at hq,λl hl n hn=>?_,by simp[FSt.start],λx hx=>by simp[FSt.start] at hx⟩
 ·have:=(((World.ownsRow_lit (base:=w) (e:=4) (size:=1) w (madeCells #[.bool false] T) T (υ _) a (by rw[size_madeCells];omega)).alloc (.cells #[.slice (some ⟨w,0,none⟩) T T] 169)).alloc (.cells (madeCells #[.slice none 0 0] T) 104)).alloc (.cells #[.slice none 0 0] 104);rw[toList_madeCells_one] at this;simpa[FSt.start] using this
 ·have:=(World.ownsRow_lit (base:=w) (e:=104) (size:=1) ((w.alloc (.cells (madeCells #[.bool false] T) 4)).alloc (.cells #[.slice (some ⟨w,0,none⟩) T T] 169)) (madeCells #[.slice none 0 0] T) T Φ a (by rw[size_madeCells];omega)).alloc (.cells #[.slice none 0 0] 104);rw[toList_madeCells_one] at this;have f:(List.range T).map (λ_=>Value.slice none 0 0)=List.replicate T (.slice none 0 0):=by rw[List.map_const',List.length_range]
  rw[f];simpa using this
 ·refine⟨λb=>if b=w.heap.size then 2 else if b=w.heap.size+1 then 0 else if b=w.heap.size+1+1 then 3 else 1,by simp,(by simp only[];rw[if_neg ω,if_neg ω,if_neg ω]),λb hb=>?_,λb hb=>?_,λb hb=>by simp[Value.ownBlock] at hb,λb hb=>by simp[Value.ownBlock] at hb,λj b _ hb=>by simp[Value.ownBlock] at hb,λb hb=>hb.elim⟩
  ·have:w.heap.size=b:=by simpa[Value.ownBlock] using hb
   subst this;simp
  have:w.heap.size+1+1=b:=by simpa[Value.ownBlock] using hb
  subst this;simp only[];rw[if_neg ω,if_neg ω,if_pos trivial]
 have:l=[]:=by simp[FSt.start] at hl;exact hl.2
 subst this;cases hn
def oN {c:CB} {p:Pg} {w:World} (hck:ChkR w (lo w) c p) (hsm:p.Small) (hfn:di p.types<=1000000):Calls prog 43 #[.pointer (some ⟨c.b,0,none⟩)] w λe w'=>e=.returned (.bool (finP p))/\Below w.heap.size w w':=by
 obtain⟨AT,qT,eT⟩:=hck.types.form;have cT:=hck.c0;rw[eT] at cT;have hT:=hck.types;rw[eT] at hT;obtain⟨HT,cm,ij⟩:=zd3 hT hck cT;have tl:=hsm.types;obtain⟨ik,gv⟩:=zd2 hsm.ctors hfn;have g9:=λW=>mk169 W p.types.length tl;have g8:=λW=>mk170 W p.types.length tl;obtain⟨g1,du⟩:=γ w.heap.size
 obtain⟨M,dt⟩:=γ (w.heap.size+1+1)
 obtain⟨fb,dx⟩:=γ (w.heap.size+1)
 obtain⟨cb,a9⟩:=γ (w.heap.size+1+1+1)
 obtain⟨W1,d2⟩:=γ ((((w.alloc (.cells (madeCells #[.bool false] p.types.length) 4)).alloc (.cells #[.slice (some ⟨w.heap.size,0,none⟩) p.types.length p.types.length] 169)).alloc (.cells (madeCells #[.slice none 0 0] p.types.length) 104)).alloc (.cells #[.slice none 0 0] 104))
 have ek:Hid (FM w.heap.size w W1 p.types.length fb cb (.slice (some ⟨g1,0,none⟩) p.types.length p.types.length) (.slice (some ⟨M,0,none⟩) p.types.length p.types.length) (.slice none 0 0) (.slice none 0 0) (λ_=>.slice none 0 0) (FSt.start p.types.length) 0 (λ_=>False)):=by rw[d2,du,dt,dx,a9];exact FM.start w _ tl
 obtain⟨h7,ih,il,jx,ie⟩:=zd5 d2 dx a9 du dt;obtain⟨FN,d5⟩:=γ (gU p 0 p.types (FSt.start p.types.length))
 have ei:Hid (finP p=decide ((gI (p.types.length+1) 0 FN).ready.length=p.types.length)):=by show _=_;unfold finP;rw[d5]
 have fs:Hid (FN=gU p 0 (p.types.drop 0) (FSt.start p.types.length)):=d5;have iq:Hid (W1.cell? ⟨c.b,0,none⟩=some (.slice AT p.types.length qT)):=belC ek.o.bel cT;obtain⟨io,e7,e5,e6,e8⟩:=jz;have ck:Hid (prog.info? 3=some io/\io.zero=some (.int .i64 0)/\io.size=1/\io.bytes=8):=⟨e7,e5,e6,e8⟩
 obtain⟨i2,fa,dp,dq,dr⟩:∃i0,prog.info? 172=some i0/\i0.zero=some (.agg #[.int .i64 0,.int .i64 0])/\i0.size=2/\i0.bytes=16:=info_parts Δ;have cl:Hid (prog.info? 172=some i2/\i2.zero=some (.agg #[.int .i64 0,.int .i64 0])/\i2.size=2/\i2.bytes=16):=⟨fa,dp,dq,dr⟩
 clear hck hT eT hsm hfn du dt dx a9 d2 d5 e7 e5 e6 e8 fa dp dq dr;have d0:=λ(o1 o2:Obj)=>belC (belA (belA (belR w) o1) o2) cT;have d1:=λ(o1 o2 o3 o4:Obj)=>belC (belA (belA (belA (belA (belR w) o1) o2) o3) o4) cT;go_enter func43,ntmps43;go_upto_region 6 with fail;rw[<-h7.o,<-il.o,<-ie.o,<-ih.o];have y0:=iq.o;clear d0 d1 g9 g8 cT;go_wp2_with fail;clear y0;go_loopw [40,3] (λi v3 wr=>∃(j t:Nat) (H:Option Addr) (D:Nat) (v:Value) (A:Nat->Value) (S:FSt),j<=p.types.length/\i=.int .i64 j/\v3=.slice H S.needs.length D/\Hid (S.needs.length+gO (p.types.drop j)=gO p.types)/\Hid (t+di (p.types.drop j)=di p.types)/\Hid (FN=gU p j (p.types.drop j) S)/\Hid (∀l∈S.wait,l.length<=t)/\Hid (FM w.heap.size w wr p.types.length fb cb (.slice (some ⟨g1,0,none⟩) p.types.length p.types.length) (.slice (some ⟨M,0,none⟩) p.types.length p.types.length) (.slice H S.needs.length D) v A S S.needs.length (λ_=>False))) (λi _ _=>p.types.length-(intOf i).toNat)
 case atStart=>exact⟨0,0,none,0,_,_,FSt.start p.types.length,ω,rfl,rfl,by show 0+_=_;simp,by show 0+_=_;simp,fs.o,(λl hl=>by have:l=[]:=(by simp[FSt.start] at hl;exact hl.2);subst this;simp),ek.o⟩
 case round =>
  clear ek fs;obtain⟨j,t,H,D,v,A,S,hj,rfl,rfl,aj,O,HV,E,g⟩:=hrel;by_cases hlt:j<p.types.length
  ·have u1:=zT j p.types.length;obtain⟨I,fy,ft⟩:=zd3 (vE (p:=p) (S:=S) hlt) (kX hlt) (sd hlt);obtain⟨ga,i8,Aa,qa,rfl,fc,c0,c1,c2,_,a7,dz⟩:=fF HT.o hlt;have en:=η dz;have lC:=dz.le9;have ds:ga<w.heap.size:=fc;replace c0:=belC g.o.bel c0;replace c1:=belC g.o.bel c1;replace c2:=belC g.o.bel c2;have j0:(0:Int)<=(j:Int):=ω;have j1:(j:Int)<(p.types.length:Int):=ω;obtain⟨h,bk⟩:=γ (p.types[j].ctors)
   rw[<-bk] at c2 lC en fy ft;have ep:Hid (FN=gU p (j+1) (p.types.drop (j+1)) ((h.drop 0).foldl (mD p j) S)):=by show _=_;rw[HV.o,I.o,bk];rfl
   clear dz a7 fc ds I bk;go_upto_region 9 with fail;obtain⟨W2,Z⟩:=γ (wr.alloc (.cells #[.string p.types[j].name,.bool p.types[j].record,.slice Aa h.length qa] 48))
   have fw:Hid (FM w.heap.size w W2 p.types.length fb cb (.slice (some ⟨g1,0,none⟩) p.types.length p.types.length) (.slice (some ⟨M,0,none⟩) p.types.length p.types.length) (.slice H S.needs.length D) v A S S.needs.length (λ_=>False)):=by rw[Z];exact g.o.bels ζ1
   have av:Hid (S.needs.length+jf (h.drop 0)+gO (p.types.drop (j+1))=gO p.types):=by show _=_;have h1:=aj.o;have h2:=fy.o;unfold jf;simp only[List.drop_zero];omega
   have eo:Hid (t+cfN (h.drop 0)+di (p.types.drop (j+1))=di p.types):=by show _=_;have h1:=O.o;have h2:=ft.o;simp only[List.drop_zero];omega
   have d9:=E;rw[<-Z];have hz:W2.cell? ⟨wr.heap.size,2,none⟩=some (.slice Aa h.length qa):=by rw[Z];simp
   clear c0 c1 c2 g HV aj O E Z;go_wp2_with fail;clear hz;go_loopw [48,3] (λi v3 wr=>∃(q t:Nat) (H:Option Addr) (D:Nat) (v:Value) (A:Nat->Value) (S:FSt),q<=h.length/\i=.int .i64 q/\v3=.slice H S.needs.length D/\Hid (S.needs.length+jf (h.drop q)+gO (p.types.drop (j+1))=gO p.types)/\Hid (t+cfN (h.drop q)+di (p.types.drop (j+1))=di p.types)/\Hid (FN=gU p (j+1) (p.types.drop (j+1)) ((h.drop q).foldl (mD p j) S))/\Hid (∀l∈S.wait,l.length<=t)/\Hid (FM w.heap.size w wr p.types.length fb cb (.slice (some ⟨g1,0,none⟩) p.types.length p.types.length) (.slice (some ⟨M,0,none⟩) p.types.length p.types.length) (.slice H S.needs.length D) v A S S.needs.length (λ_=>False))) (λi _ _=>h.length-(intOf i).toNat)
   case atStart=>exact⟨0,t,H,D,v,A,S,ω,rfl,rfl,av.o,eo.o,ep.o,d9.o,fw.o⟩
   case round =>
    clear fw av eo ep d9;obtain⟨q,t,H,D,v,A,S,hq,rfl,rfl,aj,O,HV,E,g⟩:=hrel;by_cases df:q<h.length
    ·have x1:=zT q h.length;obtain⟨I,bq⟩:=zd2 (pj (f:=mD p j) (s:=S) df) (cfN_drop df);obtain⟨gc,i7,Ac,qc,rfl,hh,e0,e1,_,_,dv⟩:=ew en.o df;have eh:=η dv;have lF:=dv.le9;replace e0:=belC g.o.bel e0;replace e1:=belC g.o.bel e1;have q0:(0:Int)<=(q:Int):=ω;have q1:(q:Int)<(h.length:Int):=ω;obtain⟨u,bi⟩:=γ (h[q].fields)
     rw[<-bi] at e1 lF eh bq;obtain⟨V,d3⟩:=γ (u.foldl (fC p) (S,0))
     have ce:Hid (FN=gU p (j+1) (p.types.drop (j+1)) ((h.drop (q+1)).foldl (mD p j) (gJ j V))):=by show _=_;rw[HV.o,I.o,d3,bi];rfl
     have fk:Hid (V=(u.drop 0).foldl (fC p) (S,0)):=d3;obtain⟨k,bl⟩:=γ S.needs
     have N:=η bl.symm;have a7:S.needs.length=k.length:=by rw[bl]
     rw[a7] at g;clear dv hh I bi d3 bl
     have f1:Hid (k.length<1000000):=by
      show _<_;have h1:=aj.o;have h2:=ik.o;have h3:jf (h.drop q)=h.length-q:=by unfold jf;rw[List.length_drop]
      omega
     have gp:Hid (k.length+jf (h.drop q)+gO (p.types.drop (j+1))=gO p.types):=by show _=_;have:=aj.o;omega
     rw[a7];clear a7;go_upto_region 13 with fail;obtain⟨J,a8⟩:=γ (wr.heap.size+1)
     obtain⟨W3,ba⟩:=γ ((wr.alloc (.cells #[.string h[q].name,.slice Ac u.length qc] 122)).alloc (.cells #[.int .i64 (j:Int),.int .i64 0] 172))
     have fv:Hid (FM w.heap.size w W3 p.types.length fb cb (.slice (some ⟨g1,0,none⟩) p.types.length p.types.length) (.slice (some ⟨M,0,none⟩) p.types.length p.types.length) (.slice H k.length D) v A S (k.length+1) (λb=>b=J)):=by
      rw[ba];have h1:=(g.o.bels (belA (belR _) (.cells #[.string h[q].name,.slice Ac u.length qc] 122))).box (.cells #[.int .i64 (j:Int),.int .i64 0] 172);refine (h1.less (λb hb=>.inr ?_)).more (Nat.le_succ _);rw[hb,a8];simp
     have ed:Hid (Hs W3 J 172 #[.int .i64 (j:Int),.int .i64 0]):=by rw[ba,a8];exact dI wr _ 172 _
     have hy:W3.cell? ⟨wr.heap.size,1,none⟩=some (.slice Ac u.length qc):=by rw[ba];simp
     have gq:Hid (w.heap.size<=J):=by show _<=_;rw[a8];have:=g.o.szB;omega
     rw[<-ba,<-a8];have f0:Hid (t+(u.length-0)+(cfN (h.drop (q+1))+di (p.types.drop (j+1)))=di p.types):=by show _=_;have h1:=O.o;have h2:=bq.o;omega
     have d8:=E;clear e0 e1 g ba a8 O bq E HV;go_wp2_with fail;clear hy;go_loopw [57] (λi wr=>∃(r t:Nat) (d:Int) (v:Value) (A:Nat->Value) (S:FSt),r<=u.length/\i=.int .i64 r/\Hid (S.needs=k)/\Hid (t+(u.length-r)+(cfN (h.drop (q+1))+di (p.types.drop (j+1)))=di p.types)/\Hid (V=(u.drop r).foldl (fC p) (S,d))/\Hid (∀l∈S.wait,l.length<=t)/\Hid (FM w.heap.size w wr p.types.length fb cb (.slice (some ⟨g1,0,none⟩) p.types.length p.types.length) (.slice (some ⟨M,0,none⟩) p.types.length p.types.length) (.slice H k.length D) v A S (k.length+1) (λb=>b=J))/\Hid (Hs wr J 172 #[.int .i64 (j:Int),.int .i64 d])) (λi _=>u.length-(intOf i).toNat)
     case atStart=>exact⟨0,t,0,v,A,S,ω,rfl,N.o,f0.o,fk.o,d8.o,fv.o,ed.o⟩
     case round =>
      clear fv ed f0 d8 fk N;obtain⟨r,t,d,v,A,S,hr,rfl,N,ax,HQ,E,g,cj⟩:=hrel;by_cases de:r<u.length
      ·have z1:=zT r u.length;have I:=η (pj (f:=fC p) (s:=(S,d)) de);obtain⟨gf,i6,kf,sf,af,Bf,cf,rfl,hg,ef,y0,y1,y2,y3,hfn,ey⟩:=dw eh.o de
       have hd:sf.size<=maxLen:=by
        obtain⟨k',s',a',A',c',ee,_,_,hf,_⟩:=ap ey;obtain⟨_,rfl,_⟩:kf=k'/\sf=s'/\_:=by simpa using ee
        exact hf
       have e4:u[r].type.kind=kf:=by rw[ef];rfl
       have e2:u[r].type.name=sf:=by rw[ef];rfl
       obtain⟨fo,go⟩:=zd2 e4 e2;replace y0:=belC g.o.bel y0;replace y1:=belC g.o.bel y1;replace y2:=belC g.o.bel y2;replace y3:=belC g.o.bel y3;have r0:(0:Int)<=(r:Int):=ω;have r1:(r:Int)<(u.length:Int):=ω;clear hg hfn ey ef e4 e2;obtain⟨W5,cc,B5,f2⟩:=κ wr #[.string u[r].name,.int .i64 kf,.string sf,.slice Bf af.length cf] 118
       have ao:=η (g.o.bels B5)
       obtain⟨bp,fg⟩:=zd2 (aH cj.o B5) cc;clear cc B5;go_upto_region 16 with fail;rw[<-fg.o];clear fg y0 y1 y2 y3;have x5:W5.cell? ⟨wr.heap.size,1,none⟩=some (.int .i64 kf):=f2.o.cell 1;by_cases h6:kf=6
       ·as_aux_lemma =>
         have k6:(kf==6)=true:=beq_iff_eq.2 h6;obtain⟨F,b7⟩:=γ ((idxP p.tyNames sf.data.toList).getD 0)
         have ae:F<p.types.length:=by rw[b7];exact ty_lt0 ω
         have R:Hid (V=(u.drop (r+1)).foldl (fC p) (S.waitOn F,wrapI (d+1))):=by show _=_;rw[HQ.o,I.o,sa (by rw[fo.o];exact h6),go.o,b7]
         have dm:=belW (belC ao.o.bel cm.o.c4);have dn:=belW (show W5.cell? ⟨wr.heap.size,2,none⟩=some (.string sf) from f2.o.cell 2)
         have lk:∀W,Below W5.heap.size W5 W->(Instr.lookup 101 (.map (some c.bt)) (.string sf) false).run prog W=.ok (.int .i64 ((F:Nat):Int)) W:=λW hb=>by
          have:=cR ((cm.o.mt.below ao.o.bel cm.o.qt).below hb (ρ cm.o.qt ao.o.bel.size)) hd;rw[gy,<-b7] at this;exact this
         clear h6 b7;go_upto_region 17 with fail;go_region_held3 (λX=>Below W5.heap.size W5 X) (first|exact ad _) (fail);go_upto_region 18 with fail;obtain⟨w6,bu⟩:=γ W5.drew
         rw[<-bu];have ej:Hid (FM w.heap.size w w6 p.types.length fb cb (.slice (some ⟨g1,0,none⟩) p.types.length p.types.length) (.slice (some ⟨M,0,none⟩) p.types.length p.types.length) (.slice H k.length D) v A S (k.length+1) (λb=>b=J)):=by rw[bu];exact ao.o.bels (ad _)
         have gu:Hid (Hs w6 J 172 #[.int .i64 (j:Int),.int .i64 d]):=by rw[bu];exact bp.o
         obtain⟨Aw,cw,bv⟩:=bU (ej.o.rw F ae);obtain⟨wn,a6⟩:=γ ((S.wait.getD F []).length)
         rw[<-a6] at bv;obtain⟨h5,fi⟩:=zd2 a6 bv;have s5:w6.cell? ⟨M,F,none⟩=some (.slice Aw wn cw):=by rw[<-bv];exact dk ej.o.r2 (by simp[List.getElem?_map,List.getElem?_range ae])
         have ju:(0:Int)<=(F:Int):=ω;have jt:(F:Int)<(p.types.length:Int):=ω;have ds:=sW (j:=F) E.o;have a9:=ax.o;have f7:=gv.o;have dl:wn<1000000:=by rw[a6];omega
         obtain⟨eg,id,aa,aw⟩:=zd4 dl ae (ej.o.bels (belA (belR w6) (.cells #[.int .i64 ((k.length:Nat):Int)] 3))) (aH gu.o (belA (belR w6) (.cells #[.int .i64 ((k.length:Nat):Int)] 3)));have ia:Hid ((w6.alloc (.cells #[.int .i64 ((k.length:Nat):Int)] 3)).ownsRow w.heap.size 3 1 (.slice Aw wn cw) wn (ints (S.wait.getD F []))):=by have:=aa.o.rw F ae;rw[fi.o,<-a6] at this;exact this
         have eb:=η aa.o.szB;clear bu dm dn lk x5 bv a6 ds a9 f7 dl ae ao bp;go_upto_region 19 with (at_builtin;refine wpList_append_own_at _ rfl (.tmp 78) (.tmp 81) 104 rfl w.heap.size 3 io (.int .i64 0) 1 8 underlying104 ck.o.1 ck.o.2.1 ck.o.2.2.1 ck.o.2.2.2 rfl π (.slice Aw wn cw) wn (ints (S.wait.getD F [])) rfl ia.o ⟨w6.heap.size,0,none⟩ 1 1 [.int .i64 ((k.length:Nat):Int)] rfl rfl (ib (Hs.new _ _ _)) one1 (by have:=eg.o;unfold maxLen;omega) (by have:=eg.o;omega) eb.o ?_;intro vv w8 G L ar ac;have T:=η (wait_at aa.o h5.o fi.o N.o id.o G L ac);obtain⟨A8,c8,rfl⟩:=bU G;have x0:w8.cell? ⟨M,F,none⟩=some (A F):=T.o.2.2.1;have x1:w8.frozen? ⟨M,F,none⟩=false:=T.o.2.2.2;clear G L ar ac);obtain⟨w9,bs⟩:=γ (w8.setCell ⟨M,F,none⟩ (.slice A8 (wn+1) c8))
         rw[<-bs];have ii:Hid (FM w.heap.size w w9 p.types.length fb cb (.slice (some ⟨g1,0,none⟩) p.types.length p.types.length) (.slice (some ⟨M,0,none⟩) p.types.length p.types.length) (.slice H k.length D) v (λi=>if i=F then .slice A8 (wn+1) c8 else A i) (S.waitOn F) (k.length+1) (λb=>b=J)):=by rw[bs];exact T.o.1
         have bo:Hid (Hs w9 J 172 #[.int .i64 (j:Int),.int .i64 d]):=by rw[bs];exact (T.o.2.1 J rfl).trans aw.o
         have n1:w9.cell? ⟨J,1,none⟩=some (.int .i64 d):=bo.o.cell 1;have n2:w9.frozen? ⟨J,1,none⟩=false:=bo.o.free 1;clear bs x0 x1 T;go_wp2_with fail;refine⟨⟨r+1,t+1,wrapI (d+1),v,_,S.waitOn F,ω,by go_num,N.o,?_,R.o,ti E.o,ii.o.own_set rfl gq.o,?_⟩,by simp[intOf];omega⟩
         ·show _=_;have:=ax.o;omega
         have:=bo.o.put 1 (.int .i64 (wrapI (d+1)));show Hs _ _ _ _;simpa using this
       have k6:(kf==6)=false:=beq_eq_false_iff_ne.2 h6;have R:Hid (V=(u.drop (r+1)).foldl (fC p) (S,d)):=by show _=_;rw[HQ.o,I.o,t8 (by rw[fo.o];exact h6)]
       clear h6;go_wp2_with fail;refine⟨⟨r+1,t+1,d,v,A,S,ω,by go_num,N.o,?_,R.o,(λl hl=>Nat.le_succ_of_le (E.o l hl)),ao.o,bp.o⟩,by simp[intOf];omega⟩;show _=_;have:=ax.o;omega
      as_aux_lemma =>
       have z1:=zF r u.length;have ci:Hid (V=(S,d)):=by show _=_;rw[HQ.o,ql de]
       have n0:wr.cell? ⟨J,0,none⟩=some (.int .i64 (j:Int)):=cj.o.cell 0;have n1:wr.cell? ⟨J,1,none⟩=some (.int .i64 d):=cj.o.cell 1;obtain⟨aa,aw⟩:=zd2 (g.o.bels (belA (belR wr) (.cells #[.int .i64 (j:Int),.int .i64 d] 172))) (aH cj.o (belA (belR wr) (.cells #[.int .i64 (j:Int),.int .i64 d] 172)));have eb:=η aa.o.szB;have fj:Hid ((wr.alloc (.cells #[.int .i64 (j:Int),.int .i64 d] 172)).ownsRow w.heap.size 172 2 (.slice H k.length D) k.length (bC k)):=by have:=aa.o.r3;rw[N.o] at this;exact this
       have fp:=η hlt;go_upto_region 22 with (at_builtin;refine wpList_append_own_at _ rfl (.tmp 89) (.tmp 91) 168 rfl w.heap.size 172 i2 (.agg #[.int .i64 0,.int .i64 0]) 2 16 underlying168 cl.o.1 cl.o.2.1 cl.o.2.2.1 cl.o.2.2.2 rfl π (.slice H k.length D) k.length (bC k) rfl fj.o ⟨wr.heap.size,0,none⟩ 1 1 [.int .i64 (j:Int),.int .i64 d] rfl rfl (news2 (Hs.new _ _ _)) one2 (by have:=f1.o;unfold maxLen;omega) (by have:=f1.o;omega) eb.o ?_;intro vv w8 G L ar ac;have T:=η (need_at aa.o N.o fp.o G L ac);obtain⟨A8,c8,rfl⟩:=bU G;clear G L ar ac);have gs:Hid (Hs w8 J 172 #[.int .i64 (j:Int),.int .i64 d]):=(T.o.2 J rfl).trans aw.o;have n2:w8.cell? ⟨J,1,none⟩=some (.int .i64 d):=gs.o.cell 1;have fu:=η (T.o.1.less (X':=λ_=>False) (λb hb=>hb.elim))
       have be:Hid ((gJ j V).needs.length=k.length+1):=by
        show _=_;rw[ci.o];unfold gJ FSt.need;split
        ·rw[gK];simp[N.o]
        simp[N.o]
       have fx:Hid ((gJ j V).wait=S.wait):=by
        show _=_;rw[ci.o];unfold gJ FSt.need;split
        ·rw[ni]
        rfl
       have fn:Hid ((gJ j V).needs.length+jf (h.drop (q+1))+gO (p.types.drop (j+1))=gO p.types):=by
        show _=_;rw[be.o];have h1:=gp.o;rw[show jf (h.drop q)=jf (h.drop (q+1))+1 by unfold jf;rw[List.length_drop,List.length_drop];omega] at h1;omega
       have fz:Hid (t+cfN (h.drop (q+1))+di (p.types.drop (j+1))=di p.types):=by show _=_;have:=ax.o;omega
       clear n0 n1 T aa aw fj;by_cases B:d=0
       ·have l0:(d==0)=true:=beq_iff_eq.2 B;have bg:Hid (gJ j V=(S.need j d).settle j):=by show _=_;rw[ci.o];unfold gJ;rw[if_pos B]
        clear B;go_wp2_with (go_at_call 103;refine (oj fu.o fp.o tl).mono ?_;rintro e9 w9 ⟨rfl,c7,dy,_⟩);refine⟨⟨q+1,t,A8,c8,c7,A,gJ j V,ω,by go_num,by rw[be.o],fn.o,fz.o,ce.o,?_,?_⟩,by simp[intOf];omega⟩
        ·show ∀l∈_,_;rw[fx.o];exact E.o
        have he:=be.o;rw[bg.o,gK] at he;rw[bg.o,gK,he];have h9:=dy;rw[he] at h9;exact h9
       have l0:(d==0)=false:=beq_eq_false_iff_ne.2 B;have bg:Hid (gJ j V=S.need j d):=by show _=_;rw[ci.o];unfold gJ;rw[if_neg B]
       clear B;go_wp2_with fail;refine⟨⟨q+1,t,A8,c8,v,A,gJ j V,ω,by go_num,by rw[be.o],fn.o,fz.o,ce.o,?_,?_⟩,by simp[intOf];omega⟩
       ·show ∀l∈_,_;rw[fx.o];exact E.o
       have he:=be.o;rw[bg.o] at he;rw[bg.o,he];have h9:=fu.o;rw[he] at h9;exact h9
    have x1:=zF q h.length;have b9:h.drop q=[]:=ε ω;have ce:Hid (FN=gU p (j+1) (p.types.drop (j+1)) S):=by show _=_;rw[HV.o,b9];rfl
    have av:Hid (S.needs.length+gO (p.types.drop (j+1))=gO p.types):=by show _=_;have:=aj.o;rw[b9] at this;exact this
    have ip:Hid (t+di (p.types.drop (j+1))=di p.types):=by show _=_;have:=O.o;rw[b9] at this;exact this
    clear b9;go_wp2_with fail;exact⟨⟨j+1,t,H,D,v,A,S,ω,by go_num,rfl,av.o,ip.o,ce.o,E.o,g.o⟩,by simp[intOf];omega⟩
  as_aux_lemma =>
   have u1:=zF j p.types.length;have ig:Hid (FN=S):=by show _=_;rw[HV.o,ε ω];rfl
   obtain⟨Y,cd⟩:=γ S.needs.length
   obtain⟨WT,fd⟩:=γ S.wait
   obtain⟨PF,d4⟩:=γ (gI (p.types.length+1) 0 FN)
   have an:Hid (PF=gI (p.types.length+1-0) 0 S):=by show _=_;rw[d4,ig.o];rfl
   have eu:Hid (finP p=decide (PF.ready.length=p.types.length)):=by show _=_;rw[ei.o,d4]
   have y:Hid (S.needs.length=Y/\S.wait=WT):=⟨cd.symm,fd.symm⟩
   rw[<-cd] at g;rw[<-cd];obtain⟨wP,rfl⟩:=γ wr
   have fr:=g;clear cd fd d4 g aj O HV E ei;go_wp2_with fail;go_loopw [16] (λi wr=>∃(a:Nat) (v:Value) (S:FSt),a<=p.types.length/\i=.int .i64 a/\Hid (S.needs.length=Y/\S.wait=WT)/\Hid (PF=gI (p.types.length+1-a) a S)/\Hid (FM w.heap.size w wr p.types.length fb cb (.slice (some ⟨g1,0,none⟩) p.types.length p.types.length) (.slice (some ⟨M,0,none⟩) p.types.length p.types.length) (.slice H Y D) v A S Y (λ_=>False))) (λi _=>p.types.length-(intOf i).toNat)
   case atStart=>exact⟨0,v,S,ω,rfl,y.o,an.o,fr.o⟩
   case round =>
    clear fr an y;obtain⟨a,v,S,ha,rfl,y,an,g⟩:=hrel;obtain⟨rl,bx⟩:=γ S.ready.length
    obtain⟨Ar,cr,bw⟩:=bU g.o.rr;rw[<-bx] at bw;obtain⟨ai,ea⟩:=zd2 bx bw;have jw:rl<=p.types.length:=by rw[bx];exact qg _ _ g.o.nd (λx hx=>(g.o.rl x hx).1)
    have y0:wr.cell? ⟨cb,0,none⟩=some (.slice Ar rl cr):=by have:=g.o.hc.cell 0;rw[bw] at this;exact this
    clear bx bw;by_cases jv:a<rl
    ·have a1:=zT a rl;obtain⟨gr,ht,e1,_,_⟩:=ez (g.o.rr) (by have:=ai.o;omega);rw[ea.o,<-ai.o] at e1;obtain⟨rfl,rfl⟩:Ar=some ⟨gr,0,none⟩/\cr=ht:=by simpa using e1
     have al:a<S.ready.length:=by have:=ai.o;omega
     obtain⟨x,hx⟩:=γ (S.ready.getD a 0)
     have ev:x∈S.ready:=by rw[hx,List.getD_eq_getElem?_getD,ξ al];exact ν al
     have dc:x<p.types.length:=(g.o.rl x ev).1
     have y1:wr.cell? ⟨gr,a,none⟩=some (.int .i64 (x:Int)):=by
      have hr:=g.o.rr;rw[ea.o,<-ai.o] at hr;refine dk hr ?_;unfold ints;rw[List.getElem?_map,ξ al,hx,List.getD_eq_getElem?_getD,ξ al];rfl
     obtain⟨U,br⟩:=γ (S.wait.getD x [])
     have ff:Hid (U=WT.getD x []):=by show _=_;rw[br,y.o.2]
     have ch:=g.o.rw x dc;rw[<-br] at ch;obtain⟨Ax,cx,dd⟩:=bU ch;have lW:=row_max ch;have h8:=η dd;have y2:wr.cell? ⟨M,x,none⟩=some (.slice Ax U.length cx):=by rw[<-dd];exact dk g.o.r2 (by simp[List.getElem?_map,List.getElem?_range dc])
     have fl:Hid (PF=gI (p.types.length-a) (a+1) ((U.drop 0).foldl gt S)):=by
      show _=_;rw[an.o,show p.types.length+1-a=(p.types.length-a)+1 by omega,gI,if_pos al,<-hx,<-br];rfl
     have fe:=η dc;have a0:(0:Int)<=(a:Int):=ω;have a2:(a:Int)<(rl:Int):=ω;have x0:(0:Int)<=(x:Int):=ω;have x1:(x:Int)<(p.types.length:Int):=ω;obtain⟨wQ,rfl⟩:=γ wr
     have fq:=g;have ec:=y;clear hx ev br ch dd al an g e1 y;go_wp2_with fail;clear y0 y1 y2;go_loopw [115] (λi wr=>∃(b:Nat) (v:Value) (S:FSt),b<=U.length/\i=.int .i64 b/\Hid (S.needs.length=Y/\S.wait=WT)/\Hid (PF=gI (p.types.length-a) (a+1) ((U.drop b).foldl gt S))/\Hid (FM w.heap.size w wr p.types.length fb cb (.slice (some ⟨g1,0,none⟩) p.types.length p.types.length) (.slice (some ⟨M,0,none⟩) p.types.length p.types.length) (.slice H Y D) v A S Y (λ_=>False))) (λi _=>U.length-(intOf i).toNat)
     case atStart=>exact⟨0,v,S,ω,rfl,ec.o,fl.o,fq.o⟩
     case round =>
      clear fq fl ec ea ai;obtain⟨b,v,S,hb,rfl,y,HP,g⟩:=hrel;by_cases ca:b<U.length
      ·as_aux_lemma =>
        have b1:=zT b U.length;have I:=η (pj (f:=gt) (s:=S) ca);have cg:=g.o.rw x fe.o;rw[y.o.2,<-ff.o,h8.o] at cg;obtain⟨gx,hp,ex,_,_⟩:=ez cg ω;obtain⟨rfl,rfl⟩:Ax=some ⟨gx,0,none⟩/\cx=hp:=by simpa using ex
        obtain⟨n,hn⟩:=γ (U[b])
        rw[<-hn] at I;have y3:wr.cell? ⟨gx,b,none⟩=some (.int .i64 (n:Int)):=dk cg (by unfold ints;rw[List.getElem?_map,ξ ca,hn];rfl)
        have b5:n<Y:=by
         have hm:WT.getD x []∈S.wait:=by
          rw[y.o.2,List.getD_eq_getElem?_getD,ξ (by have:=g.o.lw;rw[y.o.2] at this;rw[this];exact fe.o)];exact ν _
         exact g.o.wl _ hm n (by rw[<-ff.o,hn];exact ν ca)
        have am:n<S.needs.length:=by rw[y.o.1];exact b5
        obtain⟨g3,hw,e3,_,_⟩:=ez g.o.r3 ω;rw[y.o.1] at e3;obtain⟨rfl,rfl⟩:H=some ⟨g3,0,none⟩/\D=hw:=by simpa using e3
        obtain⟨ow,dh⟩:=γ ((S.needs.getD n (0,0)).1)
        obtain⟨lf,b6⟩:=γ ((S.needs.getD n (0,0)).2)
        have b4:=g.o.r3;rw[y.o.1] at b4;have y4:wr.cell? ⟨g3,n*2+1,none⟩=some (.int .i64 lf):=by rw[b6];exact dk b4 (ji _ am).2
        have y5:wr.frozen? ⟨g3,n*2+1,none⟩=false:=lT b4;have HD:=η (g.o.decr (n:=n) (by rw[y.o.1]) am);rw[<-b6] at HD
        have b8:((S.dec n).needs.getD n (0,0))=(ow,wrapI (lf-1)):=by
         unfold FSt.dec;rw[dh,b6];simp only[List.getD_eq_getElem?_getD,List.getElem?_set_self am];rfl
        have fm:Hid (gt S n=if wrapI (lf-1)=0 then (S.dec n).settle ow else S.dec n):=by show _=_;unfold gt;rw[b8]
        have bf:Hid ((S.dec n).needs.length=Y/\(S.dec n).wait=WT):=⟨by unfold FSt.dec;simp[y.o.1],y.o.2⟩
        have dg:ow<p.types.length:=by
         rw[dh];refine g.o.own _ ?_;rw[List.getD_eq_getElem?_getD,ξ am];exact ν am
        have ic:=η dg;obtain⟨W2,Z⟩:=γ (wr.setCell ⟨g3,n*2+1,none⟩ (.int .i64 (wrapI (lf-1))))
        have em:Hid (FM w.heap.size w W2 p.types.length fb cb (.slice (some ⟨g1,0,none⟩) p.types.length p.types.length) (.slice (some ⟨M,0,none⟩) p.types.length p.types.length) (.slice (some ⟨g3,0,none⟩) Y D) v A (S.dec n) Y (λ_=>False)):=by rw[Z];exact HD.o.1
        have b3:=em.o.r3;rw[bf.o.1] at b3;have dj:n<(S.dec n).needs.length:=by rw[bf.o.1];exact b5
        have y6:W2.cell? ⟨g3,n*2+1,none⟩=some (.int .i64 (wrapI (lf-1))):=by have:=dk b3 (ji _ dj).2;rw[b8] at this;exact this
        have y7:W2.cell? ⟨g3,n*2,none⟩=some (.int .i64 ((ow:Nat):Int)):=by have:=dk b3 (ji _ dj).1;rw[b8] at this;exact this
        have fh:=η Z;have b0:(0:Int)<=(b:Int):=ω;have b2:(b:Int)<(U.length:Int):=ω;have n0:(0:Int)<=(n:Int):=ω;have n1:(n:Int)<(Y:Int):=ω;have NM:n<Y:=b5;clear cg ex hn e3 dh b6 b4 HD b8 dg Z b3 dj am b5;go_upto_region 33 with fail;rw[<-fh.o];clear y3 y4 y5 fh;by_cases B:wrapI (lf-1)=0
        ·have l0:(wrap64 (lf-1)==0)=true:=beq_iff_eq.2 B;have R:Hid (PF=gI (p.types.length-a) (a+1) ((U.drop (b+1)).foldl gt ((S.dec n).settle ow))):=by show _=_;rw[HP.o,I.o,fm.o,if_pos B]
         clear B;go_wp2_with (go_at_call 103;refine (oj em.o ic.o tl).mono ?_;rintro e9 w9 ⟨rfl,c7,dy,_⟩);exact⟨⟨b+1,c7,(S.dec n).settle ow,ω,by go_num,⟨by rw[gK];exact bf.o.1,by rw[ni];exact bf.o.2⟩,R.o,dy⟩,by simp[intOf];omega⟩
        have l0:(wrap64 (lf-1)==0)=false:=beq_eq_false_iff_ne.2 B;have R:Hid (PF=gI (p.types.length-a) (a+1) ((U.drop (b+1)).foldl gt (S.dec n))):=by show _=_;rw[HP.o,I.o,fm.o,if_neg B]
        clear B;go_wp2_with fail;exact⟨⟨b+1,v,S.dec n,ω,by go_num,bf.o,R.o,em.o⟩,by simp[intOf];omega⟩
      have b1:=zF b U.length;have R:Hid (PF=gI (p.types.length+1-(a+1)) (a+1) S):=by show _=_;rw[HP.o,ql ca,show p.types.length+1-(a+1)=p.types.length-a by omega]
      go_wp2_with fail;exact⟨⟨a+1,v,S,ω,by go_num,y.o,R.o,g.o⟩,by simp[intOf];omega⟩
    have a1:=zF a rl
    have el:Hid (finP p=decide (rl=p.types.length)):=by
     show _=_;rw[eu.o,an.o,show p.types.length+1-a=(p.types.length-a)+1 by omega,gI,if_neg (by have:=ai.o;omega),<-ai.o]
    go_upto_region 36 with fail;replace y0:=belW y0;have y1:=belW (belC g.o.bel ij.o);by_cases bz:rl=p.types.length
    ·have r1:((rl:Int)==(p.types.length:Int))=true:=beq_iff_eq.2 ω;have HX:Hid (finP p=true):=by show _=_;rw[el.o];exact decide_eq_true bz
     clear bz;go_region_held3 (λX=>Below wr.heap.size wr X) (first|exact ad _) (fail);go_wp2_with fail;go_ret;rw[HX.o];exact⟨rfl,bel g.o.bel (ad _)⟩
    have r1:((rl:Int)==(p.types.length:Int))=false:=beq_eq_false_iff_ne.2 ω;have HX:Hid (finP p=false):=by show _=_;rw[el.o];exact decide_eq_false bz
    clear bz;go_region_held3 (λX=>Below wr.heap.size wr X) (first|exact ad _) (fail);go_wp2_with fail;go_ret;rw[HX.o];exact⟨rfl,bel g.o.bel (ad _)⟩
end Go.Proofs.YtjohpidklbhmcaaGreatDoor
