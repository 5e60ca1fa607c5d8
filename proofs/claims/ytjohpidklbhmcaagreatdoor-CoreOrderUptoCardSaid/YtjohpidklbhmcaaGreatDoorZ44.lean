/- Core -/
import Derived.Test.YtjohpidklbhmcaaGreatDoorZ40
import Derived.Deep.RegionLaw
namespace Go.Proofs.YtjohpidklbhmcaaGreatDoor
set_option linter.all false
set_option maxRecDepth 100000
set_option maxHeartbeats 16000000
section
open Proofs.Tryz RowKit Maps WideMaps ChangeMaps
def kn {w w1:À} {g:Nat} {ty:TypeId} {cs:Array Value} (h:Hs w g ty cs) (hb:Below w w w1):Hs w1 g ty cs:=(hb.block g h.lt).trans h
def nbq (Q:Nat->Prop) (v:Value) (w:À) (k:Nat):Prop:=Q k/\k<w/\v.ownBlock≠some k
def nwq (Q:Nat->Prop) (w:À) (k:Nat):Prop:=Q k/\k<w
section
variable {Q:Nat->Prop} {v:Value} {w':À}
def sub_nbB {w:À} (h:Below w w w'):Sub (nbq Q v w) (nbq Q v w') w w':=λk hk =>
 ⟨⟨hk.1,ρ hk.2.1 h.size,hk.2.2⟩,h.block k hk.2.1⟩
def BI {w:À} (h:Below w w w'):Sub (nwq Q w) (nwq Q w') w w':=λk hk=>⟨⟨hk.1,ρ hk.2 h.size⟩,h.block k hk.2⟩
def sub_nwB {base:Nat} {w:À} (h:Below w w w'):Sub (nw base w) (nw base w') w w':=λk hk=>⟨⟨hk.1,ρ hk.2 h.size⟩,h.block k hk.2⟩
def m4 {w:À} (hv:∀g,v.ownBlock=some g->g<w.heap.size) (hb:∀k,w.heap.size<=k->Q k):Sub (nw w w') (nbq Q v w') w' w':=λk hk =>
 ⟨⟨hb k hk.1,hk.2,λe=>by have:=hv k e;have:=hk.1;omega⟩,rfl⟩
variable {w5:À} {ob:Obj}
def Cn {v':Value} {w2:À} (hg:(w2.alloc ob).grownBy w5 v.ownBlock) (hvb:v'.ownBlock=v.ownBlock\/v'.ownBlock=some (w2.alloc ob).heap.size):Sub (nbq Q v w2) (nbq Q v' w5) w2 w5:=λk hk=>by
 obtain⟨h1,h2⟩:=sub_push hg hvb k ⟨Nat.zero_le k,hk.2⟩
 exact⟨⟨hk.1,h1.2⟩,h2⟩
def m5 {w w2:À} (h:Below w w w2) (hg:(w2.alloc ob).grownBy w5 v.ownBlock) (hv:∀g,v.ownBlock=some g->w.heap.size<=g):Below w w w5:=by
 have a:=belA h ob;exact⟨hg.os.trans a.os,hg.tape.trans a.tape,hg.output.trans a.output,ψ a.size hg.size,λk hk=>(hg.block k (ρ hk a.size) (λe=>by have:=hv k e.symm;omega)).trans (a.block k hk)⟩
def sh (b s x:Int):Int:=if -9223372036854775808<=x/\x<=9223372036854775807 then wrap64 (b+wrap64 (s*x)) else -1
def sh_in {b s x:Int} (h:i64 x):sh b s x=wrap64 (b+wrap64 (s*x)):=if_pos h
def sh_i64 (b s x:Int):i64 (sh b s x):=by
 unfold sh i64;split
 ·unfold wrap64;omega
 omega
def CpL {α β:Type} (R:À->(Nat->Prop)->List Value->β->Prop) (z ty:Nat) (g:α->β) (l:List α) (Q:Nat->Prop) (j:Nat) (v:Value) (W0 wr:À):Prop:=
 ∃xs,wr.ownsRow W0 ty z v j xs/\RowG z (R wr (nbq Q v wr)) xs ((l.take j).map g)/\Below W0 W0 wr
variable {α β:Type} {W0:À}
def CpL.start (R:À->(Nat->Prop)->List Value->β->Prop) (z ty:Nat) (g:α->β) (l:List α) (Q:Nat->Prop):Hid (CpL R z ty g l Q 0 () W0 W0):=⟨[],⟨by simp,.inl ⟨rfl,rfl⟩⟩,RowG.nil _,belR _⟩
def CpL.push {R:À->(Nat->Prop)->List Value->β->Prop} {z ty:Nat} {g:α->β} {l:List α} {j:Nat} {v5:Value} {wr W2:À} {xs cs:List Value} (hto:∀{w w':À} {P P':Nat->Prop} {cs:List Value} {a:β},R w P cs a->Sub P P' w w'->R w' P' cs a) (hx:wr.ownsRow W0 ty z v j xs) (hrow:RowG z (R wr (nbq Q v wr)) xs ((l.take j).map g)) (hb:Below W0 W0 wr) (h2:Below wr wr W2) (hj:j<l) (hcs:cs=z) (hr:R W2 (nbq Q v W2) cs (g l[j])) (hown:w5.ownsRow W0 ty z v5 (j+1) (xs++cs)) (hgrow:(W2.alloc ob).grownBy w5 v.ownBlock) (hvb:v5.ownBlock=v.ownBlock\/v5.ownBlock=some (W2.alloc ob).heap.size):Hid (CpL R z ty g l Q (j+1) v5 W0 w5):=by
 refine⟨_,hown,?_,m5 (bel hb h2) hgrow (λk hk=>(hx.lt k hk).1)⟩;have e:(l.take (j+1)).map g=(l.take j).map g++[g l[j]]:=by rw[List.take_succ_eq_append_getElem hj,List.map_append];rfl
 rw[e];exact ((hrow.to λcs a x=>hto x (sub_nbB h2)).snoc hcs hr).to λcs a x=>hto x (Cn hgrow hvb)
def CpL.sl {R:À->(Nat->Prop)->List Value->β->Prop} {z ty:Nat} {g:α->β} {l:List α} {wr:À} (hto:∀{w w':À} {P P':Nat->Prop} {cs:List Value} {a:β},R w P cs a->Sub P P' w w'->R w' P' cs a) (h:CpL R z ty g l Q l v W0 wr) (hb:∀k,W0.heap.size<=k->Q k):SlR wr (nwq Q wr) z (R wr (nwq Q wr)) v (l.map g):=by
 obtain⟨q,i,d,r⟩:=h;rw[List.take_length] at d;have j:wr.ownsRow W0 ty z v (l.map g).length q:=by rw[List.length_map];exact i
 exact (d.to λcs a x=>hto x (λk hk=>⟨⟨hk.1,hk.2.1⟩,rfl⟩)).sl j (λk hk=>by have:=i.lt k hk;exact⟨hb k this.1,this.2⟩)
def NwSaid {β:Type} (R:À->(Nat->Prop)->List Value->β->Prop) (a:β) (w:À) (en:Ending) (w':À):Prop:=∃cs,en=.returned (.agg cs.toArray)/\R w' (nw w w') cs a/\Below w w w'
def NwSl {β:Type} (R:À->(Nat->Prop)->List Value->β->Prop) (z n:Nat) (l:List β) (w:À) (en:Ending) (w':À):Prop:=∃A c,en=.returned (.slice A n c)/\SlR w' (nw w w') z (R w' (nw w w')) (.slice A n c) l/\Below w w w'
structure Bx (w0:À) (tid q:Nat) (K:À->Prop) (cs:List Value) (W:À):Prop where
 hq:w0<=q
 z:q+1<=W
 t:Hs W q tid cs.toArray
 bl:Below w0 w0 W
 k:∀X,Sub (nw (q+1) W) (nw w0 X) W X->K X
section
variable {w0:À} {tid q:Nat} {K:À->Prop} {cs:List Value} {W W':À}
def Bx.f (A:Hid (Bx w0 tid q K cs W)) (i:Nat) (h:cs[i]?=some v:=by exact rfl):W.cell? ⟨q,i,none⟩=some v/\W.frozen? ⟨q,i,none⟩=false:=⟨A.t.c i (by rw[List.getElem?_toArray];exact h),Lib.frozen_of_heap A.t i⟩
def Bx.sub (_:Hid (Bx w0 tid q K cs W)) (s:Below W W W'):Sub (nw (q+1) W) (nw (q+1) W') W W':=sub_nwB s
def Bx.nk (A:Hid (Bx w0 tid q K cs W)) (s:Below W W W') {K2:À->Prop} (h:∀X,Sub (nw W W') (nw w0 X) W' X->K2 X):Hid (Bx w0 tid q (λX=>K X/\K2 X) cs W'):=by
 have a:=A.z;exact⟨A.hq,ψ a s.size,kn A.t s,bel A.bl s,λX S=>⟨A.k X (sub_tr (Bx.sub A s) S),h X (λk hk=>S k ⟨ψ a hk.1,hk.2⟩)⟩⟩
def Bx.n (A:Hid (Bx w0 tid q K cs W)) (s:Below W W W'):Hid (Bx w0 tid q K cs W'):=by
 have B:=(Bx.nk A s (K2:=λ_=>True) (λ_ _=>trivial)).o;exact⟨B.hq,B.z,B.t,B.bl,λX S=>(B.k X S).1⟩
def Bx.p (A:Hid (Bx w0 tid q K cs W)) (i:Nat) (v:Value):Hid (Bx w0 tid q K (cs.set i v) (W.setCell ⟨q,i,none⟩ v)):=by
 have a:=A.hq
 exact⟨a,by rw[dj];exact A.z,by have:=er (i:=i) (v:=v) A.t;rwa [List.setIfInBounds_toArray] at this,⟨A.bl.os,A.bl.tape,A.bl.output,by rw[dj];exact A.bl.size,λk hk=>(Below.heap_setCell _ _ _ _ (λe=>by simp at e;omega)).trans (A.bl.block k hk)⟩,
  λX S=>A.k X (sub_tr (λk hk=>⟨⟨hk.1,by rw[dj];exact hk.2⟩,Below.heap_setCell _ _ _ _ (λe=>by have:=hk.1;simp at e;omega)⟩) S)⟩
def Bx.w {cs':List Value} (A:Hid (Bx w0 tid q K cs W)) (e:cs=cs':=by exact rfl):∃X,X=W/\Hid (Bx w0 tid q K cs' X):=⟨_,rfl,by subst e;exact A⟩
def Bx.one (w:À) (t:Nat) (Z cs:List Value):Hid (Bx w t w (λ_=>True) cs ((w.alloc (.cells Z.toArray t)).setRow w cs.toArray)):=by
 refine⟨υ _,by simp,setRow_heap _ _ _ _ _ _ (Hs.new _ _ _),?_,λ_ _=>trivial⟩;have h:=belA (belR w) (.cells Z.toArray t);exact⟨h.os,h.tape,h.output,by simp,λk hk=>(setRow_other _ _ _ _ ω).trans (h.block k hk)⟩
end
set_option maxRecDepth 100000
set_option maxHeartbeats 2000000
def zR {w a:À} {B:Nat} (h:Below B w a) {g:Nat} (hg:B<=g) (i:Nat) (v:Value):Below B w (a.setCell ⟨g,i,none⟩ v):=
 ⟨h.os,h.tape,h.output,by simp[World.setCell];exact h.size,λk hk=>(Below.heap_setCell _ _ _ _ (λe=>by simp at e;omega)).trans (h.block k hk)⟩
def Ak (b s:Int) (n:Nat) (hN:n<=549755813888):∀(e:Ex) (cs:List Value) (w:À),Ex.deep e<=n->ExR w (lo w) cs e->Calls prog 56 #[cs.toArray,b,s] w (NwSaid ExR (ren (sh b s) e) w):=by
 induction n with
 | zero=>intro e cs w U;cases e;rw[Ex.deep] at U;omega
 | succ n ih =>
  intro e cs w U hr;obtain⟨op,x,m,q,a,A,cap,rfl,rfl,⟨ho,hx,hm⟩,hs,ha⟩:=dJ hr;have IH:Hid (∀(i:Nat) (h:i<a.length) (cs:List Value) (w:À),ExR w (lo w) cs a[i]->Calls prog 56 #[cs.toArray,b,s] w (NwSaid ExR (ren (sh b s) a[i]) w)):=λi h cs w hr=>ih ω a[i] cs w (by have:=fY a _ (ν h);rw[Ex.deep] at U;omega) hr;have cc:a.length<=549755813888:=by have:=qM a;rw[Ex.deep] at U;omega
  obtain⟨HA,HF⟩:=zd2 ha (And.intro ho (And.intro hm hs));clear ih U hN hr ha ho hm hs;obtain⟨M,r⟩:=γ ((w.alloc (.cells #[op,x,m,q,.slice A a cap] 43)).alloc (.cells #[(0:Int),(0:Int),(0:Int),"",()] 43))
  have N:Hid (Hs M w 43 #[op,x,m,q,.slice A a cap]):=by rw[r];exact (Hs.new _ _ _).alloc _
  have D0:Hid (Hs M (w+1) 43 #[(0:Int),(0:Int),(0:Int),"",()]):=by rw[r];exact ta _ _ _ _
  have B1:Hid (Below w w M):=by rw[r];exact ζ2
  have Z1:Hid (M.heap.size=w+2):=by show _=_;rw[r];simp
  have ao:=η r;clear r
  have a4:∃Y c2 y,(op==33)=Y/\(op==34)=c2/\Hid (i64 y/\y=(if op=33\/op=34 then sh b s x else x))/\((Y=true/\y=wrap64 (b+wrap64 (s*x)))\/(Y=false/\c2=true/\y=wrap64 (b+wrap64 (s*x)))\/(Y=false/\c2=false/\y=x)):=by
   by_cases X:op=33
   ·exact⟨true,_,sh b s x,by simpa using X,rfl,⟨sh_i64 b s x,by rw[if_pos (.inl X)]⟩,.inl ⟨rfl,sh_in hx⟩⟩
   by_cases h2:op=34
   ·exact⟨false,true,sh b s x,by simpa using X,by simpa using h2,⟨sh_i64 b s x,by rw[if_pos (.inr h2)]⟩,.inr (.inl ⟨rfl,rfl,sh_in hx⟩)⟩
   exact⟨false,false,x,by simpa using X,by simpa using h2,⟨hx,by rw[if_neg (by simp[X,h2])]⟩,.inr (.inr ⟨rfl,rfl,rfl⟩)⟩
  obtain⟨Y,c2,y,k1,k2,HY,hc⟩:=a4;have a0:=N.c 0;have a1:=N.c 1;have f1:=N.free 1;rcases hc with ⟨rfl,hy⟩|⟨rfl,rfl,hy⟩|⟨rfl,rfl,hy⟩
  all_goals
   go_in;go_upto_region 1 with fail;rw[<-ao.o];go_upto_region 3 with fail
   first
    | (rw[<-hy];obtain⟨l,d⟩:=γ (M.setCell ⟨w,1,none⟩ (.int .i64 y))
       have C2:Hid (Hs l w 43 #[op,.int .i64 y,m,q,.slice A a cap]):=by rw[d];exact er N
       have D2:Hid (Hs l (w+1) 43 #[(0:Int),(0:Int),(0:Int),"",()]):=by rw[d];exact cV D0 ω
       have B2:Hid (Below w w l):=by rw[d];exact zR B1 (υ _) _ _
       have Z2:Hid (l.heap.size=w+2):=by show _=_;rw[d,dj];exact Z1
       rw[<-d])
    | (obtain⟨l,d⟩:=γ M
       have C2:Hid (Hs l w 43 #[op,.int .i64 y,m,q,.slice A a cap]):=by rw[d,hy];exact N
       have D2:Hid (Hs l (w+1) 43 #[(0:Int),(0:Int),(0:Int),"",()]):=by rw[d];exact D0
       have B2:Hid (Below w w l):=by rw[d];exact B1
       have Z2:Hid (l.heap.size=w+2):=by show _=_;rw[d];exact Z1
       rw[<-d])
   clear d a0 a1 f1 k1 k2 N D0 B1 Z1 ao;clear hy;go_wp2_with fail;have bl:=η (ExsR.to HA (ae B2));go_loopw [8,7] (λi v wr=>∃j:Nat,j<=a/\i=.int .i64 j/\Hid (CpL ExR 5 43 (ren (sh b s)) a (λk=>l.heap.size<=k) j v l wr)) (λi _ _=>a.length-(intOf i).toNat)
   case atStart=>exact⟨0,ω,rfl,CpL.start _ _ _ _ _ _⟩
   case round =>
    obtain⟨j,hj,rfl,HM⟩:=hrel;obtain⟨xs,G,T,H⟩:=HM.o;obtain⟨D,B,rfl⟩:=bU G;have b4:wr.cell? ⟨w,4,none⟩=some (.slice A a cap):=(kn C2 H).cell 4;obtain⟨L,Z,F⟩:=zd3 G T H;clear G T H HM;by_cases hlt:j<a
    ·obtain⟨g,cb,o1,x1,m1,s1,n1,B',c',rfl,-,p0,p1,p2,p3,p4,aj,-⟩:=BP (ExsR.to bl (ae F)) hlt;have bg:=η aj;have i0:(0:Int)<=(j:Int):=ω;have i1:(j:Int)<(a.length:Int):=ω;obtain⟨io,am,ak,al,an⟩:=info_parts BL;obtain⟨H1,H2,H3,H4⟩:=zd4 am ak al an;clear aj am ak al an;go_wp2_with (first|(go_at_call 56;refine (IH j hlt _ _ bg).mono ?_;rintro e3 W3 ⟨cs,rfl,W,J⟩;obtain⟨o2,x2,m2,s2,n2,ce,cd,rfl,-⟩:=dJ W;have bj:=η W;have bk:=η J;have bh:=η (aI L (Stp.of_below (own:=λ_=>False) J) (λ_ _ e=>e));have aq:l.heap.size<=W3:=ψ F.size J.size;clear W J)|(at_builtin;refine wpList_append_own_at _ rfl (.tmp 31) (.tmp 40) _ rfl l _ io _ _ _ underlying41 H1 H2 H3 H4 rfl π (.slice D j B) j xs rfl (m8 bh _) W3 1 1 _ rfl rfl (World.news_of_block (Hs.new _ _ _)) (by intro u hu;simp at hu;repeat (first|(subst hu;rfl)|(rcases hu with rfl|hu;rfl))) Ξ ω (BA aq _) ?_;intro vv w5 t E ad O;obtain⟨A5,c5,rfl⟩:=bU t));have HP:=CpL.push (R:=ExR) (g:=ren (sh b s)) (λh k=>ExR.to h k) L Z F bk hlt rfl (bj.to (m4 (λg hg=>(L.lt g hg).2) (λk hk=>ψ F.size hk))) t E O;clear t E ad O;go_wp2_with fail;exact⟨⟨j+1,ω,by go_num,HP⟩,by simp[intOf];omega⟩
    obtain rfl:j=a:=ω;have bf:=η (CpL.sl (R:=ExR) (λh k=>ExR.to h k) ⟨xs,L,Z,F⟩ (λk hk=>hk));have hC:=kn C2 F;have hD:=kn D2 F;have f4:=hC.free 4;obtain⟨HC,HD⟩:=zd2 hC hD;clear hC hD Z;go_upto_region 9 with fail;obtain⟨V,I⟩:=γ (wr.setCell ⟨w,4,none⟩ (.slice D a B))
    have CV:Hid (Hs V w 43 #[op,.int .i64 y,m,q,.slice D a B]):=by rw[I];exact er HC
    have DV:Hid (Hs V (w+1) 43 #[(0:Int),(0:Int),(0:Int),"",()]):=by rw[I];exact cV HD ω
    have BV:Hid (Below w w V):=by rw[I];exact zR (bel B2 F) (υ _) _ _
    have SV:Hid (Sub (nw l wr) (nw l V) wr V):=by
     rw[I];exact λk hk=>⟨⟨hk.1,by rw[dj];exact hk.2⟩,Below.heap_setCell _ _ _ _ (λe=>by have:=hk.1;have:=Z2.o;simp at e;omega)⟩
    rw[<-I];clear I f4 b4;have av:Hid ((V.setRow (w+1) #[op,.int .i64 y,m,q,.slice D a B]).heap[w.heap.size+1]?=some (.cells #[op,.int .i64 y,m,q,.slice D a B] 43 (0,0))):=setRow_heap _ _ _ _ _ _ DV;have BO:Hid (Below w w (V.setRow (w+1) #[op,.int .i64 y,m,q,.slice D a B])):=⟨BV.os,BV.tape,BV.output,by simp;exact BV.size,λk hk=>(setRow_other _ _ _ _ ω).trans (BV.block k hk)⟩
    have SO:Hid (Sub (nw l V) (nw w (V.setRow (w+1) #[op,.int .i64 y,m,q,.slice D a B])) V (V.setRow (w+1) #[op,.int .i64 y,m,q,.slice D a B])):=λk hk =>
     ⟨⟨by have:=hk.1;have:=Z2.o;omega,by simp;exact hk.2⟩,setRow_other _ _ _ _ (by have:=hk.1;have:=Z2.o;omega)⟩
    go_wp2_with (first|(refine wpList_load_row rfl 43 _ rfl w rfl 43 _ _ _ CV underlying43 rfl Δ ?_)|(refine wpList_store_row rfl 43 _ _ rfl (w+1) #[op,.int .i64 y,m,q,.slice D a B] rfl rfl 43 _ DV Δ rfl Ρ ?_));refine bodyPost_ret (results_cell_row results56 _ _ (w+1) 43 _ _ _ rfl av underlying43 rfl Δ) rfl ⟨_,rfl,?_,BO⟩;have ai:=(bf.to' (R':=ExR _ _) (sub_tr SV SO) (λ_ _ h=>ExR.to h (sub_tr SV SO)))
    rw[ren,<-HY.o.2,lU];have a8:(a.map (ren (sh b s))).length=a:=List.length_map _;rw[<-a8] at ai ⊢;exact ExR.of ⟨HF.1,HY.1,HF.2.1⟩ HF.2.2 ai
def res_any (b s:Int) (n:Nat) (hN:n<=549755813888):∀(l:List St) (A:Option Addr) (cap:Nat) (w:À),St.deeps l+1<=n->StsR w (lo w) (.slice A l cap) l->Calls prog 57 #[.slice A l cap,b,s] w (NwSl StR 9 l (l.map (renS (sh b s))) w):=by
 induction n with
 | zero=>intro l A cap w hn;omega
 | succ n ih =>
  intro l A cap w hn ha;have IH:Hid (∀(i:Nat) (h:i<l.length) (l':List St),St.deeps l'+1<=St.deep l[i]->∀(A:Option Addr) (cap:Nat) (w:À),StsR w (lo w) (.slice A l' cap) l'->Calls prog 57 #[.slice A l' cap,b,s] w (NwSl StR 9 l' (l'.map (renS (sh b s))) w)):=λi h l' hl A cap w hr=>ih ω l' A cap w (by have:=il l _ (ν h);omega) hr;have eo:l.length<=549755813888:=by have:=jh l;omega
  have dh:Hid (∀i (h:i<l.length),St.deep l[i]<=549755813888):=λi h=>by have:=il l _ (ν h);omega
  have HA:=η ha;obtain⟨io,a2,a0,a1,a3⟩:=info_parts BZ;obtain⟨H1,H2,H3,H4⟩:=zd4 a2 a0 a1 a3;obtain⟨jo,ay,aw,ax,az⟩:=info_parts BL;obtain⟨J1,J2,J3,J4⟩:=zd4 ay aw ax az;clear ih hn hN ha a2 a0 a1 a3 ay aw ax az;go_in;go_wp2_with fail;go_loopw [8,7] (λi v wr=>∃j:Nat,j<=l/\i=.int .i64 j/\Hid (CpL StR 9 120 (renS (sh b s)) l (λk=>w.heap.size<=k) j v w wr)) (λi _ _=>l.length-(intOf i).toNat)
  case atStart=>exact⟨0,ω,rfl,CpL.start _ _ _ _ _ _⟩
  case round =>
   obtain⟨j,hj,rfl,HM⟩:=hrel;by_cases hlt:j<l
   ·obtain⟨ys,a,z,d⟩:=HM.o;obtain⟨Ar,cr,rfl⟩:=bU a;obtain⟨g,em,cs,rfl,-,hr,-,J⟩:=SlR.at (StsR.to HA (ae d)) hlt;obtain⟨op,x,m,s1,u,r,N,O,T,A0,c0,A1,c1,A2,c2,A3,c3,rfl,e,⟨ho,hx,hm⟩,hs,D,am,an,a4,a9⟩:=kA hr;have p0:=J 0 _ rfl;have p1:=J 1 _ rfl;have p2:=J 2 _ rfl;have p3:=J 3 _ rfl;have p4:=J 4 _ rfl;have p5:=J 5 _ rfl;have p6:=J 6 _ rfl;have p7:=J 7 _ rfl;have p8:=J 8 _ rfl;rw[Nat.add_zero] at p0;have a5:=dh j hlt;rw[e,St.deep] at a5;have en:r.length<=549755813888:=by have:=qM r;omega
    have dg:Hid (∀i (h:i<r.length),Ex.deep r[i]<=549755813888):=λi h=>by have:=fY r _ (ν h);omega
    obtain⟨E,HN⟩:=zd2 e (And.intro (And.intro ho (And.intro hx hm)) (And.intro hs D));obtain⟨HX,c9,df,dk⟩:=zd4 am an a4 a9;obtain⟨aa,db,HB⟩:=zd3 a z d;have i0:(0:Int)<=(j:Int):=ω;have i1:(j:Int)<(l.length:Int):=ω;clear a z d HM hr J e ho hx hm hs D am an a4 a9 a5;have HZ:=Bx.one wr 120 [.int .i64 0,.int .i64 0,.int .i64 0,"","",.slice none 0 0,.slice none 0 0,.slice none 0 0,.slice none 0 0] [.int .i64 op,.int .i64 x,.int .i64 m,.string s1,.string u,.slice A0 r c0,.slice A1 N c1,.slice A2 O c2,.slice A3 T c3];go_upto_region 6 with (refine wpList_store_row rfl 120 _ _ rfl wr #[op,x,m,s1,u,.slice A0 r c0,.slice A1 N c1,.slice A2 O c2,.slice A3 T c3] rfl rfl 120 #[(0:Int),(0:Int),(0:Int),"","",(),(),(),()] (Hs.new _ _ _) Δ rfl Ρ ?_);obtain⟨WB,ba,BB⟩:=Bx.w HZ;rw[<-ba];clear ba HZ p0 p1 p2 p3 p4 p5 p6 p7 p8;obtain⟨F,rfl⟩:=γ wr
    have c7:=η (ExsR.to HX (ae BB.bl));go_wp2_with fail;go_loopw [11,10] (λk v2 wq=>∃q:Nat,q<=r/\k=.int .i64 q/\Hid (CpL ExR 5 43 (ren (sh b s)) r (λk=>WB.heap.size<=k) q v2 WB wq)) (λk _ _=>r.length-(intOf k).toNat)
    case atStart=>exact⟨0,ω,rfl,CpL.start _ _ _ _ _ _⟩
    case round =>
     obtain⟨q,hq,rfl,bi⟩:=hrel;obtain⟨zs,a,z,d⟩:=bi.o;obtain⟨Aq,cq,rfl⟩:=bU a;have B2:=Bx.n BB d;have b5:=Bx.f B2 5;obtain⟨H,U,I⟩:=zd3 a z d;clear a z d bi;by_cases W:q<r
     ·obtain⟨g',dx,o1,x1,m1,s2,n1,B',c',rfl,-,p0,p1,p2,p3,p4,av,-⟩:=BP (ExsR.to c7 (ae I)) W;have dc:=η av;have j0:(0:Int)<=(q:Int):=ω;have j1:(q:Int)<(r.length:Int):=ω;clear av;go_wp2_with (first|(go_at_call 56;refine (Ak b s _ (υ _) _ _ _ (dg q W) dc).mono ?_;rintro e3 W3 ⟨cs,rfl,Y,V⟩;obtain⟨o2,x2,m2,s3,n2,eq,ep,rfl,-⟩:=dJ Y;have ab:=η Y;have dj:=η V;have de:=η (aI H (Stp.of_below (own:=λ_=>False) V) (λ_ _ e=>e));have bo:WB.heap.size<=W3:=ψ I.size V.size;clear Y V)|(at_builtin;refine wpList_append_own_at _ rfl (.tmp 29) (.tmp 38) _ rfl WB _ jo _ _ _ underlying41 J1 J2 J3 J4 rfl π (.slice Aq q cq) q zs rfl (m8 de _) W3 1 1 _ rfl rfl (World.news_of_block (Hs.new _ _ _)) (by intro u D;simp at D;repeat (first|(subst D;rfl)|(rcases D with rfl|D;rfl))) Ξ ω (BA bo _) ?_;intro vv w5 y B M G;obtain⟨A5,c5,rfl⟩:=bU y));have HP:=CpL.push (R:=ExR) (g:=ren (sh b s)) (λh k=>ExR.to h k) H U I dj W rfl (ab.to (m4 (λg hg=>(H.lt g hg).2) (λk hk=>ψ I.size hk))) y B G;clear y B M G;go_wp2_with fail;exact⟨⟨q+1,ω,by go_num,HP⟩,by simp[intOf];omega⟩
     obtain rfl:q=r:=ω;have ao:=CpL.sl (R:=ExR) (λh k=>ExR.to h k) ⟨zs,H,U,I⟩ (λk hk=>hk);have B3:=Bx.nk BB I (K2:=λX=>SlR X (nw F X) 5 (ExR X (nw F X)) (.slice Aq r cq) (r.map (ren (sh b s)))) (λX S=>ao.to' S (λ_ _ h=>ExR.to h S));clear ao;go_upto_region 12 with fail;obtain⟨W3,be,B4⟩:=Bx.w (Bx.p B3 5 (.slice Aq r cq));rw[<-be];clear be b5 B3 B2 U H I;have b6:=Bx.f B4 6;have bh:=η (StsR.to c9 (ae B4.bl));go_upto_region 13 with (go_at_call 57;refine (IH j hlt N (by rw[E.o,St.deep];omega) A1 c1 _ bh).mono ?_;rintro e4 W4 ⟨A4,c4,rfl,au,a8⟩;have B5:=Bx.nk B4 a8 (K2:=λX=>SlR X (nw F X) 9 (StR X (nw F X)) (.slice A4 N c4) (N.map (renS (sh b s)))) (λX S=>au.to' S (λ_ _ h=>StR.to h S));have f6:=Bx.f B5 6;clear au a8);obtain⟨W5,bd,B6⟩:=Bx.w (Bx.p B5 6 (.slice A4 N c4));rw[<-bd];clear bd f6 b6 B5 B4 bh;have b7:=Bx.f B6 7;have bg:=η (StsR.to df (ae B6.bl));go_upto_region 14 with (go_at_call 57;refine (IH j hlt O (by rw[E.o,St.deep];omega) A2 c2 _ bg).mono ?_;rintro e6 W6 ⟨A6,c6,rfl,aq,a7⟩;have B7:=Bx.nk B6 a7 (K2:=λX=>SlR X (nw F X) 9 (StR X (nw F X)) (.slice A6 O c6) (O.map (renS (sh b s)))) (λX S=>aq.to' S (λ_ _ h=>StR.to h S));have f7:=Bx.f B7 7;clear aq a7)
     obtain⟨W7,bc,B8⟩:=Bx.w (Bx.p B7 7 (.slice A6 O c6));rw[<-bc];clear bc f7 b7 B7 B6 bg;have b8:=Bx.f B8 8;have bf:=η (StsR.to dk (ae B8.bl));go_upto_region 15 with (go_at_call 57;refine (IH j hlt T (by rw[E.o,St.deep];omega) A3 c3 _ bf).mono ?_;rintro e8 W8 ⟨A8,c8,rfl,ap,a6⟩;have B9:=Bx.nk B8 a6 (K2:=λX=>SlR X (nw F X) 9 (StR X (nw F X)) (.slice A8 T c8) (T.map (renS (sh b s)))) (λX S=>ap.to' S (λ_ _ h=>StR.to h S));have f8:=Bx.f B9 8;clear ap a6);obtain⟨Z,bb,L⟩:=Bx.w (Bx.p B9 8 (.slice A8 T c8));rw[<-bb];clear bb f8 b8 B9 B8 bf;obtain⟨⟨⟨⟨-,k1⟩,k2⟩,k3⟩,k4⟩:=L.k Z (λk hk=>⟨⟨by have:=hk.1;have:=L.hq;omega,hk.2⟩,rfl⟩)
     have ab:Hid (StR Z (nw F Z) [.int .i64 op,.int .i64 x,.int .i64 m,.string s1,.string u,.slice Aq r cq,.slice A4 N c4,.slice A6 O c6,.slice A8 T c8] (renS (sh b s) l[j])):=by
      show StR _ _ _ _;rw[E.o,renS,lU,eR,eR,eR];exact StR.of HN.1 HN.2.1 HN.2.2 k1 k2 k3 k4
     obtain⟨di,dd⟩:=zd2 L.bl (aI aa (Stp.of_below (own:=λ_=>False) L.bl) (λ_ _ e=>e));have bn:w.heap.size<=Z:=ψ HB.size L.bl.size;clear k1 k2 k3 k4;go_wp2_with (first|(refine wpList_load_row rfl 120 _ rfl F rfl 120 _ _ _ L.t underlying120 rfl Δ ?_)|(at_builtin;refine wpList_append_own_at _ rfl (.tmp 60) (.tmp 62) _ rfl w _ io _ _ _ underlying62 H1 H2 H3 H4 rfl π (.slice Ar j cr) j ys rfl (m8 dd _) Z 1 1 _ rfl rfl (World.news_of_block (Hs.new _ _ _)) (by intro u D;simp at D;repeat (first|(subst D;rfl)|(rcases D with rfl|D;rfl))) Ξ ω (BA bn _) ?_;intro vv w5 y B M G;obtain⟨A5,c5,rfl⟩:=bU y));have HP:=CpL.push (R:=StR) (g:=renS (sh b s)) (λh k=>StR.to h k) aa db HB di hlt rfl (ab.to (m4 (λg hg=>(aa.lt g hg).2) (λk hk=>ψ HB.size hk))) y B G;clear y B M G;go_wp2_with fail;exact⟨⟨j+1,ω,by go_num,HP⟩,by simp[intOf];omega⟩
   obtain rfl:j=l:=ω;obtain⟨ys,a,z,d⟩:=HM.o;obtain⟨Ar,cr,rfl⟩:=bU a;obtain⟨da,HB⟩:=zd2 (CpL.sl (R:=StR) (λh k=>StR.to h k) ⟨ys,a,z,d⟩ (λk hk=>hk)) d;clear a z d HM;go_wp2;go_ret;exact⟨_,_,rfl,da,HB⟩
variable {W:À}
def zG {w:À} (h:Below w w W) (hQ:∀k,k<w.heap.size->Q k) (hv:∀g,v.ownBlock=some g->w.heap.size<=g):Sub (lo w) (nbq Q v W) w W:=λk hk =>
 ⟨⟨hQ k hk,ρ hk h.size,λe=>by have:=hv k e;unfold lo at hk;omega⟩,h.block k hk⟩
def qBlk (w WO:À) (k:Nat):Prop:=k<w\/WO<k
def AH {w WO:À} {i:Nat} (hq:w.heap.size<=WO):Sub (nwq (qBlk w WO) W) (nwq (qBlk w WO) (W.setCell ⟨WO,i,none⟩ v)) W (W.setCell ⟨WO,i,none⟩ v):=λk hk =>
 ⟨⟨hk.1,by rw[dj];exact hk.2⟩,Below.heap_setCell _ _ _ _ (λe=>by have:=hk.1;unfold qBlk at this;simp at e;omega)⟩
def sQlk (w:À) (k:Nat):Prop:=k<w\/w+2<=k
def sub_qnb {w WO:À} (hq:w.heap.size+2<=WO) (hv:∀g,v.ownBlock=some g->w.heap.size<=g/\g<WO.heap.size):Sub (nwq (qBlk w WO) W) (nbq (sQlk w) v W) W W:=λk hk =>
 ⟨⟨by have:=hk.1;unfold qBlk at this;unfold sQlk;omega,hk.2,λe=>by have:=hv k e;have:=hk.1;unfold qBlk at this;omega⟩,rfl⟩theorem cell_al {w:À} {a:Addr} {v:Value} {o:Obj} (h:w.cell? a=some v):(w.alloc o).cell? a=some v:=belC ζ1 h
structure ShPre (p:Pg):Prop where
 funs:p.funs.length<=549755813888
 fun_:∀i (h:i<p.funs.length),Ex.deep p.funs[i].body<=549755813888
 acts:p.actors.length<=549755813888
 vars:∀i (h:i<p.actors.length),p.actors[i].vars.length<=549755813888
 var:∀i (h:i<p.actors.length),∀k (hk:k<p.actors[i].vars.length),Ex.deep (p.actors[i].vars[k]).init<=549755813888
 ons:∀i (h:i<p.actors.length),p.actors[i].on.length<=549755813888
 on:∀i (h:i<p.actors.length),∀k (hk:k<p.actors[i].on.length),St.deeps (p.actors[i].on[k]).body+1<=549755813888
variable {A0 A1 A2 A3:Option Addr} {q0 q1 q2 q3:Nat}
def By {b s:Int} {p:Pg} {w:À} (hp:ShPre p) (h:PgAt w A0 A1 A2 A3 q0 q1 q2 q3 p):Calls prog 14 #[.agg #[.slice A0 p.types q0,.slice A1 p.effects q1,.slice A2 p.funs q2,.slice A3 p.actors q3],b,s] w λe w'=>∃F2 F3 r2 r3,e=.returned (.agg #[.slice A0 p.types q0,.slice A1 p.effects q1,.slice F2 p.funs r2,.slice F3 p.actors r3])/\SlR w' (lo w') 11 (FnR w' (lo w')) (.slice F2 p.funs r2) (p.funs.map (yp (sh b s)))/\SlR w' (lo w') 7 (AcR w' (lo w')) (.slice F3 p.actors r3) (p.actors.map (ym (sh b s)))/\Below w w w':=by
 obtain⟨bk,d0⟩:=zd2 hp h;have hd:=hp.funs;have he:=hp.acts;obtain⟨io,dv,dt,du,dw⟩:=info_parts ri;obtain⟨I1,I2,I3,I4⟩:=zd4 dv dt du dw;obtain⟨jo,dr,dp,dq,ds⟩:=info_parts BG;obtain⟨J1,J2,J3,J4⟩:=zd4 dr dp dq ds;obtain⟨ko,dm,dk,dl,dn⟩:=info_parts Cm;obtain⟨K1,K2,K3,K4⟩:=zd4 dm dk dl dn;obtain⟨mo,dh,df,dg,di⟩:=info_parts Cl;obtain⟨M1,M2,M3,M4⟩:=zd4 dh df dg di;clear hp h dv dt du dw dr dp dq ds dm dk dl dn dh df dg di;obtain⟨W1,a5⟩:=γ ((w.alloc (.cells #[.slice A0 p.types q0,.slice A1 p.effects q1,.slice A2 p.funs q2,.slice A3 p.actors q3] 27)).alloc (.cells #[(),(),(),()] 27))
 have C1:Hid (Hs W1 w 27 #[.slice A0 p.types q0,.slice A1 p.effects q1,.slice A2 p.funs q2,.slice A3 p.actors q3]):=by rw[a5];exact (Hs.new _ _ _).alloc _
 have D1:Hid (Hs W1 (w+1) 27 #[(),(),(),()]):=by rw[a5];exact ta _ _ _ _
 have B1:Hid (Below w w W1):=by rw[a5];exact ζ2
 have Z1:Hid (W1.heap.size=w+2):=by show _=_;rw[a5];simp
 have dz:=η a5;clear a5;go_in;go_upto_region 1 with fail;rw[<-dz.o];clear dz;go_wp2_with fail;go_loopw [8,7] (λi v wr=>∃j:Nat,j<=p.funs/\i=.int .i64 j/\Hid (CpL FnR 11 45 (yp (sh b s)) p.funs (sQlk w) j v W1 wr)) (λi _ _=>p.funs.length-(intOf i).toNat)
 case atStart=>exact⟨0,ω,rfl,CpL.start _ _ _ _ _ _⟩
 case round =>
  obtain⟨j,hj,rfl,HM⟩:=hrel;obtain⟨ys,G,J,y⟩:=HM.o;obtain⟨Ar,cr,rfl⟩:=bU G;have b2:wr.cell? ⟨w,2,none⟩=some (.slice A2 p.funs q2):=(kn C1 y).cell 2;obtain⟨ag,a7,HB,M⟩:=zd4 G J y (bel B1 y);clear G J y HM;by_cases hlt:j<p.funs
  ·have u1:=zT j p.funs;obtain⟨g,et,cs,rfl,-,hr,-,E⟩:=SlR.at d0.f hlt;obtain⟨A,q,k,s1,u,B,c,o,x,m,r,e,D,d,rfl,an,af,ao,bf,ap⟩:=jB hr;have p0:=belC M (E 0 _ rfl);have p1:=belC M (E 1 _ rfl);have p2:=belC M (E 2 _ rfl);have p3:=belC M (E 3 _ rfl);have p4:=belC M (E 4 _ rfl);have p5:=belC M (E 5 _ rfl);have p6:=belC M (E 6 _ rfl);have p7:=belC M (E 7 _ rfl);have p8:=belC M (E 8 _ rfl);have p9:=belC M (E 9 _ rfl);have es:=belC M (E 10 _ rfl);rw[Nat.add_zero] at p0;have i0:(0:Int)<=(j:Int):=ω;have i1:(j:Int)<(p.funs.length:Int):=ω;have bm:=η (bk.fun_ j hlt);obtain⟨cq,cu,cy,cp,bo⟩:=zd5 an af ao bf ap;clear hr E an af ao bf ap;have HZ:=Bx.one wr 45 ["",.slice none 0 0,.int .i64 0,"",.slice none 0 0,.int .i64 0,.int .i64 0,.int .i64 0,.int .i64 0,"",.slice none 0 0] [.string p.funs[j].name,.slice A p.funs[j].params.length q,.int .i64 k,.string s1,.slice B u c,.int .i64 p.funs[j].slots,.int .i64 o,.int .i64 x,.int .i64 m,.string r,.slice D e d]
   go_upto_region 6 with (refine wpList_store_row rfl 45 _ _ rfl wr #[.string p.funs[j].name,.slice A p.funs[j].params.length q,.int .i64 k,s1,.slice B u c,.int .i64 p.funs[j].slots,o,x,m,r,.slice D e d] rfl rfl 45 #["",(),(0:Int),"",(),(0:Int),(0:Int),(0:Int),(0:Int),"",()] (Hs.new _ _ _) Δ rfl Ρ ?_);obtain⟨WB,bh,BB⟩:=Bx.w HZ;rw[<-bh];clear bh HZ p0 p1 p2 p3 p4 p5 p6 p7 p8 p9 es b2;have b6:=(Bx.f BB 6).1;have b7:=(Bx.f BB 7).1;have b8:=(Bx.f BB 8).1;have b9:=(Bx.f BB 9).1;have ex:=(Bx.f BB 10).1;have au:=η (ExR.to bo (ae (bel M BB.bl)));go_upto_region 7 with (go_at_call 56;refine (Ak b s _ (υ _) _ _ _ bm au).mono ?_;rintro e3 W3 ⟨cs,rfl,ai,aq⟩;obtain⟨o2,x2,m2,r2,n2,D2,d2,rfl,-⟩:=dJ ai;have Y:=Bx.nk BB aq (K2:=λX=>ExR X (nw wr X) [.int .i64 o2,.int .i64 x2,.int .i64 m2,.string r2,.slice D2 n2 d2] (ren (sh b s) p.funs[j].body)) (λX S=>ExR.to ai S);have g6:=Bx.f Y 6;have g7:=Bx.f Y 7;have g8:=Bx.f Y 8;have g9:=Bx.f Y 9;have ev:=Bx.f Y 10;clear ai aq);obtain⟨W4,ar,L⟩:=Bx.w (Bx.p (Bx.p (Bx.p (Bx.p (Bx.p Y 6 (o2:Vl)) 7 (x2:Vl)) 8 (m2:Vl)) 9 (.string r2)) 10 (.slice D2 n2 d2));rw[<-ar];clear ar g6 g7 g8 g9 ev b6 b7 b8 b9 ex Y au
   have a1:Hid (FnR W4 (nbq (sQlk w) (.slice Ar j cr) W4) [.string p.funs[j].name,.slice A p.funs[j].params.length q,.int .i64 k,.string s1,.slice B u c,.int .i64 p.funs[j].slots,.int .i64 o2,.int .i64 x2,.int .i64 m2,.string r2,.slice D2 n2 d2] (yp (sh b s) p.funs[j])):=by
    obtain⟨-,k1⟩:=L.k W4 (λk H=>⟨⟨by have:=H.1;have:=L.hq;omega,H.2⟩,rfl⟩);have S1:=zG (Q:=sQlk w) (v:=.slice Ar j cr) (bel M L.bl) (λ_ h=>.inl h) (λg hg=>by have:=(ag.lt g hg).1;have:=Z1.o;omega);exact⟨.slice A p.funs[j].params.length q,[.int .i64 k,.string s1,.slice B u c],[.int .i64 o2,.int .i64 x2,.int .i64 m2,.string r2,.slice D2 n2 d2],rfl,cq,cu,FldsR.to cy S1,TyR.to cp S1,ExR.to k1 (m4 (λg hg=>(ag.lt g hg).2) (λk H=>.inr (by have:=Z1.o;have:=HB.size;omega)))⟩
   obtain⟨a3,a0⟩:=zd2 L.bl (aI ag (Stp.of_below (own:=λ_=>False) L.bl) (λ_ _ e=>e));have ak:W1.heap.size<=W4:=ψ HB.size L.bl.size;go_wp2_with (first|(refine wpList_load_row rfl 45 _ rfl wr rfl 45 _ _ _ L.t underlying45 rfl Δ ?_)|(at_builtin;refine wpList_append_own_at _ rfl (.tmp 37) (.tmp 39) _ rfl W1 _ io _ _ _ underlying24 I1 I2 I3 I4 rfl π (.slice Ar j cr) j ys rfl (m8 a0 _) W4 1 1 _ rfl rfl (World.news_of_block (Hs.new _ _ _)) (by intro u O;simp at O;repeat (first|(subst O;rfl)|(rcases O with rfl|O;rfl))) Ξ ω (BA ak _) ?_;intro vv w5 l F T I;obtain⟨A5,c5,rfl⟩:=bU l));have HP:=CpL.push (R:=FnR) (g:=yp (sh b s)) (λh k=>FnR.to h k) ag a7 HB a3 hlt rfl a1 l F I;clear l F T I;go_wp2_with fail;exact⟨⟨j+1,ω,by go_num,HP⟩,by simp[intOf];omega⟩
  obtain rfl:j=p.funs:=ω;have u1:decide ((p.funs.length:Int)<(p.funs.length:Int))=false:=decide_eq_false ω;obtain⟨FSt,C2,D2⟩:=zd3 (CpL.sl (R:=FnR) (λh k=>FnR.to h k) ⟨ys,ag,a7,HB⟩ (λk H=>.inr (by have:=Z1.o;omega))) (kn C1 HB) (kn D1 HB);have Z2:Hid (w.heap.size+2<=wr):=by show _<=_;have:=Z1.o;have:=HB.size;omega
  go_wp2_with fail;clear C1 D1 HB a7 ag b2 u1 hlt;obtain⟨W2,rfl⟩:=γ wr
  go_loopw [11,10] (λi v wr=>∃j:Nat,j<=p.actors/\i=.int .i64 j/\Hid (CpL AcR 7 54 (ym (sh b s)) p.actors (sQlk w) j v W2 wr)) (λi _ _=>p.actors.length-(intOf i).toNat)
  case atStart=>exact⟨0,ω,rfl,CpL.start _ _ _ _ _ _⟩
  case round =>
   obtain⟨j,hj,rfl,HM⟩:=hrel;obtain⟨ys,G,J,y⟩:=HM.o;obtain⟨Aw,cw,rfl⟩:=bU G;have b3:wr.cell? ⟨w,3,none⟩=some (.slice A3 p.actors q3):=(kn C2 y).cell 3;obtain⟨ag,a7,HB,aj⟩:=zd4 G J y (bel M y);clear G J y HM;by_cases hlt:j<p.actors
   ·have u1:=zT j p.actors;obtain⟨g,et,cs,rfl,-,hr,-,E⟩:=SlR.at d0.a hlt;obtain⟨A,q,B,c,D,d,rfl,an,af,ao,dd,de⟩:=jD hr;have p0:=belC aj (E 0 _ rfl);have p1:=belC aj (E 1 _ rfl);have p2:=belC aj (E 2 _ rfl);have p3:=belC aj (E 3 _ rfl);have p4:=belC aj (E 4 _ rfl);have p5:=belC aj (E 5 _ rfl);have p6:=belC aj (E 6 _ rfl);rw[Nat.add_zero] at p0;have i0:(0:Int)<=(j:Int):=ω;have i1:(j:Int)<(p.actors.length:Int):=ω;obtain⟨cq,cu,cy,e7,fb⟩:=zd5 an af ao dd de;obtain⟨e9,e8,fd,fc⟩:=zd4 (bk.vars j hlt) (bk.var j hlt) (bk.ons j hlt) (bk.on j hlt);have ha:=e9.o;have hb:=fd.o;clear hr E an af ao dd de;have HZ:=Bx.one wr 54 ["",.slice none 0 0,.int .i64 0,.slice none 0 0,.slice none 0 0,.int .i64 0,.int .i64 0] [.string p.actors[j].name,.slice A p.actors[j].params.length q,.int .i64 p.actors[j].slots,.slice B p.actors[j].vars.length c,.slice D p.actors[j].on.length d,.int .i64 p.actors[j].policy,.int .i64 p.actors[j].most];go_upto_region 13 with (refine wpList_store_row rfl 54 _ _ rfl wr #[.string p.actors[j].name,.slice A p.actors[j].params.length q,.int .i64 p.actors[j].slots,.slice B p.actors[j].vars.length c,.slice D p.actors[j].on.length d,.int .i64 p.actors[j].policy,.int .i64 p.actors[j].most] rfl rfl 54 #["",(),(0:Int),(),(),(0:Int),(0:Int)] (Hs.new _ _ _) Δ rfl Ρ ?_)
    obtain⟨WB,bh,BB⟩:=Bx.w HZ;rw[<-bh];clear bh HZ p0 p1 p2 p3 p4 p5 p6 b3;have ca:Hid (w.heap.size<=wr):=by show _<=_;have:=Z2.o;have:=HB.size;omega
    have fg:=η (bel aj BB.bl);obtain⟨WO,rfl⟩:=γ wr
    go_wp2_with fail;go_loopw [14,13] (λi v wr=>∃k:Nat,k<=p.actors[j].vars.length/\i=.int .i64 k/\Hid (CpL VrR 9 61 (yu (sh b s)) p.actors[j].vars (qBlk w WO) k v WB wr)) (λi _ _=>p.actors[j].vars.length-(intOf i).toNat)
    case atStart=>exact⟨0,ω,rfl,CpL.start _ _ _ _ _ _⟩
    case round =>
     obtain⟨k,H,rfl,HN⟩:=hrel;obtain⟨zs,G,J,y⟩:=HN.o;obtain⟨Ar,cr,rfl⟩:=bU G;have BN:=Bx.n BB y;have b3:=(Bx.f BN 3).1;obtain⟨N,az,a2,Z⟩:=zd4 G J y (bel fg y);clear G J y HN;by_cases ax:k<p.actors[j].vars.length
     ·have u2:=zT k (p.actors[j].vars.length);obtain⟨g1,d8,cs,rfl,-,hr,-,E⟩:=SlR.at e7 ax;obtain⟨k1,s1,u,E1,c1,o,x,m,r,e,E2,d1,rfl,af,bf,ap⟩:=mu hr;have p0:=belC Z (E 0 _ rfl);have p1:=belC Z (E 1 _ rfl);have p2:=belC Z (E 2 _ rfl);have p3:=belC Z (E 3 _ rfl);have p4:=belC Z (E 4 _ rfl);have p5:=belC Z (E 5 _ rfl);have p6:=belC Z (E 6 _ rfl);have p7:=belC Z (E 7 _ rfl);have p8:=belC Z (E 8 _ rfl);rw[Nat.add_zero] at p0;have j0:(0:Int)<=(k:Int):=ω;have j1:(k:Int)<(p.actors[j].vars.length:Int):=ω;obtain⟨ct,cp,bo,bm⟩:=zd4 af bf ap (e8 k ax);clear hr E af bf ap;have HZ:=Bx.one wr 61 ["",.int .i64 0,"",.slice none 0 0,.int .i64 0,.int .i64 0,.int .i64 0,"",.slice none 0 0] [.string p.actors[j].vars[k].name,.int .i64 k1,.string s1,.slice E1 u c1,.int .i64 o,.int .i64 x,.int .i64 m,.string r,.slice E2 e d1];go_upto_region 18 with (refine wpList_store_row rfl 61 _ _ rfl wr #[.string p.actors[j].vars[k].name,k1,s1,.slice E1 u c1,o,x,m,r,.slice E2 e d1] rfl rfl 61 #["",(0:Int),"",(),(0:Int),(0:Int),(0:Int),"",()] (Hs.new _ _ _) Δ rfl Ρ ?_);obtain⟨WC,bg,BC⟩:=Bx.w HZ;rw[<-bg];clear bg HZ p0 p1 p2 p3 p4 p5 p6 p7 p8 b3;have b4:=(Bx.f BC 4).1;have b5:=(Bx.f BC 5).1
      have b6:=(Bx.f BC 6).1;have b7:=(Bx.f BC 7).1;have b8:=(Bx.f BC 8).1;have au:=η (ExR.to bo (ae (bel Z BC.bl)));go_upto_region 19 with (go_at_call 56;refine (Ak b s _ (υ _) _ _ _ bm au).mono ?_;rintro e3 W3 ⟨cs,rfl,ai,aq⟩;obtain⟨o2,x2,m2,r2,n2,D3,d3,rfl,-⟩:=dJ ai;have Y:=Bx.nk BC aq (K2:=λX=>ExR X (nw wr X) [.int .i64 o2,.int .i64 x2,.int .i64 m2,.string r2,.slice D3 n2 d3] (ren (sh b s) p.actors[j].vars[k].init)) (λX S=>ExR.to ai S);have g4:=Bx.f Y 4;have g5:=Bx.f Y 5;have g6:=Bx.f Y 6;have g7:=Bx.f Y 7;have g8:=Bx.f Y 8;clear ai aq);obtain⟨W4,ar,L⟩:=Bx.w (Bx.p (Bx.p (Bx.p (Bx.p (Bx.p Y 4 (o2:Vl)) 5 (x2:Vl)) 6 (m2:Vl)) 7 (.string r2)) 8 (.slice D3 n2 d3));rw[<-ar];clear ar g4 g5 g6 g7 g8 b4 b5 b6 b7 b8 Y au;have ci:Hid (WO.heap.size+1<=wr):=by show _<=_;have:=BB.z;have:=a2.size;omega
      have a1:Hid (VrR W4 (nbq (qBlk w WO) (.slice Ar k cr) W4) [.string p.actors[j].vars[k].name,.int .i64 k1,.string s1,.slice E1 u c1,.int .i64 o2,.int .i64 x2,.int .i64 m2,.string r2,.slice D3 n2 d3] (yu (sh b s) p.actors[j].vars[k])):=by
       obtain⟨-,k1⟩:=L.k W4 (λk H=>⟨⟨by have:=H.1;have:=L.hq;omega,H.2⟩,rfl⟩);have S1:=zG (Q:=qBlk w WO) (v:=.slice Ar k cr) (bel Z L.bl) (λ_ h=>.inl h) (λg hg=>by have:=(N.lt g hg).1;have:=BB.z;have:=ca.o;omega);exact⟨[_,_,_],[.int .i64 o2,.int .i64 x2,.int .i64 m2,.string r2,.slice D3 n2 d3],rfl,ct,TyR.to cp S1,ExR.to k1 (m4 (λg hg=>(N.lt g hg).2) (λk H=>.inr (by have:=ci.o;omega)))⟩
      obtain⟨a3,a0⟩:=zd2 L.bl (aI N (Stp.of_below (own:=λ_=>False) L.bl) (λ_ _ e=>e));have ak:WB.heap.size<=W4:=ψ a2.size L.bl.size;go_wp2_with (first|(refine wpList_load_row rfl 61 _ rfl wr rfl 61 _ _ _ L.t underlying61 rfl Δ ?_)|(at_builtin;refine wpList_append_own_at _ rfl (.tmp 71) (.tmp 73) _ rfl WB _ ko _ _ _ underlying51 K1 K2 K3 K4 rfl π (.slice Ar k cr) k zs rfl (m8 a0 _) W4 1 1 _ rfl rfl (World.news_of_block (Hs.new _ _ _)) (by intro u O;simp at O;repeat (first|(subst O;rfl)|(rcases O with rfl|O;rfl))) Ξ ω (BA ak _) ?_;intro vv w5 l F T I;obtain⟨A5,c5,rfl⟩:=bU l));have HP:=CpL.push (R:=VrR) (g:=yu (sh b s)) (λh k=>VrR.to h k) N az a2 a3 ax rfl a1 l F I;clear l F T I;go_wp2_with fail;exact⟨⟨k+1,ω,by go_num,HP⟩,by simp[intOf];omega⟩
     obtain rfl:k=p.actors[j].vars.length:=ω;have u2:decide ((p.actors[j].vars.length:Int)<(p.actors[j].vars.length:Int))=false:=decide_eq_false ω;have e0:=η (CpL.sl (R:=VrR) (λh k=>VrR.to h k) ⟨zs,N,az,a2⟩ (λk H=>.inr (by have:=BB.z;omega)));go_wp2_with fail;clear N az b3 u2;obtain⟨W5,rfl⟩:=γ wr
     go_loopw [17,16] (λi v wr=>∃k:Nat,k<=p.actors[j].on.length/\i=.int .i64 k/\Hid (CpL HdR 4 64 (yv (sh b s)) p.actors[j].on (qBlk w WO) k v W5 wr)) (λi _ _=>p.actors[j].on.length-(intOf i).toNat)
     case atStart=>exact⟨0,ω,rfl,CpL.start _ _ _ _ _ _⟩
     case round =>
      obtain⟨k,H,rfl,HN⟩:=hrel;obtain⟨zs,G,J,y⟩:=HN.o;obtain⟨As,a6,rfl⟩:=bU G;have BM:=Bx.n BN y;have b4:=(Bx.f BM 4).1;obtain⟨N,az,bn,a8⟩:=zd4 G J y (bel Z y);clear G J y HN;by_cases ax:k<p.actors[j].on.length
      ·have u3:=zT k (p.actors[j].on.length);obtain⟨g1,d8,cs,rfl,-,hr,-,E⟩:=SlR.at fb ax;obtain⟨E1,c1,E2,d1,rfl,an,af,ao,ap⟩:=mB hr;have p0:=belC a8 (E 0 _ rfl);have p1:=belC a8 (E 1 _ rfl);have p2:=belC a8 (E 2 _ rfl);have p3:=belC a8 (E 3 _ rfl);rw[Nat.add_zero] at p0;have j0:(0:Int)<=(k:Int):=ω;have j1:(k:Int)<(p.actors[j].on.length:Int):=ω;obtain⟨fa,ct,fe,bo,bm⟩:=zd5 an af ao ap (fc k ax);clear hr E an af ao ap;have HZ:=Bx.one wr 64 ["",.slice none 0 0,.int .i64 0,.slice none 0 0] [.string p.actors[j].on[k].msg,.slice E1 p.actors[j].on[k].params.length c1,.int .i64 p.actors[j].on[k].slots,.slice E2 p.actors[j].on[k].body.length d1];go_upto_region 25 with (refine wpList_store_row rfl 64 _ _ rfl wr #[.string p.actors[j].on[k].msg,.slice E1 p.actors[j].on[k].params.length c1,.int .i64 p.actors[j].on[k].slots,.slice E2 p.actors[j].on[k].body.length d1] rfl rfl 64 #["",(),(0:Int),()] (Hs.new _ _ _) Δ rfl Ρ ?_);obtain⟨WC,bg,BC⟩:=Bx.w HZ;rw[<-bg];clear bg HZ p0 p1 p2 p3 b4;have b3:=(Bx.f BC 3).1;have au:=η (StsR.to bo (ae (bel a8 BC.bl)))
       go_upto_region 26 with (go_at_call 57;refine (res_any b s _ (υ _) _ _ _ _ bm au).mono ?_;rintro e3 W3 ⟨D3,d3,rfl,ai,aq⟩;have Y:=Bx.nk BC aq (K2:=λX=>SlR X (nw wr X) 9 (StR X (nw wr X)) (.slice D3 p.actors[j].on[k].body.length d3) (p.actors[j].on[k].body.map (renS (sh b s)))) (λX S=>ai.to' S (λ_ _ h=>StR.to h S));have g3:=Bx.f Y 3;clear ai aq);obtain⟨W4,ar,L⟩:=Bx.w (Bx.p Y 3 (.slice D3 p.actors[j].on[k].body.length d3));rw[<-ar];clear ar g3 b3 Y au;have ci:Hid (WO.heap.size+1<=wr):=by show _<=_;have:=BB.z;have:=a2.size;have:=bn.size;omega
       have a1:Hid (HdR W4 (nbq (qBlk w WO) (.slice As k a6) W4) [.string p.actors[j].on[k].msg,.slice E1 p.actors[j].on[k].params.length c1,.int .i64 p.actors[j].on[k].slots,.slice D3 p.actors[j].on[k].body.length d3] (yv (sh b s) p.actors[j].on[k])):=by
        obtain⟨-,k1⟩:=L.k W4 (λk H=>⟨⟨by have:=H.1;have:=L.hq;omega,H.2⟩,rfl⟩);have S1:=zG (Q:=qBlk w WO) (v:=.slice As k a6) (bel a8 L.bl) (λ_ h=>.inl h) (λg hg=>by have:=(N.lt g hg).1;have:=BB.z;have:=ca.o;have:=a2.size;omega);have S2:=m4 (Q:=qBlk w WO) (v:=.slice As k a6) (w:=wr) (w':=W4) (λg hg=>(N.lt g hg).2) (λk H=>.inr (by have:=ci.o;omega));exact⟨_,_,rfl,fa,ct,FldsR.to fe S1,k1.to' S2 (λ_ _ h=>StR.to h S2)⟩
       obtain⟨a3,a0⟩:=zd2 L.bl (aI N (Stp.of_below (own:=λ_=>False) L.bl) (λ_ _ e=>e));have ak:W5.heap.size<=W4:=ψ bn.size L.bl.size;go_wp2_with (first|(refine wpList_load_row rfl 64 _ rfl wr rfl 64 _ _ _ L.t underlying64 rfl Δ ?_)|(at_builtin;refine wpList_append_own_at _ rfl (.tmp 93) (.tmp 95) _ rfl W5 _ mo _ _ _ underlying52 M1 M2 M3 M4 rfl π (.slice As k a6) k zs rfl (m8 a0 _) W4 1 1 _ rfl rfl (World.news_of_block (Hs.new _ _ _)) (by intro u O;simp at O;repeat (first|(subst O;rfl)|(rcases O with rfl|O;rfl))) Ξ ω (BA ak _) ?_;intro vv w5 l F T I;obtain⟨A5,c5,rfl⟩:=bU l));have HP:=CpL.push (R:=HdR) (g:=yv (sh b s)) (λh k=>HdR.to h k) N az bn a3 ax rfl a1 l F I;clear l F T I;go_wp2_with fail;exact⟨⟨k+1,ω,by go_num,HP⟩,by simp[intOf];omega⟩
      obtain rfl:k=p.actors[j].on.length:=ω;have u3:decide ((p.actors[j].on.length:Int)<(p.actors[j].on.length:Int))=false:=decide_eq_false ω;have e6:=η (CpL.sl (R:=HdR) (λh k=>HdR.to h k) ⟨zs,N,az,bn⟩ (λk H=>.inr (by have:=BB.z;have:=a2.size;omega)));have SV:=BI (Q:=qBlk w WO) bn;have g3:=Bx.f BM 3;go_upto_region 28 with fail;clear N az b4;obtain⟨W7,cj,B7⟩:=Bx.w (Bx.p BM 3 (.slice Ar p.actors[j].vars.length cr));have S7:Hid (Sub (nwq (qBlk w WO) wr) (nwq (qBlk w WO) W7) wr W7):=by rw[cj];exact AH ca
      rw[<-cj];clear cj g3;have g4:=Bx.f B7 4;go_upto_region 29 with fail;obtain⟨W6,ck,B6⟩:=Bx.w (Bx.p B7 4 (.slice As p.actors[j].on.length a6));have S6:Hid (Sub (nwq (qBlk w WO) wr) (nwq (qBlk w WO) W6) wr W6):=by rw[ck];exact sub_tr S7 (AH ca)
      rw[<-ck];clear ck g4
      have a1:Hid (AcR W6 (nbq (sQlk w) (.slice Aw j cw) W6) [.string p.actors[j].name,.slice A p.actors[j].params.length q,.int .i64 p.actors[j].slots,.slice Ar p.actors[j].vars.length cr,.slice As p.actors[j].on.length a6,.int .i64 p.actors[j].policy,.int .i64 p.actors[j].most] (ym (sh b s) p.actors[j])):=by
       have hv:∀g,(Value.slice Aw j cw).ownBlock=some g->w.heap.size<=g/\g<WO.heap.size:=λg hg=>by have:=ag.lt g hg;have:=Z2.o;omega
       have S1:=zG (Q:=sQlk w) (v:=.slice Aw j cw) (bel aj B6.bl) (λ_ h=>.inl h) (λg hg=>(hv g hg).1);have S7:=sub_qnb (w:=w) (WO:=WO) (W:=W6) (v:=.slice Aw j cw) (by have:=Z2.o;have:=HB.size;omega) hv;have dx:=sub_tr (sub_tr SV S6) S7;have dy:=sub_tr S6 S7;refine⟨_,_,_,rfl,cq,cu,FldsR.to cy S1,?_,?_⟩
       ·have e1:(ym (sh b s) p.actors[j]).vars=p.actors[j].vars.map (yu (sh b s)):=rfl;rw[e1];have:=e0.to' dx (λ_ _ h=>VrR.to h dx);exact this
       have e1:(ym (sh b s) p.actors[j]).on=p.actors[j].on.map (yv (sh b s)):=rfl;rw[e1];have:=e6.to' dy (λ_ _ h=>HdR.to h dy);exact this
      obtain⟨a3,a0⟩:=zd2 B6.bl (aI ag (Stp.of_below (own:=λ_=>False) B6.bl) (λ_ _ e=>e));have ak:W2.heap.size<=W6:=ψ HB.size B6.bl.size;go_wp2_with (first|(refine wpList_load_row rfl 54 _ rfl WO rfl 54 _ _ _ B6.t underlying54 rfl Δ ?_)|(at_builtin;refine wpList_append_own_at _ rfl (.tmp 101) (.tmp 103) _ rfl W2 _ jo _ _ _ underlying25 J1 J2 J3 J4 rfl π (.slice Aw j cw) j ys rfl (m8 a0 _) W6 1 1 _ rfl rfl (World.news_of_block (Hs.new _ _ _)) (by intro u O;simp at O;repeat (first|(subst O;rfl)|(rcases O with rfl|O;rfl))) Ξ ω (BA ak _) ?_;intro vv w5 l F T I;obtain⟨A5,c5,rfl⟩:=bU l));have HP:=CpL.push (R:=AcR) (g:=ym (sh b s)) (λh k=>AcR.to h k) ag a7 HB a3 hlt rfl a1 l F I;clear l F T I;go_wp2_with fail;exact⟨⟨j+1,ω,by go_num,HP⟩,by simp[intOf];omega⟩
   obtain rfl:j=p.actors:=ω;have u1:decide ((p.actors.length:Int)<(p.actors.length:Int))=false:=decide_eq_false ω;have AS:=η (CpL.sl (R:=AcR) (λh k=>AcR.to h k) ⟨ys,ag,a7,HB⟩ (λk H=>.inr (by have:=Z2.o;omega)));have hC:=kn C2 HB;have hD:=kn D2 HB;have f2:=hC.free 2;obtain⟨fi,HC,HD⟩:=zd3 (FSt.to' (BI HB) (λ_ _ h=>FnR.to h (BI HB))) hC hD;clear hC hD;have e2:=HC.c 2;go_upto_region 31 with fail;obtain⟨V,hV⟩:=γ (wr.setCell ⟨w,2,none⟩ (.slice Ar p.funs cr))
   have CV:Hid (Hs V w 27 #[.slice A0 p.types q0,.slice A1 p.effects q1,.slice Ar p.funs cr,.slice A3 p.actors q3]):=by rw[hV];exact er HC
   have DV:Hid (Hs V (w+1) 27 #[(),(),(),()]):=by rw[hV];exact cV HD ω
   have BV:Hid (Below w w V):=by rw[hV];exact zR aj (υ _) _ _
   have SV:Hid (∀k,k≠w.heap.size->V.heap[k]?=wr.heap[k]?):=by rw[hV];exact λk H=>Below.heap_setCell _ _ _ _ (λe=>H e)
   have ZV:Hid (V.heap.size=wr):=by show _=_;rw[hV,dj]
   rw[<-hV];clear hV f2 b3 e2;have f3:=CV.free 3;have e3:=CV.c 3;go_upto_region 32 with fail;obtain⟨U,hU⟩:=γ (V.setCell ⟨w,3,none⟩ (.slice Aw p.actors cw))
   have CU:Hid (Hs U w 27 #[.slice A0 p.types q0,.slice A1 p.effects q1,.slice Ar p.funs cr,.slice Aw p.actors cw]):=by rw[hU];exact er CV
   have DU:Hid (Hs U (w+1) 27 #[(),(),(),()]):=by rw[hU];exact cV DV ω
   have BU:Hid (Below w w U):=by rw[hU];exact zR BV (υ _) _ _
   have SU:Hid (∀k,k≠w.heap.size->U.heap[k]?=wr.heap[k]?):=by rw[hU];exact λk H=>(Below.heap_setCell _ _ _ _ (λe=>H e)).trans (SV k H)
   have ZU:Hid (U.heap.size=wr):=by show _=_;rw[hU,dj];exact ZV
   rw[<-hU];clear hU f3 e3;have el:Hid ((U.setRow (w+1) #[.slice A0 p.types q0,.slice A1 p.effects q1,.slice Ar p.funs cr,.slice Aw p.actors cw]).heap[w.heap.size+1]?=some (.cells #[.slice A0 p.types q0,.slice A1 p.effects q1,.slice Ar p.funs cr,.slice Aw p.actors cw] 27 (0,0))):=setRow_heap _ _ _ _ _ _ DU;have BO:Hid (Below w w (U.setRow (w+1) #[.slice A0 p.types q0,.slice A1 p.effects q1,.slice Ar p.funs cr,.slice Aw p.actors cw])):=⟨BU.os,BU.tape,BU.output,by simp;exact BU.size,λk H=>(setRow_other _ _ _ _ ω).trans (BU.block k H)⟩
   have SO:Hid (Sub (nwq (sQlk w) wr) (lo (U.setRow (w+1) #[.slice A0 p.types q0,.slice A1 p.effects q1,.slice Ar p.funs cr,.slice Aw p.actors cw])) wr (U.setRow (w+1) #[.slice A0 p.types q0,.slice A1 p.effects q1,.slice Ar p.funs cr,.slice Aw p.actors cw])):=λk H =>
    ⟨by unfold lo;simp;rw[ZU.o];exact H.2,(setRow_other _ _ _ _ (by have:=H.1;unfold sQlk at this;omega)).trans (SU k (by have:=H.1;unfold sQlk at this;omega))⟩
   go_wp2_with (first|(refine wpList_load_row rfl 27 _ rfl w rfl 27 _ _ _ CU underlying27 rfl Δ ?_)|(refine wpList_store_row rfl 27 _ _ rfl (w+1) #[.slice A0 p.types q0,.slice A1 p.effects q1,.slice Ar p.funs cr,.slice Aw p.actors cw] rfl rfl 27 _ DU Δ rfl Ρ ?_));refine bodyPost_ret (results_cell_row results14 _ _ (w+1) 27 _ _ _ rfl el underlying27 rfl Δ) rfl ⟨_,_,_,_,rfl,?_,?_,BO⟩
   ·exact fi.to' SO (λ_ _ h=>FnR.to h SO)
   exact AS.to' SO (λ_ _ h=>AcR.to h SO)
mutual
theorem Ah (φ:Int->Int):∀(e:Ex) (d:Int),szEx d (ren φ e)=szEx d e
 | .mk op n m s a,d=>by rw[ren,szEx,szEx,zS φ a]
theorem zS (φ:Int->Int):∀(l:List Ex) (d:Int),fc d (rens φ l)=fc d l
 | [],d=>by rw[rens]
 | x::l,d=>by rw[rens,fc,fc,Ah φ x,zS φ l]
end
mutual
theorem szSt_ren (φ:Int->Int):∀(e:St) (d:Int),szSt d (renS φ e)=szSt d e
 | .mk op n m s u xs h e a,d=>by rw[renS,szSt,szSt,zS,zE φ h,zE φ e,zE φ a]
theorem zE (φ:Int->Int):∀(l:List St) (d:Int),eZ d (lX φ l)=eZ d l
 | [],d=>by rw[lX]
 | x::l,d=>by rw[lX,eZ,eZ,szSt_ren φ x,zE φ l]
end
theorem AG {α:Type} (f:α->Nat):∀(l l':List α),sumN f (l++l')=sumN f l+sumN f l'
 | [],l'=>by rw[List.nil_append,sumN,Nat.zero_add]
 | x::l,l'=>by rw[List.cons_append,sumN,sumN,AG f l,Nat.add_assoc]
theorem AD {α:Type} (f:α->Nat):∀l:List α,sumN f l.reverse=sumN f l
 | []=>rfl
 | x::l=>by rw[List.reverse_cons,AG,AD f l,sumN,sumN,sumN];omega
theorem zJ {α β:Type} (f:β->Nat) (f':α->Nat) (g:α->β) (h:∀x,f (g x)=f' x):∀l:List α,sumN f (l.map g)=sumN f' l
 | []=>rfl
 | x::l=>by rw[List.map_cons,sumN,sumN,h,zJ f f' g h l]
def BR (φ:Int->Int) (f:Fn):szFn (yp φ f)=szFn f:=by unfold szFn yp;simp only[Ah]
def BS (φ:Int->Int) (a:Ac):szAc (ym φ a)=szAc a:=by
 unfold szAc ym;simp only;rw[zJ szVr szVr (yu φ) (λv=>by unfold szVr yu;simp only[Ah]),zJ szHd szHd (yv φ) (λh=>by unfold szHd yv ek;simp only[<-eR,zE])]
mutual
theorem Bt:∀e:Ex,Ex.deep e<=cEx e
 | .mk _ _ _ s a=>by rw[Ex.deep,cEx];have:=Bs a;omega
theorem Bs:∀l:List Ex,Ex.deeps l<=cExs l
 | []=>υ _
 | x::l=>by rw[Ex.deeps,cExs];have:=Bt x;have:=Bs l;omega
end
mutual
theorem sdeep_c:∀e:St,St.deep e<=cSt e
 | .mk _ _ _ s u xs h e a=>by rw[St.deep,cSt];have:=Bs xs;have:=Bo h;have:=Bo e;have:=Bo a;omega
theorem Bo:∀l:List St,St.deeps l<=cSts l
 | []=>υ _
 | x::l=>by rw[St.deeps,cSts];have:=sdeep_c x;have:=Bo l;omega
end
theorem Bl {α:Type} {f:α->Nat} (hf:∀x,1<=f x):∀l:List α,l.length<=sumN f l
 | []=>Nat.zero_le _
 | x::l=>by rw[sumN,δ];have:=hf x;have:=Bl hf l;omega
theorem Bn {α:Type} {f:α->Nat}:∀(l:List α) (i:Nat) (h:i<l),f l[i]<=sumN f l
 | [],i,h=>by simp at h
 | x::l,0,_=>by rw[sumN];exact Nat.le_add_right _ _
 | x::l,i+1,h=>by rw[sumN];have:=Bn (f:=f) l i (by simpa using h);simp only[List.getElem_cons_succ];omega
def sh_pre {p:Pg} (h:cPg p<=1048576):ShPre p:=by
 unfold cPg at h;have j:∀i (hi:i<p.funs.length),cFn p.funs[i]<=1048576:=λi hi=>by have:=Bn (f:=cFn) p.funs i hi;omega
 have d:∀i (hi:i<p.actors.length),cAc p.actors[i]<=1048576:=λi hi=>by have:=Bn (f:=cAc) p.actors i hi;omega
 refine⟨?_,λi hi=>?_,?_,λi hi=>?_,λi hi k hk=>?_,λi hi=>?_,λi hi k hk=>?_⟩
 ·have:=Bl (f:=cFn) (λx=>by unfold cFn;omega) p.funs;omega
 ·have a:=j i hi;unfold cFn at a;have:=Bt p.funs[i].body;omega
 ·have:=Bl (f:=cAc) (λx=>by unfold cAc;omega) p.actors;omega
 ·have a:=d i hi;unfold cAc at a;have:=Bl (f:=cVr) (λx=>by unfold cVr;omega) p.actors[i].vars;omega
 ·have a:=d i hi;unfold cAc at a;have l:=Bn (f:=cVr) p.actors[i].vars k hk;have g:cVr (p.actors[i].vars[k])<=1048576:=ω;unfold cVr at g;have:=Bt (p.actors[i].vars[k]).init;omega
 ·have a:=d i hi;unfold cAc at a;have:=Bl (f:=cHd) (λx=>by unfold cHd;omega) p.actors[i].on;omega
 have a:=d i hi;unfold cAc at a;have l:=Bn (f:=cHd) p.actors[i].on k hk;have g:cHd (p.actors[i].on[k])<=1048576:=ω;unfold cHd at g;have:=Bo (p.actors[i].on[k]).body;omega
structure BPre (p:Pg):Prop where
 fit:Fit p 4000
 len:(hX p).length<=400000
 dig:aW p 4000=true->DigOk p
 rd:aW p 4000=true->p.rd
 run:aW p 4000=true->∀a∈p.actors,(je p a).length<=1000000
def Bw {p:Pg} (h:szPg p<=4000):BPre p:=
 ⟨py h,AU h,λhr=>zf (zc h) hr,λhr=>rd_ok (zc h) hr (uK h) (sz_tdeep h) π,λhr a ha=>AR h (zf (zc h) hr) ha⟩
section
variable {p:Pg} {W:À} {A0 A1 A2 A3:Option Addr} {q0 q1 q2 q3:Nat} (hp:BPre p) (h:PgAt W A0 A1 A2 A3 q0 q1 q2 q3 p)
include hp h
theorem At {r:Bool} (hr:aW p 4000=r):Calls prog 11 #[.agg #[.slice A0 p.types q0,.slice A1 p.effects q1,.slice A2 p.funs q2,.slice A3 p.actors q3]] W λe w'=>e=.returned (r:Vl)/\Below W W w':=by
 subst hr;exact dl h hp.fit
end
def m0 {p:Pg} (h:PgAt W A0 A1 A2 A3 q0 q1 q2 q3 p) (hb:szPg p<=4000000000000) {r:Bool} (hr:decide (szPg p<=4000)=r):Calls prog 8 #[.agg #[.slice A0 p.types q0,.slice A1 p.effects q1,.slice A2 p.funs q2,.slice A3 p.actors q3]] W (aE r W):=by
 subst hr;exact iR h hb
def b_digN {p:Pg} (hp:BPre p) (h:PgAt W A0 A1 A2 A3 q0 q1 q2 q3 p) (hR:ShaT.Rounds W) {s:Ê} (hs:s.size<=maxLen) {l:List Nat} (hl:digP p 4000 s.data.toList=l):Calls prog 12 #[.agg #[.slice A0 p.types q0,.slice A1 p.effects q1,.slice A2 p.funs q2,.slice A3 p.actors q3],s] W λe w'=>e=.returned (.agg (ShaT.u8s l))/\Below W W w':=by
 subst hl;exact oS h hp.fit hR hp.dig hs hp.run
def Bz {p q:Pg} {w:À} {B0 B1 B2 B3:Option Addr} {r0 r1 r2 r3:Nat} (hR:ShaT.Rounds w) (hp:BPre p) (hq:BPre q) (h:PgAt w A0 A1 A2 A3 q0 q1 q2 q3 p) (h':PgAt w B0 B1 B2 B3 r0 r1 r2 r3 q) (hD:∀s∈p.acNames,digP q 4000 s=digP p 4000 s):Calls prog 15 #[.agg #[.slice A0 p.types.length q0,.slice A1 p.effects.length q1,.slice A2 p.funs.length q2,.slice A3 p.actors.length q3],.agg #[.slice B0 q.types.length r0,.slice B1 q.effects.length r1,.slice B2 q.funs.length r2,.slice B3 q.actors.length r3]] w (aE true w):=by
 have al:p.actors.length<=1000000:=hp.fit.small.actors;obtain⟨u,l⟩:=γ ((w.alloc (.cells #[.slice A0 p.types.length q0,.slice A1 p.effects.length q1,.slice A2 p.funs.length q2,.slice A3 p.actors.length q3] 27)).alloc (.cells #[.slice B0 q.types.length r0,.slice B1 q.effects.length r1,.slice B2 q.funs.length r2,.slice B3 q.actors.length r3] 27))
 have C1:Hid (Hs u w.heap.size 27 #[.slice A0 p.types.length q0,.slice A1 p.effects.length q1,.slice A2 p.funs.length q2,.slice A3 p.actors.length q3]):=by rw[l];exact (Hs.new _ _ _).alloc _
 have D1:Hid (Hs u (w.heap.size+1) 27 #[.slice B0 q.types.length r0,.slice B1 q.effects.length r1,.slice B2 q.funs.length r2,.slice B3 q.actors.length r3]):=by rw[l];exact ta _ _ _ _
 have t:Hid (Below w.heap.size w u):=by rw[l];exact ζ2
 have F:=η l;obtain⟨HR,HP,HQ,U,T,Y⟩:=zd6 (hR.mono t.o) hp hq (h.bel t.o) (h'.bel t.o) hD;go_in;go_upto_region 1 with (fail);rw[<-F.o];go_wp2_with fail;go_loopw [5] (λi wr=>∃j:Nat,j<=p.actors.length/\i=.int .i64 j/\Hid (Below u.heap.size u wr)) (λi _=>p.actors.length-(intOf i).toNat)
 case atStart=>exact⟨0,ω,rfl,belR _⟩
 case round =>
  obtain⟨j,hj,rfl,r⟩:=hrel;obtain⟨I,Z⟩:=zd2 (aH C1.o r.o) (aH D1.o r.o);have b3:=I.o.c 3;by_cases hlt:j<p.actors.length
  ·obtain⟨E,R,O⟩:=zd3 (U.o.bel r.o) (T.o.bel r.o) (HR.o.mono r.o);obtain⟨g,x,cs,rfl,-,M,-,N⟩:=SlR.at E.o.a hlt;obtain⟨A,qq,B,c,D,d,rfl,-,y,-⟩:=jD M;have J:=N 0 _ rfl;rw[Nat.add_zero] at J;have i0:(0:Int)<=(j:Int):=ω;have i1:(j:Int)<(p.actors.length:Int):=ω;have G:=η y;obtain⟨v,k⟩:∃z,digP p 4000 p.actors[j].name.data.toList=z:=⟨_,rfl⟩
   have X:=η k;have V:Hid (digP q 4000 p.actors[j].name.data.toList=v):=by show _=_;rw[Y.o _ (List.mem_map.2 ⟨p.actors[j],ν hlt,rfl⟩),k]
   have kd:∀W,(binOp .neq 34 (.agg (ShaT.u8s v)) (.agg (ShaT.u8s v))).run prog W=.ok (.bool false) W:=λW=>by rw[vg (by rw[<-k];exact ml _ _ _) (by rw[<-k];exact ml _ _ _) (beq_self_eq_true v) W];rfl
   obtain⟨H1,H2⟩:=zd2 I.o Z.o;have am:∀d os,(Sort.grow (redrawn wr d) os).cell? ⟨w.heap.size,3,none⟩=some (.slice (some ⟨g,x,none⟩) p.actors.length q3):=λd os=>belC (below_regrown wr d os) b3;have aj:∀d os,(Sort.grow (redrawn wr d) os).cell? ⟨g,x+j*7,none⟩=some (.string p.actors[j].name):=λd os=>belC (below_regrown wr d os) J;go_upto_region 4 with (fail);try simp only[Act.put]
   refine wp_region_quiet_below (by kernel_rfl) (by kernel_rfl) ?_
   repeat (first
    | (go_big_quiet_want;refine dh 27 _ rfl w.heap.size rfl 27 _ _ _ (eL H1.o) underlying27 rfl (by kernel_rfl) ?_;go_frame;go_big_quiet_on)
    | (go_big_quiet_want;refine dh 27 _ rfl (w.heap.size+1) rfl 27 _ _ _ (eL H2.o) underlying27 rfl (by kernel_rfl) ?_;go_frame;go_big_quiet_on)
    | go_big_quiet_step (first
     | (go_at_call 12;with_reducible exact Calls.regrown_of (b_digN HP.o (E.o.bel (below_regrown _ _ _)) (O.o.mono (below_regrown _ _ _)) G.o X.o))
     | (go_at_call 12;with_reducible exact Calls.regrown_of (b_digN HQ.o (R.o.bel (below_regrown _ _ _)) (O.o.mono (below_regrown _ _ _)) G.o V.o))))
   refine wpQuiet_nil ?_;intro _ L;obtain⟨⟨dq,ak⟩,H⟩:=L;subst H;go_wp2_with fail;exact⟨⟨j+1,ω,by go_num,bel r.o (below_regrown _ _ _)⟩,by simp[intOf];omega⟩
  go_wp2;go_ret;exact⟨rfl,bel t.o r.o⟩
end
end
section
open Proofs.Tryz
open Go.RowKit
section
variable {φ ψ:Int->Int} {okN:Int->Prop} {okS:Ê->Prop} (h:∀n,okN n->φ n=ψ n)
include h
mutual
theorem yh:∀e:Ex,e.refs okN okS->ren φ e=ren ψ e
 | .mk op x m s kids,hr=>by
  rw[Ex.refs] at hr
  rw[ren,ren,xV kids hr.2.2]
  by_cases hc:op=33\/op=34
  ·rw[if_pos hc,if_pos hc,h x (hr.1 (by unfold jb;simpa using hc))]
  rw[if_neg hc,if_neg hc]
theorem xV:∀l:List Ex,Ex.refss okN okS l->rens φ l=rens ψ l
 | [],_=>rfl
 | x::l,hr=>by rw[Ex.refss] at hr;rw[rens,rens,yh x hr.1,xV l hr.2]
end
mutual
theorem yX:∀e:St,e.refs okN okS->renS φ e=renS ψ e
 | .mk op n m s t xs thn els arms,hr=>by
  rw[St.refs] at hr
  rw[renS,renS,xV h xs hr.1,xK thn hr.2.1,xK els hr.2.2.1,xK arms hr.2.2.2]
theorem xK:∀l:List St,St.refss okN okS l->lX φ l=lX ψ l
 | [],_=>rfl
 | x::l,hr=>by rw[St.refss] at hr;rw[lX,lX,yX x hr.1,xK l hr.2]
end
theorem yE (f:Fn) (hr:f.refs okN okS):yp φ f=yp ψ f:=by unfold yp;rw[yh h f.body hr.2.2]
theorem yF (a:Ac) (hr:a.refs okN okS):ym φ a=ym ψ a:=by
 unfold ym;have g:a.vars.map (yu φ)=a.vars.map (yu ψ):=List.map_congr_left λv hv=>by unfold yu;rw[yh h v.init (hr.2.1 v hv).2]
 have d:a.on.map (yv φ)=a.on.map (yv ψ):=List.map_congr_left λv hv=>by
  unfold yv;rw[<-eR,<-eR,xK h v.body (hr.2.2 v hv).2]
 rw[g,d]
end
section
variable {M:Nat}
def zl {p:Pg} (hL:Lim p) (h:aW p M=true):(∀g∈p.funs,g.refs (okN p) (okS p))/\∀g∈p.actors,g.refs (okN p) (okS p):=by
 have ho:=sO hL h;have d:p.tok:=zb (by unfold aW at h;simp only[τ] at h;exact h.1)
 exact⟨λf hf=>⟨λq hq=>hJ ((d.funs f hf).1 q hq),hJ (d.funs f hf).2,ro _ (ho.funs f hf)⟩,
  λa ha=>⟨λq hq=>hJ ((d.acts a ha).1 q hq),λv hv=>⟨hJ ((d.acts a ha).2.1 v hv),ro _ (ho.vars a ha v hv)⟩,λg hg=>⟨λq hq=>hJ ((d.acts a ha).2.2 g hg q hq),jQ _ (ho.on a ha g hg)⟩⟩⟩
variable {l:List (List UInt8)}
def yw {s:List UInt8} (h:idxP l s=none):s∉l:=λhm=>by
 obtain⟨i,hi,-⟩:=yC l s hm
 rw[h] at hi;cases hi
inductive FinC (CL:List (Nat×List Nat)):Nat->Prop
 | mk {q:Nat×List Nat} (h:q∈CL) (hd:∀j∈q.2,FinC CL j):FinC CL q.1
structure FOk (T:Nat) (S:FSt):Prop where
 lf:S.fin.length=T
 rf:∀o,S.fin.getD o false=true↔o∈S.ready
 nd:S.ready.Nodup
 lt:∀o∈S.ready,o<T
variable {T:Nat} {S:FSt}
def FOk.settle (h:FOk T S) {o:Nat} (ho:o<T):FOk T (S.settle o)/\(∀x,x∈(S.settle o).ready↔x∈S.ready\/x=o)/\S.ready <+: (S.settle o).ready:=by
 unfold FSt.settle;by_cases d:S.fin.getD o false=true
 ·rw[if_pos d];exact⟨h,λx=>⟨.inl,λhx=>hx.elim id λe=>e▸(h.rf o).1 d⟩,List.prefix_refl _⟩
 rw[if_neg d];have g:o∉S.ready:=λhm=>d ((h.rf o).2 hm);refine⟨⟨by simpa using h.lf,λx=>?_,?_,λx hx=>?_⟩,λx=>by simp,List.prefix_append _ _⟩
 ·show (S.fin.set o true).getD x false=true↔x∈S.ready++[o];rw[List.mem_append,List.mem_singleton,<-h.rf x];rw[List.getD_eq_getElem?_getD,List.getD_eq_getElem?_getD,List.getElem?_set];by_cases e:o=x
  ·subst e;rw[if_pos rfl,if_pos (by rw[h.lf];exact ho)];simp
  rw[if_neg e];constructor
  ·exact .inl
  rintro (hx|hx)
  ·exact hx
  exact absurd hx.symm e
 ·show (S.ready++[o]).Nodup;rw[List.nodup_append];exact⟨h.nd,by simp,λa ha b hb e=>g (by rw[List.mem_singleton] at hb;rw[<-hb,<-e];exact ha)⟩
 rcases List.mem_append.1 hx with hx|hx
 ·exact h.lt x hx
 rw[List.mem_singleton] at hx;rw[hx];exact ho
def dec_ok (h:FOk T S) (n:Nat):FOk T (S.dec n):=⟨h.lf,h.rf,h.nd,h.lt⟩
def yH {x:Int} (h:0<=x) (h2:x<=9007199254740992):wrapI x=x:=by
 unfold wrapI wrap64;omega
def getD_some {α:Type} {l:List α} {n:Nat} {a d:α} (h:l[n]?=some a):l.getD n d=a:=by rw[List.getD_eq_getElem?_getD,h];rfl
theorem yq {T:Nat}:∀(L:List Nat) (S:FSt),FOk T S->(∀n∈L,∃o v,S.needs[n]?=some (o,v)/\o<T/\(L.count n:Int)<=v/\v<=1000000) ->
 FOk T (L.foldl gt S)/\(L.foldl gt S).wait=S.wait/\S.ready <+: (L.foldl gt S).ready /\
 (∀n,(L.foldl gt S).needs[n]?=(S.needs[n]?).map λq=>(q.1,q.2-(L.count n:Int))) /\
 ∀o,o∈(L.foldl gt S).ready↔o∈S.ready\/∃n∈L,S.needs[n]?=some (o,(L.count n:Int))
 | [],S,h,_=>⟨h,rfl,List.prefix_refl _,λn=>by simp only[List.foldl_nil,List.count_nil];cases S.needs[n]?<;>simp,λo=>by simp⟩
 | n::L,S,h,hv=>by
  obtain⟨o,v,hn,ho,hc,hm⟩:=hv n List.mem_cons_self
  have hc1:(n::L).count n=L.count n+1:=by simp
  rw[hc1] at hc
  have hlt:n<S.needs.length:=(List.getElem?_eq_some_iff.1 hn).1
  have hD:S.needs.getD n (0,0)=(o,v):=getD_some hn
  have e0:(S.dec n).needs=S.needs.set n (o,v-1):=by
   unfold FSt.dec;simp only[hD];rw[yH ω ω]
  have I:(S.dec n).needs.getD n (0,0)=(o,v-1):=getD_some (by rw[e0,List.getElem?_set];simp[hlt])
  have H:(gt S n).needs=S.needs.set n (o,v-1):=by
   unfold gt;split
   ·rw[gK];exact e0
   exact e0
  have G:(gt S n).wait=S.wait:=by
   unfold gt;split
   ·rw[ni];rfl
   rfl
  have l:FOk T (gt S n)/\(∀x,x∈(gt S n).ready↔x∈S.ready\/(v=1/\x=o))/\S.ready <+: (gt S n).ready:=by
   unfold gt;rw[I];by_cases r:v-1=0
   ·rw[if_pos r];obtain⟨k,j,i⟩:=(dec_ok h n).settle (o:=o) ho;exact⟨k,λx=>by rw[j];exact or_congr Iff.rfl ⟨λe=>⟨ω,e⟩,λe=>e.2⟩,i⟩
   rw[if_neg r];exact⟨dec_ok h n,λx=>⟨.inl,λhx=>hx.elim id λe=>absurd e.1 ω⟩,List.prefix_refl _⟩
  have g:∀m,(gt S n).needs[m]?=if n=m then some (o,v-1) else S.needs[m]?:=λm=>by
   rw[H,List.getElem?_set];by_cases e:n=m
   ·rw[if_pos e,if_pos e];subst e;rw[if_pos hlt]
   rw[if_neg e,if_neg e]
  obtain⟨F,E,D,B,A⟩:=yq L (gt S n) l.1 (λm d=>by
   rw[g];by_cases e:n=m
   ·subst e;rw[if_pos rfl];exact⟨o,v-1,rfl,ho,ω,ω⟩
   rw[if_neg e];obtain⟨y,u,k,j,i,z⟩:=hv m (List.mem_cons_of_mem _ d);exact⟨y,u,k,j,by rw[List.count_cons_of_ne e] at i;exact i,z⟩)
  rw[List.foldl_cons];refine⟨F,E.trans G,l.2.2.trans D,λm=>?_,λx=>?_⟩
  ·rw[B,g];by_cases e:n=m
   ·subst e;rw[if_pos rfl,hn,hc1];simp only[Option.map_some,Option.some.injEq,Prod.mk.injEq,true_and];omega
   rw[if_neg e,List.count_cons_of_ne e]
  rw[A,l.2.1];constructor
  ·rintro ((hx|⟨J,rfl⟩)|⟨m,d,a⟩)
   ·exact .inl hx
   ·exact .inr ⟨n,List.mem_cons_self,by rw[hn,hc1];simp only[Option.some.injEq,Prod.mk.injEq,true_and];omega⟩
   rw[g] at a;by_cases e:n=m
   ·subst e;rw[if_pos rfl] at a;simp only[Option.some.injEq,Prod.mk.injEq] at a;exact .inr ⟨n,List.mem_cons_self,by rw[hn,hc1];simp only[Option.some.injEq,Prod.mk.injEq];exact⟨a.1,ω⟩⟩
   rw[if_neg e] at a;exact .inr ⟨m,List.mem_cons_of_mem _ d,by rw[a,List.count_cons_of_ne e]⟩
  rintro (hx|⟨m,d,a⟩)
  ·exact .inl (.inl hx)
  by_cases e:n=m
  ·subst e;rw[hn,hc1] at a;simp only[Option.some.injEq,Prod.mk.injEq] at a;by_cases t:n∈L
   ·exact .inr ⟨n,t,by rw[g,if_pos rfl];simp only[Option.some.injEq,Prod.mk.injEq];exact⟨a.1,ω⟩⟩
   have:=List.count_eq_zero_of_not_mem t;exact .inl (.inr ⟨ω,a.1.symm⟩)
  rcases List.mem_cons.1 d with e'|d
  ·exact absurd e'.symm e
  exact .inr ⟨m,d,by rw[g,if_neg e,a,List.count_cons_of_ne e]⟩
def cnt (ds l:List Nat):Nat:=ds.countP λx=>!decide (x∈l)
theorem yf {l:List Nat} {j:Nat} (hj:j∉l):∀ds:List Nat,cnt ds l=cnt ds (l++[j])+ds.count j
 | []=>rfl
 | x::ds=>by
  have ih:=yf hj ds
  unfold cnt at ih ⊢
  rw[List.countP_cons,List.countP_cons,List.count_cons,ih]
  by_cases e:x=j
  ·subst e;simp[hj];omega
  have:(x==j)=false:=by simpa using e
  rw[this]
  by_cases hl:x∈l<;>simp[hl,e]<;>omega
def cnt_zero {ds l:List Nat}:cnt ds l=0↔∀x∈ds,x∈l:=by
 unfold cnt;rw[List.countP_eq_zero];simp
structure Ph (T:Nat) (CL:List (Nat×List Nat)) (a:Nat) (S:FSt):Prop where
 ok:FOk T S
 al:a<=S.ready.length
 own:∀q∈CL,q.1<T/\q.2.length<=1000000
 need:∀n:Nat,S.needs[n]?=(CL[n]?).map λ(q:Nat×List Nat)=>(q.1,(cnt q.2 (S.ready.take a):Int))
 wait:∀j n:Nat,j<T->(S.wait.getD j []).count n=((CL[n]?).elim 0 λ(q:Nat×List Nat)=>q.2.count j)
 snd:∀o∈S.ready,FinC CL o
 cls:∀q∈CL,(∀j∈q.2,j∈S.ready.take a)->q.1∈S.ready
def cnt_le (ds l:List Nat):cnt ds l<=ds:=List.countP_le_length
variable {CL:List (Nat×List Nat)}
def Ph.step {a:Nat} (h:Ph T CL a S) (ha:a<S.ready):Ph T CL (a+1) ((S.wait.getD (S.ready.getD a 0) []).foldl gt S):=by
 have B:S.ready[a]?=some (S.ready.getD a 0):=by rw[List.getD_eq_getElem?_getD,ξ ha];rfl
 generalize hjj:S.ready.getD a 0=j at B;have G:=List.mem_of_getElem? B;have H:=h.ok.lt j G;have A:S.ready.take (a+1)=S.ready.take a++[j]:=by rw[List.take_add_one,B];rfl
 have k:j∉S.ready.take a:=by
  intro u;have y:(S.ready.take (a+1)).Nodup:=h.ok.nd.sublist (List.take_sublist _ _);rw[A,List.nodup_append] at y;exact y.2.2 j u j Θ rfl
 generalize hL:S.wait.getD j []=L;have g:∀n,L.count n=(CL[n]?).elim 0 λ(q:Nat×List Nat)=>q.2.count j:=λn=>by rw[<-hL];exact h.wait j n H
 have z:∀n∈L,∃q,CL[n]?=some q/\L.count n=q.2.count j:=λn i=>by
  have l:=g n;have N:=List.count_pos_iff.2 i
  cases d:CL[n]? with
  | none=>rw[d] at l;simp at l;omega
  | some q=>rw[d] at l;exact⟨q,rfl,l⟩
 obtain⟨l,N,E,R,M⟩:=yq (T:=T) L S h.ok (λn i=>by
  obtain⟨q,d,O⟩:=z n i;have ho:=h.own q (List.mem_of_getElem? d);have:=yf k q.2;have:=cnt_le q.2 (S.ready.take a);exact⟨q.1,cnt q.2 (S.ready.take a),by rw[h.need,d];rfl,ho.1,ω,ω⟩)
 have v:(L.foldl gt S).ready.take (a+1)=S.ready.take a++[j]:=by
  obtain⟨t,F⟩:=E;rw[<-F,List.take_append_of_le_length ω,A]
 have D:∀x∈S.ready.take a++[j],FinC CL x:=λx hx=>by
  rw[<-A] at hx;exact h.snd x (List.mem_of_mem_take hx)
 refine⟨l,?_,h.own,λn=>?_,λj' n hj'=>?_,λo ho=>?_,λq d hd=>?_⟩
 ·have:=E.length_le;omega
 ·rw[R,h.need,v]
  cases d:CL[n]? with
  | none=>rfl
  | some q =>
   have r:=g n;rw[d] at r;have J:=yf k q.2;simp only[Option.elim] at r;simp only[Option.map_some,Option.some.injEq,Prod.mk.injEq,true_and];omega
 ·rw[N];exact h.wait j' n hj'
 ·rcases (M o).1 ho with ho|⟨n,i,hg⟩
  ·exact h.snd o ho
  obtain⟨q,d,O⟩:=z n i;rw[h.need,d] at hg;simp only[Option.map_some,Option.some.injEq,Prod.mk.injEq] at hg;have J:=yf k q.2;have I:cnt q.2 (S.ready.take a++[j])=0:=ω;rw[<-hg.1];exact .mk (List.mem_of_getElem? d) λx hx=>D x (cnt_zero.1 I x hx)
 rw[v] at hd;by_cases u:∀x∈q.2,x∈S.ready.take a
 ·exact E.subset (h.cls q d u)
 obtain⟨n,i⟩:=List.getElem?_of_mem d;have J:=yf k q.2;have I:=cnt_zero.2 hd;have U:cnt q.2 (S.ready.take a)≠0:=λe=>u (cnt_zero.1 e);have r:=g n;rw[i] at r;simp only[Option.elim] at r;refine (M q.1).2 (.inr ⟨n,List.count_pos_iff.1 ω,?_⟩);rw[h.need,i];simp only[Option.map_some,Option.some.injEq,Prod.mk.injEq,true_and];omega
def Ph.run:∀(k a:Nat) (S:FSt),Ph T CL a S->T<k+a->∃S',gI k a S=S'/\Ph T CL S'.ready.length S'
 | 0,a,S,h,hk=>by
  have:=qg T S.ready h.ok.nd h.ok.lt
  have:=h.al;omega
 | k+1,a,S,h,hk=>by
  rw[gI]
  by_cases ha:a<S.ready
  ·rw[if_pos ha];exact Ph.run k (a+1) _ (h.step ha) ω
  rw[if_neg ha]
  have:a=S.ready:=by have:=h.al;omega
  exact⟨S,rfl,this▸h⟩
def Ph.ready (h:Ph T CL S.ready S) (o:Nat):o∈S.ready↔FinC CL o:=by
 refine⟨h.snd o,λhf=>?_⟩;induction hf with
 | mk hq hd ih=>exact h.cls _ hq (λj hj=>by rw[List.take_length];exact ih j hj)
theorem zk:∀(A l:List Nat),A.Nodup->(∀x∈A,x∈l)->A.length<=l
 | [],l,_,_=>Nat.zero_le _
 | x::A,l,hn,h=>by
  have hx:=h x List.mem_cons_self
  have h1:=zk A (l.erase x) (List.nodup_cons.1 hn).2 (λy hy=>(List.mem_erase_of_ne (λe:y=x=>(List.nodup_cons.1 hn).1 (by rw[<-e];exact hy))).2 (h y (List.mem_cons_of_mem _ hy)))
  have h2:=List.length_erase_of_mem hx
  have:=List.length_pos_of_mem hx
  rw[δ];omega
def yY {l:List Nat} (hn:l.Nodup) (hl:∀x∈l,x<T):l=T↔∀x,x<T->x∈l:=by
 constructor
 ·intro h x hx;by_cases a:x∈l
  ·exact a
  exfalso;have:=qg T (x::l) (List.nodup_cons.2 ⟨a,hn⟩) (λy hy=>by rcases List.mem_cons.1 hy with rfl|hy;exact hx;exact hl y hy);rw[δ] at this;omega
 intro d;have i:=qg T l hn hl;have g:=zk (List.range T) l List.nodup_range (λx hx=>d x (List.mem_range.1 hx));rw[List.length_range] at g;omega
/-! the first phase -/
def ixF (p:Pg) (f:Fld):Nat:=(idxP p.tyNames f.type.name.data.toList).getD 0
def dsF (p:Pg) (l:List Fld):List Nat:=(l.filter λf=>decide (f.type.kind=6)).map (ixF p)
structure P1 (T:Nat) (CL:List (Nat×List Nat)) (S:FSt):Prop where
 ok:FOk T S
 own:∀q∈CL,q.1<T/\q.2.length<=1000000
 lw:S.wait.length=T
 need:S.needs=CL.map λ(q:Nat×List Nat)=>(q.1,(q.2.length:Int))
 wait:∀j n:Nat,j<T->(S.wait.getD j []).count n=((CL[n]?).elim 0 λ(q:Nat×List Nat)=>q.2.count j)
 rd:∀o,o∈S.ready↔(o,[])∈CL
structure PF (T:Nat) (S0 S:FSt) (ds:List Nat):Prop where
 n:S.needs=S0.needs
 f:S.fin=S0.fin
 r:S.ready=S0.ready
 lw:S.wait.length=T
 w:∀j m:Nat,j<T->(S.wait.getD j []).count m=(S0.wait.getD j []).count m+if m=S0.needs.length then ds.count j else 0
def PF.on {S0:FSt} {ds:List Nat} (h:PF T S0 S ds) {j:Nat} (hj:j<T):PF T S0 (S.waitOn j) (ds++[j]):=by
 refine⟨h.n,h.f,h.r,by show (S.wait.set _ _).length=T;rw[List.length_set];exact h.lw,λi m hi=>?_⟩;show ((S.wait.set j (S.wait.getD j []++[S.needs.length])).getD i []).count m=_;rw[List.getD_eq_getElem?_getD,List.getElem?_set];have d:=h.w i m hi;rw[List.count_append];by_cases e:j=i
 ·subst e;rw[if_pos rfl,if_pos (by rw[h.lw];exact hj),Option.getD_some,List.count_append,d,h.n];by_cases a:m=S0.needs.length
  ·subst a;simp;omega
  have:¬S0.needs.length=m:=λq=>a q.symm;rw[if_neg a,if_neg a];simp[List.count_cons,this]
 rw[if_neg e,<-List.getD_eq_getElem?_getD,d];have:List.count i [j]=0:=by simp[List.count_cons,e]
 rw[this];simp
theorem xS {p:Pg} {T:Nat} {S0:FSt}:∀(l:List Fld) (S:FSt) (ds:List Nat),(∀f∈l,ixF p f<T)->ds.length+l.length<=1000000->PF T S0 S ds->∃S',l.foldl (fC p) (S,(ds.length:Int))=(S',((ds++dsF p l).length:Int))/\PF T S0 S' (ds++dsF p l)
 | [],S,ds,_,_,h=>⟨S,by simp[dsF],by simpa[dsF] using h⟩
 | f::l,S,ds,hl,hs,h=>by
  rw[δ] at hs
  rw[List.foldl_cons]
  by_cases hk:f.type.kind=6
  ·have e:ds++dsF p (f::l)=(ds++[ixF p f])++dsF p l:=by simp[dsF,hk]
   rw[sa hk,yH ω ω,e]
   have:=xS l (S.waitOn (ixF p f)) (ds++[ixF p f]) (λg hg=>hl g (List.mem_cons_of_mem _ hg)) Φ (h.on (hl f List.mem_cons_self))
   have e2:((ds++[ixF p f]).length:Int)=(ds.length:Int)+1:=by simp
   rw[e2] at this
   exact this
  have e:ds++dsF p (f::l)=ds++dsF p l:=by simp[dsF,hk]
  rw[t8 hk,e]
  exact xS l S ds (λg hg=>hl g (List.mem_cons_of_mem _ hg)) ω h
def dsF_len (p:Pg) (l:List Fld):(dsF p l).length<=l:=by unfold dsF;rw[List.length_map];exact List.length_filter_le _ _
variable {i:Nat}
def P1.ctr {p:Pg} (h:P1 T CL S) (hi:i<T) (c:Ctr) (hl:∀f∈c.fields,ixF p f<T) (hs:c.fields.length<=1000000):P1 T (CL++[(i,dsF p c.fields)]) (mD p i S c):=by
 obtain⟨a,e,d⟩:=xS (p:=p) (T:=T) (S0:=S) c.fields S [] hl (by simpa using hs) ⟨rfl,rfl,rfl,h.lw,λj m _=>by simp⟩;rw[List.nil_append] at e d;have H:c.fields.foldl (fC p) (S,0)=(a,((dsF p c.fields).length:Int)):=e;unfold mD;rw[H];have A:S.needs.length=CL:=by rw[h.need,List.length_map]
 have v:FOk T (a.need i ((dsF p c.fields).length:Int)):=⟨by show a.fin.length=T;rw[d.f];exact h.ok.lf,λo=>by show a.fin.getD o false=true↔o∈a.ready;rw[d.f,d.r];exact h.ok.rf o,by show a.ready.Nodup;rw[d.r];exact h.ok.nd,λo ho=>h.ok.lt o (by rw[<-d.r];exact ho)⟩
 have u:∀q∈CL++[(i,dsF p c.fields)],q.1<T/\q.2.length<=1000000:=λq hq=>by
  rcases List.mem_append.1 hq with hq|hq
  ·exact h.own q hq
  rw[List.mem_singleton] at hq;subst hq;exact⟨hi,by have:=dsF_len p c.fields;simp only;omega⟩
 have g:(a.need i ((dsF p c.fields).length:Int)).needs=(CL++[(i,dsF p c.fields)]).map λ(q:Nat×List Nat)=>(q.1,(q.2.length:Int)):=by
  show a.needs++[_]=_;rw[d.n,h.need,List.map_append];rfl
 have t:∀j n:Nat,j<T->(a.wait.getD j []).count n=(((CL++[(i,dsF p c.fields)])[n]?).elim 0 λ(q:Nat×List Nat)=>q.2.count j):=λj n hj=>by
  rw[d.w j n hj,h.wait j n hj,A];by_cases G:n<CL.length
  ·rw[List.getElem?_append_left G,if_neg ω];rfl
  rw[List.getElem?_append_right ω,List.getElem?_eq_none ω];by_cases B:n=CL.length
  ·subst B;rw[if_pos rfl,Nat.sub_self];simp
  rw[if_neg B];obtain⟨k,F⟩:∃k,n-CL.length=k+1:=⟨n-CL-1,ω⟩
  rw[F];simp
 have y:∀o,o∈a.ready↔(o,([]:List Nat))∈CL:=λo=>by rw[d.r];exact h.rd o
 unfold gJ;by_cases z:(dsF p c.fields).length=0
 ·have l:(((dsF p c.fields).length:Nat):Int)=0:=ω;simp only[l,if_true];rw[l] at v g;obtain⟨E,D,I⟩:=v.settle hi;refine⟨E,u,by rw[ni];exact d.lw,by rw[gK];exact g,λj n hj=>by rw[ni];exact t j n hj,λo=>?_⟩;rw[D];show o∈a.ready\/o=i↔_;rw[y,List.mem_append,List.mem_singleton,List.eq_nil_of_length_eq_zero z];simp
 have l:¬(((dsF p c.fields).length:Nat):Int)=0:=ω;simp only[l,if_false];refine⟨v,u,d.lw,g,t,λo=>?_⟩;show o∈a.ready↔_;rw[y,List.mem_append,List.mem_singleton];constructor
 ·exact .inl
 rintro (x|x)
 ·exact x
 simp only[Prod.mk.injEq] at x;rw[<-x.2] at z;exact absurd rfl z
def P1.ctrs {p:Pg} (hi:i<T):∀(l:List Ctr) {CL:List (Nat×List Nat)} {S:FSt},P1 T CL S->(∀c∈l,(∀f∈c.fields,ixF p f<T)/\c.fields.length<=1000000)->P1 T (CL++l.map λc=>(i,dsF p c.fields)) (l.foldl (mD p i) S)
 | [],CL,S,h,_=>by simpa using h
 | c::l,CL,S,h,hl=>by
  have h1:=h.ctr hi c (hl c List.mem_cons_self).1 (hl c List.mem_cons_self).2
  have:=P1.ctrs hi l h1 (λx hx=>hl x (List.mem_cons_of_mem _ hx))
  rw[χ] at this
  exact this
def yc (p:Pg):Nat->List Dcl->List (Nat×List Nat)
 | _,[]=>[]
 | i,d::ds=>(d.ctors.map λc=>(i,dsF p c.fields))++yc p (i+1) ds
def P1.typs {p:Pg}:∀(l:List Dcl) (i:Nat) {CL:List (Nat×List Nat)} {S:FSt},i+l.length<=T->P1 T CL S->(∀d∈l,∀c∈d.ctors,(∀f∈c.fields,ixF p f<T)/\c.fields.length<=1000000)->P1 T (CL++yc p i l) (gU p i l S)
 | [],i,CL,S,_,h,_=>by simpa[yc,gU] using h
 | d::l,i,CL,S,hi,h,hl=>by
  rw[δ] at hi
  rw[gU,yc,<-χ]
  exact P1.typs l (i+1) ω (P1.ctrs ω d.ctors h (hl d List.mem_cons_self)) (λx hx=>hl x (List.mem_cons_of_mem _ hx))
def P1.ph (h:P1 T CL S):Ph T CL 0 S:=by
 have a:∀ds:List Nat,cnt ds []=ds.length:=λds=>by unfold cnt;rw[List.countP_eq_length];simp
 refine⟨h.ok,Nat.zero_le _,h.own,λn=>?_,h.wait,λo ho=>?_,λq hq hd=>?_⟩
 ·rw[h.need,List.getElem?_map,List.take_zero]
  cases CL[n]? with
  | none=>rfl
  | some q=>simp only[Option.map_some,a]
 ·exact FinC.mk (q:=(o,[])) ((h.rd o).1 ho) (λj hj=>by cases hj)
 rw[List.take_zero] at hd;have e:q.2=[]:=List.eq_nil_iff_forall_not_mem.2 λx hx=>by have:=hd x hx;cases this
 refine (h.rd q.1).2 ?_;rw[<-e];exact hq
theorem cf_mem:∀{l:List Ctr} {c:Ctr},c∈l->c.fields<=cfN l
 | x::l,c,h=>by
  unfold cfN
  rw[List.map_cons,List.sum_cons]
  rcases List.mem_cons.1 h with rfl|h
  ·omega
  have:=cf_mem h;unfold cfN at this;omega
theorem yr:∀{l:List Dcl} {c:Dcl},c∈l->cfN c.ctors<=di l
 | x::l,c,h=>by
  unfold di
  rw[List.map_cons,List.sum_cons]
  rcases List.mem_cons.1 h with rfl|h
  ·omega
  have:=yr h;unfold di at this;omega
def fin_cls {p:Pg} (hf:di p.types<=1000000):finP p=true↔∀o,o<p.types.length->FinC (yc p 0 p.types) o:=by
 have i:P1 p.types [] (FSt.start p.types):=by
  refine⟨⟨by simp[FSt.start],λo=>?_,List.nodup_nil,λo ho=>by cases ho⟩,(λq hq=>by cases hq),by simp[FSt.start],rfl,λj n hj=>?_,λo=>by simp[FSt.start]⟩
  ·show (List.replicate p.types false).getD o false=true↔o∈[];rw[List.getD_eq_getElem?_getD,List.getElem?_replicate];by_cases h:o<p.types.length<;>simp[h]
  show ((List.replicate p.types []).getD j []).count n=_;rw[List.getD_eq_getElem?_getD,List.getElem?_replicate,if_pos hj];simp
 have g:=P1.typs (p:=p) p.types 0 ω i (λd hd c hc=>⟨λf _=>ty_lt0 (List.length_pos_of_mem hd),by have:=cf_mem hc;have:=yr hd;omega⟩);rw[List.nil_append] at g;obtain⟨k,e,a⟩:=Ph.run (p.types+1) 0 _ g.ph ω;unfold finP;rw[e,decide_eq_true_eq,yY a.ok.nd a.ok.lt];exact forall_congr' λo=>imp_congr_right λ_=>a.ready o
inductive FinN (T:List Dcl):List UInt8->Prop
 | mk {d:Dcl} (hd:d∈T) {c:Ctr} (hc:c∈d.ctors) (h:∀f∈c.fields,f.type.kind=6->FinN T f.type.name.data.toList):FinN T d.nm
def FinN.mono {T T':List Dcl} (h:∀d∈T,d∈T') {s:List UInt8} (hf:FinN T s):FinN T' s:=by
 induction hf with
 | mk hd hc _ ih=>exact .mk (h _ hd) hc ih
theorem yD (p:Pg):∀(l:List Dcl) (i:Nat) (q:Nat×List Nat),q∈yc p i l↔∃k d,l[k]?=some d/\∃c∈d.ctors,q=(i+k,dsF p c.fields)
 | [],i,q=>by simp[yc]
 | d::l,i,q=>by
  rw[yc,List.mem_append,yD p l (i+1),List.mem_map]
  constructor
  ·rintro (⟨c,hc,rfl⟩|⟨k,e,hk,c,hc,rfl⟩)
   ·exact⟨0,d,rfl,c,hc,rfl⟩
   exact⟨k+1,e,hk,c,hc,by rw[Nat.add_assoc,Nat.add_comm 1 k]⟩
  rintro ⟨k,e,hk,c,hc,rfl⟩
  cases k with
  | zero=>cases hk;exact .inl ⟨c,hc,rfl⟩
  | succ k=>exact .inr ⟨k,e,hk,c,hc,by rw[Nat.add_assoc,Nat.add_comm 1 k]⟩
def Bb {p:Pg} (hf:di p.types<=1000000) (hn:p.tyNames.Nodup) (hk:∀d∈p.types,∀c∈d.ctors,∀f∈c.fields,f.type.kind=6->f.type.name.data.toList∈p.tyNames):finP p=true↔∀d∈p.types,FinN p.types d.nm:=by
 have B:∀(o:Nat) (d:Dcl),p.types[o]?=some d->p.tyNames[o]?=some d.nm:=λo d h=>by unfold Pg.tyNames;rw[List.getElem?_map,h];rfl
 have E:∀f:Fld,f.type.name.data.toList∈p.tyNames->∃e,p.types[ixF p f]?=some e/\e.nm=f.type.name.data.toList:=λf hm=>by
  obtain⟨i,F⟩:=Option.isSome_iff_exists.1 (show (idxP p.tyNames f.type.name.data.toList).isSome=true by
   cases h:idxP p.tyNames f.type.name.data.toList with
   | some i=>rfl
   | none=>exact absurd hm (yw h))
  have u:=(cg _ _ _ _ F).2;unfold ixF;rw[F,Option.getD_some];unfold Pg.tyNames at u;rw[List.getElem?_map] at u
  cases t:p.types[i]? with
  | none=>rw[t] at u;cases u
  | some e=>rw[t] at u;exact⟨e,rfl,Option.some.inj u⟩
 rw[fin_cls hf];constructor
 ·intro h d r;obtain⟨o,ho⟩:=List.getElem?_of_mem r
  have v:∀o,FinC (yc p 0 p.types) o->∀d,p.types[o]?=some d->FinN p.types d.nm:=by
   intro o l;induction l with
   | @mk q hq r ih =>
    intro d ho;obtain⟨k,J,z,c,l,rfl⟩:=(yD p p.types 0 _).1 hq;simp only[Nat.zero_add] at ho ih;rw[z] at ho;injection ho with ho;subst ho;have A:=List.mem_of_getElem? z;refine .mk A l λf a g=>?_;obtain⟨e,t,x⟩:=E f (hk _ A c l f a g);rw[<-x];exact ih (ixF p f) (List.mem_map.2 ⟨f,List.mem_filter.2 ⟨a,by simpa using g⟩,rfl⟩) e t
  exact v o (h o (List.getElem?_eq_some_iff.1 ho).1) d ho
 intro h o ho
 have v:∀s,FinN p.types s->∀o d,p.types[o]?=some d->d.nm=s->FinC (yc p 0 p.types) o:=by
  intro s l;induction l with
  | @mk d r c l _ ih =>
   intro o I ho e;obtain⟨D,y⟩:=List.getElem?_of_mem r;have G:o=D:=(List.getElem?_inj (by unfold Pg.tyNames;rw[List.length_map];exact (List.getElem?_eq_some_iff.1 ho).1) hn).1 ((B o I ho).trans (by rw[e];exact (B D d y).symm));subst G;refine FinC.mk (q:=(o,dsF p c.fields)) ((yD p p.types 0 _).2 ⟨o,d,y,c,l,by rw[Nat.zero_add]⟩) λj hj=>?_;obtain⟨f,a,rfl⟩:=List.mem_map.1 hj;obtain⟨a,g⟩:=List.mem_filter.1 a;have g:f.type.kind=6:=by simpa using g
   obtain⟨H,t,x⟩:=E f (hk d r c l f a g);exact ih f a g _ H t x
 have r:=ξ ho;exact v _ (h _ (List.mem_of_getElem? r)) o _ r rfl
def lk {α:Type} (nm:α->List UInt8) (l:List α) (s:List UInt8):Option α:=match idxP (l.map nm) s with
 | none=>none
 | some i=>l[i]?
def AX {s:List UInt8} (h:s∉l):idxP l s=none:=by
 cases hi:idxP l s with
 | none=>rfl
 | some i=>exact absurd (List.mem_of_getElem? (cg _ _ _ _ hi).2) h
section
variable {α:Type} {nm:α->List UInt8} {l:List α} {s:List UInt8}
def AY (hn:(l.map nm).Nodup) {j:Nat} {d:α} (hj:l[j]?=some d):idxP (l.map nm) (nm d)=some j:=by
 obtain⟨i,g,a,e⟩:=xM (l.map nm) (nm d) (List.mem_map.2 ⟨d,List.mem_of_getElem? hj,rfl⟩);have h:(l.map nm)[j]?=some (nm d):=by rw[List.getElem?_map,hj];rfl
 have:i=j:=(List.getElem?_inj a hn).1 (e.trans h.symm);rw[g,this]
def lk_mem (hn:(l.map nm).Nodup) {d:α} (hd:d∈l):lk nm l (nm d)=some d:=by
 obtain⟨j,a⟩:=List.getElem?_of_mem hd;unfold lk;rw[AY hn a];exact a
def lk_not (h:s∉l.map nm):lk nm l s=none:=by unfold lk;rw[AX h]
def zA {β:Type} {l:List β} (h:l.Nodup):l.reverse.Nodup:=(List.reverse_perm l).nodup_iff.2 h
def Ay (hn:(l.map nm).Nodup) (s:List UInt8):lk nm l.reverse s=lk nm l s:=by
 by_cases h:s∈l.map nm
 ·obtain⟨d,a,rfl⟩:=List.mem_map.1 h;rw[lk_mem hn a,lk_mem (by rw[List.map_reverse];exact zA hn) (List.mem_reverse.2 a)]
 rw[lk_not h,lk_not (by rwa [List.map_reverse,List.mem_reverse])]
def lk_map {β:Type} {nm':β->List UInt8} (g:α->β) (h:∀a,nm' (g a)=nm a) (s:List UInt8):lk nm' (l.map g) s=(lk nm l s).map g:=by
 unfold lk;have:(l.map g).map nm'=l.map nm:=by rw[List.map_map];congr 1;funext a;exact h a
 rw[this]
 cases idxP (l.map nm) s with
 | none=>rfl
 | some i=>simp only[List.getElem?_map]
end
theorem zv {α:Type} {nm:α->List UInt8} {right:List UInt8->Bool} {ok:α->Bool}:∀(l:List α) (seen:List (List UInt8)),uniq nm right ok seen l=true↔(l.map nm).Nodup/\∀x∈l,nm x∉seen/\right (nm x)=true/\ok x=true
 | [],seen=>by simp[uniq]
 | x::l,seen=>by
  rw[uniq,τ,τ,τ,zv l (nm x::seen),List.map_cons,List.nodup_cons]
  constructor
  ·rintro ⟨⟨h1,h2⟩,h3,h4,h5⟩
   refine⟨⟨λhm=>?_,h4⟩,λy hy=>?_⟩
   ·obtain⟨y,hy,e⟩:=List.mem_map.1 hm
    exact (h5 y hy).1 (by rw[e];exact List.mem_cons_self)
   rcases List.mem_cons.1 hy with rfl|hy
   ·exact⟨by simpa using h1,h2,h3⟩
   exact⟨λhm=>(h5 y hy).1 (List.mem_cons_of_mem _ hm),(h5 y hy).2⟩
  rintro ⟨⟨h1,h2⟩,h3⟩
  have hx:=h3 x List.mem_cons_self
  refine⟨⟨by simpa using hx.1,hx.2.1⟩,hx.2.2,h2,λy hy=>⟨λhm=>?_,(h3 y (List.mem_cons_of_mem _ hy)).2⟩⟩
  rcases List.mem_cons.1 hm with e|hm
  ·exact h1 (List.mem_map.2 ⟨y,hy,e⟩)
  exact (h3 y (List.mem_cons_of_mem _ hy)).1 hm
def Az (l:List Dcl):List (List UInt8):=l.flatMap λd=>d.ctors.map Ctr.nm
def TD (p:Pg) (sN sC:List (List UInt8)) (l:List Dcl):Prop:=
 (l.map Dcl.nm).Nodup/\(Az l).Nodup/\∀d∈l,d.nm∉sN/\aC d.nm=true/\ie d=false/\∀c∈d.ctors,c.nm∉sC/\aC c.nm=true/\xH p d.record c=true
def Ae (d:Dcl) (l:List Dcl):Az (d::l)=d.ctors.map Ctr.nm++Az l:=rfl
def Bi {l:List Dcl} {d:Dcl} {c:Ctr} (hd:d∈l) (hc:c∈d.ctors):c.nm∈Az l:=List.mem_flatMap.2 ⟨d,hd,List.mem_map.2 ⟨c,hc,rfl⟩⟩
theorem zI (p:Pg):∀(l:List Dcl) (sN sC r:List (List UInt8)),ep p sN sC l=some r↔r=(l.map Dcl.nm).reverse++sN/\TD p sN sC l
 | [],sN,sC,r=>by
  rw[ep]
  constructor
  ·intro h;injection h with h;exact⟨h.symm,List.nodup_nil,List.nodup_nil,λd hd=>by cases hd⟩
  rintro ⟨h,-⟩;rw[h];rfl
 | d::l,sN,sC,r=>by
  rw[ep]
  by_cases hc:((!decide (d.nm∈sN)&&aC d.nm)&&fN p sC d)=true
  ·rw[if_pos hc,zI p l _ _ r]
   unfold fN at hc
   rw[τ,τ,τ,zv] at hc
   obtain⟨⟨h1,h2⟩,h3,h4,h5⟩:=hc
   have e:((d::l).map Dcl.nm).reverse++sN=(l.map Dcl.nm).reverse++d.nm::sN:=by rw[List.map_cons,List.reverse_cons,χ];rfl
   rw[e]
   refine and_congr Iff.rfl ?_
   unfold TD
   rw[List.map_cons,List.nodup_cons,Ae,List.nodup_append]
   constructor
   ·rintro ⟨k1,k2,k3⟩
    refine⟨⟨λhm=>?_,k1⟩,⟨h4,k2,λa ha b hb e=>?_⟩,λx hx=>?_⟩
    ·obtain⟨y,hy,e⟩:=List.mem_map.1 hm
     exact (k3 y hy).1 (by rw[e];exact List.mem_cons_self)
    ·obtain⟨y,hy,hb⟩:=List.mem_flatMap.1 hb
     obtain⟨c,hc,rfl⟩:=List.mem_map.1 hb
     exact ((k3 y hy).2.2.2 c hc).1 (List.mem_append_left _ (List.mem_reverse.2 (by rw[<-e];exact ha)))
    rcases List.mem_cons.1 hx with rfl|hx
    ·exact⟨by simpa using h1,h2,by simpa using h3,λc hc=>h5 c hc⟩
    exact⟨λhm=>(k3 x hx).1 (List.mem_cons_of_mem _ hm),(k3 x hx).2.1,(k3 x hx).2.2.1,λc hc=>⟨λhm=>((k3 x hx).2.2.2 c hc).1 (List.mem_append_right _ hm),((k3 x hx).2.2.2 c hc).2⟩⟩
   rintro ⟨⟨k1,k2⟩,⟨k3,k4,k5⟩,k6⟩
   refine⟨k2,k4,λx hx=>?_⟩
   have hx6:=k6 x (List.mem_cons_of_mem _ hx)
   refine⟨λhm=>?_,hx6.2.1,hx6.2.2.1,λc hc=>⟨λhm=>?_,(hx6.2.2.2 c hc).2⟩⟩
   ·rcases List.mem_cons.1 hm with e|hm
    ·exact k1 (List.mem_map.2 ⟨x,hx,e⟩)
    exact hx6.1 hm
   rcases List.mem_append.1 hm with hm|hm
   ·exact k5 _ (List.mem_reverse.1 hm) _ (Bi hx hc) rfl
   exact (hx6.2.2.2 c hc).1 hm
  rw[if_neg hc]
  constructor
  ·intro h;cases h
  rintro ⟨-,k1,k2,k3⟩
  refine absurd ?_ hc
  obtain⟨a1,a2,a3,a4⟩:=k3 d List.mem_cons_self
  unfold fN
  rw[Ae,List.nodup_append] at k2
  rw[τ,τ,τ,zv]
  exact⟨⟨by simpa using a1,a2⟩,by simpa using a3,k2.1,a4⟩
def named (l:List Fn):List Fn:=l.filter λf=>!bH f.name
theorem zM (p:Pg):∀(l:List Fn) (seen:List (List UInt8)),dF p seen l=true↔((named l).map Fn.nm).Nodup/\∀f∈l,funP p f=true/\(bH f.name=false->f.nm∉seen/\aX f.nm=true/\oz f.nm=false)
 | [],seen=>by simp[dF,named]
 | f::l,seen=>by
  rw[dF]
  cases he:bH f.name with
  | true =>
   have e:named (f::l)=named l:=by unfold named;rw[List.filter_cons_of_neg (by rw[he];simp)]
   rw[if_pos rfl,τ,zM p l seen,e]
   constructor
   ·rintro ⟨h1,h2,h3⟩
    refine⟨h2,λg hg=>?_⟩
    rcases List.mem_cons.1 hg with rfl|hg
    ·exact⟨h1,λe=>by rw[he] at e;cases e⟩
    exact h3 g hg
   rintro ⟨h1,h2⟩
   exact⟨(h2 f List.mem_cons_self).1,h1,λg hg=>h2 g (List.mem_cons_of_mem _ hg)⟩
  | false =>
   have e:named (f::l)=f::named l:=by unfold named;rw[List.filter_cons_of_pos (by rw[he];rfl)]
   rw[if_neg Θ,τ,τ,τ,τ,zM p l (f.nm::seen),e,List.map_cons,List.nodup_cons]
   have hmem:∀g,g∈named l↔g∈l/\bH g.name=false:=λg=>by unfold named;rw[List.mem_filter];simp
   constructor
   ·rintro ⟨⟨h1,h2⟩,h3,h4,h5,h6⟩
    refine⟨⟨λhm=>?_,h5⟩,λg hg=>?_⟩
    ·obtain⟨g,hg,e⟩:=List.mem_map.1 hm
     have:=(hmem g).1 hg
     exact ((h6 g this.1).2 this.2).1 (by rw[e];exact List.mem_cons_self)
    rcases List.mem_cons.1 hg with rfl|hg
    ·exact⟨h4,λ_=>⟨by simpa using h1,h2,by simpa using h3⟩⟩
    exact⟨(h6 g hg).1,λe=>⟨λhm=>((h6 g hg).2 e).1 (List.mem_cons_of_mem _ hm),((h6 g hg).2 e).2⟩⟩
   rintro ⟨⟨h1,h2⟩,h3⟩
   have hf:=h3 f List.mem_cons_self
   refine⟨⟨by simpa using (hf.2 he).1,(hf.2 he).2.1⟩,by simpa using (hf.2 he).2.2,hf.1,h2,λg hg=>⟨(h3 g (List.mem_cons_of_mem _ hg)).1,λe=>⟨λhm=>?_,((h3 g (List.mem_cons_of_mem _ hg)).2 e).2⟩⟩⟩
   rcases List.mem_cons.1 hm with e2|hm
   ·exact h1 (List.mem_map.2 ⟨g,(hmem g).2 ⟨hg,e⟩,e2⟩)
   exact ((h3 g (List.mem_cons_of_mem _ hg)).2 e).1 hm
theorem Ag {α β:Type} {nm:β->List UInt8} {right:List UInt8->Bool} {ok:β->Bool} {g:α->β}:∀(l:List α) (seen:List (List UInt8)),uniq nm right ok seen (l.map g)=uniq (λa=>nm (g a)) right (λa=>ok (g a)) seen l
 | [],_=>rfl
 | x::l,seen=>by rw[List.map_cons,uniq,uniq,Ag l]
structure DecsOk (p:Pg):Prop where
 td:TD p [] [] p.types
 an:(p.actors.map Ac.nm).Nodup
 au:∀a∈p.actors,a.nm∉p.types.map Dcl.nm/\aC a.nm=true/\acP p a=true
 en:(p.effects.map Eff.nm).Nodup
 eu:∀e∈p.effects,aX e.nm=true/\iu p e=true
 fn:((named p.funs).map Fn.nm).Nodup
 fu:∀f∈p.funs,funP p f=true/\(bH f.name=false->aX f.nm=true/\oz f.nm=false)
 mb:iO p=true
def zK (p:Pg):cH p=true↔DecsOk p:=by
 unfold cH;constructor
 ·intro h
  cases ht:ep p [] [] p.types with
  | none=>rw[ht] at h;cases h
  | some r =>
   rw[ht] at h;obtain⟨rfl,i⟩:=(zI p _ _ _ _).1 ht;simp only at h;rw[τ,τ,τ,zv,zv,zM] at h;obtain⟨⟨t,g⟩,⟨q,l⟩,⟨k,d⟩,j⟩:=h;exact⟨i,t,λa ha=>⟨λhm=>(g a ha).1 (List.mem_append_left _ (List.mem_reverse.2 hm)),(g a ha).2⟩,q,λe he=>(l e he).2,k,λf hf=>⟨(d f hf).1,λe=>((d f hf).2 e).2⟩,j⟩
 intro h;rw[(zI p _ _ _ _).2 ⟨rfl,h.td⟩];simp only;rw[τ,τ,τ,zv,zv,zM];refine⟨⟨h.an,λa ha=>⟨λhm=>(h.au a ha).1 ?_,(h.au a ha).2⟩⟩,⟨h.en,λe he=>⟨by simp,h.eu e he⟩⟩,⟨h.fn,λf hf=>⟨(h.fu f hf).1,λe=>⟨by simp,(h.fu f hf).2 e⟩⟩⟩,h.mb⟩;rw[List.append_nil,List.mem_reverse] at hm;exact hm
def Bm (f:Fn):Fn:={ f with body:=.mk 0 0 0 nm0 [] }
def Bk (a:Ac):Ac:={ a with vars:=a.vars.map λv=>{ v with init:=.mk 0 0 0 nm0 [] },on:=a.on.map λh=>{ h with body:=[] } }
structure Rev (p q:Pg):Prop where
 ty:q.types=p.types.reverse
 ef:q.effects=p.effects.reverse
 fn:q.funs.map Bm=(p.funs.map Bm).reverse
 ac:q.actors.map Bk=(p.actors.map Bk).reverse
variable {q:Pg}
def Rev.symm {p:Pg} (h:Rev p q):Rev q p:=
 ⟨by rw[h.ty,List.reverse_reverse],by rw[h.ef,List.reverse_reverse],by rw[h.fn,List.reverse_reverse],by rw[h.ac,List.reverse_reverse]⟩
section
variable {p q:Pg} (h:Rev p q)
include h
theorem Rev.acs:q.actors.map Ac.nm=(p.actors.map Ac.nm).reverse:=by
 have e:∀l:List Ac,l.map Ac.nm=(l.map Bk).map Ac.nm:=λl=>by rw[List.map_map];rfl
 rw[e q.actors,e p.actors,h.ac,List.map_reverse]
mutual
theorem Rev.known:∀t:Ty,cd p t=cd q t
 | .mk k s a=>by
  have hi:∀(l l':List (List UInt8)) (s:List UInt8),(∀x,x∈l↔x∈l')->(idxP l s).isSome=(idxP l' s).isSome:=λl l' s hm=>by
   by_cases hs:s∈l
   ·obtain⟨i,hi,-⟩:=xM l s hs
    obtain⟨j,hj,-⟩:=xM l' s ((hm s).1 hs)
    rw[hi,hj];rfl
   rw[AX hs,AX (λx=>hs ((hm s).2 x))]
  have e1:=hi p.tyNames q.tyNames s.data.toList (λx=>by unfold Pg.tyNames;rw[h.ty,List.map_reverse,List.mem_reverse])
  have e2:=hi p.acNames q.acNames s.data.toList (λx=>by
   show x∈p.actors.map Ac.nm↔x∈q.actors.map Ac.nm
   rw[h.acs,List.mem_reverse])
  rw[cd,cd,e1,e2,Rev.knowns a]
theorem Rev.knowns:∀l:List Ty,kJ p l=kJ q l
 | []=>rfl
 | x::l=>by rw[kJ,kJ,Rev.known x,Rev.knowns l]
end
theorem Rev.stored:ci p=ci q:=by funext t;unfold ci cZ;rw[h.known]
theorem Rev.decl:cZ p=cZ q:=by funext t;unfold cZ;rw[h.known]
theorem Rev.params (l:List Fld):de p l=de q l:=by unfold de;rw[h.stored]
theorem Rev.ctr (r:Bool) (c:Ctr):xH p r c=xH q r c:=by unfold xH nD;rw[h.params,h.stored]
theorem Rev.fun_ (f:Fn):funP p f=funP q f:=by unfold funP;rw[h.decl]
theorem Rev.eff (f:Eff):iu p f=iu q f:=by unfold iu;rw[h.params,h.stored]
theorem Rev.act (f:Ac):acP p f=acP q f:=by
 have e:hdOk p=hdOk q:=by funext x;unfold hdOk;rw[h.params]
 unfold acP;rw[h.params,h.stored,e]
omit h in
theorem acP_s (p:Pg) (a:Ac):acP p (Bk a)=acP p a:=by
 unfold acP;have g:uniq Vr.nm aX (λv=>ci p v.type) [] (Bk a).vars=uniq Vr.nm aX (λv=>ci p v.type) [] a.vars:=Ag _ _;have d:uniq Hd.nm aC (hdOk p) [] (Bk a).on=uniq Hd.nm aC (hdOk p) [] a.on:=Ag _ _;rw[g,d];rfl
theorem Rev.fmem {f:Fn} (hf:f∈q.funs):∃g∈p.funs,Bm g=Bm f:=by
 have:Bm f∈(p.funs.map Bm).reverse:=by rw[<-h.fn];exact List.mem_map.2 ⟨f,hf,rfl⟩
 obtain⟨g,a,e⟩:=List.mem_map.1 (List.mem_reverse.1 this);exact⟨g,a,e⟩
theorem Rev.amem {f:Ac} (hf:f∈q.actors):∃g∈p.actors,Bk g=Bk f:=by
 have:Bk f∈(p.actors.map Bk).reverse:=by rw[<-h.ac];exact List.mem_map.2 ⟨f,hf,rfl⟩
 obtain⟨g,a,e⟩:=List.mem_map.1 (List.mem_reverse.1 this);exact⟨g,a,e⟩
theorem Rev.decs1 (hd:DecsOk p):DecsOk q:=by
 have x:=h.symm;have z:∀{d:Dcl},d∈q.types↔d∈p.types:=λ{d}=>by rw[h.ty,List.mem_reverse]
 refine⟨⟨?_,?_,λd hd'=>?_⟩,?_,λa ha=>?_,?_,λe he=>?_,?_,λf hf=>?_,?_⟩
 ·rw[h.ty,List.map_reverse];exact zA hd.td.1
 ·have A:(Az q.types).Perm (Az p.types):=by rw[h.ty];exact List.Perm.flatMap_right _ (List.reverse_perm _)
  exact A.nodup_iff.2 hd.td.2.1
 ·have k:=hd.td.2.2 d (z.1 hd');exact⟨k.1,k.2.1,k.2.2.1,λc hc=>⟨(k.2.2.2 c hc).1,(k.2.2.2 c hc).2.1,by rw[x.ctr];exact (k.2.2.2 c hc).2.2⟩⟩
 ·rw[h.acs];exact zA hd.an
 ·obtain⟨g,t,e⟩:=h.amem ha;have k:=hd.au g t;have B:a.nm=g.nm:=by have:=congrArg Ac.nm e;exact this.symm
  have D:acP q a=acP p g:=by rw[<-acP_s q a,<-acP_s p g,e,h.act]
  rw[B,D];exact⟨by rw[h.ty,List.map_reverse,List.mem_reverse];exact k.1,k.2⟩
 ·rw[h.ef,List.map_reverse];exact zA hd.en
 ·have k:=hd.eu e (by rw[h.ef,List.mem_reverse] at he;exact he);exact⟨k.1,by rw[x.eff];exact k.2⟩
 ·have e:∀l:List Fn,(named l).map Fn.nm=(named (l.map Bm)).map Fn.nm:=λl=>by
   unfold named;rw[List.filter_map,List.map_map];rfl
  rw[e,h.fn];unfold named;rw[List.filter_reverse,List.map_reverse];have:=hd.fn;rw[e] at this;exact zA this
 ·obtain⟨g,t,e⟩:=h.fmem hf;have k:=hd.fu g t
  have F:funP q f=funP p g:=by
   have:funP p (Bm g)=funP q (Bm f):=by rw[e,h.fun_]
   exact this.symm
  have y:f.name=g.name:=(congrArg Fn.name e).symm;have E:f.nm=g.nm:=by unfold Fn.nm;rw[y]
  rw[F,y,E];exact k
 have u:∀p:Pg,iO p=match lk Ac.nm p.actors [77,97,105,110] with
  | none=>false
  | some a=>decide (a.params.length=0):=λp=>by
  unfold iO lk;show (match idxP (p.actors.map Ac.nm) _ with|none=>_|some i=>_)=_
  cases idxP (p.actors.map Ac.nm) [77,97,105,110] with
  | none=>rfl
  | some i=>rfl
 have v:∀(p:Pg) ,(lk Ac.nm p.actors [77,97,105,110]).map Bk=lk Ac.nm (p.actors.map Bk) [77,97,105,110]:=λp=>(lk_map (nm:=Ac.nm) Bk (λ_=>rfl) _).symm
 have j:(lk Ac.nm q.actors [77,97,105,110]).map Bk=(lk Ac.nm p.actors [77,97,105,110]).map Bk:=by
  rw[v,v,h.ac,Ay (by have:=hd.an;rw[List.map_map];exact this)]
 have r:=hd.mb;rw[u] at r ⊢
 cases ha:lk Ac.nm p.actors [77,97,105,110] with
 | none=>rw[ha] at r;cases r
 | some a =>
  rw[ha] at r j
  cases hb:lk Ac.nm q.actors [77,97,105,110] with
  | none=>rw[hb] at j;cases j
  | some b =>
   rw[hb] at j;simp only[Option.map_some,Option.some.injEq] at j;have:=congrArg Ac.params j;have e:b.params=a.params:=this;simp only at r ⊢;rw[e];exact r
end
def Rev.decs {p:Pg} (h:Rev p q):cH q=cH p:=by
 rw[Bool.eq_iff_iff,zK,zK];exact⟨h.symm.decs1,h.decs1⟩
def Aj {p:Pg} (hd:DecsOk p):∀d∈p.types,∀c∈d.ctors,∀f∈c.fields,f.type.kind=6->f.type.name.data.toList∈p.tyNames:=λd hdm c hc f hf hk=>by
 have h1:=((hd.td.2.2 d hdm).2.2.2 c hc).2.2
 have h2:ci p f.type=true:=by
  unfold xH at h1;split at h1
  ·unfold de at h1;exact ((zv _ _).1 h1).2 f hf |>.2.2
  have:=List.all_eq_true.1 h1 f hf;unfold nD at this;rw[τ] at this;exact this.2
 unfold ci cZ at h2;simp only[τ] at h2;have g:=h2.1.2
 cases hf:f.type with
 | mk k s a =>
  rw[hf] at g hk;have hk:k=6:=hk;rw[cd,if_pos hk,τ] at g
  cases hi:idxP p.tyNames s.data.toList with
  | none=>rw[hi] at g;cases g.1
  | some i=>exact List.mem_of_getElem? (cg _ _ _ _ hi).2
def AQ (l:List Dcl):di l.reverse=di l:=by
 unfold di;rw[List.map_reverse,List.sum_reverse]
def Rev.fin {p:Pg} (h:Rev p q) (hd:cH p=true) (hf:di p.types<=1000000):finP q=finP p:=by
 have g:=(zK p).1 hd;have i:=h.decs1 g;rw[Bool.eq_iff_iff,Bb (by rw[h.ty,AQ];exact hf) i.td.1 (Aj i),Bb hf g.td.1 (Aj g)];have a:∀d,d∈q.types↔d∈p.types:=λd=>by rw[h.ty,List.mem_reverse]
 constructor
 ·intro k d hd;exact (k d ((a d).2 hd)).mono λx hx=>(a x).1 hx
 intro k d hd;exact (k d ((a d).1 hd)).mono λx hx=>(a x).2 hx
structure ScK (p:Pg) (sc:Sc):Prop where
 bound:∀i t,sc.bound i=some t->cd p t=true
 vars:∀v∈sc.vars,cd p v.type=true
def AW (p:Pg) (want:Option Ty):Prop:=∀u,want=some u->cd p u=true
def zY {p:Pg}:AW p none:=λ_ h=>by cases h
variable {k:Int}
def zL {p:Pg} (h6:k≠6) (h7:k≠7):cd p (bTy k)=true:=by unfold bTy;rw[cd,if_neg h6,if_neg h7,kJ];rfl
def wantBK {p:Pg} (hk:k=3\/k=4):AW p (some (bTy k)):=λu h=>by
 injection h with h;subst h;exact zL ω ω
variable {t:Ty}
def zu {p:Pg} {b:Bool} (hk:k=1\/k=2\/k=3\/k=4) (h:fixT k b=some t):cd p t=true:=by
 unfold fixT at h;split at h
 ·injection h with h;subst h;exact zL ω ω
 cases h
def zP {p:Pg} (h:cd p t=true):cd p (nC t)=true:=by unfold nC;rw[cd,kJ,kJ,h];rfl
def zN {p:Pg} {s:Ê} (h:(∃fs,recP p (cN s)=some fs)\/∃cs,varP p (cN s)=some cs):cd p (cN s)=true:=by
 have k:(idxP p.tyNames s.data.toList).isSome=true:=by
  cases hi:idxP p.tyNames s.data.toList with
  | some i=>rfl
  | none =>
   exfalso;rcases h with ⟨fs,h⟩|⟨fs,h⟩
   ·unfold recP at h;rw[if_pos (show (cN s).kind=6 from rfl)] at h;have a:idxP p.tyNames (cN s).name.data.toList=none:=hi;rw[a] at h;cases h
   unfold varP at h;rw[if_pos (show (cN s).kind=6 from rfl)] at h;have a:idxP p.tyNames (cN s).name.data.toList=none:=hi;rw[a] at h;cases h
 unfold cN;rw[cd,if_pos rfl,k,kJ];rfl
def AM {p:Pg} {s:Ê} (h:s.data.toList∈p.acNames):cd p (refT s)=true:=by
 obtain⟨i,a,-⟩:=xM _ _ h;unfold refT;rw[cd,if_neg π,if_pos rfl,a,kJ];rfl
def AC {p:Pg} {a:Ac} (h:a∈p.actors):cd p (refT a.name)=true:=AM (List.mem_map.2 ⟨a,h,rfl⟩)
def AP {p:Pg} {a:List Ty} (h:kJ p a=true):cd p (.mk 8 nm0 a)=true:=by
 rw[cd,if_neg π,if_neg π,h];rfl
def zB {p:Pg} {s:Ê} {a:List Ty} (h:cd p (.mk k s a)=true):∀x∈a,cd p x=true:=by
 rw[cd,τ,rU,List.all_eq_true] at h;exact h.2
def stored_known {p:Pg} (h:ci p t=true):cd p t=true:=by
 unfold ci cZ at h;simp only[τ] at h;exact h.1.2
def Ab {p:Pg} (h:cZ p t=true):cd p t=true:=by
 unfold cZ at h;simp only[τ] at h;exact h.2
def zO {p:Pg} {l:List Fld} (h:de p l=true):∀f∈l,cd p f.type=true:=λf hf=>stored_known (((zv _ _).1 h).2 f hf).2.2
def Ai {p:Pg} (hF:DecsOk p) {f:Fn} (hf:f∈p.funs):(∀q∈f.params,cd p q.type=true)/\cd p f.result=true:=by
 have h:=(hF.fu f hf).1;unfold funP at h;rw[τ,τ,zv] at h;exact⟨λq hq=>Ab (h.1.2 q hq).2.2,Ab h.2.1⟩
def Ad {p:Pg} (hF:DecsOk p) {d:Dcl} (hd:d∈p.types) {c:Ctr} (hc:c∈d.ctors):∀f∈c.fields,cd p f.type=true:=λf hf=>by
 have h1:=((hF.td.2.2 d hd).2.2.2 c hc).2.2
 unfold xH at h1
 split at h1
 ·exact zO h1 f hf
 have:=List.all_eq_true.1 h1 f hf
 unfold nD at this
 rw[τ] at this;exact stored_known this.2
def AB {p:Pg} (hF:DecsOk p) {fs:List Fld} (h:recP p t=some fs) {y:Nat} (hy:y<fs):cd p fs[y].type=true:=by
 unfold recP at h;split at h
 ·split at h
  ·cases h
  split at h
  ·cases h
  rename_i d g;split at h
  ·split at h
   ·cases h
   rename_i c _ a;injection h with h;subst h;exact Ad hF (List.mem_of_getElem? g) (by rw[a];exact List.mem_cons_self) _ (ν hy)
  cases h
 cases h
def zU {p:Pg} (hF:DecsOk p) {cs:List Ctr} (h:varP p t=some cs) {y:Nat} (hy:y<cs):∀f∈cs[y].fields,cd p f.type=true:=by
 unfold varP at h;split at h
 ·split at h
  ·cases h
  split at h
  ·cases h
  rename_i d a;split at h
  ·cases h
  injection h with h;subst h;exact Ad hF (List.mem_of_getElem? a) (ν hy)
 cases h
def AJ {p:Pg} {sc sc':Sc} {i:Int} (h:ScK p sc) (hf:cd p t=true) (hb:sc.bind i t=some sc'):ScK p sc':=by
 unfold Sc.bind at hb;split at hb
 ·injection hb with hb;subst hb;refine⟨λj u hu=>?_,h.vars⟩;have a:(if j=i then some t else sc.bound j)=some u:=hu;split at a
  ·injection a with a;subst a;exact hf
  exact h.bound j u a
 cases hb
def EOkK (p:Pg) (E:EF):Prop:=∀(sc:Sc) (e:Ex) (want:Option Ty) (t:Ty),ScK p sc->AW p want->E sc e want=some t->cd p t=true
theorem zX {p:Pg}:∀(fs:List Fld) (sc sc':Sc) (m:Int),ScK p sc->(∀f∈fs,cd p f.type=true)->bindAll sc m fs=some sc'->ScK p sc'
 | [],sc,sc',m,h,_,hb=>by rw[bindAll] at hb;injection hb with hb;subst hb;exact h
 | f::fs,sc,sc',m,h,hf,hb=>by
  rw[bindAll] at hb
  cases hx:sc.bind m f.type with
  | none=>rw[hx] at hb;cases hb
  | some s1 =>
   rw[hx] at hb
   exact zX fs s1 sc' (m+1) (AJ h (hf f (List.mem_cons_self)) hx) (λg hg=>hf g (List.mem_cons_of_mem _ hg)) hb
theorem AL {p:Pg} {E:EF} (hE:EOkK p E) {want:Option Ty} (hw:AW p want) (arms:List Ex) {sc:Sc} (hs:ScK p sc) {cs:List Ctr} (hc:∀(y:Nat) (h:y<cs),∀f∈cs[y].fields,cd p f.type=true) :
 ∀(rest:List (Int×Int)) (i:Nat) (seen:List Int) (st t:Ty),(cd p st=true\/(i=0/\0<rest.length))->bz sc cs (cE E want arms) i seen st rest=some t->cd p t=true
 | [],i,seen,st,t,hst,h=>by
  rw[bz] at h
  split at h
  ·injection h with h;subst h
   rcases hst with hst|hst
   ·exact hst
   simp at hst
  cases h
 | (n,m)::rest,i,seen,st,t,hst,h=>by
  rw[bz] at h
  split at h
  ·cases h
  split at h
  ·cases h
  rename_i sc' hb
  split at h
  ·cases h
  rename_i st' hm
  have hsc':ScK p sc':=by
   refine zX _ _ _ _ hs ?_ hb;intro f a;split at a
   ·simp at a
   split at a
   ·simp at a
   rename_i c d;obtain⟨g,e⟩:=List.getElem?_eq_some_iff.1 d;exact hc _ g f (by rw[e];exact a)
  refine AL hE hw arms hs hc rest (i+1) (n::seen) st' t (.inl ?_) h;unfold cE at hm;split at hm
  ·cases hm
  split at hm
  ·split at hm
   ·exact hE _ _ _ _ hsc' hw hm
   rename_i j;split at hm
   ·injection hm with hm;subst hm;rcases hst with hst|hst
    ·exact hst
    exact absurd hst.1 j
   cases hm
  cases hm
def Bh {p:Pg} {E:EF} (hF:DecsOk p) (hE:EOkK p E) {sc:Sc} {op x:Int} {s:Ê} {kids:List Ex} {want:Option Ty} (hs:ScK p sc) (hw:AW p want) (h:bP p E sc op x s kids want=some t):cd p t=true:=by
 revert h
 have G:fw E sc kids want=some t->cd p t=true:=by
  intro h;unfold fw at h;split at h
  ·rename_i k0 s0 u;split at h
   ·split at h
    ·injection h with h;subst h;exact zP (zB (hw _ rfl) _ Θ)
    cases h
   cases h
  ·cases h
  split at h
  ·cases h
  split at h
  ·cases h
  rename_i j g;split at h
  ·injection h with h;subst h;exact zP (hE _ _ _ _ hs zY g)
  cases h
 have L:fRec p E sc s kids=some t->cd p t=true:=by
  intro h;unfold fRec at h;split at h
  ·cases h
  rename_i fs d;split at h
  ·injection h with h;subst h;exact zN (.inl ⟨_,d⟩)
  cases h
 have N:fGet p E sc x kids=some t->cd p t=true:=by
  intro h;unfold fGet at h;split at h
  ·split at h
   ·cases h
   split at h
   ·cases h
   rename_i fs d;split at h
   ·obtain⟨f,z,rfl⟩:=Option.map_eq_some_iff.1 h;obtain⟨J,e⟩:=List.getElem?_eq_some_iff.1 z;rw[<-e];exact AB hF d J
   cases h
  cases h
 have D:gL p E sc x want kids=some t->cd p t=true:=by
  intro h;unfold gL at h;split at h
  ·split at h
   ·cases h
   rename_i j g;split at h
   ·cases h
   split at h
   ·split at h
    ·cases h
    split at h
    ·injection h with h;subst h;exact hE _ _ _ _ hs hw g
    cases h
   cases h
  cases h
 have H:jx p E sc x s kids=some t->cd p t=true:=by
  intro h;unfold jx at h;split at h
  ·cases h
  rename_i cs d;split at h
  ·split at h
   ·cases h
   split at h
   ·injection h with h;subst h;exact zN (.inr ⟨_,d⟩)
   cases h
  cases h
 have A:dX p E sc want kids=some t->cd p t=true:=by
  intro h;unfold dX at h;split at h
  ·cases h
  rename_i k0 T;split at h
  ·cases h
  rename_i j g;split at h
  ·unfold bX at h;split at h
   ·cases h
   rename_i cs d;split at h
   ·cases h
   rename_i J;exact AL hE hw T hs (λy hy=>zU hF d hy) _ 0 [] _ _ (.inr ⟨rfl,Nat.pos_of_ne_zero J⟩) h
  cases h
 have X:fIf E sc want kids=some t->cd p t=true:=by
  intro h;unfold fIf at h;split at h
  ·split at h
   ·split at h
    ·cases h
    rename_i j g;split at h
    ·injection h with h;subst h;exact hE _ _ _ _ hs hw g
    cases h
   cases h
  cases h
 have R:fCat E sc want kids=some t->cd p t=true:=by
  intro h;unfold fCat at h;split at h
  ·split at h
   ·cases h
   rename_i j g;split at h
   ·injection h with h;subst h;exact hE _ _ _ _ hs hw g
   cases h
  cases h
 have M:fLet E sc x want kids=some t->cd p t=true:=by
  intro h;unfold fLet at h;split at h
  ·split at h
   ·cases h
   rename_i j g;split at h
   ·cases h
   rename_i ag hb;exact hE _ _ _ _ (AJ hs (hE _ _ _ _ hs zY g) hb) hw h
  cases h
 have I:jI p E sc x kids=some t->cd p t=true:=by
  intro h;unfold jI at h;split at h
  ·split at h
   ·cases h
   rename_i f z;split at h
   ·injection h with h;subst h;exact (Ai hF (List.mem_of_getElem? z)).2
   cases h
  cases h
 have O:fFun p E sc x kids=some t->cd p t=true:=by
  intro h;unfold fFun at h;split at h
  ·split at h
   ·cases h
   rename_i f z;split at h
   ·split at h
    ·injection h with h;subst h;have W:=Ai hF (List.mem_of_getElem? z)
     have k:kJ p ((f.params.drop kids).map (·.type)++[f.result])=true:=by
      rw[rU,List.all_eq_true];intro u i;rcases List.mem_append.1 i with i|i
      ·obtain⟨q,V,rfl⟩:=List.mem_map.1 i;exact W.1 q (List.mem_of_mem_drop V)
      rw[List.mem_singleton.1 i];exact W.2
     exact AP k
    cases h
   cases h
  cases h
 have B:dY E sc kids=some t->cd p t=true:=by
  intro h;unfold dY at h;split at h
  ·cases h
  split at h
  ·cases h
  rename_i j g;split at h
  ·split at h
   ·obtain⟨Z,Y,a1⟩:=j;exact zB (hE _ _ _ _ hs zY g) _ (List.mem_of_getLast? h)
   cases h
  cases h
 have F:aP E sc x want kids=some t->cd p t=true:=by
  intro h;unfold aP at h;split at h
  ·cases h
  split at h
  ·cases h
  rename_i j g
  have l:cd p j=true:=by
   unfold aY at g;split at g
   ·split at g
    ·cases g
    rename_i t2 h2;split at g
    ·injection g with g;subst g;refine hE _ _ _ _ hs ?_ h2;intro u i;split at i
     ·cases i
     split at i
     ·injection i with i;subst i;exact hw _ rfl
     cases i
    cases g
   split at g
   ·exact hE _ _ _ _ hs (wantBK (.inr rfl)) g
   split at g
   ·exact hE _ _ _ _ hs (wantBK (.inl rfl)) g
   cases g
  split at h
  ·cases h
  rename_i U r d;split at h
  ·split at h
   ·injection h with h;subst h;unfold bi at d;split at d
    ·injection d with d;injection d with _ d;subst d;exact zL π π
    split at d
    ·obtain⟨a,k,e⟩:=Option.map_eq_some_iff.1 d;injection e with _ e;subst e;obtain⟨Z,Y,a1⟩:=j;exact zB l _ (List.mem_of_getElem? k)
    split at d
    ·obtain⟨a,k,e⟩:=Option.map_eq_some_iff.1 d;injection e with _ e;subst e;exact l
    split at d
    ·injection d with d;injection d with _ d;subst d;exact l
    split at d
    ·injection d with d;injection d with _ d;subst d;exact zL π π
    cases d
   cases h
  cases h
 intro h;unfold bP at h;rcases iteS h with ⟨_,h⟩|⟨_,h⟩
 ·exact zu ω h
 rcases iteS h with ⟨_,h⟩|⟨_,h⟩
 ·exact zu ω h
 rcases iteS h with ⟨_,h⟩|⟨_,h⟩
 ·exact zu ω h
 rcases iteS h with ⟨_,h⟩|⟨_,h⟩
 ·exact zu ω h
 rcases iteS h with ⟨_,h⟩|⟨_,h⟩
 ·exact hs.bound _ _ h
 rcases iteS h with ⟨_,h⟩|⟨_,h⟩
 ·rcases iteS h with ⟨_,h⟩|⟨_,h⟩
  ·obtain⟨v,hv,rfl⟩:=Option.map_eq_some_iff.1 h;exact hs.vars v (List.mem_of_getElem? hv)
  cases h
 rcases iteS h with ⟨_,h⟩|⟨_,h⟩
 ·unfold iL at h;rcases iteS h with ⟨_,h⟩|⟨_,h⟩
  ·cases h
  obtain⟨a,k,rfl⟩:=Option.map_eq_some_iff.1 h;exact AC (List.mem_of_getElem? k)
 rcases iteS h with ⟨_,h⟩|⟨_,h⟩
 ·exact G h
 rcases iteS h with ⟨_,h⟩|⟨_,h⟩
 ·exact L h
 rcases iteS h with ⟨_,h⟩|⟨_,h⟩
 ·exact N h
 rcases iteS h with ⟨_,h⟩|⟨_,h⟩
 ·exact D h
 rcases iteS h with ⟨_,h⟩|⟨_,h⟩
 ·exact H h
 rcases iteS h with ⟨_,h⟩|⟨_,h⟩
 ·exact A h
 rcases iteS h with ⟨_,h⟩|⟨_,h⟩
 ·exact X h
 rcases iteS h with ⟨_,h⟩|⟨_,h⟩
 ·exact zu ω h
 rcases iteS h with ⟨_,h⟩|⟨_,h⟩
 ·exact zu ω h
 rcases iteS h with ⟨_,h⟩|⟨_,h⟩
 ·exact R h
 rcases iteS h with ⟨_,h⟩|⟨_,h⟩
 ·exact zu ω h
 rcases iteS h with ⟨_,h⟩|⟨_,h⟩
 ·exact zu ω h
 rcases iteS h with ⟨_,h⟩|⟨_,h⟩
 ·exact M h
 rcases iteS h with ⟨_,h⟩|⟨_,h⟩
 ·exact I h
 rcases iteS h with ⟨_,h⟩|⟨_,h⟩
 ·exact O h
 rcases iteS h with ⟨_,h⟩|⟨_,h⟩
 ·exact B h
 rcases iteS h with ⟨_,h⟩|⟨_,h⟩
 ·exact F h
 cases h
theorem AI {p:Pg} (hF:DecsOk p):∀n,EOkK p (aa p n)
 | 0=>λsc e want t _ _ h=>by rw[aa] at h;cases h
 | n+1=>λsc e want t hs hw h=>by
  obtain⟨op,x,m,s,kids⟩:=e
  rw[aa] at h
  split at h
  ·cases h
  split at h
  ·split at h
   ·cases h
   rename_i t1 h1
   split at h
   ·injection h with h;subst h
    exact Bh hF (AI hF n) hs hw h1
   cases h
  cases h
def ordQ (φ:Int->Int) (p:Pg):Pg:=⟨p.types.reverse,p.effects.reverse,(p.funs.map (yp φ)).reverse,(p.actors.map (ym φ)).reverse⟩
structure PhiR (n:Nat) (φ:Int->Int):Prop where
 ok:∀x:Int,0<=x->x<n->φ x=n-1-x
 no:∀x:Int,¬(0<=x/\x<n)->¬(0<=φ x/\φ x<n)
def Ao (φ:Int->Int) (p:Pg):Rev p (ordQ φ p):=by
 refine⟨rfl,rfl,?_,?_⟩
 ·show ((p.funs.map (yp φ)).reverse).map Bm=_;rw[List.map_reverse,List.map_map];rfl
 show ((p.actors.map (ym φ)).reverse).map Bk=_;rw[List.map_reverse,List.map_map];congr 1;refine List.map_congr_left λa _=>?_;show Bk (ym φ a)=Bk a;unfold Bk ym;simp only[List.map_map];rfl
def Ba (p:Pg) (t:Ty):recP p t=if t.kind=6 then (match lk Dcl.nm p.types t.name.data.toList with
 | none=>none
 | some d=>if d.record then (match d.ctors with|[]=>none|c::_=>some c.fields) else none) else none:=by
 unfold recP lk;show (if t.kind=6 then (match idxP (p.types.map Dcl.nm) t.name.data.toList with|none=>none|some i=>_) else none)=_
 cases idxP (p.types.map Dcl.nm) t.name.data.toList<;>rfl
def AZ (p:Pg) (t:Ty):varP p t=if t.kind=6 then (match lk Dcl.nm p.types t.name.data.toList with
 | none=>none
 | some d=>if d.record then none else some d.ctors) else none:=by
 unfold varP lk;show (if t.kind=6 then (match idxP (p.types.map Dcl.nm) t.name.data.toList with|none=>none|some i=>_) else none)=_
 cases idxP (p.types.map Dcl.nm) t.name.data.toList<;>rfl
def Bd (p:Pg) (s:Ê):actP p s=(lk Ac.nm p.actors s.data.toList).map (·.params):=by
 unfold actP lk;show (match idxP (p.actors.map Ac.nm) s.data.toList with|none=>none|some i=>_)=_
 cases idxP (p.actors.map Ac.nm) s.data.toList<;>rfl
def Bc (p:Pg) (s:Ê):effP p s=(lk Eff.nm p.effects s.data.toList).map λe=>(e.params,e.answer):=by
 unfold effP lk;show (match idxP (p.effects.map Eff.nm) s.data.toList with|none=>none|some i=>_)=_
 cases idxP (p.effects.map Eff.nm) s.data.toList<;>rfl
def zQ {α β:Type} (g:α->β) (l:List α) (h:i<l):((l.map g).reverse)[l.length-1-i]?=(l[i]?).map g:=by
 rw[List.getElem?_reverse (by rw[List.length_map];omega),List.getElem?_map,List.length_map];congr 2;omega
def hdA (a:Ac) (msg:Ê):Option (List Fld):=(a.on.find? λh=>h.msg.toList==msg.toList).map (·.params)
def hdP_A (p:Pg) (i:Nat) (msg:Ê):hdP p i msg=(p.actors[i]?).bind λa=>hdA a msg:=by unfold hdP hdA;cases p.actors[i]?<;>rfl
def hdA_ren (φ:Int->Int) (a:Ac) (msg:Ê):hdA (ym φ a) msg=hdA a msg:=by
 unfold hdA ym;simp only;rw[List.find?_map];have e:((λh:Hd=>h.msg.toList==msg.toList)∘yv φ)=λh=>h.msg.toList==msg.toList:=rfl;rw[e,Option.map_map];rfl
section
variable {p:Pg} {φ:Int->Int} (hd:DecsOk p) (hφ:PhiR p.funs.length φ)
include hd
theorem ord_lkA (s:List UInt8):lk Ac.nm (ordQ φ p).actors s=(lk Ac.nm p.actors s).map (ym φ):=by
 show lk Ac.nm ((p.actors.map (ym φ)).reverse) s=_;rw[Ay (by rw[List.map_map];exact hd.an),lk_map (nm:=Ac.nm) (ym φ) (λ_=>rfl)]
theorem Ap (s:List UInt8):lk Dcl.nm (ordQ φ p).types s=lk Dcl.nm p.types s:=Ay hd.td.1 s
theorem ord_hd (hi:i<p.actors) (msg:Ê):hdP p i msg=hdP (ordQ φ p) (p.actors-1-i) msg:=by
 rw[hdP_A,hdP_A];show _=(((p.actors.map (ym φ)).reverse)[p.actors.length-1-i]?).bind _;rw[zQ _ _ hi]
 cases p.actors[i]? with
 | none=>rfl
 | some a=>exact (hdA_ren φ a msg).symm
include hφ
theorem Al:Sig p (ordQ φ p) φ:=by
 refine⟨λt=>?_,λt=>?_,λx=>?_⟩
 ·rw[Ba,Ba,Ap hd]
 ·rw[AZ,AZ,Ap hd]
 have a:(ordQ φ p).funs.length=p.funs:=by show ((p.funs.map (yp φ)).reverse).length=_;simp
 unfold fsig;rw[a];by_cases h:0<=x/\x<(p.funs.length:Int)
 ·have e:=hφ.ok x h.1 h.2;rw[if_pos (show az x p.funs=true by unfold az;simpa using h),if_pos (show az (φ x) p.funs=true by unfold az;rw[e];simp;omega)];have d:(φ x).toNat=p.funs-1-x.toNat:=by rw[e];omega
  rw[d];show _=(((p.funs.map (yp φ)).reverse)[p.funs.length-1-x.toNat]?).map _;rw[zQ _ _ ω,Option.map_map];rfl
 rw[if_neg (show ¬az x p.funs=true by unfold az;simpa using h),if_neg (show ¬az (φ x) p.funs=true by unfold az;simpa using hφ.no x h)]
theorem ord_sigS:SigS p (ordQ φ p) φ (λt=>cd p t=true):=by
 refine⟨Al hd hφ,λs=>?_,λs=>?_,λt msg h v=>?_⟩
 ·rw[Bd,Bd,ord_lkA hd,Option.map_map];rfl
 ·rw[Bc,Bc];show _=(lk Eff.nm p.effects.reverse s.data.toList).map _;rw[Ay hd.en]
 cases t with
 | mk k s a =>
  have v:k=7:=v;have h:cd p (.mk k s a)=true:=h;rw[cd,if_neg ω,if_pos v,τ] at h;obtain⟨i,x⟩:=Option.isSome_iff_exists.1 h.1;have q:=(cg _ _ _ _ x).2;have g:i<p.actors:=by have:=(List.getElem?_eq_some_iff.1 q).1;unfold Pg.acNames at this;rwa [List.length_map] at this
  obtain⟨r,u⟩:∃r,p.actors[i]?=some r:=⟨_,ξ g⟩
  have y:r.nm=s.data.toList:=by
   unfold Pg.acNames at q;rw[List.getElem?_map,u] at q;exact Option.some.inj q
  have z:idxP (ordQ φ p).acNames s.data.toList=some (p.actors-1-i):=by
   have:=AY (nm:=Ac.nm) (l:=(ordQ φ p).actors) (j:=p.actors-1-i) (d:=ym φ r) (by rw[(Ao φ p).acs];exact zA hd.an) (by
    show ((p.actors.map (ym φ)).reverse)[p.actors.length-1-i]?=_;rw[zQ _ _ g,u];rfl)
   rw[<-y];exact this
  show hdP p ((idxP p.acNames s.data.toList).getD 0) msg=hdP (ordQ φ p) ((idxP (ordQ φ p).acNames s.data.toList).getD 0) msg;rw[x,z];exact ord_hd hd g msg
omit hφ in
theorem Bg:GOk p (λt=>cd p t=true):=by
 refine⟨λt u hg hk hu=>?_,λs hs=>AM hs,λt cs c f _ hv hc hf=>?_⟩
 ·cases t;exact zB hg u hu
 obtain⟨y,a,e⟩:=List.mem_iff_getElem.1 hc;exact zU hd hv a f (by rw[e];exact hf)
omit hφ in
theorem known_eg (M:Nat):EG (λt=>cd p t=true) (aa p M):=λsc e t hs h=>AI hd M sc e none t ⟨hs.bound,hs.vars⟩ zY h
theorem ord_sc (hi:i<p.actors) (s:Int) (l:List Fld) {vs vs':List Vr} (hv:vs.map (·.type)=vs'.map (·.type)):
 ScEq p (ordQ φ p) { dC s (i:Nat) l with vars:=vs } { dC s ((p.actors.length-1-i:Nat):Int) l with vars:=vs' }:=by
 refine⟨rfl,rfl,hv,?_,λ_ t=>?_⟩
 ·unfold iL dC;simp only;rw[if_neg ω,if_neg ω,Int.toNat_natCast,Int.toNat_natCast];show _=(((p.actors.map (ym φ)).reverse)[p.actors.length-1-i]?).map _;rw[zQ _ _ hi,Option.map_map];rfl
 show hdP p (((i:Nat):Int)).toNat t=hdP (ordQ φ p) (((p.actors.length-1-i:Nat):Int)).toNat t;rw[Int.toNat_natCast,Int.toNat_natCast];exact ord_hd hd hi t
theorem ord_fun {f:Fn} (hf:Ex.deep f.body<=M):funB (ordQ φ p) M (yp φ f)=funB p M f:=by
 unfold funB isE;have:=iX (Al hd hφ) M M M (υ _) (υ _) (dC f.slots (-1) f.params) (dC f.slots (-1) f.params) f.body (some f.result) ⟨rfl,rfl,rfl,rfl,λh=>absurd h (by unfold dC;simp only;omega)⟩ hf;rw[this];rfl
theorem ord_ac {a:Ac} (hi:p.actors[i]?=some a) (h1:∀v∈a.vars,Ex.deep v.init<=M) (h2:∀h∈a.on,St.deeps h.body<=M):acB (ordQ φ p) M (p.actors-1-i) (ym φ a)=acB p M i a:=by
 have q:=(List.getElem?_eq_some_iff.1 hi).1;have y:=List.mem_of_getElem? hi;have d:=(hd.au a y).2.2;unfold acP at d;simp only[τ] at d;have r:∀v∈a.vars,cd p v.type=true:=λv hv=>stored_known (((zv _ _).1 d.2.1).2 v hv).2.2;unfold acB;show ((a.vars.map (yu φ)).all _&&(a.on.map (yv φ)).all _)=_;rw[List.all_map,List.all_map];congr 1
 ·rw[Bool.eq_iff_iff,List.all_eq_true,List.all_eq_true];refine forall_congr' λv=>forall_congr' λhv=>?_;have:=iX (Al hd hφ) M M M (υ _) (υ _) (dC a.slots (i:Nat) a.params) (dC a.slots ((p.actors.length-1-i:Nat):Int) a.params) v.init (some v.type) (ord_sc hd hφ q a.slots a.params (vs:=[]) (vs':=[]) rfl) (h1 v hv);show varB (ordQ φ p) M _ (ym φ a) (yu φ v)=true↔_;unfold varB isE;rw[this];exact Iff.rfl
 rw[Bool.eq_iff_iff,List.all_eq_true,List.all_eq_true];refine forall_congr' λg=>forall_congr' λhg=>?_;have l:=(((zv _ _).1 d.2.2.1).2 g hg).2.2;unfold hdOk at l;rw[τ] at l;have x:=zO l.1
 have u:ScG (λt=>cd p t=true) (hdSc i a g):=by
  refine⟨λj t hj=>?_,r,Int.natCast_nonneg i⟩;have k:(if j<0 then none else (g.params[j.toNat]?).map (·.type))=some t:=hj;split at k
  ·cases k
  obtain⟨f,z,rfl⟩:=Option.map_eq_some_iff.1 k;exact x f (List.mem_of_getElem? z)
 have:=oe (ord_sigS hd hφ) (Bg hd) (known_eg hd M) M M M (υ _) (υ _) (υ _) (υ _) (hdSc i a g) (hdSc (p.actors-1-i) (ym φ a) (yv φ g)) g.body
  (ord_sc hd hφ q g.slots g.params (vs:=a.vars) (vs':=(a.vars.map (yu φ))) (by rw[List.map_map];rfl)) u (h2 g hg)
 show hdB (ordQ φ p) M _ (ym φ a) (yv φ g)=true↔_;unfold hdB;rw[this];exact Iff.rfl
omit hd hφ in
theorem actsB_iff (p:Pg) (M:Nat):∀(l:List Ac) (i:Nat),fQ p M i l=true↔∀k a,l[k]?=some a->acB p M (i+k) a=true
 | [],i=>by simp[fQ]
 | b::l,i=>by
  rw[fQ,τ,actsB_iff p M l (i+1)]
  constructor
  ·rintro ⟨h1,h2⟩ k a hk
   cases k with
   | zero=>cases hk;exact h1
   | succ k=>have:=h2 k a hk;rwa [Nat.add_assoc,Nat.add_comm 1 k] at this
  intro h
  exact⟨h 0 b rfl,λk a hk=>by have:=h (k+1) a hk;rwa [Nat.add_assoc,Nat.add_comm 1 k]⟩
theorem AO (hD:p.Deep M):dy (ordQ φ p) M=dy p M:=by
 unfold dy;congr 1
 ·show ((p.funs.map (yp φ)).reverse).all _=_;rw[List.all_reverse,List.all_map,Bool.eq_iff_iff,List.all_eq_true,List.all_eq_true];refine forall_congr' λf=>forall_congr' λhf=>?_;show funB (ordQ φ p) M (yp φ f)=true↔_;rw[ord_fun hd hφ (hD.funs f hf)]
 rw[Bool.eq_iff_iff,actsB_iff,actsB_iff];have t:∀{i:Nat},i<p.actors.length->(ordQ φ p).actors[p.actors.length-1-i]?=(p.actors[i]?).map (ym φ):=λl=>zQ _ _ l;have r:(ordQ φ p).actors.length=p.actors:=by show ((p.actors.map (ym φ)).reverse).length=_;simp
 constructor
 ·intro h k a d;have j:=(List.getElem?_eq_some_iff.1 d).1;have g:=List.mem_of_getElem? d;have:=h (p.actors-1-k) (ym φ a) (by rw[t j,d];rfl);rw[Nat.zero_add,ord_ac hd hφ d (hD.vars a g) (hD.on a g)] at this;rw[Nat.zero_add];exact this
 intro h k b d;have j:=(List.getElem?_eq_some_iff.1 d).1;rw[r] at j;obtain⟨i,l,rfl⟩:∃i,i<p.actors.length/\k=p.actors-1-i:=⟨p.actors-1-k,ω,ω⟩
 obtain⟨a,q⟩:∃a,p.actors[i]?=some a:=⟨_,ξ l⟩
 rw[t l,q] at d;obtain rfl:ym φ a=b:=Option.some.inj d;have g:=List.mem_of_getElem? q;rw[Nat.zero_add,ord_ac hd hφ q (hD.vars a g) (hD.on a g)];have:=h i a q;rwa [Nat.zero_add] at this
end
variable {φ:Int->Int}
def Be {p:Pg} (hφ:PhiR p.funs φ) (hf:Fit p M):aW (ordQ φ p) M=aW p M:=by
 have a:=Ao φ p;unfold aW;rw[a.decs]
 cases h:cH p with
 | false=>rw[Bool.false_and,Bool.false_and]
 | true=>rw[a.fin h hf.fn,AO ((zK p).1 h) hφ hf.deep]
def phi_ord {n:Nat} (hn:n<=1000000):PhiR n (sh ((n:Int)-1) (-1)):=by
 refine⟨λx h0 h1=>?_,λx h=>?_⟩
 ·unfold sh;rw[if_pos ω];unfold wrap64;omega
 unfold sh;split
 ·unfold wrap64;omega
 omega
def ord_emb {p:Pg} (hφ:PhiR p.funs φ) (hD:DecsOk p) (hf:∀g∈p.funs,g.refs (okN p) (okS p)):Emb p (ordQ φ p) (λx=>(p.funs.length:Int)-1-x):=by
 have l:∀n,okN p n->φ n=(λx:Int=>(p.funs.length:Int)-1-x) n:=λn hn=>hφ.ok n hn.1 hn.2;refine⟨λa b h=>ω,λn h0 h1=>?_,λs hs=>?_⟩
 ·have r:((p.funs.length:Int)-1-n).toNat=p.funs-1-n.toNat:=ω;show ((p.funs.map (yp φ)).reverse)[((p.funs.length:Int)-1-n).toNat]?=_;rw[r,zQ _ _ ω]
  cases hx:p.funs[n.toNat]? with
  | none=>rfl
  | some g=>rw[Option.map_some,Option.map_some,yE l g (hf g (List.mem_of_getElem? hx))]
 have d:∀q:Pg,s∈q.tyNames->q.types[(idxP q.tyNames s).getD 0]?=lk Dcl.nm q.types s:=λq h=>by
  obtain⟨i,k,-⟩:=xM _ _ h;have j:idxP (q.types.map Dcl.nm) s=some i:=k;unfold lk;rw[j,k];rfl
 rw[d p hs,d _ (by show s∈p.types.reverse.map _;rw[List.map_reverse,List.mem_reverse];exact hs),Ap hD]
def ord_ix {p:Pg} (hD:DecsOk p) {s:List UInt8} (hs:s∈p.acNames):∃i g,idxP p.acNames s=some i/\p.actors[i]?=some g/\idxP (ordQ φ p).acNames s=some (p.actors-1-i)/\(ordQ φ p).actors[p.actors.length-1-i]?=some (ym φ g):=by
 obtain⟨i,t,h,a⟩:=xM p.acNames s hs;have d:i<p.actors.length:=by unfold Pg.acNames at h;rwa [List.length_map] at h
 obtain⟨g,j⟩:∃g,p.actors[i]?=some g:=⟨_,ξ d⟩
 have r:g.nm=s:=by unfold Pg.acNames at a;rw[List.getElem?_map,j] at a;exact Option.some.inj a
 have k:(ordQ φ p).actors[p.actors.length-1-i]?=some (ym φ g):=by
  show ((p.actors.map (ym φ)).reverse)[p.actors.length-1-i]?=_;rw[zQ _ _ d,j];rfl
 have q:idxP (ordQ φ p).acNames s=some (p.actors-1-i):=by
  have:=AY (nm:=Ac.nm) (l:=(ordQ φ p).actors) (by rw[(Ao φ p).acs];exact zA hD.an) k;rw[<-r];exact this
 exact⟨i,g,t,j,q,k⟩
def Bu {s:List UInt8} {a:Ac} (hi:idxP q.acNames s=some i) (ha:q.actors[i]?=some a) (hr:aW q M=true):digP q M s=ShaT.shaS (je q a |>.map UInt8.toNat):=by
 unfold digP;rw[hi];simp only[hr,if_true,ha]
def ord_dig {p:Pg} (hφ:PhiR p.funs φ) (hd:DigOk p) (hD:DecsOk p) (hf:∀g∈p.funs,g.refs (okN p) (okS p)) (ha:∀g∈p.actors,g.refs (okN p) (okS p)) (hr:aW p M=true) (hr':aW (ordQ φ p) M=true) {s:List UInt8} (hs:s∈p.acNames):digP (ordQ φ p) M s=digP p M s:=by
 have l:∀n,okN p n->φ n=(λx:Int=>(p.funs.length:Int)-1-x) n:=λn hn=>hφ.ok n hn.1 hn.2;obtain⟨i,g,k,h,d,j⟩:=ord_ix (φ:=φ) hD hs;have a:=List.mem_of_getElem? h
 have e:je (ordQ φ p) (ym φ g)=je p g:=by
  rw[yF l g (ha g a)];exact yZ (ord_emb hφ hD hf) hd a (by show _<=((p.funs.map (yp φ)).reverse).length;simp) (by show _<=p.types.reverse.length;simp)
 rw[Bu k h hr,Bu d j hr',e]
def szPg_ord (φ:Int->Int) (p:Pg):szPg (ordQ φ p)=szPg p:=by
 unfold szPg ordQ;simp only[AD];rw[zJ szFn szFn (yp φ) (BR φ),zJ szAc szAc (ym φ) (BS φ)]
def Cq {p:Pg} (hs:szPg p<=4000):aW (ordQ (sh ((p.funs.length:Int)-1) (-1)) p) 4000=aW p 4000/\(aW p 4000=true->∀s∈p.acNames,digP (ordQ (sh ((p.funs.length:Int)-1) (-1)) p) 4000 s=digP p 4000 s):=by
 have a:=phi_ord (sD hs).funs;have d:=Be a (py hs);refine⟨d,λhr s hm=>?_⟩;have g:=(zK p).1 (by unfold aW at hr;rw[τ] at hr;exact hr.1);exact ord_dig a (zf (zc hs) hr) g (zl (zc hs) hr).1 (zl (zc hs) hr).2 hr (d.trans hr) hm
end
end
section
open Proofs.Tryz RowKit Maps WideMaps ChangeMaps
def Hs.gr {w b:À} {row:Option Nat} {g:Nat} {ty:TypeId} {cs:Array Value} (h:Hs w g ty cs) (hg:w.grownBy b row) (hr:row≠some g):Hs b g ty cs:=(hg.block g h.lt (λe=>hr e.symm)).trans h
def RvL {α:Type} (R:List Value->α->Prop) (z ty rb i:Nat) (cs:List Value) (L:List α) (j:Nat) (v:Value) (Ws wr:À):Prop:=
 ∃xs,wr.ownsRow Ws ty z v j xs/\RowG z R xs (L.reverse.take j)/\Stp (only rb) Ws wr/\Hs wr rb 27 (cs.set i v).toArray
section
variable {α:Type} {R:List Value->α->Prop} {z ty rb i:Nat} {cs:List Value} {L:List α} {j:Nat} {v v5:Value} {Ws wr W2 w5:À} {xs ys:List Value}
def RvL.start (h:Hs Ws rb 27 cs.toArray) (he:cs.set i ()=cs):Hid (RvL R z ty rb i cs L 0 () Ws Ws):=
 ⟨[],World.ownsRow_nil _ _ _ _,RowG.nil _,Stp.refl _ _,by rw[he];exact h⟩
def RvL.push (ho:wr.ownsRow Ws ty z v j xs) (hg:RowG z R xs (L.reverse.take j)) (hs:Stp (only rb) Ws wr) (hb:Hs wr rb 27 (cs.set i v).toArray) (hrb:rb<Ws)
 {y:Nat} (hj:j+1+y=L) (h2:Below wr wr W2) (hown:w5.ownsRow Ws ty z v5 (j+1) (xs++ys)) (hgr:W2.grownBy w5 v.ownBlock) (hys:ys=z) (hr:R ys (L[y]'ω)) :
 Hid (RvL R z ty rb i cs L (j+1) v5 Ws (w5.setCell ⟨rb,i,none⟩ v5)):=by
 have d:v.ownBlock≠some rb:=λe=>by have:=(ho.lt _ e).1;omega
 have a:=hs.size;refine⟨xs++ys,hown.kept (kp w5 rb i v5) (.inr (λe=>by have:=(hown.lt _ e).1;omega)),?_,⟨?_,?_,?_,?_,?_⟩,?_⟩
 ·have e:L.reverse.take (j+1)=L.reverse.take j++[L[y]'ω]:=by
   rw[List.take_succ_eq_append_getElem Φ,List.getElem_reverse];congr 3;omega
  rw[e];exact hg.snoc hys hr
 ·exact hgr.os.trans (h2.os.trans hs.os)
 ·exact hgr.tape.trans (h2.tape.trans hs.tape)
 ·exact hgr.output.trans (h2.output.trans hs.output)
 ·rw[dj];exact ψ a (ψ h2.size hgr.size)
 ·intro k h g;have l:(w5.setCell ⟨rb,i,none⟩ v5).heap[k]?=w5.heap[k]?:=Below.heap_setCell _ _ _ _ (λe=>g e);rw[l,hgr.block k (by have:=h2.size;omega) (λe=>by have:=(ho.lt _ e.symm).1;omega),h2.block k ω];exact hs.block k h g
 have:=er (i:=i) (v:=v5) (Hs.gr (kn hb h2) hgr d);rwa [List.setIfInBounds_toArray,List.set_set] at this
def RvL.sl (h:RvL R z ty rb i cs L j v Ws wr) (hn:j=L) (hrb:rb<Ws):SlR wr (im (only rb) wr) z R v L.reverse/\Stp (only rb) Ws wr/\Hs wr rb 27 (cs.set i v).toArray:=by
 subst hn;obtain⟨l,ho,a,d,k⟩:=h;rw[List.take_of_length_le Θ] at a;exact⟨a.sl (base:=Ws) (e:=ty) (by rw[List.length_reverse];exact ho) (λg a=>⟨(ho.lt g a).2,λe=>by have:=(ho.lt g a).1;unfold only at e;omega⟩),d,k⟩
def RvL.bel {n:Nat} {W4:À} (hb:Below n W4 Ws) (hs:Stp (only rb) Ws wr) (hn:n<=rb) (hw:n<=W4):Below n W4 wr:=
 ⟨hs.os.trans hb.os,hs.tape.trans hb.tape,hs.output.trans hb.output,ψ hb.size hs.size,λk hk=>(hs.block k (by have:=hb.size;omega) (λe=>by unfold only at e;omega)).trans (hb.block k hk)⟩
end
def Ce {p:Pg} {w:À} {A0 A1 A2 A3:Option Addr} {q0 q1 q2 q3:Nat} (hR:ShaT.Rounds w) (h:PgAt w A0 A1 A2 A3 q0 q1 q2 q3 p) (hc:cPg p<=1048576) :
 Calls prog 5 #[.agg #[.slice A0 p.types.length q0,.slice A1 p.effects.length q1,.slice A2 p.funs.length q2,.slice A3 p.actors.length q3]] w (aE true w):=by
 have cg:szPg p<=4000000000000:=BY ω;have ch:=sh_pre (p:=p) ω;obtain⟨W1,bv⟩:=γ (w.alloc (.cells #[.slice A0 p.types.length q0,.slice A1 p.effects.length q1,.slice A2 p.funs.length q2,.slice A3 p.actors.length q3] 27))
 have B1:Hid (Below w w W1):=by rw[bv];exact ζ1
 have X0:Hid (Hs W1 w 27 #[.slice A0 p.types.length q0,.slice A1 p.effects.length q1,.slice A2 p.funs.length q2,.slice A3 p.actors.length q3]):=by rw[bv];exact Hs.new _ _ _
 have ej:=η bv;obtain⟨HR,gf,ek,ge⟩:=zd4 (hR.mono B1.o) h cg ch;obtain⟨io,d8,d6,d7,d9⟩:=info_parts ri;obtain⟨I1,I2,I3,I4⟩:=zd4 d8 d6 d7 d9;obtain⟨jo,d4,d2,d3,d5⟩:=info_parts BG;obtain⟨J1,J2,J3,J4⟩:=zd4 d4 d2 d3 d5;obtain⟨ko,dz,dx,dy,d0⟩:=info_parts BK;obtain⟨K1,K2,K3,K4⟩:=zd4 dz dx dy d0;obtain⟨mo,dt,dr,ds,du⟩:=info_parts BJ;obtain⟨M1,M2,M3,M4⟩:=zd4 dt dr ds du;clear bv hR h cg ch d8 d6 d7 d9 d4 d2 d3 d5 dz dx dy d0 dt dr ds du hc;go_in;go_upto_region 1 with fail;rw[<-ej.o];clear ej;go_upto_region 2 with (go_at_call 7;refine (pU HR.o).mono ?_;rintro e2 w2 ⟨rfl,bu⟩);obtain⟨B2,Y0,R2⟩:=zd3 (bel B1.o bu) (kn X0.o bu) (HR.o.mono bu);have b0:=η (gf.o.bel B2.o);clear bu X0 B1 HR;have a0:=Y0.o.c 0;have a1:=Y0.o.c 1;have a2:=Y0.o.c 2;have a3:=Y0.o.c 3;by_cases t1:szPg p<=4000;rotate_left
 ·have T1:=η (decide_eq_false t1);clear t1;go_wp2_with (go_at_call 8;refine (m0 b0.o ek.o T1.o).mono ?_;rintro e3 w3 ⟨rfl,O⟩);have a6:=bel B2.o O;go_ret;exact⟨rfl,a6⟩
 have h3:=(sD t1).funs;have h2:=(sD t1).types;have h1:=(sD t1).effects;have h0:=(sD t1).actors;obtain⟨T1,ct⟩:=zd2 (decide_eq_true t1) t1;clear t1;go_upto_region 4 with (go_at_call 8;refine (m0 b0.o ek.o T1.o).mono ?_;rintro e3 w3 ⟨rfl,O⟩;have B3:=η (bel B2.o O);have Y3:=η (kn Y0.o O);have R3:=η (R2.o.mono O);have cs:=η (b0.o.bel O);replace a0:=belC O a0;replace a1:=belC O a1;replace a2:=belC O a2;replace a3:=belC O a3;clear O B2 Y0 R2 b0);have eq:Hid (∀(W:À) (F2 F3:Option Addr) (r2 r3:Nat),Bx W 27 W (λ_=>True) [.slice A0 p.types.length q0,.slice A1 p.effects.length q1,.slice F2 p.funs.length r2,.slice F3 p.actors.length r3] ((W.alloc (.cells #[.slice none 0 0,.slice none 0 0,.slice none 0 0,.slice none 0 0] 27)).setRow W #[.slice A0 p.types.length q0,.slice A1 p.effects.length q1,.slice F2 p.funs.length r2,.slice F3 p.actors.length r3])):=λW F2 F3 r2 r3=>(Bx.one W 27 [.slice none 0 0,.slice none 0 0,.slice none 0 0,.slice none 0 0] _).o;have hz:IntKind.i64.wrap ((p.funs.length:Int)-1)=(p.funs.length:Int)-1:=by rw[IntKind.wrap_i64];omega
 go_upto_region 6 with (first|(go_at_call 14;refine (By ge.o cs.o).mono ?_;rintro e4 w4 ⟨F2,F3,r2,r3,rfl,ea,eb,au⟩)|(refine wpList_store_row rfl 27 _ _ rfl w4 #[.slice A0 p.types.length q0,.slice A1 p.effects.length q1,.slice F2 p.funs.length r2,.slice F3 p.actors.length r3] rfl rfl 27 #[.slice none 0 0,.slice none 0 0,.slice none 0 0,.slice none 0 0] (Hs.new _ _ _) Δ rfl Ρ ?_));obtain⟨a,ec,BX⟩:=Bx.w (η (eq.o w4 F2 F3 r2 r3));rw[<-ec];have S4:=ae BX.o.bl;obtain⟨Z0,Q0,R4,cq⟩:=zd4 (kn (kn Y3.o au) BX.o.bl) BX.o.t ((R3.o.mono au).mono BX.o.bl) ((cs.o.bel au).bel BX.o.bl);have cy:Hid (SlR a (lo a) 11 (FnR a (lo a)) (.slice F2 p.funs.length r2) (p.funs.map (yp (sh ((p.funs.length:Int)-1) (-1))))):=ea.to' S4 (λ_ _ h=>FnR.to h S4);have cz:Hid (SlR a (lo a) 7 (AcR a (lo a)) (.slice F3 p.actors.length r3) (p.actors.map (ym (sh ((p.funs.length:Int)-1) (-1))))):=eb.to' S4 (λ_ _ h=>AcR.to h S4);have gk:=η (bel (bel B3.o au) BX.o.bl);have hw:w4.heap.size<a.heap.size:=BX.o.z;have ht:w.heap.size<w4.heap.size:=ρ Y3.o.lt au.size;obtain⟨LF,bw⟩:=γ (p.funs.map (yp (sh ((p.funs.length:Int)-1) (-1))))
 obtain⟨E,bx⟩:=γ (p.actors.map (ym (sh ((p.funs.length:Int)-1) (-1))))
 rw[<-bw] at cy;rw[<-bx] at cz;have dv:LF.length=p.funs.length:=by rw[bw,List.length_map]
 have dw:E.length=p.actors.length:=by rw[bx,List.length_map]
 obtain⟨gg,gi,NF,NA⟩:=zd4 bw bx dv dw;clear bw bx dv dw ec au ea eb S4 BX a0 a1 a2 a3 Y3 R3 cs B3 eq;have ep:Hid (Bx a 27 a (λ_=>True) [.slice none 0 0,.slice none 0 0,.slice none 0 0,.slice none 0 0] ((a.alloc (.cells #[.slice none 0 0,.slice none 0 0,.slice none 0 0,.slice none 0 0] 27)).setRow a #[.slice none 0 0,.slice none 0 0,.slice none 0 0,.slice none 0 0])):=Bx.one a 27 [.slice none 0 0,.slice none 0 0,.slice none 0 0,.slice none 0 0] _;go_upto_region 7 with (refine wpList_store_row rfl 27 _ _ rfl a #[.slice none 0 0,.slice none 0 0,.slice none 0 0,.slice none 0 0] rfl rfl 27 #[.slice none 0 0,.slice none 0 0,.slice none 0 0,.slice none 0 0] (Hs.new _ _ _) Δ rfl Ρ ?_);obtain⟨V0,ed,BX⟩:=Bx.w ep;rw[<-ed];obtain⟨E0,X0⟩:=zd2 BX.o.bl BX.o.t;clear ed BX ep;have eo:=RvL.start (R:=FnR a (lo a)) (z:=11) (ty:=45) (i:=2) (L:=LF) X0.o rfl;have dq:a.heap.size<V0.heap.size:=X0.o.lt;have fw:V0.cell? ⟨w4,2,none⟩=some (.slice F2 p.funs.length r2):=(kn Q0.o E0.o).cell 2;have gw:IntKind.i64.wrap ((p.funs.length:Int)-1)=(p.funs.length:Int)-1:=by rw[IntKind.wrap_i64];omega
 go_wp2_with fail;go_loopw [7] (λi wr=>∃(x:Int) (v:Value),-1<=x/\x<p.funs.length/\i=.int .i64 x/\Hid (RvL (FnR a (lo a)) 11 45 a 2 [.slice none 0 0,.slice none 0 0,.slice none 0 0,.slice none 0 0] LF (((p.funs.length:Nat):Int)-1-x).toNat v V0 wr)) (λi _=>(intOf i+1).toNat)
 case atStart=>exact⟨(p.funs.length:Int)-1,_,ω,ω,by first|rfl|go_num,by rw[show (((p.funs.length:Nat):Int)-1-((p.funs.length:Int)-1)).toNat=0 by omega];exact eo⟩
 case round =>
  obtain⟨x,v,ak,aj,rfl,D⟩:=hrel;clear eo fw;by_cases N:0<=x
  ·obtain⟨y,rfl⟩:=Int.eq_ofNat_of_zero_le N;have cf:y<p.funs.length:=ω;obtain⟨j,hj⟩:∃j,j+1+y=p.funs.length:=⟨p.funs.length-1-y,ω⟩
   rw[show (((p.funs.length:Nat):Int)-1-(y:Int)).toNat=j by omega] at D;obtain⟨xs,d,F,B,G⟩:=D.o;obtain⟨Ar,cr,rfl⟩:=bU d;have r:=η (RvL.bel E0.o B (υ _) (υ _));obtain⟨U,ao,T,H⟩:=zd4 d F B G;have ce:a.heap.size<wr.heap.size:=G.lt;clear d F B G D;have hy:y<LF.length:=by have:=NF.o;omega
   obtain⟨g,cd,M,Z,k1,s1,a1,C1,c1,o1,x1,m1,u1,e1,D1,d1,hA,hg,p0,p1,p2,p3,p4,p5,p6,p7,p8,p9,dl,hr,-⟩:=jd cy.o hy;obtain rfl:=hA;have ap:=η hr;have ci:g<a.heap.size:=hg;have s0:=(kn Q0.o r.o).cell 2;have ca:=H.o.cell 2;replace p0:=belC r.o p0;replace p1:=belC r.o p1;replace p2:=belC r.o p2;replace p3:=belC r.o p3;replace p4:=belC r.o p4;replace p5:=belC r.o p5;replace p6:=belC r.o p6;replace p7:=belC r.o p7;replace p8:=belC r.o p8;replace p9:=belC r.o p9;replace dl:=belC r.o dl;clear hr hg;have g0:(0:Int)<=(y:Int):=ω;have g1:(y:Int)<(p.funs.length:Int):=ω;have V:=η ((U.o.drew).alloc (.cells #[.string LF[y].name,.slice M LF[y].params.length Z,.int .i64 k1,.string s1,.slice C1 a1.length c1,.int .i64 LF[y].slots,.int .i64 o1,.int .i64 x1,.int .i64 m1,.string u1,.slice D1 e1.length d1] 45));go_wp2_with fail
   go_region_law (first|(refine step_append_lies _ rfl (.tmp 31) (.tmp 37) 24 rfl V0 45 io _ 11 160 underlying24 I1.o I2.o I3.o I4.o rfl π (.slice Ar j cr) j xs rfl V.o wr 1 1 [.string LF[y].name,.slice M LF[y].params.length Z,.int .i64 k1,.string s1,.slice C1 a1.length c1,.int .i64 LF[y].slots,.int .i64 o1,.int .i64 x1,.int .i64 m1,.string u1,.slice D1 e1.length d1] rfl rfl (World.news_of_block (Hs.new _ _ _)) (by intro u I;simp at I;repeat (first|(subst I;rfl)|(rcases I with rfl|I;rfl))) π Ξ ω (by have:=T.o.size;simp;omega) _ rfl ?_;intro g5 c5 w5 J A bk bg;have Y:=Hs.gr (Hs.alloc (w:=wr.drew) H.o (.cells #[.string LF[y].name,.slice M LF[y].params.length Z,.int .i64 k1,.string s1,.slice C1 a1.length c1,.int .i64 LF[y].slots,.int .i64 o1,.int .i64 x1,.int .i64 m1,.string u1,.slice D1 e1.length d1] 45)) A (λe=>by have:=(V.o.lt _ e).1;omega);have y0:=Y.cell 2;have f0:=Lib.frozen_of_heap Y 2))
   all_goals
    have HV:=RvL.push (R:=FnR a (lo a)) (ty:=45) U.o ao.o T.o H.o dq (by have:=NF.o;omega) (belA (ad wr) _) J A rfl ap.o;go_wp2_with fail;refine⟨⟨(y:Int)-1,.slice g5 (j+1) c5,ω,ω,by go_num,?_⟩,by simp[intOf]⟩;rw[show (((p.funs.length:Nat):Int)-1-((y:Int)-1)).toNat=j+1 by omega];exact HV
  obtain rfl:x=-1:=ω;rw[show (((p.funs.length:Nat):Int)-1-(-1)).toNat=p.funs.length by omega] at D;obtain⟨xs,d,-⟩:=D.o;obtain⟨B2,s2,rfl⟩:=bU d;obtain⟨di,b7,ef⟩:=RvL.sl D.o NF.o.symm dq;have E1:=η (RvL.bel E0.o b7 (υ _) (υ _));obtain⟨L2,f7,M⟩:=zd3 di b7 ef;clear xs d D di b7 ef N ak aj;obtain⟨V1,rfl⟩:=γ wr
  have en:=RvL.start (R:=DclR a (lo a)) (z:=3) (ty:=48) (i:=0) (L:=p.types) M.o rfl;have dp:a.heap.size<V1.heap.size:=M.o.lt;have fv:V1.cell? w=some (.slice A0 p.types.length q0):=(kn Z0.o E1.o).cell 0;have gu:IntKind.i64.wrap ((p.types.length:Int)-1)=(p.types.length:Int)-1:=by rw[IntKind.wrap_i64];omega
  go_wp2_with fail;go_loopw [8] (λi wr=>∃(x:Int) (v:Value),-1<=x/\x<p.types.length/\i=.int .i64 x/\Hid (RvL (DclR a (lo a)) 3 48 a 0 [.slice none 0 0,.slice none 0 0,.slice B2 p.funs.length s2,.slice none 0 0] p.types (((p.types.length:Nat):Int)-1-x).toNat v V1 wr)) (λi _=>(intOf i+1).toNat)
  case atStart=>exact⟨(p.types.length:Int)-1,_,ω,ω,by first|rfl|go_num,by rw[show (((p.types.length:Nat):Int)-1-((p.types.length:Int)-1)).toNat=0 by omega];exact en⟩
  case round =>
   obtain⟨x,v,ak,aj,rfl,D⟩:=hrel;clear en fv;by_cases N:0<=x
   ·obtain⟨y,rfl⟩:=Int.eq_ofNat_of_zero_le N;have cf:y<p.types.length:=ω;obtain⟨j,hj⟩:∃j,j+1+y=p.types.length:=⟨p.types.length-1-y,ω⟩
    rw[show (((p.types.length:Nat):Int)-1-(y:Int)).toNat=j by omega] at D;obtain⟨xs,d,F,B,G⟩:=D.o;obtain⟨Ar,cr,rfl⟩:=bU d;have r:=η (RvL.bel E1.o B (υ _) (υ _));obtain⟨U,ao,T,H⟩:=zd4 d F B G;have ce:a.heap.size<wr.heap.size:=G.lt;clear d F B G D;have hy:y<p.types.length:=by have:=(Eq.refl p.types.length);omega
    obtain⟨g,cd,M,Z,hA,hg,p0,p1,p2,hr,-⟩:=fF cq.o.t hy;obtain rfl:=hA;have ap:=η hr;have ci:g<a.heap.size:=hg;have s0:=(kn Z0.o r.o).cell 0;have ca:=H.o.cell 0;replace p0:=belC r.o p0;replace p1:=belC r.o p1;replace p2:=belC r.o p2;clear hr hg;have g0:(0:Int)<=(y:Int):=ω;have g1:(y:Int)<(p.types.length:Int):=ω;have V:=η ((U.o.drew).alloc (.cells #[.string p.types[y].name,.bool p.types[y].record,.slice M p.types[y].ctors.length Z] 48));go_wp2_with fail;go_region_law (first|(refine step_append_lies _ rfl (.tmp 49) (.tmp 55) 22 rfl V1 48 ko _ 3 48 underlying22 K1.o K2.o K3.o K4.o rfl π (.slice Ar j cr) j xs rfl V.o wr 1 1 [.string p.types[y].name,.bool p.types[y].record,.slice M p.types[y].ctors.length Z] rfl rfl (World.news_of_block (Hs.new _ _ _)) (by intro u I;simp at I;repeat (first|(subst I;rfl)|(rcases I with rfl|I;rfl))) π Ξ ω (by have:=T.o.size;simp;omega) _ rfl ?_;intro g5 c5 w5 J A bk bg;have Y:=Hs.gr (Hs.alloc (w:=wr.drew) H.o (.cells #[.string p.types[y].name,.bool p.types[y].record,.slice M p.types[y].ctors.length Z] 48)) A (λe=>by have:=(V.o.lt _ e).1;omega);have y0:=Y.cell 0;have f0:=Lib.frozen_of_heap Y 0))
    all_goals
     have HV:=RvL.push (R:=DclR a (lo a)) (ty:=48) U.o ao.o T.o H.o dp (by have:=(Eq.refl p.types.length);omega) (belA (ad wr) _) J A rfl ap.o;go_wp2_with fail;refine⟨⟨(y:Int)-1,.slice g5 (j+1) c5,ω,ω,by go_num,?_⟩,by simp[intOf]⟩;rw[show (((p.types.length:Nat):Int)-1-((y:Int)-1)).toNat=j+1 by omega];exact HV
   obtain rfl:x=-1:=ω;rw[show (((p.types.length:Nat):Int)-1-(-1)).toNat=p.types.length by omega] at D;obtain⟨xs,d,-⟩:=D.o;obtain⟨B0,s0,rfl⟩:=bU d;obtain⟨dk,b9,eh⟩:=RvL.sl D.o (Eq.refl p.types.length).symm dp;have E2:=η (RvL.bel E1.o b9 (υ _) (υ _));obtain⟨L0,ei,X2⟩:=zd3 dk b9 eh;clear xs d D dk b9 eh N ak aj;obtain⟨V2,rfl⟩:=γ wr
   have em:=RvL.start (R:=EffR a (lo a)) (z:=5) (ty:=50) (i:=1) (L:=p.effects) X2.o rfl;have dn:a.heap.size<V2.heap.size:=X2.o.lt;have fu:V2.cell? ⟨w,1,none⟩=some (.slice A1 p.effects.length q1):=(kn Z0.o E2.o).cell 1;have gt:IntKind.i64.wrap ((p.effects.length:Int)-1)=(p.effects.length:Int)-1:=by rw[IntKind.wrap_i64];omega
   go_wp2_with fail;go_loopw [9] (λi wr=>∃(x:Int) (v:Value),-1<=x/\x<p.effects.length/\i=.int .i64 x/\Hid (RvL (EffR a (lo a)) 5 50 a 1 [.slice B0 p.types.length s0,.slice none 0 0,.slice B2 p.funs.length s2,.slice none 0 0] p.effects (((p.effects.length:Nat):Int)-1-x).toNat v V2 wr)) (λi _=>(intOf i+1).toNat)
   case atStart=>exact⟨(p.effects.length:Int)-1,_,ω,ω,by first|rfl|go_num,by rw[show (((p.effects.length:Nat):Int)-1-((p.effects.length:Int)-1)).toNat=0 by omega];exact em⟩
   case round =>
    obtain⟨x,v,ak,aj,rfl,D⟩:=hrel;clear em fu;by_cases N:0<=x
    ·obtain⟨y,rfl⟩:=Int.eq_ofNat_of_zero_le N;have cf:y<p.effects.length:=ω;obtain⟨j,hj⟩:∃j,j+1+y=p.effects.length:=⟨p.effects.length-1-y,ω⟩
     rw[show (((p.effects.length:Nat):Int)-1-(y:Int)).toNat=j by omega] at D;obtain⟨xs,d,F,B,G⟩:=D.o;obtain⟨Ar,cr,rfl⟩:=bU d;have r:=η (RvL.bel E2.o B (υ _) (υ _));obtain⟨U,ao,T,H⟩:=zd4 d F B G;have ce:a.heap.size<wr.heap.size:=G.lt;clear d F B G D;have hy:y<p.effects.length:=by have:=(Eq.refl p.effects.length);omega
     obtain⟨g,cd,M,Z,k1,s1,a1,C1,c1,hA,hg,p0,p1,p2,p3,p4,hr,-⟩:=jC cq.o.e hy;obtain rfl:=hA;have ap:=η hr;have ci:g<a.heap.size:=hg;have s0:=(kn Z0.o r.o).cell 1;have ca:=H.o.cell 1;replace p0:=belC r.o p0;replace p1:=belC r.o p1;replace p2:=belC r.o p2;replace p3:=belC r.o p3;replace p4:=belC r.o p4;clear hr hg;have g0:(0:Int)<=(y:Int):=ω;have g1:(y:Int)<(p.effects.length:Int):=ω;have V:=η ((U.o.drew).alloc (.cells #[.string p.effects[y].name,.slice M p.effects[y].params.length Z,.int .i64 k1,.string s1,.slice C1 a1.length c1] 50));go_wp2_with fail;go_region_law (first|(refine step_append_lies _ rfl (.tmp 67) (.tmp 73) 23 rfl V2 50 mo _ 5 88 underlying23 M1.o M2.o M3.o M4.o rfl π (.slice Ar j cr) j xs rfl V.o wr 1 1 [.string p.effects[y].name,.slice M p.effects[y].params.length Z,.int .i64 k1,.string s1,.slice C1 a1.length c1] rfl rfl (World.news_of_block (Hs.new _ _ _)) (by intro u I;simp at I;repeat (first|(subst I;rfl)|(rcases I with rfl|I;rfl))) π Ξ ω (by have:=T.o.size;simp;omega) _ rfl ?_;intro g5 c5 w5 J A bk bg;have Y:=Hs.gr (Hs.alloc (w:=wr.drew) H.o (.cells #[.string p.effects[y].name,.slice M p.effects[y].params.length Z,.int .i64 k1,.string s1,.slice C1 a1.length c1] 50)) A (λe=>by have:=(V.o.lt _ e).1;omega);have y0:=Y.cell 1;have f0:=Lib.frozen_of_heap Y 1))
     all_goals
      have HV:=RvL.push (R:=EffR a (lo a)) (ty:=50) U.o ao.o T.o H.o dn (by have:=(Eq.refl p.effects.length);omega) (belA (ad wr) _) J A rfl ap.o;go_wp2_with fail;refine⟨⟨(y:Int)-1,.slice g5 (j+1) c5,ω,ω,by go_num,?_⟩,by simp[intOf]⟩;rw[show (((p.effects.length:Nat):Int)-1-((y:Int)-1)).toNat=j+1 by omega];exact HV
    obtain rfl:x=-1:=ω;rw[show (((p.effects.length:Nat):Int)-1-(-1)).toNat=p.effects.length by omega] at D;obtain⟨xs,d,-⟩:=D.o;obtain⟨B1,s1,rfl⟩:=bU d;obtain⟨dj,b8,eg⟩:=RvL.sl D.o (Eq.refl p.effects.length).symm dn;have E3:=η (RvL.bel E2.o b8 (υ _) (υ _));obtain⟨L1,ck,X3⟩:=zd3 dj b8 eg;clear xs d D dj b8 eg N ak aj;obtain⟨V3,rfl⟩:=γ wr
    have hs:V3.cell? ⟨w,3,none⟩=some (.slice A3 p.actors.length q3):=(kn Z0.o E3.o).cell 3;have el:=RvL.start (R:=AcR a (lo a)) (z:=7) (ty:=54) (i:=3) (L:=E) X3.o rfl;have dm:a.heap.size<V3.heap.size:=X3.o.lt;have ft:V3.cell? ⟨w4,3,none⟩=some (.slice F3 p.actors.length r3):=(kn Q0.o E3.o).cell 3;have gs:IntKind.i64.wrap ((p.actors.length:Int)-1)=(p.actors.length:Int)-1:=by rw[IntKind.wrap_i64];omega
    go_wp2_with fail;go_loopw [10] (λi wr=>∃(x:Int) (v:Value),-1<=x/\x<p.actors.length/\i=.int .i64 x/\Hid (RvL (AcR a (lo a)) 7 54 a 3 [.slice B0 p.types.length s0,.slice B1 p.effects.length s1,.slice B2 p.funs.length s2,.slice none 0 0] E (((p.actors.length:Nat):Int)-1-x).toNat v V3 wr)) (λi _=>(intOf i+1).toNat)
    case atStart=>exact⟨(p.actors.length:Int)-1,_,ω,ω,by first|rfl|go_num,by rw[show (((p.actors.length:Nat):Int)-1-((p.actors.length:Int)-1)).toNat=0 by omega];exact el⟩
    case round =>
     obtain⟨x,v,ak,aj,rfl,D⟩:=hrel;clear el ft;by_cases N:0<=x
     ·obtain⟨y,rfl⟩:=Int.eq_ofNat_of_zero_le N;have cf:y<p.actors.length:=ω;obtain⟨j,hj⟩:∃j,j+1+y=p.actors.length:=⟨p.actors.length-1-y,ω⟩
      rw[show (((p.actors.length:Nat):Int)-1-(y:Int)).toNat=j by omega] at D;obtain⟨xs,d,F,B,G⟩:=D.o;obtain⟨Ar,cr,rfl⟩:=bU d;have r:=η (RvL.bel E3.o B (υ _) (υ _));obtain⟨U,ao,T,H⟩:=zd4 d F B G;have ce:a.heap.size<wr.heap.size:=G.lt;clear d F B G D;have hy:y<E.length:=by have:=NA.o;omega
      obtain⟨g,cd,M,Z,Y2,z2,Y3,z3,hA,hg,p0,p1,p2,p3,p4,p5,p6,hr,-⟩:=fR cz.o hy;obtain rfl:=hA;have ap:=η hr;have ci:g<a.heap.size:=hg;have s0:=(kn Q0.o r.o).cell 3;have ca:=H.o.cell 3;replace p0:=belC r.o p0;replace p1:=belC r.o p1;replace p2:=belC r.o p2;replace p3:=belC r.o p3;replace p4:=belC r.o p4;replace p5:=belC r.o p5;replace p6:=belC r.o p6;clear hr hg;have g0:(0:Int)<=(y:Int):=ω;have g1:(y:Int)<(p.actors.length:Int):=ω;have V:=η ((U.o.drew).alloc (.cells #[.string E[y].name,.slice M E[y].params.length Z,.int .i64 E[y].slots,.slice Y2 E[y].vars.length z2,.slice Y3 E[y].on.length z3,.int .i64 E[y].policy,.int .i64 E[y].most] 54));go_wp2_with fail
      go_region_law (first|(refine step_append_lies _ rfl (.tmp 85) (.tmp 91) 25 rfl V3 54 jo _ 7 112 underlying25 J1.o J2.o J3.o J4.o rfl π (.slice Ar j cr) j xs rfl V.o wr 1 1 [.string E[y].name,.slice M E[y].params.length Z,.int .i64 E[y].slots,.slice Y2 E[y].vars.length z2,.slice Y3 E[y].on.length z3,.int .i64 E[y].policy,.int .i64 E[y].most] rfl rfl (World.news_of_block (Hs.new _ _ _)) (by intro u I;simp at I;repeat (first|(subst I;rfl)|(rcases I with rfl|I;rfl))) π Ξ ω (by have:=T.o.size;simp;omega) _ rfl ?_;intro g5 c5 w5 J A bk bg;have Y:=Hs.gr (Hs.alloc (w:=wr.drew) H.o (.cells #[.string E[y].name,.slice M E[y].params.length Z,.int .i64 E[y].slots,.slice Y2 E[y].vars.length z2,.slice Y3 E[y].on.length z3,.int .i64 E[y].policy,.int .i64 E[y].most] 54)) A (λe=>by have:=(V.o.lt _ e).1;omega);have y0:=Y.cell 3;have f0:=Lib.frozen_of_heap Y 3))
      all_goals
       have HV:=RvL.push (R:=AcR a (lo a)) (ty:=54) U.o ao.o T.o H.o dm (by have:=NA.o;omega) (belA (ad wr) _) J A rfl ap.o;go_wp2_with fail;refine⟨⟨(y:Int)-1,.slice g5 (j+1) c5,ω,ω,by go_num,?_⟩,by simp[intOf]⟩;rw[show (((p.actors.length:Nat):Int)-1-((y:Int)-1)).toNat=j+1 by omega];exact HV
     obtain rfl:x=-1:=ω;rw[show (((p.actors.length:Nat):Int)-1-(-1)).toNat=p.actors.length by omega] at D;obtain⟨xs,d,-⟩:=D.o;obtain⟨B3,s3,rfl⟩:=bU d;obtain⟨dh,b6,ee⟩:=RvL.sl D.o NA.o.symm dm;have E4:=η (RvL.bel E3.o b6 (υ _) (υ _));obtain⟨L3,bz,X4⟩:=zd3 dh b6 ee;clear xs d D dh b6 ee N ak aj;obtain⟨V4,rfl⟩:=γ wr
     have fx:=γ (ordQ (sh ((p.funs.length:Int)-1) (-1)) p)
     obtain⟨q,hq⟩:=fx;have lT:q.types.length=p.types.length:=by rw[hq];show p.types.reverse.length=_;simp
     have lE:q.effects.length=p.effects.length:=by rw[hq];show p.effects.reverse.length=_;simp
     have lF:q.funs.length=p.funs.length:=by rw[hq];show ((p.funs.map (yp (sh ((p.funs.length:Int)-1) (-1)))).reverse).length=_;simp
     have lA:q.actors.length=p.actors.length:=by rw[hq];show ((p.actors.map (ym (sh ((p.funs.length:Int)-1) (-1)))).reverse).length=_;simp
     have SB:=ae E4.o;have SN:Sub (im (only a.heap.size) V4) (lo V4) V4 V4:=λk hk=>⟨hk.1,rfl⟩
     have cp:Hid (PgAt V4 B0 B1 B2 B3 s0 s1 s2 s3 q):=by
      refine⟨?_,?_,?_,?_⟩
      ·rw[lT,hq];exact ((L0.o.to' (ck.o.trans bz.o).sub (λ_ _ h=>h)).to' SN (λ_ _ h=>DclR.to h SB))
      ·rw[lE,hq];exact ((L1.o.to' bz.o.sub (λ_ _ h=>h)).to' SN (λ_ _ h=>EffR.to h SB))
      ·rw[lF,hq];show SlR _ _ 11 _ _ ((p.funs.map (yp (sh ((p.funs.length:Int)-1) (-1)))).reverse);rw[<-gg.o];exact ((L2.o.to' ((ei.o.trans ck.o).trans bz.o).sub (λ_ _ h=>h)).to' SN (λ_ _ h=>FnR.to h SB))
      rw[lA,hq];show SlR _ _ 7 _ _ ((p.actors.map (ym (sh ((p.funs.length:Int)-1) (-1)))).reverse);rw[<-gi.o];exact L3.o.to' SN (λ_ _ h=>AcR.to h SB)
     obtain⟨a8,R5,er,HP⟩:=zd4 (cq.o.bel E4.o) (R4.o.mono E4.o) (bel gk.o E4.o) (Bw ct.o);have cv:Hid (BPre q):=by rw[hq];exact Bw (by rw[szPg_ord];exact ct.o)
     obtain⟨cx,HQ⟩:=zd2 (Cq ct.o) hq;have a0:=belW ((kn Z0.o E4.o).cell 0);have a1:=belW ((kn Z0.o E4.o).cell 1);have a2:=belW ((kn Z0.o E4.o).cell 2);have a3:=belW ((kn Z0.o E4.o).cell 3);have x4:=X4.o;rw[<-lT,<-lE,<-lF,<-lA] at x4;have c0:=belW (x4.cell 0);have c1:=belW (x4.cell 1);have c2:=belW (x4.cell 2);have c3:=belW (x4.cell 3);clear x4 hq lT lE lF lA SB SN L0 L1 L2 L3 ei ck f7 bz X4 Z0 Q0 cy cz E0 E1 E2 E3 X0 M X2 X3
     cases r1:aW p 4000 with
     | false =>
      have a9:=η r1;have cu:Hid (aW q 4000=false):=by rw[HQ.o];exact cx.o.1.trans r1
      clear r1;go_wp2_with fail;refine tkB (λX=>Below V4 V4 X) (ad _) (λhHeld=>?_);refine θ ?_;refine tkE 3 (λK hK=>?_);go_simp;(refine (At HP.o (a8.o.bel ι) a9.o).mono ?_;rintro f4 fs ⟨rfl,bj⟩);refine tkR hK ?_ (λhHeld=>?_)
      ·exact bel ι bj
      clear hK K;refine tkE 5 (λK hK=>?_);go_simp;(refine (At cv.o (cp.o.bel ι) cu.o).mono ?_;rintro f3 fr ⟨rfl,bi⟩);refine tkR hK ?_ (λhHeld=>?_)
      ·exact bel ι bi
      clear hK K;refine θ ?_;refine tkE 10 (λK hK=>?_);go_simp;(refine (At HP.o (a8.o.bel ι) a9.o).mono ?_;rintro f2 fq ⟨rfl,bh⟩);refine tkR hK ?_ (λhHeld=>?_)
      ·exact bel ι bh
      clear hK K;refine θ ?_;refine tkD ?_;go_wp2_with fail;have a6:=bel er.o ι;go_ret;exact⟨rfl,a6⟩
     | true =>
      have a9:=η r1;have cu:Hid (aW q 4000=true):=by rw[HQ.o];exact cx.o.1.trans r1
      have gj:Hid (∀s∈p.acNames,digP q 4000 s=digP p 4000 s):=λs hm=>by rw[HQ.o];exact cx.o.2 r1 s hm
      clear r1;go_wp2_with fail;refine tkB (λX=>Below V4 V4 X) (ad _) (λhHeld=>?_);refine θ ?_;refine tkE 3 (λK hK=>?_);go_simp;(refine (At HP.o (a8.o.bel ι) a9.o).mono ?_;rintro f4 fs ⟨rfl,bj⟩);refine tkR hK ?_ (λhHeld=>?_)
      ·exact bel ι bj
      clear hK K;refine tkE 5 (λK hK=>?_);go_simp;(refine (At cv.o (cp.o.bel ι) cu.o).mono ?_;rintro f3 fr ⟨rfl,bi⟩);refine tkR hK ?_ (λhHeld=>?_)
      ·exact bel ι bi
      clear hK K;refine θ ?_;refine tkE 10 (λK hK=>?_);go_simp;(refine (At HP.o (a8.o.bel ι) a9.o).mono ?_;rintro f2 fq ⟨rfl,bh⟩);refine tkR hK ?_ (λhHeld=>?_)
      ·exact bel ι bh
      clear hK K;refine θ ?_;refine tkE 15 (λK hK=>?_);go_simp;(refine (Bz (R5.o.mono ι) HP.o cv.o (a8.o.bel ι) (cp.o.bel ι) gj.o).mono ?_;rintro h4 hp ⟨rfl,e8⟩);refine tkR hK ?_ (λhHeld=>?_)
      ·exact bel ι e8
      clear hK K;refine θ ?_;refine tkD ?_;go_wp2_with fail;have a6:=bel er.o ι;go_ret;exact⟨rfl,a6⟩
end
