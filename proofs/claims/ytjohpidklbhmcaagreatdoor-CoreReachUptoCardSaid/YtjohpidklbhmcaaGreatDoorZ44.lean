/- Core -/
import Derived.Test.YtjohpidklbhmcaaGreatDoorZ43
import Derived.Test.YtjohpidklbhmcaaGreatDoorZ42
import Derived.Test.YtjohpidklbhmcaaGreatDoorZ41
namespace Go.Proofs.YtjohpidklbhmcaaGreatDoor
set_option linter.all false
open Go.Proofs.Tryz
open Go.RowKit Go.Maps Go.WideMaps Go.ChangeMaps
def kn {w w1:World} {g:Nat} {ty:TypeId} {cs:Array Value} (h:Hs w g ty cs) (hb:Below w w w1):Hs w1 g ty cs:=(hb.block g h.lt).trans h
def nbq (Q:Nat->Prop) (v:Value) (w:World) (k:Nat):Prop:=Q k/\k<w/\v.ownBlock≠some k
def nwq (Q:Nat->Prop) (w:World) (k:Nat):Prop:=Q k/\k<w
section
variable {Q:Nat->Prop} {v:Value} {w':World}
def sub_nbB {w:World} (h:Below w w w'):Sub (nbq Q v w) (nbq Q v w') w w':=λk hk =>
 ⟨⟨hk.1,ρ hk.2.1 h.size,hk.2.2⟩,h.block k hk.2.1⟩
def BI {w:World} (h:Below w w w'):Sub (nwq Q w) (nwq Q w') w w':=λk hk=>⟨⟨hk.1,ρ hk.2 h.size⟩,h.block k hk.2⟩
def sub_nwB {base:Nat} {w:World} (h:Below w w w'):Sub (nw base w) (nw base w') w w':=λk hk=>⟨⟨hk.1,ρ hk.2 h.size⟩,h.block k hk.2⟩
def m4 {w:World} (hv:∀g,v.ownBlock=some g->g<w.heap.size) (hb:∀k,w.heap.size<=k->Q k):Sub (nw w w') (nbq Q v w') w' w':=λk hk =>
 ⟨⟨hb k hk.1,hk.2,λe=>by have:=hv k e;have:=hk.1;omega⟩,rfl⟩
variable {w5:World} {ob:Obj}
def Cn {v':Value} {w2:World} (hg:(w2.alloc ob).grownBy w5 v.ownBlock) (hvb:v'.ownBlock=v.ownBlock\/v'.ownBlock=some (w2.alloc ob).heap.size):Sub (nbq Q v w2) (nbq Q v' w5) w2 w5:=λk hk=>by
 obtain⟨h1,h2⟩:=sub_push hg hvb k ⟨Nat.zero_le k,hk.2⟩
 exact⟨⟨hk.1,h1.2⟩,h2⟩
def m5 {w w2:World} (h:Below w w w2) (hg:(w2.alloc ob).grownBy w5 v.ownBlock) (hv:∀g,v.ownBlock=some g->w.heap.size<=g):Below w w w5:=by
 have a:=belA h ob;exact⟨hg.os.trans a.os,hg.tape.trans a.tape,hg.output.trans a.output,ψ a.size hg.size,λk hk=>(hg.block k (ρ hk a.size) (λe=>by have:=hv k e.symm;omega)).trans (a.block k hk)⟩
def sh (b s x:Int):Int:=if -9223372036854775808<=x/\x<=9223372036854775807 then wrap64 (b+wrap64 (s*x)) else -1
def sh_in {b s x:Int} (h:i64 x):sh b s x=wrap64 (b+wrap64 (s*x)):=if_pos h
def sh_i64 (b s x:Int):i64 (sh b s x):=by
 unfold sh i64;split
 ·unfold wrap64;omega
 omega
def CpL {α β:Type} (R:World->(Nat->Prop)->List Value->β->Prop) (z ty:Nat) (g:α->β) (l:List α) (Q:Nat->Prop) (j:Nat) (v:Value) (W0 wr:World):Prop:=
 ∃xs,wr.ownsRow W0 ty z v j xs/\RowG z (R wr (nbq Q v wr)) xs ((l.take j).map g)/\Below W0 W0 wr
variable {α β:Type} {W0:World}
def CpL.start (R:World->(Nat->Prop)->List Value->β->Prop) (z ty:Nat) (g:α->β) (l:List α) (Q:Nat->Prop):Hid (CpL R z ty g l Q 0 () W0 W0):=⟨[],⟨by simp,.inl ⟨rfl,rfl⟩⟩,RowG.nil _,belR _⟩
def CpL.push {R:World->(Nat->Prop)->List Value->β->Prop} {z ty:Nat} {g:α->β} {l:List α} {j:Nat} {v5:Value} {wr W2:World} {xs cs:List Value} (hto:∀{w w':World} {P P':Nat->Prop} {cs:List Value} {a:β},R w P cs a->Sub P P' w w'->R w' P' cs a) (hx:wr.ownsRow W0 ty z v j xs) (hrow:RowG z (R wr (nbq Q v wr)) xs ((l.take j).map g)) (hb:Below W0 W0 wr) (h2:Below wr wr W2) (hj:j<l) (hcs:cs=z) (hr:R W2 (nbq Q v W2) cs (g l[j])) (hown:w5.ownsRow W0 ty z v5 (j+1) (xs++cs)) (hgrow:(W2.alloc ob).grownBy w5 v.ownBlock) (hvb:v5.ownBlock=v.ownBlock\/v5.ownBlock=some (W2.alloc ob).heap.size):Hid (CpL R z ty g l Q (j+1) v5 W0 w5):=by
 refine⟨_,hown,?_,m5 (bel hb h2) hgrow (λk hk=>(hx.lt k hk).1)⟩;have e:(l.take (j+1)).map g=(l.take j).map g++[g l[j]]:=by rw[List.take_succ_eq_append_getElem hj,List.map_append];rfl
 rw[e];exact ((hrow.to λcs a x=>hto x (sub_nbB h2)).snoc hcs hr).to λcs a x=>hto x (Cn hgrow hvb)
def CpL.sl {R:World->(Nat->Prop)->List Value->β->Prop} {z ty:Nat} {g:α->β} {l:List α} {wr:World} (hto:∀{w w':World} {P P':Nat->Prop} {cs:List Value} {a:β},R w P cs a->Sub P P' w w'->R w' P' cs a) (h:CpL R z ty g l Q l v W0 wr) (hb:∀k,W0.heap.size<=k->Q k):SlR wr (nwq Q wr) z (R wr (nwq Q wr)) v (l.map g):=by
 obtain⟨q,i,d,r⟩:=h;rw[List.take_length] at d;have j:wr.ownsRow W0 ty z v (l.map g).length q:=by rw[List.length_map];exact i
 exact (d.to λcs a x=>hto x (λk hk=>⟨⟨hk.1,hk.2.1⟩,rfl⟩)).sl j (λk hk=>by have:=i.lt k hk;exact⟨hb k this.1,this.2⟩)
def NwSaid {β:Type} (R:World->(Nat->Prop)->List Value->β->Prop) (a:β) (w:World) (en:Ending) (w':World):Prop:=∃cs,en=.returned (.agg cs.toArray)/\R w' (nw w w') cs a/\Below w w w'
def NwSl {β:Type} (R:World->(Nat->Prop)->List Value->β->Prop) (z n:Nat) (l:List β) (w:World) (en:Ending) (w':World):Prop:=∃A c,en=.returned (.slice A n c)/\SlR w' (nw w w') z (R w' (nw w w')) (.slice A n c) l/\Below w w w'
structure Bx (w0:World) (tid q:Nat) (K:World->Prop) (cs:List Value) (W:World):Prop where
 hq:w0<=q
 z:q+1<=W
 t:Hs W q tid cs.toArray
 bl:Below w0 w0 W
 k:∀X,Sub (nw (q+1) W) (nw w0 X) W X->K X
section
variable {w0:World} {tid q:Nat} {K:World->Prop} {cs:List Value} {W W':World}
def Bx.f (A:Hid (Bx w0 tid q K cs W)) (i:Nat) (h:cs[i]?=some v:=by exact rfl):W.cell? ⟨q,i,none⟩=some v/\W.frozen? ⟨q,i,none⟩=false:=⟨A.t.c i (by rw[List.getElem?_toArray];exact h),Lib.frozen_of_heap A.t i⟩
def Bx.sub (_:Hid (Bx w0 tid q K cs W)) (s:Below W W W'):Sub (nw (q+1) W) (nw (q+1) W') W W':=sub_nwB s
def Bx.nk (A:Hid (Bx w0 tid q K cs W)) (s:Below W W W') {K2:World->Prop} (h:∀X,Sub (nw W W') (nw w0 X) W' X->K2 X):Hid (Bx w0 tid q (λX=>K X/\K2 X) cs W'):=by
 have a:=A.z;exact⟨A.hq,ψ a s.size,kn A.t s,bel A.bl s,λX S=>⟨A.k X (sub_tr (Bx.sub A s) S),h X (λk hk=>S k ⟨ψ a hk.1,hk.2⟩)⟩⟩
def Bx.n (A:Hid (Bx w0 tid q K cs W)) (s:Below W W W'):Hid (Bx w0 tid q K cs W'):=by
 have B:=(Bx.nk A s (K2:=λ_=>True) (λ_ _=>trivial)).o;exact⟨B.hq,B.z,B.t,B.bl,λX S=>(B.k X S).1⟩
def Bx.p (A:Hid (Bx w0 tid q K cs W)) (i:Nat) (v:Value):Hid (Bx w0 tid q K (cs.set i v) (W.setCell ⟨q,i,none⟩ v)):=by
 have a:=A.hq
 exact⟨a,by rw[dj];exact A.z,by have:=er (i:=i) (v:=v) A.t;rwa [List.setIfInBounds_toArray] at this,⟨A.bl.os,A.bl.tape,A.bl.output,by rw[dj];exact A.bl.size,λk hk=>(Below.heap_setCell _ _ _ _ (λe=>by simp at e;omega)).trans (A.bl.block k hk)⟩,
  λX S=>A.k X (sub_tr (λk hk=>⟨⟨hk.1,by rw[dj];exact hk.2⟩,Below.heap_setCell _ _ _ _ (λe=>by have:=hk.1;simp at e;omega)⟩) S)⟩
def Bx.w {cs':List Value} (A:Hid (Bx w0 tid q K cs W)) (e:cs=cs':=by exact rfl):∃X,X=W/\Hid (Bx w0 tid q K cs' X):=⟨_,rfl,by subst e;exact A⟩
def Bx.one (w:World) (t:Nat) (Z cs:List Value):Hid (Bx w t w (λ_=>True) cs ((w.alloc (.cells Z.toArray t)).setRow w cs.toArray)):=by
 refine⟨υ _,by simp,setRow_heap _ _ _ _ _ _ (Hs.new _ _ _),?_,λ_ _=>trivial⟩;have h:=belA (belR w) (.cells Z.toArray t);exact⟨h.os,h.tape,h.output,by simp,λk hk=>(setRow_other _ _ _ _ ω).trans (h.block k hk)⟩
end
set_option maxRecDepth 100000
set_option maxHeartbeats 2000000
def zR {w a:World} {B:Nat} (h:Below B w a) {g:Nat} (hg:B<=g) (i:Nat) (v:Value):Below B w (a.setCell ⟨g,i,none⟩ v):=
 ⟨h.os,h.tape,h.output,by simp[World.setCell];exact h.size,λk hk=>(Below.heap_setCell _ _ _ _ (λe=>by simp at e;omega)).trans (h.block k hk)⟩
def Ak (b s:Int) (n:Nat) (hN:n<=549755813888):∀(e:Ex) (cs:List Value) (w:World),Ex.deep e<=n->ExR w (lo w) cs e->Calls prog 56 #[.agg cs.toArray,b,s] w (NwSaid ExR (ren (sh b s) e) w):=by
 induction n with
 | zero=>intro e cs w U;cases e;rw[Ex.deep] at U;omega
 | succ n ih =>
  intro e cs w U hr;obtain⟨op,x,m,q,a,A,cap,rfl,rfl,⟨ho,hx,hm⟩,hs,ha⟩:=dJ hr;have IH:Hid (∀(i:Nat) (h:i<a.length) (cs:List Value) (w:World),ExR w (lo w) cs a[i]->Calls prog 56 #[.agg cs.toArray,b,s] w (NwSaid ExR (ren (sh b s) a[i]) w)):=λi h cs w hr=>ih ω a[i] cs w (by have:=fY a _ (ν h);rw[Ex.deep] at U;omega) hr;have cc:a.length<=549755813888:=by have:=qM a;rw[Ex.deep] at U;omega
  obtain⟨HA,HF⟩:=zd2 ha (And.intro ho (And.intro hm hs));clear ih U hN hr ha ho hm hs;obtain⟨M,r⟩:=γ ((w.alloc (.cells #[op,x,m,q,.slice A a cap] 43)).alloc (.cells #[(0:Int),(0:Int),(0:Int),.string ⟨#[]⟩,()] 43))
  have N:Hid (Hs M w 43 #[op,x,m,q,.slice A a cap]):=by rw[r];exact (Hs.new _ _ _).alloc _
  have D0:Hid (Hs M (w+1) 43 #[(0:Int),(0:Int),(0:Int),.string ⟨#[]⟩,()]):=by rw[r];exact ta _ _ _ _
  have B1:Hid (Below w w M):=by rw[r];exact ζ2
  have Z1:Hid (M.heap.size=w+2):=by show _=_;rw[r];simp
  have ao:=η r;clear r
  have a4:∃Y c2 y,(op==33)=Y/\(op==34)=c2/\Hid (i64 y/\y=(if op=33\/op=34 then sh b s x else x))/\((Y=true/\y=wrap64 (b+wrap64 (s*x)))\/(Y=false/\c2=true/\y=wrap64 (b+wrap64 (s*x)))\/(Y=false/\c2=false/\y=x)):=by
   by_cases X:op=33
   ·exact⟨true,_,sh b s x,by simpa using X,rfl,⟨sh_i64 b s x,by rw[if_pos (.inl X)]⟩,.inl ⟨rfl,sh_in hx⟩⟩
   by_cases h2:op=34
   ·exact⟨false,true,sh b s x,by simpa using X,by simpa using h2,⟨sh_i64 b s x,by rw[if_pos (.inr h2)]⟩,.inr (.inl ⟨rfl,rfl,sh_in hx⟩)⟩
   exact⟨false,false,x,by simpa using X,by simpa using h2,⟨hx,by rw[if_neg (by simp[X,h2])]⟩,.inr (.inr ⟨rfl,rfl,rfl⟩)⟩
  obtain⟨Y,c2,y,k1,k2,HY,hc⟩:=a4;have a0:=N.c 0;have a1:=N.c 1;have f1:=N.free 1;rcases hc with ⟨rfl,hy⟩|⟨rfl,rfl,hy⟩|⟨rfl,rfl,hy⟩
  all_goals
   go_enter func56,ntmps56;go_upto_region 1 with fail;rw[<-ao.o];go_upto_region 3 with fail
   first
    | (rw[<-hy];obtain⟨l,d⟩:=γ (M.setCell ⟨w,1,none⟩ (.int .i64 y))
       have C2:Hid (Hs l w 43 #[op,.int .i64 y,m,q,.slice A a cap]):=by rw[d];exact er N
       have D2:Hid (Hs l (w+1) 43 #[(0:Int),(0:Int),(0:Int),.string ⟨#[]⟩,()]):=by rw[d];exact cV D0 ω
       have B2:Hid (Below w w l):=by rw[d];exact zR B1 (υ _) _ _
       have Z2:Hid (l.heap.size=w+2):=by show _=_;rw[d,dj];exact Z1
       rw[<-d])
    | (obtain⟨l,d⟩:=γ M
       have C2:Hid (Hs l w 43 #[op,.int .i64 y,m,q,.slice A a cap]):=by rw[d,hy];exact N
       have D2:Hid (Hs l (w+1) 43 #[(0:Int),(0:Int),(0:Int),.string ⟨#[]⟩,()]):=by rw[d];exact D0
       have B2:Hid (Below w w l):=by rw[d];exact B1
       have Z2:Hid (l.heap.size=w+2):=by show _=_;rw[d];exact Z1
       rw[<-d])
   clear d a0 a1 f1 k1 k2 N D0 B1 Z1 ao;clear hy;go_wp2_with fail;have bl:=η (ExsR.to HA (ae B2));go_loopw [8,7] (λi v wr=>∃j:Nat,j<=a/\i=.int .i64 j/\Hid (CpL ExR 5 43 (ren (sh b s)) a (λk=>l.heap.size<=k) j v l wr)) (λi _ _=>a.length-(intOf i).toNat)
   case atStart=>exact⟨0,ω,rfl,CpL.start _ _ _ _ _ _⟩
   case round =>
    obtain⟨j,hj,rfl,HM⟩:=hrel;obtain⟨xs,G,T,H⟩:=HM.o;obtain⟨D,B,rfl⟩:=bU G;have b4:wr.cell? ⟨w,4,none⟩=some (.slice A a cap):=(kn C2 H).cell 4;obtain⟨L,Z,F⟩:=zd3 G T H;clear G T H HM;by_cases hlt:j<a
    ·have u1:=zT j a;obtain⟨g,cb,o1,x1,m1,s1,n1,B',c',rfl,-,p0,p1,p2,p3,p4,aj,-⟩:=BP (ExsR.to bl (ae F)) hlt;have bg:=η aj;have i0:(0:Int)<=(j:Int):=ω;have i1:(j:Int)<(a.length:Int):=ω;obtain⟨io,am,ak,al,an⟩:=info_parts BL;obtain⟨H1,H2,H3,H4⟩:=zd4 am ak al an;clear aj am ak al an;go_wp2_with (first|(go_at_call 56;refine (IH j hlt _ _ bg).mono ?_;rintro e3 W3 ⟨cs,rfl,W,J⟩;obtain⟨o2,x2,m2,s2,n2,ce,cd,rfl,-⟩:=dJ W;have bj:=η W;have bk:=η J;have bh:=η (aI L (Stp.of_below (own:=λ_=>False) J) (λ_ _ e=>e));have aq:l.heap.size<=W3:=ψ F.size J.size;clear W J)|(at_builtin;refine wpList_append_own_at _ rfl (.tmp 31) (.tmp 40) _ rfl l _ io _ _ _ underlying41 H1 H2 H3 H4 rfl π (.slice D j B) j xs rfl (m8 bh _) W3 1 1 _ rfl rfl (World.news_of_block (Hs.new _ _ _)) (by intro u hu;simp at hu;repeat (first|(subst hu;rfl)|(rcases hu with rfl|hu;rfl))) Ξ ω (BA aq _) ?_;intro vv w5 t E ad O;obtain⟨A5,c5,rfl⟩:=bU t));have HP:=CpL.push (R:=ExR) (g:=ren (sh b s)) (λh k=>ExR.to h k) L Z F bk hlt rfl (bj.to (m4 (λg hg=>(L.lt g hg).2) (λk hk=>ψ F.size hk))) t E O;clear t E ad O;go_wp2_with fail;exact⟨⟨j+1,ω,by go_num,HP⟩,by simp[intOf];omega⟩
    obtain rfl:j=a:=ω;have u1:decide ((a.length:Int)<(a.length:Int))=false:=decide_eq_false ω;have bf:=η (CpL.sl (R:=ExR) (λh k=>ExR.to h k) ⟨xs,L,Z,F⟩ (λk hk=>hk));have hC:=kn C2 F;have hD:=kn D2 F;have f4:=hC.free 4;obtain⟨HC,HD⟩:=zd2 hC hD;clear hC hD Z;go_upto_region 9 with fail;obtain⟨V,I⟩:=γ (wr.setCell ⟨w,4,none⟩ (.slice D a B))
    have CV:Hid (Hs V w 43 #[op,.int .i64 y,m,q,.slice D a B]):=by rw[I];exact er HC
    have DV:Hid (Hs V (w+1) 43 #[(0:Int),(0:Int),(0:Int),.string ⟨#[]⟩,()]):=by rw[I];exact cV HD ω
    have BV:Hid (Below w w V):=by rw[I];exact zR (bel B2 F) (υ _) _ _
    have SV:Hid (Sub (nw l wr) (nw l V) wr V):=by
     rw[I];exact λk hk=>⟨⟨hk.1,by rw[dj];exact hk.2⟩,Below.heap_setCell _ _ _ _ (λe=>by have:=hk.1;have:=Z2.o;simp at e;omega)⟩
    rw[<-I];have HV:=η I;clear I f4 b4;have av:Hid ((V.setRow (w+1) #[op,.int .i64 y,m,q,.slice D a B]).heap[w.heap.size+1]?=some (.cells #[op,.int .i64 y,m,q,.slice D a B] 43 (0,0))):=setRow_heap _ _ _ _ _ _ DV;have BO:Hid (Below w w (V.setRow (w+1) #[op,.int .i64 y,m,q,.slice D a B])):=⟨BV.os,BV.tape,BV.output,by simp;exact BV.size,λk hk=>(setRow_other _ _ _ _ ω).trans (BV.block k hk)⟩
    have SO:Hid (Sub (nw l V) (nw w (V.setRow (w+1) #[op,.int .i64 y,m,q,.slice D a B])) V (V.setRow (w+1) #[op,.int .i64 y,m,q,.slice D a B])):=λk hk =>
     ⟨⟨by have:=hk.1;have:=Z2.o;omega,by simp;exact hk.2⟩,setRow_other _ _ _ _ (by have:=hk.1;have:=Z2.o;omega)⟩
    go_wp2_with (first|(refine wpList_load_row rfl 43 _ rfl w rfl 43 _ _ _ CV underlying43 rfl Δ ?_)|(refine wpList_store_row rfl 43 _ _ rfl (w+1) #[op,.int .i64 y,m,q,.slice D a B] rfl rfl 43 _ DV Δ rfl Ρ ?_));refine bodyPost_ret (results_cell_row results56 _ _ (w+1) 43 _ _ _ rfl av underlying43 rfl Δ) rfl ⟨_,rfl,?_,BO⟩;have ai:=(bf.to' (R':=ExR _ _) (sub_tr SV SO) (λ_ _ h=>ExR.to h (sub_tr SV SO)))
    rw[ren,<-HY.o.2,lU];have a8:(a.map (ren (sh b s))).length=a:=List.length_map _;rw[<-a8] at ai ⊢;exact ExR.of ⟨HF.1,HY.1,HF.2.1⟩ HF.2.2 ai
def res_any (b s:Int) (n:Nat) (hN:n<=549755813888):∀(l:List St) (A:Option Addr) (cap:Nat) (w:World),St.deeps l+1<=n->StsR w (lo w) (.slice A l cap) l->Calls prog 57 #[.slice A l cap,b,s] w (NwSl StR 9 l (l.map (renS (sh b s))) w):=by
 induction n with
 | zero=>intro l A cap w hn;omega
 | succ n ih =>
  intro l A cap w hn ha;have IH:Hid (∀(i:Nat) (h:i<l.length) (l':List St),St.deeps l'+1<=St.deep l[i]->∀(A:Option Addr) (cap:Nat) (w:World),StsR w (lo w) (.slice A l' cap) l'->Calls prog 57 #[.slice A l' cap,b,s] w (NwSl StR 9 l' (l'.map (renS (sh b s))) w)):=λi h l' hl A cap w hr=>ih ω l' A cap w (by have:=il l _ (ν h);omega) hr;have eo:l.length<=549755813888:=by have:=jh l;omega
  have dh:Hid (∀i (h:i<l.length),St.deep l[i]<=549755813888):=λi h=>by have:=il l _ (ν h);omega
  have HA:=η ha;obtain⟨io,a2,a0,a1,a3⟩:=info_parts BZ;obtain⟨H1,H2,H3,H4⟩:=zd4 a2 a0 a1 a3;obtain⟨jo,ay,aw,ax,az⟩:=info_parts BL;obtain⟨J1,J2,J3,J4⟩:=zd4 ay aw ax az;clear ih hn hN ha a2 a0 a1 a3 ay aw ax az;go_enter func57,ntmps57;go_wp2_with fail;go_loopw [8,7] (λi v wr=>∃j:Nat,j<=l/\i=.int .i64 j/\Hid (CpL StR 9 120 (renS (sh b s)) l (λk=>w.heap.size<=k) j v w wr)) (λi _ _=>l.length-(intOf i).toNat)
  case atStart=>exact⟨0,ω,rfl,CpL.start _ _ _ _ _ _⟩
  case round =>
   obtain⟨j,hj,rfl,HM⟩:=hrel;by_cases hlt:j<l
   ·have u1:=zT j l;obtain⟨ys,a,z,d⟩:=HM.o;obtain⟨Ar,cr,rfl⟩:=bU a;obtain⟨g,em,cs,rfl,-,hr,-,J⟩:=SlR.at (StsR.to HA (ae d)) hlt;obtain⟨op,x,m,s1,u,r,N,O,T,A0,c0,A1,c1,A2,c2,A3,c3,rfl,e,⟨ho,hx,hm⟩,hs,D,am,an,a4,a9⟩:=kA hr;have p0:=J 0 _ rfl;have p1:=J 1 _ rfl;have p2:=J 2 _ rfl;have p3:=J 3 _ rfl;have p4:=J 4 _ rfl;have p5:=J 5 _ rfl;have p6:=J 6 _ rfl;have p7:=J 7 _ rfl;have p8:=J 8 _ rfl;rw[Nat.add_zero] at p0;have a5:=dh j hlt;rw[e,St.deep] at a5;have en:r.length<=549755813888:=by have:=qM r;omega
    have dg:Hid (∀i (h:i<r.length),Ex.deep r[i]<=549755813888):=λi h=>by have:=fY r _ (ν h);omega
    obtain⟨E,HN⟩:=zd2 e (And.intro (And.intro ho (And.intro hx hm)) (And.intro hs D));obtain⟨HX,c9,df,dk⟩:=zd4 am an a4 a9;obtain⟨aa,db,HB⟩:=zd3 a z d;have i0:(0:Int)<=(j:Int):=ω;have i1:(j:Int)<(l.length:Int):=ω;clear a z d HM hr J e ho hx hm hs D am an a4 a9 a5;have HZ:=Bx.one wr 120 [.int .i64 0,.int .i64 0,.int .i64 0,.string ⟨#[]⟩,.string ⟨#[]⟩,.slice none 0 0,.slice none 0 0,.slice none 0 0,.slice none 0 0] [.int .i64 op,.int .i64 x,.int .i64 m,.string s1,.string u,.slice A0 r c0,.slice A1 N c1,.slice A2 O c2,.slice A3 T c3];go_upto_region 6 with (refine wpList_store_row rfl 120 _ _ rfl wr #[op,x,m,s1,u,.slice A0 r c0,.slice A1 N c1,.slice A2 O c2,.slice A3 T c3] rfl rfl 120 #[(0:Int),(0:Int),(0:Int),.string ⟨#[]⟩,.string ⟨#[]⟩,(),(),(),()] (Hs.new _ _ _) Δ rfl Ρ ?_);obtain⟨WB,ba,BB⟩:=Bx.w HZ;rw[<-ba];clear ba HZ p0 p1 p2 p3 p4 p5 p6 p7 p8;obtain⟨F,rfl⟩:=γ wr
    have c7:=η (ExsR.to HX (ae BB.bl));go_wp2_with fail;go_loopw [11,10] (λk v2 wq=>∃q:Nat,q<=r/\k=.int .i64 q/\Hid (CpL ExR 5 43 (ren (sh b s)) r (λk=>WB.heap.size<=k) q v2 WB wq)) (λk _ _=>r.length-(intOf k).toNat)
    case atStart=>exact⟨0,ω,rfl,CpL.start _ _ _ _ _ _⟩
    case round =>
     obtain⟨q,hq,rfl,bi⟩:=hrel;obtain⟨zs,a,z,d⟩:=bi.o;obtain⟨Aq,cq,rfl⟩:=bU a;have B2:=Bx.n BB d;have b5:=Bx.f B2 5;obtain⟨H,U,I⟩:=zd3 a z d;clear a z d bi;by_cases W:q<r
     ·have u2:=zT q r;obtain⟨g',dx,o1,x1,m1,s2,n1,B',c',rfl,-,p0,p1,p2,p3,p4,av,-⟩:=BP (ExsR.to c7 (ae I)) W;have dc:=η av;have j0:(0:Int)<=(q:Int):=ω;have j1:(q:Int)<(r.length:Int):=ω;clear av;go_wp2_with (first|(go_at_call 56;refine (Ak b s _ (υ _) _ _ _ (dg q W) dc).mono ?_;rintro e3 W3 ⟨cs,rfl,Y,V⟩;obtain⟨o2,x2,m2,s3,n2,eq,ep,rfl,-⟩:=dJ Y;have ab:=η Y;have dj:=η V;have de:=η (aI H (Stp.of_below (own:=λ_=>False) V) (λ_ _ e=>e));have bo:WB.heap.size<=W3:=ψ I.size V.size;clear Y V)|(at_builtin;refine wpList_append_own_at _ rfl (.tmp 29) (.tmp 38) _ rfl WB _ jo _ _ _ underlying41 J1 J2 J3 J4 rfl π (.slice Aq q cq) q zs rfl (m8 de _) W3 1 1 _ rfl rfl (World.news_of_block (Hs.new _ _ _)) (by intro u D;simp at D;repeat (first|(subst D;rfl)|(rcases D with rfl|D;rfl))) Ξ ω (BA bo _) ?_;intro vv w5 y B M G;obtain⟨A5,c5,rfl⟩:=bU y));have HP:=CpL.push (R:=ExR) (g:=ren (sh b s)) (λh k=>ExR.to h k) H U I dj W rfl (ab.to (m4 (λg hg=>(H.lt g hg).2) (λk hk=>ψ I.size hk))) y B G;clear y B M G;go_wp2_with fail;exact⟨⟨q+1,ω,by go_num,HP⟩,by simp[intOf];omega⟩
     obtain rfl:q=r:=ω;have u2:decide ((r.length:Int)<(r.length:Int))=false:=decide_eq_false ω;have ao:=CpL.sl (R:=ExR) (λh k=>ExR.to h k) ⟨zs,H,U,I⟩ (λk hk=>hk);have B3:=Bx.nk BB I (K2:=λX=>SlR X (nw F X) 5 (ExR X (nw F X)) (.slice Aq r cq) (r.map (ren (sh b s)))) (λX S=>ao.to' S (λ_ _ h=>ExR.to h S));have f5:=(Bx.f B3 5).2;clear ao;go_upto_region 12 with fail;obtain⟨W3,be,B4⟩:=Bx.w (Bx.p B3 5 (.slice Aq r cq));rw[<-be];clear be f5 b5 B3 B2 U H I;have b6:=Bx.f B4 6;have bh:=η (StsR.to c9 (ae B4.bl));go_upto_region 13 with (go_at_call 57;refine (IH j hlt N (by rw[E.o,St.deep];omega) A1 c1 _ bh).mono ?_;rintro e4 W4 ⟨A4,c4,rfl,au,a8⟩;have B5:=Bx.nk B4 a8 (K2:=λX=>SlR X (nw F X) 9 (StR X (nw F X)) (.slice A4 N c4) (N.map (renS (sh b s)))) (λX S=>au.to' S (λ_ _ h=>StR.to h S));have f6:=Bx.f B5 6;clear au a8);obtain⟨W5,bd,B6⟩:=Bx.w (Bx.p B5 6 (.slice A4 N c4));rw[<-bd];clear bd f6 b6 B5 B4 bh;have b7:=Bx.f B6 7;have bg:=η (StsR.to df (ae B6.bl));go_upto_region 14 with (go_at_call 57;refine (IH j hlt O (by rw[E.o,St.deep];omega) A2 c2 _ bg).mono ?_;rintro e6 W6 ⟨A6,c6,rfl,aq,a7⟩;have B7:=Bx.nk B6 a7 (K2:=λX=>SlR X (nw F X) 9 (StR X (nw F X)) (.slice A6 O c6) (O.map (renS (sh b s)))) (λX S=>aq.to' S (λ_ _ h=>StR.to h S));have f7:=Bx.f B7 7;clear aq a7)
     obtain⟨W7,bc,B8⟩:=Bx.w (Bx.p B7 7 (.slice A6 O c6));rw[<-bc];clear bc f7 b7 B7 B6 bg;have b8:=Bx.f B8 8;have bf:=η (StsR.to dk (ae B8.bl));go_upto_region 15 with (go_at_call 57;refine (IH j hlt T (by rw[E.o,St.deep];omega) A3 c3 _ bf).mono ?_;rintro e8 W8 ⟨A8,c8,rfl,ap,a6⟩;have B9:=Bx.nk B8 a6 (K2:=λX=>SlR X (nw F X) 9 (StR X (nw F X)) (.slice A8 T c8) (T.map (renS (sh b s)))) (λX S=>ap.to' S (λ_ _ h=>StR.to h S));have f8:=Bx.f B9 8;clear ap a6);obtain⟨Z,bb,L⟩:=Bx.w (Bx.p B9 8 (.slice A8 T c8));rw[<-bb];clear bb f8 b8 B9 B8 bf;obtain⟨⟨⟨⟨-,k1⟩,k2⟩,k3⟩,k4⟩:=L.k Z (λk hk=>⟨⟨by have:=hk.1;have:=L.hq;omega,hk.2⟩,rfl⟩)
     have ab:Hid (StR Z (nw F Z) [.int .i64 op,.int .i64 x,.int .i64 m,.string s1,.string u,.slice Aq r cq,.slice A4 N c4,.slice A6 O c6,.slice A8 T c8] (renS (sh b s) l[j])):=by
      show StR _ _ _ _;rw[E.o,renS,lU,eR,eR,eR];exact StR.of HN.1 HN.2.1 HN.2.2 k1 k2 k3 k4
     obtain⟨di,dd⟩:=zd2 L.bl (aI aa (Stp.of_below (own:=λ_=>False) L.bl) (λ_ _ e=>e));have bn:w.heap.size<=Z:=ψ HB.size L.bl.size;clear k1 k2 k3 k4;go_wp2_with (first|(refine wpList_load_row rfl 120 _ rfl F rfl 120 _ _ _ L.t underlying120 rfl Δ ?_)|(at_builtin;refine wpList_append_own_at _ rfl (.tmp 60) (.tmp 62) _ rfl w _ io _ _ _ underlying62 H1 H2 H3 H4 rfl π (.slice Ar j cr) j ys rfl (m8 dd _) Z 1 1 _ rfl rfl (World.news_of_block (Hs.new _ _ _)) (by intro u D;simp at D;repeat (first|(subst D;rfl)|(rcases D with rfl|D;rfl))) Ξ ω (BA bn _) ?_;intro vv w5 y B M G;obtain⟨A5,c5,rfl⟩:=bU y));have HP:=CpL.push (R:=StR) (g:=renS (sh b s)) (λh k=>StR.to h k) aa db HB di hlt rfl (ab.to (m4 (λg hg=>(aa.lt g hg).2) (λk hk=>ψ HB.size hk))) y B G;clear y B M G;go_wp2_with fail;exact⟨⟨j+1,ω,by go_num,HP⟩,by simp[intOf];omega⟩
   obtain rfl:j=l:=ω;have u1:decide ((l.length:Int)<(l.length:Int))=false:=decide_eq_false ω;obtain⟨ys,a,z,d⟩:=HM.o;obtain⟨Ar,cr,rfl⟩:=bU a;obtain⟨da,HB⟩:=zd2 (CpL.sl (R:=StR) (λh k=>StR.to h k) ⟨ys,a,z,d⟩ (λk hk=>hk)) d;clear a z d HM;go_wp2_with fail;go_ret;exact⟨_,_,rfl,da,HB⟩
variable {W:World}
def zG {w:World} (h:Below w w W) (hQ:∀k,k<w.heap.size->Q k) (hv:∀g,v.ownBlock=some g->w.heap.size<=g):Sub (lo w) (nbq Q v W) w W:=λk hk =>
 ⟨⟨hQ k hk,ρ hk h.size,λe=>by have:=hv k e;unfold lo at hk;omega⟩,h.block k hk⟩
def qBlk (w WO:World) (k:Nat):Prop:=k<w\/WO<k
def AH {w WO:World} {i:Nat} (hq:w.heap.size<=WO):Sub (nwq (qBlk w WO) W) (nwq (qBlk w WO) (W.setCell ⟨WO,i,none⟩ v)) W (W.setCell ⟨WO,i,none⟩ v):=λk hk =>
 ⟨⟨hk.1,by rw[dj];exact hk.2⟩,Below.heap_setCell _ _ _ _ (λe=>by have:=hk.1;unfold qBlk at this;simp at e;omega)⟩
def sQlk (w:World) (k:Nat):Prop:=k<w\/w+2<=k
def sub_qnb {w WO:World} (hq:w.heap.size+2<=WO) (hv:∀g,v.ownBlock=some g->w.heap.size<=g/\g<WO.heap.size):Sub (nwq (qBlk w WO) W) (nbq (sQlk w) v W) W W:=λk hk =>
 ⟨⟨by have:=hk.1;unfold qBlk at this;unfold sQlk;omega,hk.2,λe=>by have:=hv k e;have:=hk.1;unfold qBlk at this;omega⟩,rfl⟩theorem cell_al {w:World} {a:Addr} {v:Value} {o:Obj} (h:w.cell? a=some v):(w.alloc o).cell? a=some v:=belC ζ1 h
structure ShPre (p:Pg):Prop where
 funs:p.funs.length<=549755813888
 fun_:∀i (h:i<p.funs.length),Ex.deep p.funs[i].body<=549755813888
 acts:p.actors.length<=549755813888
 vars:∀i (h:i<p.actors.length),p.actors[i].vars.length<=549755813888
 var:∀i (h:i<p.actors.length),∀k (hk:k<p.actors[i].vars.length),Ex.deep (p.actors[i].vars[k]).init<=549755813888
 ons:∀i (h:i<p.actors.length),p.actors[i].on.length<=549755813888
 on:∀i (h:i<p.actors.length),∀k (hk:k<p.actors[i].on.length),St.deeps (p.actors[i].on[k]).body+1<=549755813888
variable {A0 A1 A2 A3:Option Addr} {q0 q1 q2 q3:Nat}
def By {b s:Int} {p:Pg} {w:World} (hp:ShPre p) (h:PgAt w A0 A1 A2 A3 q0 q1 q2 q3 p):Calls prog 14 #[.agg #[.slice A0 p.types q0,.slice A1 p.effects q1,.slice A2 p.funs q2,.slice A3 p.actors q3],b,s] w λe w'=>∃F2 F3 r2 r3,e=.returned (.agg #[.slice A0 p.types q0,.slice A1 p.effects q1,.slice F2 p.funs r2,.slice F3 p.actors r3])/\SlR w' (lo w') 11 (FnR w' (lo w')) (.slice F2 p.funs r2) (p.funs.map (yp (sh b s)))/\SlR w' (lo w') 7 (AcR w' (lo w')) (.slice F3 p.actors r3) (p.actors.map (ym (sh b s)))/\Below w w w':=by
 obtain⟨bk,d0⟩:=zd2 hp h;have hd:=hp.funs;have he:=hp.acts;obtain⟨io,dv,dt,du,dw⟩:=info_parts ri;obtain⟨I1,I2,I3,I4⟩:=zd4 dv dt du dw;obtain⟨jo,dr,dp,dq,ds⟩:=info_parts BG;obtain⟨J1,J2,J3,J4⟩:=zd4 dr dp dq ds;obtain⟨ko,dm,dk,dl,dn⟩:=info_parts Cm;obtain⟨K1,K2,K3,K4⟩:=zd4 dm dk dl dn;obtain⟨mo,dh,df,dg,di⟩:=info_parts Cl;obtain⟨M1,M2,M3,M4⟩:=zd4 dh df dg di;clear hp h dv dt du dw dr dp dq ds dm dk dl dn dh df dg di;obtain⟨W1,a5⟩:=γ ((w.alloc (.cells #[.slice A0 p.types q0,.slice A1 p.effects q1,.slice A2 p.funs q2,.slice A3 p.actors q3] 27)).alloc (.cells #[(),(),(),()] 27))
 have C1:Hid (Hs W1 w 27 #[.slice A0 p.types q0,.slice A1 p.effects q1,.slice A2 p.funs q2,.slice A3 p.actors q3]):=by rw[a5];exact (Hs.new _ _ _).alloc _
 have D1:Hid (Hs W1 (w+1) 27 #[(),(),(),()]):=by rw[a5];exact ta _ _ _ _
 have B1:Hid (Below w w W1):=by rw[a5];exact ζ2
 have Z1:Hid (W1.heap.size=w+2):=by show _=_;rw[a5];simp
 have dz:=η a5;clear a5;go_enter func14,ntmps14;go_upto_region 1 with fail;rw[<-dz.o];clear dz;go_wp2_with fail;go_loopw [8,7] (λi v wr=>∃j:Nat,j<=p.funs/\i=.int .i64 j/\Hid (CpL FnR 11 45 (yp (sh b s)) p.funs (sQlk w) j v W1 wr)) (λi _ _=>p.funs.length-(intOf i).toNat)
 case atStart=>exact⟨0,ω,rfl,CpL.start _ _ _ _ _ _⟩
 case round =>
  obtain⟨j,hj,rfl,HM⟩:=hrel;obtain⟨ys,G,J,y⟩:=HM.o;obtain⟨Ar,cr,rfl⟩:=bU G;have b2:wr.cell? ⟨w,2,none⟩=some (.slice A2 p.funs q2):=(kn C1 y).cell 2;obtain⟨ag,a7,HB,M⟩:=zd4 G J y (bel B1 y);clear G J y HM;by_cases hlt:j<p.funs
  ·have u1:=zT j p.funs;obtain⟨g,et,cs,rfl,-,hr,-,E⟩:=SlR.at d0.f hlt;obtain⟨A,q,k,s1,u,B,c,o,x,m,r,e,D,d,rfl,an,af,ao,bf,ap⟩:=jB hr;have p0:=belC M (E 0 _ rfl);have p1:=belC M (E 1 _ rfl);have p2:=belC M (E 2 _ rfl);have p3:=belC M (E 3 _ rfl);have p4:=belC M (E 4 _ rfl);have p5:=belC M (E 5 _ rfl);have p6:=belC M (E 6 _ rfl);have p7:=belC M (E 7 _ rfl);have p8:=belC M (E 8 _ rfl);have p9:=belC M (E 9 _ rfl);have es:=belC M (E 10 _ rfl);rw[Nat.add_zero] at p0;have i0:(0:Int)<=(j:Int):=ω;have i1:(j:Int)<(p.funs.length:Int):=ω;have bm:=η (bk.fun_ j hlt);obtain⟨cq,cu,cy,cp,bo⟩:=zd5 an af ao bf ap;clear hr E an af ao bf ap;have HZ:=Bx.one wr 45 [.string ⟨#[]⟩,.slice none 0 0,.int .i64 0,.string ⟨#[]⟩,.slice none 0 0,.int .i64 0,.int .i64 0,.int .i64 0,.int .i64 0,.string ⟨#[]⟩,.slice none 0 0] [.string p.funs[j].name,.slice A p.funs[j].params.length q,.int .i64 k,.string s1,.slice B u c,.int .i64 p.funs[j].slots,.int .i64 o,.int .i64 x,.int .i64 m,.string r,.slice D e d]
   go_upto_region 6 with (refine wpList_store_row rfl 45 _ _ rfl wr #[.string p.funs[j].name,.slice A p.funs[j].params.length q,.int .i64 k,s1,.slice B u c,.int .i64 p.funs[j].slots,o,x,m,r,.slice D e d] rfl rfl 45 #[.string ⟨#[]⟩,(),(0:Int),.string ⟨#[]⟩,(),(0:Int),(0:Int),(0:Int),(0:Int),.string ⟨#[]⟩,()] (Hs.new _ _ _) Δ rfl Ρ ?_);obtain⟨WB,bh,BB⟩:=Bx.w HZ;rw[<-bh];clear bh HZ p0 p1 p2 p3 p4 p5 p6 p7 p8 p9 es b2;have b6:=(Bx.f BB 6).1;have b7:=(Bx.f BB 7).1;have b8:=(Bx.f BB 8).1;have b9:=(Bx.f BB 9).1;have ex:=(Bx.f BB 10).1;have au:=η (ExR.to bo (ae (bel M BB.bl)));go_upto_region 7 with (go_at_call 56;refine (Ak b s _ (υ _) _ _ _ bm au).mono ?_;rintro e3 W3 ⟨cs,rfl,ai,aq⟩;obtain⟨o2,x2,m2,r2,n2,D2,d2,rfl,-⟩:=dJ ai;have Y:=Bx.nk BB aq (K2:=λX=>ExR X (nw wr X) [.int .i64 o2,.int .i64 x2,.int .i64 m2,.string r2,.slice D2 n2 d2] (ren (sh b s) p.funs[j].body)) (λX S=>ExR.to ai S);have g6:=Bx.f Y 6;have g7:=Bx.f Y 7;have g8:=Bx.f Y 8;have g9:=Bx.f Y 9;have ev:=Bx.f Y 10;clear ai aq);obtain⟨W4,ar,L⟩:=Bx.w (Bx.p (Bx.p (Bx.p (Bx.p (Bx.p Y 6 (o2:Vl)) 7 (x2:Vl)) 8 (m2:Vl)) 9 (.string r2)) 10 (.slice D2 n2 d2));rw[<-ar];clear ar g6 g7 g8 g9 ev b6 b7 b8 b9 ex Y au
   have a1:Hid (FnR W4 (nbq (sQlk w) (.slice Ar j cr) W4) [.string p.funs[j].name,.slice A p.funs[j].params.length q,.int .i64 k,.string s1,.slice B u c,.int .i64 p.funs[j].slots,.int .i64 o2,.int .i64 x2,.int .i64 m2,.string r2,.slice D2 n2 d2] (yp (sh b s) p.funs[j])):=by
    obtain⟨-,k1⟩:=L.k W4 (λk H=>⟨⟨by have:=H.1;have:=L.hq;omega,H.2⟩,rfl⟩);have S1:=zG (Q:=sQlk w) (v:=.slice Ar j cr) (bel M L.bl) (λ_ h=>.inl h) (λg hg=>by have:=(ag.lt g hg).1;have:=Z1.o;omega);exact⟨.slice A p.funs[j].params.length q,[.int .i64 k,.string s1,.slice B u c],[.int .i64 o2,.int .i64 x2,.int .i64 m2,.string r2,.slice D2 n2 d2],rfl,cq,cu,FldsR.to cy S1,TyR.to cp S1,ExR.to k1 (m4 (λg hg=>(ag.lt g hg).2) (λk H=>.inr (by have:=Z1.o;have:=HB.size;omega)))⟩
   obtain⟨a3,a0⟩:=zd2 L.bl (aI ag (Stp.of_below (own:=λ_=>False) L.bl) (λ_ _ e=>e));have ak:W1.heap.size<=W4:=ψ HB.size L.bl.size;go_wp2_with (first|(refine wpList_load_row rfl 45 _ rfl wr rfl 45 _ _ _ L.t underlying45 rfl Δ ?_)|(at_builtin;refine wpList_append_own_at _ rfl (.tmp 37) (.tmp 39) _ rfl W1 _ io _ _ _ underlying24 I1 I2 I3 I4 rfl π (.slice Ar j cr) j ys rfl (m8 a0 _) W4 1 1 _ rfl rfl (World.news_of_block (Hs.new _ _ _)) (by intro u O;simp at O;repeat (first|(subst O;rfl)|(rcases O with rfl|O;rfl))) Ξ ω (BA ak _) ?_;intro vv w5 l F T I;obtain⟨A5,c5,rfl⟩:=bU l));have HP:=CpL.push (R:=FnR) (g:=yp (sh b s)) (λh k=>FnR.to h k) ag a7 HB a3 hlt rfl a1 l F I;clear l F T I;go_wp2_with fail;exact⟨⟨j+1,ω,by go_num,HP⟩,by simp[intOf];omega⟩
  obtain rfl:j=p.funs:=ω;have u1:decide ((p.funs.length:Int)<(p.funs.length:Int))=false:=decide_eq_false ω;obtain⟨FSt,C2,D2⟩:=zd3 (CpL.sl (R:=FnR) (λh k=>FnR.to h k) ⟨ys,ag,a7,HB⟩ (λk H=>.inr (by have:=Z1.o;omega))) (kn C1 HB) (kn D1 HB);have Z2:Hid (w.heap.size+2<=wr):=by show _<=_;have:=Z1.o;have:=HB.size;omega
  go_wp2_with fail;clear C1 D1 HB a7 ag b2 u1 hlt;obtain⟨W2,rfl⟩:=γ wr
  go_loopw [11,10] (λi v wr=>∃j:Nat,j<=p.actors/\i=.int .i64 j/\Hid (CpL AcR 7 54 (ym (sh b s)) p.actors (sQlk w) j v W2 wr)) (λi _ _=>p.actors.length-(intOf i).toNat)
  case atStart=>exact⟨0,ω,rfl,CpL.start _ _ _ _ _ _⟩
  case round =>
   obtain⟨j,hj,rfl,HM⟩:=hrel;obtain⟨ys,G,J,y⟩:=HM.o;obtain⟨Aw,cw,rfl⟩:=bU G;have b3:wr.cell? ⟨w,3,none⟩=some (.slice A3 p.actors q3):=(kn C2 y).cell 3;obtain⟨ag,a7,HB,aj⟩:=zd4 G J y (bel M y);clear G J y HM;by_cases hlt:j<p.actors
   ·have u1:=zT j p.actors;obtain⟨g,et,cs,rfl,-,hr,-,E⟩:=SlR.at d0.a hlt;obtain⟨A,q,B,c,D,d,rfl,an,af,ao,dd,de⟩:=jD hr;have p0:=belC aj (E 0 _ rfl);have p1:=belC aj (E 1 _ rfl);have p2:=belC aj (E 2 _ rfl);have p3:=belC aj (E 3 _ rfl);have p4:=belC aj (E 4 _ rfl);have p5:=belC aj (E 5 _ rfl);have p6:=belC aj (E 6 _ rfl);rw[Nat.add_zero] at p0;have i0:(0:Int)<=(j:Int):=ω;have i1:(j:Int)<(p.actors.length:Int):=ω;obtain⟨cq,cu,cy,e7,fb⟩:=zd5 an af ao dd de;obtain⟨e9,e8,fd,fc⟩:=zd4 (bk.vars j hlt) (bk.var j hlt) (bk.ons j hlt) (bk.on j hlt);have ha:=e9.o;have hb:=fd.o;clear hr E an af ao dd de;have HZ:=Bx.one wr 54 [.string ⟨#[]⟩,.slice none 0 0,.int .i64 0,.slice none 0 0,.slice none 0 0,.int .i64 0,.int .i64 0] [.string p.actors[j].name,.slice A p.actors[j].params.length q,.int .i64 p.actors[j].slots,.slice B p.actors[j].vars.length c,.slice D p.actors[j].on.length d,.int .i64 p.actors[j].policy,.int .i64 p.actors[j].most];go_upto_region 13 with (refine wpList_store_row rfl 54 _ _ rfl wr #[.string p.actors[j].name,.slice A p.actors[j].params.length q,.int .i64 p.actors[j].slots,.slice B p.actors[j].vars.length c,.slice D p.actors[j].on.length d,.int .i64 p.actors[j].policy,.int .i64 p.actors[j].most] rfl rfl 54 #[.string ⟨#[]⟩,(),(0:Int),(),(),(0:Int),(0:Int)] (Hs.new _ _ _) Δ rfl Ρ ?_)
    obtain⟨WB,bh,BB⟩:=Bx.w HZ;rw[<-bh];clear bh HZ p0 p1 p2 p3 p4 p5 p6 b3;have ca:Hid (w.heap.size<=wr):=by show _<=_;have:=Z2.o;have:=HB.size;omega
    have fg:=η (bel aj BB.bl);obtain⟨WO,rfl⟩:=γ wr
    go_wp2_with fail;go_loopw [14,13] (λi v wr=>∃k:Nat,k<=p.actors[j].vars.length/\i=.int .i64 k/\Hid (CpL VrR 9 61 (yu (sh b s)) p.actors[j].vars (qBlk w WO) k v WB wr)) (λi _ _=>p.actors[j].vars.length-(intOf i).toNat)
    case atStart=>exact⟨0,ω,rfl,CpL.start _ _ _ _ _ _⟩
    case round =>
     obtain⟨k,H,rfl,HN⟩:=hrel;obtain⟨zs,G,J,y⟩:=HN.o;obtain⟨Ar,cr,rfl⟩:=bU G;have BN:=Bx.n BB y;have b3:=(Bx.f BN 3).1;obtain⟨N,az,a2,Z⟩:=zd4 G J y (bel fg y);clear G J y HN;by_cases ax:k<p.actors[j].vars.length
     ·have u2:=zT k (p.actors[j].vars.length);obtain⟨g1,d8,cs,rfl,-,hr,-,E⟩:=SlR.at e7 ax;obtain⟨k1,s1,u,E1,c1,o,x,m,r,e,E2,d1,rfl,af,bf,ap⟩:=mu hr;have p0:=belC Z (E 0 _ rfl);have p1:=belC Z (E 1 _ rfl);have p2:=belC Z (E 2 _ rfl);have p3:=belC Z (E 3 _ rfl);have p4:=belC Z (E 4 _ rfl);have p5:=belC Z (E 5 _ rfl);have p6:=belC Z (E 6 _ rfl);have p7:=belC Z (E 7 _ rfl);have p8:=belC Z (E 8 _ rfl);rw[Nat.add_zero] at p0;have j0:(0:Int)<=(k:Int):=ω;have j1:(k:Int)<(p.actors[j].vars.length:Int):=ω;obtain⟨ct,cp,bo,bm⟩:=zd4 af bf ap (e8 k ax);clear hr E af bf ap;have HZ:=Bx.one wr 61 [.string ⟨#[]⟩,.int .i64 0,.string ⟨#[]⟩,.slice none 0 0,.int .i64 0,.int .i64 0,.int .i64 0,.string ⟨#[]⟩,.slice none 0 0] [.string p.actors[j].vars[k].name,.int .i64 k1,.string s1,.slice E1 u c1,.int .i64 o,.int .i64 x,.int .i64 m,.string r,.slice E2 e d1];go_upto_region 18 with (refine wpList_store_row rfl 61 _ _ rfl wr #[.string p.actors[j].vars[k].name,k1,s1,.slice E1 u c1,o,x,m,r,.slice E2 e d1] rfl rfl 61 #[.string ⟨#[]⟩,(0:Int),.string ⟨#[]⟩,(),(0:Int),(0:Int),(0:Int),.string ⟨#[]⟩,()] (Hs.new _ _ _) Δ rfl Ρ ?_);obtain⟨WC,bg,BC⟩:=Bx.w HZ;rw[<-bg];clear bg HZ p0 p1 p2 p3 p4 p5 p6 p7 p8 b3;have b4:=(Bx.f BC 4).1;have b5:=(Bx.f BC 5).1
      have b6:=(Bx.f BC 6).1;have b7:=(Bx.f BC 7).1;have b8:=(Bx.f BC 8).1;have au:=η (ExR.to bo (ae (bel Z BC.bl)));go_upto_region 19 with (go_at_call 56;refine (Ak b s _ (υ _) _ _ _ bm au).mono ?_;rintro e3 W3 ⟨cs,rfl,ai,aq⟩;obtain⟨o2,x2,m2,r2,n2,D3,d3,rfl,-⟩:=dJ ai;have Y:=Bx.nk BC aq (K2:=λX=>ExR X (nw wr X) [.int .i64 o2,.int .i64 x2,.int .i64 m2,.string r2,.slice D3 n2 d3] (ren (sh b s) p.actors[j].vars[k].init)) (λX S=>ExR.to ai S);have g4:=Bx.f Y 4;have g5:=Bx.f Y 5;have g6:=Bx.f Y 6;have g7:=Bx.f Y 7;have g8:=Bx.f Y 8;clear ai aq);obtain⟨W4,ar,L⟩:=Bx.w (Bx.p (Bx.p (Bx.p (Bx.p (Bx.p Y 4 (o2:Vl)) 5 (x2:Vl)) 6 (m2:Vl)) 7 (.string r2)) 8 (.slice D3 n2 d3));rw[<-ar];clear ar g4 g5 g6 g7 g8 b4 b5 b6 b7 b8 Y au;have ci:Hid (WO.heap.size+1<=wr):=by show _<=_;have:=BB.z;have:=a2.size;omega
      have a1:Hid (VrR W4 (nbq (qBlk w WO) (.slice Ar k cr) W4) [.string p.actors[j].vars[k].name,.int .i64 k1,.string s1,.slice E1 u c1,.int .i64 o2,.int .i64 x2,.int .i64 m2,.string r2,.slice D3 n2 d3] (yu (sh b s) p.actors[j].vars[k])):=by
       obtain⟨-,k1⟩:=L.k W4 (λk H=>⟨⟨by have:=H.1;have:=L.hq;omega,H.2⟩,rfl⟩);have S1:=zG (Q:=qBlk w WO) (v:=.slice Ar k cr) (bel Z L.bl) (λ_ h=>.inl h) (λg hg=>by have:=(N.lt g hg).1;have:=BB.z;have:=ca.o;omega);exact⟨[_,_,_],[.int .i64 o2,.int .i64 x2,.int .i64 m2,.string r2,.slice D3 n2 d3],rfl,ct,TyR.to cp S1,ExR.to k1 (m4 (λg hg=>(N.lt g hg).2) (λk H=>.inr (by have:=ci.o;omega)))⟩
      obtain⟨a3,a0⟩:=zd2 L.bl (aI N (Stp.of_below (own:=λ_=>False) L.bl) (λ_ _ e=>e));have ak:WB.heap.size<=W4:=ψ a2.size L.bl.size;go_wp2_with (first|(refine wpList_load_row rfl 61 _ rfl wr rfl 61 _ _ _ L.t underlying61 rfl Δ ?_)|(at_builtin;refine wpList_append_own_at _ rfl (.tmp 71) (.tmp 73) _ rfl WB _ ko _ _ _ underlying51 K1 K2 K3 K4 rfl π (.slice Ar k cr) k zs rfl (m8 a0 _) W4 1 1 _ rfl rfl (World.news_of_block (Hs.new _ _ _)) (by intro u O;simp at O;repeat (first|(subst O;rfl)|(rcases O with rfl|O;rfl))) Ξ ω (BA ak _) ?_;intro vv w5 l F T I;obtain⟨A5,c5,rfl⟩:=bU l));have HP:=CpL.push (R:=VrR) (g:=yu (sh b s)) (λh k=>VrR.to h k) N az a2 a3 ax rfl a1 l F I;clear l F T I;go_wp2_with fail;exact⟨⟨k+1,ω,by go_num,HP⟩,by simp[intOf];omega⟩
     obtain rfl:k=p.actors[j].vars.length:=ω;have u2:decide ((p.actors[j].vars.length:Int)<(p.actors[j].vars.length:Int))=false:=decide_eq_false ω;have e0:=η (CpL.sl (R:=VrR) (λh k=>VrR.to h k) ⟨zs,N,az,a2⟩ (λk H=>.inr (by have:=BB.z;omega)));go_wp2_with fail;clear N az b3 u2;obtain⟨W5,rfl⟩:=γ wr
     go_loopw [17,16] (λi v wr=>∃k:Nat,k<=p.actors[j].on.length/\i=.int .i64 k/\Hid (CpL HdR 4 64 (yv (sh b s)) p.actors[j].on (qBlk w WO) k v W5 wr)) (λi _ _=>p.actors[j].on.length-(intOf i).toNat)
     case atStart=>exact⟨0,ω,rfl,CpL.start _ _ _ _ _ _⟩
     case round =>
      obtain⟨k,H,rfl,HN⟩:=hrel;obtain⟨zs,G,J,y⟩:=HN.o;obtain⟨As,a6,rfl⟩:=bU G;have BM:=Bx.n BN y;have b4:=(Bx.f BM 4).1;obtain⟨N,az,bn,a8⟩:=zd4 G J y (bel Z y);clear G J y HN;by_cases ax:k<p.actors[j].on.length
      ·have u3:=zT k (p.actors[j].on.length);obtain⟨g1,d8,cs,rfl,-,hr,-,E⟩:=SlR.at fb ax;obtain⟨E1,c1,E2,d1,rfl,an,af,ao,ap⟩:=mB hr;have p0:=belC a8 (E 0 _ rfl);have p1:=belC a8 (E 1 _ rfl);have p2:=belC a8 (E 2 _ rfl);have p3:=belC a8 (E 3 _ rfl);rw[Nat.add_zero] at p0;have j0:(0:Int)<=(k:Int):=ω;have j1:(k:Int)<(p.actors[j].on.length:Int):=ω;obtain⟨fa,ct,fe,bo,bm⟩:=zd5 an af ao ap (fc k ax);clear hr E an af ao ap;have HZ:=Bx.one wr 64 [.string ⟨#[]⟩,.slice none 0 0,.int .i64 0,.slice none 0 0] [.string p.actors[j].on[k].msg,.slice E1 p.actors[j].on[k].params.length c1,.int .i64 p.actors[j].on[k].slots,.slice E2 p.actors[j].on[k].body.length d1];go_upto_region 25 with (refine wpList_store_row rfl 64 _ _ rfl wr #[.string p.actors[j].on[k].msg,.slice E1 p.actors[j].on[k].params.length c1,.int .i64 p.actors[j].on[k].slots,.slice E2 p.actors[j].on[k].body.length d1] rfl rfl 64 #[.string ⟨#[]⟩,(),(0:Int),()] (Hs.new _ _ _) Δ rfl Ρ ?_);obtain⟨WC,bg,BC⟩:=Bx.w HZ;rw[<-bg];clear bg HZ p0 p1 p2 p3 b4;have b3:=(Bx.f BC 3).1;have au:=η (StsR.to bo (ae (bel a8 BC.bl)))
       go_upto_region 26 with (go_at_call 57;refine (res_any b s _ (υ _) _ _ _ _ bm au).mono ?_;rintro e3 W3 ⟨D3,d3,rfl,ai,aq⟩;have Y:=Bx.nk BC aq (K2:=λX=>SlR X (nw wr X) 9 (StR X (nw wr X)) (.slice D3 p.actors[j].on[k].body.length d3) (p.actors[j].on[k].body.map (renS (sh b s)))) (λX S=>ai.to' S (λ_ _ h=>StR.to h S));have g3:=Bx.f Y 3;clear ai aq);obtain⟨W4,ar,L⟩:=Bx.w (Bx.p Y 3 (.slice D3 p.actors[j].on[k].body.length d3));rw[<-ar];clear ar g3 b3 Y au;have ci:Hid (WO.heap.size+1<=wr):=by show _<=_;have:=BB.z;have:=a2.size;have:=bn.size;omega
       have a1:Hid (HdR W4 (nbq (qBlk w WO) (.slice As k a6) W4) [.string p.actors[j].on[k].msg,.slice E1 p.actors[j].on[k].params.length c1,.int .i64 p.actors[j].on[k].slots,.slice D3 p.actors[j].on[k].body.length d3] (yv (sh b s) p.actors[j].on[k])):=by
        obtain⟨-,k1⟩:=L.k W4 (λk H=>⟨⟨by have:=H.1;have:=L.hq;omega,H.2⟩,rfl⟩);have S1:=zG (Q:=qBlk w WO) (v:=.slice As k a6) (bel a8 L.bl) (λ_ h=>.inl h) (λg hg=>by have:=(N.lt g hg).1;have:=BB.z;have:=ca.o;have:=a2.size;omega);have S2:=m4 (Q:=qBlk w WO) (v:=.slice As k a6) (w:=wr) (w':=W4) (λg hg=>(N.lt g hg).2) (λk H=>.inr (by have:=ci.o;omega));exact⟨_,_,rfl,fa,ct,FldsR.to fe S1,k1.to' S2 (λ_ _ h=>StR.to h S2)⟩
       obtain⟨a3,a0⟩:=zd2 L.bl (aI N (Stp.of_below (own:=λ_=>False) L.bl) (λ_ _ e=>e));have ak:W5.heap.size<=W4:=ψ bn.size L.bl.size;go_wp2_with (first|(refine wpList_load_row rfl 64 _ rfl wr rfl 64 _ _ _ L.t underlying64 rfl Δ ?_)|(at_builtin;refine wpList_append_own_at _ rfl (.tmp 93) (.tmp 95) _ rfl W5 _ mo _ _ _ underlying52 M1 M2 M3 M4 rfl π (.slice As k a6) k zs rfl (m8 a0 _) W4 1 1 _ rfl rfl (World.news_of_block (Hs.new _ _ _)) (by intro u O;simp at O;repeat (first|(subst O;rfl)|(rcases O with rfl|O;rfl))) Ξ ω (BA ak _) ?_;intro vv w5 l F T I;obtain⟨A5,c5,rfl⟩:=bU l));have HP:=CpL.push (R:=HdR) (g:=yv (sh b s)) (λh k=>HdR.to h k) N az bn a3 ax rfl a1 l F I;clear l F T I;go_wp2_with fail;exact⟨⟨k+1,ω,by go_num,HP⟩,by simp[intOf];omega⟩
      obtain rfl:k=p.actors[j].on.length:=ω;have u3:decide ((p.actors[j].on.length:Int)<(p.actors[j].on.length:Int))=false:=decide_eq_false ω;have e6:=η (CpL.sl (R:=HdR) (λh k=>HdR.to h k) ⟨zs,N,az,bn⟩ (λk H=>.inr (by have:=BB.z;have:=a2.size;omega)));have SV:=BI (Q:=qBlk w WO) bn;have g3:=Bx.f BM 3;go_upto_region 28 with fail;clear N az b4;obtain⟨W7,cj,B7⟩:=Bx.w (Bx.p BM 3 (.slice Ar p.actors[j].vars.length cr));have S7:Hid (Sub (nwq (qBlk w WO) wr) (nwq (qBlk w WO) W7) wr W7):=by rw[cj];exact AH ca
      rw[<-cj];clear cj g3;have g4:=Bx.f B7 4;go_upto_region 29 with fail;obtain⟨W6,ck,B6⟩:=Bx.w (Bx.p B7 4 (.slice As p.actors[j].on.length a6));have S6:Hid (Sub (nwq (qBlk w WO) wr) (nwq (qBlk w WO) W6) wr W6):=by rw[ck];exact sub_tr S7 (AH ca)
      rw[<-ck];clear ck g4
      have a1:Hid (AcR W6 (nbq (sQlk w) (.slice Aw j cw) W6) [.string p.actors[j].name,.slice A p.actors[j].params.length q,.int .i64 p.actors[j].slots,.slice Ar p.actors[j].vars.length cr,.slice As p.actors[j].on.length a6,.int .i64 p.actors[j].policy,.int .i64 p.actors[j].most] (ym (sh b s) p.actors[j])):=by
       have hv:∀g,(Value.slice Aw j cw).ownBlock=some g->w.heap.size<=g/\g<WO.heap.size:=λg hg=>by have:=ag.lt g hg;have:=Z2.o;omega
       have S1:=zG (Q:=sQlk w) (v:=.slice Aw j cw) (bel aj B6.bl) (λ_ h=>.inl h) (λg hg=>(hv g hg).1);have S7:=sub_qnb (w:=w) (WO:=WO) (W:=W6) (v:=.slice Aw j cw) (by have:=Z2.o;have:=HB.size;omega) hv;have dx:=sub_tr (sub_tr SV S6) S7;have dy:=sub_tr S6 S7;refine⟨_,_,_,rfl,cq,cu,FldsR.to cy S1,?_,?_⟩
       ·have e1:(ym (sh b s) p.actors[j]).vars=p.actors[j].vars.map (yu (sh b s)):=rfl;rw[e1];have:=e0.to' dx (λ_ _ h=>VrR.to h dx);exact this
       have e1:(ym (sh b s) p.actors[j]).on=p.actors[j].on.map (yv (sh b s)):=rfl;rw[e1];have:=e6.to' dy (λ_ _ h=>HdR.to h dy);exact this
      obtain⟨a3,a0⟩:=zd2 B6.bl (aI ag (Stp.of_below (own:=λ_=>False) B6.bl) (λ_ _ e=>e));have ak:W2.heap.size<=W6:=ψ HB.size B6.bl.size;go_wp2_with (first|(refine wpList_load_row rfl 54 _ rfl WO rfl 54 _ _ _ B6.t underlying54 rfl Δ ?_)|(at_builtin;refine wpList_append_own_at _ rfl (.tmp 101) (.tmp 103) _ rfl W2 _ jo _ _ _ underlying25 J1 J2 J3 J4 rfl π (.slice Aw j cw) j ys rfl (m8 a0 _) W6 1 1 _ rfl rfl (World.news_of_block (Hs.new _ _ _)) (by intro u O;simp at O;repeat (first|(subst O;rfl)|(rcases O with rfl|O;rfl))) Ξ ω (BA ak _) ?_;intro vv w5 l F T I;obtain⟨A5,c5,rfl⟩:=bU l));have HP:=CpL.push (R:=AcR) (g:=ym (sh b s)) (λh k=>AcR.to h k) ag a7 HB a3 hlt rfl a1 l F I;clear l F T I;go_wp2_with fail;exact⟨⟨j+1,ω,by go_num,HP⟩,by simp[intOf];omega⟩
   obtain rfl:j=p.actors:=ω;have u1:decide ((p.actors.length:Int)<(p.actors.length:Int))=false:=decide_eq_false ω;have AS:=η (CpL.sl (R:=AcR) (λh k=>AcR.to h k) ⟨ys,ag,a7,HB⟩ (λk H=>.inr (by have:=Z2.o;omega)));have hC:=kn C2 HB;have hD:=kn D2 HB;have f2:=hC.free 2;obtain⟨fi,HC,HD⟩:=zd3 (FSt.to' (BI HB) (λ_ _ h=>FnR.to h (BI HB))) hC hD;clear hC hD;have e2:=HC.c 2;go_upto_region 31 with fail;obtain⟨V,hV⟩:=γ (wr.setCell ⟨w,2,none⟩ (.slice Ar p.funs cr))
   have CV:Hid (Hs V w 27 #[.slice A0 p.types q0,.slice A1 p.effects q1,.slice Ar p.funs cr,.slice A3 p.actors q3]):=by rw[hV];exact er HC
   have DV:Hid (Hs V (w+1) 27 #[(),(),(),()]):=by rw[hV];exact cV HD ω
   have BV:Hid (Below w w V):=by rw[hV];exact zR aj (υ _) _ _
   have SV:Hid (∀k,k≠w.heap.size->V.heap[k]?=wr.heap[k]?):=by rw[hV];exact λk H=>Below.heap_setCell _ _ _ _ (λe=>H e)
   have ZV:Hid (V.heap.size=wr):=by show _=_;rw[hV,dj]
   rw[<-hV];clear hV f2 b3 e2;have f3:=CV.free 3;have e3:=CV.c 3;go_upto_region 32 with fail;obtain⟨U,hU⟩:=γ (V.setCell ⟨w,3,none⟩ (.slice Aw p.actors cw))
   have CU:Hid (Hs U w 27 #[.slice A0 p.types q0,.slice A1 p.effects q1,.slice Ar p.funs cr,.slice Aw p.actors cw]):=by rw[hU];exact er CV
   have DU:Hid (Hs U (w+1) 27 #[(),(),(),()]):=by rw[hU];exact cV DV ω
   have BU:Hid (Below w w U):=by rw[hU];exact zR BV (υ _) _ _
   have SU:Hid (∀k,k≠w.heap.size->U.heap[k]?=wr.heap[k]?):=by rw[hU];exact λk H=>(Below.heap_setCell _ _ _ _ (λe=>H e)).trans (SV k H)
   have ZU:Hid (U.heap.size=wr):=by show _=_;rw[hU,dj];exact ZV
   rw[<-hU];clear hU f3 e3;have el:Hid ((U.setRow (w+1) #[.slice A0 p.types q0,.slice A1 p.effects q1,.slice Ar p.funs cr,.slice Aw p.actors cw]).heap[w.heap.size+1]?=some (.cells #[.slice A0 p.types q0,.slice A1 p.effects q1,.slice Ar p.funs cr,.slice Aw p.actors cw] 27 (0,0))):=setRow_heap _ _ _ _ _ _ DU;have BO:Hid (Below w w (U.setRow (w+1) #[.slice A0 p.types q0,.slice A1 p.effects q1,.slice Ar p.funs cr,.slice Aw p.actors cw])):=⟨BU.os,BU.tape,BU.output,by simp;exact BU.size,λk H=>(setRow_other _ _ _ _ ω).trans (BU.block k H)⟩
   have SO:Hid (Sub (nwq (sQlk w) wr) (lo (U.setRow (w+1) #[.slice A0 p.types q0,.slice A1 p.effects q1,.slice Ar p.funs cr,.slice Aw p.actors cw])) wr (U.setRow (w+1) #[.slice A0 p.types q0,.slice A1 p.effects q1,.slice Ar p.funs cr,.slice Aw p.actors cw])):=λk H =>
    ⟨by unfold lo;simp;rw[ZU.o];exact H.2,(setRow_other _ _ _ _ (by have:=H.1;unfold sQlk at this;omega)).trans (SU k (by have:=H.1;unfold sQlk at this;omega))⟩
   go_wp2_with (first|(refine wpList_load_row rfl 27 _ rfl w rfl 27 _ _ _ CU underlying27 rfl Δ ?_)|(refine wpList_store_row rfl 27 _ _ rfl (w+1) #[.slice A0 p.types q0,.slice A1 p.effects q1,.slice Ar p.funs cr,.slice Aw p.actors cw] rfl rfl 27 _ DU Δ rfl Ρ ?_));refine bodyPost_ret (results_cell_row results14 _ _ (w+1) 27 _ _ _ rfl el underlying27 rfl Δ) rfl ⟨_,_,_,_,rfl,?_,?_,BO⟩
   ·exact fi.to' SO (λ_ _ h=>FnR.to h SO)
   exact AS.to' SO (λ_ _ h=>AcR.to h SO)
mutual
theorem Ah (φ:Int->Int):∀(e:Ex) (d:Int),szEx d (ren φ e)=szEx d e
 | .mk op n m s a,d=>by rw[ren,szEx,szEx,zS φ a]
theorem zS (φ:Int->Int):∀(l:List Ex) (d:Int),fc d (rens φ l)=fc d l
 | [],d=>by rw[rens]
 | x::l,d=>by rw[rens,fc,fc,Ah φ x,zS φ l]
end
mutual
theorem szSt_ren (φ:Int->Int):∀(e:St) (d:Int),szSt d (renS φ e)=szSt d e
 | .mk op n m s u xs h e a,d=>by rw[renS,szSt,szSt,zS,zE φ h,zE φ e,zE φ a]
theorem zE (φ:Int->Int):∀(l:List St) (d:Int),eZ d (lX φ l)=eZ d l
 | [],d=>by rw[lX]
 | x::l,d=>by rw[lX,eZ,eZ,szSt_ren φ x,zE φ l]
end
theorem AG {α:Type} (f:α->Nat):∀(l l':List α),sumN f (l++l')=sumN f l+sumN f l'
 | [],l'=>by rw[List.nil_append,sumN,Nat.zero_add]
 | x::l,l'=>by rw[List.cons_append,sumN,sumN,AG f l,Nat.add_assoc]
theorem AD {α:Type} (f:α->Nat):∀l:List α,sumN f l.reverse=sumN f l
 | []=>rfl
 | x::l=>by rw[List.reverse_cons,AG,AD f l,sumN,sumN,sumN];omega
theorem zJ {α β:Type} (f:β->Nat) (f':α->Nat) (g:α->β) (h:∀x,f (g x)=f' x):∀l:List α,sumN f (l.map g)=sumN f' l
 | []=>rfl
 | x::l=>by rw[List.map_cons,sumN,sumN,h,zJ f f' g h l]
def BR (φ:Int->Int) (f:Fn):szFn (yp φ f)=szFn f:=by unfold szFn yp;simp only[Ah]
def BS (φ:Int->Int) (a:Ac):szAc (ym φ a)=szAc a:=by
 unfold szAc ym;simp only;rw[zJ szVr szVr (yu φ) (λv=>by unfold szVr yu;simp only[Ah]),zJ szHd szHd (yv φ) (λh=>by unfold szHd yv ek;simp only[<-eR,zE])]
mutual
theorem Bt:∀e:Ex,Ex.deep e<=cEx e
 | .mk _ _ _ s a=>by rw[Ex.deep,cEx];have:=Bs a;omega
theorem Bs:∀l:List Ex,Ex.deeps l<=cExs l
 | []=>υ _
 | x::l=>by rw[Ex.deeps,cExs];have:=Bt x;have:=Bs l;omega
end
mutual
theorem sdeep_c:∀e:St,St.deep e<=cSt e
 | .mk _ _ _ s u xs h e a=>by rw[St.deep,cSt];have:=Bs xs;have:=Bo h;have:=Bo e;have:=Bo a;omega
theorem Bo:∀l:List St,St.deeps l<=cSts l
 | []=>υ _
 | x::l=>by rw[St.deeps,cSts];have:=sdeep_c x;have:=Bo l;omega
end
theorem Bl {α:Type} {f:α->Nat} (hf:∀x,1<=f x):∀l:List α,l.length<=sumN f l
 | []=>Nat.zero_le _
 | x::l=>by rw[sumN,δ];have:=hf x;have:=Bl hf l;omega
theorem Bn {α:Type} {f:α->Nat}:∀(l:List α) (i:Nat) (h:i<l),f l[i]<=sumN f l
 | [],i,h=>by simp at h
 | x::l,0,_=>by rw[sumN];exact Nat.le_add_right _ _
 | x::l,i+1,h=>by rw[sumN];have:=Bn (f:=f) l i (by simpa using h);simp only[List.getElem_cons_succ];omega
def sh_pre {p:Pg} (h:cPg p<=1048576):ShPre p:=by
 unfold cPg at h;have j:∀i (hi:i<p.funs.length),cFn p.funs[i]<=1048576:=λi hi=>by have:=Bn (f:=cFn) p.funs i hi;omega
 have d:∀i (hi:i<p.actors.length),cAc p.actors[i]<=1048576:=λi hi=>by have:=Bn (f:=cAc) p.actors i hi;omega
 refine⟨?_,λi hi=>?_,?_,λi hi=>?_,λi hi k hk=>?_,λi hi=>?_,λi hi k hk=>?_⟩
 ·have:=Bl (f:=cFn) (λx=>by unfold cFn;omega) p.funs;omega
 ·have a:=j i hi;unfold cFn at a;have:=Bt p.funs[i].body;omega
 ·have:=Bl (f:=cAc) (λx=>by unfold cAc;omega) p.actors;omega
 ·have a:=d i hi;unfold cAc at a;have:=Bl (f:=cVr) (λx=>by unfold cVr;omega) p.actors[i].vars;omega
 ·have a:=d i hi;unfold cAc at a;have l:=Bn (f:=cVr) p.actors[i].vars k hk;have g:cVr (p.actors[i].vars[k])<=1048576:=ω;unfold cVr at g;have:=Bt (p.actors[i].vars[k]).init;omega
 ·have a:=d i hi;unfold cAc at a;have:=Bl (f:=cHd) (λx=>by unfold cHd;omega) p.actors[i].on;omega
 have a:=d i hi;unfold cAc at a;have l:=Bn (f:=cHd) p.actors[i].on k hk;have g:cHd (p.actors[i].on[k])<=1048576:=ω;unfold cHd at g;have:=Bo (p.actors[i].on[k]).body;omega
structure BPre (p:Pg):Prop where
 fit:Fit p 4000
 len:(hX p).length<=400000
 dig:aW p 4000=true->DigOk p
 rd:aW p 4000=true->p.rd
 run:aW p 4000=true->∀a∈p.actors,(je p a).length<=1000000
def Bw {p:Pg} (h:szPg p<=4000):BPre p:=
 ⟨py h,AU h,λhr=>zf (zc h) hr,λhr=>rd_ok (zc h) hr (uK h) (sz_tdeep h) π,λhr a ha=>AR h (zf (zc h) hr) ha⟩
section
variable {p:Pg} {W:World} {A0 A1 A2 A3:Option Addr} {q0 q1 q2 q3:Nat} (hp:BPre p) (h:PgAt W A0 A1 A2 A3 q0 q1 q2 q3 p)
include hp h
theorem At {r:Bool} (hr:aW p 4000=r):Calls prog 11 #[.agg #[.slice A0 p.types q0,.slice A1 p.effects q1,.slice A2 p.funs q2,.slice A3 p.actors q3]] W λe w'=>e=.returned (r:Vl)/\Below W W w':=by
 subst hr;exact dl h hp.fit
end
def m0 {p:Pg} (h:PgAt W A0 A1 A2 A3 q0 q1 q2 q3 p) (hb:szPg p<=4000000000000) {r:Bool} (hr:decide (szPg p<=4000)=r):Calls prog 8 #[.agg #[.slice A0 p.types q0,.slice A1 p.effects q1,.slice A2 p.funs q2,.slice A3 p.actors q3]] W (aE r W):=by
 subst hr;exact iR h hb
def b_digN {p:Pg} (hp:BPre p) (h:PgAt W A0 A1 A2 A3 q0 q1 q2 q3 p) (hR:ShaT.Rounds W) {s:ByteArray} (hs:s.size<=maxLen) {l:List Nat} (hl:digP p 4000 s.data.toList=l):Calls prog 12 #[.agg #[.slice A0 p.types q0,.slice A1 p.effects q1,.slice A2 p.funs q2,.slice A3 p.actors q3],s] W λe w'=>e=.returned (.agg (ShaT.u8s l))/\Below W W w':=by
 subst hl;exact oS h hp.fit hR hp.dig hs hp.run
def Bz {p q:Pg} {w:World} {B0 B1 B2 B3:Option Addr} {r0 r1 r2 r3:Nat} (hR:ShaT.Rounds w) (hp:BPre p) (hq:BPre q) (h:PgAt w A0 A1 A2 A3 q0 q1 q2 q3 p) (h':PgAt w B0 B1 B2 B3 r0 r1 r2 r3 q) (hD:∀s∈p.acNames,digP q 4000 s=digP p 4000 s):Calls prog 15 #[.agg #[.slice A0 p.types.length q0,.slice A1 p.effects.length q1,.slice A2 p.funs.length q2,.slice A3 p.actors.length q3],.agg #[.slice B0 q.types.length r0,.slice B1 q.effects.length r1,.slice B2 q.funs.length r2,.slice B3 q.actors.length r3]] w (aE true w):=by
 have al:p.actors.length<=1000000:=hp.fit.small.actors;obtain⟨u,l⟩:=γ ((w.alloc (.cells #[.slice A0 p.types.length q0,.slice A1 p.effects.length q1,.slice A2 p.funs.length q2,.slice A3 p.actors.length q3] 27)).alloc (.cells #[.slice B0 q.types.length r0,.slice B1 q.effects.length r1,.slice B2 q.funs.length r2,.slice B3 q.actors.length r3] 27))
 have C1:Hid (Hs u w.heap.size 27 #[.slice A0 p.types.length q0,.slice A1 p.effects.length q1,.slice A2 p.funs.length q2,.slice A3 p.actors.length q3]):=by rw[l];exact (Hs.new _ _ _).alloc _
 have D1:Hid (Hs u (w.heap.size+1) 27 #[.slice B0 q.types.length r0,.slice B1 q.effects.length r1,.slice B2 q.funs.length r2,.slice B3 q.actors.length r3]):=by rw[l];exact ta _ _ _ _
 have t:Hid (Below w.heap.size w u):=by rw[l];exact ζ2
 have F:=η l;obtain⟨HR,HP,HQ,U,T,Y⟩:=zd6 (hR.mono t.o) hp hq (h.bel t.o) (h'.bel t.o) hD;clear l hR hp hq h h' hD;go_enter func15,ntmps15;go_upto_region 1 with (fail);rw[<-F.o];clear F;go_wp2_with fail;go_loopw [5] (λi wr=>∃j:Nat,j<=p.actors.length/\i=.int .i64 j/\Hid (Below u.heap.size u wr)) (λi _=>p.actors.length-(intOf i).toNat)
 case atStart=>exact⟨0,ω,rfl,belR _⟩
 case round =>
  obtain⟨j,hj,rfl,r⟩:=hrel;obtain⟨I,Z⟩:=zd2 (aH C1.o r.o) (aH D1.o r.o);have b3:=I.o.c 3;by_cases hlt:j<p.actors.length
  ·have u1:=zT j p.actors.length;obtain⟨E,R,O⟩:=zd3 (U.o.bel r.o) (T.o.bel r.o) (HR.o.mono r.o);obtain⟨g,x,cs,rfl,-,M,-,N⟩:=SlR.at E.o.a hlt;obtain⟨A,qq,B,c,D,d,rfl,-,y,-⟩:=jD M;have J:=N 0 _ rfl;rw[Nat.add_zero] at J;have i0:(0:Int)<=(j:Int):=ω;have i1:(j:Int)<(p.actors.length:Int):=ω;have G:=η y;obtain⟨v,k⟩:∃z,digP p 4000 p.actors[j].name.data.toList=z:=⟨_,rfl⟩
   have X:=η k;have V:Hid (digP q 4000 p.actors[j].name.data.toList=v):=by show _=_;rw[Y.o _ (List.mem_map.2 ⟨p.actors[j],ν hlt,rfl⟩),k]
   have kd:∀W,(binOp .neq 34 (.agg (ShaT.u8s v)) (.agg (ShaT.u8s v))).run prog W=.ok (.bool false) W:=λW=>by rw[vg (by rw[<-k];exact ml _ _ _) (by rw[<-k];exact ml _ _ _) (beq_self_eq_true v) W];rfl
   obtain⟨H1,H2⟩:=zd2 I.o Z.o;have am:∀d os,(Sort.grow (redrawn wr d) os).cell? ⟨w.heap.size,3,none⟩=some (.slice (some ⟨g,x,none⟩) p.actors.length q3):=λd os=>belC (below_regrown wr d os) b3;have aj:∀d os,(Sort.grow (redrawn wr d) os).cell? ⟨g,x+j*7,none⟩=some (.string p.actors[j].name):=λd os=>belC (below_regrown wr d os) J;clear k M N y I Z;go_upto_region 4 with (fail);try simp only[Act.put]
   refine wp_region_quiet_below (by kernel_rfl) (by kernel_rfl) ?_
   repeat (first
    | (go_big_quiet_want;refine dh 27 _ rfl w.heap.size rfl 27 _ _ _ (eL H1.o) underlying27 rfl (by kernel_rfl) ?_;go_frame;go_big_quiet_on)
    | (go_big_quiet_want;refine dh 27 _ rfl (w.heap.size+1) rfl 27 _ _ _ (eL H2.o) underlying27 rfl (by kernel_rfl) ?_;go_frame;go_big_quiet_on)
    | go_big_quiet_step (first
     | (go_at_call 12;with_reducible exact Calls.regrown_of (b_digN HP.o (E.o.bel (below_regrown _ _ _)) (O.o.mono (below_regrown _ _ _)) G.o X.o))
     | (go_at_call 12;with_reducible exact Calls.regrown_of (b_digN HQ.o (R.o.bel (below_regrown _ _ _)) (O.o.mono (below_regrown _ _ _)) G.o V.o))))
   refine wpQuiet_nil ?_;intro _ L;obtain⟨⟨dq,ak⟩,H⟩:=L;subst H;go_wp2_with fail;exact⟨⟨j+1,ω,by go_num,bel r.o (below_regrown _ _ _)⟩,by simp[intOf];omega⟩
  have u1:=zF j p.actors.length;go_wp2_with fail;go_ret;exact⟨rfl,bel t.o r.o⟩
end
end Go.Proofs.YtjohpidklbhmcaaGreatDoor
