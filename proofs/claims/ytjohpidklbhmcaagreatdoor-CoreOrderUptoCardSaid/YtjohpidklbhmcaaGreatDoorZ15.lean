/- Core -/
import Derived.Test.YtjohpidklbhmcaaGreatDoorZ10
import Derived.Deep.AppendLies
import Derived.Deep.CutBlock
namespace Go.Proofs.YtjohpidklbhmcaaGreatDoor
set_option linter.all false
open Proofs.Tryz RowKit Maps WideMaps ChangeMaps
set_option maxRecDepth 100000
set_option maxHeartbeats 2000000
section
section
variable {W:À} {own:Nat->Prop} {mb sb:Nat} {c:CB} {p:Pg} {sc:Sc} {n:Nat}
section
variable {cs:List Value}
def hasAe (IH:xG c p mb n) (h:Env W own mb sb c p sc) (ho:ScOk p sc) {e:Ex} (hd:Ex.deep e<=n) (hr:ExR W (im own W) cs e):
 Calls prog 170 #[c.b,sb,cs.toArray] W.drew (rK W own mb sb sc (aa p n sc e none)):=
 (fk IH hd (h.bel (ad W)) ho (hr.to (sof (ad W)).sub)).mono λ_ _ hx=>fV hx (ad W)
def hasBe (IH:xG c p mb n) (h:Env W own mb sb c p sc) (ho:ScOk p sc) {e:Ex} (hd:Ex.deep e<=n) (hr:ExR W (im own W) cs e):
 Calls prog 170 #[c.b,sb,cs.toArray] ((W.alloc (.cells z3 40)).drew) (rJ W own mb sb sc (aa p n sc e none)):=
 have B:Below W W ((W.alloc (.cells z3 40)).drew):=belA (ad W) _
 (fk IH hd (h.plus B (υ _) Θ) ho (hr.to (aV B (υ _)))).mono λ_ _ hx=>fg hx h.mb.2
end
end
set_option maxRecDepth 1000000 in
def zfPair {p:Prop} (h:p:=by
 obtain⟨U,bk,HD,L,HO⟩:=zd5 IH hF hd ho he.mb.1;have bx:=he.mb.2;have Z:gc≠mb:=λe=>hg.2 (by rw[e];exact he.mb.1);have aq:gk≠mb:=λe=>hh.2 (by rw[e];exact he.mb.1);have i0:0<kids.length:=ω;have i1:1<kids.length:=ω;have j0:(0:Int)<(kids.length:Int):=ω;have j1:(1:Int)<(kids.length:Int):=ω
 first
  | guard_hyp kk0:True
    have HV:Hid (gd (aa p n) sc dB kids=match aa p n sc kids[0] none with|none=>false|some t=>dB t&&isE (aa p n) sc kids[1] t):=by
     match kids,hl with
      | [a,b],_=>rfl
  | have HV:Hid (gd (aa p n) sc cX kids=match aa p n sc kids[0] none with|none=>false|some t=>cX t&&isE (aa p n) sc kids[1] t):=by
     match kids,hl with
      | [a,b],_=>rfl
 obtain⟨D,H,X,_⟩:=κ w #[op,x,m,s,.slice A kids cap] 43
 have ar:Hs D w 43 (ex5 op x m s A kids cap):=by rw[H];exact Hs.new _ _ _
 obtain⟨aj,ai,BB,k,aw,bj⟩:=zd6 ar (he.bel X) X (ExsR.to hx (sof (own:=own) X).sub) (belC X hgc) (belC X hgk);have bw:w.heap.size+1<=D:=by rw[H];simp
 have bh:=η H;clear IH hF hd he ho hx hgc hgk hg hh hl ar X H;go_in;go_wp2_with fail;rw[<-bh.o];have c1:=stpC (mb:=mb) aw Z;have b4:=stpC (mb:=mb) (aj.c 4) Φ;obtain⟨g,T,o1,x1,m1,s1,a1,B1,au,rfl,hg,e1,z,y,v,r,q,F⟩:=aQ k i0;have f:g≠mb:=λe=>hg.2 (by rw[e];exact HO);simp only[Nat.zero_mul,Nat.add_zero] at z y v r q;replace z:=stpC z f;replace y:=stpC y f;replace v:=stpC v f;replace r:=stpC r f;replace q:=stpC q f;have HR:=η F;clear F e1;obtain⟨r1,ap⟩:=γ (aa p n sc kids[0] none)
 have i:=η ap;clear ap;go_cut [7,8] (λv1 v2 W=>Hid (Got D own mb sb sc r1 v1 v2 W))
 case first =>
  go_region_held3 (λW=>Stm mb D W) (first|exact bq _ _|exact smDr _ _|exact l|exact smA ι _|exact (smA (Stm.refl _ _) _).trans (smDr _ _)|exact smS l (υ _) ω _ _ _ _ _)
   (first|(go_at_call 170;refine (hasBe U ai L (HD _ (ν i0)) HR).mono ?_;rw[<-i.o];rintro e3 w3 ⟨k3,s3,A3,n3,af,rfl,l,G,B⟩;obtain⟨z0,z1,z2,q0,q1,q2⟩:=G.facts)|(go_at_call 170;refine (hasAe U ai L (HD _ (ν i0)) HR).mono ?_;rw[<-i.o];rintro e3 w3 ⟨k3,s3,A3,n3,af,rfl,l,B⟩))
  all_goals
   go_wp2;go_meet;first|exact gotA l B|exact gotB l ω HO G B
 case rest =>
 clear c1 b4 z y v r q HR;obtain⟨l,tb,k3,s3,A3,n3,af,rfl,bv,G,rfl,B⟩:=hcut.o;obtain⟨j,bi,av⟩:=zd3 l G B;clear hcut l G B;have bu:D.heap.size<=wc:=j.size;obtain⟨y0,y1,y2,_,_,_⟩:=bi.facts;have Y:tb≠mb:=ω;replace y0:=stpC (mb:=mb) y0 Y;replace y1:=stpC (mb:=mb) y1 Y;replace y2:=stpC (mb:=mb) y2 Y;have g1:=stpC (mb:=mb) (stpC (mb:=mb) aw Z wc j) Z;have g2:=stpC (mb:=mb) (stpC (mb:=mb) bj aq wc j) aq
 cases r1 with
  | none =>
   first
    | guard_hyp kk0:True
      have k:Hid (gd (aa p n) sc dB kids=false):=by show _=_;rw[HV.o,<-i.o]
    | have k:Hid (gd (aa p n) sc cX kids=false):=by show _=_;rw[HV.o,<-i.o]
   go_wp2_with fail;refine tkB (λW=>Stm mb wc W) Λ (λhHeld=>?_);refine θ ?_;refine tkD ?_;go_wp2;go_ret;exact⟨by rw[k.o];rfl,((Stm.of_below BB).trans j).trans (smDr _ _),λh=>by rw[k.o] at h;cases h⟩
  | some t =>
   have V:=η (av t rfl).1;obtain⟨ay,ax⟩:=zd2 (ai.stp j (av t rfl).2) (bk sc kids[0] none t L (λu h=>by cases h) i.symm)
   first
    | guard_hyp kk0:True
      have J:Hid (gd (aa p n) sc dB kids=(dB t&&isE (aa p n) sc kids[1] t)):=by show _=_;rw[HV.o,<-i.o]
      cases h2:dB t with
       | false =>
        have k:Hid (gd (aa p n) sc dB kids=false):=by show _=_;rw[J.o,h2];rfl
        have R:=η h2;clear h2;go_wp2_with fail;refine tkB (λW=>Stm mb wc W) Λ (λhHeld=>?_);refine θ ?_;refine tkE 4 (λK hK=>?_);go_simp;(refine (qW (V.to (sof (own:=own) (ad wc)).imlo)).mono ?_;rw[R.o];rintro e4 w4 ⟨rfl,d⟩);refine tkR hK ?_ (λhHeld=>?_)
        ·first|exact hHeld.trans (Stm.of_below d)|exact hHeld.trans (Stp.of_below d)
        clear hK K;refine θ ?_;refine tkD ?_;go_wp2;go_ret;exact⟨by rw[k.o];rfl,((Stm.of_below BB).trans j).trans (Stm.of_below (bel (ad _) d)),λh=>by rw[k.o] at h;cases h⟩
       | true =>
        have I:Hid (gd (aa p n) sc dB kids=isE (aa p n) sc kids[1] t):=by show _=_;rw[J.o,h2];rfl
        have R:=η h2;clear h2;have b4:=stpC (mb:=mb) (show wc.cell? ⟨w,4,none⟩=some (.slice (some ⟨g,T,none⟩) kids cap) from (aj.stp j Ω).cell 4) Φ;obtain⟨g',M,o1,x1,m1,s1,a1,B1,au,hA,ab,e1,z,y,v,r,q,F⟩:=aQ (ExsR.to k (j.subO HO)) i1;obtain⟨rfl,rfl⟩:g=g'/\T=M:=by simpa using hA
        simp only[Nat.one_mul] at z y v r q;replace z:=stpC z f;replace y:=stpC y f;replace v:=stpC v f;replace r:=stpC r f;replace q:=stpC q f;have ah:=η F;clear F e1 hA ab
        cases h5:isE (aa p n) sc kids[1] t
        all_goals
         have O:=η h5;clear h5;go_wp2_with fail;refine tkB (λW=>Stm mb wc W) Λ (λhHeld=>?_);refine θ ?_;refine tkE 4 (λK hK=>?_);go_simp;(refine (qW (V.to (sof (own:=own) (ad wc)).imlo)).mono ?_;rw[R.o];rintro e4 w4 ⟨rfl,d⟩);refine tkR hK ?_ (λhHeld=>?_)
         ·first|exact hHeld.trans (Stm.of_below d)|exact hHeld.trans (Stp.of_below d)
         clear hK K;refine θ ?_;refine tkE 14 (λK hK=>?_);go_simp;(refine (bA U (HD _ (ν i1)) (ay.bel (bel (ad _) d)) L (ah.to (sof (bel (ad _) d)).sub) (V.to (sof (bel (ad _) d)).sub) ax).mono ?_;rw[O.o];rintro e5 w5 ⟨rfl,E,N⟩);refine tkR hK ?_ (λhHeld=>?_)
         ·exact hHeld.trans E
         clear hK K;refine θ ?_;refine tkD ?_;go_wp2;go_ret;exact⟨by rw[I.o,O.o];rfl,((Stm.of_below BB).trans j).trans ((Stm.of_below (bel (ad _) d)).trans E),λh=>by first|(rw[I.o,O.o] at h;cases h;done)|exact N Υ⟩
    | have J:Hid (gd (aa p n) sc cX kids=(cX t&&isE (aa p n) sc kids[1] t)):=by show _=_;rw[HV.o,<-i.o]
      cases h2:cX t with
       | false =>
        have k:Hid (gd (aa p n) sc cX kids=false):=by show _=_;rw[J.o,h2];rfl
        have R:=η h2;clear h2;go_wp2_with fail;refine tkB (λW=>Stm mb wc W) Λ (λhHeld=>?_);refine θ ?_;refine tkE 4 (λK hK=>?_);go_simp;(refine (nj _ t _ _ (V.to (sof (own:=own) (ad wc)).imlo)).mono ?_;rw[R.o];rintro e4 w4 ⟨rfl,d⟩);refine tkR hK ?_ (λhHeld=>?_)
        ·first|exact hHeld.trans (Stm.of_below d)|exact hHeld.trans (Stp.of_below d)
        clear hK K;refine θ ?_;refine tkD ?_;go_wp2;go_ret;exact⟨by rw[k.o];rfl,((Stm.of_below BB).trans j).trans (Stm.of_below (bel (ad _) d)),λh=>by rw[k.o] at h;cases h⟩
       | true =>
        have I:Hid (gd (aa p n) sc cX kids=isE (aa p n) sc kids[1] t):=by show _=_;rw[J.o,h2];rfl
        have R:=η h2;clear h2;have b4:=stpC (mb:=mb) (show wc.cell? ⟨w,4,none⟩=some (.slice (some ⟨g,T,none⟩) kids cap) from (aj.stp j Ω).cell 4) Φ;obtain⟨g',M,o1,x1,m1,s1,a1,B1,au,hA,ab,e1,z,y,v,r,q,F⟩:=aQ (ExsR.to k (j.subO HO)) i1;obtain⟨rfl,rfl⟩:g=g'/\T=M:=by simpa using hA
        simp only[Nat.one_mul] at z y v r q;replace z:=stpC z f;replace y:=stpC y f;replace v:=stpC v f;replace r:=stpC r f;replace q:=stpC q f;have ah:=η F;clear F e1 hA ab
        cases h5:isE (aa p n) sc kids[1] t
        all_goals
         have O:=η h5;clear h5;go_wp2_with fail;refine tkB (λW=>Stm mb wc W) Λ (λhHeld=>?_);refine θ ?_;refine tkE 4 (λK hK=>?_);go_simp;(refine (nj _ t _ _ (V.to (sof (own:=own) (ad wc)).imlo)).mono ?_;rw[R.o];rintro e4 w4 ⟨rfl,d⟩);refine tkR hK ?_ (λhHeld=>?_)
         ·first|exact hHeld.trans (Stm.of_below d)|exact hHeld.trans (Stp.of_below d)
         clear hK K;refine θ ?_;refine tkE 14 (λK hK=>?_);go_simp;(refine (bA U (HD _ (ν i1)) (ay.bel (bel (ad _) d)) L (ah.to (sof (bel (ad _) d)).sub) (V.to (sof (bel (ad _) d)).sub) ax).mono ?_;rw[O.o];rintro e5 w5 ⟨rfl,E,N⟩);refine tkR hK ?_ (λhHeld=>?_)
         ·exact hHeld.trans E
         clear hK K;refine θ ?_;refine tkD ?_;go_wp2;go_ret;exact⟨by rw[I.o,O.o];rfl,((Stm.of_below BB).trans j).trans ((Stm.of_below (bel (ad _) d)).trans E),λh=>by first|(rw[I.o,O.o] at h;cases h;done)|exact N Υ⟩) :p:=h
section
variable {c:CB} {p:Pg} {mb n:Nat} {own:Nat->Prop} {sb gc gk:Nat} {sc:Sc} {A:Option Addr} {kids:List Ex} {cap:Nat} {w:À} (IH:xG c p mb n) (hF:aO p n) (hd:∀e∈kids,Ex.deep e<=n) (he:Env w own mb sb c p sc) (ho:ScOk p sc) (hx:ExsR w (im own w) (.slice A kids cap) kids) (hl:kids.length=2) (hg:im own w gc) (hh:im own w gk) (hgc:w.cell? gc=some (c.b:Vl))
include IH hF hd he ho hx hl hg hh hgc
theorem pair_storP {op x m:Int} {s:Ê} (hgk:w.cell? gk=some (.func (.func 139) #[] #[])):
 Calls prog 201 #[sb,.agg (ex5 op x m s A kids cap),gc,gk] w (ResB w own mb sb sc (gd (aa p n) sc dB kids)):=by
 have kk0:=trivial;exact zfPair
theorem pair_orderedP {op x m:Int} {s:Ê} (hgk:w.cell? gk=some (.func (.func 181) #[] #[])):
 Calls prog 201 #[sb,.agg (ex5 op x m s A kids cap),gc,gk] w (ResB w own mb sb sc (gd (aa p n) sc cX kids)):=by
 have kk1:=trivial;exact zfPair
end
end
section
variable {k:Int} {A:Option Addr}
def pd {w:À} {Q:Nat->Prop} {nb:Nat} {s:Ê} {n cap:Nat} {T:Ty} (hh:Hs w nb 40 (ty3 k s A n cap)) (hq:Q nb) (ht:TyR w Q [.int .i64 k,.string s,.slice A n cap] T):TysR w Q (.slice nb 1 1) [T]:=by
 refine⟨some ⟨nb,0,none⟩,1,λ_=>[.int .i64 k,.string s,.slice A n cap],rfl,⟨by simp[maxLen],by simp⟩,λ_=>⟨nb,0,rfl,hq,λi hi=>⟨rfl,λj u hu=>?_⟩⟩,λi hi=>?_⟩
 ·have a:i=0:=by simp at hi;exact hi
  subst a;rw[show 0+0*3+j=j by omega,hh.cell j];simpa using hu
 have a:i=0:=by simp at hi;exact hi
 subst a;exact ht
variable {W:À}
def zq {g:Nat} (h:g<W) (o:Obj) (k:Int) (s:Ê) (A:Option Addr) (n cap:Nat):(set3 W g k s A n cap).alloc o=set3 (W.alloc o) g k s A n cap:=by
 unfold set3;rw[World.setCell_alloc_past (w:=W) o g 0 _ h,World.setCell_alloc_past o g 1 _ (by simpa[World.setCell] using h),World.setCell_alloc_past o g 2 _ (by simpa[World.setCell] using h)]
variable {sb:Nat} {sc:Sc}
def sP {w:À} {own:Nat->Prop} {mb rb:Nat} {t:Ty} {s:Ê} {n cap:Nat} {o:Obj} (hl:rb<W) (hs:Stm mb w (W.alloc o)) (hr:w<=rb) (hmr:mb≠rb) (ho:own mb) (ht:TyR (W.alloc o) (im (plus own rb) (W.alloc o)) [.int .i64 k,.string s,.slice A n cap] t) (hsc:ScS (W.alloc o) (plus own rb) mb sb sc):
 ResF w own mb sb sc (some t) (.returned (.tuple #[ty3 k s A n cap,true])) ((set3 W rb k s A n cap).alloc o):=by
 rw[zq hl];exact bo hs hr hmr ho ht hsc
def res_noA {w:À} {own:Nat->Prop} {mb rb:Nat} {s:Ê} {n cap:Nat} {o:Obj} (hl:rb<W) (hs:Stm mb w (W.alloc o)) (hr:w<=rb) (hmr:mb≠rb):ResF w own mb sb sc none (.returned (.tuple #[ty3 k s A n cap,false])) ((set3 W rb k s A n cap).alloc o):=by
 rw[zq hl];exact aB hs hr hmr
def ry {f:Ex->Bool} {l:List Ex} {j:Nat} (h:j<l):(l.drop j).all f=(f l[j]&&(l.drop (j+1)).all f):=by
 rw[bk h,List.all_cons]
def uc {E:EF} {kids:List Ex} (h:0<kids.length):fw E sc kids none=match E sc kids[0] none with|none=>none|some t=>if (kids.drop 1).all (λe=>isE E sc e t) then some (nC t) else none:=by
 match kids,h with
 | k0::ks,_=>rfl
def eg {own:Nat->Prop} {w w':À} {g h:Nat} (hb:Below w w w') (hg:w<=g) (hh:w<=h):Sub (im own w) (im (plus (plus own g) h) w') w w':=λb hx=>⟨⟨ρ hx.1 hb.size,λx=>by rcases x with (x|x)|x;exact hx.2 x;have:=hx.1;omega;have:=hx.1;omega⟩,hb.block b hx.1⟩
def oK {own:Nat->Prop} {w:À} {h:Nat}:Sub (im (plus own h) w) (im own w) w w:=λ_ hx=>⟨⟨hx.1,λx=>hx.2 (.inl x)⟩,rfl⟩
def clo_list {c:CB} {p:Pg} {mb n:Nat} (IH:xG c p mb n) (hF:aO p n) {own:Nat->Prop} {op x m:Int} {s:Ê} {kids:List Ex} {cap:Nat} {wv:Value} {want:Option Ty} {w:À} (hd:∀k∈kids,Ex.deep k<=n) (he:Env w own mb sb c p sc) (ho:ScOk p sc) (hx:ExsR w (im own w) (.slice A kids cap) kids) (hw:WantR w (im own w) wv want) (hwo:aL want):
 Calls prog 164 #[c.b,sb,ex5 op x m s A kids cap,wv] w (ResF w own mb sb sc (fw (aa p n) sc kids want)):=by
 obtain⟨al,HD,HF,X,HO,HW⟩:=zd6 IH hd hF ho he.mb.1 hwo;have c6:=he.mb.2;have dm:=hx.cap;have dw:=hx.le9;obtain⟨F,ai⟩:=γ (((w.alloc (.cells #[op,x,m,s,.slice A kids cap] 43)).alloc (.cells #[(0:Int),"",()] 40)).alloc (.cells #[(0:Int),"",()] 40))
 have B0:Below w w F:=by rw[ai];exact ζ3
 have c4:w.heap.size+3=F:=by rw[ai];simp
 have b4:Hs F (w+1) 40 z3:=by rw[ai];exact (Hs.new' _ _ _).alloc _
 have b7:Hs F (w+1+1) 40 z3:=by
  rw[ai];have:=Hs.new' (w.alloc (.cells #[op,x,m,s,.slice A kids cap] 43)) (.cells #[(0:Int),"",()] 40) z3;simpa using this
 obtain⟨RS,LB,BB,aj,d7⟩:=zd5 b4 b7 B0 (Stm.of_below (mb:=mb) B0) (he.plus B0 (g:=w+1) ω ω);have a6:Hid (Env F (plus (plus own (w+1)) (w+1+1)) mb sb c p sc):=he.sub (eg B0 ω ω) (B0.block mb c6) (.inl (.inl he.mb.1)) (λb hb=>by rcases hb with (hb|hb)|hb;have:=he.ol b hb;omega;omega;omega);obtain⟨bs,cc,df⟩:=zd3 (ExsR.to hx (eg (g:=w+1) (h:=w+1+1) B0 ω ω)) (hw.to (eg (g:=w+1) (h:=w+1+1) B0 ω ω)) ai;clear hd he ho hx hw hwo IH hF ai B0 b4 b7;go_in;go_upto_region 7 with fail;rw[<-df.o]
 cases want with
 | some u =>
  obtain⟨gw,ow,kw,sw,Aw,nw,cw,rfl,d5,w0,w1,w2,b1⟩:=cc.o;obtain⟨k',s',a,A',cr,ee,rfl,_,_,b2⟩:=ap b1;obtain⟨rfl,rfl,rfl,rfl,rfl⟩:kw=k'/\sw=s'/\Aw=A'/\nw=a/\cw=cr:=by simpa using ee
  obtain⟨dh,dk⟩:=zd2 b2 (HW _ rfl);clear ee b2 b1;by_cases h5:kw=5/\a.length=1
  ·obtain⟨rfl,h1⟩:=h5;have t1:((a.length:Int)==1)=true:=beq_iff_eq.2 ω;have b8:0<a.length:=ω;have jl:(0:Int)<(a.length:Int):=ω
   have ak:Hid (fw (aa p n) sc kids (some (.mk 5 sw a))=if kids.all (λe=>isE (aa p n) sc e a[0]) then some (nC a[0]) else none):=by
    match a,h1 with
    | [u0],_=>rfl
   obtain⟨g3,ds,l,d,M,G,B,rfl,d6,e3,v0,v1,v2,b5⟩:=cS dh b8;simp only[Nat.zero_mul,Nat.add_zero] at v0 v1 v2;have a5:=η (eM dk _ (ν b8));obtain⟨z0,z1,z2,q0,q1,q2⟩:=LB.facts;have a0:Hid (TyR (set3 F (w+1+1) l d G M B) (im (plus own (w+1)) (set3 F (w+1+1) l d G M B)) [.int .i64 l,.string d,.slice G M B] a[0]):=b5.to (aG _ _ _ _ _);have Z:Hid (Env (set3 F (w+1+1) l d G M B) (plus own (w+1)) mb sb c p sc):=a6.sub (aG _ _ _ _ _) (aq _ _ _ _ _ _ _ _ ω) (.inl HO) (λb hb=>by rw[bQ];exact a6.ol b (.inl hb));obtain⟨V,HL⟩:=zd2 Z.sco (ExsR.to bs (aG (w:=F) (own:=(plus own (w+1))) (g:=w+1+1) l d G M B));have ay:Hid (Hs (set3 F (w+1+1) l d G M B) (w+1) 40 z3):=(aq F (w+1+1) (w+1) l d G M B ω).trans RS;have az:=η (LB.set3 l d G M B);have T:Hid (Stm mb w (set3 F (w+1+1) l d G M B)):=smS aj ω ω _ _ _ _ _;have a7:=η HD.o;have ba:w+3=(set3 F (w+1+1) l d G M B).heap.size:=by rw[bQ];exact c4
   clear b5 e3 h1;go_upto_region 12 with fail;clear v0 v1 v2 w0 w1 w2 z0 z1 z2 q0 q1 q2 t1;obtain⟨R,O⟩:=γ (set3 F (w+1+1) l d G M B)
   rw[<-O] at a0 Z V HL ay az T ba;rw[show ((F.setCell { block:=w.heap.size+1+1,off:=0 } (Value.int IntKind.i64 l)).setCell { block:=w.heap.size+1+1,off:=1 } (Value.string d)).setCell { block:=w.heap.size+1+1,off:=2 } (Value.slice G M B)=R from O.symm];clear O;go_loopw [68] (λi wr=>∃j:Nat,j<=kids/\i=.int .i64 j/\Hid (kids.all (λe=>isE (aa p n) sc e a[0])=(kids.drop j).all (λe=>isE (aa p n) sc e a[0]))/\Hid (Stm mb R wr)/\Hid (ScS wr (plus own (w+1)) mb sb sc)) (λi _=>kids.length-(intOf i).toNat)
   case atStart=>exact⟨0,ω,rfl,rfl,Stm.refl _ _,V⟩
   case round =>
    obtain⟨j,hj,rfl,HU,v,a2⟩:=hrel;have c2:R.heap.size<=wr:=v.size;have Y:=η (Z.stp v a2);have c7:w.heap.size+1+1<wr:=ω;obtain⟨I,br,U⟩:=zd3 (ay.stp v Ω) (az.stp v Ω) (a0.to (v.subO (.inl HO)));obtain⟨y0,y1,y2,_,_,_⟩:=br.facts;by_cases hlt:j<kids
    ·have a8:=η (ry (f:=λe=>isE (aa p n) sc e a[0]) hlt);obtain⟨g1,cj,o1,x1,m1,s1,a1,B1,ca,rfl,c9,e1,p0,p1,p2,p3,p4,hr⟩:=aQ (ExsR.to HL (v.subO (.inl HO))) hlt;have HR:=η hr;clear hr e1
     cases h4:isE (aa p n) sc kids[j] a[0] with
     | false =>
      have z:Hid (fw (aa p n) sc kids (some (.mk 5 sw a))=none):=by show _=_;rw[ak.o,HU.o,a8.o,h4];rfl
      have H4:=η h4;clear h4;go_wp2_with (go_at_call 105;refine (bA al (a7 _ (ν hlt)) (Y.bel ζ1) X (HR.to (sof ζ1).sub) (U.to (sof ζ1).sub) a5).mono ?_;rw[H4.o];rintro e2 w5 ⟨rfl,y,H⟩;obtain⟨z0,z1,z2,q0,q1,q2⟩:=(I.stp ((Stm.of_below (mb:=mb) (belA (belR wr) _)).trans y) Ω).facts);rw[z.o];exact bodyPost_ret (am results164 _ _ (w+1) _ _ _ _ _ rfl ((I.stp ((Stm.of_below (mb:=mb) (belA (belR wr) _)).trans y) Ω).set3 _ _ _ _ _)) rfl (aB (((T).trans v).trans ((Stm.of_below (mb:=mb) (belA (belR wr) _)).trans y)) ω ω)
     | true =>
      have z:Hid (kids.all (λe=>isE (aa p n) sc e a[0])=(kids.drop (j+1)).all (λe=>isE (aa p n) sc e a[0])):=by show _=_;rw[HU.o,a8.o,h4];rfl
      have H4:=η h4;clear h4;go_wp2_with (go_at_call 105;refine (bA al (a7 _ (ν hlt)) (Y.bel ζ1) X (HR.to (sof ζ1).sub) (U.to (sof ζ1).sub) a5).mono ?_;rw[H4.o];rintro e2 w5 ⟨rfl,y,H⟩);go_roundw
      case rel =>
       first
       | exact⟨j+1,ω,by go_num,z,v.trans ((Stm.of_below (mb:=mb) (belA (belR wr) _)).trans y),H Υ⟩
       | (refine⟨_,_,_,_,_,_,_,_,_,_,_,_,_,⟨j+1,ω,?_,z,v.trans ((Stm.of_below (mb:=mb) (belA (belR wr) _)).trans y),H Υ⟩,rfl⟩;go_num)
      case measure=>simp[intOf];omega
    have z:Hid (fw (aa p n) sc kids (some (.mk 5 sw a))=some (nC a[0])):=by show _=_;rw[ak.o,HU.o,ε ω];rfl
    obtain⟨z0,z1,z2,q0,q1,q2⟩:=I.facts;have b3:w.heap.size+1<wr:=ω;go_wp2;rw[z.o];exact bodyPost_ret (am results164 _ _ (w+1) _ _ _ _ _ rfl ((I.set3 _ _ _ _ _).alloc _)) rfl (sP ω (smA ((T).trans v) _) ω ω HO (TyR.of Ψ π (pd (Hs.new _ _ _) ⟨by simp,by rintro (h|h);have:=Y.ol _ (.inl h);omega;omega⟩ (U.to (sof ζ1).sub))) (a2.below ζ1))
  have z:Hid (fw (aa p n) sc kids (some (.mk kw sw a))=none):=by
   show fw _ _ _ _=none;match a with
   | []=>rfl
   | [u0]=>show (if kw=5 then _ else none)=none;rw[if_neg (λh=>h5 ⟨h,rfl⟩)]
   | _::_::_=>rfl
  obtain⟨z0,z1,z2,q0,q1,q2⟩:=RS.facts;by_cases h6:kw=5
  ·subst h6;have t1:((a.length:Int)==1)=false:=beq_eq_false_iff_ne.2 (λh=>h5 ⟨rfl,ω⟩);clear h5;go_wp2;rw[z.o];exact bodyPost_ret (am results164 _ _ (w+1) _ _ _ _ _ rfl (RS.set3 _ _ _ _ _)) rfl (aB aj ω ω)
  have t1:(kw==5)=false:=by simpa using h6
  clear h5 h6;go_wp2;rw[z.o];exact bodyPost_ret (am results164 _ _ (w+1) _ _ _ _ _ rfl (RS.set3 _ _ _ _ _)) rfl (aB aj ω ω)
 | none =>
  obtain rfl:wv=.pointer none:=cc.o;by_cases h0:kids.length=0
  ·have l1:((kids.length:Int)==0)=true:=beq_iff_eq.2 ω
   have z:Hid (fw (aa p n) sc kids none=none):=by
    show fw _ _ _ _=none;match kids,h0 with
    | [],_=>rfl
   obtain⟨z0,z1,z2,q0,q1,q2⟩:=RS.facts;clear h0;go_wp2;rw[z.o];exact bodyPost_ret (am results164 _ _ (w+1) _ _ _ _ _ rfl (RS.set3 _ _ _ _ _)) rfl (aB aj ω ω)
  have l1:((kids.length:Int)==0)=false:=beq_eq_false_iff_ne.2 ω;have i0:0<kids.length:=ω;have HV:=η (uc (E:=aa p n) (sc:=sc) i0);clear h0;obtain⟨g,off,o1,x1,m1,s1,a1,B1,ca,rfl,hg,e1,p0,p1,p2,p3,p4,hr⟩:=aQ bs i0;simp only[Nat.zero_mul,Nat.add_zero] at p0 p1 p2 p3 p4;have HR:=η hr;clear hr e1;obtain⟨r1,b6⟩:=γ (aa p n sc kids[0] none)
  have au:=η b6;clear b6
  cases r1 with
  | none =>
   have z:Hid (fw (aa p n) sc kids none=none):=by show _=_;rw[HV.o,<-au.o]
   go_wp2_with (go_at_call 170;refine (fk al (HD _ (ν i0)) a6 X HR).mono ?_;rw[<-au.o];rintro e3 w3 ⟨J,rfl⟩;have c3:=J.size;obtain⟨z0,z1,z2,q0,q1,q2⟩:=(RS.stp J Ω).facts;have b3:w.heap.size+1<w3:=by omega);rw[z.o];exact bodyPost_ret (am results164 _ _ (w+1) _ _ _ _ _ rfl (((RS.stp J Ω).set3 _ _ _ _ _).alloc _)) rfl (res_noA ω (smA (aj.trans J) _) ω ω)
  | some t =>
   have ak:Hid (fw (aa p n) sc kids none=if (kids.drop 1).all (λe=>isE (aa p n) sc e t) then some (nC t) else none):=by show _=_;rw[HV.o,<-au.o]
   have a5:=η (HF sc kids[0] none t X (λu h=>by cases h) au.symm);go_upto_region 6 with (go_at_call 170;refine (fk al (HD _ (ν i0)) a6 X HR).mono ?_;rw[<-au.o];rintro e3 w3 ⟨J,l,d,N,L,q,rfl,bj,bk⟩);obtain⟨r,ax,G,_⟩:=κ w3 #[l,d,.slice N L q] 40
   have b9:Hs r w3 40 (ty3 l d N L q):=by rw[ax];exact Hs.new _ _ _
   have S3:=η (J.trans (Stm.of_below (mb:=mb) G));have c3:F.heap.size<=w3:=J.size;have d4:w3.heap.size<r:=by rw[ax];simp
   obtain⟨ce,di,cb,dd,dj⟩:=zd5 (a6.stp S3 (bk.below G)) (bj.to (sof (own:=(plus (plus own (w+1)) (w+1+1))) G).sub) (LB.stp S3 Ω) (RS.stp S3 Ω) (ExsR.to bs (S3.subO (.inl (.inl HO))));obtain⟨y0,y1,y2,_,_,_⟩:=b9.facts;replace y0:=aD (mb:=mb) (rb:=w+1+1) y0 Φ Φ;replace y1:=aD (mb:=mb) (rb:=w+1+1) y1 Φ Φ;replace y2:=aD (mb:=mb) (rb:=w+1+1) y2 Φ Φ;obtain⟨z0,z1,z2,q0,q1,q2⟩:=cb.facts;obtain⟨D,aw⟩:=γ (kids.drop 1)
   rw[<-aw] at ak;have ck:D.length=kids-1:=by rw[aw,List.length_drop]
   have cd:Hid (ExsR r (im (plus (plus own (w+1)) (w+1+1)) r) (.slice (fd (some ⟨g,off,none⟩) cap 1 5) D (cap-1)) D):=by rw[aw];exact SlR.from dj 1 ω
   have a7:Hid (∀k∈D,Ex.deep k<=n):=λk hk=>HD k (by rw[aw] at hk;exact List.mem_of_mem_drop hk);obtain⟨A1,bm⟩:=γ (fd (some ⟨g,off,none⟩) cap 1 5)
   obtain⟨cp,bl⟩:=γ (cap-1)
   have c5:∀W,(Instr.slice 41 (.slice (some ⟨g,off,none⟩) kids cap) (some (.int .i64 1)) none none).run prog W=.ok (.slice A1 D cp) W:=λW=>by
    rw[bm,bl,ck];exact eH W _ _ _ 1 ω
   rw[<-bm,<-bl] at cd;have T:Hid (Stm mb w (set3 r.drew (w+1+1) l d N L q)):=smS ((aj.trans S3).trans (smDr _ _)) ω ω _ _ _ _ _;obtain⟨HL,a0⟩:=zd2 (ExsR.to (ExsR.to cd (sof (own:=(plus (plus own (w+1)) (w+1+1))) (ad r)).sub) (aG (w:=r.drew) (own:=(plus own (w+1))) (g:=w+1+1) l d N L q)) ((di.to (sof (own:=(plus (plus own (w+1)) (w+1+1))) (ad r)).sub).to (aG (w:=r.drew) (own:=(plus own (w+1))) (g:=w+1+1) l d N L q));have Z:Hid (Env (set3 r.drew (w+1+1) l d N L q) (plus own (w+1)) mb sb c p sc):=(ce.bel (ad r)).sub (aG _ _ _ _ _) (aq _ _ _ _ _ _ _ _ ω) (.inl HO) (λb hb=>by rw[bQ];exact ce.ol b (.inl hb));have V:=η Z.o.sco;have ay:Hid (Hs (set3 r.drew (w+1+1) l d N L q) (w+1) 40 z3):=(aq r.drew (w+1+1) (w+1) l d N L q ω).trans (dd.stp (smDr mb r) Ω);have az:=η ((cb.stp (smDr mb r) Ω).set3 l d N L q);have ba:w+3<=(set3 r.drew (w+1+1) l d N L q).heap.size:=by rw[bQ];show _<=r.heap.size;omega
   have de:=η ax;clear bm bl aw J bj bk b9 G ax;rw[<-de.o];refine tkB (λW=>Stp (plus (only mb) (w+1+1)) r W) Λ (λhHeld=>?_);refine θ ?_;refine tkE 3 (λK hK=>?_);go_simp;refine tkR hK ?_ (λhHeld=>?_)
   ·exact stpR ι _ _ _ _ _
   clear hK K;refine tkQ 4 ?_;refine tkD ?_;clear hHeld c5 y0 y1 y2 z0 z1 z2 q0 q1 q2 p0 p1 p2 p3 p4;go_upto_region 12 with fail;obtain⟨R,O⟩:=γ (set3 r.drew (w+1+1) l d N L q)
   rw[<-O] at a0 Z V HL ay az T ba;rw[show (((r.setCell { block:=w.heap.size+1+1,off:=0 } (Value.int IntKind.i64 l)).setCell { block:=w.heap.size+1+1,off:=1 } (Value.string d)).setCell { block:=w.heap.size+1+1,off:=2 } (Value.slice N L q)).drew=R from O.symm];clear O;have c8:=HL.le9;go_loopw [68] (λi wr=>∃j:Nat,j<=D/\i=.int .i64 j/\Hid (D.all (λe=>isE (aa p n) sc e t)=(D.drop j).all (λe=>isE (aa p n) sc e t))/\Hid (Stm mb R wr)/\Hid (ScS wr (plus own (w+1)) mb sb sc)) (λi _=>D.length-(intOf i).toNat)
   case atStart=>exact⟨0,ω,rfl,rfl,Stm.refl _ _,V⟩
   case round =>
    obtain⟨j,hj,rfl,HU,v,a2⟩:=hrel;have c2:R.heap.size<=wr:=v.size;have Y:=η (Z.stp v a2);have c7:w.heap.size+1+1<wr:=ω;obtain⟨I,br,U⟩:=zd3 (ay.stp v Ω) (az.stp v Ω) (a0.to (v.subO (.inl HO)));obtain⟨y0,y1,y2,_,_,_⟩:=br.facts;by_cases hlt:j<D
    ·have a8:=η (ry (f:=λe=>isE (aa p n) sc e t) hlt);obtain⟨g1,cj,o1,x1,m1,s1,a1,B1,ca,rfl,c9,e1,p0,p1,p2,p3,p4,hr⟩:=aQ (ExsR.to HL (v.subO (.inl HO))) hlt;have HR:=η hr;clear hr e1
     cases h4:isE (aa p n) sc D[j] t with
     | false =>
      have z:Hid (fw (aa p n) sc kids none=none):=by show _=_;rw[ak.o,HU.o,a8.o,h4];rfl
      have H4:=η h4;clear h4;go_wp2_with (go_at_call 105;refine (bA al (a7 _ (ν hlt)) (Y.bel ζ1) X (HR.to (sof ζ1).sub) (U.to (sof ζ1).sub) a5).mono ?_;rw[H4.o];rintro e2 w5 ⟨rfl,y,H⟩;obtain⟨z0,z1,z2,q0,q1,q2⟩:=(I.stp ((Stm.of_below (mb:=mb) (belA (belR wr) _)).trans y) Ω).facts);rw[z.o];exact bodyPost_ret (am results164 _ _ (w+1) _ _ _ _ _ rfl ((I.stp ((Stm.of_below (mb:=mb) (belA (belR wr) _)).trans y) Ω).set3 _ _ _ _ _)) rfl (aB (((T).trans v).trans ((Stm.of_below (mb:=mb) (belA (belR wr) _)).trans y)) ω ω)
     | true =>
      have z:Hid (D.all (λe=>isE (aa p n) sc e t)=(D.drop (j+1)).all (λe=>isE (aa p n) sc e t)):=by show _=_;rw[HU.o,a8.o,h4];rfl
      have H4:=η h4;clear h4;go_wp2_with (go_at_call 105;refine (bA al (a7 _ (ν hlt)) (Y.bel ζ1) X (HR.to (sof ζ1).sub) (U.to (sof ζ1).sub) a5).mono ?_;rw[H4.o];rintro e2 w5 ⟨rfl,y,H⟩);go_roundw
      case rel =>
       first
       | exact⟨j+1,ω,by go_num,z,v.trans ((Stm.of_below (mb:=mb) (belA (belR wr) _)).trans y),H Υ⟩
       | (refine⟨_,_,_,_,_,_,_,_,_,_,_,_,_,⟨j+1,ω,?_,z,v.trans ((Stm.of_below (mb:=mb) (belA (belR wr) _)).trans y),H Υ⟩,rfl⟩;go_num)
      case measure=>simp[intOf];omega
    have z:Hid (fw (aa p n) sc kids none=some (nC t)):=by show _=_;rw[ak.o,HU.o,ε ω];rfl
    obtain⟨z0,z1,z2,q0,q1,q2⟩:=I.facts;have b3:w.heap.size+1<wr:=ω;go_wp2;rw[z.o];exact bodyPost_ret (am results164 _ _ (w+1) _ _ _ _ _ rfl ((I.set3 _ _ _ _ _).alloc _)) rfl (sP ω (smA ((T).trans v) _) ω ω HO (TyR.of Ψ π (pd (Hs.new _ _ _) ⟨by simp,by rintro (h|h);have:=Y.ol _ (.inl h);omega;omega⟩ (U.to (sof ζ1).sub))) (a2.below ζ1))
end
section
set_option maxRecDepth 1000000 in
def zfFixS {p:Prop} (h:p:=by
 have D:=η he.mb.1;have G:=he.mb.2;have y:gk≠mb:=λe=>hg.2 (by rw[e];exact he.mb.1);have v:gr≠mb:=λe=>hh.2 (by rw[e];exact he.mb.1);have H:gk<w:=hg.1;have F:gr<w:=hh.1;obtain⟨a,i⟩:=γ ((w.alloc (.cells #[op,x,m,s,.slice A kids cap] 43)).alloc (.cells #[(0:Int),"",()] 40))
 have j:Below w w a:=by rw[i];exact ζ2
 have g:Hs a w 43 (ex5 op x m s A kids cap):=by rw[i];exact (Hs.new _ _ _).alloc _
 have l:Hs a (w+1) 40 z3:=by rw[i];exact Hs.new' _ _ _
 have u:w.heap.size+1<a:=by rw[i];simp
 obtain⟨t,r,E,B,z⟩:=zd5 j l hi hc i;have V:=aD (mb:=mb) (rb:=w+1) (belC j hgk) y Φ;have O:=aD (mb:=mb) (rb:=w+1) (belC j hgr) v Φ;have d0:=aD (mb:=mb) (rb:=w+1) (g.c 0) Φ Θ;have d1:=aD (mb:=mb) (rb:=w+1) (g.c 1) Φ Θ;have d2:=aD (mb:=mb) (rb:=w+1) (g.c 2) Φ Θ;have d3:=aD (mb:=mb) (rb:=w+1) (g.c 3) Φ Θ;have Z:=aD (mb:=mb) (rb:=w+1) (g.c 4) Φ Θ;clear he hx hi hg hh hgk hgr hc j g l i
 cases b
 all_goals
  go_in;go_wp2_with fail;rw[<-z.o];refine tkB (λW=>Stp (plus (only mb) (w+1)) a W) Λ (λhHeld=>?_);refine θ ?_;refine tkE 1 (λK hK=>?_);go_simp;(refine (aU _ _).mono ?_;rintro Y N ⟨rfl,d⟩);refine tkR hK ?_ (λhHeld=>?_)
  ·first|exact hHeld.trans (Stm.of_below d)|exact hHeld.trans (Stp.of_below d)
  clear hK K;refine tkE 5 (λK hK=>?_);go_simp;(refine (B _ (bel t (bel (ad _) d)) (ρ u (bel (ad _) d).size)).mono ?_;rintro X M ⟨rfl,f,q⟩;obtain⟨L,J,I,U,T,R⟩:=(r.stp ((Stm.of_below (bel (ad a) d)).trans f) Ω).facts);refine tkR hK ?_ (λhHeld=>?_)
  ·exact hHeld.trans (f.s.wk (λ_ h=>.inl h))
  clear hK K;refine tkE 6 (λK hK=>?_);go_simp;refine tkR hK ?_ (λhHeld=>?_)
  ·exact stpR ι _ _ _ _ _
  clear hK K;refine tkQ 7 ?_;refine tkD ?_;clear hHeld;go_wp2_with fail;first
  | exact bodyPost_ret (am results197 _ _ (w+1) _ _ _ _ _ rfl ((r.stp ((Stm.of_below (bel (ad a) d)).trans f) Ω).set3 _ _ _ _ _)) rfl (aB ((Stm.of_below t).trans ((Stm.of_below (bel (ad a) d)).trans f)) ω ω)
  | exact bodyPost_ret (am results197 _ _ (w+1) _ _ _ _ _ rfl ((r.stp ((Stm.of_below (bel (ad a) d)).trans f) Ω).set3 _ _ _ _ _)) rfl (bo ((Stm.of_below t).trans ((Stm.of_below (bel (ad a) d)).trans f)) ω ω D (cO _ _ k E) (q Υ))) :p:=h
section
variable {c:CB} {p:Pg} {mb:Nat} {own:Nat->Prop} {sb gk gr:Nat} {sc:Sc} {k:Int} {A:Option Addr} {kids:List Ex} {cap:Nat} {w:À} (he:Env w own mb sb c p sc) (hx:ExsR w (im own w) (.slice A kids cap) kids) (hi:i64 k) (hg:im own w gk) (hh:im own w gr) (hgk:w.cell? gk=some (k:Vl))
include he hx hi hg hh hgk
variable {x:Int} {wv:Value}
theorem fixed156 {op m:Int} {s:Ê} {b:Bool} (hgr:w.cell? gr=some (.func (.func 156) #[] #[])) (hc:∀W,Below w w W->w.heap.size+1<W->Calls prog 156 #[sb,.agg (ex5 op x m s A kids cap)] W (ResB W (plus own (w+1)) mb sb sc b)):
 Calls prog 197 #[sb,.agg (ex5 op x m s A kids cap),wv,gk,gr] w (ResF w own mb sb sc (fixT k b)):=by
 have kk0:=trivial;exact zfFixS
theorem fixed157 {op m:Int} {s:Ê} {b:Bool} (hgr:w.cell? gr=some (.func (.func 157) #[] #[])) (hc:∀W,Below w w W->w.heap.size+1<W->Calls prog 157 #[sb,.agg (ex5 op x m s A kids cap)] W (ResB W (plus own (w+1)) mb sb sc b)):
 Calls prog 197 #[sb,.agg (ex5 op x m s A kids cap),wv,gk,gr] w (ResF w own mb sb sc (fixT k b)):=by
 have kk1:=trivial;exact zfFixS
theorem fixed158 {op m:Int} {s:Ê} {b:Bool} (hgr:w.cell? gr=some (.func (.func 158) #[] #[])) (hc:∀W,Below w w W->w.heap.size+1<W->Calls prog 158 #[sb,.agg (ex5 op x m s A kids cap)] W (ResB W (plus own (w+1)) mb sb sc b)):
 Calls prog 197 #[sb,.agg (ex5 op x m s A kids cap),wv,gk,gr] w (ResF w own mb sb sc (fixT k b)):=by
 have kk2:=trivial;exact zfFixS
theorem fixed159 {op m:Int} {s:Ê} {b:Bool} (hgr:w.cell? gr=some (.func (.func 159) #[] #[])) (hc:∀W,Below w w W->w.heap.size+1<W->Calls prog 159 #[sb,.agg (ex5 op x m s A kids cap)] W (ResB W (plus own (w+1)) mb sb sc b)):
 Calls prog 197 #[sb,.agg (ex5 op x m s A kids cap),wv,gk,gr] w (ResF w own mb sb sc (fixT k b)):=by
 have kk3:=trivial;exact zfFixS
end
end
section
set_option maxRecDepth 1000000 in
def zfFixT {p:Prop} (h:p:=by
 have D:=η he.mb.1;have G:=he.mb.2;have y:gk≠mb:=λe=>hg.2 (by rw[e];exact he.mb.1);have v:gr≠mb:=λe=>hh.2 (by rw[e];exact he.mb.1);have H:gk<w:=hg.1;have F:gr<w:=hh.1;obtain⟨a,i⟩:=γ ((w.alloc (.cells #[op,x,m,s,.slice A kids cap] 43)).alloc (.cells #[(0:Int),"",()] 40))
 have j:Below w w a:=by rw[i];exact ζ2
 have g:Hs a w 43 (ex5 op x m s A kids cap):=by rw[i];exact (Hs.new _ _ _).alloc _
 have l:Hs a (w+1) 40 z3:=by rw[i];exact Hs.new' _ _ _
 have u:w.heap.size+1<a:=by rw[i];simp
 obtain⟨t,r,E,B,z⟩:=zd5 j l hi hc i;have V:=aD (mb:=mb) (rb:=w+1) (belC j hgk) y Φ;have O:=aD (mb:=mb) (rb:=w+1) (belC j hgr) v Φ;have d0:=aD (mb:=mb) (rb:=w+1) (g.c 0) Φ Θ;have d1:=aD (mb:=mb) (rb:=w+1) (g.c 1) Φ Θ;have d2:=aD (mb:=mb) (rb:=w+1) (g.c 2) Φ Θ;have d3:=aD (mb:=mb) (rb:=w+1) (g.c 3) Φ Θ;have Z:=aD (mb:=mb) (rb:=w+1) (g.c 4) Φ Θ;clear he hx hi hg hh hgk hgr hc j g l i
 cases b
 all_goals
  go_in;go_wp2_with fail;rw[<-z.o];refine tkB (λW=>Stp (plus (only mb) (w+1)) a W) Λ (λhHeld=>?_);refine θ ?_;refine tkE 1 (λK hK=>?_);go_simp;(refine (aU _ _).mono ?_;rintro Y N ⟨rfl,d⟩);refine tkR hK ?_ (λhHeld=>?_)
  ·first|exact hHeld.trans (Stm.of_below d)|exact hHeld.trans (Stp.of_below d)
  clear hK K;refine tkE 5 (λK hK=>?_);go_simp;(refine (B _ (bel t (bel (ad _) d)) (ρ u (bel (ad _) d).size)).mono ?_;rintro X M ⟨rfl,f,q⟩;obtain⟨L,J,I,U,T,R⟩:=(r.stp ((Stm.of_below (bel (ad a) d)).trans f) Ω).facts);refine tkR hK ?_ (λhHeld=>?_)
  ·exact hHeld.trans (f.s.wk (λ_ h=>.inl h))
  clear hK K;refine tkE 6 (λK hK=>?_);go_simp;refine tkR hK ?_ (λhHeld=>?_)
  ·exact stpR ι _ _ _ _ _
  clear hK K;refine tkQ 7 ?_;refine tkD ?_;clear hHeld;go_wp2_with fail;first
  | exact bodyPost_ret (am results197 _ _ (w+1) _ _ _ _ _ rfl ((r.stp ((Stm.of_below (bel (ad a) d)).trans f) Ω).set3 _ _ _ _ _)) rfl (aB ((Stm.of_below t).trans ((Stm.of_below (bel (ad a) d)).trans f)) ω ω)
  | exact bodyPost_ret (am results197 _ _ (w+1) _ _ _ _ _ rfl ((r.stp ((Stm.of_below (bel (ad a) d)).trans f) Ω).set3 _ _ _ _ _)) rfl (bo ((Stm.of_below t).trans ((Stm.of_below (bel (ad a) d)).trans f)) ω ω D (cO _ _ k E) (q Υ))) :p:=h
section
variable {c:CB} {p:Pg} {mb:Nat} {own:Nat->Prop} {sb gk gr:Nat} {sc:Sc} {k:Int} {A:Option Addr} {kids:List Ex} {cap:Nat} {w:À} (he:Env w own mb sb c p sc) (hx:ExsR w (im own w) (.slice A kids cap) kids) (hi:i64 k) (hg:im own w gk) (hh:im own w gr) (hgk:w.cell? gk=some (k:Vl))
include he hx hi hg hh hgk
theorem fixed200 {op x m:Int} {s:Ê} {wv:Value} {b:Bool} {g1 g2:Nat} (hgr:w.cell? gr=some (.func (.func 200) #[] #[g1,g2])) (hc:∀W,Below w w W->w.heap.size+1<W->Calls prog 200 #[sb,.agg (ex5 op x m s A kids cap),g1,g2] W (ResB W (plus own (w+1)) mb sb sc b)):
 Calls prog 197 #[sb,.agg (ex5 op x m s A kids cap),wv,gk,gr] w (ResF w own mb sb sc (fixT k b)):=by
 have kk0:=trivial;exact zfFixT
theorem fixed201 {op x m:Int} {s:Ê} {wv:Value} {b:Bool} {g1 g2:Nat} (hgr:w.cell? gr=some (.func (.func 201) #[] #[g1,g2])) (hc:∀W,Below w w W->w.heap.size+1<W->Calls prog 201 #[sb,.agg (ex5 op x m s A kids cap),g1,g2] W (ResB W (plus own (w+1)) mb sb sc b)):
 Calls prog 197 #[sb,.agg (ex5 op x m s A kids cap),wv,gk,gr] w (ResF w own mb sb sc (fixT k b)):=by
 have kk1:=trivial;exact zfFixT
end
end
section
def oneI (l:List Int):Int->Option Value:=λi=>if i∈l then some (true:Vl) else none
def sS (l:List Int) (n:Int):upd (oneI l) n (some (true:Vl))=oneI (n::l):=by
 funext i;unfold upd oneI;by_cases e:i=n
 ·simp[e]
 simp[e]
def i9 (l:List Int) (n:Int):(oneI l n).getD (false:Vl)=.bool (decide (n∈l)):=by
 unfold oneI;by_cases e:n∈l
 ·simp[e]
 simp[e]
def uU (l:List Int) (n:Int):(oneI l n).isSome=decide (n∈l):=by
 unfold oneI;by_cases e:n∈l
 ·simp[e]
 simp[e]
def IntR (cs:List Value) (n:Int):Prop:=cs=[.int .i64 n]/\i64 n
abbrev IntsR (w:À) (P:Nat->Prop) (v:Value) (l:List Int):Prop:=SlR w P 1 IntR v l
variable {w':À}
def IntsR.to {w:À} {P P':Nat->Prop} {v:Value} {l:List Int} (h:IntsR w P v l) (hb:Sub P P' w w'):IntsR w' P' v l:=SlR.to' h hb λ_ _ x=>x
variable {A:Option Addr} {i:Nat}
def mA {w:À} {P:Nat->Prop} {n cap:Nat} {l:List Int} (h:IntsR w P (.slice A n cap) l) (hi:i<l):
 ∃g off,A=some ⟨g,off,none⟩/\P g/\w.cell? ⟨g,off+i,none⟩=some (.int .i64 l[i])/\i64 l[i]:=by
 obtain⟨g,off,j,e,b,⟨rfl,a⟩,f,d⟩:=SlR.at h hi;exact⟨g,off,e,b,by simpa using d 0 _ rfl,a⟩
structure ArmRel (mb:Nat) (own:Nat->Prop) (Rel:À->À->Prop):Prop where
 refl:∀w,Rel w w
 trans:∀{a b c},Rel a b->Rel b c->Rel a c
 bel:∀{a b c},Rel a b->Below a b c->Rel a c
 stm:∀{a b c},Rel a b->Stm mb b c->Rel a c
 stp:∀{a b},Rel a b->Stp own a b
def InvOk {σ:Type} (mb:Nat) (own:Nat->Prop) (Inv:(Nat->Prop)->σ->À->Prop):Prop:=
 ∀(O O':Nat->Prop) (st:σ) (w w':À),Inv O st w->Sub (im O w) (im O' w') w w'->(∀b,own b->b≠mb->w'.heap[b]?=w.heap[b]?)->(∀b,own b->O' b)->Inv O' st w'
def kO {σ:Type} (own:Nat->Prop) (mb sb:Nat) (Rel:À->À->Prop) (Inv:(Nat->Prop)->σ->À->Prop) (sc:Sc) (w:À) (r:Option σ) (e:Ending) (w':À):Prop:=
 Rel w w'/\e=.returned (r.isSome:Vl)/\∀st,r=some st->Inv own st w'/\ScS w' own mb sb sc
def mq {σ:Type} (call:Int->À->(Ending->À->Prop)->Prop) (N:Nat) (p:Pg) (own:Nat->Prop) (mb sb:Nat) (Rel:À->À->Prop) (Inv:Nat->(Nat->Prop)->σ->À->Prop) (body:σ->Nat->Sc->Option σ) (w0:À):Prop:=
 ∀(i g:Nat) (sc:Sc) (st:σ) (w:À),i<N->w0<=g->g<w->Rel w0 w->Inv i (plus own g) st w->ScS w (plus own g) mb sb sc->ScOk p sc ->
  call (i:Int) w (kO (plus own g) mb sb Rel (Inv (i+1)) sc w (body st i sc))
def jK (sc:Sc) (ctors:List Ctr) (seen:List Int) (n m:Int):Bool:=(decide (n≠-1)&&!az n ctors)||decide (m<0)||decide (sc.slots<m)||decide (-1∈seen)||decide (n∈seen)
def kZ (ctors:List Ctr) (n:Int):List Fld:=if n=-1 then [] else (match ctors[n.toNat]? with|none=>[]|some c=>c.fields)
section
variable {σ:Type} {sc:Sc} {ctors:List Ctr} {body:σ->Nat->Sc->Option σ} {i:Nat} {seen:List Int} {st:σ} {ns ms:List Int} {j:Nat}
def qr (h1:j<ns) (h2:j<ms):bz sc ctors body i seen st ((ns.zip ms).drop j)=if jK sc ctors seen ns[j] ms[j] then none else match bindAll sc ms[j] (kZ ctors ns[j]) with|none=>none|some sc'=>match body st i sc' with|none=>none|some st'=>bz sc ctors body (i+1) (ns[j]::seen) st' ((ns.zip ms).drop (j+1)):=by
 have a:j<(ns.zip ms).length:=by rw[List.length_zip];omega
 rw[bk a,List.getElem_zip,bz];rfl
def oW (h1:¬j<ns):bz sc ctors body i seen st ((ns.zip ms).drop j)=if decide (-1∈seen)||decide (seen.length=ctors) then some st else none:=by
 rw[ε (by rw[List.length_zip];omega),bz]
end
variable {sc sc1:Sc} {l:List Fld}
def lz {m:Int} {f:Fld} (h:bindAll sc m l=some sc1):bindAll sc m (l++[f])=sc1.bind (m+l) f.type:=by
 induction l generalizing sc m with
 | nil=>injection h with h;subst h;simp[bindAll];cases sc.bind m f.type<;>rfl
 | cons x l ih =>
  rw[List.cons_append,bindAll];rw[bindAll] at h
  cases hb:sc.bind m x.type with
  | none=>rw[hb] at h;cases h
  | some sc' =>
   rw[hb] at h;show bindAll sc' (m+1) (l++[f])=_;rw[ih h];simp only[δ];congr 1;omega
def ny {m:Int} {r:List Fld} (h:bindAll sc m l=none):bindAll sc m (l++r)=none:=by
 induction l generalizing sc m with
 | nil=>cases h
 | cons x l ih =>
  rw[List.cons_append,bindAll];rw[bindAll] at h
  cases hb:sc.bind m x.type with
  | none=>rfl
  | some sc'=>rw[hb] at h;exact ih h
structure Bound (sc sc1:Sc) (m:Int) (t:Nat):Prop where
 slots:sc1.slots=sc.slots
 vars:sc1.vars=sc.vars
 actor:sc1.actor=sc.actor
 oo:∀j,¬(m<=j/\j<m+t)->sc1.bound j=sc.bound j
 free:∀j,m<=j/\j<m+t->sc.bound j=none
 le:t=0\/m+t<=sc.slots
def Bound.o {m:Int} {t:Nat} (h:Bound sc sc1 m t):∀j,¬(m<=j/\j<m+t)->sc1.bound j=sc.bound j:=h.oo
variable {t:Ty}
def mV {i:Int} (h:sc.bind i t=some sc1):sc.bindB i=true/\sc1=sc.set i t:=by
 unfold Sc.bind at h;split at h
 ·rename_i a;injection h with h;exact⟨a,h.symm⟩
 cases h
def jy {m:Int} (h:bindAll sc m l=some sc1):Bound sc sc1 m l:=by
 induction l generalizing sc m with
 | nil=>injection h with h;subst h;exact⟨rfl,rfl,rfl,λ_ _=>rfl,λj hj=>by simp at hj;omega,.inl rfl⟩
 | cons x l ih =>
  rw[bindAll] at h
  cases hb:sc.bind m x.type with
  | none=>rw[hb] at h;cases h
  | some sc' =>
   rw[hb] at h;obtain⟨b,rfl⟩:=mV hb;have a:=ih h;simp only[Sc.bindB,Bool.not_eq_true',Bool.or_eq_false_iff,decide_eq_false_iff_not] at b;obtain⟨⟨d,k⟩,i⟩:=b;have f:sc.bound m=none:=by cases hx:sc.bound m with|none=>rfl|some _=>rw[hx] at d;cases d
   refine⟨a.slots,a.vars,a.actor,λj hj=>?_,λj hj=>?_,.inr ?_⟩
   ·simp only[δ] at hj;rw[a.o j ω];show (if j=m then _ else _)=_;rw[if_neg ω]
   ·simp only[δ] at hj;by_cases e:j=m
    ·subst e;exact f
    have:=a.free j ω;have g:(sc.set m x.type).bound j=sc.bound j:=if_neg e;rw[g] at this;exact this
   simp only[δ];rcases a.le with h0|h0
   ·rw[h0];omega
   have:(sc.set m x.type).slots=sc.slots:=rfl;omega
def Sc.unsetTo (sc:Sc) (m:Int) (t:Nat):Sc:={ sc with bound:=λj=>if m<=j/\j<m+t then none else sc.bound j }
def lg (sc:Sc) (m:Int):sc.unsetTo m 0=sc:=by
 unfold Sc.unsetTo
 cases sc
 congr 1;funext j;rw[if_neg ω]
def li (sc:Sc) (m:Int) (t:Nat):(sc.unsetTo m t).unset (m+t)=sc.unsetTo m (t+1):=by
 unfold Sc.unsetTo Sc.unset;congr 1;funext j;by_cases e:j=m+t
 ·subst e;rw[if_pos rfl,if_pos ω]
 simp only[e,if_false];by_cases h:m<=j/\j<m+t
 ·rw[if_pos h,if_pos ω]
 rw[if_neg h,if_neg ω]
def mY {m:Int} {t:Nat} (h:Bound sc sc1 m t):sc1.unsetTo m t=sc:=by
 have g:=h.slots;have f:=h.vars;have d:=h.actor;have b:=h.o;have a:=h.free;unfold Sc.unsetTo
 cases sc
 cases sc1
 simp only at g f d b a ⊢;subst g f d;congr 1;funext j;by_cases e:m<=j/\j<m+t
 ·rw[if_pos e,a j e]
 rw[if_neg e,b j e]
theorem ScOk.bindAll {p:Pg} {m:Int} (h:ScOk p sc) (hl:∀f∈l,ag f.type=true) (hb:bindAll sc m l=some sc1):ScOk p sc1:=by
 induction l generalizing sc m with
 | nil=>injection hb with hb;subst hb;exact h
 | cons x l ih =>
  rw[Go.Proofs.YtjohpidklbhmcaaGreatDoor.bindAll] at hb
  cases hx:sc.bind m x.type with
  | none=>rw[hx] at hb;cases hb
  | some sc' =>
   rw[hx] at hb;obtain⟨_,rfl⟩:=mV hx;exact ih (h.set (hl x Θ)) (λf hf=>hl f (by simp[hf])) hb
def varP_mem {p:Pg} {cs:List Ctr} (h:varP p t=some cs):∃d∈p.types,d.ctors=cs:=by
 unfold varP at h;split at h
 ·split at h
  ·cases h
  split at h
  ·cases h
  rename_i d a;split at h
  ·cases h
  injection h with h;exact⟨d,List.mem_of_getElem? a,h⟩
 cases h
def lB {p:Pg} {cs:List Ctr} (hF:Fine p) (h:varP p t=some cs) (n:Int):∀f∈kZ cs n,ag f.type=true:=by
 obtain⟨d,e,rfl⟩:=varP_mem h;intro f a;unfold kZ at a;split at a
 ·cases a
 split at a
 ·cases a
 rename_i k b;exact hF.flds d e k (List.mem_of_getElem? b) f a
section
variable {σ:Type} {mb:Nat} {own:Nat->Prop} {Inv:(Nat->Prop)->σ->À->Prop} {Rel:À->À->Prop} {st:σ} {w w':À}
def InvOk.stm (h:InvOk mb own Inv) {O:Nat->Prop} (hs:Stm mb w w') (hO:∀b,own b->O b) (hmb:own mb) (hl:∀b,own b->b<w.heap.size) (hi:Inv O st w):Inv O st w':=
 h O O st w w' hi (hs.subO (hO _ hmb)) (λb hb hne=>hs.s.block b (hl b hb) hne) hO
variable {g:Nat}
def InvOk.grow (h:InvOk mb own Inv) (hs:w.grownBy w' (some g)) (hl:∀b,own b->b<w.heap.size) (hg:¬own g) (hi:Inv (plus own g) st w):Inv (plus own g) st w':=
 h _ _ st w w' hi (stpG (own:=plus own g) (Stp.refl _ _) hs (λr e=>by injection e with e;subst e;exact .inl (.inr rfl))).sub (λb hb _=>hs.block b (hl b hb) (λe=>hg (by injection e with e;subst e;exact hb))) (λb hb=>.inl hb)
def InvOk.add (h:InvOk mb own Inv) (hs:Below w w w') (hg:w<=g) (hl:∀b,own b->b<w.heap.size) (hi:Inv own st w):Inv (plus own g) st w':=
 h _ _ st w w' hi (aV hs hg) (λb hb _=>hs.block b (hl b hb)) (λb hb=>.inl hb)
def InvOk.less (h:InvOk mb own Inv) (hi:Inv (plus own g) st w):Inv own st w:=
 h _ _ st w w hi oK (λ_ _ _=>rfl) (λb hb=>hb)
end
variable {sb g:Nat}
def ScS.grown {w:À} {own:Nat->Prop} {mb:Nat} (h:ScS w (plus own g) mb sb sc) (hs:w.grownBy w' (some g)) (hg:g≠mb):ScS w' (plus own g) mb sb sc:=by
 have b:mb<w:=by obtain⟨_,_,_,_,x⟩:=h;exact x.map.lt
 have a:plus own g mb:=by obtain⟨_,_,_,_,x⟩:=h;exact x.om
 exact h.sub (stpG (own:=plus own g) (Stp.refl _ _) hs (λr e=>by injection e with e;subst e;exact .inl (.inr rfl))).sub (hs.block mb b (λe=>by injection e with e;exact hg e.symm)) a
def ScS.less {w:À} {own:Nat->Prop} {mb:Nat} (h:ScS w (plus own g) mb sb sc) (ho:own mb):ScS w own mb sb sc:=h.sub oK rfl ho
def dE {own:Nat->Prop} {w:À} (hs:Stp own w w') (hg:w<=g):Sub (im own w) (im (plus own g) w') w w':=λb h=>⟨⟨ρ h.1 hs.size,λx=>by rcases x with x|x;exact h.2 x;have:=h.1;omega⟩,hs.block b h.1 h.2⟩
def ScS.slots {w:À} {own:Nat->Prop} {mb:Nat} (h:ScS w own mb sb sc):w.cell? sb=some (sc.slots:Vl)/\sc.slots<=32768/\sb≠mb:=by
 obtain⟨_,_,_,_,x⟩:=h;exact⟨x.c0,x.sl,λe=>x.isb.2 (by rw[e];exact x.om)⟩
set_option maxRecDepth 100000
set_option maxHeartbeats 2000000
section
variable {W:À} {own:Nat->Prop} {mb sb:Nat} {c:CB} {p:Pg} {sc:Sc} {wv:Value} {want:Option Ty} {n:Nat}
variable {cs:List Value}
def exprA2 (IH:xG c p mb n) (h:Env W own mb sb c p sc) (ho:ScOk p sc) (hw:WantR W (im own W) wv want) (hwo:aL want) {e:Ex} (hd:Ex.deep e<=n) (hr:ExR W (im own W) cs e):
 Calls prog 141 #[c.b,sb,cs.toArray,wv] W.drew (rK W own mb sb sc (aa p n sc e want)):=
 (IH own sb sc cs e wv want _ hd (h.bel (ad W)) ho (hr.to (sof (ad W)).sub) (hw.to (sof (ad W)).sub) hwo).mono λ_ _ hx=>fV hx (ad W)
def exprB2 (IH:xG c p mb n) (h:Env W own mb sb c p sc) (ho:ScOk p sc) (hw:WantR W (im own W) wv want) (hwo:aL want) {e:Ex} (hd:Ex.deep e<=n) (hr:ExR W (im own W) cs e):
 Calls prog 141 #[c.b,sb,cs.toArray,wv] ((W.alloc (.cells z3 40)).drew) (rJ W own mb sb sc (aa p n sc e want)):=
 have B:Below W W ((W.alloc (.cells z3 40)).drew):=belA (ad W) _
 (IH (plus own W) sb sc cs e wv want _ hd (h.plus B (υ _) Θ) ho (hr.to (aV B (υ _))) (hw.to (aV B (υ _))) hwo).mono λ_ _ hx=>fg hx h.mb.2
def hasA2 (IH:xG c p mb n) (h:Env W own mb sb c p sc) (ho:ScOk p sc) {e:Ex} (hd:Ex.deep e<=n) (hr:ExR W (im own W) cs e):
 Calls prog 170 #[c.b,sb,cs.toArray] W.drew (rK W own mb sb sc (aa p n sc e none)):=
 (fk IH hd (h.bel (ad W)) ho (hr.to (sof (ad W)).sub)).mono λ_ _ hx=>fV hx (ad W)
def hasB2 (IH:xG c p mb n) (h:Env W own mb sb c p sc) (ho:ScOk p sc) {e:Ex} (hd:Ex.deep e<=n) (hr:ExR W (im own W) cs e):
 Calls prog 170 #[c.b,sb,cs.toArray] ((W.alloc (.cells z3 40)).drew) (rJ W own mb sb sc (aa p n sc e none)):=
 have B:Below W W ((W.alloc (.cells z3 40)).drew):=belA (ad W) _
 (fk IH hd (h.plus B (υ _) Θ) ho (hr.to (aV B (υ _)))).mono λ_ _ hx=>fg hx h.mb.2
end
def QB (w:À) (qb:Nat):Prop:=∃k s A n cap,Hs w qb 40 (ty3 k s A n cap)
structure RelM (mb qb:Nat) (a b:À):Prop where
 s:Stp (plus (only mb) qb) a b
 m:MapW a mb->MapW b mb
 q:QB a qb->QB b qb
def MapW.lt {w:À} {mb:Nat} (h:MapW w mb):mb<w:=by obtain⟨_,_,h⟩:=h;exact h.lt
def MapW.same {w:À} {mb:Nat} (h:MapW w mb) (e:w'.heap[mb]?=w.heap[mb]?):MapW w' mb:=by obtain⟨n,f,h⟩:=h;exact⟨n,f,h.same e⟩
def QB.lt {w:À} {mb:Nat} (h:QB w mb):mb<w:=by obtain⟨_,_,_,_,_,h⟩:=h;exact h.lt
def QB.same {w:À} {mb:Nat} (h:QB w mb) (e:w'.heap[mb]?=w.heap[mb]?):QB w' mb:=by obtain⟨a,b,c,d,f,h⟩:=h;exact⟨a,b,c,d,f,e.trans h⟩
variable {qb:Nat}
def RelM.of_stm {mb:Nat} {a b:À} (hne:qb≠mb) (h:Stm mb a b):RelM mb qb a b:=⟨h.s.wk λ_ x=>.inl x,h.m,λx=>x.same (h.s.block qb x.lt (by unfold only;exact hne))⟩
def relM_arm {mb:Nat} {own:Nat->Prop} (hm:own mb) (hq:own qb) (hne:qb≠mb):ArmRel mb own (RelM mb qb) where
 refl w:=⟨Stp.refl _ _,id,id⟩
 trans h k:=⟨h.s.trans k.s,λx=>k.m (h.m x),λx=>k.q (h.q x)⟩
 bel h k:=⟨⟨k.os.trans h.s.os,k.tape.trans h.s.tape,k.output.trans h.s.output,ψ h.s.size k.size,λb hb ho=>(k.block b hb).trans (h.s.block b hb ho)⟩,λx=>(h.m x).same (k.block mb x.lt),λx=>(h.q x).same (k.block qb x.lt)⟩
 stm h k:=let r:=RelM.of_stm (qb:=qb) hne k;⟨h.s.trans r.s,λx=>r.m (h.m x),λx=>r.q (h.q x)⟩
 stp h:=h.s.wk λb x=>by rcases x with x|x;(unfold only at x;rw[x];exact hm);(rw[x];exact hq)
def im_set {O:Nat->Prop} {w:À} (h:O g) (k:Int) (s:Ê) (A:Option Addr) (n cap:Nat):Sub (im O w) (im O (set3 w g k s A n cap)) w (set3 w g k s A n cap):=λb hb=>⟨⟨by rw[bQ];exact hb.1,hb.2⟩,aq w g b k s A n cap (λe=>hb.2 (by rw[e];exact h))⟩
def InvM (qb i:Nat) (O:Nat->Prop) (st:Ty) (w:À):Prop:=O qb/\(0<i->ag st=true)/\∃k s A n cap,Hs w qb 40 (ty3 k s A n cap)/\TyR w (im O w) [.int .i64 k,.string s,.slice A n cap] st
def invM_ok {mb:Nat} {own:Nat->Prop} (hq:own qb) (hne:qb≠mb) (i:Nat):InvOk mb own (InvM qb i):=by
 intro O p j w h ⟨l,g,k,s,A,n,cap,d,a⟩ b e f;exact⟨f qb hq,g,k,s,A,n,cap,(e qb hq hne).trans d,a.to b⟩
variable {E:EF} {want:Option Ty}
def qJ {arms:List Ex} {st:Ty} {kd:Ex} (hi:i<arms) (hk:arms[i].kids=[kd]):cE E want arms st i sc=if i=0 then E sc kd want else if isE E sc kd st then some st else none:=by
 unfold cE;rw[ξ hi];simp only[hk]
def body199 {c:CB} {p:Pg} {mb n:Nat} (IH:xG c p mb n) (hF:aO p n) {O:Nat->Prop} {b1 b2 b3 b5:Nat} {arms:List Ex} {cap:Nat} {wv:Value} {kd:Ex} {st:Ty} {w:À} (he:Env w O mb sb c p sc) (ho:ScOk p sc) (h1:im O w b1) (c1:w.cell? b1=some (c.b:Vl)) (h2:im O w b2) (c2:w.cell? b2=some (sb:Vl)) (h3:im O w b3) (c3:w.cell? b3=some (.slice A arms.length cap)) (h5:im O w b5) (c5:w.cell? b5=some wv) (hqm:qb≠mb) (hin:InvM qb i O st w) (hx:ExsR w (im O w) (.slice A arms.length cap) arms) (hi:i<arms.length) (hka:arms[i].kids=[kd]) (hd:Ex.deep kd<=n) (hw:WantR w (im O w) wv want) (hwo:aL want):
 Calls prog 199 #[.int .i64 i,b1,b2,b3,qb,b5] w (kO O mb sb (RelM mb qb) (InvM qb (i+1)) sc w (cE (aa p n) want arms st i sc)):=by
 have HV:=η (qJ (E:=aa p n) (want:=want) (st:=st) (sc:=sc) hi hka);obtain⟨an,al,k4,s4,A4,n4,ci,J,ai⟩:=hin;have l:=he.mb;obtain⟨g,cq,o1,x1,m1,s1,a1,B1,bh,rfl,hg,e1,p0,p1,p2,p3,Z,hr⟩:=aQ hx hi;obtain⟨a7,n',m',s',a',A',az,ee,e2,_,_,ah⟩:=dJ hr;obtain⟨rfl,rfl,rfl,rfl,rfl,am,rfl⟩:o1=a7/\x1=n'/\m1=m'/\s1=s'/\B1=A'/\a1.length=a'.length/\bh=az:=by simpa using ee
 have bf:a'=[kd]:=by have:=hka;rw[e2] at this;exact this
 subst bf;obtain⟨g2,b6,o2,x2,m2,s2,a2,B2,cs,rfl,ak,e3,F,D,B,Y,X,H⟩:=aQ ah (i:=0) Θ;simp only[Nat.zero_mul,Nat.add_zero,List.getElem_cons_zero] at F D B Y X H;rw[am] at Z;have a9:g≠mb:=λe=>hg.2 (by rw[e];exact l.1);have f:g2≠mb:=λe=>ak.2 (by rw[e];exact l.1);have be:b1≠mb:=λe=>h1.2 (by rw[e];exact l.1);have bd:b2≠mb:=λe=>h2.2 (by rw[e];exact l.1);have bc:b3≠mb:=λe=>h3.2 (by rw[e];exact l.1);have bb:b5≠mb:=λe=>h5.2 (by rw[e];exact l.1);replace Z:=stpC Z a9;replace F:=stpC F f;replace D:=stpC D f;replace B:=stpC B f;replace Y:=stpC Y f;replace X:=stpC X f;replace c1:=stpC c1 be;replace c2:=stpC c2 bd;replace c3:=stpC c3 bc;replace c5:=stpC c5 bb;obtain⟨y0,y1,y2,_,_,_⟩:=J.facts;replace y0:=stpC y0 hqm;replace y1:=stpC y1 hqm;replace y2:=stpC y2 hqm;obtain⟨z,HF,HE,t,y,bm,HH,HT⟩:=zd8 IH hF he ho an al J ai;obtain⟨HR,HD,ao,L,N⟩:=zd5 H hd hw hwo l.1;have cr:=l.2;have j0:(0:Int)<=(i:Int):=ω;have j1:(i:Int)<(arms.length:Int):=ω;clear IH hF he ho an al J ai hr H hd hw hwo l hka hx h1 h2 h3 h5 e1 e2 e3 ee am ah p0 p1 p2 p3 hg ak;by_cases I:i=0
 ·subst I;have j:Hid (cE (aa p n) want arms st 0 sc=aa p n sc kd want):=by show _=_;rw[HV.o,if_pos rfl]
  clear HV;obtain⟨V,aj⟩:=γ (aa p n sc kd want)
  have q:=η aj;clear aj;go_in;go_upto_region 3 with fail;go_cut [8,9] (λv1 v2 W=>Hid (Got w O mb sb sc V v1 v2 W))
  case first =>
   go_region_held3 (λW=>Stm mb w W) (first|exact bq _ _|exact smDr _ _|exact a|exact smA ι _|exact (smA (Stm.refl _ _) _).trans (smDr _ _)|exact smS a (υ _) ω _ _ _ _ _)
    (first|(go_at_call 141;refine (exprB2 z.o HE.o t.o ao.o L.o HD.o HR.o).mono ?_;rw[<-q.o];rintro e3 w3 ⟨k3,s3,A3,n3,ax,rfl,a,r,k⟩;obtain⟨z0,z1,z2,F,D,B⟩:=r.facts)|(go_at_call 141;refine (exprA2 z.o HE.o t.o ao.o L.o HD.o HR.o).mono ?_;rw[<-q.o];rintro e3 w3 ⟨k3,s3,A3,n3,ax,rfl,a,k⟩))
   all_goals
    go_wp2;go_meet;first|exact gotA a k|exact gotB a ω N.o r k
  case rest =>
  obtain⟨a,cp,k2,s2,A2,n2,ay,rfl,cf,r,rfl,k⟩:=hcut.o;obtain⟨v,bj,ap⟩:=zd3 a r k;clear hcut a r k c1 c2 c3 c5 Z F D B Y X y0 y1 y2;obtain⟨U,rfl⟩:=γ wc
  have R:=η (HH.o.stp v.o (by unfold only;exact hqm));obtain⟨z0,z1,z2,f0,f1,f2⟩:=R.o.facts;obtain⟨v0,v1,v2,_,_,_⟩:=bj.o.facts;have M:Hid (RelM mb qb w (set3 U qb k2 s2 A2 n2 ay)):=⟨⟨v.o.s.os,v.o.s.tape,v.o.s.output,by rw[bQ];exact v.o.s.size,λb hb hx=>(aq U qb b _ _ _ _ _ (λe=>hx (.inr e))).trans (v.o.s.block b hb (λe=>hx (.inl e)))⟩,λx=>(v.o.m x).same (aq U qb mb _ _ _ _ _ (λe=>hqm e.symm)),λ_=>⟨_,_,_,_,_,R.o.set3 _ _ _ _ _⟩⟩
  cases V with
  | none =>
   go_wp2;go_ret;rw[j.o,<-q.o];exact⟨M.o,rfl,λ_ h=>by cases h⟩
  | some t1 =>
   have bl:=η (HF.o sc kd want t1 t.o L.o q.o.symm);go_wp2;go_ret;rw[j.o,<-q.o]
   exact⟨M.o,rfl,λu h=>by
    injection h with h;subst h;exact⟨⟨y.o,λ_=>bl.o,_,_,_,_,_,R.o.set3 _ _ _ _ _,(ap.o _ rfl).1.to (im_set y.o _ _ _ _ _)⟩,(ap.o _ rfl).2.sub (im_set y.o _ _ _ _ _) (aq U qb mb _ _ _ _ _ (λe=>hqm e.symm)) N.o⟩⟩
 have u3:0<i:=ω;have j:Hid (cE (aa p n) want arms st i sc=if isE (aa p n) sc kd st then some st else none):=by show _=_;rw[HV.o,if_neg I]
 have T:=η (bm.o ω);clear HV I
 cases h4:isE (aa p n) sc kd st with
 | false =>
  rw[h4] at j;have H4:=η h4;clear h4;go_in;go_upto_region 2 with fail
  go_region_held3 (λW=>Stm mb w W) (first|exact smDr _ _|exact Stm.trans ι d)
   (first|(go_at_call 105;refine (bA z.o HD.o (HE.o.bel (ad _)) t.o (HR.o.to (sof (ad _)).sub) (HT.o.to (sof (ad _)).sub) T.o).mono ?_;rw[H4.o];rintro e2 w5 ⟨rfl,d,G⟩))
  go_wp2;go_ret;rw[j.o];exact⟨RelM.of_stm hqm ((smDr _ _).trans d),rfl,λ_ h=>by cases h⟩
 | true =>
  rw[h4] at j;have H4:=η h4;clear h4;go_in;go_upto_region 2 with fail
  go_region_held3 (λW=>Stm mb w W) (first|exact smDr _ _|exact Stm.trans ι d)
   (first|(go_at_call 105;refine (bA z.o HD.o (HE.o.bel (ad _)) t.o (HR.o.to (sof (ad _)).sub) (HT.o.to (sof (ad _)).sub) T.o).mono ?_;rw[H4.o];rintro e2 w5 ⟨rfl,d,G⟩))
  go_wp2;go_ret;rw[j.o]
  exact⟨RelM.of_stm hqm ((smDr _ _).trans d),rfl,λu h=>by
   injection h with h;subst h;exact⟨⟨y.o,λ_=>T.o,_,_,_,_,_,HH.o.stp ((smDr _ _).trans d) (by unfold only;exact hqm),HT.o.to (((smDr _ _).trans d).subO N.o)⟩,G Υ⟩⟩
structure Pm (W:À) (own:Nat->Prop) (w:À) (mb eb rb:Nat) (cs:Array Value):Prop where
 st:Stm mb w W
 bx:Hs W eb 43 cs
 rs:Hs W rb 40 z3
def Fst (own:Nat->Prop) (w:À) (mb sb eb rb fb:Nat) (cs:Array Value) (sc:Sc) (r:Option Ty) (v:Value) (W:À):Prop:=
 v=.bool r.isSome/\Pm W own w mb eb rb cs/\∃k s A n cap,Hs W fb 40 (ty3 k s A n cap)/\∀t,r=some t->TyR W (im (plus own rb) W) [.int .i64 k,.string s,.slice A n cap] t/\ScS W (plus own rb) mb sb sc
def Snd (own:Nat->Prop) (w:À) (mb sb eb rb qb:Nat) (cs:Array Value) (sc:Sc) (others:List Ty) (res:Ty) (v:Value) (W:À):Prop:=
 Pm W own w mb eb rb cs/\qb<W/\ScS W (plus own rb) mb sb sc/\(∃A cap,v=.slice A others cap/\TysR W (im (plus own rb) W) (.slice A others cap) others)/\∃k s A n cap,Hs W qb 40 (ty3 k s A n cap)/\TyR W (im (plus own rb) W) [.int .i64 k,.string s,.slice A n cap] res
variable {W:À} {cs:Array Value}
def Pm.set {own:Nat->Prop} {w:À} {mb eb rb fb:Nat} (h:Pm W own w mb eb rb cs) (hf:w<=fb) (h1:fb≠eb) (h2:fb≠rb) (h3:fb≠mb) (k:Int) (s:Ê) (A:Option Addr) (n cap:Nat):Pm (set3 W fb k s A n cap) own w mb eb rb cs:=
 ⟨smS h.st hf (λe=>h3 e.symm) _ _ _ _ _,(aq W fb eb _ _ _ _ _ (λe=>h1 e.symm)).trans h.bx,(aq W fb rb _ _ _ _ _ (λe=>h2 e.symm)).trans h.rs⟩
def Pm.stm {W':À} {own:Nat->Prop} {w:À} {mb eb rb:Nat} (h:Pm W own w mb eb rb cs) (hs:Stm mb W W') (h1:eb≠mb) (h2:rb≠mb):Pm W' own w mb eb rb cs:=
 ⟨h.st.trans hs,h.bx.stp hs (by unfold only;exact h1),h.rs.stp hs (by unfold only;exact h2)⟩
variable {x:Int}
def gA {kids:List Ex} (h:0<kids.length):aP E sc x want kids=match aY E sc x want kids[0] with|none=>none|some t=>match bi x t with|none=>none|some (others,r)=>if others.length=kids.length-1 then (if aR E sc (kids.drop 1) others then some r else none) else none:=by
 match kids,h with
 | k0::ks,_=>rfl
def dM (x:Int) (want:Option Ty):Option Ty:=match want with|none=>none|some u=>if u.kind=5/\(x=3\/x=4) then some u else none
variable {k0:Ex}
def ig (h:x=1\/x=2\/x=3\/x=4):aY E sc x want k0=match E sc k0 (dM x want) with|none=>none|some t=>if t.kind=5 then some t else none:=by
 unfold aY;rw[if_pos h];rfl
def kV (h:x=5\/x=6):aY E sc x want k0=E sc k0 (some (bTy 4)):=by
 unfold aY;rw[if_neg ω,if_pos h]
def qm (h:x=7):aY E sc x want k0=E sc k0 (some (bTy 3)):=by
 unfold aY;rw[if_neg ω,if_neg ω,if_pos h]
def pp (h:¬(x=1\/x=2\/x=3\/x=4\/x=5\/x=6\/x=7)):aY E sc x want k0=none:=by
 unfold aY;rw[if_neg ω,if_neg ω,if_neg ω]
def dz {p:Pg} {n:Nat} (hF:aO p n) (ho:ScOk p sc) (hw:aL want) (h:aY (aa p n) sc x want k0=some t):ag t=true/\(x=1\/x=2\/x=3\/x=4\/x=5\/x=6\/x=7)/\(x=1\/x=2\/x=3\/x=4->t.kind=5):=by
 by_cases a:x=1\/x=2\/x=3\/x=4
 ·rw[ig a] at h
  cases hr:aa p n sc k0 (dM x want) with
  | none=>rw[hr] at h;cases h
  | some T =>
   rw[hr] at h;simp only at h;split at h
   ·rename_i b;injection h with h;subst h;refine⟨hF sc k0 _ _ ho (λu hu=>?_) hr,ω,λ_=>b⟩;unfold dM at hu
    cases want with
    | none=>cases hu
    | some v =>
     simp only at hu;split at hu
     ·injection hu with hu;subst hu;exact hw _ rfl
     cases hu
   cases h
 by_cases e:x=5\/x=6
 ·rw[kV e] at h;exact⟨hF sc k0 _ _ ho (λu hu=>by injection hu with hu;rw[<-hu];rfl) h,ω,λh=>absurd h a⟩
 by_cases d:x=7
 ·rw[qm d] at h;exact⟨hF sc k0 _ _ ho (λu hu=>by injection hu with hu;rw[<-hu];rfl) h,ω,λh=>absurd h a⟩
 rw[pp ω] at h;cases h
def eI {k:Int} {s:Ê} {a:List Ty} (h:ag (.mk k s a)=true) (hk:Ty.kind (.mk k s a)=5):∃u,a=[u]:=by
 have b:k=5:=hk;subst b;rw[ag] at h;simp at h;match a,h.1.2 with
 | [u],_=>exact⟨u,rfl⟩
def dN {others:List Ty} {res:Ty} (h:ag t=true) (hp:bi x t=some (others,res)):∀u∈others,ag u=true:=by
 unfold bi at hp;have d:ag (bTy 3)=true:=rfl
 have f:∀v,t.args[0]?=some v->ag v=true:=by
  cases t with
  | mk k s a=>intro v e;exact eM h v (List.mem_of_getElem? e)
 split at hp
 ·injection hp with hp;injection hp with h1 h2;subst h1;intro u b;cases b
 split at hp
 ·cases hq:t.args[0]? with
  | none=>rw[hq] at hp;cases hp
  | some v=>rw[hq] at hp;injection hp with hp;injection hp with h1 h2;subst h1;intro u b;simp at b;subst b;exact d
 split at hp
 ·cases hq:t.args[0]? with
  | none=>rw[hq] at hp;cases hp
  | some v=>rw[hq] at hp;injection hp with hp;injection hp with h1 h2;subst h1;intro u b;simp at b;rcases b with rfl|rfl;exact d;exact f _ hq
 split at hp
 ·injection hp with hp;injection hp with h1 h2;subst h1;intro u b;simp at b;subst b;exact d
 split at hp
 ·injection hp with hp;injection hp with h1 h2;subst h1;intro u b;cases b
 cases hp
def cD {q:Nat} {W0:À} {a:Addr} {v:Value} (h:W0.cell? a=some v) (hn:a.block≠q):∀W,Stp (only q) W0 W->W.cell? a=some v:=λW hs=>(hs.cell (World.block_lt_of_cell? W0 a h) (λe=>hn e)).trans h
def stp_set {q:Nat} {W0:À} (h:Stp (only q) W0 W) (k:Int) (s:Ê) (A:Option Addr) (n cap:Nat):Stp (only q) W0 (set3 W q k s A n cap):=⟨h.os,h.tape,h.output,by rw[bQ];exact h.size,λi hi ho=>(aq W q i k s A n cap (λe=>ho e)).trans (h.block i hi ho)⟩
def pa {w:À} {Q:Nat->Prop} {nb:Nat} {k k':Int} {s s':Ê} {A':Option Addr} {n n' cap cap':Nat} {T T':Ty} (hh:Hs w nb 40 #[k,s,.slice A n cap,k',s',.slice A' n' cap']) (hq:Q nb) (ht:TyR w Q [.int .i64 k,.string s,.slice A n cap] T) (ht':TyR w Q [.int .i64 k',.string s',.slice A' n' cap'] T'):TysR w Q (.slice nb 2 2) [T,T']:=by
 refine⟨some ⟨nb,0,none⟩,2,λi=>if i=0 then [.int .i64 k,.string s,.slice A n cap] else [.int .i64 k',.string s',.slice A' n' cap'],rfl,⟨by simp[maxLen],by simp⟩,λ_=>⟨nb,0,rfl,hq,λi hi=>⟨by by_cases e:i=0<;>simp[e],λj u hu=>?_⟩⟩,λi hi=>?_⟩
 ·have a:i=0\/i=1:=by simp at hi;omega
  rcases a with rfl|rfl
  ·rw[show 0+0*3+j=j by omega,hh.cell j];simp only[if_true] at hu;match j,hu with
   | 0,hu=>simpa using hu
   | 1,hu=>simpa using hu
   | 2,hu=>simpa using hu
   | j+3,hu=>simp at hu
  rw[show 0+1*3+j=j+3 by omega,hh.cell (j+3)];simp only[Nat.one_ne_zero,if_false] at hu;match j,hu with
  | 0,hu=>simpa using hu
  | 1,hu=>simpa using hu
  | 2,hu=>simpa using hu
  | j+3,hu=>simp at hu
 have a:i=0\/i=1:=by simp at hi;omega
 rcases a with rfl|rfl
 ·exact ht
 exact ht'
end
