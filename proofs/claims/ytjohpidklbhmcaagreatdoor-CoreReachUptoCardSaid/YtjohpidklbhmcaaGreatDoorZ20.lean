/- Core -/
import Derived.Test.YtjohpidklbhmcaaGreatDoorZ15
namespace Go.Proofs.YtjohpidklbhmcaaGreatDoor
set_option linter.all false
open Go.Proofs.Tryz
set_option maxRecDepth 100000
set_option maxHeartbeats 2000000
open Go.RowKit Go.Maps Go.WideMaps Go.ChangeMaps
variable {k:Int} {A:Option Addr}
def pd {w:World} {Q:Nat->Prop} {nb:Nat} {s:ByteArray} {n cap:Nat} {T:Ty} (hh:Hs w nb 40 (ty3 k s A n cap)) (hq:Q nb) (ht:TyR w Q [.int .i64 k,.string s,.slice A n cap] T):TysR w Q (.slice (some ⟨nb,0,none⟩) 1 1) [T]:=by
 refine⟨some ⟨nb,0,none⟩,1,λ_=>[.int .i64 k,.string s,.slice A n cap],rfl,⟨by simp[maxLen],by simp⟩,λ_=>⟨nb,0,rfl,hq,λi hi=>⟨rfl,λj u hu=>?_⟩⟩,λi hi=>?_⟩
 ·have a:i=0:=by simp at hi;exact hi
  subst a;rw[show 0+0*3+j=j by omega,hh.cell j];simpa using hu
 have a:i=0:=by simp at hi;exact hi
 subst a;exact ht
variable {W:World}
def zq {g:Nat} (h:g<W) (o:Obj) (k:Int) (s:ByteArray) (A:Option Addr) (n cap:Nat):(set3 W g k s A n cap).alloc o=set3 (W.alloc o) g k s A n cap:=by
 unfold set3;rw[World.setCell_alloc_past (w:=W) o g 0 _ h,World.setCell_alloc_past o g 1 _ (by simpa[World.setCell] using h),World.setCell_alloc_past o g 2 _ (by simpa[World.setCell] using h)]
variable {sb:Nat} {sc:Sc}
def sP {w:World} {own:Nat->Prop} {mb rb:Nat} {t:Ty} {s:ByteArray} {n cap:Nat} {o:Obj} (hl:rb<W) (hs:Stm mb w (W.alloc o)) (hr:w<=rb) (hmr:mb≠rb) (ho:own mb) (ht:TyR (W.alloc o) (im (plus own rb) (W.alloc o)) [.int .i64 k,.string s,.slice A n cap] t) (hsc:ScS (W.alloc o) (plus own rb) mb sb sc):
 ResF w own mb sb sc (some t) (.returned (.tuple #[.agg (ty3 k s A n cap),true])) ((set3 W rb k s A n cap).alloc o):=by
 rw[zq hl];exact bo hs hr hmr ho ht hsc
def res_noA {w:World} {own:Nat->Prop} {mb rb:Nat} {s:ByteArray} {n cap:Nat} {o:Obj} (hl:rb<W) (hs:Stm mb w (W.alloc o)) (hr:w<=rb) (hmr:mb≠rb):ResF w own mb sb sc none (.returned (.tuple #[.agg (ty3 k s A n cap),false])) ((set3 W rb k s A n cap).alloc o):=by
 rw[zq hl];exact aB hs hr hmr
def ry {f:Ex->Bool} {l:List Ex} {j:Nat} (h:j<l):(l.drop j).all f=(f l[j]&&(l.drop (j+1)).all f):=by
 rw[bk h,List.all_cons]
def uc {E:EF} {kids:List Ex} (h:0<kids.length):fw E sc kids none=match E sc kids[0] none with|none=>none|some t=>if (kids.drop 1).all (λe=>isE E sc e t) then some (nC t) else none:=by
 match kids,h with
 | k0::ks,_=>rfl
def eg {own:Nat->Prop} {w w':World} {g h:Nat} (hb:Below w w w') (hg:w<=g) (hh:w<=h):Sub (im own w) (im (plus (plus own g) h) w') w w':=λb hx=>⟨⟨ρ hx.1 hb.size,λx=>by rcases x with (x|x)|x;exact hx.2 x;have:=hx.1;omega;have:=hx.1;omega⟩,hb.block b hx.1⟩
def oK {own:Nat->Prop} {w:World} {h:Nat}:Sub (im (plus own h) w) (im own w) w w:=λ_ hx=>⟨⟨hx.1,λx=>hx.2 (.inl x)⟩,rfl⟩
def clo_list {c:CB} {p:Pg} {mb n:Nat} (IH:xG c p mb n) (hF:aO p n) {own:Nat->Prop} {op x m:Int} {s:ByteArray} {kids:List Ex} {cap:Nat} {wv:Value} {want:Option Ty} {w:World} (hd:∀k∈kids,Ex.deep k<=n) (he:Env w own mb sb c p sc) (ho:ScOk p sc) (hx:ExsR w (im own w) (.slice A kids cap) kids) (hw:WantR w (im own w) wv want) (hwo:aL want):
 Calls prog 164 #[c.b,sb,.agg (ex5 op x m s A kids cap),wv] w (ResF w own mb sb sc (fw (aa p n) sc kids want)):=by
 obtain⟨al,HD,HF,X,HO,HW⟩:=zd6 IH hd hF ho he.mb.1 hwo;have c6:=he.mb.2;have dm:=hx.cap;have dw:=hx.le9;obtain⟨F,ai⟩:=γ (((w.alloc (.cells #[op,x,m,s,.slice A kids cap] 43)).alloc (.cells #[(0:Int),.string ⟨#[]⟩,()] 40)).alloc (.cells #[(0:Int),.string ⟨#[]⟩,()] 40))
 have B0:Below w w F:=by rw[ai];exact ζ3
 have c4:w.heap.size+3=F:=by rw[ai];simp
 have b4:Hs F (w+1) 40 z3:=by rw[ai];exact (Hs.new' _ _ _).alloc _
 have b7:Hs F (w+1+1) 40 z3:=by
  rw[ai];have:=Hs.new' (w.alloc (.cells #[op,x,m,s,.slice A kids cap] 43)) (.cells #[(0:Int),.string ⟨#[]⟩,()] 40) z3;simpa using this
 obtain⟨RS,LB,BB,aj,d7⟩:=zd5 b4 b7 B0 (Stm.of_below (mb:=mb) B0) (he.plus B0 (g:=w+1) ω ω);have a6:Hid (Env F (plus (plus own (w+1)) (w+1+1)) mb sb c p sc):=he.sub (eg B0 ω ω) (B0.block mb c6) (.inl (.inl he.mb.1)) (λb hb=>by rcases hb with (hb|hb)|hb;have:=he.ol b hb;omega;omega;omega);obtain⟨bs,cc,df⟩:=zd3 (ExsR.to hx (eg (g:=w+1) (h:=w+1+1) B0 ω ω)) (hw.to (eg (g:=w+1) (h:=w+1+1) B0 ω ω)) ai;clear hd he ho hx hw hwo IH hF ai B0 b4 b7;go_enter func164,ntmps164;go_upto_region 7 with fail;rw[<-df.o]
 cases want with
 | some u =>
  obtain⟨gw,ow,kw,sw,Aw,nw,cw,rfl,d5,w0,w1,w2,b1⟩:=cc.o;obtain⟨k',s',a,A',cr,ee,rfl,_,_,b2⟩:=ap b1;obtain⟨rfl,rfl,rfl,rfl,rfl⟩:kw=k'/\sw=s'/\Aw=A'/\nw=a/\cw=cr:=by simpa using ee
  obtain⟨dh,dk⟩:=zd2 b2 (HW _ rfl);clear ee b2 b1;by_cases h5:kw=5/\a.length=1
  ·obtain⟨rfl,h1⟩:=h5;have t1:((a.length:Int)==1)=true:=beq_iff_eq.2 ω;have b8:0<a.length:=ω;have jl:(0:Int)<(a.length:Int):=ω
   have ak:Hid (fw (aa p n) sc kids (some (.mk 5 sw a))=if kids.all (λe=>isE (aa p n) sc e a[0]) then some (nC a[0]) else none):=by
    match a,h1 with
    | [u0],_=>rfl
   obtain⟨g3,ds,l,d,M,G,B,rfl,d6,e3,v0,v1,v2,b5⟩:=cS dh b8;simp only[Nat.zero_mul,Nat.add_zero] at v0 v1 v2;have a5:=η (eM dk _ (ν b8));obtain⟨z0,z1,z2,q0,q1,q2⟩:=LB.facts;have a0:Hid (TyR (set3 F (w+1+1) l d G M B) (im (plus own (w+1)) (set3 F (w+1+1) l d G M B)) [.int .i64 l,.string d,.slice G M B] a[0]):=b5.to (aG _ _ _ _ _);have Z:Hid (Env (set3 F (w+1+1) l d G M B) (plus own (w+1)) mb sb c p sc):=a6.sub (aG _ _ _ _ _) (aq _ _ _ _ _ _ _ _ ω) (.inl HO) (λb hb=>by rw[bQ];exact a6.ol b (.inl hb));obtain⟨V,HL⟩:=zd2 Z.sco (ExsR.to bs (aG (w:=F) (own:=(plus own (w+1))) (g:=w+1+1) l d G M B));have ay:Hid (Hs (set3 F (w+1+1) l d G M B) (w+1) 40 z3):=(aq F (w+1+1) (w+1) l d G M B ω).trans RS;have az:=η (LB.set3 l d G M B);have T:Hid (Stm mb w (set3 F (w+1+1) l d G M B)):=smS aj ω ω _ _ _ _ _;have a7:=η HD.o;have ba:w+3=(set3 F (w+1+1) l d G M B).heap.size:=by rw[bQ];exact c4
   clear b5 e3 h1;go_upto_region 12 with fail;clear v0 v1 v2 w0 w1 w2 z0 z1 z2 q0 q1 q2 t1;obtain⟨R,O⟩:=γ (set3 F (w+1+1) l d G M B)
   rw[<-O] at a0 Z V HL ay az T ba;rw[show ((F.setCell { block:=w.heap.size+1+1,off:=0 } (Value.int IntKind.i64 l)).setCell { block:=w.heap.size+1+1,off:=1 } (Value.string d)).setCell { block:=w.heap.size+1+1,off:=2 } (Value.slice G M B)=R from O.symm];clear O;have c8:=HL.le9;go_loopw [68] (λi wr=>∃j:Nat,j<=kids/\i=.int .i64 j/\Hid (kids.all (λe=>isE (aa p n) sc e a[0])=(kids.drop j).all (λe=>isE (aa p n) sc e a[0]))/\Hid (Stm mb R wr)/\Hid (ScS wr (plus own (w+1)) mb sb sc)) (λi _=>kids.length-(intOf i).toNat)
   case atStart=>exact⟨0,ω,rfl,rfl,Stm.refl _ _,V⟩
   case round =>
    obtain⟨j,hj,rfl,HU,v,a2⟩:=hrel;have c2:R.heap.size<=wr:=v.size;have Y:=η (Z.stp v a2);have c7:w.heap.size+1+1<wr:=ω;obtain⟨I,br,U⟩:=zd3 (ay.stp v Ω) (az.stp v Ω) (a0.to (v.subO (.inl HO)));obtain⟨y0,y1,y2,_,_,_⟩:=br.facts;by_cases hlt:j<kids
    ·have u1:=zT j kids;have a8:=η (ry (f:=λe=>isE (aa p n) sc e a[0]) hlt);obtain⟨g1,cj,o1,x1,m1,s1,a1,B1,ca,rfl,c9,e1,p0,p1,p2,p3,p4,hr⟩:=aQ (ExsR.to HL (v.subO (.inl HO))) hlt;have HR:=η hr;clear hr e1
     cases h4:isE (aa p n) sc kids[j] a[0] with
     | false =>
      have z:Hid (fw (aa p n) sc kids (some (.mk 5 sw a))=none):=by show _=_;rw[ak.o,HU.o,a8.o,h4];rfl
      have H4:=η h4;clear h4;go_wp2_with (go_at_call 105;refine (bA al (a7 _ (ν hlt)) (Y.bel ζ1) X (HR.to (sof ζ1).sub) (U.to (sof ζ1).sub) a5).mono ?_;rw[H4.o];rintro e2 w5 ⟨rfl,y,H⟩;obtain⟨z0,z1,z2,q0,q1,q2⟩:=(I.stp ((Stm.of_below (mb:=mb) (belA (belR wr) _)).trans y) Ω).facts);rw[z.o];exact bodyPost_ret (am results164 _ _ (w+1) _ _ _ _ _ rfl ((I.stp ((Stm.of_below (mb:=mb) (belA (belR wr) _)).trans y) Ω).set3 _ _ _ _ _)) rfl (aB (((T).trans v).trans ((Stm.of_below (mb:=mb) (belA (belR wr) _)).trans y)) ω ω)
     | true =>
      have z:Hid (kids.all (λe=>isE (aa p n) sc e a[0])=(kids.drop (j+1)).all (λe=>isE (aa p n) sc e a[0])):=by show _=_;rw[HU.o,a8.o,h4];rfl
      have H4:=η h4;clear h4;go_wp2_with (go_at_call 105;refine (bA al (a7 _ (ν hlt)) (Y.bel ζ1) X (HR.to (sof ζ1).sub) (U.to (sof ζ1).sub) a5).mono ?_;rw[H4.o];rintro e2 w5 ⟨rfl,y,H⟩);go_roundw
      case rel =>
       first
       | exact⟨j+1,ω,by go_num,z,v.trans ((Stm.of_below (mb:=mb) (belA (belR wr) _)).trans y),H Υ⟩
       | (refine⟨_,_,_,_,_,_,_,_,_,_,_,_,_,⟨j+1,ω,?_,z,v.trans ((Stm.of_below (mb:=mb) (belA (belR wr) _)).trans y),H Υ⟩,rfl⟩;go_num)
      case measure=>simp[intOf];omega
    have u1:=zF j kids;have z:Hid (fw (aa p n) sc kids (some (.mk 5 sw a))=some (nC a[0])):=by show _=_;rw[ak.o,HU.o,ε ω];rfl
    obtain⟨z0,z1,z2,q0,q1,q2⟩:=I.facts;have b3:w.heap.size+1<wr:=ω;go_wp2_with fail;rw[z.o];exact bodyPost_ret (am results164 _ _ (w+1) _ _ _ _ _ rfl ((I.set3 _ _ _ _ _).alloc _)) rfl (sP ω (smA ((T).trans v) _) ω ω HO (TyR.of Ψ π (pd (Hs.new _ _ _) ⟨by simp,by rintro (h|h);have:=Y.ol _ (.inl h);omega;omega⟩ (U.to (sof ζ1).sub))) (a2.below ζ1))
  have z:Hid (fw (aa p n) sc kids (some (.mk kw sw a))=none):=by
   show fw _ _ _ _=none;match a with
   | []=>rfl
   | [u0]=>show (if kw=5 then _ else none)=none;rw[if_neg (λh=>h5 ⟨h,rfl⟩)]
   | _::_::_=>rfl
  obtain⟨z0,z1,z2,q0,q1,q2⟩:=RS.facts;by_cases h6:kw=5
  ·subst h6;have t1:((a.length:Int)==1)=false:=beq_eq_false_iff_ne.2 (λh=>h5 ⟨rfl,ω⟩);clear h5;go_wp2_with fail;rw[z.o];exact bodyPost_ret (am results164 _ _ (w+1) _ _ _ _ _ rfl (RS.set3 _ _ _ _ _)) rfl (aB aj ω ω)
  have t1:(kw==5)=false:=by simpa using h6
  clear h5 h6;go_wp2_with fail;rw[z.o];exact bodyPost_ret (am results164 _ _ (w+1) _ _ _ _ _ rfl (RS.set3 _ _ _ _ _)) rfl (aB aj ω ω)
 | none =>
  obtain rfl:wv=.pointer none:=cc.o;by_cases h0:kids.length=0
  ·have l1:((kids.length:Int)==0)=true:=beq_iff_eq.2 ω
   have z:Hid (fw (aa p n) sc kids none=none):=by
    show fw _ _ _ _=none;match kids,h0 with
    | [],_=>rfl
   obtain⟨z0,z1,z2,q0,q1,q2⟩:=RS.facts;clear h0;go_wp2_with fail;rw[z.o];exact bodyPost_ret (am results164 _ _ (w+1) _ _ _ _ _ rfl (RS.set3 _ _ _ _ _)) rfl (aB aj ω ω)
  have l1:((kids.length:Int)==0)=false:=beq_eq_false_iff_ne.2 ω;have i0:0<kids.length:=ω;have j0:(0:Int)<(kids.length:Int):=ω;have HV:=η (uc (E:=aa p n) (sc:=sc) i0);clear h0;obtain⟨g,off,o1,x1,m1,s1,a1,B1,ca,rfl,hg,e1,p0,p1,p2,p3,p4,hr⟩:=aQ bs i0;simp only[Nat.zero_mul,Nat.add_zero] at p0 p1 p2 p3 p4;have HR:=η hr;clear hr e1;obtain⟨r1,b6⟩:=γ (aa p n sc kids[0] none)
  have au:=η b6;clear b6
  cases r1 with
  | none =>
   have z:Hid (fw (aa p n) sc kids none=none):=by show _=_;rw[HV.o,<-au.o]
   go_wp2_with (go_at_call 170;refine (fk al (HD _ (ν i0)) a6 X HR).mono ?_;rw[<-au.o];rintro e3 w3 ⟨J,rfl⟩;have c3:=J.size;obtain⟨z0,z1,z2,q0,q1,q2⟩:=(RS.stp J Ω).facts;have b3:w.heap.size+1<w3:=by omega);rw[z.o];exact bodyPost_ret (am results164 _ _ (w+1) _ _ _ _ _ rfl (((RS.stp J Ω).set3 _ _ _ _ _).alloc _)) rfl (res_noA ω (smA (aj.trans J) _) ω ω)
  | some t =>
   have ak:Hid (fw (aa p n) sc kids none=if (kids.drop 1).all (λe=>isE (aa p n) sc e t) then some (nC t) else none):=by show _=_;rw[HV.o,<-au.o]
   have a5:=η (HF sc kids[0] none t X (λu h=>by cases h) au.symm);go_upto_region 6 with (go_at_call 170;refine (fk al (HD _ (ν i0)) a6 X HR).mono ?_;rw[<-au.o];rintro e3 w3 ⟨J,l,d,N,L,q,rfl,bj,bk⟩);obtain⟨r,ax,G,_⟩:=κ w3 #[l,d,.slice N L q] 40
   have b9:Hs r w3 40 (ty3 l d N L q):=by rw[ax];exact Hs.new _ _ _
   have S3:=η (J.trans (Stm.of_below (mb:=mb) G));have c3:F.heap.size<=w3:=J.size;have d4:w3.heap.size<r:=by rw[ax];simp
   obtain⟨ce,di,cb,dd,dj⟩:=zd5 (a6.stp S3 (bk.below G)) (bj.to (sof (own:=(plus (plus own (w+1)) (w+1+1))) G).sub) (LB.stp S3 Ω) (RS.stp S3 Ω) (ExsR.to bs (S3.subO (.inl (.inl HO))));obtain⟨y0,y1,y2,_,_,_⟩:=b9.facts;replace y0:=aD (mb:=mb) (rb:=w+1+1) y0 Φ Φ;replace y1:=aD (mb:=mb) (rb:=w+1+1) y1 Φ Φ;replace y2:=aD (mb:=mb) (rb:=w+1+1) y2 Φ Φ;obtain⟨z0,z1,z2,q0,q1,q2⟩:=cb.facts;obtain⟨D,aw⟩:=γ (kids.drop 1)
   rw[<-aw] at ak;have ck:D.length=kids-1:=by rw[aw,List.length_drop]
   have cd:Hid (ExsR r (im (plus (plus own (w+1)) (w+1+1)) r) (.slice (fd (some ⟨g,off,none⟩) cap 1 5) D (cap-1)) D):=by rw[aw];exact SlR.from dj 1 ω
   have a7:Hid (∀k∈D,Ex.deep k<=n):=λk hk=>HD k (by rw[aw] at hk;exact List.mem_of_mem_drop hk);obtain⟨A1,bm⟩:=γ (fd (some ⟨g,off,none⟩) cap 1 5)
   obtain⟨cp,bl⟩:=γ (cap-1)
   have c5:∀W,(Instr.slice 41 (.slice (some ⟨g,off,none⟩) kids cap) (some (.int .i64 1)) none none).run prog W=.ok (.slice A1 D cp) W:=λW=>by
    rw[bm,bl,ck];exact eH W _ _ _ 1 ω
   rw[<-bm,<-bl] at cd;have T:Hid (Stm mb w (set3 r.drew (w+1+1) l d N L q)):=smS ((aj.trans S3).trans (smDr _ _)) ω ω _ _ _ _ _;obtain⟨HL,a0⟩:=zd2 (ExsR.to (ExsR.to cd (sof (own:=(plus (plus own (w+1)) (w+1+1))) (ad r)).sub) (aG (w:=r.drew) (own:=(plus own (w+1))) (g:=w+1+1) l d N L q)) ((di.to (sof (own:=(plus (plus own (w+1)) (w+1+1))) (ad r)).sub).to (aG (w:=r.drew) (own:=(plus own (w+1))) (g:=w+1+1) l d N L q));have Z:Hid (Env (set3 r.drew (w+1+1) l d N L q) (plus own (w+1)) mb sb c p sc):=(ce.bel (ad r)).sub (aG _ _ _ _ _) (aq _ _ _ _ _ _ _ _ ω) (.inl HO) (λb hb=>by rw[bQ];exact ce.ol b (.inl hb));have V:=η Z.o.sco;have ay:Hid (Hs (set3 r.drew (w+1+1) l d N L q) (w+1) 40 z3):=(aq r.drew (w+1+1) (w+1) l d N L q ω).trans (dd.stp (smDr mb r) Ω);have az:=η ((cb.stp (smDr mb r) Ω).set3 l d N L q);have ba:w+3<=(set3 r.drew (w+1+1) l d N L q).heap.size:=by rw[bQ];show _<=r.heap.size;omega
   have de:=η ax;clear bm bl aw J bj bk b9 G ax;rw[<-de.o];refine tkB (λW=>Stp (plus (only mb) (w+1+1)) r W) Λ (λhHeld=>?_);refine θ ?_;refine tkE 3 (λK hK=>?_);go_simp;refine tkR hK ?_ (λhHeld=>?_)
   ·exact stpR ι _ _ _ _ _
   clear hK K;refine tkQ 4 ?_;refine tkD ?_;clear hHeld c5 y0 y1 y2 z0 z1 z2 q0 q1 q2 p0 p1 p2 p3 p4;go_upto_region 12 with fail;obtain⟨R,O⟩:=γ (set3 r.drew (w+1+1) l d N L q)
   rw[<-O] at a0 Z V HL ay az T ba;rw[show (((r.setCell { block:=w.heap.size+1+1,off:=0 } (Value.int IntKind.i64 l)).setCell { block:=w.heap.size+1+1,off:=1 } (Value.string d)).setCell { block:=w.heap.size+1+1,off:=2 } (Value.slice N L q)).drew=R from O.symm];clear O;have c8:=HL.le9;go_loopw [68] (λi wr=>∃j:Nat,j<=D/\i=.int .i64 j/\Hid (D.all (λe=>isE (aa p n) sc e t)=(D.drop j).all (λe=>isE (aa p n) sc e t))/\Hid (Stm mb R wr)/\Hid (ScS wr (plus own (w+1)) mb sb sc)) (λi _=>D.length-(intOf i).toNat)
   case atStart=>exact⟨0,ω,rfl,rfl,Stm.refl _ _,V⟩
   case round =>
    obtain⟨j,hj,rfl,HU,v,a2⟩:=hrel;have c2:R.heap.size<=wr:=v.size;have Y:=η (Z.stp v a2);have c7:w.heap.size+1+1<wr:=ω;obtain⟨I,br,U⟩:=zd3 (ay.stp v Ω) (az.stp v Ω) (a0.to (v.subO (.inl HO)));obtain⟨y0,y1,y2,_,_,_⟩:=br.facts;by_cases hlt:j<D
    ·have u1:=zT j D;have a8:=η (ry (f:=λe=>isE (aa p n) sc e t) hlt);obtain⟨g1,cj,o1,x1,m1,s1,a1,B1,ca,rfl,c9,e1,p0,p1,p2,p3,p4,hr⟩:=aQ (ExsR.to HL (v.subO (.inl HO))) hlt;have HR:=η hr;clear hr e1
     cases h4:isE (aa p n) sc D[j] t with
     | false =>
      have z:Hid (fw (aa p n) sc kids none=none):=by show _=_;rw[ak.o,HU.o,a8.o,h4];rfl
      have H4:=η h4;clear h4;go_wp2_with (go_at_call 105;refine (bA al (a7 _ (ν hlt)) (Y.bel ζ1) X (HR.to (sof ζ1).sub) (U.to (sof ζ1).sub) a5).mono ?_;rw[H4.o];rintro e2 w5 ⟨rfl,y,H⟩;obtain⟨z0,z1,z2,q0,q1,q2⟩:=(I.stp ((Stm.of_below (mb:=mb) (belA (belR wr) _)).trans y) Ω).facts);rw[z.o];exact bodyPost_ret (am results164 _ _ (w+1) _ _ _ _ _ rfl ((I.stp ((Stm.of_below (mb:=mb) (belA (belR wr) _)).trans y) Ω).set3 _ _ _ _ _)) rfl (aB (((T).trans v).trans ((Stm.of_below (mb:=mb) (belA (belR wr) _)).trans y)) ω ω)
     | true =>
      have z:Hid (D.all (λe=>isE (aa p n) sc e t)=(D.drop (j+1)).all (λe=>isE (aa p n) sc e t)):=by show _=_;rw[HU.o,a8.o,h4];rfl
      have H4:=η h4;clear h4;go_wp2_with (go_at_call 105;refine (bA al (a7 _ (ν hlt)) (Y.bel ζ1) X (HR.to (sof ζ1).sub) (U.to (sof ζ1).sub) a5).mono ?_;rw[H4.o];rintro e2 w5 ⟨rfl,y,H⟩);go_roundw
      case rel =>
       first
       | exact⟨j+1,ω,by go_num,z,v.trans ((Stm.of_below (mb:=mb) (belA (belR wr) _)).trans y),H Υ⟩
       | (refine⟨_,_,_,_,_,_,_,_,_,_,_,_,_,⟨j+1,ω,?_,z,v.trans ((Stm.of_below (mb:=mb) (belA (belR wr) _)).trans y),H Υ⟩,rfl⟩;go_num)
      case measure=>simp[intOf];omega
    have u1:=zF j D;have z:Hid (fw (aa p n) sc kids none=some (nC t)):=by show _=_;rw[ak.o,HU.o,ε ω];rfl
    obtain⟨z0,z1,z2,q0,q1,q2⟩:=I.facts;have b3:w.heap.size+1<wr:=ω;go_wp2_with fail;rw[z.o];exact bodyPost_ret (am results164 _ _ (w+1) _ _ _ _ _ rfl ((I.set3 _ _ _ _ _).alloc _)) rfl (sP ω (smA ((T).trans v) _) ω ω HO (TyR.of Ψ π (pd (Hs.new _ _ _) ⟨by simp,by rintro (h|h);have:=Y.ol _ (.inl h);omega;omega⟩ (U.to (sof ζ1).sub))) (a2.below ζ1))
end Go.Proofs.YtjohpidklbhmcaaGreatDoor
