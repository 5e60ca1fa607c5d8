/- Core -/
import Derived.Test.YtjohpidklbhmcaaGreatDoorZ29
namespace Go.Proofs.YtjohpidklbhmcaaGreatDoor
set_option linter.all false
open Go.Proofs.Tryz
set_option maxRecDepth 100000
set_option maxHeartbeats 2000000
open Go.RowKit Go.Maps Go.WideMaps Go.ChangeMaps
def m8 {w:World} {b:Nat} {t:TypeId} {z:Nat} {v:Value} {j:Nat} {xs:List Value} (h:w.ownsRow b t z v j xs) (o:Obj):(w.alloc o).ownsRow b t z v j xs:=aI h (stpA (Stp.refl (λ_=>False) w) _) (λ_ _ e=>e)
def BA {w:World} {n:Nat} (h:n<=w) (o:Obj):n<=(w.alloc o).heap.size:=by simp;omega
def iD {α:Type} (N E:Nat) (R:World->(Nat->Prop)->List Value->α->Prop) (z:Nat):Prop:=
 ∀{f:Unit->α->List UInt8×Unit} {l:List α} {rb db:Nat} {tl:List UInt8} {d:Int} {w:World},RdAt rb db ((ah f () l).1++tl) false d w->((ah f () l).1++tl).length<=549755813888->(∀a∈l,0<(f () a).1.length) ->
  (∀(j:Nat) (hj:j<l) (tl:List UInt8) (W:World),RdAt rb db ((f () l[j]).1++tl) false d W->((f () l[j]).1++tl).length<=549755813888->Calls prog E #[db] W (cW R l[j] rb db tl d W)) ->
  Calls prog N #[db,.func (.func E) #[db] #[]] w (yd R z l rb db tl d w)
def Ro {α:Type} (_:World->(Nat->Prop)->List Value->α->Prop) (_ _:Nat):Prop:=True
abbrev MLo {α:Type} {R:World->(Nat->Prop)->List Value->α->Prop} {z e:Nat} (_:Ro R z e):=MLoop R z e
def kR {P:Prop} (h:P:=by
 obtain⟨io,hio,hiz,his,hib⟩:=info_parts INF;obtain⟨H1,H2,H3,H4⟩:=zd4 hio hiz his hib;have e0:(ah f () l).1++tl=numB (l.length:Nat)++((wAll f () l).1++tl):=by unfold ah;rw[χ]
 rw[e0] at h hll;have HC':=η HC;obtain⟨HH,HLL⟩:=zd2 h hll;have hge:=wAll_ge hpos;have hll2:((wAll f () l).1++tl).length<=549755813888:=by rw[μ] at hll;omega
 have HL2:=η hll2;have hln:l<=((wAll f () l).1++tl).length:=by rw[μ];omega
 obtain⟨nL,hnL⟩:=γ (((wAll f () l).1++tl).length)
 rw[<-hnL] at hln hll2;have u9:decide ((l.length:Int)>((nL:Nat):Int))=false:=decide_eq_false ω;have u8:decide (nL<l)=false:=decide_eq_false ω;have HNL:=η hnL;have hlen:l.length<=549755813888:=ω;have HNK:Hid (nOk ((l.length:Nat):Int)):=by show nOk _;unfold nOk;omega
 have d0:=h.d.c 0;have hrb:=h.r.lt;have hdb:=h.d.lt;clear HC h hll hpos e0 hio hiz his hib hge hll2 hnL;go_enter FN,NT;go_upto_region 2 with (go_at_call 78;refine (dH HH HNK HLL).mono ?_;rintro e1 w1 ⟨rfl,hr1,hs1⟩);have d1:=hr1.d.c 0;obtain⟨HR1,HS1⟩:=zd2 hr1 (bu (db:=db) hs1);clear hr1 hs1 d0;go_wp2_with (go_at_call 79;refine (ij HR1).mono ?_;rw[<-HNL.o];rintro e2 w2 ⟨rfl,rfl⟩);clear d1 u9 u8 hln;go_loopw [7,6] (λi v wr=>∃j:Nat,j<=l/\i=.int .i64 j/\Hid (MLo RO f l rb db tl d j v w wr)) (λi _ _=>l.length-(intOf i).toNat)
 case atStart=>exact⟨0,ω,rfl,[],⟨rfl,.inl ⟨rfl,rfl⟩⟩,RowG.nil _,HR1,HS1⟩
 case round =>
  obtain⟨j,hj,rfl,HM⟩:=hrel;obtain⟨xs,hown,hrow,hrd,hst⟩:=HM.o;obtain⟨Ar,cr,rfl⟩:=bU hown;obtain⟨HOW,HRW,HRD,HST⟩:=zd4 hown hrow hrd hst;clear hown hrow hrd hst HM;by_cases hlt:j<l
  ·have u1:=zT j l;have HU:=η (wAll_u (f:=f) hlt);have HRD2:Hid (RdAt rb db ((f () l[j]).1++((wAll f () (l.drop (j+1))).1++tl)) false d wr):=by have:=HRD.o;rw[HU.o,χ] at this;exact this
   have HLJ:Hid (((f () l[j]).1++((wAll f () (l.drop (j+1))).1++tl)).length<=549755813888):=by
    show _<=_;have h1:=qv (f:=f) (l:=l) j;have h2:=HL2.o;rw[HU.o] at h1;simp only[μ] at h1 h2 ⊢;omega
   go_upto_region 8 with (go_at_call 81;refine (wS HRD).mono ?_;rintro e2 w2 ⟨rfl,rfl⟩);go_wp2_with fail;refine (HC' j hlt _ _ HRD2 HLJ).mono ?_;rintro e3 W3 ⟨cs,rfl,hcr,hr3,hs3⟩;first|obtain⟨k,s,a,B,c,rfl,-⟩:=ap hcr|obtain⟨k,s,n,B,c,rfl,-⟩:=mh hcr|obtain⟨A,q,rfl,-⟩:=jV hcr|obtain⟨o,x,m,s,a,B,c,rfl,-⟩:=dJ hcr|obtain⟨o,x,m,s,u,y,t,e,a,D0,d0,D1,d1,D2,d2,D3,d3,rfl,-⟩:=kA hcr|obtain⟨A,q,rfl,-⟩:=gG hcr|obtain⟨A,q,k,s,a,B,c,rfl,-⟩:=jU hcr|obtain⟨A,q,k,s,a,B,c,o,x,m,r,e,D,dd,rfl,-⟩:=jB hcr|obtain⟨A,q,B,c,D,dd,rfl,-⟩:=jD hcr|obtain⟨k,s,a,B,c,o,x,m,r,e,D,dd,rfl,-⟩:=mu hcr|obtain⟨A,q,D,dd,rfl,-⟩:=mB hcr
   obtain⟨HCR,HR3,HS3⟩:=zd3 hcr hr3 hs3;clear hcr hr3 hs3;have hvl:∀g,(Value.slice Ar j cr).ownBlock=some g->g<wr.heap.size:=λg hg=>(HOW.lt g hg).2;have hvb:∀g,(Value.slice Ar j cr).ownBlock=some g->w.heap.size<=g:=λg hg=>(HOW.lt g hg).1;obtain⟨HVB,HO3⟩:=zd2 hvb (aI HOW HS3 (λg hg e=>by have:=hvb g hg;rcases e with e|e<;>omega));have hsz3:w.heap.size<=W3:=ψ HST.size HS3.size;have HRW3:=η (RowG.snoc (HRW.to λcs a x=>x.to (sub_nb HS3 hrb hdb)) rfl (HCR.to (vM hvl HST.size)));have hTK:l.take j++[l[j]]=l.take (j+1):=(List.take_succ_eq_append_getElem hlt).symm;rw[hTK] at HRW3;have HS23:=η (HST.trans HS3);clear hvl hvb hTK;go_wp2_with (at_builtin;refine wpList_append_own_at _ rfl (.tmp 32) (.tmp 35) _ rfl w _ io _ _ _ UN H1 H2 H3 H4 rfl π (.slice Ar j cr) j xs rfl (m8 HO3 _) W3 1 1 _ rfl rfl (World.news_of_block (Hs.new _ _ _)) (by intro u hu;simp at hu;repeat (first|(subst hu;rfl)|(rcases hu with rfl|hu;rfl))) Ξ ω (BA hsz3 _) ?_;intro vv w5 hown5 hgrow5 hnil5 hvb5;obtain⟨A5,c5,rfl⟩:=bU hown5);have HP:Hid (MLo RO f l rb db tl d (j+1) (.slice A5 (j+1) c5) w w5):=⟨_,hown5,HRW3.to λcs a x=>x.to (sub_push hgrow5 hvb5),rd_push HR3 hgrow5 (λg hg=>by have:=HVB g hg;constructor<;>omega),stp_push HS23 hgrow5 HVB⟩
   clear hown5 hgrow5 hnil5 hvb5;go_wp2_with fail;exact⟨⟨j+1,ω,by go_num,HP⟩,by simp[intOf];omega⟩
  obtain rfl:j=l:=ω;have u1:decide ((l.length:Int)<(l.length:Int))=false:=decide_eq_false ω;go_wp2_with fail;go_ret;have hrw:=HRW.o;rw[List.take_length] at hrw;have hrd:=HRD.o;rw[List.drop_length,wAll,List.nil_append] at hrd;exact⟨_,rfl,(hrw.to λcs a x=>x.to (P':=nw w wr) (λk hk=>⟨⟨hk.1,hk.2.1⟩,rfl⟩)).sl HOW (λg hg=>HOW.lt g hg),hrd,HST⟩):P:=h
def info_40:(prog.info? 40).map (λi=>(i.zero,i.size,i.bytes))=some (some (.agg #[(0:Int),.string ⟨#[]⟩,()]),3,48):=by kernel_rfl
def many_152:iD 152 87 TyR 3:=by
 intro f l rb db tl d w h hll hpos HC;obtain⟨INF,FN,NT,UN⟩:=And.intro info_40 (And.intro func152 (And.intro ntmps152 underlying38));have RO:Ro TyR 3 40:=trivial;exact kR
def info_118:(prog.info? 118).map (λi=>(i.zero,i.size,i.bytes))=some (some (.agg #[.string ⟨#[]⟩,(0:Int),.string ⟨#[]⟩,()]),4,64):=by kernel_rfl
def many_85:iD 85 86 FldR 4:=by
 intro f l rb db tl d w h hll hpos HC;obtain⟨INF,FN,NT,UN⟩:=And.intro info_118 (And.intro func85 (And.intro ntmps85 underlying37));have RO:Ro FldR 4 118:=trivial;exact kR
def info_122:(prog.info? 122).map (λi=>(i.zero,i.size,i.bytes))=some (some (.agg #[.string ⟨#[]⟩,()]),2,40):=by kernel_rfl
def many_83:iD 83 84 CtrR 2:=by
 intro f l rb db tl d w h hll hpos HC;obtain⟨INF,FN,NT,UN⟩:=And.intro info_122 (And.intro func83 (And.intro ntmps83 underlying46));have RO:Ro CtrR 2 122:=trivial;exact kR
def BL:(prog.info? 43).map (λi=>(i.zero,i.size,i.bytes))=some (some (.agg #[(0:Int),(0:Int),(0:Int),.string ⟨#[]⟩,()]),5,64):=by kernel_rfl
def many_153:iD 153 88 ExR 5:=by
 intro f l rb db tl d w h hll hpos HC;obtain⟨INF,FN,NT,UN⟩:=And.intro BL (And.intro func153 (And.intro ntmps153 underlying41));have RO:Ro ExR 5 43:=trivial;exact kR
def BZ:(prog.info? 120).map (λi=>(i.zero,i.size,i.bytes))=some (some (.agg #[(0:Int),(0:Int),(0:Int),.string ⟨#[]⟩,.string ⟨#[]⟩,(),(),(),()]),9,152):=by kernel_rfl
def many_154:iD 154 129 StR 9:=by
 intro f l rb db tl d w h hll hpos HC;obtain⟨INF,FN,NT,UN⟩:=And.intro BZ (And.intro func154 (And.intro ntmps154 underlying62));have RO:Ro StR 9 120:=trivial;exact kR
def BK:(prog.info? 48).map (λi=>(i.zero,i.size,i.bytes))=some (some (.agg #[.string ⟨#[]⟩,false,()]),3,48):=by kernel_rfl
def many_32:iD 32 33 DclR 3:=by
 intro f l rb db tl d w h hll hpos HC;obtain⟨INF,FN,NT,UN⟩:=And.intro BK (And.intro func32 (And.intro ntmps32 underlying22));have RO:Ro DclR 3 48:=trivial;exact kR
def BJ:(prog.info? 50).map (λi=>(i.zero,i.size,i.bytes))=some (some (.agg #[.string ⟨#[]⟩,(),(0:Int),.string ⟨#[]⟩,()]),5,88):=by kernel_rfl
def many_34:iD 34 35 EffR 5:=by
 intro f l rb db tl d w h hll hpos HC;obtain⟨INF,FN,NT,UN⟩:=And.intro BJ (And.intro func34 (And.intro ntmps34 underlying23));have RO:Ro EffR 5 50:=trivial;exact kR
def ri:(prog.info? 45).map (λi=>(i.zero,i.size,i.bytes))=some (some (.agg #[.string ⟨#[]⟩,(),(0:Int),.string ⟨#[]⟩,(),(0:Int),(0:Int),(0:Int),(0:Int),.string ⟨#[]⟩,()]),11,160):=by kernel_rfl
def many_36:iD 36 37 FnR 11:=by
 intro f l rb db tl d w h hll hpos HC;obtain⟨INF,FN,NT,UN⟩:=And.intro ri (And.intro func36 (And.intro ntmps36 underlying24));have RO:Ro FnR 11 45:=trivial;exact kR
def BG:(prog.info? 54).map (λi=>(i.zero,i.size,i.bytes))=some (some (.agg #[.string ⟨#[]⟩,(),(0:Int),(),(),(0:Int),(0:Int)]),7,112):=by kernel_rfl
def many_38:iD 38 39 AcR 7:=by
 intro f l rb db tl d w h hll hpos HC;obtain⟨INF,FN,NT,UN⟩:=And.intro BG (And.intro func38 (And.intro ntmps38 underlying25));have RO:Ro AcR 7 54:=trivial;exact kR
def Cm:(prog.info? 61).map (λi=>(i.zero,i.size,i.bytes))=some (some (.agg #[.string ⟨#[]⟩,(0:Int),.string ⟨#[]⟩,(),(0:Int),(0:Int),(0:Int),.string ⟨#[]⟩,()]),9,128):=by kernel_rfl
def many_89:iD 89 90 VrR 9:=by
 intro f l rb db tl d w h hll hpos HC;obtain⟨INF,FN,NT,UN⟩:=And.intro Cm (And.intro func89 (And.intro ntmps89 underlying51));have RO:Ro VrR 9 61:=trivial;exact kR
def Cl:(prog.info? 64).map (λi=>(i.zero,i.size,i.bytes))=some (some (.agg #[.string ⟨#[]⟩,(),(0:Int),()]),4,72):=by kernel_rfl
def many_91:iD 91 92 HdR 4:=by
 intro f l rb db tl d w h hll hpos HC;obtain⟨INF,FN,NT,UN⟩:=And.intro Cl (And.intro func91 (And.intro ntmps91 underlying52));have RO:Ro HdR 4 64:=trivial;exact kR
end Go.Proofs.YtjohpidklbhmcaaGreatDoor
