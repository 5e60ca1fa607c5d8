/- Core -/
import Derived.Test.YtjohpidklbhmcaaGreatDoorZ5
namespace Go.Proofs.YtjohpidklbhmcaaGreatDoor
set_option linter.all false
open Proofs.Tryz RowKit Maps WideMaps ChangeMaps
set_option maxRecDepth 100000
set_option maxHeartbeats 2000000
def ug (s:Ê):bH s=decide (s.toList=[]):=by
 rw[ByteArray.toList_eq];unfold bH;rw[Bool.eq_iff_iff];simp
def oE (r:Option Ty) (want:Option Ty):Option Ty:=match r with|none=>none|some t=>if l9 t want then some t else none
def dG (op x m:Int) (s:Ê) (len:Nat) (r want:Option Ty):Option Ty:=match bK op with|none=>none|some (k,nb,sb)=>if bj k x m s len nb sb then oE r want else none
def zeroRule (w:À):(zeroValue 223).run prog w=.ok (.agg #[(0:Int),false,false,.nilFunc]) w:=by kernel_rfl
def tM {w:À} {b n:Nat} {f:Int->Option Value} (h:IMap w b n f) {i:Int} (hi:i64 i):(Instr.lookup 157 (.map (some b)) (i:Vl) true).run prog w=.ok (.tuple #[(f i).getD (.agg #[(0:Int),false,false,.nilFunc]),.bool (f i).isSome]) w:=
 MapIs.lookOk h (bh underlying3) underlying157 (zeroRule w) (aw underlying3 hi)
abbrev rule4 (k:Int) (nb sb:Bool) (fv:Value):Array Value:=#[k,nb,sb,fv]
def belS4 {W0 W:À} {g:Nat} (h:Below W0 W0 W) (hg:W0<=g) (a b c d:Value):Below W0 W0 ((((W.setCell g a).setCell ⟨g,1,none⟩ b).setCell ⟨g,2,none⟩ c).setCell ⟨g,3,none⟩ d):=
 ⟨h.os,h.tape,h.output,by simp[World.setCell];exact h.size,λi hi=>by
  have hig:i≠g:=ω
  rw[Below.heap_setCell _ _ _ _ hig,Below.heap_setCell _ _ _ _ hig,Below.heap_setCell _ _ _ _ hig,Below.heap_setCell _ _ _ _ hig];exact h.block i hi⟩
def Rul (W0:À) (v:Option Value) (v1 v2:Value) (W:À):Prop:=
 Below W0 W0 W/\∃b k nb sb fv,v1=.pointer (some ⟨b,0,none⟩)/\W0.heap.size<=b/\Hs W b 223 (rule4 k nb sb fv)/\v2=.bool v.isSome/\∀u,v=some u->u=.agg (rule4 k nb sb fv)
def rul_end {W0:À} {o:Option Value} {k:Int} {nb sb:Bool} {fv:Value} (h:o.getD (.agg #[(0:Int),false,false,.nilFunc])=.agg (rule4 k nb sb fv)):Rul W0 o (W0:Vl) (o.isSome:Vl) (W0.drew.alloc (.cells (rule4 k nb sb fv) 223)):=
 ⟨belA (ad W0) _,_,_,_,_,_,rfl,υ _,Hs.new W0.drew _ _,rfl,λu hu=>by rw[hu] at h;exact h⟩
def xf {c:CB} {p:Pg} {mb:Nat} {own:Nat->Prop} {sb:Nat} {sc:Sc} {op x m:Int} {s:Ê} {A:Option Addr} {kids:List Ex} {cap:Nat} {wv:Value} {want:Option Ty} {w:À} {r:Option Ty} {nn:Nat} {ff:Int->Option Value}
 (he:Env w own mb sb c p sc) (hru:RulesR w (im own w) c nn ff) (hw:WantR w (im own w) wv want) (hio:i64 op) (hix:i64 x) (him:i64 m) (hss:s.size<=maxLen)
 (hfv:∀v,ff op=some v->∃k nb sb' f first caps,v=.agg (rule4 k nb sb' (.func (.func f) first caps)))
 (hc:∀k nb sb' fv,ff op=some (.agg (rule4 k nb sb' fv))->bj k x m s kids nb sb'=true->∀W,Below w w W->w.heap.size+1<W->∃f first caps,fv=.func (.func f) first caps/\(∀args W',(callFunc f args).run prog W'=.ok (.enter f args) W')/\Calls prog f (first++(#[.pointer (some ⟨sb,0,none⟩),.agg (ex5 op x m s A kids cap),wv]++caps)) W (ResF W (plus own (w+1)) mb sb sc r)) :
 Calls prog 141 #[c.b,.pointer (some ⟨sb,0,none⟩),.agg (ex5 op x m s A kids cap),wv] w (Res w own mb sb sc (dG op x m s kids r want)):=by
 have HO:=η he.mb.1;have c9:=he.mb.2;obtain⟨i,N⟩:=γ ((w.alloc (.cells #[op,x,m,s,.slice A kids cap] 43)).alloc (.cells #[(0:Int),"",()] 40))
 have B0:Below w w i:=by rw[N];exact ζ2
 have a4:Hs i w 43 (ex5 op x m s A kids cap):=by rw[N];exact (Hs.new _ _ _).alloc _
 have bp:Hs i (w+1) 40 z3:=by rw[N];exact Hs.new' _ _ _
 have c5:w.heap.size+2=i:=by rw[N];simp
 obtain⟨BB,RS,BX,cj,ck,a9,HC,bt⟩:=zd8 B0 bp a4 N (he.plus B0 (g:=w+1) ω ω) hru hc (hw.to (aV (g:=w+1) B0 ω));have s1:∀W,Below i i W->W.cell? ⟨c.b,7,none⟩=some (.map (some c.br)):=belW ck.chk.c7;have d0:=belW (a4.c 0)
 obtain⟨k3,cb,ca,cd,a3,a2⟩:∃k nb sb fv,(ff op).getD (.agg #[(0:Int),false,false,.nilFunc])=.agg (rule4 k nb sb fv)/\(fv=.nilFunc\/∃f first caps,fv=.func (.func f) first caps):=by
  cases hx:ff op with
  | none=>exact⟨_,_,_,_,rfl,.inl rfl⟩
  | some v=>obtain⟨k,nb,sb,f,first,caps,e⟩:=hfv v hx;exact⟨k,nb,sb,_,by rw[e];rfl,.inr ⟨_,_,_,rfl⟩⟩
 have lk:∀W,Below i i W->(Instr.lookup 157 (.map (some c.br)) (op:Vl) true).run prog W=.ok (.tuple #[.agg #[k3,cb,ca,cd],.bool (ff op).isSome]) W:=λW hb=>by
  have hm:IMap W c.br nn ff:=hru.map.same (((bel B0 hb).block c.br hru.q.1));have:=tM hm hio;rw[a3] at this;exact this
 have bu:=η a3;clear he hru hc hw hio a4 bp N B0 a3 hfv;go_in;go_upto_region 1 with fail;rw[<-cj.o];generalize Value.agg (ex5 op x m s A kids cap)=vv2;go_cut [10,11] (λY X W=>Hid (Rul i (ff op) Y X W))
 case first =>
  have c8:=λ(a:Addr) (Y:Go.Fn) (X v3:Array Value) (m:Mode) (W:À)=>run_store prog W a (.func Y X v3) m rfl;have c6:=λ(a:Addr) (m:Mode) (W:À)=>run_store prog W a .nilFunc m rfl;rcases a2 with rfl|⟨f,first,caps,rfl⟩
  all_goals
   refine tkB (λW=>Below i i W) (ad _) (λhHeld=>?_);refine θ ?_;refine tkE 10 (λK hK=>?_);go_simp;refine tkR hK ?_ (λhHeld=>?_)
   ·exact belA ι _
   clear hK K;refine tkE 11 (λK hK=>?_);go_simp;refine tkR hK ?_ (λhHeld=>?_)
   ·first|exact belA (ad _) _|exact belS4 ι ω _ _ _ _
   clear hK K;refine tkQ 12 ?_;refine tkD ?_;go_wp2;go_meet;exact rul_end bu
 case rest =>
 obtain⟨a5,b,k,nb,sb',fv,rfl,dc,bs,rfl,bm⟩:=hcut.o;obtain⟨af,b8,R,a8⟩:=zd4 a5 a5 bs bm;clear hcut a5 bs bm lk s1 d0;obtain⟨l,rfl⟩:=γ wc
 have c4:i.heap.size<=l:=af.size;have dd:b<l:=R.lt;obtain⟨ag,O⟩:=zd2 (show Hs l w 43 (ex5 op x m s A kids cap) from (af.block _ BX.lt).trans BX) (show Hs l (w+1) 40 z3 from (af.block _ RS.lt).trans RS);have r0:=R.c 0;have r1:=R.c 1;have r2:=R.c 2;have r3:l.cell? ⟨b,3,none⟩=some fv:=R.cell 3;have b0:=ag.c 0;have b1:=ag.c 1;have b2:=ag.c 2;have b3:=ag.c 3;have b4:=ag.c 4;obtain⟨z0,z1,z2,q0,q1,q2⟩:=O.facts;have D:=η (show Below w w l from bel BB af)
 cases hf:ff op with
 | none =>
  have M:=a9.rule op;rw[hf] at M;have L:Hid (dG op x m s kids r want=none):=by show dG _ _ _ _ _ _ _=_;unfold dG;rw[show bK op=none from M]
  clear M hf a8;go_wp2;rw[L.o];exact bodyPost_ret (am results141 _ _ (w+1) _ _ _ _ _ rfl (O.set3 _ _ _ _ _)) rfl ⟨smS (Stm.of_below D) ω ω _ _ _ _ _,rfl⟩
 | some v =>
  obtain rfl:=a8 v hf;have bv:=η hf;have M:=a9.rule op;rw[hf] at M;obtain⟨k',cc,b6,ce,e',bq,_⟩:=M;obtain⟨rfl,rfl,rfl,rfl⟩:k=k'/\nb=cc/\sb'=b6/\fv=ce:=by simpa using e'
  have V:Hid (dG op x m s kids r want=if bj k x m s kids nb sb' then oE r want else none):=by show dG _ _ _ _ _ _ _=_;unfold dG;rw[bq]
  clear e' hf bq;obtain⟨H,U⟩:=γ (decide (k≠-1)&&decide ((kids.length:Int)≠k))
  obtain⟨G,T⟩:=γ ((decide (x≠0)&&!nb)||decide (m≠0)||(!bH s&&!sb'))
  have ae:Hid (bj k x m s kids nb sb'=(!H&&!G)):=by show bj _ _ _ _ _ _ _=_;unfold bj;rw[U,T]
  obtain⟨ao,z⟩:=zd2 U T;clear U T;go_upto_region 2 with fail;go_cut [37] (λv W=>v=.bool H/\W=l)
  case first =>
   clear z;by_cases y:k=-1
   ·go_wp2;go_meet;simp[ao.o,y]
   go_wp2;go_meet;simp[ao.o,y,bne,BEq.beq]
  case rest =>
  obtain⟨rfl,rfl⟩:=hcut;obtain⟨l,rfl⟩:=γ wc
  cases H with
  | true =>
   have L:Hid (dG op x m s kids r want=none):=by show dG _ _ _ _ _ _ _=_;rw[V.o,ae.o];rfl
   go_wp2;rw[L.o];exact bodyPost_ret (am results141 _ _ (w+1) _ _ _ _ _ rfl (O.set3 _ _ _ _ _)) rfl ⟨smS (Stm.of_below D) ω ω _ _ _ _ _,rfl⟩
  | false =>
  go_upto_region 4 with fail;go_cut [61] (λv W=>v=.bool G/\W=l)
  case first =>
   clear ao;have aj:=ug s;by_cases y:x=0
   ·by_cases E:m=0
    ·by_cases k3:s.toList=[]
     ·go_wp2;go_meet;simp[z.o,y,E,k3,aj]
     go_wp2;go_meet;simp[z.o,y,E,k3,aj]
    go_wp2;go_meet;simp[z.o,y,E]
   cases nb with
   | false =>
    go_wp2;go_meet;simp[z.o,y]
   | true =>
   by_cases E:m=0
   ·by_cases k3:s.toList=[]
    ·go_wp2;go_meet;simp[z.o,y,E,k3,aj]
    go_wp2;go_meet;simp[z.o,y,E,k3,aj]
   go_wp2;go_meet;simp[z.o,y,E]
  case rest =>
  obtain⟨rfl,rfl⟩:=hcut;obtain⟨l,rfl⟩:=γ wc
  cases G with
  | true =>
   have L:Hid (dG op x m s kids r want=none):=by show dG _ _ _ _ _ _ _=_;rw[V.o,ae.o];rfl
   go_wp2;rw[L.o];exact bodyPost_ret (am results141 _ _ (w+1) _ _ _ _ _ rfl (O.set3 _ _ _ _ _)) rfl ⟨smS (Stm.of_below D) ω ω _ _ _ _ _,rfl⟩
  | false =>
  have L:Hid (dG op x m s kids r want=oE r want):=by show dG _ _ _ _ _ _ _=_;rw[V.o,ae.o];rfl
  obtain⟨f,first,caps,rfl,db,ak⟩:=HC k nb sb' fv bv (by rw[ae.o];rfl) l D ω;have an:=η ak;clear ak V ae ao z HC bv a8 a9 bu af R r0 r1 r2 a2;go_upto_region 6 with fail
  cases r with
  | none =>
   go_upto_region 7 with (refine an.mono ?_;rintro e9 w9 ⟨Z,k9,s9,A9,n9,F,rfl⟩;have S9:=η Z;clear Z);obtain⟨d,h⟩:=γ (w9.alloc (.cells (ty3 k9 s9 A9 n9 F) 40))
   rw[<-h];have B:Hid (Stm mb l d):=by rw[h];exact smA S9 _
   have j:=η (O.stp B Ω);have ai:=η (show Hs d.drew (w+1) 40 z3 from j);obtain⟨z0,z1,z2,q0,q1,q2⟩:=j.facts;clear h;refine tkB (λW=>Below d d W) (ad _) (λhHeld=>?_);refine θ ?_;refine tkD ?_;go_wp2;rw[L.o];exact bodyPost_ret (am results141 _ _ (w+1) _ _ _ _ _ rfl (ai.set3 _ _ _ _ _)) rfl ⟨smS ((Stm.of_below D).trans (B.trans (smDr _ _))) ω ω _ _ _ _ _,rfl⟩
  | some t =>
   go_upto_region 7 with (refine an.mono ?_;rintro e9 w9 ⟨Z,k9,s9,A9,n9,F,rfl,bn,a1⟩;have S9:=η Z;have T9:=η bn;have C9:=η a1;clear Z bn a1);obtain⟨d,h⟩:=γ (w9.alloc (.cells (ty3 k9 s9 A9 n9 F) 40))
   rw[<-h];have B:Hid (Stm mb l d):=by rw[h];exact smA S9 _
   have bb:Hid (Hs d w9 40 (ty3 k9 s9 A9 n9 F)):=by rw[h];exact Hs.new _ _ _
   have al:Hid (TyR d (im (plus own (w+1)) d) [.int .i64 k9,.string s9,.slice A9 n9 F] t):=by rw[h];exact T9.to (sof ζ1).sub
   have bw:Hid (ScS d (plus own (w+1)) mb sb sc):=by rw[h];exact C9.below ζ1
   have j:=η (O.stp B Ω);clear h S9 T9 C9
   cases want with
   | none =>
    obtain rfl:wv=.pointer none:=bt.o;have ai:=η (show Hs d.drew (w+1) 40 z3 from j);obtain⟨z0,z1,z2,q0,q1,q2⟩:=j.facts;obtain⟨y0,y1,y2,_,_,_⟩:=bb.facts;refine tkB (λW=>Below d d W) (ad _) (λhHeld=>?_);refine θ ?_;refine tkD ?_;go_wp2;rw[L.o];exact bodyPost_ret (am results141 _ _ (w+1) _ _ _ _ _ rfl (ai.set3 _ _ _ _ _)) rfl ⟨smS ((Stm.of_below D).trans (B.trans (smDr _ _))) ω ω _ _ _ _ _,_,_,_,_,_,rfl,(al.to (sof (ad _)).sub).to (aG _ _ _ _ _),(bw.below (ad _)).sub (aG _ _ _ _ _) (aq _ _ _ _ _ _ _ _ ω) HO⟩
   | some u =>
    obtain⟨g,c2,k5,s5,A5,n5,cx,rfl,aa,v0,Y,X,bo⟩:=bt.o;have ac:Sub (im (plus own (w+1)) i) (im (plus own (w+1)) d) i d:=((Stm.of_below (mb:=mb) b8).trans B).subO (.inl HO);have T5:=η (bo.to ac);replace v0:=au v0 ac aa;replace Y:=au Y ac aa;replace X:=au X ac aa;have c1:=belW v0;have c0:=belW Y;have cz:=belW X;clear ac bo aa v0 Y X;obtain⟨y0,y1,y2,_,_,_⟩:=bb.facts;replace y0:=belW y0;replace y1:=belW y1;replace y2:=belW y2
    cases hm:bO t u with
    | false =>
     have HM:=η hm;clear hm;refine tkB (λW=>Below d d W) (ad _) (λhHeld=>?_);refine θ ?_;refine tkE 10 (λK hK=>?_);go_simp;(refine (lN (al.to (sof (own:=plus own (w+1)) (ad d)).imlo) (T5.to (sof (own:=plus own (w+1)) (ad d)).imlo)).mono ?_;rw[HM.o];rintro e4 w4 ⟨rfl,ab⟩);refine tkR hK ?_ (λhHeld=>?_)
     ·exact bel hHeld ab
     clear hK K;refine θ ?_;refine tkD ?_;obtain⟨b9,rfl⟩:=γ w4
     have I:=η (j.stp (Stm.of_below (mb:=mb) hHeld) Ω);obtain⟨z0,z1,z2,q0,q1,q2⟩:=I.facts;have J:=η hHeld;clear hHeld ab;go_wp2_with fail;rw[L.o];have a7:oE (some t) (some u)=none:=by unfold oE l9;simp[HM.o]
     rw[a7];exact bodyPost_ret (am results141 _ _ (w+1) _ _ _ _ _ rfl (I.set3 _ _ _ _ _)) rfl ⟨smS ((Stm.of_below D).trans (B.trans (Stm.of_below J))) ω ω _ _ _ _ _,rfl⟩
    | true =>
     have HM:=η hm;clear hm;refine tkB (λW=>Below d d W) (ad _) (λhHeld=>?_);refine θ ?_;refine tkE 10 (λK hK=>?_);go_simp;(refine (lN (al.to (sof (own:=plus own (w+1)) (ad d)).imlo) (T5.to (sof (own:=plus own (w+1)) (ad d)).imlo)).mono ?_;rw[HM.o];rintro e4 w4 ⟨rfl,ab⟩);refine tkR hK ?_ (λhHeld=>?_)
     ·exact bel hHeld ab
     clear hK K;refine θ ?_;refine tkD ?_;obtain⟨b9,rfl⟩:=γ w4
     have I:=η (j.stp (Stm.of_below (mb:=mb) hHeld) Ω);obtain⟨z0,z1,z2,q0,q1,q2⟩:=I.facts;replace y0:=y0 _ hHeld;replace y1:=y1 _ hHeld;replace y2:=y2 _ hHeld;have J:=η hHeld;clear hHeld ab;go_wp2_with fail;rw[L.o];have a7:oE (some t) (some u)=some t:=by unfold oE l9;simp[HM.o]
     rw[a7];exact bodyPost_ret (am results141 _ _ (w+1) _ _ _ _ _ rfl (I.set3 _ _ _ _ _)) rfl ⟨smS ((Stm.of_below D).trans (B.trans (Stm.of_below J))) ω ω _ _ _ _ _,_,_,_,_,_,rfl,(al.to (sof J).sub).to (aG _ _ _ _ _),(bw.below J).sub (aG _ _ _ _ _) (aq _ _ _ _ _ _ _ _ ω) HO⟩
