/- Core -/
import Derived.Test.YtjohpidklbhmcaaGreatDoorZ27
namespace Go.Proofs.YtjohpidklbhmcaaGreatDoor
set_option linter.all false
open Go.Proofs.Tryz
set_option maxRecDepth 100000
set_option maxHeartbeats 2000000
open Go.RowKit Go.Maps Go.WideMaps Go.ChangeMaps
def allS_at {f:St->Bool} {l:List St} {j:Nat} (h:j<l):(l.drop j).all f=(f l[j]&&(l.drop (j+1)).all f):=by
 rw[bk h,List.all_cons]
def cases_at {c:CB} {p:Pg} {mb M n:Nat} (IH:xG c p mb M) (hFi:Fine p) (IS:eY c p mb M n) {own:Nat->Prop} {sb:Nat} {sc:Sc} {op x m:Int} {s u:ByteArray} {A0 A1 A2 A3:Option Addr} {xs:List Ex} {thn els arms:List St} {c0 c1 c2 c3:Nat} {w:World}
 (hx0:0<xs.length) (hd:∀e∈xs,Ex.deep e<=M) (hda:∀a∈arms,St.deeps a.thn<=n) (hal:arms.length<=1000000000) (he:Env w own mb sb c p sc) (ho:ScOk p sc) (ha0:0<=sc.actor) (hx:ExsR w (im own w) (.slice A0 xs c0) xs) (ha:StsR w (im own w) (.slice A3 arms c3) arms) :
 Calls prog 190 #[c.b,sb,.agg (st9 op x m s u A0 xs c0 A1 thn c1 A2 els c2 A3 arms c3)] w (ResB w own mb sb sc (fO p (aa p M) (aF p M n) sc xs arms)):=by
 have HV:=η (xu (p:=p) (E:=aa p M) (B:=aF p M n) (sc:=sc) (arms:=arms) hx0);have bs:=hx.le9;obtain⟨c9,ey,dd,e5,ez,b3,fa,HO⟩:=zd8 IH IS (hd _ (ν hx0)) hda hFi ho ha0 he.mb.1;have f7:=he.mb.2;obtain⟨H,V⟩:=γ (((w.alloc (.cells #[c.b] 99)).alloc (.cells #[sb] 173)).alloc (.cells (st9 op x m s u A0 xs c0 A1 thn c1 A2 els c2 A3 arms c3) 120))
 have B0:Below w w H:=by rw[V];exact ζ3
 have f6:w.heap.size+3=H:=by rw[V];simp
 have e0:Hs H w 99 #[c.b]:=by rw[V];exact ((Hs.new w 99 _).alloc _).alloc _
 have e1:Hs H (w+1) 173 #[sb]:=by rw[V];exact (dI w _ 173 _).alloc _
 have e2:Hs H (w+1+1) 120 (st9 op x m s u A0 xs c0 A1 thn c1 A2 els c2 A3 arms c3):=by rw[V];exact kK w _ _ 120 _
 obtain⟨b9,dc,e7,e6,cy,b8,ep,dx⟩:=zd8 (e0.c 0) (e1.c 0) (e2.c 5) (e2.c 8) (Stm.of_below (mb:=mb) B0) (he.bel B0) (ExsR.to hx (sof (own:=own) B0).sub) (StsR.to ha (sof (own:=own) B0).sub);obtain⟨eq,c8⟩:=zd2 V he.ol;clear hd hda he ho hx ha IH IS hFi V B0 e0 e1 e2 ha0;obtain⟨g,f3,o1,v,k,T,a1,B1,gb,rfl,hg,e1,p0,p1,p2,p3,p4,hr⟩:=aQ ep hx0;have F:g≠mb:=λe=>hg.2 (by rw[e];exact HO);simp only[Nat.zero_mul,Nat.add_zero] at p0 p1 p2 p3 p4;replace p0:=stpC p0 F;replace p1:=stpC p1 F;replace p2:=stpC p2 F;replace p3:=stpC p3 F;replace p4:=stpC p4 F;have HR:=η hr;clear hr e1 hg;have j0:(0:Int)<(xs.length:Int):=ω;have q1:=stpC (mb:=mb) b9 Φ;have q2:=stpC (mb:=mb) dc Φ;have q5:=stpC (mb:=mb) e7 Φ;obtain⟨r1,br⟩:=γ (aa p M sc xs[0] none)
 have cl:=η br;rw[<-br] at HV;clear br;go_enter func190,ntmps190;go_upto_region 1 with fail;rw[<-eq.o];go_cut [7,8] (λv1 v2 W=>Hid (Got H own mb sb sc r1 v1 v2 W))
 case first =>
  go_region_held3 (λW=>Stm mb H W) (first|exact bq _ _|exact smDr _ _|exact I|exact smA ι _|exact (smA (Stm.refl _ _) _).trans (smDr _ _)|exact smS I (υ _) ω _ _ _ _ _)
   (first|(go_at_call 170;refine (hasB2 c9 b8 b3 dd HR).mono ?_;rw[<-cl.o];rintro e3 w3 ⟨k3,s3,A3,n3,dl,rfl,I,al,ag⟩;obtain⟨z0,z1,z2,q0,q1,q2⟩:=al.facts)|(go_at_call 170;refine (hasA2 c9 b8 b3 dd HR).mono ?_;rw[<-cl.o];rintro e3 w3 ⟨k3,s3,A3,n3,dl,rfl,I,ag⟩))
  all_goals
   go_wp2_with fail;go_meet;first|exact gotA I ag|exact gotB I ω HO al ag
 case rest =>
 clear q1 q2 q5 p0 p1 p2 p3 p4 HR;obtain⟨I,d4,k2,s2,fb,n2,dm,rfl,fr,al,rfl,ag⟩:=hcut.o;obtain⟨S2,da,c5⟩:=zd3 I al ag;clear hcut I al ag;obtain⟨r,rfl⟩:=γ wc
 have f5:H.heap.size<=r:=S2.size;have fv:d4<r:=da.lt
 cases r1 with
 | none =>
  go_wp2_with fail;go_ret;rw[HV.o];exact du (cy.trans S2)
 | some t =>
  have bz:Hid (fO p (aa p M) (aF p M n) sc xs arms=(arms.all fP&&(bX p sc t (dr (aF p M n) arms) () ((arms.map St.n).zip (arms.map St.m))).isSome)):=by show _=_;rw[HV.o,<-zip_st]
  obtain⟨e4,b6,bv⟩:=zd3 (b8.stp S2 (c5 t rfl).2) (StsR.to dx (S2.subO HO)) (cy.trans S2);obtain⟨io,cv,ct,cu,cw⟩:=jz;have d:Hid (prog.info? 3=some io/\io.zero=some (.int .i64 0)/\io.size=1/\io.bytes=8):=⟨cv,ct,cu,cw⟩
  have q8:r.cell? ⟨w+1+1,8,none⟩=some (.slice A3 arms c3):=stpC (mb:=mb) e6 Φ r S2;obtain⟨c7,ev,eu⟩:=zd3 (show r.cell? w=some (c.b:Vl) from stpC (mb:=mb) b9 Φ r S2) (show r.cell? (w+1:Nat)=some (sb:Vl) from stpC (mb:=mb) dc Φ r S2) q8;clear cv ct cu cw HV;simp only[Option.isSome_some];go_upto_region 6 with fail;clear q8;go_loopw [28,9,10] (λi v13 v14 wr=>∃(j:Nat) (L N:Option Addr) (z A:Nat),j<=arms/\i=.int .i64 j/\v13=.slice L j z/\v14=.slice N j A/\Hid (arms.all fP=(arms.drop j).all fP)/\Hid (TwoS r wr L N z A j arms)) (λi _ _ _=>arms.length-(intOf i).toNat)
  case atStart=>exact⟨0,none,none,0,0,ω,rfl,rfl,rfl,rfl,⟨Below.refl _ _,υ _,World.ownsRow_nil _ _ _ _,World.ownsRow_nil _ _ _ _,λg h=>by cases h⟩⟩
  case round =>
   obtain⟨j,L,N,z,A,hj,rfl,rfl,rfl,HU,b1⟩:=hrel;have l:Hid (Two r r wr (.slice L j z) (.slice N j A) j j (((arms.take j).map St.n).map (Value.int .i64)) (((arms.take j).map St.m).map (Value.int .i64))):=b1.o;clear b1;have f4:r.heap.size<=wr:=l.s;by_cases hlt:j<arms
   ·have dz:=zT j arms;have cb:=η (allS_at (f:=fP) hlt);obtain⟨g1,fl,o1,v,k,T,Y,R,Z,el,ar,D0,d0,D1,d1,D2,d2,D3,d3,rfl,ga,e1,p0,p1,p2,p3,p4,p5,p6,p7,p8,eh,_,_,co,_,_,_⟩:=pD (StsR.to b6 (sof l.b).sub) hlt;have cp:=co.le9;have db:=η e1;have bf:Hid (fP arms[j]=(decide (o1=5)&&aJ (.mk o1 v k T Y R Z el ar))):=by show _=_;rw[e1];rfl
    have cx:wr.cell? w=some (c.b:Vl):=belC l.b c7;have f8:w.heap.size<wr:=ω;have fs:w.heap.size≠wr:=ω;have dn:∀o,(wr.alloc o).cell? w=some (c.b:Vl):=λo=>belC ζ1 cx;clear e1 co eh;by_cases h5:o1=5
    ·have k5:(o1 != 5)=false:=by simpa using h5
     subst h5;obtain⟨bS,bt⟩:=γ (aJ (.mk 5 v k T Y R Z el ar))
     have cc:Hid (fP arms[j]=bS):=by show _=_;rw[bf.o,bt];simp
     have de:=η bt.symm;clear bt bf
     cases bS with
     | false =>
      have HX:Hid (fO p (aa p M) (aF p M n) sc xs arms=false):=by show _=_;rw[bz.o,HU.o,cb.o,cc.o];rfl
      go_wp2_with (go_at_call 142;refine (kb c 5 v k T Y R Z el ar D0 D1 D2 D3 d0 d1 d2 d3 _ cp).mono ?_;rw[de.o];rintro e9 y ⟨rfl,ah⟩);go_ret;rw[HX.o];exact du (bv.trans ((Stm.of_below (mb:=mb) l.b).trans (Stm.of_below (bel ζ1 ah))))
     | true =>
      have HX:Hid (arms.all fP=(arms.drop (j+1)).all fP):=by show _=_;rw[HU.o,cb.o,cc.o];rfl
      go_upto_region 10 with (go_at_call 142;refine (kb c 5 v k T Y R Z el ar D0 D1 D2 D3 d0 d1 d2 d3 _ cp).mono ?_;rw[de.o];rintro e9 y ⟨rfl,ah⟩);have et:=η ((l.alloc (.cells (st9 5 v k T Y D0 R d0 D1 Z d1 D2 el d2 D3 ar d3) 120)).bel ah);have c4:Hid (Hs y wr 120 (st9 5 v k T Y D0 R d0 D1 Z d1 D2 el d2 D3 ar d3)):=(ah.block _ Θ).trans (Hs.new _ _ _);have d7:wr.heap.size+1<=y:=by have:=ah.size;simpa using this
      clear ah p0 p1 p2 p3 p4 p5 p6 p7 p8 cx dn;obtain⟨bx,am⟩:=γ wr
      rw[<-am] at c4 d7 ⊢;have f0:=η am;have bb:Hid (∀q,(Value.slice L j z).ownBlock=some q->q<bx):=λq e=>by rw[am];exact (l.on.lt _ e).2
      have dt:Hid (∀q,(Value.slice N j A).ownBlock=some q->q<bx):=λq e=>by rw[am];exact (l.om.lt _ e).2
      clear am;have bc:Hid (MidS r r bx (st9 5 v k T Y D0 R d0 D1 Z d1 D2 el d2 D3 ar d3) (.slice L j z) (.slice N j A) j j (((arms.take j).map St.n).map (Value.int .i64)) (((arms.take j).map St.m).map (Value.int .i64)) y.drew):=⟨et.drew,c4,λq e=>by have:=bb q e;omega,λq e=>by have:=dt q e;omega⟩
      have k1:∀W,Hs W bx 120 (st9 5 v k T Y D0 R d0 D1 Z d1 D2 el d2 D3 ar d3)->W.cell? ⟨bx,1,none⟩=some (v:Vl):=λW h=>h.cell 1;have k2:∀W,Hs W bx 120 (st9 5 v k T Y D0 R d0 D1 Z d1 D2 el d2 D3 ar d3)->W.cell? ⟨bx,2,none⟩=some (k:Vl):=λW h=>h.cell 2;have b4:Hid ((((arms.take (j+1)).map St.n).map (Value.int .i64))=(((arms.take j).map St.n).map (Value.int .i64))++[.int .i64 v]):=by show _=_;rw[List.take_add_one,ξ hlt,db.o];simp[St.n]
      have b5:Hid ((((arms.take (j+1)).map St.m).map (Value.int .i64))=(((arms.take j).map St.m).map (Value.int .i64))++[.int .i64 k]):=by show _=_;rw[List.take_add_one,ξ hlt,db.o];simp[St.m]
      refine tkB (λW=>Hs W bx 120 (st9 5 v k T Y D0 R d0 D1 Z d1 D2 el d2 D3 ar d3)) (bc.hb) (λhHeld=>?_);refine θ ?_;refine wpAnyH_ready (rs:=[3,8]) Δ Θ ?_;refine (AllReadyH.cons (o:={ dst:=some 44,op:=Op.buildSlice 104 1 #[(0,Operand.tmp 43)],type:=104,pos:= "stmts.go:116",after:=#[{ on:=2,ground:=Ground.data }],guard:=none }) rfl (λK hK=>?_) (AllReadyH.cons (o:={ dst:=some 49,op:=Op.buildSlice 104 1 #[(0,Operand.tmp 48)],type:=104,pos:= "stmts.go:116",after:=#[{ on:=7,ground:=Ground.data }],guard:=none }) rfl (λK hK=>?_) AllReadyH.nil))
      ·go_simp;refine tkR hK (Hs.alloc hHeld _) (λhHeld=>?_);clear hK K;have ai:=η (bc.alloc (.cells #[v] 3));have N3:Hid (Hs (y.drew.alloc (.cells #[v] 3)) y 3 #[v]):=Hs.new y.drew 3 _;refine wpAnyH_ready (rs:=[4,8]) Δ Θ ?_;refine (AllReadyH.cons (o:={ dst:=some 45,op:=Op.call { callee:=Callee.builtin Builtin.append,args:=#[Operand.tmp 41,Operand.tmp 44],argTypes:=#[104,104] },type:=104,pos:= "stmts.go:116",after:=#[{ on:=0,ground:=Ground.data },{ on:=3,ground:=Ground.data }],guard:=none }) rfl (λK hK=>?_) (AllReadyH.cons (o:={ dst:=some 49,op:=Op.buildSlice 104 1 #[(0,Operand.tmp 48)],type:=104,pos:= "stmts.go:116",after:=#[{ on:=7,ground:=Ground.data }],guard:=none }) rfl (λK hK=>?_) AllReadyH.nil))
       ·refine step_append_lies _ rfl (.tmp 41) (.tmp 44) 104 rfl r 3 io (.int .i64 0) 1 8 underlying104 d.1 d.2.1 d.2.2.1 d.2.2.2 rfl π (.slice L j z) j (((arms.take j).map St.n).map (Value.int .i64)) rfl ai.two.on y 1 1 [.int .i64 v] rfl rfl (ib N3) one1 π Ξ ω ai.two.s _ rfl ?_;intro gn z w1 aj U an cs;have G:=η (ai.n U aj an);refine tkR hK G.hb (λhHeld=>?_);clear hK K;refine tkE 8 (λK hK=>?_);go_simp;refine tkR hK (Hs.alloc hHeld _) (λhHeld=>?_);clear hK K;have D:=η (G.alloc (.cells #[k] 3));have N8:Hid (Hs (w1.alloc (.cells #[k] 3)) w1 3 #[k]):=Hs.new _ _ _;refine tkE 9 (λK hK=>?_);refine step_append_lies _ rfl (.tmp 46) (.tmp 49) 104 rfl r 3 io (.int .i64 0) 1 8 underlying104 d.1 d.2.1 d.2.2.1 d.2.2.2 rfl π (.slice N j A) j (((arms.take j).map St.m).map (Value.int .i64)) rfl D.two.om w1 1 1 [.int .i64 k] rfl rfl (ib N8) one1 π Ξ ω D.two.s _ rfl ?_;intro gm A w2 ak F ao bs;have J:=η (D.m F ak ao);refine tkR hK J.hb (λhHeld=>?_);clear hK K;refine θ ?_;refine tkD ?_;have X:Hid (TwoS r w2 (some ⟨gn,0,none⟩) (some ⟨gm,0,none⟩) z A (j+1) arms):=by show Two _ _ _ _ _ _ _ _ _;rw[b4.o,b5.o];exact J.two
        go_wp2_with fail;go_roundw
        case rel =>
         refine⟨j+1,some ⟨gn,0,none⟩,some ⟨gm,0,none⟩,z,A,ω,?_,rfl,rfl,HX,X⟩;go_num
        case measure=>simp[intOf];omega
       go_simp;refine tkR hK (Hs.alloc hHeld _) (λhHeld=>?_);clear hK K;have G:=η (ai.alloc (.cells #[k] 3));have N8:Hid (Hs ((y.drew.alloc (.cells #[v] 3)).alloc (.cells #[k] 3)) (y+1) 3 #[k]):=dI y.drew _ 3 _;have eo:=η (N3.alloc (.cells #[k] 3));refine tkE 4 (λK hK=>?_);refine step_append_lies _ rfl (.tmp 41) (.tmp 44) 104 rfl r 3 io (.int .i64 0) 1 8 underlying104 d.1 d.2.1 d.2.2.1 d.2.2.2 rfl π (.slice L j z) j (((arms.take j).map St.n).map (Value.int .i64)) rfl G.two.on y 1 1 [.int .i64 v] rfl rfl (ib eo) one1 π Ξ ω G.two.s _ rfl ?_;intro gn z w1 aj U an cs;have D:=η (G.n U aj an);refine tkR hK D.hb (λhHeld=>?_);clear hK K;have bw:Hid (Hs w1 (y+1) 3 #[k]):=(U.block _ N8.lt (λe=>by have:=bb _ e.symm;first|omega|(simp at this;done)|(simp at this;omega))).trans N8;refine tkE 9 (λK hK=>?_);refine step_append_lies _ rfl (.tmp 46) (.tmp 49) 104 rfl r 3 io (.int .i64 0) 1 8 underlying104 d.1 d.2.1 d.2.2.1 d.2.2.2 rfl π (.slice N j A) j (((arms.take j).map St.m).map (Value.int .i64)) rfl D.two.om ⟨(y+1),0,none⟩ 1 1 [.int .i64 k] rfl rfl (ib bw) one1 π Ξ ω D.two.s _ rfl ?_;intro gm A w2 ak F ao bs;have J:=η (D.m F ak ao);refine tkR hK J.hb (λhHeld=>?_)
       clear hK K;refine θ ?_;refine tkD ?_;have X:Hid (TwoS r w2 (some ⟨gn,0,none⟩) (some ⟨gm,0,none⟩) z A (j+1) arms):=by show Two _ _ _ _ _ _ _ _ _;rw[b4.o,b5.o];exact J.two
       go_wp2_with fail;go_roundw
       case rel =>
        refine⟨j+1,some ⟨gn,0,none⟩,some ⟨gm,0,none⟩,z,A,ω,?_,rfl,rfl,HX,X⟩;go_num
       case measure=>simp[intOf];omega
      go_simp;refine tkR hK (Hs.alloc hHeld _) (λhHeld=>?_);clear hK K;have ai:=η (bc.alloc (.cells #[k] 3));have N8:Hid (Hs (y.drew.alloc (.cells #[k] 3)) y 3 #[k]):=Hs.new y.drew 3 _;refine tkE 3 (λK hK=>?_);go_simp;refine tkR hK (Hs.alloc hHeld _) (λhHeld=>?_);clear hK K;have G:=η (ai.alloc (.cells #[v] 3));have N3:Hid (Hs ((y.drew.alloc (.cells #[k] 3)).alloc (.cells #[v] 3)) (y+1) 3 #[v]):=dI y.drew _ 3 _;have cz:=η (N8.alloc (.cells #[v] 3));refine tkE 4 (λK hK=>?_);refine step_append_lies _ rfl (.tmp 41) (.tmp 44) 104 rfl r 3 io (.int .i64 0) 1 8 underlying104 d.1 d.2.1 d.2.2.1 d.2.2.2 rfl π (.slice L j z) j (((arms.take j).map St.n).map (Value.int .i64)) rfl G.two.on ⟨(y+1),0,none⟩ 1 1 [.int .i64 v] rfl rfl (ib N3) one1 π Ξ ω G.two.s _ rfl ?_;intro gn z w1 aj U an cs;have D:=η (G.n U aj an);refine tkR hK D.hb (λhHeld=>?_);clear hK K;have bw:Hid (Hs w1 y 3 #[k]):=(U.block _ cz.lt (λe=>by have:=bb _ e.symm;first|omega|(simp at this;done)|(simp at this;omega))).trans cz;refine tkE 9 (λK hK=>?_)
      refine step_append_lies _ rfl (.tmp 46) (.tmp 49) 104 rfl r 3 io (.int .i64 0) 1 8 underlying104 d.1 d.2.1 d.2.2.1 d.2.2.2 rfl π (.slice N j A) j (((arms.take j).map St.m).map (Value.int .i64)) rfl D.two.om y 1 1 [.int .i64 k] rfl rfl (ib bw) one1 π Ξ ω D.two.s _ rfl ?_;intro gm A w2 ak F ao bs;have J:=η (D.m F ak ao);refine tkR hK J.hb (λhHeld=>?_);clear hK K;refine θ ?_;refine tkD ?_;have X:Hid (TwoS r w2 (some ⟨gn,0,none⟩) (some ⟨gm,0,none⟩) z A (j+1) arms):=by show Two _ _ _ _ _ _ _ _ _;rw[b4.o,b5.o];exact J.two
      go_wp2_with fail;go_roundw
      case rel =>
       refine⟨j+1,some ⟨gn,0,none⟩,some ⟨gm,0,none⟩,z,A,ω,?_,rfl,rfl,HX,X⟩;go_num
      case measure=>simp[intOf];omega
    have k5:(o1 != 5)=true:=by simpa using h5
    have HX:Hid (fO p (aa p M) (aF p M n) sc xs arms=false):=by show _=_;rw[bz.o,HU.o,cb.o,bf.o,decide_eq_false h5];rfl
    clear h5 bf;go_wp2_with fail;go_ret;rw[HX.o];exact du (bv.trans (smA (Stm.of_below (mb:=mb) l.b) _))
   have dz:=zF j arms;obtain rfl:j=arms:=ω;clear hj hlt;have dy:Hid (arms.all fP=true):=by show _=_;rw[HU.o,List.drop_length];rfl
   have er:Hid (fO p (aa p M) (aF p M n) sc xs arms=(bX p sc t (dr (aF p M n) arms) () ((arms.map St.n).zip (arms.map St.m))).isSome):=by show _=_;rw[bz.o,dy.o];simp
   obtain⟨B6,a2,es,ex,b7⟩:=zd5 l.b (e4.bel l.b) ((c5 t rfl).1.to (sof (own:=own) l.b).sub) (StsR.to b6 (sof (own:=own) l.b).sub) (sts_i64 b6)
   have b2:Hid (Two r r wr (.slice L arms z) (.slice N arms A) arms arms ((arms.map St.n).map (Value.int .i64)) ((arms.map St.m).map (Value.int .i64))):=by
    have:=l.o;rw[List.take_length] at this;exact this
   have a9:∀q,r.heap.size<=q->q<wr.heap.size->im own wr q:=λq h1 h2=>⟨h2,λh=>by have:=c8 q h;omega⟩
   have ew:Hid (IntsR wr (im own wr) (.slice L (arms.map St.n).length z) (arms.map St.n)):=by
    rw[List.length_map];exact fW b2.on Θ Ξ a9 (λx hx=>by obtain⟨e,he,rfl⟩:=List.mem_map.1 hx;exact (b7 e he).1)
   have dw:Hid (IntsR wr (im own wr) (.slice N (arms.map St.m).length A) (arms.map St.m)):=by
    rw[List.length_map];exact fW b2.om Θ Ξ a9 (λx hx=>by obtain⟨e,he,rfl⟩:=List.mem_map.1 hx;exact (b7 e he).2)
   have q1:wr.cell? w=some (c.b:Vl):=belC l.b c7;have q2:wr.cell? (w+1:Nat)=some (sb:Vl):=belC l.b ev;have q8:wr.cell? ⟨w+1+1,8,none⟩=some (.slice A3 arms c3):=belC l.b eu;have bd:∀b,(w.heap.size<=b/\b<w.heap.size+3)->im own wr b:=λb hb=>⟨ω,λh=>by have:=c8 b h;omega⟩
   have I0:=bd w ω;have I1:=bd (w+1) ω;have I2:=bd (w+1+1) ω;have c6:Hid (ArmRel mb own (Stm mb)):=stm_arm HO
   have ck:Hid (mq (λi W Q=>Calls prog 203 #[i,w,(w+1:Nat),(w+1+1:Nat)] W Q) (arms.map St.n).length p own mb sb (Stm mb) InvT (dr (aF p M n) arms) wr):=by
    intro i g' bo f2 W hi ee f9 hrel fu cq ed;have SS:=dE (g:=g') (c6.stp hrel) ee;rw[List.length_map] at hi;obtain⟨n',f',df⟩:=a2.rul
    have eg:Env W (plus own g') mb sb c p bo:=⟨a2.chk.to SS,⟨n',f',df.to SS⟩,cq,λb hb=>by
     rcases hb with hb|hb
     ·exact ρ (a2.ol b hb) hrel.s.size
     omega⟩
    have dh:0<=bo.actor:=by
     obtain⟨_,_,_,_,ea⟩:=cq;obtain⟨_,_,_,_,cr⟩:=a2.sco;have h3:=ea.c3;have h4:=au cr.c3 SS cr.isb;rw[h3] at h4;have h5:bo.actor=sc.actor:=by simpa using h4
     rw[h5];exact fa
    exact body203 ey eg ed dh (SS _ I0).1 (au q1 SS I0) (SS _ I1).1 (au q2 SS I1) (SS _ I2).1 (au q8 SS I2) (StsR.to ex SS) hi (e5 _ (ν hi))
   have be:=η (arms203 (st0:=()) a2 b3 ez es ew dw Θ c6 (λi O O' st w w' h _ _ _=>trivial) ck trivial)
   have ca:Hid (Calls prog 198 #[c.b,sb,.agg #[k2,s2,.slice fb n2 dm],.slice L arms z,.slice N arms A,.func (.func 203) #[] #[w,(w+1:Nat),(w+1+1:Nat)]] wr (λe w'=>Stm mb wr w'/\e=.returned (.bool (fO p (aa p M) (aF p M n) sc xs arms))/\(fO p (aa p M) (aF p M n) sc xs arms=true->ScS w' own mb sb sc))):=by
    have:=be.o;rw[List.length_map,List.length_map] at this;rw[er.o];refine this.mono ?_;rintro e8 w8 ⟨h1,h2,h3⟩
    exact⟨h1,h2,λh=>by
     obtain⟨st,d9⟩:=Option.isSome_iff_exists.1 h;exact (h3 st d9).2⟩
   have bu:=da.stp (mb:=mb) (Stm.of_below l.b) Ω;obtain⟨y0,y1,y2,_,_,_⟩:=bu.facts;clear a9 be bu bd b2 l HU I0 I1 I2 q8;go_wp2_with (go_at_call 198;refine ca.mono ?_;rintro e8 w8 ⟨eb,rfl,d8⟩);go_ret;exact i8 (bv.trans ((Stm.of_below (mb:=mb) B6).trans eb)) d8
end Go.Proofs.YtjohpidklbhmcaaGreatDoor
