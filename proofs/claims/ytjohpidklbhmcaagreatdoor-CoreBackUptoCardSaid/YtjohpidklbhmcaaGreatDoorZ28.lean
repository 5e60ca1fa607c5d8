/- Core -/
import Derived.Test.YtjohpidklbhmcaaGreatDoorZ27
namespace Go.Proofs.YtjohpidklbhmcaaGreatDoor
set_option linter.all false
open Go.Proofs.Tryz
set_option maxRecDepth 100000
set_option maxHeartbeats 16000000
open Go.RowKit Go.Maps Go.WideMaps Go.ChangeMaps
def allS_at {f:St->Bool} {l:List St} {j:Nat} (h:j<l.length):(l.drop j).all f=(f l[j]&&(l.drop (j+1)).all f):=by
 rw[bk h,List.all_cons]
def cases_at {c:CB} {p:Pg} {mb M n:Nat} (IH:xG c p mb M) (hFi:Fine p) (IS:eY c p mb M n) {own:Nat->Prop} {sb:Nat} {sc:Sc} {op x m:Int} {s u:ByteArray} {A0 A1 A2 A3:Option Addr} {xs:List Ex} {thn els arms:List St} {c0 c1 c2 c3:Nat} {w:World}
 (hx0:0<xs.length) (hd:∀e∈xs,Ex.deep e<=M) (hda:∀a∈arms,St.deeps a.thn<=n) (hal:arms.length<=1000000000) (he:Env w own mb sb c p sc) (ho:ScOk p sc) (ha0:0<=sc.actor) (hx:ExsR w (im own w) (.slice A0 xs.length c0) xs) (ha:StsR w (im own w) (.slice A3 arms.length c3) arms) :
 Calls prog 190 #[.pointer (some ⟨c.b,0,none⟩),.pointer (some ⟨sb,0,none⟩),.agg (st9 op x m s u A0 xs.length c0 A1 thn.length c1 A2 els.length c2 A3 arms.length c3)] w (ResB w own mb sb sc (fO p (aa p M) (aF p M n) sc xs arms)):=by
 have HV:=η (xu (p:=p) (E:=aa p M) (B:=aF p M n) (sc:=sc) (arms:=arms) hx0);have bs:=hx.le9;obtain⟨c9,ey,dd,e5,ez,b3,fa,HO⟩:=zd8 IH IS (hd _ (ν hx0)) hda hFi ho ha0 he.mb.1;have f7:=he.mb.2;obtain⟨H,V⟩:=γ (((w.alloc (.cells #[.pointer (some ⟨c.b,0,none⟩)] 99)).alloc (.cells #[.pointer (some ⟨sb,0,none⟩)] 173)).alloc (.cells (st9 op x m s u A0 xs.length c0 A1 thn.length c1 A2 els.length c2 A3 arms.length c3) 120))
 have B0:Below w.heap.size w H:=by rw[V];exact ζ3
 have f6:w.heap.size+3=H.heap.size:=by rw[V];simp
 have e0:Hs H w.heap.size 99 #[.pointer (some ⟨c.b,0,none⟩)]:=by rw[V];exact ((Hs.new w 99 _).alloc _).alloc _
 have e1:Hs H (w.heap.size+1) 173 #[.pointer (some ⟨sb,0,none⟩)]:=by rw[V];exact (dI w _ 173 _).alloc _
 have e2:Hs H (w.heap.size+1+1) 120 (st9 op x m s u A0 xs.length c0 A1 thn.length c1 A2 els.length c2 A3 arms.length c3):=by rw[V];exact kK w _ _ 120 _
 obtain⟨b9,dc,e7,e6,cy,b8,ep,dx⟩:=zd8 (e0.c 0) (e1.c 0) (e2.c 5) (e2.c 8) (Stm.of_below (mb:=mb) B0) (he.bel B0) (ExsR.to hx (sof (own:=own) B0).sub) (StsR.to ha (sof (own:=own) B0).sub);obtain⟨eq,c8⟩:=zd2 V he.ol;clear hd hda he ho hx ha IH IS hFi V B0 e0 e1 e2 ha0;obtain⟨g,f3,o1,v,k,T,a1,B1,gb,rfl,hg,e1,p0,p1,p2,p3,p4,hr⟩:=aQ ep.o hx0;have F:g≠mb:=λe=>hg.2 (by rw[e];exact HO.o);simp only[Nat.zero_mul,Nat.add_zero] at p0 p1 p2 p3 p4;replace p0:=stpC p0 F;replace p1:=stpC p1 F;replace p2:=stpC p2 F;replace p3:=stpC p3 F;replace p4:=stpC p4 F;have HR:=η hr;clear hr e1 hg;have j0:(0:Int)<(xs.length:Int):=ω;have q1:=stpC (mb:=mb) b9.o (by simp;omega);have q2:=stpC (mb:=mb) dc.o (by simp;omega);have q5:=stpC (mb:=mb) e7.o (by simp;omega);obtain⟨r1,br⟩:=γ (aa p M sc xs[0] none)
 have cl:=η br;rw[<-br] at HV;clear br;go_enter func190,ntmps190;go_upto_region 1 with (fail);rw[<-eq.o];go_cut [7,8] (λv1 v2 W=>Hid (Got H own mb sb sc r1 v1 v2 W))
 case first =>
  go_region_held3 (λW=>Stm mb H W) (first|exact bq _ _|exact smDr _ _|exact I|exact smA (by assumption) _|exact (smA (Stm.refl _ _) _).trans (smDr _ _)|exact smS I (υ _) ω _ _ _ _ _)
   (first|(go_at_call 170;refine (hasB2 c9.o b8.o b3.o dd.o HR.o).mono ?_;rw[<-cl.o];rintro e3 w3 ⟨k3,s3,A3,n3,dl,rfl,I,al,ag⟩;obtain⟨z0,z1,z2,q0,q1,q2⟩:=al.facts)|(go_at_call 170;refine (hasA2 c9.o b8.o b3.o dd.o HR.o).mono ?_;rw[<-cl.o];rintro e3 w3 ⟨k3,s3,A3,n3,dl,rfl,I,ag⟩))
  all_goals
   go_wp2_with fail;go_meet;first|exact gotA I ag|exact gotB I ω HO.o al ag
 case rest =>
 clear q1 q2 q5 p0 p1 p2 p3 p4 HR;obtain⟨I,d4,k2,s2,fb,n2,dm,rfl,fr,al,rfl,ag⟩:=hcut.o;obtain⟨S2,da,c5⟩:=zd3 I al ag;clear hcut I al ag;obtain⟨r,rfl⟩:=γ wc
 have f5:H.heap.size<=r.heap.size:=S2.o.size;have fv:d4<r.heap.size:=da.o.lt
 cases r1 with
 | none =>
  go_wp2_with fail;go_ret;rw[HV.o];exact du (cy.o.trans S2.o)
 | some t =>
  have bz:Hid (fO p (aa p M) (aF p M n) sc xs arms=(arms.all fP&&(bX p sc t (dr (aF p M n) arms) () ((arms.map St.n).zip (arms.map St.m))).isSome)):=by show _=_;rw[HV.o,<-zip_st]
  obtain⟨e4,b6,bv⟩:=zd3 (b8.o.stp S2.o (c5.o t rfl).2) (StsR.to dx.o (S2.o.subO HO.o)) (cy.o.trans S2.o);obtain⟨io,cv,ct,cu,cw⟩:=jz;have d:Hid (prog.info? 3=some io/\io.zero=some (.int .i64 0)/\io.size=1/\io.bytes=8):=⟨cv,ct,cu,cw⟩
  have q8:r.cell? ⟨w.heap.size+1+1,8,none⟩=some (.slice A3 arms.length c3):=stpC (mb:=mb) e6.o (by simp;omega) r S2.o;obtain⟨c7,ev,eu⟩:=zd3 (show r.cell? ⟨w.heap.size,0,none⟩=some (.pointer (some ⟨c.b,0,none⟩)) from stpC (mb:=mb) b9.o (by simp;omega) r S2.o) (show r.cell? ⟨w.heap.size+1,0,none⟩=some (.pointer (some ⟨sb,0,none⟩)) from stpC (mb:=mb) dc.o (by simp;omega) r S2.o) q8;clear cv ct cu cw HV;simp only[Option.isSome_some];go_upto_region 6 with (fail);clear q8;go_loopw [28,9,10] (λi v13 v14 wr=>∃(j:Nat) (L N:Option Addr) (z A:Nat),j<=arms.length/\i=.int .i64 j/\v13=.slice L j z/\v14=.slice N j A/\Hid (arms.all fP=(arms.drop j).all fP)/\Hid (TwoS r wr L N z A j arms)) (λi _ _ _=>arms.length-(intOf i).toNat)
  case atStart=>exact⟨0,none,none,0,0,ω,rfl,rfl,rfl,rfl,⟨Below.refl _ _,υ _,World.ownsRow_nil _ _ _ _,World.ownsRow_nil _ _ _ _,λg h=>by cases h⟩⟩
  case round =>
   obtain⟨j,L,N,z,A,hj,rfl,rfl,rfl,HU,b1⟩:=hrel;have l:Hid (Two r.heap.size r wr (.slice L j z) (.slice N j A) j j (((arms.take j).map St.n).map (Value.int .i64)) (((arms.take j).map St.m).map (Value.int .i64))):=b1.o;clear b1;have f4:r.heap.size<=wr.heap.size:=l.o.s;by_cases hlt:j<arms.length
   ·have dz:=zT j arms.length;have cb:=η (allS_at (f:=fP) hlt);obtain⟨g1,fl,o1,v,k,T,Y,R,Z,el,ar,D0,d0,D1,d1,D2,d2,D3,d3,rfl,ga,e1,p0,p1,p2,p3,p4,p5,p6,p7,p8,eh,_,_,co,_,_,_⟩:=pD (StsR.to b6.o (sof l.o.b).sub) hlt;have cp:=co.le9;have db:=η e1;have bf:Hid (fP arms[j]=(decide (o1=5)&&aJ (.mk o1 v k T Y R Z el ar))):=by show _=_;rw[e1];rfl
    have cx:wr.cell? ⟨w.heap.size,0,none⟩=some (.pointer (some ⟨c.b,0,none⟩)):=belC l.o.b c7.o;have f8:w.heap.size<wr.heap.size:=ω;have fs:w.heap.size≠wr.heap.size:=ω;have dn:∀o,(wr.alloc o).cell? ⟨w.heap.size,0,none⟩=some (.pointer (some ⟨c.b,0,none⟩)):=λo=>belC ζ1 cx;clear e1 co eh;by_cases h5:o1=5
    ·have k5:(o1 != 5)=false:=by simpa using h5
     subst h5;obtain⟨bS,bt⟩:=γ (aJ (.mk 5 v k T Y R Z el ar))
     have cc:Hid (fP arms[j]=bS):=by show _=_;rw[bf.o,bt];simp
     have de:=η bt.symm;clear bt bf
     cases bS with
     | false =>
      have HX:Hid (fO p (aa p M) (aF p M n) sc xs arms=false):=by show _=_;rw[bz.o,HU.o,cb.o,cc.o];rfl
      go_wp2_with (go_at_call 142;refine (kb c 5 v k T Y R Z el ar D0 D1 D2 D3 d0 d1 d2 d3 _ cp).mono ?_;rw[de.o];rintro e9 y ⟨rfl,ah⟩);go_ret;rw[HX.o];exact du (bv.o.trans ((Stm.of_below (mb:=mb) l.o.b).trans (Stm.of_below (bel ζ1 ah))))
     | true =>
      have HX:Hid (arms.all fP=(arms.drop (j+1)).all fP):=by show _=_;rw[HU.o,cb.o,cc.o];rfl
      go_upto_region 10 with (go_at_call 142;refine (kb c 5 v k T Y R Z el ar D0 D1 D2 D3 d0 d1 d2 d3 _ cp).mono ?_;rw[de.o];rintro e9 y ⟨rfl,ah⟩);have et:=η ((l.o.alloc (.cells (st9 5 v k T Y D0 R.length d0 D1 Z.length d1 D2 el.length d2 D3 ar.length d3) 120)).bel ah);have c4:Hid (Hs y wr.heap.size 120 (st9 5 v k T Y D0 R.length d0 D1 Z.length d1 D2 el.length d2 D3 ar.length d3)):=(ah.block _ (by simp)).trans (Hs.new _ _ _);have d7:wr.heap.size+1<=y.heap.size:=by have:=ah.size;simpa using this
      clear ah p0 p1 p2 p3 p4 p5 p6 p7 p8 cx dn;obtain⟨bx,am⟩:=γ wr.heap.size
      rw[<-am] at c4 d7 ⊢;have f0:=η am;have bb:Hid (∀q,(Value.slice L j z).ownBlock=some q->q<bx):=λq e=>by rw[am];exact (l.o.on.lt _ e).2
      have dt:Hid (∀q,(Value.slice N j A).ownBlock=some q->q<bx):=λq e=>by rw[am];exact (l.o.om.lt _ e).2
      clear am;have bc:Hid (MidS r.heap.size r bx (st9 5 v k T Y D0 R.length d0 D1 Z.length d1 D2 el.length d2 D3 ar.length d3) (.slice L j z) (.slice N j A) j j (((arms.take j).map St.n).map (Value.int .i64)) (((arms.take j).map St.m).map (Value.int .i64)) y.drew):=⟨et.o.drew,c4.o,λq e=>by have:=bb.o q e;omega,λq e=>by have:=dt.o q e;omega⟩
      have k1:∀W,Hs W bx 120 (st9 5 v k T Y D0 R.length d0 D1 Z.length d1 D2 el.length d2 D3 ar.length d3)->W.cell? ⟨bx,1,none⟩=some (.int .i64 v):=λW h=>h.cell 1;have k2:∀W,Hs W bx 120 (st9 5 v k T Y D0 R.length d0 D1 Z.length d1 D2 el.length d2 D3 ar.length d3)->W.cell? ⟨bx,2,none⟩=some (.int .i64 k):=λW h=>h.cell 2;have b4:Hid ((((arms.take (j+1)).map St.n).map (Value.int .i64))=(((arms.take j).map St.n).map (Value.int .i64))++[.int .i64 v]):=by show _=_;rw[List.take_add_one,ξ hlt,db.o];simp[St.n]
      have b5:Hid ((((arms.take (j+1)).map St.m).map (Value.int .i64))=(((arms.take j).map St.m).map (Value.int .i64))++[.int .i64 k]):=by show _=_;rw[List.take_add_one,ξ hlt,db.o];simp[St.m]
      refine tkB (λW=>Hs W bx 120 (st9 5 v k T Y D0 R.length d0 D1 Z.length d1 D2 el.length d2 D3 ar.length d3)) (bc.o.hb) (λhHeld=>?_);refine θ ?_;refine wpAnyH_ready (rs:=[3,8]) (by kernel_rfl) (by simp) ?_;refine (AllReadyH.cons (o:={ dst:=some 44,op:=Op.buildSlice 104 1 #[(0,Operand.tmp 43)],type:=104,pos:= "stmts.go:116",after:=#[{ on:=2,ground:=Ground.data }],guard:=none }) rfl (λK hK=>?_) (AllReadyH.cons (o:={ dst:=some 49,op:=Op.buildSlice 104 1 #[(0,Operand.tmp 48)],type:=104,pos:= "stmts.go:116",after:=#[{ on:=7,ground:=Ground.data }],guard:=none }) rfl (λK hK=>?_) AllReadyH.nil))
      ·go_simp;refine tkR hK (Hs.alloc hHeld _) (λhHeld=>?_);clear hK K;have ai:=η (bc.o.alloc (.cells #[.int .i64 v] 3));have N3:Hid (Hs (y.drew.alloc (.cells #[.int .i64 v] 3)) y.heap.size 3 #[.int .i64 v]):=Hs.new y.drew 3 _;refine wpAnyH_ready (rs:=[4,8]) (by kernel_rfl) (by simp) ?_;refine (AllReadyH.cons (o:={ dst:=some 45,op:=Op.call { callee:=Callee.builtin Builtin.append,args:=#[Operand.tmp 41,Operand.tmp 44],argTypes:=#[104,104] },type:=104,pos:= "stmts.go:116",after:=#[{ on:=0,ground:=Ground.data },{ on:=3,ground:=Ground.data }],guard:=none }) rfl (λK hK=>?_) (AllReadyH.cons (o:={ dst:=some 49,op:=Op.buildSlice 104 1 #[(0,Operand.tmp 48)],type:=104,pos:= "stmts.go:116",after:=#[{ on:=7,ground:=Ground.data }],guard:=none }) rfl (λK hK=>?_) AllReadyH.nil))
       ·refine step_append_lies _ rfl (.tmp 41) (.tmp 44) 104 rfl r.heap.size 3 io (.int .i64 0) 1 8 underlying104 d.o.1 d.o.2.1 d.o.2.2.1 d.o.2.2.2 rfl (by decide) (.slice L j z) j (((arms.take j).map St.n).map (Value.int .i64)) rfl ai.o.two.on ⟨y.heap.size,0,none⟩ 1 1 [.int .i64 v] rfl rfl (ib N3.o) one1 (by decide) (by unfold maxLen;omega) ω ai.o.two.s _ rfl ?_;intro gn z w1 aj U an cs;have G:=η (ai.o.n U aj an);refine tkR hK G.o.hb (λhHeld=>?_);clear hK K;refine tkE 8 (λK hK=>?_);go_simp;refine tkR hK (Hs.alloc hHeld _) (λhHeld=>?_);clear hK K;have D:=η (G.o.alloc (.cells #[.int .i64 k] 3));have N8:Hid (Hs (w1.alloc (.cells #[.int .i64 k] 3)) w1.heap.size 3 #[.int .i64 k]):=Hs.new _ _ _;refine tkE 9 (λK hK=>?_);refine step_append_lies _ rfl (.tmp 46) (.tmp 49) 104 rfl r.heap.size 3 io (.int .i64 0) 1 8 underlying104 d.o.1 d.o.2.1 d.o.2.2.1 d.o.2.2.2 rfl (by decide) (.slice N j A) j (((arms.take j).map St.m).map (Value.int .i64)) rfl D.o.two.om ⟨w1.heap.size,0,none⟩ 1 1 [.int .i64 k] rfl rfl (ib N8.o) one1 (by decide) (by unfold maxLen;omega) ω D.o.two.s _ rfl ?_;intro gm A w2 ak F ao bs;have J:=η (D.o.m F ak ao);refine tkR hK J.o.hb (λhHeld=>?_);clear hK K;refine θ ?_;refine tkD ?_;have X:Hid (TwoS r w2 (some ⟨gn,0,none⟩) (some ⟨gm,0,none⟩) z A (j+1) arms):=by show Two _ _ _ _ _ _ _ _ _;rw[b4.o,b5.o];exact J.o.two
        go_wp2_with fail;go_roundw
        case rel =>
         refine⟨j+1,some ⟨gn,0,none⟩,some ⟨gm,0,none⟩,z,A,ω,?_,rfl,rfl,HX.o,X.o⟩;go_num
        case measure=>simp[intOf];omega
       go_simp;refine tkR hK (Hs.alloc hHeld _) (λhHeld=>?_);clear hK K;have G:=η (ai.o.alloc (.cells #[.int .i64 k] 3));have N8:Hid (Hs ((y.drew.alloc (.cells #[.int .i64 v] 3)).alloc (.cells #[.int .i64 k] 3)) (y.heap.size+1) 3 #[.int .i64 k]):=dI y.drew _ 3 _;have eo:=η (N3.o.alloc (.cells #[.int .i64 k] 3));refine tkE 4 (λK hK=>?_);refine step_append_lies _ rfl (.tmp 41) (.tmp 44) 104 rfl r.heap.size 3 io (.int .i64 0) 1 8 underlying104 d.o.1 d.o.2.1 d.o.2.2.1 d.o.2.2.2 rfl (by decide) (.slice L j z) j (((arms.take j).map St.n).map (Value.int .i64)) rfl G.o.two.on ⟨y.heap.size,0,none⟩ 1 1 [.int .i64 v] rfl rfl (ib eo.o) one1 (by decide) (by unfold maxLen;omega) ω G.o.two.s _ rfl ?_;intro gn z w1 aj U an cs;have D:=η (G.o.n U aj an);refine tkR hK D.o.hb (λhHeld=>?_);clear hK K;have bw:Hid (Hs w1 (y.heap.size+1) 3 #[.int .i64 k]):=(U.block _ N8.o.lt (λe=>by have:=bb.o _ e.symm;first|omega|(simp at this;done)|(simp at this;omega))).trans N8.o;refine tkE 9 (λK hK=>?_);refine step_append_lies _ rfl (.tmp 46) (.tmp 49) 104 rfl r.heap.size 3 io (.int .i64 0) 1 8 underlying104 d.o.1 d.o.2.1 d.o.2.2.1 d.o.2.2.2 rfl (by decide) (.slice N j A) j (((arms.take j).map St.m).map (Value.int .i64)) rfl D.o.two.om ⟨(y.heap.size+1),0,none⟩ 1 1 [.int .i64 k] rfl rfl (ib bw.o) one1 (by decide) (by unfold maxLen;omega) ω D.o.two.s _ rfl ?_;intro gm A w2 ak F ao bs;have J:=η (D.o.m F ak ao);refine tkR hK J.o.hb (λhHeld=>?_)
       clear hK K;refine θ ?_;refine tkD ?_;have X:Hid (TwoS r w2 (some ⟨gn,0,none⟩) (some ⟨gm,0,none⟩) z A (j+1) arms):=by show Two _ _ _ _ _ _ _ _ _;rw[b4.o,b5.o];exact J.o.two
       go_wp2_with fail;go_roundw
       case rel =>
        refine⟨j+1,some ⟨gn,0,none⟩,some ⟨gm,0,none⟩,z,A,ω,?_,rfl,rfl,HX.o,X.o⟩;go_num
       case measure=>simp[intOf];omega
      go_simp;refine tkR hK (Hs.alloc hHeld _) (λhHeld=>?_);clear hK K;have ai:=η (bc.o.alloc (.cells #[.int .i64 k] 3));have N8:Hid (Hs (y.drew.alloc (.cells #[.int .i64 k] 3)) y.heap.size 3 #[.int .i64 k]):=Hs.new y.drew 3 _;refine tkE 3 (λK hK=>?_);go_simp;refine tkR hK (Hs.alloc hHeld _) (λhHeld=>?_);clear hK K;have G:=η (ai.o.alloc (.cells #[.int .i64 v] 3));have N3:Hid (Hs ((y.drew.alloc (.cells #[.int .i64 k] 3)).alloc (.cells #[.int .i64 v] 3)) (y.heap.size+1) 3 #[.int .i64 v]):=dI y.drew _ 3 _;have cz:=η (N8.o.alloc (.cells #[.int .i64 v] 3));refine tkE 4 (λK hK=>?_);refine step_append_lies _ rfl (.tmp 41) (.tmp 44) 104 rfl r.heap.size 3 io (.int .i64 0) 1 8 underlying104 d.o.1 d.o.2.1 d.o.2.2.1 d.o.2.2.2 rfl (by decide) (.slice L j z) j (((arms.take j).map St.n).map (Value.int .i64)) rfl G.o.two.on ⟨(y.heap.size+1),0,none⟩ 1 1 [.int .i64 v] rfl rfl (ib N3.o) one1 (by decide) (by unfold maxLen;omega) ω G.o.two.s _ rfl ?_;intro gn z w1 aj U an cs;have D:=η (G.o.n U aj an);refine tkR hK D.o.hb (λhHeld=>?_);clear hK K;have bw:Hid (Hs w1 y.heap.size 3 #[.int .i64 k]):=(U.block _ cz.o.lt (λe=>by have:=bb.o _ e.symm;first|omega|(simp at this;done)|(simp at this;omega))).trans cz.o;refine tkE 9 (λK hK=>?_)
      refine step_append_lies _ rfl (.tmp 46) (.tmp 49) 104 rfl r.heap.size 3 io (.int .i64 0) 1 8 underlying104 d.o.1 d.o.2.1 d.o.2.2.1 d.o.2.2.2 rfl (by decide) (.slice N j A) j (((arms.take j).map St.m).map (Value.int .i64)) rfl D.o.two.om ⟨y.heap.size,0,none⟩ 1 1 [.int .i64 k] rfl rfl (ib bw.o) one1 (by decide) (by unfold maxLen;omega) ω D.o.two.s _ rfl ?_;intro gm A w2 ak F ao bs;have J:=η (D.o.m F ak ao);refine tkR hK J.o.hb (λhHeld=>?_);clear hK K;refine θ ?_;refine tkD ?_;have X:Hid (TwoS r w2 (some ⟨gn,0,none⟩) (some ⟨gm,0,none⟩) z A (j+1) arms):=by show Two _ _ _ _ _ _ _ _ _;rw[b4.o,b5.o];exact J.o.two
      go_wp2_with fail;go_roundw
      case rel =>
       refine⟨j+1,some ⟨gn,0,none⟩,some ⟨gm,0,none⟩,z,A,ω,?_,rfl,rfl,HX.o,X.o⟩;go_num
      case measure=>simp[intOf];omega
    have k5:(o1 != 5)=true:=by simpa using h5
    have HX:Hid (fO p (aa p M) (aF p M n) sc xs arms=false):=by show _=_;rw[bz.o,HU.o,cb.o,bf.o,decide_eq_false h5];rfl
    clear h5 bf;go_wp2_with fail;go_ret;rw[HX.o];exact du (bv.o.trans (smA (Stm.of_below (mb:=mb) l.o.b) _))
   have dz:=zF j arms.length;obtain rfl:j=arms.length:=ω;clear hj hlt;have dy:Hid (arms.all fP=true):=by show _=_;rw[HU.o,List.drop_length];rfl
   have er:Hid (fO p (aa p M) (aF p M n) sc xs arms=(bX p sc t (dr (aF p M n) arms) () ((arms.map St.n).zip (arms.map St.m))).isSome):=by show _=_;rw[bz.o,dy.o];simp
   obtain⟨B6,a2,es,ex,b7⟩:=zd5 l.o.b (e4.o.bel l.o.b) ((c5.o t rfl).1.to (sof (own:=own) l.o.b).sub) (StsR.to b6.o (sof (own:=own) l.o.b).sub) (sts_i64 b6.o)
   have b2:Hid (Two r.heap.size r wr (.slice L arms.length z) (.slice N arms.length A) arms.length arms.length ((arms.map St.n).map (Value.int .i64)) ((arms.map St.m).map (Value.int .i64))):=by
    have:=l.o;rw[List.take_length] at this;exact this
   have a9:∀q,r.heap.size<=q->q<wr.heap.size->im own wr q:=λq h1 h2=>⟨h2,λh=>by have:=c8.o q h;omega⟩
   have ew:Hid (IntsR wr (im own wr) (.slice L (arms.map St.n).length z) (arms.map St.n)):=by
    rw[List.length_map];exact fW b2.o.on (by simp) (by unfold maxLen;omega) a9 (λx hx=>by obtain⟨e,he,rfl⟩:=List.mem_map.1 hx;exact (b7.o e he).1)
   have dw:Hid (IntsR wr (im own wr) (.slice N (arms.map St.m).length A) (arms.map St.m)):=by
    rw[List.length_map];exact fW b2.o.om (by simp) (by unfold maxLen;omega) a9 (λx hx=>by obtain⟨e,he,rfl⟩:=List.mem_map.1 hx;exact (b7.o e he).2)
   have q1:wr.cell? ⟨w.heap.size,0,none⟩=some (.pointer (some ⟨c.b,0,none⟩)):=belC l.o.b c7.o;have q2:wr.cell? ⟨w.heap.size+1,0,none⟩=some (.pointer (some ⟨sb,0,none⟩)):=belC l.o.b ev.o;have q8:wr.cell? ⟨w.heap.size+1+1,8,none⟩=some (.slice A3 arms.length c3):=belC l.o.b eu.o;have bd:∀b,(w.heap.size<=b/\b<w.heap.size+3)->im own wr b:=λb hb=>⟨ω,λh=>by have:=c8.o b h;omega⟩
   have I0:=bd w.heap.size ω;have I1:=bd (w.heap.size+1) ω;have I2:=bd (w.heap.size+1+1) ω;have c6:Hid (ArmRel mb own (Stm mb)):=stm_arm HO.o
   have ck:Hid (mq (λi W Q=>Calls prog 203 #[.int .i64 i,.pointer (some ⟨w.heap.size,0,none⟩),.pointer (some ⟨w.heap.size+1,0,none⟩),.pointer (some ⟨w.heap.size+1+1,0,none⟩)] W Q) (arms.map St.n).length p own mb sb (Stm mb) InvT (dr (aF p M n) arms) wr):=by
    intro i g' bo f2 W hi ee f9 hrel fu cq ed;have SS:=dE (g:=g') (c6.o.stp hrel) ee;rw[List.length_map] at hi;obtain⟨n',f',df⟩:=a2.o.rul
    have eg:Env W (plus own g') mb sb c p bo:=⟨a2.o.chk.to SS,⟨n',f',df.to SS⟩,cq,λb hb=>by
     rcases hb with hb|hb
     ·exact ρ (a2.o.ol b hb) hrel.s.size
     omega⟩
    have dh:0<=bo.actor:=by
     obtain⟨_,_,_,_,ea⟩:=cq;obtain⟨_,_,_,_,cr⟩:=a2.o.sco;have h3:=ea.c3;have h4:=au cr.c3 SS cr.isb;rw[h3] at h4;have h5:bo.actor=sc.actor:=by simpa using h4
     rw[h5];exact fa.o
    exact body203 ey.o eg ed dh (SS _ I0).1 (au q1 SS I0) (SS _ I1).1 (au q2 SS I1) (SS _ I2).1 (au q8 SS I2) (StsR.to ex.o SS) hi (e5.o _ (ν hi))
   have be:=η (arms203 (st0:=()) a2.o b3.o ez.o es.o ew.o dw.o (by simp) c6.o (λi O O' st w w' h _ _ _=>trivial) ck.o trivial)
   have ca:Hid (Calls prog 198 #[.pointer (some ⟨c.b,0,none⟩),.pointer (some ⟨sb,0,none⟩),.agg #[.int .i64 k2,.string s2,.slice fb n2 dm],.slice L arms.length z,.slice N arms.length A,.func (.func 203) #[] #[.pointer (some ⟨w.heap.size,0,none⟩),.pointer (some ⟨w.heap.size+1,0,none⟩),.pointer (some ⟨w.heap.size+1+1,0,none⟩)]] wr (λe w'=>Stm mb wr w'/\e=.returned (.bool (fO p (aa p M) (aF p M n) sc xs arms))/\(fO p (aa p M) (aF p M n) sc xs arms=true->ScS w' own mb sb sc))):=by
    have:=be.o;rw[List.length_map,List.length_map] at this;rw[er.o];refine this.mono ?_;rintro e8 w8 ⟨h1,h2,h3⟩
    exact⟨h1,h2,λh=>by
     obtain⟨st,d9⟩:=Option.isSome_iff_exists.1 h;exact (h3 st d9).2⟩
   have bu:=da.o.stp (mb:=mb) (Stm.of_below l.o.b) (by unfold only;omega);obtain⟨y0,y1,y2,_,_,_⟩:=bu.facts;clear a9 be bu bd b2 l HU I0 I1 I2 q8;go_wp2_with (go_at_call 198;refine ca.o.mono ?_;rintro e8 w8 ⟨eb,rfl,d8⟩);go_ret;exact i8 (bv.o.trans ((Stm.of_below (mb:=mb) B6.o).trans eb)) d8
end Go.Proofs.YtjohpidklbhmcaaGreatDoor
