/- Core -/
import Derived.Test.YtjohpidklbhmcaaGreatDoorZ15
namespace Go.Proofs.YtjohpidklbhmcaaGreatDoor
set_option linter.all false
open Proofs.Tryz RowKit Maps WideMaps ChangeMaps
set_option maxRecDepth 100000
set_option maxHeartbeats 2000000
set_option maxRecDepth 1000000 in
def zfPrim {p:Prop} (h:p:=by
 have ah:=η hxk;clear hxk;obtain⟨ba,HD,HF,a7,HO,HW⟩:=zd6 IH hd hF ho he.mb.1 hwo;have f5:=he.mb.2;have gt:=hx.cap;have fj:=hx.le9;obtain⟨G,bm⟩:=γ ((w.alloc (.cells #[op,x,m,s,.slice A kids cap] 43)).alloc (.cells #[(0:Int),"",()] 40))
 have B0:Below w w G:=by rw[bm];exact ζ2
 have ik:w.heap.size+2=G:=by rw[bm];simp
 have eo:Hs G (w+1) 40 z3:=by rw[bm];exact Hs.new' _ _ _
 have dg:Hs G w 43 (ex5 op x m s A kids cap):=by rw[bm];exact (Hs.new _ _ _).alloc _
 obtain⟨RS,BX,BB,gf,HE,du,gi⟩:=zd7 eo dg B0 (Stm.of_below (mb:=mb) B0) he hx hw;have b4:=dg.c 4;have gj:=η bm;clear hd he ho hx hw hwo IH hF bm B0 eo dg;go_in;go_upto_region 1 with fail;rw[<-gj.o];by_cases h0:kids.length=0
 ·have HX:Hid (aP (aa p n) sc x want kids=none):=by
   show _=_
   match kids,h0 with
    | [],_=>rfl
  have l1:((kids.length:Int)==0)=true:=beq_iff_eq.2 ω;clear h0;obtain⟨z0,z1,z2,q0,q1,Z⟩:=RS.facts;go_wp2;rw[HX.o];exact bodyPost_ret (am results187 _ _ (w+1) _ _ _ _ _ rfl (RS.set3 _ _ _ _ _)) rfl (aB gf ω ω)
 have l1:((kids.length:Int)==0)=false:=beq_eq_false_iff_ne.2 ω;have i0:0<kids.length:=ω;have j0:(0:Int)<(kids.length:Int):=ω;have HV:=η (gA (E:=aa p n) (sc:=sc) (x:=x) (want:=want) i0);clear h0;go_upto_region 4 with fail;obtain⟨M,cd,B1,_⟩:=κ G #[(0:Int),"",()] 40
 have hi:G.heap.size+1=M:=by rw[cd];simp
 have eu:Hs M G 40 z3:=by rw[cd];exact Hs.new _ _ _
 have BW:=bel BB B1;obtain⟨ix,ge⟩:=zd2 BW (Stm.of_below (mb:=mb) BW);have U:Hid (Pm M own w mb w (w+1) (ex5 op x m s A kids cap)):=⟨ge,(B1.block _ BX.lt).trans BX,(B1.block _ RS.lt).trans RS⟩
 have X:=η eu;have bt:Sub (im own w) (im (plus (plus own (w+1)) G) M) w M:=eg BW ω ω;have bb:Hid (Env M (plus (plus own (w+1)) G) mb sb c p sc):=HE.sub bt (BW.block mb f5) (.inl (.inl HO)) (λb hb=>by rcases hb with (hb|hb)|hb;have:=HE.ol b hb;omega;omega;omega);obtain⟨go,dq⟩:=zd2 (ExsR.to du bt) (gi.to bt);rw[<-cd];clear cd B1 eu BW bt b4 l1;have b1:=U.bx.c 1;go_upto_block 0 with fail;obtain⟨r,hr⟩:=γ (aY (aa p n) sc x want kids[0])
 have J:=η hr;clear hr;go_cut [11] (λv W=>Hid (Fst own w mb sb w (w+1) G (ex5 op x m s A kids cap) sc r v W))
 case first =>
  have b4:=U.bx.c 4;obtain⟨g,h6,o1,x1,m1,s1,a1,B1,gb,rfl,hg,e1,p0,p1,p2,p3,p4,hr⟩:=aQ go i0;simp only[Nat.zero_mul,Nat.add_zero] at p0 p1 p2 p3 p4;have HR:=η hr;clear hr e1;obtain⟨y0,y1,y2,f0,f1,f2⟩:=X.facts
  first
   | guard_hyp kk0:True
     obtain rfl:x=1:=ah.o;have bk:=η (ig (E:=aa p n) (sc:=sc) (x:=1) (want:=want) (k0:=kids[0]) ω)
   | guard_hyp kk1:True
     obtain rfl:x=2:=ah.o;have bk:=η (ig (E:=aa p n) (sc:=sc) (x:=2) (want:=want) (k0:=kids[0]) ω)
   | guard_hyp kk2:True
     obtain rfl:x=3:=ah.o;have bk:=η (ig (E:=aa p n) (sc:=sc) (x:=3) (want:=want) (k0:=kids[0]) ω)
   | guard_hyp kk3:True
     obtain rfl:x=4:=ah.o;have bk:=η (ig (E:=aa p n) (sc:=sc) (x:=4) (want:=want) (k0:=kids[0]) ω)
   | guard_hyp kk4:True
     obtain rfl:x=5:=ah.o;have bk:=η (kV (E:=aa p n) (sc:=sc) (x:=5) (want:=want) (k0:=kids[0]) ω)
   | guard_hyp kk5:True
     obtain rfl:x=6:=ah.o;have bk:=η (kV (E:=aa p n) (sc:=sc) (x:=6) (want:=want) (k0:=kids[0]) ω)
   | obtain rfl:x=7:=ah.o
     have bk:=η (qm (E:=aa p n) (sc:=sc) (x:=7) (want:=want) (k0:=kids[0]) ω)
  rw[bk.o] at J
  first
   | (first|guard_hyp kk6:True|guard_hyp kk4:True|guard_hyp kk5:True)
     first
      | guard_hyp kk6:True
        have bd:Below M M (M.alloc (.cells #[(3:Int),"",()] 40)):=belA (belR _) _
        have dp:Hid (WantR (M.alloc (.cells #[(3:Int),"",()] 40)) (im (plus (plus own (w+1)) G) (M.alloc (.cells #[(3:Int),"",()] 40))) (M:Vl) (some (bTy 3))):=by
         have hh:Hs (M.alloc (.cells #[(3:Int),"",()] 40)) M 40 (ty3 3 ⟨#[]⟩ none 0 0):=Hs.new _ _ _;obtain⟨z0,z1,z2,_⟩:=hh.facts;exact⟨M,0,_,_,_,_,_,rfl,⟨hh.lt,λhx=>by have:=bb.ol _ hx;omega⟩,z0,z1,z2,cO _ _ _ Ψ⟩
        obtain⟨l,ce⟩:=zd2 (ba (plus (plus own (w+1)) G) sb sc _ kids[0] _ (some (bTy 3)) _ (HD _ (ν i0)) (bb.bel bd) a7 (HR.to (sof bd).sub) dp (λu h=>by injection h with h;rw[<-h];rfl)) (Stm.of_below (mb:=mb) bd)
      | have bd:Below M M (M.alloc (.cells #[(4:Int),"",()] 40)):=belA (belR _) _
        have dp:Hid (WantR (M.alloc (.cells #[(4:Int),"",()] 40)) (im (plus (plus own (w+1)) G) (M.alloc (.cells #[(4:Int),"",()] 40))) (M:Vl) (some (bTy 4))):=by
         have hh:Hs (M.alloc (.cells #[(4:Int),"",()] 40)) M 40 (ty3 4 ⟨#[]⟩ none 0 0):=Hs.new _ _ _;obtain⟨z0,z1,z2,_⟩:=hh.facts;exact⟨M,0,_,_,_,_,_,rfl,⟨hh.lt,λhx=>by have:=bb.ol _ hx;omega⟩,z0,z1,z2,cO _ _ _ Ψ⟩
        obtain⟨l,ce⟩:=zd2 (ba (plus (plus own (w+1)) G) sb sc _ kids[0] _ (some (bTy 4)) _ (HD _ (ν i0)) (bb.bel bd) a7 (HR.to (sof bd).sub) dp (λu h=>by injection h with h;rw[<-h];rfl)) (Stm.of_below (mb:=mb) bd)
     clear bd
     first
      | guard_hyp kk6:True
        cases hr0:aa p n sc kids[0] (some (bTy 3)) with
         | none =>
          rw[hr0] at l J;have z:Hid (r=none):=J.o;clear hr0;go_wp2_with (go_at_call 141;refine l.mono ?_;rintro e3 w3 ⟨f,rfl⟩;have B:=η (ce.trans f);have y:=η (X.stp B Ω);obtain⟨y0,y1,y2,f0,f1,f2⟩:=y.facts;clear f);go_meet;exact⟨by rw[z.o];rfl,(U.stm B ω ω).set (fb:=G) ω ω ω ω _ _ _ _ _,_,_,_,_,_,y.set3 _ _ _ _ _,λt h=>by rw[z.o] at h;cases h⟩
         | some T =>
          rw[hr0] at l J;have z:Hid (r=some T):=J.o;clear hr0;go_wp2_with (go_at_call 141;refine l.mono ?_;rintro e3 w3 ⟨f,R,V,A3,n3,D,rfl,F,I⟩;have a2:=η F;have ai:=η I;have B:=η (ce.trans f);have y:=η (X.stp B Ω);obtain⟨y0,y1,y2,f0,f1,f2⟩:=y.facts;clear f F I);go_meet
          exact⟨by rw[z.o];rfl,(U.stm B ω ω).set (fb:=G) ω ω ω ω _ _ _ _ _,_,_,_,_,_,y.set3 _ _ _ _ _,λt h=>by
           rw[z.o] at h;injection h with h;subst h;exact⟨a2.to (aG _ _ _ _ _),ai.sub (aG _ _ _ _ _) (aq _ _ _ _ _ _ _ _ ω) (.inl HO)⟩⟩
      | cases hr0:aa p n sc kids[0] (some (bTy 4)) with
         | none =>
          rw[hr0] at l J;have z:Hid (r=none):=J.o;clear hr0;go_wp2_with (go_at_call 141;refine l.mono ?_;rintro e3 w3 ⟨f,rfl⟩;have B:=η (ce.trans f);have y:=η (X.stp B Ω);obtain⟨y0,y1,y2,f0,f1,f2⟩:=y.facts;clear f);go_meet;exact⟨by rw[z.o];rfl,(U.stm B ω ω).set (fb:=G) ω ω ω ω _ _ _ _ _,_,_,_,_,_,y.set3 _ _ _ _ _,λt h=>by rw[z.o] at h;cases h⟩
         | some T =>
          rw[hr0] at l J;have z:Hid (r=some T):=J.o;clear hr0;go_wp2_with (go_at_call 141;refine l.mono ?_;rintro e3 w3 ⟨f,R,V,A3,n3,D,rfl,F,I⟩;have a2:=η F;have ai:=η I;have B:=η (ce.trans f);have y:=η (X.stp B Ω);obtain⟨y0,y1,y2,f0,f1,f2⟩:=y.facts;clear f F I);go_meet
          exact⟨by rw[z.o];rfl,(U.stm B ω ω).set (fb:=G) ω ω ω ω _ _ _ _ _,_,_,_,_,_,y.set3 _ _ _ _ _,λt h=>by
           rw[z.o] at h;injection h with h;subst h;exact⟨a2.to (aG _ _ _ _ _),ai.sub (aG _ _ _ _ _) (aq _ _ _ _ _ _ _ _ ω) (.inl HO)⟩⟩
   | cases want with
      | none =>
       have e:wv=.pointer none:=dq.o;subst e
       first
        | guard_hyp kk0:True
          rw[show dM 1 none=none from rfl] at J
        | guard_hyp kk1:True
          rw[show dM 2 none=none from rfl] at J
        | guard_hyp kk2:True
          rw[show dM 3 none=none from rfl] at J
        | rw[show dM 4 none=none from rfl] at J
       have l:=η (ba (plus (plus own (w+1)) G) sb sc _ kids[0] (.pointer none) (none) M (HD _ (ν i0)) bb a7 HR rfl (λ_ h=>by cases h))
       cases hr0:aa p n sc kids[0] (none) with
        | none =>
         rw[hr0] at l J;have z:Hid (r=none):=J.o;clear hr0;go_wp2_with (go_at_call 141;refine l.mono ?_;rintro e3 w3 ⟨f,rfl⟩;have B:=η f;have y:=η (X.stp f Ω);obtain⟨y0,y1,y2,f0,f1,f2⟩:=y.facts;clear f);go_meet;exact⟨by rw[z.o];rfl,(U.stm B ω ω).set (fb:=G) ω ω ω ω _ _ _ _ _,_,_,_,_,_,y.set3 _ _ _ _ _,λt h=>by rw[z.o] at h;cases h⟩
        | some T =>
         rw[hr0] at l J;clear hr0
         cases T with
          | mk kT sT aT =>
         by_cases N:kT=5
         ·subst N;have z:Hid (r=some (.mk 5 sT aT)):=J.o;go_wp2_with (go_at_call 141;refine l.mono ?_;rintro e3 w3 ⟨f,R,V,A3,n3,D,rfl,F,I⟩;obtain⟨k',s',a',A',H,O,eT,_⟩:=ap F;injection eT with q1 Z q3;subst q1 Z q3;obtain⟨rfl,rfl,rfl,rfl,rfl⟩:R=5/\V=sT/\A3=A'/\n3=aT/\D=H:=(by simpa using O);have a2:=η F;have ai:=η I;have B:=η f;have y:=η (X.stp f Ω);obtain⟨y0,y1,y2,f0,f1,f2⟩:=y.facts;clear f F I O);go_meet
          exact⟨by rw[z.o];rfl,(U.stm B ω ω).set (fb:=G) ω ω ω ω _ _ _ _ _,_,_,_,_,_,y.set3 _ _ _ _ _,λt h=>by
           rw[z.o] at h;injection h with h;subst h;exact⟨a2.to (aG _ _ _ _ _),ai.sub (aG _ _ _ _ _) (aq _ _ _ _ _ _ _ _ ω) (.inl HO)⟩⟩
         have dk:(kT==5)=false:=beq_eq_false_iff_ne.2 N
         have z:Hid (r=none):=by
          show _=_;rw[J.o];show (if kT=5 then _ else _)=_;rw[if_neg N]
         clear N;go_wp2_with (go_at_call 141;refine l.mono ?_;rintro e3 w3 ⟨f,R,V,A3,n3,D,rfl,F,I⟩;obtain⟨k',s',a',A',H,O,eT,_⟩:=ap F;injection eT with q1 Z q3;subst q1 Z q3;obtain⟨rfl,rfl,rfl,rfl,rfl⟩:R=kT/\V=sT/\A3=A'/\n3=aT/\D=H:=(by simpa using O);have B:=η f;have y:=η (X.stp f Ω);obtain⟨y0,y1,y2,f0,f1,f2⟩:=y.facts;clear f F I O);go_meet;exact⟨by rw[z.o];rfl,(U.stm B ω ω).set (fb:=G) ω ω ω ω _ _ _ _ _,_,_,_,_,_,y.set3 _ _ _ _ _,λt h=>by rw[z.o] at h;cases h⟩
      | some u =>
       obtain⟨gw,ow,kw,sw,Aw,nw,cw,rfl,ip,w0,w1,w2,ek⟩:=dq.o;obtain⟨k',s',a',A',H,O,rfl,_⟩:=ap ek;obtain⟨rfl,rfl,rfl,rfl,rfl⟩:kw=k'/\sw=s'/\Aw=A'/\nw=a'/\cw=H:=by simpa using O
       clear O ek;by_cases h5:kw=5
       ·subst h5
        first
         | guard_hyp kk0:True
           have ay:dM 1 (some (.mk 5 sw a'))=none:=by simp[dM,Ty.kind]
         | guard_hyp kk1:True
           have ay:dM 2 (some (.mk 5 sw a'))=none:=by simp[dM,Ty.kind]
         | guard_hyp kk2:True
           have ay:dM 3 (some (.mk 5 sw a'))=some (.mk 5 sw a'):=by simp[dM,Ty.kind]
         | have ay:dM 4 (some (.mk 5 sw a'))=some (.mk 5 sw a'):=by simp[dM,Ty.kind]
        rw[ay] at J;clear ay
        first
         | (first|guard_hyp kk0:True|guard_hyp kk1:True)
           have l:=η (ba (plus (plus own (w+1)) G) sb sc _ kids[0] (.pointer none) (none) M (HD _ (ν i0)) bb a7 HR rfl (λ_ h=>by cases h))
           cases hr0:aa p n sc kids[0] (none) with
            | none =>
             rw[hr0] at l J;have z:Hid (r=none):=J.o;clear hr0;go_wp2_with (go_at_call 141;refine l.mono ?_;rintro e3 w3 ⟨f,rfl⟩;have B:=η f;have y:=η (X.stp f Ω);obtain⟨y0,y1,y2,f0,f1,f2⟩:=y.facts;clear f);go_meet;exact⟨by rw[z.o];rfl,(U.stm B ω ω).set (fb:=G) ω ω ω ω _ _ _ _ _,_,_,_,_,_,y.set3 _ _ _ _ _,λt h=>by rw[z.o] at h;cases h⟩
            | some T =>
             rw[hr0] at l J;clear hr0
             cases T with
              | mk kT sT aT =>
             by_cases N:kT=5
             ·subst N;have z:Hid (r=some (.mk 5 sT aT)):=J.o;go_wp2_with (go_at_call 141;refine l.mono ?_;rintro e3 w3 ⟨f,R,V,A3,n3,D,rfl,F,I⟩;obtain⟨k',s',a',A',H,O,eT,_⟩:=ap F;injection eT with q1 Z q3;subst q1 Z q3;obtain⟨rfl,rfl,rfl,rfl,rfl⟩:R=5/\V=sT/\A3=A'/\n3=aT/\D=H:=(by simpa using O);have a2:=η F;have ai:=η I;have B:=η f;have y:=η (X.stp f Ω);obtain⟨y0,y1,y2,f0,f1,f2⟩:=y.facts;clear f F I O);go_meet
              exact⟨by rw[z.o];rfl,(U.stm B ω ω).set (fb:=G) ω ω ω ω _ _ _ _ _,_,_,_,_,_,y.set3 _ _ _ _ _,λt h=>by
               rw[z.o] at h;injection h with h;subst h;exact⟨a2.to (aG _ _ _ _ _),ai.sub (aG _ _ _ _ _) (aq _ _ _ _ _ _ _ _ ω) (.inl HO)⟩⟩
             have dk:(kT==5)=false:=beq_eq_false_iff_ne.2 N
             have z:Hid (r=none):=by
              show _=_;rw[J.o];show (if kT=5 then _ else _)=_;rw[if_neg N]
             clear N;go_wp2_with (go_at_call 141;refine l.mono ?_;rintro e3 w3 ⟨f,R,V,A3,n3,D,rfl,F,I⟩;obtain⟨k',s',a',A',H,O,eT,_⟩:=ap F;injection eT with q1 Z q3;subst q1 Z q3;obtain⟨rfl,rfl,rfl,rfl,rfl⟩:R=kT/\V=sT/\A3=A'/\n3=aT/\D=H:=(by simpa using O);have B:=η f;have y:=η (X.stp f Ω);obtain⟨y0,y1,y2,f0,f1,f2⟩:=y.facts;clear f F I O);go_meet;exact⟨by rw[z.o];rfl,(U.stm B ω ω).set (fb:=G) ω ω ω ω _ _ _ _ _,_,_,_,_,_,y.set3 _ _ _ _ _,λt h=>by rw[z.o] at h;cases h⟩
         | have l:=η (ba (plus (plus own (w+1)) G) sb sc _ kids[0] (.pointer (some ⟨gw,ow,none⟩)) (some (.mk 5 sw a')) M (HD _ (ν i0)) bb a7 HR dq HW)
           cases hr0:aa p n sc kids[0] (some (.mk 5 sw a')) with
            | none =>
             rw[hr0] at l J;have z:Hid (r=none):=J.o;clear hr0;go_wp2_with (go_at_call 141;refine l.mono ?_;rintro e3 w3 ⟨f,rfl⟩;have B:=η f;have y:=η (X.stp f Ω);obtain⟨y0,y1,y2,f0,f1,f2⟩:=y.facts;clear f);go_meet;exact⟨by rw[z.o];rfl,(U.stm B ω ω).set (fb:=G) ω ω ω ω _ _ _ _ _,_,_,_,_,_,y.set3 _ _ _ _ _,λt h=>by rw[z.o] at h;cases h⟩
            | some T =>
             rw[hr0] at l J;clear hr0
             cases T with
              | mk kT sT aT =>
             by_cases N:kT=5
             ·subst N;have z:Hid (r=some (.mk 5 sT aT)):=J.o;go_wp2_with (go_at_call 141;refine l.mono ?_;rintro e3 w3 ⟨f,R,V,A3,n3,D,rfl,F,I⟩;obtain⟨k',s',a',A',H,O,eT,_⟩:=ap F;injection eT with q1 Z q3;subst q1 Z q3;obtain⟨rfl,rfl,rfl,rfl,rfl⟩:R=5/\V=sT/\A3=A'/\n3=aT/\D=H:=(by simpa using O);have a2:=η F;have ai:=η I;have B:=η f;have y:=η (X.stp f Ω);obtain⟨y0,y1,y2,f0,f1,f2⟩:=y.facts;clear f F I O);go_meet
              exact⟨by rw[z.o];rfl,(U.stm B ω ω).set (fb:=G) ω ω ω ω _ _ _ _ _,_,_,_,_,_,y.set3 _ _ _ _ _,λt h=>by
               rw[z.o] at h;injection h with h;subst h;exact⟨a2.to (aG _ _ _ _ _),ai.sub (aG _ _ _ _ _) (aq _ _ _ _ _ _ _ _ ω) (.inl HO)⟩⟩
             have dk:(kT==5)=false:=beq_eq_false_iff_ne.2 N
             have z:Hid (r=none):=by
              show _=_;rw[J.o];show (if kT=5 then _ else _)=_;rw[if_neg N]
             clear N;go_wp2_with (go_at_call 141;refine l.mono ?_;rintro e3 w3 ⟨f,R,V,A3,n3,D,rfl,F,I⟩;obtain⟨k',s',a',A',H,O,eT,_⟩:=ap F;injection eT with q1 Z q3;subst q1 Z q3;obtain⟨rfl,rfl,rfl,rfl,rfl⟩:R=kT/\V=sT/\A3=A'/\n3=aT/\D=H:=(by simpa using O);have B:=η f;have y:=η (X.stp f Ω);obtain⟨y0,y1,y2,f0,f1,f2⟩:=y.facts;clear f F I O);go_meet;exact⟨by rw[z.o];rfl,(U.stm B ω ω).set (fb:=G) ω ω ω ω _ _ _ _ _,_,_,_,_,_,y.set3 _ _ _ _ _,λt h=>by rw[z.o] at h;cases h⟩
       have ir:(kw==5)=false:=beq_eq_false_iff_ne.2 h5
       first
        | guard_hyp kk0:True
          have ay:dM 1 (some (.mk kw sw a'))=none:=by simp[dM,Ty.kind,h5]
        | guard_hyp kk1:True
          have ay:dM 2 (some (.mk kw sw a'))=none:=by simp[dM,Ty.kind,h5]
        | guard_hyp kk2:True
          have ay:dM 3 (some (.mk kw sw a'))=none:=by simp[dM,Ty.kind,h5]
        | have ay:dM 4 (some (.mk kw sw a'))=none:=by simp[dM,Ty.kind,h5]
       rw[ay] at J;clear ay h5;have l:=η (ba (plus (plus own (w+1)) G) sb sc _ kids[0] (.pointer none) (none) M (HD _ (ν i0)) bb a7 HR rfl (λ_ h=>by cases h))
       cases hr0:aa p n sc kids[0] (none) with
        | none =>
         rw[hr0] at l J;have z:Hid (r=none):=J.o;clear hr0;go_wp2_with (go_at_call 141;refine l.mono ?_;rintro e3 w3 ⟨f,rfl⟩;have B:=η f;have y:=η (X.stp f Ω);obtain⟨y0,y1,y2,f0,f1,f2⟩:=y.facts;clear f);go_meet;exact⟨by rw[z.o];rfl,(U.stm B ω ω).set (fb:=G) ω ω ω ω _ _ _ _ _,_,_,_,_,_,y.set3 _ _ _ _ _,λt h=>by rw[z.o] at h;cases h⟩
        | some T =>
         rw[hr0] at l J;clear hr0
         cases T with
          | mk kT sT aT =>
         by_cases N:kT=5
         ·subst N;have z:Hid (r=some (.mk 5 sT aT)):=J.o;go_wp2_with (go_at_call 141;refine l.mono ?_;rintro e3 w3 ⟨f,R,V,A3,n3,D,rfl,F,I⟩;obtain⟨k',s',a',A',H,O,eT,_⟩:=ap F;injection eT with q1 Z q3;subst q1 Z q3;obtain⟨rfl,rfl,rfl,rfl,rfl⟩:R=5/\V=sT/\A3=A'/\n3=aT/\D=H:=(by simpa using O);have a2:=η F;have ai:=η I;have B:=η f;have y:=η (X.stp f Ω);obtain⟨y0,y1,y2,f0,f1,f2⟩:=y.facts;clear f F I O);go_meet
          exact⟨by rw[z.o];rfl,(U.stm B ω ω).set (fb:=G) ω ω ω ω _ _ _ _ _,_,_,_,_,_,y.set3 _ _ _ _ _,λt h=>by
           rw[z.o] at h;injection h with h;subst h;exact⟨a2.to (aG _ _ _ _ _),ai.sub (aG _ _ _ _ _) (aq _ _ _ _ _ _ _ _ ω) (.inl HO)⟩⟩
         have dk:(kT==5)=false:=beq_eq_false_iff_ne.2 N
         have z:Hid (r=none):=by
          show _=_;rw[J.o];show (if kT=5 then _ else _)=_;rw[if_neg N]
         clear N;go_wp2_with (go_at_call 141;refine l.mono ?_;rintro e3 w3 ⟨f,R,V,A3,n3,D,rfl,F,I⟩;obtain⟨k',s',a',A',H,O,eT,_⟩:=ap F;injection eT with q1 Z q3;subst q1 Z q3;obtain⟨rfl,rfl,rfl,rfl,rfl⟩:R=kT/\V=sT/\A3=A'/\n3=aT/\D=H:=(by simpa using O);have B:=η f;have y:=η (X.stp f Ω);obtain⟨y0,y1,y2,f0,f1,f2⟩:=y.facts;clear f F I O);go_meet;exact⟨by rw[z.o];rfl,(U.stm B ω ω).set (fb:=G) ω ω ω ω _ _ _ _ _,_,_,_,_,_,y.set3 _ _ _ _ _,λt h=>by rw[z.o] at h;cases h⟩
 case rest =>
 obtain⟨rfl,ca,R,V,A3,n3,D,ew,en⟩:=hcut.o;obtain⟨cr,y,cs⟩:=zd3 ca ew en;clear hcut ca ew en b1;obtain⟨w3,rfl⟩:=γ wc
 have ej:G.heap.size<w3:=y.lt
 cases r with
  | none =>
   have HX:Hid (aP (aa p n) sc x want kids=none):=by show _=_;rw[HV.o,<-J.o]
   obtain⟨z0,z1,z2,q0,q1,Z⟩:=cr.rs.facts;go_wp2;rw[HX.o];exact bodyPost_ret (am results187 _ _ (w+1) _ _ _ _ _ rfl (cr.rs.set3 _ _ _ _ _)) rfl (aB cr.st ω ω)
  | some t =>
   have e0:Hid (aP (aa p n) sc x want kids=match bi x t with|none=>none|some (d,r)=>if d.length=kids.length-1 then (if aR (aa p n) sc (kids.drop 1) d then some r else none) else none):=by show _=_;rw[HV.o,<-J.o];first|done|rfl
   obtain⟨es,c1⟩:=dz HF a7 HW J.symm;have fc:=η es;clear es;obtain⟨k',s',a,A',H,O,et,_,_,el⟩:=ap (cs t rfl).1;subst et;obtain⟨rfl,rfl,rfl,rfl,rfl⟩:R=k'/\V=s'/\A3=A'/\n3=a/\D=H:=by simpa using O
   have gl:=η el;clear O el;have cl:Hid (x=2\/x=3->∃u,a=[u]):=λh=>eI fc (c1.2 ω);have iv:Hid (x=2\/x=3->R=5):=λh=>c1.2 ω
   obtain⟨d,ax,cm⟩:∃d ax,bi x (.mk R V a)=some (d,ax):=by
    rcases c1.1 with rfl|rfl|rfl|rfl|rfl|rfl|rfl
    ·exact⟨_,_,rfl⟩
    ·obtain⟨u,rfl⟩:=cl ω;exact⟨_,_,rfl⟩
    ·obtain⟨u,rfl⟩:=cl ω;exact⟨_,_,rfl⟩
    ·exact⟨_,_,rfl⟩
    ·exact⟨_,_,rfl⟩
    ·exact⟨_,_,rfl⟩
    exact⟨_,_,rfl⟩
   have cf:=η cm;have gp:Hid (∀u∈d,ag u=true):=dN fc cm;have ez:Hid (aP (aa p n) sc x want kids=if d.length=kids.length-1 then (if aR (aa p n) sc (kids.drop 1) d then some ax else none) else none):=by show _=_;rw[e0.o,cm]
   clear cm e0 HV;go_upto_region 23 with (go_at_call 176;refine (aU _ _).mono ?_;rintro e4 w4 ⟨rfl,di⟩);obtain⟨Y,cc⟩:=γ (w4.alloc (.cells #[(3:Int),"",()] 40))
   have B5:Below w3 w3 Y:=by rw[cc];exact belA di _
   have ij:w3.heap.size<=w4:=di.size;have ii:w4.heap.size+1=Y:=by rw[cc];simp
   have c9:Hs Y w4 40 (ty3 3 ⟨#[]⟩ none 0 0):=by rw[cc];exact Hs.new _ _ _
   rw[<-cc];clear cc di;obtain⟨f0,f1,f2,_,_,_⟩:=(show Hs Y G 40 _ from (B5.block _ ej).trans y).facts;go_upto_region 25 with fail;obtain⟨L,cb,d3,_⟩:=κ Y #[R,V,.slice A3 a D] 40
   have B6:Below w3 w3 L:=bel B5 d3;have ih:Y.heap.size+1=L:=by rw[cb];simp
   have c6:Hs L Y 40 (ty3 R V A3 a D):=by rw[cb];exact Hs.new _ _ _
   have c7:Hs L w4 40 (ty3 3 ⟨#[]⟩ none 0 0):=(d3.block _ c9.lt).trans c9;have ev:Hs L G 40 (ty3 R V A3 a D):=(B6.block _ ej).trans y;rw[<-cb];clear cb f0 f1 f2 c9;obtain⟨a4,it,bp,dt,e5⟩:=zd5 c6 c7 (cr.stm (Stm.of_below B6) ω ω) ((cs _ rfl).2.below B6) ((cs _ rfl).1.to (sof B6).sub);have fs:Hid (TysR L (im (plus (plus own (w+1)) Y) L) (.slice A3 a D) a):=TysR.to gl (aV B6 ω);have fp:Hid (∀o,im (plus own (w+1)) (L.alloc o) L):=λo=>⟨by simp,by rintro (h|h);have:=HE.ol _ h;omega;omega⟩
   have bu:Hid (ScS L (plus (plus own (w+1)) Y) mb sb sc):=(cs _ rfl).2.sub (aV B6 ω) (B6.block mb ω) (.inl (.inl HO));have iw:=η B6;obtain⟨n0,n1,n2,_,_,_⟩:=c7.facts;obtain⟨f0,f1,f2,_,_,_⟩:=ev.facts;obtain⟨q0,q1,Z,r0,r1,r2⟩:=c6.facts;clear c6 c7 ev B5 B6 d3;have b1:=bp.bx.c 1;go_upto_block 1 with fail;go_cut [14] (λv W=>Hid (Snd own w mb sb w (w+1) Y (ex5 op x m s A kids cap) sc d ax v W))
   case first =>
    first
     | guard_hyp kk6:True
       obtain rfl:x=7:=ah.o;obtain⟨rfl,rfl⟩:d=[]/\ax=bTy 4:=by have:=cf.o;simp[bi] at this;exact⟨this.1,this.2.symm⟩
       go_wp2_with (go_at_call 176;refine (aU _ _).mono ?_;rintro e7 w7 ⟨rfl,dh⟩;have dm:=η (show Hs w7 Y 40 (ty3 R V A3 a D) from (dh.block _ a4.lt).trans a4);obtain⟨q0,q1,Z,r0,r1,r2⟩:=dm.facts)
     | (first|guard_hyp kk0:True|guard_hyp kk4:True)
       first
        | guard_hyp kk0:True
          obtain rfl:x=1:=ah.o
        | obtain rfl:x=5:=ah.o
       obtain⟨rfl,rfl⟩:d=[]/\ax=bTy 3:=by have:=cf.o;simp[bi] at this;exact⟨this.1,this.2.symm⟩
       go_wp2_with fail
     | (first|guard_hyp kk3:True|guard_hyp kk5:True)
       first
        | guard_hyp kk3:True
          obtain rfl:x=4:=ah.o
        | obtain rfl:x=6:=ah.o
       obtain⟨rfl,rfl⟩:d=[bTy 3,bTy 3]/\ax=.mk R V a:=by have:=cf.o;simp[bi] at this;exact⟨this.1.symm,this.2.symm⟩
       have BQ:=η (λo=>belA (belR L) o);go_wp2_with fail
     | first
        | guard_hyp kk2:True
          obtain rfl:x=3:=ah.o
        | obtain rfl:x=2:=ah.o
       obtain⟨u,rfl⟩:∃u,a=[u]:=cl ω;obtain⟨g8,fd,k8,s8,a8,B8,c8,ex,f6,e8,v0,v1,v2,c5⟩:=cS fs (i:=0) Θ;simp only[Nat.zero_mul,Nat.add_zero,List.getElem_cons_zero] at v0 v1 v2 c5;have f8:=ex;subst f8;have e6:=η c5;have cj:g8≠Y:=λe=>f6.2 (by rw[e];exact .inr rfl);replace v0:=cD v0 cj;replace v1:=cD v1 cj;replace v2:=cD v2 cj;replace n0:=cD n0 (show w4.heap.size≠Y.heap.size by omega);replace n1:=cD n1 (show w4.heap.size≠Y.heap.size by omega);replace n2:=cD n2 (show w4.heap.size≠Y.heap.size by omega);replace f2:=cD f2 (show G.heap.size≠Y.heap.size by omega);clear c5 e8 ex
       first
        | guard_hyp kk1:True
          obtain⟨rfl,rfl⟩:d=[bTy 3]/\ax=u:=by have:=cf.o;simp[bi,Ty.args] at this;exact⟨this.1.symm,this.2.symm⟩
          go_upto_region 30 with fail
        | obtain⟨rfl,rfl⟩:d=[bTy 3,u]/\ax=.mk R V [u]:=by have:=cf.o;simp[bi,Ty.args] at this;exact⟨this.1.symm,this.2.symm⟩
          go_upto_region 32 with fail
       refine tkB (λW=>Stp (only Y.heap.size) L W) (bq _ _) (λhHeld=>?_);refine tkQ 0 ?_
       first
        | done
        | guard_hyp kk1:True
        | refine tkQ 1 ?_
       refine tkQ 2 ?_;refine tkQ 3 ?_;refine tkQ 4 ?_
       first
        | guard_hyp kk2:True
          refine tkE 5 (λK hK=>?_)
        | refine tkQ 5 ?_
          refine tkE 1 (λK hK=>?_)
       go_simp;refine tkR hK ?_ (λhHeld=>?_)
       ·exact stpA hHeld _
       clear hK K;refine tkQ 6 ?_
       first
        | done
        | guard_hyp kk2:True
        | have cq:Hid (Hs ((L.alloc (.cells #[(3:Int),"",()] 40)).drew) Y 40 (ty3 R V (some ⟨g8,fd,none⟩) 1 D)):=Hs.alloc (w:=L) a4 _
          obtain⟨Wx,cp⟩:=γ ((L.alloc (.cells #[(3:Int),"",()] 40)).drew)
          rw[<-cp] at cq hHeld;rw[<-cp];have dn:=η cp;clear cp;obtain⟨q0,q1,Z,r0,r1,r2⟩:=cq.facts;refine tkE 7 (λK hK=>?_);go_simp;refine tkR hK ?_ (λhHeld=>?_)
          ·exact stp_set hHeld _ _ _ _ _
          clear hK K
       refine tkD ?_;go_wp2
    go_meet
    first
     | guard_hyp kk6:True
       exact⟨((bp.stm (Stm.of_below dh) ω ω).set (fb:=Y) ω ω ω ω _ _ _ _ _),by rw[bQ];exact dm.lt,(bu.below dh).sub (aG _ _ _ _ _) (aq _ _ _ _ _ _ _ _ ω) (.inl HO),⟨none,0,rfl,SlR.nil⟩,_,_,_,_,_,dm.set3 _ _ _ _ _,cO _ _ 4 Ψ⟩
     | guard_hyp kk2:True
       have BN:Below L L (L.drew.alloc (.cells #[(3:Int),"",(),k8,s8,.slice B8 a8 c8] 40)):=belA (ad L) _;exact⟨bp.stm (Stm.of_below BN) ω ω,by have:=a4.lt;simp;omega,dt.below BN,⟨_,_,rfl,pa (nb:=L) (Hs.new L.drew _ _) ⟨by simp,by rintro (h|h);have:=HE.ol _ h;omega;omega⟩ (cO _ _ 3 Ψ) ((e6.to oK).to (sof BN).sub)⟩,_,_,_,_,_,(BN.block _ a4.lt).trans a4,e5.to (sof BN).sub⟩
     | guard_hyp kk1:True
       have BN:Below L L Wx:=by rw[dn.o];exact belA (ad L) _
       have er:Hs Wx L 40 (ty3 3 ⟨#[]⟩ none 0 0):=by rw[dn.o];exact Hs.new L.drew _ _
       exact⟨((bp.stm (Stm.of_below BN) ω ω).set (fb:=Y) ω ω ω ω _ _ _ _ _),by rw[bQ];exact cq.lt,(bu.below BN).sub (aG _ _ _ _ _) (aq _ _ _ _ _ _ _ _ ω) (.inl HO),⟨_,_,rfl,pd (nb:=L) ((aq _ _ _ _ _ _ _ _ ω).trans er) ⟨by rw[bQ];exact er.lt,by rintro (h|h);have:=HE.ol _ h;omega;omega⟩ (cO _ _ 3 Ψ)⟩,_,_,_,_,_,cq.set3 _ _ _ _ _,(e6.to (sof BN).sub).to (aG _ _ _ _ _)⟩
     | (first|guard_hyp kk0:True|guard_hyp kk4:True)
       exact⟨(bp.set (fb:=Y) ω ω ω ω _ _ _ _ _),by rw[bQ];exact a4.lt,bu.sub (aG _ _ _ _ _) (aq _ _ _ _ _ _ _ _ ω) (.inl HO),⟨none,0,rfl,SlR.nil⟩,_,_,_,_,_,a4.set3 _ _ _ _ _,cO _ _ 3 Ψ⟩
     | exact⟨bp.stm (Stm.of_below (BQ _)) ω ω,by have:=a4.lt;simp;omega,dt.below (BQ _),⟨_,_,rfl,pa (nb:=L) (Hs.new _ _ _) (fp _) (cO _ _ 3 Ψ) (cO _ _ 3 Ψ)⟩,_,_,_,_,_,a4.alloc _,e5.to (sof (BQ _)).sub⟩
   case rest =>
   obtain⟨ca,il,c3,⟨A9,hs,rfl,c2⟩,k9,s9,iy,n9,gu,eq,em⟩:=hcut.o;obtain⟨bn,ft,ds,gh,gm⟩:=zd5 ca c3 c2 eq em;clear hcut ca c3 c2 eq em b1 n0 n1 n2 f0 f1 f2 q0 q1 Z r0 r1 r2;obtain⟨w9,rfl⟩:=γ wc
   have io:=ds.le9;have S9:=η (bn.st);have iu:Hid (ExsR w9 (im own w9) (.slice A kids cap) kids):=ExsR.to du (S9.subO HO);obtain⟨kl,dd⟩:∃kl,kids.length=kl+1:=⟨kids-1,ω⟩
   have b4:w9.cell? ⟨w,4,none⟩=some (.slice A (kl+1) cap):=by rw[<-dd];exact bn.bx.cell 4
   have ct:=η dd;have gs:kl<=9223372036854775806:=ω;clear dd fj j0;by_cases dj:d.length=kl
   ·have t2:((d.length:Int) != (kl:Int))=false:=by simp;omega
    have dr:Hid (aP (aa p n) sc x want kids=if aR (aa p n) sc (kids.drop 1) d then some ax else none):=by show _=_;rw[ez.o,if_pos (by rw[ct.o];omega)]
    obtain⟨ks,cn⟩:=γ (kids.drop 1)
    rw[<-cn] at dr;have gn:Hid (∀j (h:j<ks.length) (h':j+1<kids.length),ks[j]=kids[j+1]):=λj h h'=>by subst cn;rw[List.getElem_drop];congr 1;omega
    have db:ks.length=d.length:=by rw[cn,List.length_drop,ct.o];omega
    have dv:=η db;have dc:d.length+1=kids:=by rw[ct.o,dj]
    have fu:=η dc;clear cn dj;go_upto_region 41 with fail;clear b4 t2 db dc;go_loopw [142] (λi wr=>∃j:Nat,j<=d.length/\i=.int .i64 j/\Hid (aR (aa p n) sc ks d=aR (aa p n) sc (ks.drop j) (d.drop j))/\Hid (Stm mb w9 wr)/\Hid (ScS wr (plus own (w+1)) mb sb sc)) (λi _=>d.length-(intOf i).toNat)
    case atStart=>exact⟨0,ω,rfl,rfl,Stm.refl _ _,ft⟩
    case round =>
     obtain⟨j,hj,rfl,HU,HS,ai⟩:=hrel;have a0:=η (bn.stm HS ω ω);have ie:w9.heap.size<=wr:=HS.size
     have dw:Hid (Env wr (plus own (w+1)) mb sb c p sc):=by
      have df:=HE.o;obtain⟨n',f',fi⟩:=df.rul;have SX:Sub (im own w) (im (plus own (w+1)) wr) w wr:=dE (own:=own) ((a0.st.s).wk (λb hb=>by unfold only at hb;rw[hb];exact HO)) ω
      exact⟨df.chk.to SX,⟨n',f',fi.to SX⟩,ai,λb hb=>by
       rcases hb with hb|hb
       ·exact ρ (df.ol b hb) a0.st.size
       have:=a0.rs.lt;omega⟩
     by_cases hlt:j<d.length
     ·have u1:=zT j d.length;have da:j<ks.length:=by rw[dv.o];exact hlt
      have br:j+1<kids.length:=by have:=fu.o;omega
      have id:(0:Int)<=(j:Int)+1:=ω;have ic:(j:Int)+1<(kids.length:Int):=ω;have ib:(0:Int)<=(j:Int):=ω;have h9:(j:Int)+1<=9223372036854775807:=ω;have h8:((j:Int)+1).toNat=j+1:=ω;have h7:IntKind.i64.wrap ((j:Int)+1)=(j:Int)+1:=by rw[IntKind.wrap_i64];omega
      have ia:(j:Int)<(d.length:Int):=ω;obtain⟨dx,gq⟩:=zd2 (gE (E:=aa p n) (sc:=sc) da hlt) (gn j da br);rw[gq.o] at dx;obtain⟨g1,fe,o1,x1,m1,s1,a1,B1,gb,rfl,f7,e1,p0,p1,p2,p3,p4,hr⟩:=aQ (ExsR.to du (dE (own:=own) (g:=w+1) ((a0.st.s).wk (λb hb=>by unfold only at hb;rw[hb];exact HO)) ω)) br;obtain⟨g3,g5,c0,cz,a3,B3,dl,rfl,iq,e3,v0,v1,v2,ep⟩:=cS (TysR.to ds (HS.subO (.inl HO))) hlt;have bh:g1≠mb:=λe=>f7.2 (by rw[e];exact .inl HO);obtain⟨HR,e9,fa⟩:=zd3 hr ep (gp _ (ν hlt));clear hr ep e1 e3;obtain⟨a6,bs,bc,_⟩:=κ wr #[c0,cz,.slice B3 a3 dl] 40
      have co:Hs a6 wr 40 (ty3 c0 cz B3 a3 dl):=by rw[bs];exact Hs.new _ _ _
      have be:=η bc;have t0:=stpC (mb:=mb) (belC bc (a0.bx.c 4)) Φ;have r0:=stpC (mb:=mb) (belC bc p0) bh;have r1:=stpC (mb:=mb) (belC bc p1) bh;have r2:=stpC (mb:=mb) (belC bc p2) bh;have r3:=stpC (mb:=mb) (belC bc p3) bh;have r4:=stpC (mb:=mb) (belC bc p4) bh;have d0:=stpC (mb:=mb) (co.c 0) Φ;have d1:=stpC (mb:=mb) (co.c 1) Φ;have d2:=stpC (mb:=mb) (co.c 2) Φ;have ey:=η bs;clear bs bc co p0 p1 p2 p3 p4
      cases h4:isE (aa p n) sc kids[j+1] d[j] with
       | false =>
        have HX:Hid (aP (aa p n) sc x want kids=none):=by show _=_;rw[dr.o,HU.o,dx.o,h4];rfl
        have H4:=η h4;clear h4;go_upto_region 43 with fail;rw[<-ey.o]
        go_region_held3 (λW=>Stm mb a6 W) (first|exact smDr _ _|exact Stm.trans ι b8)
         (first|(go_at_call 105;refine (bA ba (HD _ (ν br)) (dw.bel (bel be (ad _))) a7 (HR.to (sof (bel be (ad _))).sub) (e9.to (sof (bel be (ad _))).sub) fa).mono ?_;rw[H4.o];rintro e2 w5 ⟨rfl,b8,c4⟩))
        have S5:=η ((Stm.of_below (mb:=mb) (bel be (ad _))).trans b8);obtain⟨z0,z1,z2,q0,q1,Z⟩:=(a0.rs.stp S5 Ω).facts;go_wp2;rw[HX.o];exact bodyPost_ret (am results187 _ _ (w+1) _ _ _ _ _ rfl ((a0.rs.stp S5 Ω).set3 _ _ _ _ _)) rfl (aB (a0.st.trans S5) ω ω)
       | true =>
        have HX:Hid (aR (aa p n) sc ks d=aR (aa p n) sc (ks.drop (j+1)) (d.drop (j+1))):=by show _=_;rw[HU.o,dx.o,h4];rfl
        have H4:=η h4;clear h4;go_upto_region 43 with fail;rw[<-ey.o]
        go_region_held3 (λW=>Stm mb a6 W) (first|exact smDr _ _|exact Stm.trans ι b8)
         (first|(go_at_call 105;refine (bA ba (HD _ (ν br)) (dw.bel (bel be (ad _))) a7 (HR.to (sof (bel be (ad _))).sub) (e9.to (sof (bel be (ad _))).sub) fa).mono ?_;rw[H4.o];rintro e2 w5 ⟨rfl,b8,c4⟩))
        go_wp2_with fail;go_roundw
        case rel=>exact⟨j+1,ω,by go_num,HX,HS.trans ((Stm.of_below (mb:=mb) (bel be (ad _))).trans b8),c4 Υ⟩
        case measure=>simp[intOf];omega
     have u1:=zF j d.length
     have HX:Hid (aP (aa p n) sc x want kids=some ax):=by
      show _=_;rw[dr.o,HU.o,eX (by have:=dv.o;omega),if_pos rfl]
     obtain⟨z0,z1,z2,q0,q1,Z⟩:=a0.rs.facts;have gg:=η (gh.stp HS Ω);obtain⟨y0,y1,y2,_,_,_⟩:=gg.facts;go_wp2;rw[HX.o];exact bodyPost_ret (am results187 _ _ (w+1) _ _ _ _ _ rfl (a0.rs.set3 _ _ _ _ _)) rfl (bo (rb:=(w+1)) a0.st ω ω HO (gm.to (HS.subO (.inl HO))) ai)
   have t2:((d.length:Int) != (kl:Int))=true:=by simp;omega
   have HX:Hid (aP (aa p n) sc x want kids=none):=by show _=_;rw[ez.o,if_neg (by rw[ct.o];omega)]
   clear dj;obtain⟨z0,z1,z2,q0,q1,Z⟩:=bn.rs.facts;go_wp2;rw[HX.o];exact bodyPost_ret (am results187 _ _ (w+1) _ _ _ _ _ rfl (bn.rs.set3 _ _ _ _ _)) rfl (aB bn.st ω ω)) :p:=h
section
variable {c:CB} {p:Pg} {mb n:Nat} {own:Nat->Prop} {sb:Nat} {sc:Sc} {A:Option Addr} {kids:List Ex} {cap:Nat} {wv:Value} {want:Option Ty} {w:À} (IH:xG c p mb n) (hF:aO p n) (hd:∀k∈kids,Ex.deep k<=n) (he:Env w own mb sb c p sc) (ho:ScOk p sc) (hx:ExsR w (im own w) (.slice A kids cap) kids) (hw:WantR w (im own w) wv want) (hwo:aL want)
include IH hF hd he ho hx hw hwo
variable {x:Int}
theorem clo_prim1 {op m:Int} {s:Ê} (hxk:x=1):
 Calls prog 187 #[c.b,sb,.agg (ex5 op x m s A kids cap),wv] w (ResF w own mb sb sc (aP (aa p n) sc x want kids)):=by
 have kk0:=trivial;exact zfPrim
theorem clo_prim2 {op m:Int} {s:Ê} (hxk:x=2):
 Calls prog 187 #[c.b,sb,.agg (ex5 op x m s A kids cap),wv] w (ResF w own mb sb sc (aP (aa p n) sc x want kids)):=by
 have kk1:=trivial;exact zfPrim
theorem clo_prim3 {op m:Int} {s:Ê} (hxk:x=3):
 Calls prog 187 #[c.b,sb,.agg (ex5 op x m s A kids cap),wv] w (ResF w own mb sb sc (aP (aa p n) sc x want kids)):=by
 have kk2:=trivial;exact zfPrim
theorem clo_prim4 {op m:Int} {s:Ê} (hxk:x=4):
 Calls prog 187 #[c.b,sb,.agg (ex5 op x m s A kids cap),wv] w (ResF w own mb sb sc (aP (aa p n) sc x want kids)):=by
 have kk3:=trivial;exact zfPrim
theorem clo_prim5 {op m:Int} {s:Ê} (hxk:x=5):
 Calls prog 187 #[c.b,sb,.agg (ex5 op x m s A kids cap),wv] w (ResF w own mb sb sc (aP (aa p n) sc x want kids)):=by
 have kk4:=trivial;exact zfPrim
theorem clo_prim6 {op m:Int} {s:Ê} (hxk:x=6):
 Calls prog 187 #[c.b,sb,.agg (ex5 op x m s A kids cap),wv] w (ResF w own mb sb sc (aP (aa p n) sc x want kids)):=by
 have kk5:=trivial;exact zfPrim
theorem clo_prim7 {op m:Int} {s:Ê} (hxk:x=7):
 Calls prog 187 #[c.b,sb,.agg (ex5 op x m s A kids cap),wv] w (ResF w own mb sb sc (aP (aa p n) sc x want kids)):=by
 have kk6:=trivial;exact zfPrim
end
