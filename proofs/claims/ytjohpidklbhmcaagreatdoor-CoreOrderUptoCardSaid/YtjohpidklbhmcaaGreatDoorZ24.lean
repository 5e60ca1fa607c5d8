/- Core -/
import Derived.Test.YtjohpidklbhmcaaGreatDoorZ15
namespace Go.Proofs.YtjohpidklbhmcaaGreatDoor
set_option linter.all false
open Proofs.Tryz RowKit Maps WideMaps ChangeMaps
set_option maxRecDepth 100000
set_option maxHeartbeats 2000000
section
set_option maxRecDepth 1000000 in
def zfArms {p:Prop} (h:p:=by
 obtain⟨k0,s0,a0,A0,cw,rfl,e0,_⟩:=ap ht;obtain⟨HE,HO,HF,HT,HN,dy,HL,B⟩:=zd8 he ho hFi ht hns hms hlen hR;obtain⟨HI,HB,H0,U,bn⟩:=zd5 hI hB h0 he.mb.1 he.ol;have fv:=he.mb.2;have fu:=hns.le9;have ca:Hid ((ns.zip ms).length=ns.length):=by show _=_;rw[List.length_zip];omega
 have dj:=@run_makeMap prog;clear he ho hFi ht hns hms hlen hR hI hB h0 e0;obtain⟨W1,bc,B1,_⟩:=κ w #[.int .i64 k0,.string s0,.slice A0 a0.length cw] 40
 obtain⟨ar,bj,bg⟩:=zd3 B1 bc (xF c p (im own W1) _ t W1 (im own W1) (HE.o.chk.to (sof B1).sub) (ρ HE.o.chk.qb.1 B1.size) (HT.o.to (sof B1).sub));clear bc B1
 cases hv:varP p t with
  | none =>
   have HV:=η hv;have u:Hid (bX p sc t body st0 (ns.zip ms)=none):=by show _=_;unfold bX;rw[hv]
   clear hv;go_in;go_wp2_with (go_at_call 173;rw[<-bj.o];refine bg.o.mono ?_;rw[HV.o];rintro e2 H ⟨E,rfl⟩);go_ret;rw[u.o];exact⟨B.o.bel (B.o.refl _) (bel ar.o E),rfl,λ_ h=>by cases h⟩
  | some cs =>
   obtain⟨HV,ea⟩:=zd2 hv (lB HF.o hv);have ce:Hid (bX p sc t body st0 (ns.zip ms)=if (ns.zip ms).length=0 then none else bz sc cs body 0 [] st0 (ns.zip ms)):=by show _=_;unfold bX;rw[hv]
   clear hv;by_cases am:ns.length=0
   ·have l1:((ns.length:Int)==0)=true:=beq_iff_eq.2 ω;have u:Hid (bX p sc t body st0 (ns.zip ms)=none):=by show _=_;rw[ce.o,if_pos (by rw[ca.o];exact am)]
    clear am;go_in;go_wp2_with (go_at_call 173;rw[<-bj.o];refine bg.o.mono ?_;rw[HV.o];rintro e2 H ⟨E,A3,be,rfl,aa⟩;have bt:=η aa;clear aa);go_ret;rw[u.o];exact⟨B.o.bel (B.o.refl _) (bel ar.o E),rfl,λ_ h=>by cases h⟩
   have l1:((ns.length:Int)==0)=false:=beq_eq_false_iff_ne.2 ω;have an:Hid (bX p sc t body st0 (ns.zip ms)=bz sc cs body 0 [] st0 ((ns.zip ms).drop 0)):=by show _=_;rw[ce.o,if_neg (by rw[ca.o];exact am),List.drop_zero]
   clear am;go_in;go_wp2_with (go_at_call 173;rw[<-bj.o];refine bg.o.mono ?_;rw[HV.o];rintro e2 H ⟨E,A3,be,rfl,aa⟩;have bt:=η aa;clear aa);clear dj l1;have bv:=η (bel ar.o E);have dc:w.heap.size<=H.heap.size:=bv.o.size;have bp:Hid (IMap (H.alloc (.map #[] 0)) H.heap.size ([]:List Int).length (oneI [])):=(MapIs.made prog 3 (Lit.int .i64) H).congr λs=>by simp[oneI]
   obtain⟨g,hg⟩:=γ H.heap.size
   have aq:=η (belA bv.o (.map #[] 0));have cn:Hid (CtrsR (H.alloc (.map #[] 0)) (im (plus own g) (H.alloc (.map #[] 0))) (.slice A3 cs.length be) cs):=CtrsR.to bt.o (aV (belA E _) (by have:=ar.o.size;have:=E.size;omega));have cl:Hid (Inv 0 (plus own g) st0 (H.alloc (.map #[] 0))):=(HI.o _).add aq.o ω bn.o H0.o;have ch:Hid (ScS (H.alloc (.map #[] 0)) (plus own g) mb sb sc):=(HE.o.plus aq.o ω Φ).sco;have cj:Hid (Rel w (H.alloc (.map #[] 0))):=B.o.bel (B.o.refl _) aq.o;have cm:Hid (¬own g):=λh=>by have:=bn.o _ h;omega
   have a8:w.heap.size<=g:=ω;rw[<-hg] at bp;rw[<-hg];obtain⟨W3,bb⟩:=γ (H.alloc (.map #[] 0))
   rw[<-bb] at bp cn cl ch cj aq;rw[<-bb];clear bb E bv bt hg dc;go_loopw [39] (λi wr=>∃(j:Nat) (seen:List Int) (st:σ),j<=ns.length/\i=.int .i64 j/\Hid (bz sc cs body 0 [] st0 ((ns.zip ms).drop 0)=bz sc cs body j seen st ((ns.zip ms).drop j))/\Hid (seen.length=j)/\Hid (IMap wr g seen.length (oneI seen))/\Hid (Rel w wr)/\Hid (Stp (plus own g) W3 wr)/\Hid (Inv j (plus own g) st wr)/\Hid (ScS wr (plus own g) mb sb sc)) (λi _=>ns.length-(intOf i).toNat)
   case atStart=>exact⟨0,[],st0,ω,rfl,rfl,rfl,bp.o,cj.o,Stp.refl _ _,cl.o,ch.o⟩
   case round =>
    obtain⟨j,seen,st,hj,rfl,HU,cf,HM,L,HS,ck,ao⟩:=hrel;have a9:g≠mb:=ω;have db:w.heap.size<=wr.heap.size:=(B.o.stp L.o).size;have fy:g<wr.heap.size:=HM.o.lt;have aj:Hid (∀b,own b->b<wr.heap.size):=λb hb=>ρ (bn.o b hb) db;by_cases hlt:j<ns.length
    ·have u1:=zT j ns.length;have a7:j<ms.length:=by rw[HL.o];exact hlt
     have bw:=η (qr (sc:=sc) (ctors:=cs) (body:=body) (i:=j) (seen:=seen) (st:=st) hlt a7);obtain⟨g1,er,rfl,f1,p1,af⟩:=mA (IntsR.to HN.o (dE (g:=g) (B.o.stp L.o) a8)) hlt;obtain⟨g2,eq,rfl,f0,p2,ah⟩:=mA (IntsR.to dy.o (dE (g:=g) (B.o.stp L.o) a8)) a7;obtain⟨ps,ft,fs⟩:=ao.o.slots;have jm:(j:Int)<(ms.length:Int):=ω;obtain⟨n,hn⟩:=γ (ns[j])
     obtain⟨m,hm⟩:=γ (ms[j])
     rw[<-hn,<-hm] at bw;rw[<-hn] at p1 af;rw[<-hm] at p2 ah;obtain⟨bo,fe⟩:=zd2 af ah;clear hn hm af ah
     have d4:Hid ((Instr.lookup 243 (.map (some g)) (.int .i64 (-1)) false).run prog wr=.ok (.bool (decide (-1∈seen))) wr):=by
      have:=MapIs.look HM.o (bh underlying3) (t:=243) underlying243 (z:=.bool false) Δ (aw (n:=-1) underlying3 Ψ);rw[i9] at this;exact this
     have d3:Hid ((Instr.lookup 243 (.map (some g)) (.int .i64 n) false).run prog wr=.ok (.bool (decide (n∈seen))) wr):=by
      have:=MapIs.look HM.o (bh underlying3) (t:=243) underlying243 (z:=.bool false) Δ (aw (n:=n) underlying3 bo.o);rw[i9] at this;exact this
     go_upto_region 9 with fail;go_cut [77] (λv W=>v=.bool (jK sc cs seen n m)/\W=wr)
     case first =>
      have R:=d4.o;have X:=d3.o;have a:Hid (jK sc cs seen n m=((decide (n≠-1)&&!az n cs.length)||decide (m<0)||decide (sc.slots<m)||decide (-1∈seen)||decide (n∈seen))):=rfl;by_cases G:n=-1
      ·have bd:(n != -1)=false:=by simp[G]
       have ac:decide (n≠-1)=false:=by simp[G]
       rw[ac] at a;clear G ac;have I:Hid (az n cs.length=az n cs.length):=rfl
       cases h3:decide (m<0) with
        | true =>
         rw[h3] at a;go_wp2_with (go_at_call 162;refine (ay _ _ _).mono ?_;rw[I.o];rintro e V ⟨rfl,rfl⟩);go_meet;exact⟨by rw[a.o];simp,rfl⟩
        | false =>
         rw[h3] at a
         cases h4:decide (sc.slots<m) with
          | true =>
           rw[h4] at a;go_wp2_with (go_at_call 162;refine (ay _ _ _).mono ?_;rw[I.o];rintro e V ⟨rfl,rfl⟩);go_meet;exact⟨by rw[a.o];simp,rfl⟩
          | false =>
           rw[h4] at a
           cases h5:decide (-1∈seen) with
            | true =>
             rw[h5] at a R;clear h5;go_wp2_with (go_at_call 162;refine (ay _ _ _).mono ?_;rw[I.o];rintro e V ⟨rfl,rfl⟩);go_meet;exact⟨by rw[a.o];simp,rfl⟩
            | false =>
             rw[h5] at a R;clear h5
             cases F:decide (n∈seen) with
              | true =>
               rw[F] at a X;clear F;go_wp2_with (go_at_call 162;refine (ay _ _ _).mono ?_;rw[I.o];rintro e V ⟨rfl,rfl⟩);go_meet;exact⟨by rw[a.o];simp,rfl⟩
              | false =>
               rw[F] at a X;clear F;go_wp2_with (go_at_call 162;refine (ay _ _ _).mono ?_;rw[I.o];rintro e V ⟨rfl,rfl⟩);go_meet;exact⟨by rw[a.o];simp,rfl⟩
      have bd:(n != -1)=true:=by simp[G]
      have ac:decide (n≠-1)=true:=by simp[G]
      rw[ac] at a;clear G ac
      cases h2:az n cs.length with
       | false =>
        rw[h2] at a;have I:=η h2;clear h2;go_wp2_with (go_at_call 162;refine (ay _ _ _).mono ?_;rw[I.o];rintro e V ⟨rfl,rfl⟩);go_meet;exact⟨by rw[a.o];simp,rfl⟩
       | true =>
        rw[h2] at a;have I:=η h2;clear h2
        cases h3:decide (m<0) with
         | true =>
          rw[h3] at a;go_wp2_with (go_at_call 162;refine (ay _ _ _).mono ?_;rw[I.o];rintro e V ⟨rfl,rfl⟩);go_meet;exact⟨by rw[a.o];simp,rfl⟩
         | false =>
          rw[h3] at a
          cases h4:decide (sc.slots<m) with
           | true =>
            rw[h4] at a;go_wp2_with (go_at_call 162;refine (ay _ _ _).mono ?_;rw[I.o];rintro e V ⟨rfl,rfl⟩);go_meet;exact⟨by rw[a.o];simp,rfl⟩
           | false =>
            rw[h4] at a
            cases h5:decide (-1∈seen) with
             | true =>
              rw[h5] at a R;clear h5;go_wp2_with (go_at_call 162;refine (ay _ _ _).mono ?_;rw[I.o];rintro e V ⟨rfl,rfl⟩);go_meet;exact⟨by rw[a.o];simp,rfl⟩
             | false =>
              rw[h5] at a R;clear h5
              cases F:decide (n∈seen) with
               | true =>
                rw[F] at a X;clear F;go_wp2_with (go_at_call 162;refine (ay _ _ _).mono ?_;rw[I.o];rintro e V ⟨rfl,rfl⟩);go_meet;exact⟨by rw[a.o];simp,rfl⟩
               | false =>
                rw[F] at a X;clear F;go_wp2_with (go_at_call 162;refine (ay _ _ _).mono ?_;rw[I.o];rintro e V ⟨rfl,rfl⟩);go_meet;exact⟨by rw[a.o];simp,rfl⟩
     case rest =>
     obtain⟨rfl,rfl⟩:=hcut;obtain⟨wo,rfl⟩:=γ wc
     clear p1 p2 ps jm
     cases hbad:jK sc cs seen n m with
      | true =>
       have u:Hid (bX p sc t body st0 (ns.zip ms)=none):=by show _=_;rw[an.o,HU.o,bw.o,hbad];rfl
       go_wp2;go_ret;rw[u.o];exact⟨L.o,rfl,λ_ h=>by cases h⟩
      | false =>
       have bi:Hid (bX p sc t body st0 (ns.zip ms)=match bindAll sc m (kZ cs n) with|none=>none|some sc'=>match body st j sc' with|none=>none|some st'=>bz sc cs body (j+1) (n::seen) st' ((ns.zip ms).drop (j+1))):=by show _=_;rw[an.o,HU.o,bw.o,hbad];rfl
       simp only[jK,Bool.or_eq_false_iff,decide_eq_false_iff_not] at hbad;obtain⟨⟨⟨⟨b9,E⟩,dm⟩,dl⟩,b8⟩:=hbad;have fw:0<=m:=ω;have hms:m<=sc.slots:=ω;have d1:Hid (seen.length<maxLen):=by show _<_;rw[cf.o];unfold maxLen;omega
       have dx:Hid ((oneI seen n).isSome=false):=by show _=_;rw[uU];exact decide_eq_false b8
       have ed:=η b9;clear b9 E dm dl b8;go_upto_if 81 with (refine ak _ rfl _ _ _ 243 (.inl rfl) 4 (bh underlying3) underlying243 g seen.length (oneI seen) rfl HM.o d1.o n (.int .i64 n) (.bool true) rfl rfl (aw underlying3 bo.o) ?_;intro M hM D)
       have d0:Hid (IMap M g (n::seen).length (oneI (n::seen))):=by
        have:=hM;rw[dx.o,sS] at this;exact this
       have f2:=η D;have ci:Hid (Rel w M):=B.o.bel L.o ⟨D.os,D.tape,D.output,D.size,λb hb=>D.block b ω (λe=>by injection e with e;omega)⟩;have cg:Hid (Stp (plus own g) W3 M):=stpG HS.o D (λr e=>by injection e with e;subst e;exact .inl (.inr rfl));have d9:Hid (Inv j (plus own g) st M):=(HI.o _).grow D aj.o cm.o ck.o;have cz:Hid (ScS M (plus own g) mb sb sc):=ao.o.grown D a9;have fq:wo.heap.size<=M.heap.size:=D.size;have c2:=η (CtrsR.to cn.o cg.o.sub);clear hM D;obtain⟨d,T⟩:=γ (kZ cs n)
       have ec:Hid (∀f∈d,ag f.type=true):=by rw[T];exact ea.o n
       go_cut [19] (λv W=>(∃A q,v=.slice A d.length q/\Hid (FldsR M (im (plus own g) M) (.slice A d.length q) d))/\W=M)
       case first =>
        by_cases G:n=-1
        ·have bd:(n != -1)=false:=by simp[G]
         have dk:d=[]:=by rw[T];unfold kZ;rw[if_pos G]
         clear G T;subst dk;go_wp2;go_meet;exact⟨⟨none,0,rfl,SlR.nil⟩,rfl⟩
        have bd:(n != -1)=true:=by simp[G]
        have a2:az n cs.length=true:=by
         have:=ed.o;rw[show decide (n≠-1)=true from decide_eq_true G] at this;simpa using this
        have dd:0<=n/\n<(cs.length:Int):=by unfold az at a2;simpa using a2
        obtain⟨y,rfl⟩:∃y:Nat,n=(y:Int):=⟨n.toNat,ω⟩
        have b3:y<cs.length:=ω;have fn:(0:Int)<=(y:Int):=ω;have fm:(y:Int)<(cs.length:Int):=ω
        have b7:d=cs[y].fields:=by
         rw[T];unfold kZ;rw[if_neg G,Int.toNat_natCast,ξ b3]
        obtain⟨g4,ep,A5,q5,rfl,D,v0,v1,df,dh,ba⟩:=ew c2.o b3;rw[<-b7] at v1 ba;have eb:=η ba;clear G a2 dd T b7 df dh ba v0;go_wp2;go_meet;exact⟨⟨A5,q5,rfl,eb.o⟩,rfl⟩
       case rest =>
       obtain⟨⟨A5,q5,rfl,bs⟩,rfl⟩:=hcut;rw[<-T] at bi;clear T;obtain⟨M,rfl⟩:=γ wc
       have ex:=bs.o.le9;go_upto_region 16 with fail;go_loopw [89] (λi wr=>∃(t:Nat) (k:Sc),t<=d.length/\i=.int .i64 t/\Hid (bindAll sc m (d.take t)=some k)/\Hid (Stm mb M wr)/\Hid (ScS wr (plus own g) mb sb k)) (λi _=>d.length-(intOf i).toNat)
       case atStart=>exact⟨0,sc,ω,rfl,rfl,Stm.refl _ _,cz.o⟩
       case round =>
        obtain⟨l,k,b5,rfl,bu,J,ai⟩:=hrel;have fp:M.heap.size<=wr.heap.size:=J.o.size
        have fx:m+(l:Int)<=sc.slots:=by
         have:=(jy bu.o).le;rw[List.length_take,Nat.min_eq_left b5] at this;omega
        have br:Hid (i64 (m+(l:Int))):=by show i64 _;unfold i64;omega
        by_cases a5:l<d.length
        ·have u2:=zT l d.length;have dr:Hid (d.take (l+1)=d.take l++[d[l]]):=by show _=_;rw[List.take_add_one,ξ a5];rfl
         have co:Hid (bindAll sc m (d.take (l+1))=k.bind (m+(l:Int)) d[l].type):=by
          show _=_;rw[dr.o,lz bu.o,List.length_take,Nat.min_eq_left b5]
         obtain⟨g6,eo,k6,s6,a6,C6,d6,rfl,fz,e6,v0,v1,v2,v3,dg,b6⟩:=dw (FldsR.to bs.o (J.o.subO (.inl U.o))) a5;have du:=η b6;have cd:Hid (∀o,TyR (wr.alloc o) (im (plus own g) (wr.alloc o)) [.int .i64 k6,.string s6,.slice C6 a6.length d6] d[l].type):=λo=>du.o.to (sof ζ1).sub;clear b6 e6 dg
         cases h7:k.bindB (m+(l:Int)) with
          | false =>
           have u:Hid (bX p sc t body st0 (ns.zip ms)=none):=by
            show _=_;rw[bi.o]
            have h8:bindAll sc m d=none:=by
             rw[<-List.take_append_drop (l+1) d];refine ny ?_;rw[co.o];unfold Sc.bind;rw[h7];rfl
            rw[h8]
           have H7:=η h7;clear h7;go_wp2_with (go_at_call 178;refine (da (plus own g) mb sb k _ _ d[l].type _ (ai.o.below ζ1) br.o (cd.o _)).mono ?_;rintro e7 w7 ⟨Z,a4,b4,di⟩;rw[H7.o] at Z;subst Z);go_ret;rw[u.o];exact⟨B.o.stm (B.o.stm ci.o J.o) ((Stm.of_below ζ1).trans a4),rfl,λ_ h=>by cases h⟩
          | true =>
           have dv:Hid (bindAll sc m (d.take (l+1))=some (k.set (m+(l:Int)) d[l].type)):=by show _=_;rw[co.o];unfold Sc.bind;rw[h7];rfl
           have H7:=η h7;clear h7;go_wp2_with (go_at_call 178;refine (da (plus own g) mb sb k _ _ d[l].type _ (ai.o.below ζ1) br.o (cd.o _)).mono ?_;rintro e7 w7 ⟨Z,a4,b4,di⟩;rw[H7.o] at Z;subst Z);go_roundw
           case rel=>exact⟨l+1,_,ω,by go_num,dv.o,J.o.trans ((Stm.of_below ζ1).trans a4),b4 H7.o⟩
           case measure=>simp[intOf];omega
        have u2:=zF l d.length
        have al:Hid (bindAll sc m d=some k):=by
         have:=bu.o;rw[List.take_of_length_le ω] at this;exact this
        have cc:Hid (bX p sc t body st0 (ns.zip ms)=match body st j k with|none=>none|some st'=>bz sc cs body (j+1) (n::seen) st' ((ns.zip ms).drop (j+1))):=by show _=_;rw[bi.o,al.o]
        obtain⟨c0,bm⟩:=zd2 (HO.o.bindAll ec.o al.o) (B.o.stm ci.o J.o);have d8:Hid (Inv j (plus own g) st wr):=(HI.o _).stm J.o (λ_ h=>.inl h) U.o (λb hb=>by have:=aj.o b hb;omega) d9.o;have cr:g<wr.heap.size:=ω;have N:=η (HB.o j g k st wr hlt a8 cr bm.o d8.o ai.o c0.o)
        cases h8:body st j k with
         | none =>
          have u:Hid (bX p sc t body st0 (ns.zip ms)=none):=by show _=_;rw[cc.o,h8]
          have H8:=η h8;clear h8
          first
           | guard_hyp kk0:True
             go_wp2_with (go_at_call 199;refine N.o.mono ?_;rw[H8.o];rintro e8 w8 ⟨O,rfl,Y⟩)
           | go_wp2_with (go_at_call 203;refine N.o.mono ?_;rw[H8.o];rintro e8 w8 ⟨O,rfl,Y⟩)
          go_ret;rw[u.o];exact⟨B.o.trans bm.o O,rfl,λ_ h=>by cases h⟩
         | some st' =>
          have u:Hid (bz sc cs body 0 [] st0 ((ns.zip ms).drop 0)=bz sc cs body (j+1) (n::seen) st' ((ns.zip ms).drop (j+1))):=by show _=_;rw[<-an.o,cc.o,h8]
          have H8:=η h8;clear h8
          first
           | guard_hyp kk0:True
             go_upto_region 24 with (go_at_call 199;refine N.o.mono ?_;rw[H8.o];rintro e8 w8 ⟨O,rfl,Y⟩)
           | go_upto_region 24 with (go_at_call 203;refine N.o.mono ?_;rw[H8.o];rintro e8 w8 ⟨O,rfl,Y⟩)
          obtain⟨bl,cb⟩:=zd2 O (Y st' rfl);have fo:wr.heap.size<=w8.heap.size:=(B.o.stp O).size;clear O Y;obtain⟨w5,rfl⟩:=γ wr
          go_loopw [109] (λi wr=>∃(t:Nat),t<=d.length/\i=.int .i64 t/\Hid (Stm mb w8 wr)/\Hid (ScS wr (plus own g) mb sb (k.unsetTo m t))) (λi _=>d.length-(intOf i).toNat)
          case atStart=>exact⟨0,ω,rfl,Stm.refl _ _,by show ScS _ _ _ _ _;rw[lg];exact cb.o.2⟩
          case round =>
           obtain⟨t3,fr,rfl,ad,bk⟩:=hrel;have d7:Hid (i64 (m+(t3:Int))):=by show i64 _;unfold i64;omega
           by_cases ev:t3<d.length
           ·have u3:=zT t3 d.length;go_wp2_with (go_at_call 144;refine (jS (plus own g) mb sb (k.unsetTo m t3) _ _ bk.o d7.o).mono ?_;rintro e9 w9 ⟨rfl,de,a3⟩;rw[li] at a3);go_roundw
            case rel=>exact⟨t3+1,ω,by go_num,ad.o.trans de,a3⟩
            case measure=>simp[intOf];omega
           have u3:=zF t3 d.length;obtain rfl:t3=d.length:=ω
           have ds:Hid (ScS wr (plus own g) mb sb sc):=by
            have:=bk.o;rw[mY (jy al.o)] at this;exact this
           have dt:Hid (Rel w wr):=B.o.stm (B.o.trans bm.o bl.o) ad.o;have d5:Hid (Inv (j+1) (plus own g) st' wr):=(HI.o _).stm ad.o (λ_ h=>.inl h) U.o (λb hb=>by have:=aj.o b hb;omega) cb.o.1;have cy:Hid (Stp (plus own g) W3 wr):=((cg.o.trans (J.o.s.wk λb h=>.inl (by unfold only at h;rw[h];exact U.o))).trans ((B.o.stp bl.o).wk λb h=>.inl h)).trans (ad.o.s.wk λb h=>.inl (by unfold only at h;rw[h];exact U.o));have dz:Hid (IMap wr g (n::seen).length (oneI (n::seen))):=d0.o.same (((ad.o.s.block g ω (by unfold only;exact a9)).trans ((B.o.stp bl.o).block g ω cm.o)).trans (J.o.s.block g ω (by unfold only;exact a9)));have d2:Hid ((n::seen).length=j+1):=by show _=_;rw[δ,cf.o]
           go_wp2_with fail;go_roundw
           case rel=>exact⟨j+1,n::seen,st',ω,by go_num,u.o,d2.o,dz.o,dt.o,cy.o,d5.o,ds.o⟩
           case measure=>simp[intOf];omega
    have u1:=zF j ns.length;have u:Hid (bX p sc t body st0 (ns.zip ms)=if decide (-1∈seen)||decide (seen.length=cs.length) then some st else none):=by show _=_;rw[an.o,HU.o,oW hlt]
    have bq:Hid (Inv ns.length (plus own g) st wr):=by have:=ck.o;rw[show j=ns.length by omega] at this;exact this
    have R:(Instr.lookup 243 (.map (some g)) (.int .i64 (-1)) false).run prog wr=.ok (.bool (decide (-1∈seen))) wr:=by
     have:=MapIs.look HM.o (bh underlying3) (t:=243) underlying243 (z:=.bool false) Δ (aw (n:=-1) underlying3 Ψ);rw[i9] at this;exact this
    have X:=λty=>MapIs.len HM.o (t:=243) underlying243 ty
    cases h5:decide (-1∈seen) with
     | true =>
      rw[h5] at R u;clear h5 X;go_wp2;go_ret;rw[u.o];exact⟨L.o,rfl,λs h=>by injection h with h;subst h;exact⟨(HI.o _).less bq.o,ao.o.less U.o⟩⟩
     | false =>
      rw[h5] at R u;clear h5;by_cases F:seen.length=cs.length
      ·have dp:((seen.length:Int)==(cs.length:Int))=true:=beq_iff_eq.2 ω;rw[decide_eq_true F] at u;clear F;go_wp2;go_ret;rw[u.o];exact⟨L.o,rfl,λs h=>by injection h with h;subst h;exact⟨(HI.o _).less bq.o,ao.o.less U.o⟩⟩
      have dp:((seen.length:Int)==(cs.length:Int))=false:=beq_eq_false_iff_ne.2 ω;rw[decide_eq_false F] at u;clear F;go_wp2;go_ret;rw[u.o];exact⟨L.o,rfl,λs h=>by cases h⟩) :p:=h
section
variable {σ:Type} {c:CB} {p:Pg} {mb sb:Nat} {own:Nat->Prop} {sc:Sc} {Rel:À->À->Prop} {Inv:Nat->(Nat->Prop)->σ->À->Prop} {ct:List Value} {t:Ty} {A1 A2:Option Addr} {cap1 cap2:Nat} {ns ms:List Int} {w:À} (he:Env w own mb sb c p sc) (ho:ScOk p sc) (hFi:Fine p) (ht:TyR w (im own w) ct t) (hns:IntsR w (im own w) (.slice A1 ns cap1) ns) (hms:IntsR w (im own w) (.slice A2 ms cap2) ms) (hlen:ms.length=ns) (hR:ArmRel mb own Rel) (hI:∀i,InvOk mb own (Inv i))
include he ho hFi ht hns hms hlen hR hI
variable {body:σ->Nat->Sc->Option σ}
theorem arms199 {st0:σ} {k1 k2 k3 k4 k5:Value} (hB:mq (λi W Q=>Calls prog 199 #[i,k1,k2,k3,k4,k5] W Q) ns p own mb sb Rel Inv body w) (h0:Inv 0 own st0 w):
 Calls prog 198 #[c.b,sb,.agg ct.toArray,.slice A1 ns cap1,.slice A2 ms cap2,.func (.func 199) #[] #[k1,k2,k3,k4,k5]] w (kO own mb sb Rel (Inv ns) sc w (bX p sc t body st0 (ns.zip ms))):=by
 have kk0:=trivial;exact zfArms
theorem arms203 {st0:σ} {k1 k2 k3:Value} (hB:mq (λi W Q=>Calls prog 203 #[i,k1,k2,k3] W Q) ns p own mb sb Rel Inv body w) (h0:Inv 0 own st0 w):
 Calls prog 198 #[c.b,sb,.agg ct.toArray,.slice A1 ns cap1,.slice A2 ms cap2,.func (.func 203) #[] #[k1,k2,k3]] w (kO own mb sb Rel (Inv ns) sc w (bX p sc t body st0 (ns.zip ms))):=by
 have kk1:=trivial;exact zfArms
end
end
section
structure Two (base:Nat) (W0 W:À) (vn vm:Value) (jn jm:Nat) (xs ys:List Value):Prop where
 b:Below base W0 W
 s:base<=W
 on:W.ownsRow base 3 1 vn jn xs
 om:W.ownsRow base 3 1 vm jm ys
 ne:∀g,vn.ownBlock=some g->vm.ownBlock=some g->False
section
variable {base:Nat} {W0 W W':À} {vn vm v:Value} {jn jm j:Nat} {xs ys zs:List Value}
def Two.alloc (h:Two base W0 W vn vm jn jm xs ys) (o:Obj):Two base W0 (W.alloc o) vn vm jn jm xs ys:=
 have g:W.grownBy (W.alloc o) none:=⟨rfl,rfl,rfl,by simp,λk hk _=>Below.heap_alloc W o k hk⟩
 ⟨h.b.alloc h.s o,by simp;have:=h.s;omega,h.on.kept g (by cases hx:vn.ownBlock<;>simp),h.om.kept g (by cases hx:vm.ownBlock<;>simp),h.ne⟩
def Two.drew (h:Two base W0 W vn vm jn jm xs ys):Two base W0 W.drew vn vm jn jm xs ys:=
 have g:W.grownBy W.drew none:=⟨rfl,rfl,rfl,υ _,λk hk _=>rfl⟩
 ⟨h.b.drew,h.s,h.on.kept g (by cases hx:vn.ownBlock<;>simp),h.om.kept g (by cases hx:vm.ownBlock<;>simp),h.ne⟩
def Two.n (h:Two base W0 W vn vm jn jm xs ys) (hg:W.grownBy W' vn.ownBlock) (ho:W'.ownsRow base 3 1 v j zs) (ha:∀g,v.ownBlock=some g->vn.ownBlock=some g\/g=W.heap.size):Two base W0 W' v vm j jm zs ys:=
 ⟨⟨hg.os.trans h.b.os,hg.tape.trans h.b.tape,hg.output.trans h.b.output,ψ h.b.size hg.size,λk hk=>(hg.block k (ρ hk h.s) (λe=>by have:=(h.on.lt _ e.symm).1;omega)).trans (h.b.block k hk)⟩,ψ h.s hg.size,ho,
  h.om.kept hg (by cases hx:vm.ownBlock with|none=>exact .inl rfl|some q=>right;intro e;exact h.ne q e.symm hx),
  λg h1 h2=>by rcases ha g h1 with e|e;(exact h.ne g e h2);(have:=(h.om.lt _ h2).2;omega)⟩
def Two.m (h:Two base W0 W vn vm jn jm xs ys) (hg:W.grownBy W' vm.ownBlock) (ho:W'.ownsRow base 3 1 v j zs) (ha:∀g,v.ownBlock=some g->vm.ownBlock=some g\/g=W.heap.size):Two base W0 W' vn v jn j xs zs:=
 ⟨⟨hg.os.trans h.b.os,hg.tape.trans h.b.tape,hg.output.trans h.b.output,ψ h.b.size hg.size,λk hk=>(hg.block k (ρ hk h.s) (λe=>by have:=(h.om.lt _ e.symm).1;omega)).trans (h.b.block k hk)⟩,ψ h.s hg.size,
  h.on.kept hg (by cases hx:vn.ownBlock with|none=>exact .inl rfl|some q=>right;intro e;exact h.ne q hx e.symm),ho,
  λg h1 h2=>by rcases ha g h2 with e|e;(exact h.ne g h1 e);(have:=(h.on.lt _ h1).2;omega)⟩
end
variable {A:Option Addr}
def fW {w:À} {P:Nat->Prop} {base n cap:Nat} {l:List Int} (h:w.ownsRow base 3 1 (.slice A n cap) n (l.map (Value.int .i64))) (hn:l=n) (hm:n<=maxLen) (hP:∀g,base<=g->g<w.heap.size->P g) (hi:∀x∈l,i64 x):IntsR w P (.slice A n cap) l:=by
 have b:=hn;subst b;rcases h.2 with ⟨e,h0⟩|⟨g,cp,cur,e,hb,hg,hc1,hc2,hc3,hc4⟩
 ·injection e with e1 e2 e3;subst e1 e3;have:l=[]:=List.eq_nil_of_length_eq_zero h0;subst this;exact SlR.nil
 injection e with e1 e2 e3;subst e1 e3;have d:g<w.heap.size:=(Array.getElem?_eq_some_iff.1 hg).1;refine⟨_,cap,λi=>[(l.map (Value.int .i64)).getD i undef],rfl,⟨hm,hc1⟩,λ_=>⟨g,0,rfl,hP g hb d,λi hi=>⟨rfl,λj u hu=>?_⟩⟩,λi hi'=>⟨?_,hi _ (ν hi')⟩⟩
 ·have f:j=0:=by
   have:=(List.getElem?_eq_some_iff.1 hu).1;simp at this;exact this
  subst f;simp at hu
  have k:cur[i]?=some u:=by
   have a:(cur.toList.take (l.length*1))[i]?=some u:=by
    rw[hc4,List.getElem?_map,ξ hi];rw[ξ hi] at hu;simpa using hu
   rw[List.getElem?_take] at a;split at a
   ·simpa using a
   cases a
  rw[show 0+i*1+0=i by omega,cell_of_row w g i cur 3 (0,0) hg];exact k
 simp[hi']
def WantR.ptr {w:À} {Q:Nat->Prop} {v:Value} {o:Option Ty} (h:WantR w Q v o):∃po,v=.pointer po:=by
 cases o with
 | none=>exact⟨_,h⟩
 | some _=>obtain⟨g,a,_,_,_,_,_,e,_⟩:=h;exact⟨_,e⟩
def dI (w:À) (o1:Obj) (t:TypeId) (cs:Array Value):Hs ((w.alloc o1).alloc (.cells cs t)) (w+1) t cs:=by have:=Hs.new (w.alloc o1) t cs;simpa using this
def kK (w:À) (o1 o2:Obj) (t:TypeId) (cs:Array Value):Hs (((w.alloc o1).alloc o2).alloc (.cells cs t)) (w+1+1) t cs:=by have:=dI (w.alloc o1) o2 t cs;simpa using this
def rk (w:À) (o1 o2 o3:Obj) (t:TypeId) (cs:Array Value):Hs ((((w.alloc o1).alloc o2).alloc o3).alloc (.cells cs t)) (w+1+1+1) t cs:=by have:=kK (w.alloc o1) o2 o3 t cs;simpa using this
def uZ (w:À) (o1 o2 o3 o4:Obj) (t:TypeId) (cs:Array Value):Hs (((((w.alloc o1).alloc o2).alloc o3).alloc o4).alloc (.cells cs t)) (w+1+1+1+1) t cs:=by have:=rk (w.alloc o1) o2 o3 o4 t cs;simpa using this
def Two2 (W0 W:À) (An Am:Option Addr) (cn cm j:Nat) (ks:List Ex):Prop:=Two W0 W0 W (.slice An j cn) (.slice Am j cm) j j (((ks.take j).map Ex.n).map (Value.int .i64)) (((ks.take j).map Ex.m).map (Value.int .i64))
structure Mid (base:Nat) (W0:À) (bx:Nat) (cs:Array Value) (vn vm:Value) (jn jm:Nat) (xs ys:List Value) (W:À):Prop where
 two:Two base W0 W vn vm jn jm xs ys
 hb:Hs W bx 43 cs
 bn:∀g,vn.ownBlock=some g->g≠bx
 bm:∀g,vm.ownBlock=some g->g≠bx
section
variable {base bx:Nat} {cs:Array Value} {W0 W W':À} {vn vm v:Value} {jn jm j:Nat} {xs ys zs:List Value}
def Mid.alloc (h:Mid base W0 bx cs vn vm jn jm xs ys W) (o:Obj):Mid base W0 bx cs vn vm jn jm xs ys (W.alloc o):=⟨h.two.alloc o,h.hb.alloc o,h.bn,h.bm⟩
def Mid.n (h:Mid base W0 bx cs vn vm jn jm xs ys W) (hg:W.grownBy W' vn.ownBlock) {g cap k:Nat} (ho:W'.ownsRow base 3 1 (.slice g k cap) j zs) (ha:vn.ownBlock=some g\/g=W):Mid base W0 bx cs (.slice g k cap) vm j jm zs ys W':=
 ⟨h.two.n hg ho (λq e=>by injection e with e;subst e;exact ha),(hg.block bx h.hb.lt (λe=>h.bn bx e.symm rfl)).trans h.hb,λq e=>by injection e with e;subst e;rcases ha with ha|ha;(exact h.bn _ ha);(have:=h.hb.lt;intro e;simp at e;omega),h.bm⟩
def Mid.m (h:Mid base W0 bx cs vn vm jn jm xs ys W) (hg:W.grownBy W' vm.ownBlock) {g cap k:Nat} (ho:W'.ownsRow base 3 1 (.slice g k cap) j zs) (ha:vm.ownBlock=some g\/g=W):Mid base W0 bx cs vn (.slice g k cap) jn j xs zs W':=
 ⟨h.two.m hg ho (λq e=>by injection e with e;subst e;exact ha),(hg.block bx h.hb.lt (λe=>h.bm bx e.symm rfl)).trans h.hb,h.bn,λq e=>by injection e with e;subst e;rcases ha with ha|ha;(exact h.bm _ ha);(have:=h.hb.lt;intro e;simp at e;omega)⟩
def ib {w:À} {b:Nat} (h:Hs w b 3 #[v]):∀(j:Nat) (u:Value),[v][j]?=some u->w.cell? ((⟨b,0,none⟩:Addr).add j)=some u:=World.news_of_block (cs:=#[v]) h
def one1 {x:Int}:∀u∈[Value.int .i64 x],u.oneCell'=true:=by intro u hu;simp at hu;subst hu;rfl
end
def exs_i64 {w:À} {P:Nat->Prop} {n cap:Nat} {l:List Ex} (h:ExsR w P (.slice A n cap) l):∀e∈l,i64 e.n/\i64 e.m:=by
 intro e j;obtain⟨i,f,rfl⟩:=List.getElem_of_mem j;obtain⟨g,k,u,t,q,d,p,r⟩:=SlR.at h f;obtain⟨o,x,m,s,a,B,c,rfl,e,b,_⟩:=dJ d;rw[e];exact⟨b.2.1,b.2.2⟩
def nh {mb qb:Nat} {w a b:À} (h:Stm mb w a) (k:RelM mb qb a b) (hq:w<=qb) (hne:qb≠mb):Stm mb w b:=
 ⟨⟨k.s.os.trans h.s.os,k.s.tape.trans h.s.tape,k.s.output.trans h.s.output,ψ h.s.size k.s.size,λi hi ho=>(k.s.block i (ρ hi h.s.size) (λe=>by rcases e with e|e;(exact ho e);omega)).trans (h.s.block i hi ho)⟩,λx=>k.m (h.m x)⟩
variable {want:Option Ty}
def wX {p:Pg} {E:EF} {sc:Sc} {kids:List Ex} (h:0<kids.length):dX p E sc want kids=match E sc kids[0] none with|none=>none|some t=>if (kids.drop 1).all fy then bX p sc t (cE E want (kids.drop 1)) (bTy 0) ((kids.drop 1).map λa=>(a.n,a.m)) else none:=by
 match kids,h with
 | k0::ks,_=>rfl
def zip_nm (l:List Ex):(l.map λa=>(a.n,a.m))=(l.map Ex.n).zip (l.map Ex.m):=by
 induction l with
 | nil=>rfl
 | cons x l ih=>simp[ih]
def jz:∃i0,prog.info? 3=some i0/\i0.zero=some (.int .i64 0)/\i0.size=1/\i0.bytes=8:=info_parts Δ
def xp {c:CB} {p:Pg} {mb n:Nat} (IH:xG c p mb n) (hF:aO p n) (hFi:Fine p) {own:Nat->Prop} {sb:Nat} {sc:Sc} {op x m:Int} {s:Ê} {kids:List Ex} {cap:Nat} {wv:Value} {w:À} (hd:∀k∈kids,Ex.deep k<=n) (hlk:kids.length<=1000000000) (he:Env w own mb sb c p sc) (ho:ScOk p sc) (hx:ExsR w (im own w) (.slice A kids.length cap) kids) (hw:WantR w (im own w) wv want) (hwo:aL want):
 Calls prog 174 #[.pointer (some ⟨c.b,0,none⟩),.pointer (some ⟨sb,0,none⟩),ex5 op x m s A kids.length cap,wv] w (ResF w own mb sb sc (dX p (aa p n) sc want kids)):=by
 obtain⟨po,rfl⟩:=hw.ptr;obtain⟨cv,HD,HF,f4,cs,HO,HW⟩:=zd7 IH hd hF hFi ho he.mb.1 hwo;have hn:=he.mb.2;have f9:=hx.cap;obtain⟨U,R⟩:=γ (((((w.alloc (.cells #[.pointer (some ⟨c.b,0,none⟩)] 99)).alloc (.cells #[.pointer (some ⟨sb,0,none⟩)] 173)).alloc (.cells #[.int .i64 op,.int .i64 x,.int .i64 m,.string s,.slice A kids.length cap] 43)).alloc (.cells #[.pointer po] 209)).alloc (.cells #[.int .i64 0,"",.slice none 0 0] 40))
 have B0:Below w.heap.size w U:=by rw[R];exact ζ5
 have hl:w.heap.size+5=U.heap.size:=by rw[R];simp
 have e0:Hs U w.heap.size 99 #[.pointer (some ⟨c.b,0,none⟩)]:=by rw[R];exact ((((Hs.new w 99 _).alloc _).alloc _).alloc _).alloc _
 have e1:Hs U (w.heap.size+1) 173 #[.pointer (some ⟨sb,0,none⟩)]:=by rw[R];exact (((dI w _ 173 _).alloc _).alloc _).alloc _
 have e2:Hs U (w.heap.size+1+1) 43 (ex5 op x m s A kids.length cap):=by rw[R];exact ((kK w _ _ 43 _).alloc _).alloc _
 have e3:Hs U (w.heap.size+1+1+1) 209 #[.pointer po]:=by rw[R];exact (rk w _ _ _ 209 _).alloc _
 have d0:=e0.c 0;have d1:=e1.c 0;have d2:=e2.c 4;have d3:=e3.c 0
 have dd:Hs U (w.heap.size+1+1+1+1) 40 z3:=by
  rw[R];exact uZ w _ _ _ _ 40 _
 obtain⟨RS,BB,bj,cx,du,fn,fo,dy⟩:=zd8 dd B0 (Stm.of_below (mb:=mb) B0) (he.plus B0 (g:=(w.heap.size+1+1+1+1)) ω ω) (ExsR.to hx (aV (g:=(w.heap.size+1+1+1+1)) B0 ω)) (hw.to (aV (g:=(w.heap.size+1+1+1+1)) B0 ω)) R d0;obtain⟨dx,dw,f7,dt⟩:=zd4 d1 d2 d3 he.ol;clear hd he ho hx hw hwo IH hF hFi R B0 dd d0 d1 d3 e0 e1 e2 e3;go_in;go_upto_region 1 with fail;rw[<-fo.o];by_cases h0:kids.length=0
 ·have X:Hid (dX p (aa p n) sc want kids=none):=by
   show _=_;match kids,h0 with
   | [],_=>rfl
  have l1:((kids.length:Int)==0)=true:=beq_iff_eq.2 ω;clear h0;obtain⟨z0,z1,z2,q0,q1,q2⟩:=RS.o.facts;go_wp2;rw[X.o];exact bodyPost_ret (am results174 _ _ (w.heap.size+1+1+1+1) _ _ _ _ _ rfl (RS.o.set3 _ _ _ _ _)) rfl (aB bj.o ω ω)
 have l1:((kids.length:Int)==0)=false:=beq_eq_false_iff_ne.2 ω;have i0:0<kids.length:=ω;have HV:=η (wX (p:=p) (E:=aa p n) (sc:=sc) (want:=want) i0);clear h0;go_upto_region 3 with fail;clear d2 l1;obtain⟨g,bf,o1,v,l,H,L,B1,J,rfl,hg,e1,p0,p1,p2,p3,p4,hr⟩:=aQ du.o i0;have I:g≠mb:=λe=>hg.2 (by rw[e];exact .inl HO.o);simp only[Nat.zero_mul,Nat.add_zero] at p0 p1 p2 p3 p4;replace p0:=stpC p0 I;replace p1:=stpC p1 I;replace p2:=stpC p2 I;replace p3:=stpC p3 I;replace p4:=stpC p4 I;have HR:=η hr;clear hr e1;have c1:=stpC (mb:=mb) dy.o Φ;have c2:=stpC (mb:=mb) dx.o Φ;have c3:=stpC (mb:=mb) dw.o Φ;obtain⟨r1,de⟩:=γ (aa p n sc kids[0] none)
 have be:=η de;clear de;go_cut [10,11] (λv1 v2 W=>Hid (Got U (plus own (w.heap.size+1+1+1+1)) mb sb sc r1 v1 v2 W))
 case first =>
  go_region_held3 (λW=>Stm mb U W) (first|exact bq _ _|exact smDr _ _|exact Y|exact smA ι _|exact (smA (Stm.refl _ _) _).trans (smDr _ _)|exact smS Y (υ _) ω _ _ _ _ _)
   (first|(go_at_call 170;refine (hasB2 cv.o cx.o cs.o (HD.o _ (ν i0)) HR.o).mono ?_;rw[<-be.o];rintro e3 w3 ⟨k3,s3,A3,n3,ed,rfl,Y,ay,ap⟩;obtain⟨z0,z1,z2,q0,q1,q2⟩:=ay.facts)|(go_at_call 170;refine (hasA2 cv.o cx.o cs.o (HD.o _ (ν i0)) HR.o).mono ?_;rw[<-be.o];rintro e3 w3 ⟨k3,s3,A3,n3,ed,rfl,Y,ap⟩))
  all_goals
   go_wp2;go_meet;first|exact gotA Y ap|exact gotB Y ω (.inl HO.o) ay ap
 case rest =>
 clear c1 c2 c3 p0 p1 p2 p3 p4 HR;obtain⟨Y,g9,k2,s2,A2,n2,ee,rfl,gs,ay,rfl,ap⟩:=hcut.o;obtain⟨S2,f3,dr⟩:=zd3 Y ay ap;clear hcut Y ay ap;obtain⟨B,rfl⟩:=γ wc
 have hf:U.heap.size<=B.heap.size:=S2.o.size;have bk:=η (RS.o.stp S2.o Ω)
 cases r1 with
 | none =>
  have X:Hid (dX p (aa p n) sc want kids=none):=by show _=_;rw[HV.o,<-be.o]
  obtain⟨z0,z1,z2,q0,q1,q2⟩:=bk.o.facts;go_wp2;rw[X.o];exact bodyPost_ret (am results174 _ _ (w.heap.size+1+1+1+1) _ _ _ _ _ rfl (bk.o.set3 _ _ _ _ _)) rfl (aB (bj.o.trans S2.o) ω ω)
 | some t =>
  obtain⟨a,ax⟩:=γ (kids.drop 1)
  have dq:Hid (dX p (aa p n) sc want kids=if a.all fy then bX p sc t (cE (aa p n) want a) (bTy 0) ((a.map Ex.n).zip (a.map Ex.m)) else none):=by show _=_;rw[HV.o,<-be.o,ax,<-zip_nm]
  have f5:=η (cx.o.stp S2.o (dr.o t rfl).2);have cd:a.length=kids.length-1:=by rw[ax,List.length_drop]
  have bl:Hid (ExsR B (im (plus own (w.heap.size+1+1+1+1)) B) (.slice (fd (some ⟨g,bf,none⟩) cap 1 5) a.length (cap-1)) a):=by rw[ax];exact SlR.from (ExsR.to du.o (S2.o.subO (.inl HO.o))) 1 ω
  have f6:Hid (∀k∈a,Ex.deep k<=n):=λk hk=>HD.o k (by rw[ax] at hk;exact List.mem_of_mem_drop hk);obtain⟨A1,ci⟩:=γ (fd (some ⟨g,bf,none⟩) cap 1 5)
  obtain⟨cp,cg⟩:=γ (cap-1)
  have eu:∀W,(Instr.slice 41 (.slice (some ⟨g,bf,none⟩) kids.length cap) (some (.int .i64 1)) none none).run prog W=.ok (.slice A1 a.length cp) W:=λW=>by
   rw[ci,cg,cd];exact eH W _ _ _ 1 ω
  rw[<-ci,<-cg] at bl;have gt:a.length<=1000000000:=ω;have c3:B.cell? ⟨w.heap.size+1+1,4,none⟩=some (.slice (some ⟨g,bf,none⟩) kids.length cap):=stpC (mb:=mb) dw.o Φ B S2.o;clear ci cg ax cd;go_upto_region 9 with fail;clear eu c3;obtain⟨z,a2,B6,_⟩:=κ B #[.slice A1 a.length cp] 41
  have dl:Hs z B.heap.size 41 #[.slice A1 a.length cp]:=by rw[a2];exact Hs.new _ _ _
  have hc:B.heap.size+1=z.heap.size:=by rw[a2];simp
  obtain⟨bp,fk⟩:=zd2 B6 dl;rw[<-a2];clear a2 B6 dl;obtain⟨fz,fi,fg⟩:=zd3 (ExsR.to bl.o (sof bp.o).sub) (bk.o.stp (mb:=mb) (Stm.of_below bp.o) Ω) ((bj.o.trans S2.o).trans (Stm.of_below (mb:=mb) bp.o));obtain⟨io,dj,dh,di,dk⟩:=jz;have d:Hid (prog.info? 3=some io/\io.zero=some (.int .i64 0)/\io.size=1/\io.bytes=8):=⟨dj,dh,di,dk⟩
  clear dj dh di dk;go_loopw [41,13,14] (λi v13 v14 wr=>∃(j:Nat) (An Am:Option Addr) (D F:Nat),j<=a.length/\i=.int .i64 j/\v13=.slice An j D/\v14=.slice Am j F/\Hid (a.all fy=(a.drop j).all fy)/\Hid (Two2 z wr An Am D F j a)) (λi _ _ _=>a.length-(intOf i).toNat)
  case atStart=>exact⟨0,none,none,0,0,ω,rfl,rfl,rfl,rfl,⟨Below.refl _ _,υ _,World.ownsRow_nil _ _ _ _,World.ownsRow_nil _ _ _ _,λg h=>by cases h⟩⟩
  case round =>
   obtain⟨j,An,Am,D,F,hj,rfl,rfl,rfl,HU,co⟩:=hrel;have M:Hid (Two z.heap.size z wr (.slice An j D) (.slice Am j F) j j (((a.take j).map Ex.n).map (Value.int .i64)) (((a.take j).map Ex.m).map (Value.int .i64))):=co.o;clear co;have et:z.heap.size<=wr.heap.size:=M.o.s;by_cases hlt:j<a.length
   ·have dz:=η (ry (f:=fy) hlt);obtain⟨g1,gi,o1,v,l,H,L,B1,J,rfl,hq,e1,p0,p1,p2,p3,p4,hr⟩:=aQ (ExsR.to fz.o (sof M.o.b).sub) hlt;obtain⟨HR,dv⟩:=zd2 hr e1;have br:Hid (fy a[j]=(decide (o1=14)&&(bH H&&decide (L.length=1)))):=by show _=_;rw[e1];rfl
    clear hr e1;have fh:=η (fi.o.stp (mb:=mb) (Stm.of_below M.o.b) Ω)
    cases h5:fy a[j] with
    | false =>
     have X:Hid (dX p (aa p n) sc want kids=none):=by show _=_;rw[dq.o,HU.o,dz.o,h5];rfl
     rw[h5] at br;clear h5;have ck:=λo=>fh.o.alloc o;obtain⟨z0,z1,z2,q0,q1,q2⟩:=(ck (.cells #[.int .i64 o1,.int .i64 v,.int .i64 l,.string H,.slice B1 L.length J] 43)).facts;have bb:=η ck;clear ck;have bd:Hid (∀W,Stm mb w W->ResF w own mb sb sc (dX p (aa p n) sc want kids) (.returned (.tuple #[.agg (ty3 0 ⟨#[]⟩ none 0 0),.bool false])) (set3 W (w.heap.size+1+1+1+1) 0 ⟨#[]⟩ none 0 0)):=λW hW=>by rw[X.o];exact aB hW ω ω
     have cr:Hid (∀o,Stm mb w (wr.alloc o)):=λo=>smA (fg.o.trans (Stm.of_below (mb:=mb) M.o.b)) o;by_cases h1:o1=14
     ·subst h1
      cases h3:bH H with
      | false =>
       obtain⟨y1,y2,y3⟩:=se_f h3
       clear h3;go_wp2;exact bodyPost_ret (am results174 _ _ (w.heap.size+1+1+1+1) _ _ _ _ _ rfl ((bb.o _).set3 _ _ _ _ _)) rfl (bd.o _ (cr.o _))
      | true =>
       obtain⟨y1,y2,y3⟩:=se_t h3
       have h6:((L.length:Int) != 1)=true:=by
        have:=br.o;rw[h3] at this;simp at this;simp;omega
       clear h3;go_wp2;exact bodyPost_ret (am results174 _ _ (w.heap.size+1+1+1+1) _ _ _ _ _ rfl ((bb.o _).set3 _ _ _ _ _)) rfl (bd.o _ (cr.o _))
     have ht:(o1 != 14)=true:=by simpa using h1
     clear h1;go_wp2;exact bodyPost_ret (am results174 _ _ (w.heap.size+1+1+1+1) _ _ _ _ _ rfl ((bb.o _).set3 _ _ _ _ _)) rfl (bd.o _ (cr.o _))
    | true =>
     have X:Hid (a.all fy=(a.drop (j+1)).all fy):=by show _=_;rw[HU.o,dz.o,h5];rfl
     rw[h5] at br;clear h5;have bi:o1=14/\bH H=true/\L.length=1:=by have:=br.o;simpa using this.symm
     obtain⟨rfl,h3,h6⟩:=bi;obtain⟨y1,y2,y3⟩:=se_t h3
     have hs:((L.length:Int) != 1)=false:=by simp;omega
     clear h3 h6;go_upto_region 13 with fail;have ae:Hid (Mid z.heap.size z wr.heap.size #[.int .i64 14,.int .i64 v,.int .i64 l,.string H,.slice B1 L.length J] (.slice An j D) (.slice Am j F) j j (((a.take j).map Ex.n).map (Value.int .i64)) (((a.take j).map Ex.m).map (Value.int .i64)) ((wr.alloc (.cells #[.int .i64 14,.int .i64 v,.int .i64 l,.string H,.slice B1 L.length J] 43)).drew)):=⟨(M.o.alloc _).drew,Hs.new _ _ _,λq e=>by have:=(M.o.on.lt _ e).2;omega,λq e=>by have:=(M.o.om.lt _ e).2;omega⟩
     have k1:∀W,Hs W wr.heap.size 43 #[.int .i64 14,.int .i64 v,.int .i64 l,.string H,.slice B1 L.length J]->W.cell? ⟨wr.heap.size,1,none⟩=some (.int .i64 v):=λW h=>h.cell 1;have k2:∀W,Hs W wr.heap.size 43 #[.int .i64 14,.int .i64 v,.int .i64 l,.string H,.slice B1 L.length J]->W.cell? ⟨wr.heap.size,2,none⟩=some (.int .i64 l):=λW h=>h.cell 2;have ct:Hid ((((a.take (j+1)).map Ex.n).map (Value.int .i64))=(((a.take j).map Ex.n).map (Value.int .i64))++[.int .i64 v]):=by show _=_;rw[List.take_add_one,ξ hlt,dv.o];simp[Ex.n]
     have cu:Hid ((((a.take (j+1)).map Ex.m).map (Value.int .i64))=(((a.take j).map Ex.m).map (Value.int .i64))++[.int .i64 l]):=by show _=_;rw[List.take_add_one,ξ hlt,dv.o];simp[Ex.m]
     refine tkB (λW=>Hs W wr.heap.size 43 #[.int .i64 14,.int .i64 v,.int .i64 l,.string H,.slice B1 L.length J]) (ae.o.hb) (λhHeld=>?_);refine θ ?_;refine wpAnyH_ready (rs:=[3,8]) Δ Θ ?_;refine (AllReadyH.cons (o:={ dst:=some 63,op:=Op.buildSlice 104 1 #[(0,Operand.tmp 62)],type:=104,pos:= "rules.go:166",after:=#[{ on:=2,ground:=Ground.data }],guard:=none }) rfl (λK hK=>?_) (AllReadyH.cons (o:={ dst:=some 68,op:=Op.buildSlice 104 1 #[(0,Operand.tmp 67)],type:=104,pos:= "rules.go:166",after:=#[{ on:=7,ground:=Ground.data }],guard:=none }) rfl (λK hK=>?_) AllReadyH.nil))
     ·go_simp;refine tkR hK (Hs.alloc hHeld _) (λhHeld=>?_);clear hK K;have aq:=η (ae.o.alloc (.cells #[.int .i64 v] 3));have N3:Hid (Hs ((wr.alloc (.cells #[.int .i64 14,.int .i64 v,.int .i64 l,.string H,.slice B1 L.length J] 43)).drew.alloc (.cells #[.int .i64 v] 3)) (wr.heap.size+1) 3 #[.int .i64 v]):=dI wr.drew _ 3 _;refine wpAnyH_ready (rs:=[4,8]) Δ Θ ?_;refine (AllReadyH.cons (o:={ dst:=some 64,op:=Op.call { callee:=Callee.builtin Builtin.append,args:=#[Operand.tmp 60,Operand.tmp 63],argTypes:=#[104,104] },type:=104,pos:= "rules.go:166",after:=#[{ on:=0,ground:=Ground.data },{ on:=3,ground:=Ground.data }],guard:=none }) rfl (λK hK=>?_) (AllReadyH.cons (o:={ dst:=some 68,op:=Op.buildSlice 104 1 #[(0,Operand.tmp 67)],type:=104,pos:= "rules.go:166",after:=#[{ on:=7,ground:=Ground.data }],guard:=none }) rfl (λK hK=>?_) AllReadyH.nil))
      ·refine step_append_lies _ rfl (.tmp 60) (.tmp 63) 104 rfl z.heap.size 3 io (.int .i64 0) 1 8 underlying104 d.o.1 d.o.2.1 d.o.2.2.1 d.o.2.2.2 rfl π (.slice An j D) j (((a.take j).map Ex.n).map (Value.int .i64)) rfl aq.o.two.on ⟨(wr.heap.size+1),0,none⟩ 1 1 [.int .i64 v] rfl rfl (ib N3.o) one1 π Ξ ω aq.o.two.s _ rfl ?_;intro gn D w1 av ad az df;have N:=η (aq.o.n ad av az);refine tkR hK N.o.hb (λhHeld=>?_);clear hK K;refine tkE 8 (λK hK=>?_);go_simp;refine tkR hK (Hs.alloc hHeld _) (λhHeld=>?_);clear hK K;have G:=η (N.o.alloc (.cells #[.int .i64 l] 3));have N8:Hid (Hs (w1.alloc (.cells #[.int .i64 l] 3)) w1.heap.size 3 #[.int .i64 l]):=Hs.new _ _ _;refine tkE 9 (λK hK=>?_);refine step_append_lies _ rfl (.tmp 65) (.tmp 68) 104 rfl z.heap.size 3 io (.int .i64 0) 1 8 underlying104 d.o.1 d.o.2.1 d.o.2.2.1 d.o.2.2.2 rfl π (.slice Am j F) j (((a.take j).map Ex.m).map (Value.int .i64)) rfl G.o.two.om ⟨w1.heap.size,0,none⟩ 1 1 [.int .i64 l] rfl rfl (ib N8.o) one1 π Ξ ω G.o.two.s _ rfl ?_;intro gm F B aw I a0 dg;have ab:=η (G.o.m I aw a0);refine tkR hK ab.o.hb (λhHeld=>?_);clear hK K;refine θ ?_;refine tkD ?_;have af:Hid (Two2 z B (some ⟨gn,0,none⟩) (some ⟨gm,0,none⟩) D F (j+1) a):=by show Two _ _ _ _ _ _ _ _ _;rw[ct.o,cu.o];exact ab.o.two
       go_wp2_with fail;go_roundw
       case rel =>
        refine⟨_,_,_,_,_,⟨j+1,ω,?_,some ⟨gn,0,none⟩,some ⟨gm,0,none⟩,D,rfl,F,rfl,X.o,af.o⟩,rfl,rfl,rfl,rfl,rfl⟩;go_num
       case measure=>simp[intOf];omega
      go_simp;refine tkR hK (Hs.alloc hHeld _) (λhHeld=>?_);clear hK K;have N:=η (aq.o.alloc (.cells #[.int .i64 l] 3));have N8:Hid (Hs (((wr.alloc (.cells #[.int .i64 14,.int .i64 v,.int .i64 l,.string H,.slice B1 L.length J] 43)).drew.alloc (.cells #[.int .i64 v] 3)).alloc (.cells #[.int .i64 l] 3)) (wr.heap.size+1+1) 3 #[.int .i64 l]):=kK wr.drew _ _ 3 _;have fj:=η (N3.o.alloc (.cells #[.int .i64 l] 3));refine tkE 4 (λK hK=>?_);refine step_append_lies _ rfl (.tmp 60) (.tmp 63) 104 rfl z.heap.size 3 io (.int .i64 0) 1 8 underlying104 d.o.1 d.o.2.1 d.o.2.2.1 d.o.2.2.2 rfl π (.slice An j D) j (((a.take j).map Ex.n).map (Value.int .i64)) rfl N.o.two.on ⟨(wr.heap.size+1),0,none⟩ 1 1 [.int .i64 v] rfl rfl (ib fj.o) one1 π Ξ ω N.o.two.s _ rfl ?_;intro gn D w1 av ad az df;have G:=η (N.o.n ad av az);refine tkR hK G.o.hb (λhHeld=>?_);clear hK K;have cl:Hid (Hs w1 (wr.heap.size+1+1) 3 #[.int .i64 l]):=(ad.block _ N8.o.lt (λe=>by have:=(ae.o.two.on.lt _ e.symm).2;simp at this;try omega)).trans N8.o;refine tkE 9 (λK hK=>?_);refine step_append_lies _ rfl (.tmp 65) (.tmp 68) 104 rfl z.heap.size 3 io (.int .i64 0) 1 8 underlying104 d.o.1 d.o.2.1 d.o.2.2.1 d.o.2.2.2 rfl π (.slice Am j F) j (((a.take j).map Ex.m).map (Value.int .i64)) rfl G.o.two.om ⟨(wr.heap.size+1+1),0,none⟩ 1 1 [.int .i64 l] rfl rfl (ib cl.o) one1 π Ξ ω G.o.two.s _ rfl ?_
      intro gm F B aw I a0 dg;have ab:=η (G.o.m I aw a0);refine tkR hK ab.o.hb (λhHeld=>?_);clear hK K;refine θ ?_;refine tkD ?_;have af:Hid (Two2 z B (some ⟨gn,0,none⟩) (some ⟨gm,0,none⟩) D F (j+1) a):=by show Two _ _ _ _ _ _ _ _ _;rw[ct.o,cu.o];exact ab.o.two
      go_wp2_with fail;go_roundw
      case rel =>
       refine⟨_,_,_,_,_,⟨j+1,ω,?_,some ⟨gn,0,none⟩,some ⟨gm,0,none⟩,D,rfl,F,rfl,X.o,af.o⟩,rfl,rfl,rfl,rfl,rfl⟩;go_num
      case measure=>simp[intOf];omega
     go_simp;refine tkR hK (Hs.alloc hHeld _) (λhHeld=>?_);clear hK K;have aq:=η (ae.o.alloc (.cells #[.int .i64 l] 3));have N8:Hid (Hs ((wr.alloc (.cells #[.int .i64 14,.int .i64 v,.int .i64 l,.string H,.slice B1 L.length J] 43)).drew.alloc (.cells #[.int .i64 l] 3)) (wr.heap.size+1) 3 #[.int .i64 l]):=dI wr.drew _ 3 _;refine tkE 3 (λK hK=>?_);go_simp;refine tkR hK (Hs.alloc hHeld _) (λhHeld=>?_);clear hK K;have N:=η (aq.o.alloc (.cells #[.int .i64 v] 3));have N3:Hid (Hs (((wr.alloc (.cells #[.int .i64 14,.int .i64 v,.int .i64 l,.string H,.slice B1 L.length J] 43)).drew.alloc (.cells #[.int .i64 l] 3)).alloc (.cells #[.int .i64 v] 3)) (wr.heap.size+1+1) 3 #[.int .i64 v]):=kK wr.drew _ _ 3 _;have dp:=η (N8.o.alloc (.cells #[.int .i64 v] 3));refine tkE 4 (λK hK=>?_);refine step_append_lies _ rfl (.tmp 60) (.tmp 63) 104 rfl z.heap.size 3 io (.int .i64 0) 1 8 underlying104 d.o.1 d.o.2.1 d.o.2.2.1 d.o.2.2.2 rfl π (.slice An j D) j (((a.take j).map Ex.n).map (Value.int .i64)) rfl N.o.two.on ⟨(wr.heap.size+1+1),0,none⟩ 1 1 [.int .i64 v] rfl rfl (ib N3.o) one1 π Ξ ω N.o.two.s _ rfl ?_;intro gn D w1 av ad az df;have G:=η (N.o.n ad av az);refine tkR hK G.o.hb (λhHeld=>?_);clear hK K;have cl:Hid (Hs w1 (wr.heap.size+1) 3 #[.int .i64 l]):=(ad.block _ dp.o.lt (λe=>by have:=(ae.o.two.on.lt _ e.symm).2;simp at this;try omega)).trans dp.o;refine tkE 9 (λK hK=>?_)
     refine step_append_lies _ rfl (.tmp 65) (.tmp 68) 104 rfl z.heap.size 3 io (.int .i64 0) 1 8 underlying104 d.o.1 d.o.2.1 d.o.2.2.1 d.o.2.2.2 rfl π (.slice Am j F) j (((a.take j).map Ex.m).map (Value.int .i64)) rfl G.o.two.om ⟨(wr.heap.size+1),0,none⟩ 1 1 [.int .i64 l] rfl rfl (ib cl.o) one1 π Ξ ω G.o.two.s _ rfl ?_;intro gm F B aw I a0 dg;have ab:=η (G.o.m I aw a0);refine tkR hK ab.o.hb (λhHeld=>?_);clear hK K;refine θ ?_;refine tkD ?_;have af:Hid (Two2 z B (some ⟨gn,0,none⟩) (some ⟨gm,0,none⟩) D F (j+1) a):=by show Two _ _ _ _ _ _ _ _ _;rw[ct.o,cu.o];exact ab.o.two
     go_wp2_with fail;go_roundw
     case rel =>
      refine⟨_,_,_,_,_,⟨j+1,ω,?_,some ⟨gn,0,none⟩,some ⟨gm,0,none⟩,D,rfl,F,rfl,X.o,af.o⟩,rfl,rfl,rfl,rfl,rfl⟩;go_num
     case measure=>simp[intOf];omega
   have u1:=zF j a.length;obtain rfl:j=a.length:=ω;clear hj hlt;have cy:Hid (a.all fy=true):=by show _=_;rw[HU.o,List.drop_length];rfl
   have fp:Hid (dX p (aa p n) sc want kids=bX p sc t (cE (aa p n) want a) (bTy 0) ((a.map Ex.n).zip (a.map Ex.m))):=by show _=_;rw[dq.o,if_pos cy.o]
   obtain⟨y,ao⟩:=γ (wr.alloc (.cells #[.int .i64 0,"",.slice none 0 0] 40))
   obtain⟨u,bh⟩:=γ wr.heap.size
   have ew:u<y.heap.size:=by rw[ao,bh];simp
   have HQ:Hid (Hs y u 40 z3):=by rw[ao,bh];exact Hs.new _ _ _
   have cz:Below z.heap.size z y:=by rw[ao];exact M.o.b.alloc et _
   have O:Below B.heap.size B y:=bel bp.o cz;obtain⟨g5,bm,fr,fx,fl,cw⟩:=zd6 O (f5.o.plus O (g:=u) ω ew) ((dr.o t rfl).1.to (aV (g:=u) O ω)) (ExsR.to bl.o (aV (g:=u) O ω)) (fn.o.to (λb hb=>let r:=S2.o.subO (.inl HO.o) b hb;let q:=aV (g:=u) O ω b r.1;⟨q.1,q.2.trans r.2⟩:Sub (im (plus own (w.heap.size+1+1+1+1)) U) (im (plus (plus own (w.heap.size+1+1+1+1)) u) y) U y)) (exs_i64 bl.o)
   have cq:Hid (Two z.heap.size z wr (.slice An a.length D) (.slice Am a.length F) a.length a.length ((a.map Ex.n).map (Value.int .i64)) ((a.map Ex.m).map (Value.int .i64))):=by
    have:=M.o;rw[List.take_length] at this;exact this
   have a9:Sub (λg=>z.heap.size<=g/\g<wr.heap.size) (im (plus (plus own (w.heap.size+1+1+1+1)) u) y) wr y:=λb hb=>⟨⟨ω,λh=>by
    rcases h with (h|h)|h
    ·have:=dt.o b h;omega
    ·omega
    omega⟩,by rw[ao];exact Below.heap_alloc wr _ b hb.2⟩
   have fw:Hid (IntsR y (im (plus (plus own (w.heap.size+1+1+1+1)) u) y) (.slice An (a.map Ex.n).length D) (a.map Ex.n)):=by
    rw[List.length_map];exact IntsR.to (fW cq.o.on Θ Ξ (λg h1 h2=>⟨h1,h2⟩) (λx hx=>by obtain⟨e,he,rfl⟩:=List.mem_map.1 hx;exact (cw.o e he).1)) a9
   have el:Hid (IntsR y (im (plus (plus own (w.heap.size+1+1+1+1)) u) y) (.slice Am (a.map Ex.m).length F) (a.map Ex.m)):=by
    rw[List.length_map];exact IntsR.to (fW cq.o.om Θ Ξ (λg h1 h2=>⟨h1,h2⟩) (λx hx=>by obtain⟨e,he,rfl⟩:=List.mem_map.1 hx;exact (cw.o e he).2)) a9
   have ar:u≠mb:=ω;have ba:=η (S2.o.trans (Stm.of_below (mb:=mb) O));have q0:y.cell? ⟨w.heap.size,0,none⟩=some (.pointer (some ⟨c.b,0,none⟩)):=stpC (mb:=mb) dy.o Φ y ba.o;have q1:y.cell? ⟨w.heap.size+1,0,none⟩=some (.pointer (some ⟨sb,0,none⟩)):=stpC (mb:=mb) dx.o Φ y ba.o;have q3:y.cell? ⟨w.heap.size+1+1+1,0,none⟩=some (.pointer po):=stpC (mb:=mb) f7.o Φ y ba.o;have q4:y.cell? ⟨B.heap.size,0,none⟩=some (.slice A1 a.length cp):=belC cz (fk.o.cell 0)
   have a7:∀b,(w.heap.size<=b/\b<w.heap.size+4)\/b=B.heap.size->im (plus (plus own (w.heap.size+1+1+1+1)) u) y b:=λb hb=>⟨ω,λh=>by
    rcases h with (h|h)|h
    ·have:=dt.o b h;omega
    ·omega
    omega⟩
   have I0:=a7 w.heap.size ω;have I1:=a7 (w.heap.size+1) ω;have I3:=a7 (w.heap.size+1+1+1) ω;have I4:=a7 B.heap.size ω;have ds:Hid (ArmRel mb (plus (plus own (w.heap.size+1+1+1+1)) u) (RelM mb u)):=relM_arm (.inl (.inl HO.o)) (.inr rfl) ar
   have db:Hid (mq (λi W Q=>Calls prog 199 #[.int .i64 i,.pointer (some ⟨w.heap.size,0,none⟩),.pointer (some ⟨w.heap.size+1,0,none⟩),.pointer (some ⟨B.heap.size,0,none⟩),.pointer (some ⟨u,0,none⟩),.pointer (some ⟨w.heap.size+1+1+1,0,none⟩)] W Q) (a.map Ex.n).length p (plus (plus own (w.heap.size+1+1+1+1)) u) mb sb (RelM mb u) (InvM u) (cE (aa p n) want a) y):=by
    intro i g' eq ha W hi ez hp hrel d9 ev ex;have SS:=dE (g:=g') (ds.o.stp hrel) ez;rw[List.length_map] at hi;have bi:fy a[i]=true:=(List.all_eq_true.1 cy.o) _ (ν hi);have ey:a[i].kids.length=1:=by simp only[fy,τ,decide_eq_true_eq] at bi;exact bi.2.2
    obtain⟨kd,ce⟩:∃kd,a[i].kids=[kd]:=by
     match hh:a[i].kids,ey with
     | [kd],_=>exact⟨kd,rfl⟩
    have e5:Ex.deep kd<=n:=by
     have h1:=f6.o _ (ν hi)
     cases hh:a[i] with
     | mk L b1 c1 d1 e1 =>
      rw[hh] at ce h1;have:e1=[kd]:=ce;subst this;rw[Ex.deep,Ex.deeps,Ex.deeps] at h1;omega
    obtain⟨n',f',d8⟩:=bm.o.rul
    have e4:Env W (plus (plus (plus own (w.heap.size+1+1+1+1)) u) g') mb sb c p eq:=⟨bm.o.chk.to SS,⟨n',f',d8.to SS⟩,ev,λb hb=>by
     rcases hb with hb|hb
     ·exact ρ (bm.o.ol b hb) hrel.s.size
     omega⟩
    exact body199 cv.o HF.o e4 ex (SS _ I0).1 (au q0 SS I0) (SS _ I1).1 (au q1 SS I1) (SS _ I4).1 (au q4 SS I4) (SS _ I3).1 (au q3 SS I3) ar d9 (ExsR.to fx.o SS) hi ce e5 (fl.o.to SS) HW.o
   have da:Hid (InvM u 0 (plus (plus own (w.heap.size+1+1+1+1)) u) (bTy 0) y):=⟨.inr rfl,λh=>absurd h ω,_,_,_,_,_,HQ.o,cO _ _ 0 Ψ⟩
   have bn:=η (arms199 (st0:=bTy 0) bm.o cs.o f4.o fr.o fw.o el.o Θ ds.o (invM_ok (.inr rfl) ar) db.o da.o)
   have V:Hid (Calls prog 198 #[.pointer (some ⟨c.b,0,none⟩),.pointer (some ⟨sb,0,none⟩),.agg #[.int .i64 k2,.string s2,.slice A2 n2 ee],.slice An a.length D,.slice Am a.length F,.func (.func 199) #[] #[.pointer (some ⟨w.heap.size,0,none⟩),.pointer (some ⟨w.heap.size+1,0,none⟩),.pointer (some ⟨B.heap.size,0,none⟩),.pointer (some ⟨u,0,none⟩),.pointer (some ⟨w.heap.size+1+1+1,0,none⟩)]] y (kO (plus (plus own (w.heap.size+1+1+1+1)) u) mb sb (RelM mb u) (InvM u (a.map Ex.n).length) sc y (dX p (aa p n) sc want kids))):=by
    have:=bn.o;rw[List.length_map,List.length_map] at this;rw[fp.o,List.length_map];exact this
   have ch:=f3.o.stp (mb:=mb) (Stm.of_below O) Ω;obtain⟨y0,y1,y2,_,_,_⟩:=ch.facts;obtain⟨dn,dm,fm,fu⟩:=zd4 (bk.o.stp (mb:=mb) (Stm.of_below O) Ω) ((bj.o.trans S2.o).trans (Stm.of_below (mb:=mb) O)) ao bh;clear ao cz O a9 bn ch a7 cq M HU I0 I1 I3 I4;have hm:z.heap.size<=u:=ω;go_upto_region 16 with fail;rw[<-fm.o,<-fu.o];clear bh
   cases hres:dX p (aa p n) sc want kids with
   | none =>
    rw[hres] at V;have X:=η hres;clear hres;go_wp2_with (go_at_call 198;refine V.o.mono ?_;rintro e8 w8 ⟨Z,rfl,bg⟩;obtain⟨k8,s8,A8,n8,ec,cf⟩:=Z.q ⟨_,_,_,_,_,HQ.o⟩;obtain⟨x0,v,x2,_,_,_⟩:=cf.facts;have a6:=η (show Hs w8 (w.heap.size+1+1+1+1) 40 z3 from (Z.s.block (w.heap.size+1+1+1+1) ω (by unfold plus only;omega)).trans dn.o);obtain⟨z0,z1,z2,f0,f1,f2⟩:=a6.o.facts;have cj:=η (nh dm.o Z ω ar);clear Z bg);rw[X.o];exact bodyPost_ret (am results174 _ _ (w.heap.size+1+1+1+1) _ _ _ _ _ rfl (a6.o.set3 _ _ _ _ _)) rfl (aB (rb:=(w.heap.size+1+1+1+1)) cj.o ω ω)
   | some T =>
    rw[hres] at V;have X:=η hres;clear hres;go_wp2_with (go_at_call 198;refine V.o.mono ?_;rintro e8 w8 ⟨Z,rfl,bg⟩;obtain⟨⟨_,_,k8,s8,A8,n8,ec,cf,dc⟩,cb⟩:=bg T rfl;obtain⟨x0,v,x2,_,_,_⟩:=cf.facts;have a6:=η (show Hs w8 (w.heap.size+1+1+1+1) 40 z3 from (Z.s.block (w.heap.size+1+1+1+1) ω (by unfold plus only;omega)).trans dn.o);obtain⟨z0,z1,z2,f0,f1,f2⟩:=a6.o.facts;have cj:=η (nh dm.o Z ω ar);have fs:=η dc;have ft:=η cb;clear Z bg dc cb);rw[X.o];exact bodyPost_ret (am results174 _ _ (w.heap.size+1+1+1+1) _ _ _ _ _ rfl (a6.o.set3 _ _ _ _ _)) rfl (bo (rb:=(w.heap.size+1+1+1+1)) cj.o ω ω HO.o (fs.o.to oK) (ft.o.less (.inl HO.o)))
end
