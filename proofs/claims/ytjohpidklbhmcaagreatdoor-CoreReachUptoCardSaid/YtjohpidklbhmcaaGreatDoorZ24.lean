/- Core -/
import Derived.Test.YtjohpidklbhmcaaGreatDoorZ23
namespace Go.Proofs.YtjohpidklbhmcaaGreatDoor
set_option linter.all false
open Go.Proofs.Tryz
set_option maxRecDepth 100000
set_option maxHeartbeats 2000000
open Go.RowKit Go.Maps Go.WideMaps Go.ChangeMaps
set_option maxRecDepth 1000000 in
def zfArms {p:Prop} (h:p:=by
 obtain⟨k0,s0,a0,A0,cw,rfl,e0,_⟩:=ap ht;obtain⟨HE,HO,HF,HT,HN,dy,HL,B⟩:=zd8 he ho hFi ht hns hms hlen hR;obtain⟨HI,HB,H0,U,bn⟩:=zd5 hI hB h0 he.mb.1 he.ol;have fv:=he.mb.2;have fu:=hns.le9;have ca:Hid ((ns.zip ms).length=ns.length):=by show _=_;rw[List.length_zip];omega
 have dj:=@run_makeMap prog;clear he ho hFi ht hns hms hlen hR hI hB h0 e0;obtain⟨W1,bc,B1,_⟩:=κ w #[.int .i64 k0,.string s0,.slice A0 a0.length cw] 40
 obtain⟨ar,bj,bg⟩:=zd3 B1 bc (xF c p (im own W1) _ t W1 (im own W1) (HE.o.chk.to (sof B1).sub) (ρ HE.o.chk.qb.1 B1.size) (HT.o.to (sof B1).sub));clear bc B1
 cases hv:varP p t with
  | none =>
   have HV:=η hv;have u:Hid (bX p sc t body st0 (ns.zip ms)=none):=by show _=_;unfold bX;rw[hv]
   clear hv;go_enter func198,ntmps198;go_wp2_with (go_at_call 173;rw[<-bj.o];refine bg.o.mono ?_;rw[HV.o];rintro e2 H ⟨E,rfl⟩);go_ret;rw[u.o];exact⟨B.o.bel (B.o.refl _) (bel ar.o E),rfl,λ_ h=>by cases h⟩
  | some cs =>
   obtain⟨HV,ea⟩:=zd2 hv (lB HF.o hv);have ce:Hid (bX p sc t body st0 (ns.zip ms)=if (ns.zip ms).length=0 then none else bz sc cs body 0 [] st0 (ns.zip ms)):=by show _=_;unfold bX;rw[hv]
   clear hv;by_cases am:ns.length=0
   ·have l1:((ns.length:Int)==0)=true:=beq_iff_eq.2 ω;have u:Hid (bX p sc t body st0 (ns.zip ms)=none):=by show _=_;rw[ce.o,if_pos (by rw[ca.o];exact am)]
    clear am;go_enter func198,ntmps198;go_wp2_with (go_at_call 173;rw[<-bj.o];refine bg.o.mono ?_;rw[HV.o];rintro e2 H ⟨E,A3,be,rfl,aa⟩;have bt:=η aa;clear aa);go_ret;rw[u.o];exact⟨B.o.bel (B.o.refl _) (bel ar.o E),rfl,λ_ h=>by cases h⟩
   have l1:((ns.length:Int)==0)=false:=beq_eq_false_iff_ne.2 ω;have an:Hid (bX p sc t body st0 (ns.zip ms)=bz sc cs body 0 [] st0 ((ns.zip ms).drop 0)):=by show _=_;rw[ce.o,if_neg (by rw[ca.o];exact am),List.drop_zero]
   clear am;go_enter func198,ntmps198;go_wp2_with (go_at_call 173;rw[<-bj.o];refine bg.o.mono ?_;rw[HV.o];rintro e2 H ⟨E,A3,be,rfl,aa⟩;have bt:=η aa;clear aa);clear dj l1;have bv:=η (bel ar.o E);have dc:w.heap.size<=H.heap.size:=bv.o.size;have bp:Hid (IMap (H.alloc (.map #[] 0)) H.heap.size ([]:List Int).length (oneI [])):=(MapIs.made prog 3 (Lit.int .i64) H).congr λs=>by simp[oneI]
   obtain⟨g,hg⟩:=γ H.heap.size
   have aq:=η (belA bv.o (.map #[] 0));have cn:Hid (CtrsR (H.alloc (.map #[] 0)) (im (plus own g) (H.alloc (.map #[] 0))) (.slice A3 cs.length be) cs):=CtrsR.to bt.o (aV (belA E _) (by have:=ar.o.size;have:=E.size;omega));have cl:Hid (Inv 0 (plus own g) st0 (H.alloc (.map #[] 0))):=(HI.o _).add aq.o ω bn.o H0.o;have ch:Hid (ScS (H.alloc (.map #[] 0)) (plus own g) mb sb sc):=(HE.o.plus aq.o ω Φ).sco;have cj:Hid (Rel w (H.alloc (.map #[] 0))):=B.o.bel (B.o.refl _) aq.o;have cm:Hid (¬own g):=λh=>by have:=bn.o _ h;omega
   have a8:w.heap.size<=g:=ω;rw[<-hg] at bp;rw[<-hg];obtain⟨W3,bb⟩:=γ (H.alloc (.map #[] 0))
   rw[<-bb] at bp cn cl ch cj aq;rw[<-bb];clear bb E bv bt hg dc;go_loopw [39] (λi wr=>∃(j:Nat) (seen:List Int) (st:σ),j<=ns.length/\i=.int .i64 j/\Hid (bz sc cs body 0 [] st0 ((ns.zip ms).drop 0)=bz sc cs body j seen st ((ns.zip ms).drop j))/\Hid (seen.length=j)/\Hid (IMap wr g seen.length (oneI seen))/\Hid (Rel w wr)/\Hid (Stp (plus own g) W3 wr)/\Hid (Inv j (plus own g) st wr)/\Hid (ScS wr (plus own g) mb sb sc)) (λi _=>ns.length-(intOf i).toNat)
   case atStart=>exact⟨0,[],st0,ω,rfl,rfl,rfl,bp.o,cj.o,Stp.refl _ _,cl.o,ch.o⟩
   case round =>
    obtain⟨j,seen,st,hj,rfl,HU,cf,HM,L,HS,ck,ao⟩:=hrel;have a9:g≠mb:=ω;have db:w.heap.size<=wr.heap.size:=(B.o.stp L.o).size;have fy:g<wr.heap.size:=HM.o.lt;have aj:Hid (∀b,own b->b<wr.heap.size):=λb hb=>ρ (bn.o b hb) db;by_cases hlt:j<ns.length
    ·have u1:=zT j ns.length;have a7:j<ms.length:=by rw[HL.o];exact hlt
     have bw:=η (qr (sc:=sc) (ctors:=cs) (body:=body) (i:=j) (seen:=seen) (st:=st) hlt a7);obtain⟨g1,er,rfl,f1,p1,af⟩:=mA (IntsR.to HN.o (dE (g:=g) (B.o.stp L.o) a8)) hlt;obtain⟨g2,eq,rfl,f0,p2,ah⟩:=mA (IntsR.to dy.o (dE (g:=g) (B.o.stp L.o) a8)) a7;obtain⟨ps,ft,fs⟩:=ao.o.slots;have jm:(j:Int)<(ms.length:Int):=ω;obtain⟨n,hn⟩:=γ (ns[j])
     obtain⟨m,hm⟩:=γ (ms[j])
     rw[<-hn,<-hm] at bw;rw[<-hn] at p1 af;rw[<-hm] at p2 ah;obtain⟨bo,fe⟩:=zd2 af ah;clear hn hm af ah
     have d4:Hid ((Instr.lookup 243 (.map (some g)) (.int .i64 (-1)) false).run prog wr=.ok (.bool (decide (-1∈seen))) wr):=by
      have:=MapIs.look HM.o (bh underlying3) (t:=243) underlying243 (z:=.bool false) Δ (aw (n:=-1) underlying3 Ψ);rw[i9] at this;exact this
     have d3:Hid ((Instr.lookup 243 (.map (some g)) (.int .i64 n) false).run prog wr=.ok (.bool (decide (n∈seen))) wr):=by
      have:=MapIs.look HM.o (bh underlying3) (t:=243) underlying243 (z:=.bool false) Δ (aw (n:=n) underlying3 bo.o);rw[i9] at this;exact this
     go_upto_region 9 with fail;go_cut [77] (λv W=>v=.bool (jK sc cs seen n m)/\W=wr)
     case first =>
      have R:=d4.o;have X:=d3.o;have a:Hid (jK sc cs seen n m=((decide (n≠-1)&&!az n cs.length)||decide (m<0)||decide (sc.slots<m)||decide (-1∈seen)||decide (n∈seen))):=rfl;by_cases G:n=-1
      ·have bd:(n != -1)=false:=by simp[G]
       have ac:decide (n≠-1)=false:=by simp[G]
       rw[ac] at a;clear G ac;have I:Hid (az n cs.length=az n cs.length):=rfl
       cases h3:decide (m<0) with
        | true =>
         rw[h3] at a;go_wp2_with (go_at_call 162;refine (ay _ _ _).mono ?_;rw[I.o];rintro e V ⟨rfl,rfl⟩);go_meet;exact⟨by rw[a.o];simp,rfl⟩
        | false =>
         rw[h3] at a
         cases h4:decide (sc.slots<m) with
          | true =>
           rw[h4] at a;go_wp2_with (go_at_call 162;refine (ay _ _ _).mono ?_;rw[I.o];rintro e V ⟨rfl,rfl⟩);go_meet;exact⟨by rw[a.o];simp,rfl⟩
          | false =>
           rw[h4] at a
           cases h5:decide (-1∈seen) with
            | true =>
             rw[h5] at a R;clear h5;go_wp2_with (go_at_call 162;refine (ay _ _ _).mono ?_;rw[I.o];rintro e V ⟨rfl,rfl⟩);go_meet;exact⟨by rw[a.o];simp,rfl⟩
            | false =>
             rw[h5] at a R;clear h5
             cases F:decide (n∈seen) with
              | true =>
               rw[F] at a X;clear F;go_wp2_with (go_at_call 162;refine (ay _ _ _).mono ?_;rw[I.o];rintro e V ⟨rfl,rfl⟩);go_meet;exact⟨by rw[a.o];simp,rfl⟩
              | false =>
               rw[F] at a X;clear F;go_wp2_with (go_at_call 162;refine (ay _ _ _).mono ?_;rw[I.o];rintro e V ⟨rfl,rfl⟩);go_meet;exact⟨by rw[a.o];simp,rfl⟩
      have bd:(n != -1)=true:=by simp[G]
      have ac:decide (n≠-1)=true:=by simp[G]
      rw[ac] at a;clear G ac
      cases h2:az n cs.length with
       | false =>
        rw[h2] at a;have I:=η h2;clear h2;go_wp2_with (go_at_call 162;refine (ay _ _ _).mono ?_;rw[I.o];rintro e V ⟨rfl,rfl⟩);go_meet;exact⟨by rw[a.o];simp,rfl⟩
       | true =>
        rw[h2] at a;have I:=η h2;clear h2
        cases h3:decide (m<0) with
         | true =>
          rw[h3] at a;go_wp2_with (go_at_call 162;refine (ay _ _ _).mono ?_;rw[I.o];rintro e V ⟨rfl,rfl⟩);go_meet;exact⟨by rw[a.o];simp,rfl⟩
         | false =>
          rw[h3] at a
          cases h4:decide (sc.slots<m) with
           | true =>
            rw[h4] at a;go_wp2_with (go_at_call 162;refine (ay _ _ _).mono ?_;rw[I.o];rintro e V ⟨rfl,rfl⟩);go_meet;exact⟨by rw[a.o];simp,rfl⟩
           | false =>
            rw[h4] at a
            cases h5:decide (-1∈seen) with
             | true =>
              rw[h5] at a R;clear h5;go_wp2_with (go_at_call 162;refine (ay _ _ _).mono ?_;rw[I.o];rintro e V ⟨rfl,rfl⟩);go_meet;exact⟨by rw[a.o];simp,rfl⟩
             | false =>
              rw[h5] at a R;clear h5
              cases F:decide (n∈seen) with
               | true =>
                rw[F] at a X;clear F;go_wp2_with (go_at_call 162;refine (ay _ _ _).mono ?_;rw[I.o];rintro e V ⟨rfl,rfl⟩);go_meet;exact⟨by rw[a.o];simp,rfl⟩
               | false =>
                rw[F] at a X;clear F;go_wp2_with (go_at_call 162;refine (ay _ _ _).mono ?_;rw[I.o];rintro e V ⟨rfl,rfl⟩);go_meet;exact⟨by rw[a.o];simp,rfl⟩
     case rest =>
     obtain⟨rfl,rfl⟩:=hcut;obtain⟨wo,rfl⟩:=γ wc
     clear p1 p2 ps jm
     cases hbad:jK sc cs seen n m with
      | true =>
       have u:Hid (bX p sc t body st0 (ns.zip ms)=none):=by show _=_;rw[an.o,HU.o,bw.o,hbad];rfl
       go_wp2_with fail;go_ret;rw[u.o];exact⟨L.o,rfl,λ_ h=>by cases h⟩
      | false =>
       have bi:Hid (bX p sc t body st0 (ns.zip ms)=match bindAll sc m (kZ cs n) with|none=>none|some sc'=>match body st j sc' with|none=>none|some st'=>bz sc cs body (j+1) (n::seen) st' ((ns.zip ms).drop (j+1))):=by show _=_;rw[an.o,HU.o,bw.o,hbad];rfl
       simp only[jK,Bool.or_eq_false_iff,decide_eq_false_iff_not] at hbad;obtain⟨⟨⟨⟨b9,E⟩,dm⟩,dl⟩,b8⟩:=hbad;have fw:0<=m:=ω;have hms:m<=sc.slots:=ω;have d1:Hid (seen.length<maxLen):=by show _<_;rw[cf.o];unfold maxLen;omega
       have dx:Hid ((oneI seen n).isSome=false):=by show _=_;rw[uU];exact decide_eq_false b8
       have ed:=η b9;clear b9 E dm dl b8;go_upto_if 81 with (refine ak _ rfl _ _ _ 243 (.inl rfl) 4 (bh underlying3) underlying243 g seen.length (oneI seen) rfl HM.o d1.o n (.int .i64 n) (.bool true) rfl rfl (aw underlying3 bo.o) ?_;intro M hM D)
       have d0:Hid (IMap M g (n::seen).length (oneI (n::seen))):=by
        have:=hM;rw[dx.o,sS] at this;exact this
       have f2:=η D;have ci:Hid (Rel w M):=B.o.bel L.o ⟨D.os,D.tape,D.output,D.size,λb hb=>D.block b ω (λe=>by injection e with e;omega)⟩;have cg:Hid (Stp (plus own g) W3 M):=stpG HS.o D (λr e=>by injection e with e;subst e;exact .inl (.inr rfl));have d9:Hid (Inv j (plus own g) st M):=(HI.o _).grow D aj.o cm.o ck.o;have cz:Hid (ScS M (plus own g) mb sb sc):=ao.o.grown D a9;have fq:wo.heap.size<=M.heap.size:=D.size;have c2:=η (CtrsR.to cn.o cg.o.sub);clear hM D;obtain⟨d,T⟩:=γ (kZ cs n)
       have ec:Hid (∀f∈d,ag f.type=true):=by rw[T];exact ea.o n
       go_cut [19] (λv W=>(∃A q,v=.slice A d.length q/\Hid (FldsR M (im (plus own g) M) (.slice A d.length q) d))/\W=M)
       case first =>
        by_cases G:n=-1
        ·have bd:(n != -1)=false:=by simp[G]
         have dk:d=[]:=by rw[T];unfold kZ;rw[if_pos G]
         clear G T;subst dk;go_wp2_with fail;go_meet;exact⟨⟨none,0,rfl,SlR.nil⟩,rfl⟩
        have bd:(n != -1)=true:=by simp[G]
        have a2:az n cs.length=true:=by
         have:=ed.o;rw[show decide (n≠-1)=true from decide_eq_true G] at this;simpa using this
        have dd:0<=n/\n<(cs.length:Int):=by unfold az at a2;simpa using a2
        obtain⟨y,rfl⟩:∃y:Nat,n=(y:Int):=⟨n.toNat,ω⟩
        have b3:y<cs.length:=ω;have fn:(0:Int)<=(y:Int):=ω;have fm:(y:Int)<(cs.length:Int):=ω
        have b7:d=cs[y].fields:=by
         rw[T];unfold kZ;rw[if_neg G,Int.toNat_natCast,ξ b3]
        obtain⟨g4,ep,A5,q5,rfl,D,v0,v1,df,dh,ba⟩:=ew c2.o b3;rw[<-b7] at v1 ba;have eb:=η ba;clear G a2 dd T b7 df dh ba v0;go_wp2_with fail;go_meet;exact⟨⟨A5,q5,rfl,eb.o⟩,rfl⟩
       case rest =>
       obtain⟨⟨A5,q5,rfl,bs⟩,rfl⟩:=hcut;rw[<-T] at bi;clear T;obtain⟨M,rfl⟩:=γ wc
       have ex:=bs.o.le9;go_upto_region 16 with fail;go_loopw [89] (λi wr=>∃(t:Nat) (k:Sc),t<=d.length/\i=.int .i64 t/\Hid (bindAll sc m (d.take t)=some k)/\Hid (Stm mb M wr)/\Hid (ScS wr (plus own g) mb sb k)) (λi _=>d.length-(intOf i).toNat)
       case atStart=>exact⟨0,sc,ω,rfl,rfl,Stm.refl _ _,cz.o⟩
       case round =>
        obtain⟨l,k,b5,rfl,bu,J,ai⟩:=hrel;have fp:M.heap.size<=wr.heap.size:=J.o.size
        have fx:m+(l:Int)<=sc.slots:=by
         have:=(jy bu.o).le;rw[List.length_take,Nat.min_eq_left b5] at this;omega
        have br:Hid (i64 (m+(l:Int))):=by show i64 _;unfold i64;omega
        by_cases a5:l<d.length
        ·have u2:=zT l d.length;have dr:Hid (d.take (l+1)=d.take l++[d[l]]):=by show _=_;rw[List.take_add_one,ξ a5];rfl
         have co:Hid (bindAll sc m (d.take (l+1))=k.bind (m+(l:Int)) d[l].type):=by
          show _=_;rw[dr.o,lz bu.o,List.length_take,Nat.min_eq_left b5]
         obtain⟨g6,eo,k6,s6,a6,C6,d6,rfl,fz,e6,v0,v1,v2,v3,dg,b6⟩:=dw (FldsR.to bs.o (J.o.subO (.inl U.o))) a5;have du:=η b6;have cd:Hid (∀o,TyR (wr.alloc o) (im (plus own g) (wr.alloc o)) [.int .i64 k6,.string s6,.slice C6 a6.length d6] d[l].type):=λo=>du.o.to (sof ζ1).sub;clear b6 e6 dg
         cases h7:k.bindB (m+(l:Int)) with
          | false =>
           have u:Hid (bX p sc t body st0 (ns.zip ms)=none):=by
            show _=_;rw[bi.o]
            have h8:bindAll sc m d=none:=by
             rw[<-List.take_append_drop (l+1) d];refine ny ?_;rw[co.o];unfold Sc.bind;rw[h7];rfl
            rw[h8]
           have H7:=η h7;clear h7;go_wp2_with (go_at_call 178;refine (da (plus own g) mb sb k _ _ d[l].type _ (ai.o.below ζ1) br.o (cd.o _)).mono ?_;rintro e7 w7 ⟨Z,a4,b4,di⟩;rw[H7.o] at Z;subst Z);go_ret;rw[u.o];exact⟨B.o.stm (B.o.stm ci.o J.o) ((Stm.of_below ζ1).trans a4),rfl,λ_ h=>by cases h⟩
          | true =>
           have dv:Hid (bindAll sc m (d.take (l+1))=some (k.set (m+(l:Int)) d[l].type)):=by show _=_;rw[co.o];unfold Sc.bind;rw[h7];rfl
           have H7:=η h7;clear h7;go_wp2_with (go_at_call 178;refine (da (plus own g) mb sb k _ _ d[l].type _ (ai.o.below ζ1) br.o (cd.o _)).mono ?_;rintro e7 w7 ⟨Z,a4,b4,di⟩;rw[H7.o] at Z;subst Z);go_roundw
           case rel=>exact⟨l+1,_,ω,by go_num,dv.o,J.o.trans ((Stm.of_below ζ1).trans a4),b4 H7.o⟩
           case measure=>simp[intOf];omega
        have u2:=zF l d.length
        have al:Hid (bindAll sc m d=some k):=by
         have:=bu.o;rw[List.take_of_length_le ω] at this;exact this
        have cc:Hid (bX p sc t body st0 (ns.zip ms)=match body st j k with|none=>none|some st'=>bz sc cs body (j+1) (n::seen) st' ((ns.zip ms).drop (j+1))):=by show _=_;rw[bi.o,al.o]
        obtain⟨c0,bm⟩:=zd2 (HO.o.bindAll ec.o al.o) (B.o.stm ci.o J.o);have d8:Hid (Inv j (plus own g) st wr):=(HI.o _).stm J.o (λ_ h=>.inl h) U.o (λb hb=>by have:=aj.o b hb;omega) d9.o;have cr:g<wr.heap.size:=ω;have N:=η (HB.o j g k st wr hlt a8 cr bm.o d8.o ai.o c0.o)
        cases h8:body st j k with
         | none =>
          have u:Hid (bX p sc t body st0 (ns.zip ms)=none):=by show _=_;rw[cc.o,h8]
          have H8:=η h8;clear h8
          first
           | guard_hyp kk0:True
             go_wp2_with (go_at_call 199;refine N.o.mono ?_;rw[H8.o];rintro e8 w8 ⟨O,rfl,Y⟩)
           | go_wp2_with (go_at_call 203;refine N.o.mono ?_;rw[H8.o];rintro e8 w8 ⟨O,rfl,Y⟩)
          go_ret;rw[u.o];exact⟨B.o.trans bm.o O,rfl,λ_ h=>by cases h⟩
         | some st' =>
          have u:Hid (bz sc cs body 0 [] st0 ((ns.zip ms).drop 0)=bz sc cs body (j+1) (n::seen) st' ((ns.zip ms).drop (j+1))):=by show _=_;rw[<-an.o,cc.o,h8]
          have H8:=η h8;clear h8
          first
           | guard_hyp kk0:True
             go_upto_region 24 with (go_at_call 199;refine N.o.mono ?_;rw[H8.o];rintro e8 w8 ⟨O,rfl,Y⟩)
           | go_upto_region 24 with (go_at_call 203;refine N.o.mono ?_;rw[H8.o];rintro e8 w8 ⟨O,rfl,Y⟩)
          obtain⟨bl,cb⟩:=zd2 O (Y st' rfl);have fo:wr.heap.size<=w8.heap.size:=(B.o.stp O).size;clear O Y;obtain⟨w5,rfl⟩:=γ wr
          go_loopw [109] (λi wr=>∃(t:Nat),t<=d.length/\i=.int .i64 t/\Hid (Stm mb w8 wr)/\Hid (ScS wr (plus own g) mb sb (k.unsetTo m t))) (λi _=>d.length-(intOf i).toNat)
          case atStart=>exact⟨0,ω,rfl,Stm.refl _ _,by show ScS _ _ _ _ _;rw[lg];exact cb.o.2⟩
          case round =>
           obtain⟨t3,fr,rfl,ad,bk⟩:=hrel;have d7:Hid (i64 (m+(t3:Int))):=by show i64 _;unfold i64;omega
           by_cases ev:t3<d.length
           ·have u3:=zT t3 d.length;go_wp2_with (go_at_call 144;refine (jS (plus own g) mb sb (k.unsetTo m t3) _ _ bk.o d7.o).mono ?_;rintro e9 w9 ⟨rfl,de,a3⟩;rw[li] at a3);go_roundw
            case rel=>exact⟨t3+1,ω,by go_num,ad.o.trans de,a3⟩
            case measure=>simp[intOf];omega
           have u3:=zF t3 d.length;obtain rfl:t3=d.length:=ω
           have ds:Hid (ScS wr (plus own g) mb sb sc):=by
            have:=bk.o;rw[mY (jy al.o)] at this;exact this
           have dt:Hid (Rel w wr):=B.o.stm (B.o.trans bm.o bl.o) ad.o;have d5:Hid (Inv (j+1) (plus own g) st' wr):=(HI.o _).stm ad.o (λ_ h=>.inl h) U.o (λb hb=>by have:=aj.o b hb;omega) cb.o.1;have cy:Hid (Stp (plus own g) W3 wr):=((cg.o.trans (J.o.s.wk λb h=>.inl (by unfold only at h;rw[h];exact U.o))).trans ((B.o.stp bl.o).wk λb h=>.inl h)).trans (ad.o.s.wk λb h=>.inl (by unfold only at h;rw[h];exact U.o));have dz:Hid (IMap wr g (n::seen).length (oneI (n::seen))):=d0.o.same (((ad.o.s.block g ω (by unfold only;exact a9)).trans ((B.o.stp bl.o).block g ω cm.o)).trans (J.o.s.block g ω (by unfold only;exact a9)));have d2:Hid ((n::seen).length=j+1):=by show _=_;rw[δ,cf.o]
           go_wp2_with fail;go_roundw
           case rel=>exact⟨j+1,n::seen,st',ω,by go_num,u.o,d2.o,dz.o,dt.o,cy.o,d5.o,ds.o⟩
           case measure=>simp[intOf];omega
    have u1:=zF j ns.length;have u:Hid (bX p sc t body st0 (ns.zip ms)=if decide (-1∈seen)||decide (seen.length=cs.length) then some st else none):=by show _=_;rw[an.o,HU.o,oW hlt]
    have bq:Hid (Inv ns.length (plus own g) st wr):=by have:=ck.o;rw[show j=ns.length by omega] at this;exact this
    have R:(Instr.lookup 243 (.map (some g)) (.int .i64 (-1)) false).run prog wr=.ok (.bool (decide (-1∈seen))) wr:=by
     have:=MapIs.look HM.o (bh underlying3) (t:=243) underlying243 (z:=.bool false) Δ (aw (n:=-1) underlying3 Ψ);rw[i9] at this;exact this
    have X:=λty=>MapIs.len HM.o (t:=243) underlying243 ty
    cases h5:decide (-1∈seen) with
     | true =>
      rw[h5] at R u;clear h5 X;go_wp2_with fail;go_ret;rw[u.o];exact⟨L.o,rfl,λs h=>by injection h with h;subst h;exact⟨(HI.o _).less bq.o,ao.o.less U.o⟩⟩
     | false =>
      rw[h5] at R u;clear h5;by_cases F:seen.length=cs.length
      ·have dp:((seen.length:Int)==(cs.length:Int))=true:=beq_iff_eq.2 ω;rw[decide_eq_true F] at u;clear F;go_wp2_with fail;go_ret;rw[u.o];exact⟨L.o,rfl,λs h=>by injection h with h;subst h;exact⟨(HI.o _).less bq.o,ao.o.less U.o⟩⟩
      have dp:((seen.length:Int)==(cs.length:Int))=false:=beq_eq_false_iff_ne.2 ω;rw[decide_eq_false F] at u;clear F;go_wp2_with fail;go_ret;rw[u.o];exact⟨L.o,rfl,λs h=>by cases h⟩) :p:=h
section
variable {σ:Type} {c:CB} {p:Pg} {mb sb:Nat} {own:Nat->Prop} {sc:Sc} {Rel:World->World->Prop} {Inv:Nat->(Nat->Prop)->σ->World->Prop} {ct:List Value} {t:Ty} {A1 A2:Option Addr} {cap1 cap2:Nat} {ns ms:List Int} {w:World} (he:Env w own mb sb c p sc) (ho:ScOk p sc) (hFi:Fine p) (ht:TyR w (im own w) ct t) (hns:IntsR w (im own w) (.slice A1 ns cap1) ns) (hms:IntsR w (im own w) (.slice A2 ms cap2) ms) (hlen:ms.length=ns) (hR:ArmRel mb own Rel) (hI:∀i,InvOk mb own (Inv i))
include he ho hFi ht hns hms hlen hR hI
variable {body:σ->Nat->Sc->Option σ}
theorem arms199 {st0:σ} {k1 k2 k3 k4 k5:Value} (hB:mq (λi W Q=>Calls prog 199 #[i,k1,k2,k3,k4,k5] W Q) ns p own mb sb Rel Inv body w) (h0:Inv 0 own st0 w):
 Calls prog 198 #[c.b,sb,.agg ct.toArray,.slice A1 ns cap1,.slice A2 ms cap2,.func (.func 199) #[] #[k1,k2,k3,k4,k5]] w (kO own mb sb Rel (Inv ns) sc w (bX p sc t body st0 (ns.zip ms))):=by
 have kk0:=trivial;exact zfArms
theorem arms203 {st0:σ} {k1 k2 k3:Value} (hB:mq (λi W Q=>Calls prog 203 #[i,k1,k2,k3] W Q) ns p own mb sb Rel Inv body w) (h0:Inv 0 own st0 w):
 Calls prog 198 #[c.b,sb,.agg ct.toArray,.slice A1 ns cap1,.slice A2 ms cap2,.func (.func 203) #[] #[k1,k2,k3]] w (kO own mb sb Rel (Inv ns) sc w (bX p sc t body st0 (ns.zip ms))):=by
 have kk1:=trivial;exact zfArms
end
end Go.Proofs.YtjohpidklbhmcaaGreatDoor
