import Derived.Test.YtbmknjfgjphfbaaGreatDoorZ26
import Derived.Test.YtbmknjfgjphfbaaGreatDoorZ29
set_option linter.all false
namespace Go.Proofs.YtbmknjfgjphfbaaGreatDoor
open Proofs.Tryz RowKit Maps WideMaps ChangeMaps
set_option maxRecDepth 100000
set_option maxHeartbeats 8000000
section
section
variable {k:Nat} (H:AllS k)
include H
theorem q_fld:ShSaid (k+1) .fld:=fun cs t d w hd h=>by
 obtain⟨k0,s,n,p,a,A,cap,rfl,rfl,_,hs,_⟩:=nd_form h
 exact fld_s H k0 s n p a A cap d w hd hs h
theorem q_ctor:ShSaid (k+1) .ctor:=fun cs t d w hd h=>by
 obtain⟨k0,s,n,p,a,A,cap,rfl,rfl,_,hs,_⟩:=nd_form h
 exact ctor_s H k0 s n p a A cap d w hd hs h
theorem q_set:ShSaid (k+1) .set:=fun cs t d w hd h=>by
 obtain⟨k0,s,n,p,a,A,cap,rfl,rfl,_,hs,_⟩:=nd_form h
 exact set_s H k0 s n p a A cap d w hd hs h
theorem q_ans:ShSaid (k+1) .ans:=fun cs t d w hd h=>by
 obtain⟨k0,s,n,p,a,A,cap,rfl,rfl,_,hs,_⟩:=nd_form h
 exact ans_s H k0 s n p a A cap d w hd hs h
theorem q_blk:ShSaid (k+1) .blk:=fun cs t d w hd h=>by
 obtain⟨k0,s,n,p,a,A,cap,rfl,rfl,_,hs,_⟩:=nd_form h
 exact blk_s H k0 s n p a A cap d w hd hs h
theorem q_snd:ShSaid (k+1) .snd:=fun cs t d w hd h=>by
 obtain⟨k0,s,n,p,a,A,cap,rfl,rfl,_,hs,_⟩:=nd_form h
 exact snd_s H k0 s n p a A cap d w hd hs h
theorem q_arm:ShSaid (k+1) .arm:=fun cs t d w hd h=>by
 obtain⟨k0,s,n,p,a,A,cap,rfl,rfl,_,hs,_⟩:=nd_form h
 exact arm_s H k0 s n p a A cap d w hd hs h
theorem q_sarm:ShSaid (k+1) .sarm:=fun cs t d w hd h=>by
 obtain⟨k0,s,n,p,a,A,cap,rfl,rfl,_,hs,_⟩:=nd_form h
 exact sarm_s H k0 s n p a A cap d w hd hs h
theorem q_typ:ShSaid (k+1) .typ:=fun cs t d w hd h=>by
 obtain⟨k0,s,n,p,a,A,cap,rfl,rfl,_,hs,_⟩:=nd_form h
 by_cases c1:k0=12
 · subst c1;exact typ_12 H s n p a A cap d w hd hs h
 by_cases c2:k0=13
 · subst c2;exact typ_13 H s n p a A cap d w hd hs h
 by_cases c3:k0=14
 · subst c3;exact typ_14 H s n p a A cap d w hd hs h
 by_cases c4:k0=15
 · subst c4;exact typ_15 H s n p a A cap d w hd hs h
 refine saidEq (typ_o k0 _ _ d w ω rfl ⟨c1,c2,c3,c4⟩ h) ?_
 show false=typeB (shp k) (.mk k0 s n p a)
 simp[typeB,ndK,c1,c2,c3,c4]
theorem q_mem:ShSaid (k+1) .mem:=fun cs t d w hd h=>by
 obtain⟨k0,s,n,p,a,A,cap,rfl,rfl,_,hs,_⟩:=nd_form h
 by_cases c1:k0=9
 · subst c1;exact mem_9 H s n p a A cap d w hd hs h
 refine saidEq (mem_o H k0 s n p a A cap d w hd c1 hs h) ?_
 show _=(if k0=9 then _ else _)
 rw[if_neg c1];rfl
theorem q_exp:ShSaid (k+1) .exp:=fun cs t d w hd h=>by
 obtain⟨k0,s,n,p,a,A,cap,rfl,rfl,_,hs,_⟩:=nd_form h
 by_cases c20:k0=20
 · subst c20;exact exp_20 H s n p a A cap d w hd hs h
 by_cases c21:k0=21
 · subst c21;exact exp_21 H s n p a A cap d w hd hs h
 by_cases c22:k0=22
 · subst c22;exact exp_22 H s n p a A cap d w hd hs h
 by_cases c23:k0=23
 · subst c23;exact exp_23 H s n p a A cap d w hd hs h
 by_cases c24:k0=24
 · subst c24;exact exp_24 H s n p a A cap d w hd hs h
 by_cases c25:k0=25
 · subst c25;exact exp_25 H s n p a A cap d w hd hs h
 by_cases c26:k0=26
 · subst c26;exact exp_26 H s n p a A cap d w hd hs h
 by_cases c27:k0=27
 · subst c27;exact exp_27 H s n p a A cap d w hd hs h
 by_cases c29:k0=29
 · subst c29;exact exp_29 H s n p a A cap d w hd hs h
 by_cases c30:k0=30
 · subst c30;exact exp_30 H s n p a A cap d w hd hs h
 by_cases c31:k0=31
 · subst c31;exact exp_31 H s n p a A cap d w hd hs h
 by_cases c32:k0=32
 · subst c32;exact exp_32 H s n p a A cap d w hd hs h
 by_cases c33:k0=33
 · subst c33;exact exp_33 H s n p a A cap d w hd hs h
 by_cases c34:k0=34
 · subst c34;exact exp_34 H s n p a A cap d w hd hs h
 by_cases c35:k0=35
 · subst c35;exact exp_35 H s n p a A cap d w hd hs h
 by_cases c36:k0=36
 · subst c36;exact exp_36 H s n p a A cap d w hd hs h
 by_cases c37:k0=37
 · subst c37;exact exp_37 H s n p a A cap d w hd hs h
 by_cases c38:k0=38
 · subst c38;exact exp_38 H s n p a A cap d w hd hs h
 by_cases c41:k0=41
 · subst c41;exact exp_41 H s n p a A cap d w hd hs h
 refine saidEq (exp_o k0 _ _ d w ω rfl ⟨c20,c21,c22,c23,c24,c25,c26,c27,c29,c30,c31,c32,c33,c34,c35,c36,c37,c38,c41⟩ h) ?_
 show false=expB (shp k) (.mk k0 s n p a)
 simp[expB,ndK, *]
theorem q_stm:ShSaid (k+1) .stm:=fun cs t d w hd h=>by
 obtain⟨k0,s,n,p,a,A,cap,rfl,rfl,_,hs,_⟩:=nd_form h
 by_cases c50:k0=50
 · subst c50;exact stm_50 H s n p a A cap d w hd hs h
 by_cases c51:k0=51
 · subst c51;exact stm_51 H s n p a A cap d w hd hs h
 by_cases c52:k0=52
 · subst c52;exact stm_52 H s n p a A cap d w hd hs h
 by_cases c53:k0=53
 · subst c53;exact stm_53 H s n p a A cap d w hd hs h
 by_cases c55:k0=55
 · subst c55;exact stm_55 H s n p a A cap d w hd hs h
 by_cases c56:k0=56
 · subst c56;exact stm_56 H s n p a A cap d w hd hs h
 by_cases c57:k0=57
 · subst c57;exact stm_57 H s n p a A cap d w hd hs h
 by_cases c58:k0=58
 · subst c58;exact stm_58 H s n p a A cap d w hd hs h
 by_cases c59:k0=59
 · subst c59;exact stm_59 H s n p a A cap d w hd hs h
 by_cases c60:k0=60
 · subst c60;exact stm_60 H s n p a A cap d w hd hs h
 by_cases c61:k0=61
 · subst c61;exact stm_61 H s n p a A cap d w hd hs h
 refine saidEq (stm_o k0 _ _ d w ω rfl ⟨c50,c51,c52,c53,c55,c56,c57,c58,c59,c60,c61⟩ h) ?_
 show false=stmB (shp k) (.mk k0 s n p a)
 simp[stmB,ndK, *]
theorem q_dcl:ShSaid (k+1) .dcl:=fun cs t d w hd h=>by
 obtain⟨k0,s,n,p,a,A,cap,rfl,rfl,_,hs,_⟩:=nd_form h
 by_cases c2:k0=2
 · subst c2;exact dcl_2 H s n p a A cap d w hd hs h
 by_cases c3:k0=3
 · subst c3;exact dcl_3 H s n p a A cap d w hd hs h
 by_cases c4:k0=4
 · subst c4;exact dcl_4 H s n p a A cap d w hd hs h
 by_cases c5:k0=5
 · subst c5;exact dcl_5 H s n p a A cap d w hd hs h
 by_cases c6:k0=6
 · subst c6;exact dcl_6 H s n p a A cap d w hd hs h
 refine saidEq (dcl_o k0 _ _ d w ω rfl ⟨c2,c3,c4,c5,c6⟩ h) ?_
 show false=dclB (shp k) (.mk k0 s n p a)
 simp[dclB,ndK, *]
theorem q_chg:ShSaid (k+1) .chg:=fun cs t d w hd h=>by
 obtain⟨k0,s,n,p,a,A,cap,rfl,rfl,_,hs,_⟩:=nd_form h
 by_cases c70:k0=70
 · subst c70;exact chg_70 H s n p a A cap d w hd hs h
 by_cases c71:k0=71
 · subst c71;exact chg_71 H s n p a A cap d w hd hs h
 by_cases c72:k0=72
 · subst c72;exact chg_72 H s n p a A cap d w hd hs h
 by_cases c73:k0=73
 · subst c73;exact chg_73 H s n p a A cap d w hd hs h
 by_cases c74:k0=74
 · subst c74;exact chg_74 H s n p a A cap d w hd hs h
 refine saidEq (chg_o k0 _ _ d w ω rfl ⟨c70,c71,c72,c73,c74⟩ h) ?_
 show false=cngB (shp k) (.mk k0 s n p a)
 simp[cngB,ndK, *]
end
theorem q_zero (s:Sh) (hs:s.pl=true):ShSaid 0 s:=fun cs t d w hd h=>by
 show Calls _ _ _ _ (EqSaid false w)
 cases s with
 | typ=>exact typ_z cs t d w hd h
 | fld=>exact fld_z cs t d w hd h
 | ctor=>exact ctor_z cs t d w hd h
 | mem=>exact mem_z cs t d w hd h
 | exp=>exact exp_z cs t d w hd h
 | set=>exact set_z cs t d w hd h
 | arm=>exact arm_z cs t d w hd h
 | blk=>exact blk_z cs t d w hd h
 | stm=>exact stm_z cs t d w hd h
 | sarm=>exact sarm_z cs t d w hd h
 | snd=>exact snd_z cs t d w hd h
 | ans=>exact ans_z cs t d w hd h
 | dcl=>exact dcl_z cs t d w hd h
 | chg=>exact chg_z cs t d w hd h
 | leaf=>cases hs
theorem allS:∀k,AllS k
 | 0=>fun s hs=>q_zero s hs
 | k+1=>fun s hs=>by
  have H:=allS k
  cases s with
  | typ=>exact q_typ H
  | fld=>exact q_fld H
  | ctor=>exact q_ctor H
  | mem=>exact q_mem H
  | exp=>exact q_exp H
  | set=>exact q_set H
  | arm=>exact q_arm H
  | blk=>exact q_blk H
  | stm=>exact q_stm H
  | sarm=>exact q_sarm H
  | snd=>exact q_snd H
  | ans=>exact q_ans H
  | dcl=>exact q_dcl H
  | chg=>exact q_chg H
  | leaf=>cases hs
end
theorem tright_any (t:Nd) (cs:List Value) (w:À) (h:NdR w (lo w) cs t):Calls prog 38 #[.agg cs.toArray] w (EqSaid (rightB t) w):=by
 have hn:=h
 obtain⟨k0,s,n,p,a,A,cap,rfl,rfl,_,hs,ha⟩:=nd_form h
 have lm:a.length≤9223372036854775807:=ha.len.2
 obtain⟨HN,HA⟩:=zd2 hn ha
 have HDc:Hid (∀(cs:List Value) (t:Nd) (X:À),NdR X (lo X) cs t→Calls prog 63 #[.agg cs.toArray,.int .i64 1] X (EqSaid (shp 40 .dcl t) X)):=fun cs t X hX=>allS 40 .dcl rfl cs t 1 X rfl hX
 have HCh:Hid (∀(cs:List Value) (t:Nd) (X:À),NdR X (lo X) cs t→Calls prog 64 #[.agg cs.toArray,.int .i64 1] X (EqSaid (shp 40 .chg t) X)):=fun cs t X hX=>allS 40 .chg rfl cs t 1 X rfl hX
 obtain⟨W1,hW1,B0,Y0,x0,x1,x2,x3,x4⟩:=nb5 w k0 s n p A a.length cap
 obtain⟨tot,hV⟩:∃z,rightB (.mk k0 s n p a)=z:=⟨_,rfl⟩
 rw[hV]
 obtain⟨q2,h2⟩:∃q,bareB (.mk k0 s n p a)=q:=⟨_,rfl⟩
 have HQ:Hid (tot=((k0==1)&&q2&&a.all fun x=>shp 40 .dcl x||shp 40 .chg x)):=by show _=_;rw[←hV,←h2];rfl
 have H2:=η h2
 clear h ha hn hs hV h2
 go_in
 go_upto_region 1 with fail
 rw[←hW1.o]
 clear hW1
 by_cases c1:k0=1
 · have v1:(k0 != 1)=false:=by simpa using c1
   have HQ1:Hid (tot=(q2&&a.all fun x=>shp 40 .dcl x||shp 40 .chg x)):=HQ.o.trans (by rw[beq_iff_eq.2 c1,Bool.true_and])
   replace c1:=η c1
   go_wp2_with fail
   cases q2 with
   | false =>
    refine (saidEq (bare_any _ _ _ (NdR.to HN.o (sub_lo B0.o))) H2.o).mono ?_
    rintro _ Z1 ⟨rfl,hb1⟩
    go_wp2
    go_ret
    exact⟨by rw[HQ1.o];rfl,bel B0.o hb1⟩
   | true =>
    have HV:Hid (tot=a.all fun x=>shp 40 .dcl x||shp 40 .chg x):=HQ1.o.trans (Bool.true_and _)
    refine (saidEq (bare_any _ _ _ (NdR.to HN.o (sub_lo B0.o))) H2.o).mono ?_
    rintro _ Z1 ⟨rfl,hb1⟩
    have B1:=η (bel B0.o hb1)
    have y4:Z1.cell? ⟨w.heap.size,4,none⟩=some (.slice A a.length cap):=(hs_bel Y0.o hb1).c 4
    clear hb1 x0 x1 x2 x3 x4
    go_wp2_with fail
    clear y4
    go_loopw [16] (fun i wr=>∃(j:Nat),j≤a.length∧i=.int .i64 j∧Hid (tot=(a.drop j).all fun x=>shp 40 .dcl x||shp 40 .chg x)∧Hid (Below w.heap.size w wr)) (fun i _=>a.length-(intOf i).toNat)
    case atStart=>exact⟨0,by omega,rfl,HV.o,B1.o⟩
    case round =>
     obtain⟨j,hj,rfl,HQ3,HB⟩:=hrel
     by_cases hlt:j<a.length
     · have u1:decide ((j:Int)<(a.length:Int))=true:=decide_eq_true ω
       have HAT:=η (HQ3.o.trans (all_at hlt))
       obtain⟨b,off,k1,s1,m1,p1,D1,l1,c1',rfl,hg,hr1,e0,e1,e2,e3,e4⟩:=nds_at (NdsR.to HA.o (sub_lo HB.o)) hlt
       have HR:=η hr1
       have j0:(0:Int)≤(j:Int):=by omega
       have j1:(j:Int)<(a.length:Int):=by omega
       obtain⟨W2,hW2⟩:∃q,Hid (q=wr.alloc (.cells (cl k1 s1 m1 p1 D1 l1 c1').toArray 83)):=⟨_,rfl⟩
       have B2:Hid (Below wr.heap.size wr W2):=by show Below _ _ _;rw[hW2.o];exact belA (belR _) _
       have BX2:Hid (Hs W2 wr.heap.size 83 (cl k1 s1 m1 p1 D1 l1 c1').toArray):=by show Hs _ _ _ _;rw[hW2.o];exact Hs.new _ _ _
       clear hr1 hg HQ3
       go_upto_region 6 with fail
       rw[←hW2.o]
       clear hW2 e0 e1 e2 e3 e4
       obtain⟨qa,ha⟩:∃q,shp 40 .dcl a[j]=q:=⟨_,rfl⟩
       obtain⟨qb,hb⟩:∃q,shp 40 .chg a[j]=q:=⟨_,rfl⟩
       have HD2:Hid (tot=((qa||qb)&&(a.drop (j+1)).all fun x=>shp 40 .dcl x||shp 40 .chg x)):=HAT.o.trans (by rw[ha,hb])
       obtain⟨HqA,HqB⟩:=zd2 ha hb
       clear ha hb
       obtain⟨f0,f1,f2,f3,f4⟩:=cf5 BX2.o
       go_wp2_with fail
       refine (saidEq (HDc.o (cl k1 s1 m1 p1 D1 l1 c1') _ W2 (HR.o.to (sub_lo B2.o))) HqA.o).mono ?_
       rintro _ X3 ⟨rfl,hb3⟩
       obtain⟨B3,Y3⟩:=zd2 hb3 (hs_bel BX2.o hb3)
       clear hb3 f0 f1 f2 f3 f4
       cases qa with
       | true =>
        have HE:Hid (tot=(a.drop (j+1)).all fun x=>shp 40 .dcl x||shp 40 .chg x):=HD2.o.trans (by rw[Bool.true_or,Bool.true_and])
        go_wp2_with fail
        exact⟨⟨j+1,by omega,by go_num,HE.o,bel (bel HB.o B2.o) B3.o⟩,by simp[intOf];omega⟩
       | false =>
        obtain⟨f0,f1,f2,f3,f4⟩:=cf5 Y3.o
        go_wp2_with fail
        refine (saidEq (HCh.o (cl k1 s1 m1 p1 D1 l1 c1') _ X3 (HR.o.to (sub_lo (bel B2.o B3.o)))) HqB.o).mono ?_
        rintro _ X4 ⟨rfl,hb4⟩
        have B4:=η (bel (bel (bel HB.o B2.o) B3.o) hb4)
        clear hb4 f0 f1 f2 f3 f4
        cases qb with
        | true =>
         have HE:Hid (tot=(a.drop (j+1)).all fun x=>shp 40 .dcl x||shp 40 .chg x):=HD2.o.trans (by rw[Bool.or_true,Bool.true_and])
         go_wp2_with fail
         exact⟨⟨j+1,by omega,by go_num,HE.o,B4.o⟩,by simp[intOf];omega⟩
        | false =>
         have HE:Hid (tot=false):=HD2.o.trans (by rw[Bool.or_false,Bool.false_and])
         go_wp2
         go_ret
         exact⟨by rw[HE.o];rfl,B4.o⟩
     · have u1:decide ((j:Int)<(a.length:Int))=false:=decide_eq_false ω
       have HE:Hid (tot=true):=by show _=_;rw[HQ3.o,List.drop_eq_nil_of_le ω,List.all_nil]
       go_wp2
       go_ret
       exact⟨by rw[HE.o];rfl,HB.o⟩
 · have v1:(k0 != 1)=true:=by simpa using c1
   have HE:Hid (tot=false):=HQ.o.trans (by rw[beq_eq_false_iff_ne.2 c1];rfl)
   replace c1:=η c1
   go_wp2
   go_ret
   exact⟨by rw[HE.o];rfl,B0.o⟩
end Go.Proofs.YtbmknjfgjphfbaaGreatDoor
