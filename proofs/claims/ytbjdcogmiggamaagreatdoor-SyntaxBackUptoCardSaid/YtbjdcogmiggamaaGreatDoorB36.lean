import Derived.Test.YtbjdcogmiggamaaGreatDoorB32
import Derived.Test.YtbjdcogmiggamaaGreatDoorB35
set_option linter.all false
namespace Go.Proofs.YtbjdcogmiggamaaGreatDoor
open Proofs.Tryz RowKit Maps WideMaps ChangeMaps
set_option maxRecDepth 100000
set_option maxHeartbeats 8000000
section
section
variable {k:Nat} (H:AllS k)
include H
theorem q_fld:ShSaid (k+1) .fld:=fun cs t d w hd h=>by
 obtain⟨k0,s,n,p,a,A,cap,rfl,rfl,_,hs,_⟩:=nd_form h
 exact fld_s H k0 s n p a A cap d w hd hs h
theorem q_ctor:ShSaid (k+1) .ctor:=fun cs t d w hd h=>by
 obtain⟨k0,s,n,p,a,A,cap,rfl,rfl,_,hs,_⟩:=nd_form h
 exact ctor_s H k0 s n p a A cap d w hd hs h
theorem q_set:ShSaid (k+1) .set:=fun cs t d w hd h=>by
 obtain⟨k0,s,n,p,a,A,cap,rfl,rfl,_,hs,_⟩:=nd_form h
 exact set_s H k0 s n p a A cap d w hd hs h
theorem q_ans:ShSaid (k+1) .ans:=fun cs t d w hd h=>by
 obtain⟨k0,s,n,p,a,A,cap,rfl,rfl,_,hs,_⟩:=nd_form h
 exact ans_s H k0 s n p a A cap d w hd hs h
theorem q_blk:ShSaid (k+1) .blk:=fun cs t d w hd h=>by
 obtain⟨k0,s,n,p,a,A,cap,rfl,rfl,_,hs,_⟩:=nd_form h
 exact blk_s H k0 s n p a A cap d w hd hs h
theorem q_snd:ShSaid (k+1) .snd:=fun cs t d w hd h=>by
 obtain⟨k0,s,n,p,a,A,cap,rfl,rfl,_,hs,_⟩:=nd_form h
 exact snd_s H k0 s n p a A cap d w hd hs h
theorem q_arm:ShSaid (k+1) .arm:=fun cs t d w hd h=>by
 obtain⟨k0,s,n,p,a,A,cap,rfl,rfl,_,hs,_⟩:=nd_form h
 exact arm_s H k0 s n p a A cap d w hd hs h
theorem q_sarm:ShSaid (k+1) .sarm:=fun cs t d w hd h=>by
 obtain⟨k0,s,n,p,a,A,cap,rfl,rfl,_,hs,_⟩:=nd_form h
 exact sarm_s H k0 s n p a A cap d w hd hs h
theorem q_typ:ShSaid (k+1) .typ:=fun cs t d w hd h=>by
 obtain⟨k0,s,n,p,a,A,cap,rfl,rfl,_,hs,_⟩:=nd_form h
 by_cases c1:k0=12
 · subst c1;exact typ_12 H s n p a A cap d w hd hs h
 by_cases c2:k0=13
 · subst c2;exact typ_13 H s n p a A cap d w hd hs h
 by_cases c3:k0=14
 · subst c3;exact typ_14 H s n p a A cap d w hd hs h
 by_cases c4:k0=15
 · subst c4;exact typ_15 H s n p a A cap d w hd hs h
 refine saidEq (typ_o k0 _ _ d w ω rfl ⟨c1,c2,c3,c4⟩ h) ?_
 show false=typeB (shp k) (.mk k0 s n p a)
 simp[typeB,ndK,c1,c2,c3,c4]
theorem q_mem:ShSaid (k+1) .mem:=fun cs t d w hd h=>by
 obtain⟨k0,s,n,p,a,A,cap,rfl,rfl,_,hs,_⟩:=nd_form h
 by_cases c1:k0=9
 · subst c1;exact mem_9 H s n p a A cap d w hd hs h
 refine saidEq (mem_o H k0 s n p a A cap d w hd c1 hs h) ?_
 show _=(if k0=9 then _ else _)
 rw[if_neg c1];rfl
theorem q_exp:ShSaid (k+1) .exp:=fun cs t d w hd h=>by
 obtain⟨k0,s,n,p,a,A,cap,rfl,rfl,_,hs,_⟩:=nd_form h
 by_cases c20:k0=20
 · subst c20;exact exp_20 H s n p a A cap d w hd hs h
 by_cases c21:k0=21
 · subst c21;exact exp_21 H s n p a A cap d w hd hs h
 by_cases c22:k0=22
 · subst c22;exact exp_22 H s n p a A cap d w hd hs h
 by_cases c23:k0=23
 · subst c23;exact exp_23 H s n p a A cap d w hd hs h
 by_cases c24:k0=24
 · subst c24;exact exp_24 H s n p a A cap d w hd hs h
 by_cases c25:k0=25
 · subst c25;exact exp_25 H s n p a A cap d w hd hs h
 by_cases c26:k0=26
 · subst c26;exact exp_26 H s n p a A cap d w hd hs h
 by_cases c27:k0=27
 · subst c27;exact exp_27 H s n p a A cap d w hd hs h
 by_cases c29:k0=29
 · subst c29;exact exp_29 H s n p a A cap d w hd hs h
 by_cases c30:k0=30
 · subst c30;exact exp_30 H s n p a A cap d w hd hs h
 by_cases c31:k0=31
 · subst c31;exact exp_31 H s n p a A cap d w hd hs h
 by_cases c32:k0=32
 · subst c32;exact exp_32 H s n p a A cap d w hd hs h
 by_cases c33:k0=33
 · subst c33;exact exp_33 H s n p a A cap d w hd hs h
 by_cases c34:k0=34
 · subst c34;exact exp_34 H s n p a A cap d w hd hs h
 by_cases c35:k0=35
 · subst c35;exact exp_35 H s n p a A cap d w hd hs h
 by_cases c36:k0=36
 · subst c36;exact exp_36 H s n p a A cap d w hd hs h
 by_cases c37:k0=37
 · subst c37;exact exp_37 H s n p a A cap d w hd hs h
 by_cases c38:k0=38
 · subst c38;exact exp_38 H s n p a A cap d w hd hs h
 by_cases c41:k0=41
 · subst c41;exact exp_41 H s n p a A cap d w hd hs h
 refine saidEq (exp_o k0 _ _ d w ω rfl ⟨c20,c21,c22,c23,c24,c25,c26,c27,c29,c30,c31,c32,c33,c34,c35,c36,c37,c38,c41⟩ h) ?_
 show false=expB (shp k) (.mk k0 s n p a)
 simp[expB,ndK, *]
theorem q_stm:ShSaid (k+1) .stm:=fun cs t d w hd h=>by
 obtain⟨k0,s,n,p,a,A,cap,rfl,rfl,_,hs,_⟩:=nd_form h
 by_cases c50:k0=50
 · subst c50;exact stm_50 H s n p a A cap d w hd hs h
 by_cases c51:k0=51
 · subst c51;exact stm_51 H s n p a A cap d w hd hs h
 by_cases c52:k0=52
 · subst c52;exact stm_52 H s n p a A cap d w hd hs h
 by_cases c53:k0=53
 · subst c53;exact stm_53 H s n p a A cap d w hd hs h
 by_cases c55:k0=55
 · subst c55;exact stm_55 H s n p a A cap d w hd hs h
 by_cases c56:k0=56
 · subst c56;exact stm_56 H s n p a A cap d w hd hs h
 by_cases c57:k0=57
 · subst c57;exact stm_57 H s n p a A cap d w hd hs h
 by_cases c58:k0=58
 · subst c58;exact stm_58 H s n p a A cap d w hd hs h
 by_cases c59:k0=59
 · subst c59;exact stm_59 H s n p a A cap d w hd hs h
 by_cases c60:k0=60
 · subst c60;exact stm_60 H s n p a A cap d w hd hs h
 by_cases c61:k0=61
 · subst c61;exact stm_61 H s n p a A cap d w hd hs h
 refine saidEq (stm_o k0 _ _ d w ω rfl ⟨c50,c51,c52,c53,c55,c56,c57,c58,c59,c60,c61⟩ h) ?_
 show false=stmB (shp k) (.mk k0 s n p a)
 simp[stmB,ndK, *]
theorem q_dcl:ShSaid (k+1) .dcl:=fun cs t d w hd h=>by
 obtain⟨k0,s,n,p,a,A,cap,rfl,rfl,_,hs,_⟩:=nd_form h
 by_cases c2:k0=2
 · subst c2;exact dcl_2 H s n p a A cap d w hd hs h
 by_cases c3:k0=3
 · subst c3;exact dcl_3 H s n p a A cap d w hd hs h
 by_cases c4:k0=4
 · subst c4;exact dcl_4 H s n p a A cap d w hd hs h
 by_cases c5:k0=5
 · subst c5;exact dcl_5 H s n p a A cap d w hd hs h
 by_cases c6:k0=6
 · subst c6;exact dcl_6 H s n p a A cap d w hd hs h
 refine saidEq (dcl_o k0 _ _ d w ω rfl ⟨c2,c3,c4,c5,c6⟩ h) ?_
 show false=dclB (shp k) (.mk k0 s n p a)
 simp[dclB,ndK, *]
theorem q_chg:ShSaid (k+1) .chg:=fun cs t d w hd h=>by
 obtain⟨k0,s,n,p,a,A,cap,rfl,rfl,_,hs,_⟩:=nd_form h
 by_cases c70:k0=70
 · subst c70;exact chg_70 H s n p a A cap d w hd hs h
 by_cases c71:k0=71
 · subst c71;exact chg_71 H s n p a A cap d w hd hs h
 by_cases c72:k0=72
 · subst c72;exact chg_72 H s n p a A cap d w hd hs h
 by_cases c73:k0=73
 · subst c73;exact chg_73 H s n p a A cap d w hd hs h
 by_cases c74:k0=74
 · subst c74;exact chg_74 H s n p a A cap d w hd hs h
 refine saidEq (chg_o k0 _ _ d w ω rfl ⟨c70,c71,c72,c73,c74⟩ h) ?_
 show false=cngB (shp k) (.mk k0 s n p a)
 simp[cngB,ndK, *]
end
theorem q_zero (s:Sh) (hs:s.pl=true):ShSaid 0 s:=fun cs t d w hd h=>by
 show Calls _ _ _ _ (EqSaid false w)
 cases s with
 | typ=>exact typ_z cs t d w hd h
 | fld=>exact fld_z cs t d w hd h
 | ctor=>exact ctor_z cs t d w hd h
 | mem=>exact mem_z cs t d w hd h
 | exp=>exact exp_z cs t d w hd h
 | set=>exact set_z cs t d w hd h
 | arm=>exact arm_z cs t d w hd h
 | blk=>exact blk_z cs t d w hd h
 | stm=>exact stm_z cs t d w hd h
 | sarm=>exact sarm_z cs t d w hd h
 | snd=>exact snd_z cs t d w hd h
 | ans=>exact ans_z cs t d w hd h
 | dcl=>exact dcl_z cs t d w hd h
 | chg=>exact chg_z cs t d w hd h
 | leaf=>cases hs
theorem allS:∀k,AllS k
 | 0=>fun s hs=>q_zero s hs
 | k+1=>fun s hs=>by
  have H:=allS k
  cases s with
  | typ=>exact q_typ H
  | fld=>exact q_fld H
  | ctor=>exact q_ctor H
  | mem=>exact q_mem H
  | exp=>exact q_exp H
  | set=>exact q_set H
  | arm=>exact q_arm H
  | blk=>exact q_blk H
  | stm=>exact q_stm H
  | sarm=>exact q_sarm H
  | snd=>exact q_snd H
  | ans=>exact q_ans H
  | dcl=>exact q_dcl H
  | chg=>exact q_chg H
  | leaf=>cases hs
end
theorem tright_any (t:Nd) (cs:List Value) (w:À) (h:NdR w (lo w) cs t):Calls prog 12 #[.agg cs.toArray] w (EqSaid (rightB t) w):=by
 have hn:=h
 obtain⟨k0,s,n,p,a,A,cap,rfl,rfl,_,hs,ha⟩:=nd_form h
 have lm:a.length≤9223372036854775807:=ha.len.2
 obtain⟨HN,HA⟩:=zd2 hn ha
 have HDc:Hid (∀(cs:List Value) (t:Nd) (X:À),NdR X (lo X) cs t→Calls prog 28 #[.agg cs.toArray,.int .i64 1] X (EqSaid (shp 40 .dcl t) X)):=fun cs t X hX=>allS 40 .dcl rfl cs t 1 X rfl hX
 have HCh:Hid (∀(cs:List Value) (t:Nd) (X:À),NdR X (lo X) cs t→Calls prog 29 #[.agg cs.toArray,.int .i64 1] X (EqSaid (shp 40 .chg t) X)):=fun cs t X hX=>allS 40 .chg rfl cs t 1 X rfl hX
 obtain⟨W1,hW1,B0,Y0,x0,x1,x2,x3,x4⟩:=nb5 w k0 s n p A a.length cap
 obtain⟨tot,hV⟩:∃z,rightB (.mk k0 s n p a)=z:=⟨_,rfl⟩
 rw[hV]
 obtain⟨q2,h2⟩:∃q,bareB (.mk k0 s n p a)=q:=⟨_,rfl⟩
 have HQ:Hid (tot=((k0==1)&&q2&&a.all fun x=>shp 40 .dcl x||shp 40 .chg x)):=by show _=_;rw[←hV,←h2];rfl
 have H2:=η h2
 clear h ha hn hs hV h2
 go_in
 go_upto_region 1 with fail
 rw[←hW1.o]
 clear hW1
 by_cases c1:k0=1
 · have v1:(k0 != 1)=false:=by simpa using c1
   have HQ1:Hid (tot=(q2&&a.all fun x=>shp 40 .dcl x||shp 40 .chg x)):=HQ.o.trans (by rw[beq_iff_eq.2 c1,Bool.true_and])
   replace c1:=η c1
   go_wp2_with fail
   cases q2 with
   | false =>
    refine (saidEq (bare_any _ _ _ (NdR.to HN.o (sub_lo B0.o))) H2.o).mono ?_
    rintro _ Z1 ⟨rfl,hb1⟩
    go_wp2
    go_ret
    exact⟨by rw[HQ1.o];rfl,bel B0.o hb1⟩
   | true =>
    have HV:Hid (tot=a.all fun x=>shp 40 .dcl x||shp 40 .chg x):=HQ1.o.trans (Bool.true_and _)
    refine (saidEq (bare_any _ _ _ (NdR.to HN.o (sub_lo B0.o))) H2.o).mono ?_
    rintro _ Z1 ⟨rfl,hb1⟩
    have B1:=η (bel B0.o hb1)
    have y4:Z1.cell? ⟨w.heap.size,4,none⟩=some (.slice A a.length cap):=(hs_bel Y0.o hb1).c 4
    clear hb1 x0 x1 x2 x3 x4
    go_wp2_with fail
    clear y4
    go_loopw [16] (fun i wr=>∃(j:Nat),j≤a.length∧i=.int .i64 j∧Hid (tot=(a.drop j).all fun x=>shp 40 .dcl x||shp 40 .chg x)∧Hid (Below w.heap.size w wr)) (fun i _=>a.length-(intOf i).toNat)
    case atStart=>exact⟨0,by omega,rfl,HV.o,B1.o⟩
    case round =>
     obtain⟨j,hj,rfl,HQ3,HB⟩:=hrel
     by_cases hlt:j<a.length
     · have u1:decide ((j:Int)<(a.length:Int))=true:=decide_eq_true ω
       have HAT:=η (HQ3.o.trans (all_at hlt))
       obtain⟨b,off,k1,s1,m1,p1,D1,l1,c1',rfl,hg,hr1,e0,e1,e2,e3,e4⟩:=nds_at (NdsR.to HA.o (sub_lo HB.o)) hlt
       have HR:=η hr1
       have j0:(0:Int)≤(j:Int):=by omega
       have j1:(j:Int)<(a.length:Int):=by omega
       obtain⟨W2,hW2⟩:∃q,Hid (q=wr.alloc (.cells (cl k1 s1 m1 p1 D1 l1 c1').toArray 24)):=⟨_,rfl⟩
       have B2:Hid (Below wr.heap.size wr W2):=by show Below _ _ _;rw[hW2.o];exact belA (belR _) _
       have BX2:Hid (Hs W2 wr.heap.size 24 (cl k1 s1 m1 p1 D1 l1 c1').toArray):=by show Hs _ _ _ _;rw[hW2.o];exact Hs.new _ _ _
       clear hr1 hg HQ3
       go_upto_region 6 with fail
       rw[←hW2.o]
       clear hW2 e0 e1 e2 e3 e4
       obtain⟨qa,ha⟩:∃q,shp 40 .dcl a[j]=q:=⟨_,rfl⟩
       obtain⟨qb,hb⟩:∃q,shp 40 .chg a[j]=q:=⟨_,rfl⟩
       have HD2:Hid (tot=((qa||qb)&&(a.drop (j+1)).all fun x=>shp 40 .dcl x||shp 40 .chg x)):=HAT.o.trans (by rw[ha,hb])
       obtain⟨HqA,HqB⟩:=zd2 ha hb
       clear ha hb
       obtain⟨f0,f1,f2,f3,f4⟩:=cf5 BX2.o
       go_wp2_with fail
       refine (saidEq (HDc.o (cl k1 s1 m1 p1 D1 l1 c1') _ W2 (HR.o.to (sub_lo B2.o))) HqA.o).mono ?_
       rintro _ X3 ⟨rfl,hb3⟩
       obtain⟨B3,Y3⟩:=zd2 hb3 (hs_bel BX2.o hb3)
       clear hb3 f0 f1 f2 f3 f4
       cases qa with
       | true =>
        have HE:Hid (tot=(a.drop (j+1)).all fun x=>shp 40 .dcl x||shp 40 .chg x):=HD2.o.trans (by rw[Bool.true_or,Bool.true_and])
        go_wp2_with fail
        exact⟨⟨j+1,by omega,by go_num,HE.o,bel (bel HB.o B2.o) B3.o⟩,by simp[intOf];omega⟩
       | false =>
        obtain⟨f0,f1,f2,f3,f4⟩:=cf5 Y3.o
        go_wp2_with fail
        refine (saidEq (HCh.o (cl k1 s1 m1 p1 D1 l1 c1') _ X3 (HR.o.to (sub_lo (bel B2.o B3.o)))) HqB.o).mono ?_
        rintro _ X4 ⟨rfl,hb4⟩
        have B4:=η (bel (bel (bel HB.o B2.o) B3.o) hb4)
        clear hb4 f0 f1 f2 f3 f4
        cases qb with
        | true =>
         have HE:Hid (tot=(a.drop (j+1)).all fun x=>shp 40 .dcl x||shp 40 .chg x):=HD2.o.trans (by rw[Bool.or_true,Bool.true_and])
         go_wp2_with fail
         exact⟨⟨j+1,by omega,by go_num,HE.o,B4.o⟩,by simp[intOf];omega⟩
        | false =>
         have HE:Hid (tot=false):=HD2.o.trans (by rw[Bool.or_false,Bool.false_and])
         go_wp2
         go_ret
         exact⟨by rw[HE.o];rfl,B4.o⟩
     · have u1:decide ((j:Int)<(a.length:Int))=false:=decide_eq_false ω
       have HE:Hid (tot=true):=by show _=_;rw[HQ3.o,List.drop_eq_nil_of_le ω,List.all_nil]
       go_wp2
       go_ret
       exact⟨by rw[HE.o];rfl,HB.o⟩
 · have v1:(k0 != 1)=true:=by simpa using c1
   have HE:Hid (tot=false):=HQ.o.trans (by rw[beq_eq_false_iff_ne.2 c1];rfl)
   replace c1:=η c1
   go_wp2
   go_ret
   exact⟨by rw[HE.o];rfl,B0.o⟩
def tkv (t:Tk):List Value:=[.int .i64 t.kind,.string t.text,.int .i64 t.n,.int .i64 t.pos]
def wOwn (wb:Nat) (w:À) (k:Nat):Prop:=k=wb∨∃v,w.cell? ⟨wb,0,none⟩=some v∧v.ownBlock=some k
structure Wr (wb mb:Nat) (ts:List Tk) (w:À):Prop where
 row:∃v,Hs w wb 54 #[v,.map (some mb)]∧w.ownsRow 0 42 4 v ts.length (ts.flatMap tkv)∧v.ownBlock≠some wb∧v.ownBlock≠some mb
 lev:∃n,MapIs prog 9 Lit.string w mb n levF
 ne:wb≠mb
structure WrC (wb:Nat) (w w':À):Prop where
 st:Stp (wOwn wb w) w w'
 ow:∀k,wOwn wb w' k→wOwn wb w k∨w.heap.size≤k
theorem WrC.refl (wb:Nat) (w:À):WrC wb w w:=⟨Stp.refl _ _,fun _ h=>.inl h⟩
theorem WrC.trans {wb:Nat} {a b c:À} (h:WrC wb a b) (k:WrC wb b c):WrC wb a c:=by
 refine⟨⟨k.st.os.trans h.st.os,k.st.tape.trans h.st.tape,k.st.output.trans h.st.output,Nat.le_trans h.st.size k.st.size,fun i hi ho=>?_⟩,fun i hi=>?_⟩
 · refine (k.st.block i (Nat.lt_of_lt_of_le hi h.st.size) (fun e=>?_)).trans (h.st.block i hi ho)
   rcases h.ow i e with x|x
   · exact ho x
   · omega
 · rcases k.ow i hi with x|x
   · exact h.ow i x
   · exact .inr (Nat.le_trans h.st.size x)
theorem Wr.lt {wb mb:Nat} {ts:List Tk} {w:À} (h:Wr wb mb ts w):wb<w.heap.size:=by obtain⟨v,hb,_⟩:=h.row;exact hb.lt
theorem own_bel {wb:Nat} {w w':À} (hb:Below w.heap.size w w') (hw:wb<w.heap.size) (k:Nat):wOwn wb w' k↔wOwn wb w k:=by
 unfold wOwn
 rw[hb.cell (p:=⟨wb,0,none⟩) hw]
theorem WrC.bel {wb:Nat} {w w':À} (hb:Below w.heap.size w w') (hw:wb<w.heap.size):WrC wb w w':=⟨Stp.of_below hb,fun k hk=>.inl ((own_bel hb hw k).1 hk)⟩
theorem Wr.own_lt {wb mb:Nat} {ts:List Tk} {w:À} (h:Wr wb mb ts w) (k:Nat) (hk:wOwn wb w k):k<w.heap.size:=by
 rcases hk with rfl|⟨v,h1,h2⟩
 · exact h.lt
 · obtain⟨v',hb,ho,_⟩:=h.row
   have e:w.cell? ⟨wb,0,none⟩=some v':=hb.c 0
   rw[e] at h1;injection h1 with h1;subst h1
   exact (ho.lt k h2).2
theorem Wr.bel {wb mb:Nat} {ts:List Tk} {w w':À} (h:Wr wb mb ts w) (hb:Below w.heap.size w w'):Wr wb mb ts w':=by
 obtain⟨v,h1,h2,h3⟩:=h.row
 obtain⟨n,hm⟩:=h.lev
 exact⟨⟨v,hs_bel h1 hb,row_stp h2 (Stp.of_below (own:=fun _=>False) hb) (fun _ _ e=>e),h3⟩,⟨n,hm.below hb hm.lt⟩,h.ne⟩
theorem WrC.sub {wb:Nat} {w w':À} (h:WrC wb w w'):Sub (im (wOwn wb w) w) (im (wOwn wb w') w') w w':=fun k hk =>
 ⟨⟨Nat.lt_of_lt_of_le hk.1 h.st.size,fun e=>by rcases h.ow k e with x|x;exact hk.2 x;have:=hk.1;omega⟩,h.st.block k hk.1 hk.2⟩
theorem WrC.hs {wb g:Nat} {t:TypeId} {cs:Array Value} {w w':À} (h:WrC wb w w') (hg:Hs w g t cs) (hn:¬wOwn wb w g):Hs w' g t cs∧¬wOwn wb w' g:=
 ⟨hs_stp hg h.st hn,fun e=>by rcases h.ow g e with x|x;exact hn x;have:=hg.lt;omega⟩
theorem Wr.push {wb mb:Nat} {ts:List Tk} {w w5:À} {v v5:Value} {t:Tk} {ob:Obj} (hb:Hs w wb 54 #[v,.map (some mb)]) (hv1:v.ownBlock≠some wb) (hv2:v.ownBlock≠some mb) (lev:∃n,MapIs prog 9 Lit.string w mb n levF) (ne:wb≠mb)
 (hg:(w.alloc ob).grownBy w5 v.ownBlock) (hvb:v5.ownBlock=v.ownBlock∨v5.ownBlock=some (w.alloc ob).heap.size) (hown:w5.ownsRow 0 42 4 v5 (ts.length+1) (ts.flatMap tkv++tkv t)) :
 Wr wb mb (ts++[t]) (w5.setCell ⟨wb,0,none⟩ v5)∧WrC wb w (w5.setCell ⟨wb,0,none⟩ v5):=by
 have hz:=hg.size
 have hs1:(w.alloc ob).heap.size=w.heap.size+1:=by simp
 have hwl:=hb.lt
 have al:∀k,k<w.heap.size→(w.alloc ob).heap[k]?=w.heap[k]?:=fun k hk=>(belA (belR w) ob).block k hk
 have same:∀k,k<w.heap.size→v.ownBlock≠some k→w5.heap[k]?=w.heap[k]?:=fun k hk hn=>(hg.block k ω (fun e=>hn e.symm)).trans (al k hk)
 have hb5:Hs w5 wb 54 #[v,.map (some mb)]:=(same wb hwl hv1).trans hb
 have hp:Hs (w5.setCell ⟨wb,0,none⟩ v5) wb 54 #[v5,.map (some mb)]:=hs_put hb5
 have n1:v5.ownBlock≠some wb:=fun e=>by
  rcases hvb with x|x
  · exact hv1 (x▸e)
  · rw[e] at x;injection x with x;omega
 obtain⟨n,hm⟩:=lev
 have hml:=hm.lt
 have n2:v5.ownBlock≠some mb:=fun e=>by
  rcases hvb with x|x
  · exact hv2 (x▸e)
  · rw[e] at x;injection x with x;omega
 have st5:Stp (only wb) w5 (w5.setCell ⟨wb,0,none⟩ v5):=⟨rfl,rfl,rfl,by rw[size_set];exact Nat.le_refl _,fun k hk hn=>Below.heap_setCell _ _ _ _ (fun e=>hn (by unfold only;simpa using e))⟩
 have m5:(w5.setCell ⟨wb,0,none⟩ v5).heap[mb]?=w.heap[mb]?:=(Below.heap_setCell _ _ _ _ (fun e=>ne (by simpa using e.symm))).trans (same mb hml hv2)
 refine⟨⟨⟨v5,hp,?_,n1,n2⟩,⟨n,hm.same m5⟩,ne⟩,⟨⟨hg.os,hg.tape,hg.output,by rw[size_set];omega,fun k hk hn=>?_⟩,fun k hk=>?_⟩⟩
 · have e1:(ts++[t]).length=ts.length+1:=by simp
   have e2:(ts++[t]).flatMap tkv=ts.flatMap tkv++tkv t:=by simp
   rw[e1,e2]
   exact row_stp hown st5 (fun b e h=>n1 (by unfold only at h;rw[←h];exact e))
 · have k1:k≠wb:=fun e=>hn (.inl e)
   have k2:v.ownBlock≠some k:=fun e=>hn (.inr ⟨v,hb.c 0,e⟩)
   exact (Below.heap_setCell _ _ _ _ (fun e=>k1 (by simpa using e))).trans (same k hk k2)
 · rcases hk with e|⟨u,h1,h2⟩
   · exact .inl (.inl e)
   · have e:(w5.setCell ⟨wb,0,none⟩ v5).cell? ⟨wb,0,none⟩=some v5:=hp.c 0
     rw[e] at h1;injection h1 with h1;subst h1
     rcases hvb with x|x
     · exact .inl (.inr ⟨v,hb.c 0,x▸h2⟩)
     · rw[h2] at x;injection x with x;exact .inr ω
def wTop:Nat:=1000000000
def WrSaid (wb mb:Nat) (ts:List Tk) (w:À) (e:Ending) (w':À):Prop:=e=.returned (.tuple #[])∧Wr wb mb ts w'∧WrC wb w w'
abbrev StrsR (w:À) (P:Nat→Prop) (v:Value) (ss:List Ê):Prop:=SlR w P 1 (fun cs s=>cs=[.string s]) v ss
theorem strs_at {w:À} {P:Nat→Prop} {A:Option Addr} {n cap:Nat} {q:List Ê} (h:StrsR w P (.slice A n cap) q) {i:Nat} (hi:i<q.length):∃g off,A=some ⟨g,off,none⟩∧P g∧w.cell? ⟨g,off+i,none⟩=some (.string q[i]):=by
 obtain⟨g,off,cs,hA,hg,hr,_,hc⟩:=SlR.at h hi
 subst hr
 have:=hc 0 _ rfl
 rw[Nat.mul_one] at this
 exact⟨g,off,hA,hg,this⟩
theorem strs_new (X:À) (q:List Ê) (hl:q.length≤maxLen):StrsR (X.alloc (.cells (q.map Value.string).toArray 9)) (lo (X.alloc (.cells (q.map Value.string).toArray 9))) (.slice (some ⟨X.heap.size,0,none⟩) q.length q.length) q:=by
 refine⟨_,_,fun i=>[(q.map Value.string).getD i undef],rfl,⟨hl,Nat.le_refl _⟩,fun _=>⟨X.heap.size,0,rfl,(Hs.new X 9 _).lt,fun i hi=>⟨rfl,fun j u hu=>?_⟩⟩,fun i hi=>?_⟩
 · cases j with
   | succ j=>simp at hu
   | zero =>
    simp only[List.getElem?_cons_zero,Option.some.injEq] at hu
    rw[Hs.cell (Hs.new X 9 _)]
    subst hu
    simp[hi]
 · simp[hi]
theorem letF_at {s:Ê} (h:0<s.size):letF s=letC s[0]:=by
 obtain⟨t,e⟩:=word_cons h
 unfold letF
 rw[e]
theorem lele (m n:Nat):decide ((m:Int)≤(n:Int))=decide (m≤n):=by
 by_cases h:m≤n
 · rw[decide_eq_true h,decide_eq_true ω]
 · rw[decide_eq_false h,decide_eq_false ω]
theorem grown_box {w w5:À} {wb:Nat} {t:TypeId} {cs:Array Value} {v:Value} {ob:Obj} (hb:Hs w wb t cs) (hv:v.ownBlock≠some wb) (hg:(w.alloc ob).grownBy w5 v.ownBlock):Hs w5 wb t cs:=
 (hg.block wb (by have:=hb.lt;simp;omega) (fun e=>hv e.symm)).trans (hs_al hb ob)
def wSt (wb mb:Nat) (ts:List Tk) (w0 w:À):Prop:=Wr wb mb ts w∧WrC wb w0 w
theorem words_any (ss:List Ê) {wb mb:Nat} {ts:List Tk} {w:À} (h:Wr wb mb ts w) (A:Option Addr) (cap:Nat) (hs:StrsR w (im (wOwn wb w) w) (.slice A ss.length cap) ss) (hne:∀s∈ss,0<s.size∧s.size≤maxLen) (hl:ts.length+ss.length≤wTop) :
 Calls prog 67 #[.pointer (some ⟨wb,0,none⟩),.slice A ss.length cap] w (WrSaid wb mb (ts++ss.map wdT) w):=by
 obtain⟨io,hio,hiz,his,hib⟩:=info_parts info_42
 have HIO:=η (And.intro hio (And.intro hiz (And.intro his hib)))
 have lm:ss.length≤9223372036854775807:=hs.len.2
 obtain⟨HS,HNE,HLN,H0⟩:=zd4 hs hne hl h
 clear h hs hne hl hio hiz his hib
 go_in
 go_wp2_with fail
 go_loopw [10] (fun i wr=>∃(j:Nat),j≤ss.length∧i=.int .i64 j∧Hid (wSt wb mb (ts++(ss.take j).map wdT) w wr)) (fun i _=>ss.length-(intOf i).toNat)
 case atStart=>exact⟨0,by omega,rfl,by rw[List.take_zero,List.map_nil,List.append_nil];exact H0.o,WrC.refl _ _⟩
 case round =>
  obtain⟨j,hj,rfl,HQ⟩:=hrel
  by_cases hlt:j<ss.length
  · have u1:decide ((j:Int)<(ss.length:Int))=true:=decide_eq_true ω
    obtain⟨b,off,rfl,hg,e0⟩:=strs_at (SlR.to' HS.o HQ.o.2.sub fun _ _ x=>x) hlt
    have hn:=HNE.o _ (List.getElem_mem hlt)
    obtain⟨s,HSE⟩:∃s,Hid (s=ss[j]):=⟨ss[j],η rfl⟩
    rw[←HSE.o] at e0 hn
    have E9:Hid (ts++(ss.take (j+1)).map wdT=(ts++(ss.take j).map wdT)++[wdT s]):=by
     show _=_
     rw[List.take_succ_eq_append_getElem hlt,List.map_append,HSE.o,List.append_assoc];rfl
    have hsz:0<s.size:=hn.1
    have sm:s.size≤9223372036854775807:=hn.2
    have HLF:=η (letF_at hsz)
    have j0:(0:Int)≤(j:Int):=by omega
    have j1:(j:Int)<(ss.length:Int):=by omega
    have s1:(0:Int)<(s.size:Int):=by omega
    have HTJ:Hid ((ts++(ss.take j).map wdT).length<wTop):=by
     show _<_
     have:=HLN.o
     rw[List.length_append,List.length_map,List.length_take]
     omega
    clear HSE hn
    generalize ts++(ss.take j).map wdT=tj at *
    obtain⟨v,hb,ho,hv1,hv2⟩:=HQ.o.1.row
    obtain⟨Ar,cr,rfl⟩:=row_form ho
    obtain⟨HB,HO,HV⟩:=zd3 hb ho (And.intro hv1 hv2)
    have HWC:=η HQ.o.2;have HLV:=η HQ.o.1.lev;have HNW:=η HQ.o.1.ne
    have HWL:=η HQ.o.1.lt
    clear hb ho hv1 hv2
    have y0:wr.cell? ⟨wb,0,none⟩=some (.slice Ar tj.length cr):=HB.o.c 0
    have f0:wr.frozen? ⟨wb,0,none⟩=false:=HB.o.free 0
    go_upto_region 5 with fail
    obtain⟨c,hc⟩:∃c,c=s[0].toNat:=⟨_,rfl⟩
    have HK:Hid (letC s[0]=((decide (97≤c)&&decide (c≤122))||(decide (65≤c)&&decide (c≤90)))):=by show _=_;unfold letC;rw[hc]
    rw[←hc]
    clear hc
    obtain⟨qa,ha⟩:∃q,decide (97≤c)=q:=⟨_,rfl⟩
    obtain⟨qb,hb⟩:∃q,decide (c≤122)=q:=⟨_,rfl⟩
    obtain⟨qc,hc⟩:∃q,decide (65≤c)=q:=⟨_,rfl⟩
    obtain⟨qd,hd⟩:∃q,decide (c≤90)=q:=⟨_,rfl⟩
    have ha2:decide ((97:Int)≤(c:Int))=qa:=(lele 97 c).trans ha
    have hb2:decide ((c:Int)≤122)=qb:=(lele c 122).trans hb
    have hc2:decide ((65:Int)≤(c:Int))=qc:=(lele 65 c).trans hc
    have hd2:decide ((c:Int)≤90)=qd:=(lele c 90).trans hd
    have HKK:Hid (letF s=((qa&&qb)||(qc&&qd))):=by show _=_;rw[HLF.o,HK.o,ha,hb,hc,hd]
    have main:((qa=true∧qb=true)∨((qa=false∨(qa=true∧qb=false))∧qc=true∧qd=true))∨((qa=false∨(qa=true∧qb=false))∧(qc=false∨(qc=true∧qd=false))):=by
     cases qa<;>cases qb<;>cases qc<;>cases qd<;>simp
    rcases main with (⟨rfl,rfl⟩|⟨rfl|⟨rfl,rfl⟩,rfl,rfl⟩)|⟨rfl|⟨rfl,rfl⟩,rfl|⟨rfl,rfl⟩⟩
    case inl.inl|inl.inr.inl|inl.inr.inr =>
     have HT:Hid (wdT s=⟨1,s,0,0⟩):=by show _=_;unfold wdT;rw[HKK.o];simp
     clear hc
     go_wp2_with (first|(at_builtin;refine wpList_append_own_at _ rfl (.tmp 34) (.tmp 38) 28 rfl 0 42 io _ 4 40 underlying28 HIO.o.1 HIO.o.2.1 HIO.o.2.2.1 HIO.o.2.2.2 rfl π (.slice Ar tj.length cr) tj.length (tj.flatMap tkv) rfl (row_al HO.o _) ⟨wr.heap.size,0,none⟩ 1 1 (tkv ⟨1,s,0,0⟩) rfl rfl (World.news_of_block (Hs.new _ _ _)) (by intro u hu;simp[tkv] at hu;repeat (first|(subst hu;rfl)|(rcases hu with rfl|hu;rfl))) (by have:=HTJ.o;unfold wTop at this;unfold maxLen;omega) (by have:=HTJ.o;unfold wTop at this;omega) (Nat.zero_le _) ?_;intro vv w7 hown hgrow hnil hvb;obtain⟨A6,c6,rfl⟩:=row_form hown;have hb7:=grown_box HB.o HV.o.1 hgrow;have f7:w7.frozen? ⟨wb,0,none⟩=false:=hb7.free 0;have y7:w7.cell? ⟨wb,0,none⟩=some (.slice Ar tj.length cr):=hb7.c 0))
     obtain⟨h1,h2⟩:=Wr.push HB.o HV.o.1 HV.o.2 HLV.o HNW.o hgrow hvb hown
     exact⟨⟨j+1,by omega,by go_num,by rw[E9.o,HT.o];exact⟨h1,HWC.o.trans h2⟩⟩,by simp[intOf];omega⟩
    all_goals
     have HT:Hid (wdT s=⟨4,s,0,0⟩):=by show _=_;unfold wdT;rw[HKK.o];simp
     clear hc
     go_wp2_with (first|(at_builtin;refine wpList_append_own_at _ rfl (.tmp 34) (.tmp 38) 28 rfl 0 42 io _ 4 40 underlying28 HIO.o.1 HIO.o.2.1 HIO.o.2.2.1 HIO.o.2.2.2 rfl π (.slice Ar tj.length cr) tj.length (tj.flatMap tkv) rfl (row_al HO.o _) ⟨wr.heap.size,0,none⟩ 1 1 (tkv ⟨4,s,0,0⟩) rfl rfl (World.news_of_block (Hs.new _ _ _)) (by intro u hu;simp[tkv] at hu;repeat (first|(subst hu;rfl)|(rcases hu with rfl|hu;rfl))) (by have:=HTJ.o;unfold wTop at this;unfold maxLen;omega) (by have:=HTJ.o;unfold wTop at this;omega) (Nat.zero_le _) ?_;intro vv w7 hown hgrow hnil hvb;obtain⟨A6,c6,rfl⟩:=row_form hown;have hb7:=grown_box HB.o HV.o.1 hgrow;have f7:w7.frozen? ⟨wb,0,none⟩=false:=hb7.free 0;have y7:w7.cell? ⟨wb,0,none⟩=some (.slice Ar tj.length cr):=hb7.c 0))
     obtain⟨h1,h2⟩:=Wr.push HB.o HV.o.1 HV.o.2 HLV.o HNW.o hgrow hvb hown
     exact⟨⟨j+1,by omega,by go_num,by rw[E9.o,HT.o];exact⟨h1,HWC.o.trans h2⟩⟩,by simp[intOf];omega⟩
  · have u1:decide ((j:Int)<(ss.length:Int))=false:=decide_eq_false ω
    have HE:Hid (ts++(ss.take j).map wdT=ts++ss.map wdT):=by show _=_;rw[List.take_of_length_le ω]
    go_wp2_with fail
    first|go_end0|refine bodyPost_ret (results_none rfl _ _ _) rfl ?_
    exact⟨rfl,by rw[←HE.o];exact HQ.o.1,HQ.o.2⟩
theorem WrSaid.up {wb mb:Nat} {ts:List Tk} {w X:À} {F:FuncId} {args:Array Value} {W:À} (h:Calls prog F args W (WrSaid wb mb ts X)) (hc:WrC wb w X):Calls prog F args W (WrSaid wb mb ts w):=h.mono (by rintro e w' ⟨h1,h2,h3⟩;exact⟨h1,h2,hc.trans h3⟩)
theorem words_call (ss:List Ê) {wb mb:Nat} {ts:List Tk} {X:À} (h:Wr wb mb ts X) (hne:∀s∈ss,0<s.size∧s.size≤maxLen) (hl:ts.length+(ss.map wdT).length≤wTop) :
 Calls prog 67 #[.pointer (some ⟨wb,0,none⟩),.slice (some ⟨X.heap.size,0,none⟩) ss.length ss.length] (X.alloc (.cells (ss.map Value.string).toArray 9)) (WrSaid wb mb (ts++ss.map wdT) X):=by
 rw[List.length_map] at hl
 have hb:Below X.heap.size X (X.alloc (.cells (ss.map Value.string).toArray 9)):=belA (belR _) _
 refine WrSaid.up (words_any ss (h.bel hb) _ _ ?_ hne hl) (WrC.bel hb h.lt)
 have hs:=strs_new X ss (by unfold wTop at hl;unfold maxLen;omega)
 have hrow:∀k,lo (X.alloc (.cells (ss.map Value.string).toArray 9)) k→k=X.heap.size→im (wOwn wb (X.alloc (.cells (ss.map Value.string).toArray 9))) (X.alloc (.cells (ss.map Value.string).toArray 9)) k:=fun k h1 h2=>⟨h1,fun e=>by
  have:=h.own_lt k ((own_bel hb h.lt k).1 e)
  omega⟩
 obtain⟨A,cap,css,e,hl2,hr,hk⟩:=hs
 refine⟨A,cap,css,e,hl2,fun hn=>?_,hk⟩
 obtain⟨g,off,hA,hg,hc⟩:=hr hn
 injection e with e1 e2 e3
 rw[←e1] at hA
 have hA2:=hA
 injection hA with hA
 injection hA with hg2 _
 exact⟨g,off,by rw[←e1];exact hA2,hrow g hg hg2.symm,hc⟩
theorem integer_any (n:Int) {wb mb:Nat} {ts:List Tk} {w:À} (h:Wr wb mb ts w) (hl:ts.length+1≤wTop):Calls prog 74 #[.pointer (some ⟨wb,0,none⟩),.int .i64 n] w (WrSaid wb mb (ts++[inT n]) w):=by
 obtain⟨io,hio,hiz,his,hib⟩:=info_parts info_42
 have HIO:=η (And.intro hio (And.intro hiz (And.intro his hib)))
 obtain⟨v,hb,ho,hv1,hv2⟩:=h.row
 obtain⟨Ar,cr,rfl⟩:=row_form ho
 obtain⟨HB,HO,HTJ,HV⟩:=zd4 hb ho hl (And.intro hv1 hv2)
 have HLV:=η h.lev;have HNW:=η h.ne
 have y0:w.cell? ⟨wb,0,none⟩=some (.slice Ar ts.length cr):=HB.o.c 0
 clear hb ho hv1 hv2 h hl hio hiz his hib
 go_in
 go_wp2_with (first|(at_builtin;refine wpList_append_own_at _ rfl (.tmp 8) (.tmp 11) 28 rfl 0 42 io _ 4 40 underlying28 HIO.o.1 HIO.o.2.1 HIO.o.2.2.1 HIO.o.2.2.2 rfl π (.slice Ar ts.length cr) ts.length (ts.flatMap tkv) rfl (row_al HO.o _) ⟨w.heap.size,0,none⟩ 1 1 (tkv (inT n)) rfl rfl (World.news_of_block (Hs.new _ _ _)) (by intro u hu;simp[tkv,inT] at hu;repeat (first|(subst hu;rfl)|(rcases hu with rfl|hu;rfl))) (by have:=HTJ.o;unfold wTop at this;unfold maxLen;omega) (by have:=HTJ.o;unfold wTop at this;omega) (Nat.zero_le _) ?_;intro vv w7 hown hgrow hnil hvb;obtain⟨A6,c6,rfl⟩:=row_form hown;have hb7:=grown_box HB.o HV.o.1 hgrow;have f7:w7.frozen? ⟨wb,0,none⟩=false:=hb7.free 0;have y7:w7.cell? ⟨wb,0,none⟩=some (.slice Ar ts.length cr):=hb7.c 0))
 obtain⟨h1,h2⟩:=Wr.push HB.o HV.o.1 HV.o.2 HLV.o HNW.o hgrow hvb hown
 first|go_end0|refine bodyPost_ret (results_none rfl _ _ _) rfl ?_
 exact⟨rfl,h1,h2⟩
def EachS (wb mb:Nat) (F:FuncId) (c1 c2:Array Value) (l:List Nd) (out:Nd→List Tk) (w:À):Prop:=
 Ent F∧∀(i:Nat) (h:i<l.length) (X:À) (cs:List Value) (ts:List Tk),WrC wb w X→Wr wb mb ts X→NdR X (im (wOwn wb X) X) cs l[i]→ts.length+(out l[i]).length≤wTop→Calls prog F (c1++#[.agg cs.toArray]++c2) X (WrSaid wb mb (ts++out l[i]) X)
theorem join_snoc:∀(l:List (List Tk)) (x:List Tk),l≠[]→joinT (l++[x])=joinT l++wT [44]::x
 | [],_,h=>absurd rfl h
 | [a],x,_=>rfl
 | a::b::l,x,_=>by
  have:=join_snoc (b::l) x (by simp)
  show a++wT [44]::joinT (b::(l++[x]))=_
  rw[show b::(l++[x])=(b::l)++[x] from rfl,this]
  show _=(a++wT [44]::joinT (b::l))++_
  simp
theorem join_take {l:List (List Tk)} {j:Nat} (h:j<l.length) (h0:0<j):joinT (l.take (j+1))=joinT (l.take j)++wT [44]::l[j]:=by
 rw[List.take_succ_eq_append_getElem h,join_snoc]
 intro e
 have:=congrArg List.length e
 rw[List.length_take,List.length_nil] at this
 omega
theorem join_le (l:List (List Tk)):∀j,(joinT (l.take j)).length≤(joinT l).length:=by
 have key:∀(a b:List (List Tk)),(joinT a).length≤(joinT (a++b)).length:=by
  intro a
  induction a with
  | nil=>intro b;exact Nat.zero_le _
  | cons x a ih =>
   intro b
   cases a with
   | nil =>
    cases b with
    | nil=>exact Nat.le_refl _
    | cons y b=>show x.length≤(x++wT [44]::joinT (y::b)).length;simp
   | cons y a =>
    have:=ih b
    show (x++wT [44]::joinT (y::a)).length≤(x++wT [44]::joinT ((y::a)++b)).length
    simp only[List.length_append,List.length_cons] at this ⊢
    omega
 intro j
 have:=key (l.take j) (l.drop j)
 rw[List.take_append_drop] at this
 exact this
theorem list_any {F:FuncId} {c1 c2:Array Value} {out:Nd→List Tk} (oa ob:Ê) (l:List Nd) (A:Option Addr) (cap:Nat) {wb mb:Nat} {ts:List Tk} {w:À} (h:Wr wb mb ts w) (hoa:0<oa.size∧oa.size≤maxLen) (hob:0<ob.size∧ob.size≤maxLen) (hl:NdsR w (im (wOwn wb w) w) (.slice A l.length cap) l) (hE:EachS wb mb F c1 c2 l out w)
 (hz:ts.length+(wdT oa::(joinT (l.map out)++[wdT ob])).length≤wTop) :
 Calls prog 68 #[.pointer (some ⟨wb,0,none⟩),.string oa,.slice A l.length cap,.string ob,.func (.func F) c1 c2] w (WrSaid wb mb (ts++wdT oa::(joinT (l.map out)++[wdT ob])) w):=by
 have lm:l.length≤9223372036854775807:=hl.len.2
 obtain⟨H0,HL,HE⟩:=zd3 h hl hE
 have hcf:=hE.1
 unfold Ent at hcf
 obtain⟨HA,HB⟩:=zd2 hoa hob
 have HZ:Hid (ts.length+1+(joinT (l.map out)).length+1≤wTop):=by
  show _≤_
  simp only[List.length_cons,List.length_append,List.length_nil] at hz
  omega
 clear h hl hE hoa hob hz
 go_in
 go_wp2_with fail
 refine (words_call [oa] H0.o (by intro s hs;rw[List.mem_singleton] at hs;rw[hs];exact HA.o) (by have:=HZ.o;simp;omega)).mono ?_
 rintro _ W1 ⟨rfl,hT,hC⟩
 obtain⟨T1,C1⟩:=zd2 hT hC
 clear hT hC
 go_wp2_with fail
 go_loopw [18] (fun i wr=>∃(j:Nat),j≤l.length∧i=.int .i64 j∧Hid (WrC wb w wr)∧Hid (Wr wb mb (ts++wdT oa::joinT ((l.map out).take j)) wr)) (fun i _=>l.length-(intOf i).toNat)
 case atStart=>exact⟨0,by omega,rfl,C1.o,by rw[List.take_zero];exact T1.o⟩
 case round =>
  obtain⟨j,hj,rfl,HC,HT⟩:=hrel
  by_cases hlt:j<l.length
  · have u1:decide ((j:Int)<(l.length:Int))=true:=decide_eq_true ω
    obtain⟨b,off,k1,s1,m1,p1,D1,l1,c1',rfl,hg,hr1,e0,e1,e2,e3,e4⟩:=nds_at (NdsR.to HL.o HC.o.sub) hlt
    have HR:=η hr1
    have j0:(0:Int)≤(j:Int):=by omega
    have j1:(j:Int)<(l.length:Int):=by omega
    obtain⟨W2,hW2⟩:∃q,Hid (q=wr.alloc (.cells (cl k1 s1 m1 p1 D1 l1 c1').toArray 24)):=⟨_,rfl⟩
    have B2:Hid (Below wr.heap.size wr W2):=by show Below _ _ _;rw[hW2.o];exact belA (belR _) _
    have X2:Hid (Hs W2 wr.heap.size 24 (cl k1 s1 m1 p1 D1 l1 c1').toArray):=by show Hs _ _ _ _;rw[hW2.o];exact Hs.new _ _ _
    have N2:Hid (¬wOwn wb W2 wr.heap.size):=fun e=>by have:=HT.o.own_lt _ ((own_bel B2.o HT.o.lt _).1 e);omega
    obtain⟨T2,C2,R2⟩:=zd3 (HT.o.bel B2.o) (HC.o.trans (WrC.bel B2.o HT.o.lt)) (HR.o.to (WrC.bel B2.o HT.o.lt).sub)
    have hlm:j<(l.map out).length:=by rw[List.length_map];exact hlt
    have ej:(l.map out)[j]=out l[j]:=by simp
    have hle:=join_le (l.map out) (j+1)
    clear hr1 hg
    go_upto_region 4 with fail
    rw[←hW2.o]
    clear hW2 e0 e1 e2 e3 e4
    by_cases h0:j=0
    · have u2:decide ((0:Int)<(j:Int))=false:=decide_eq_false ω
      have u3:decide (0<j)=false:=decide_eq_false ω
      have HJ:Hid (joinT ((l.map out).take (j+1))=out l[j]∧joinT ((l.map out).take j)=[]):=by
       subst h0
       rw[List.take_succ_eq_append_getElem hlm,List.take_zero]
       exact⟨ej,rfl⟩
      have HLE:Hid ((out l[j]).length≤(joinT (l.map out)).length):=by rw[HJ.o.1] at hle;exact hle
      replace h0:=η h0
      clear hle ej
      obtain⟨f0,f1,f2,f3,f4⟩:=cf5 X2.o
      go_wp2_with fail
      refine (HE.o.2 j hlt W2 (cl k1 s1 m1 p1 D1 l1 c1') _ C2.o T2.o R2.o (by have h1:=HLE.o;have h2:=HZ.o;rw[HJ.o.2];simp;omega)).mono ?_
      rintro _ W3 ⟨rfl,hT,hC⟩
      obtain⟨T3,C3⟩:=zd2 hT hC
      clear hT hC f0 f1 f2 f3 f4
      go_wp2_with fail
      exact⟨⟨j+1,by omega,by go_num,C2.o.trans C3.o,by have h1:=T3.o;rw[HJ.o.2] at h1;rw[HJ.o.1];exact η (by simpa using h1)⟩,by simp[intOf];omega⟩
    · have u2:decide ((0:Int)<(j:Int))=true:=decide_eq_true ω
      have u3:decide (0<j)=true:=decide_eq_true ω
      have HJ:Hid (joinT ((l.map out).take (j+1))=joinT ((l.map out).take j)++wT [44]::out l[j]):=by
       show _=_
       rw[join_take hlm ω,ej]
      have HLE:Hid ((joinT ((l.map out).take j)).length+1+(out l[j]).length≤(joinT (l.map out)).length):=by
       show _≤_
       rw[HJ.o] at hle
       simp only[List.length_append,List.length_cons] at hle
       omega
      replace h0:=η h0
      clear hle ej
      go_wp2_with fail
      refine (words_call [str [44]] T2.o (by intro s hs;rw[List.mem_singleton] at hs;rw[hs];exact⟨by decide,by decide⟩) (by have h1:=HLE.o;have h2:=HZ.o;simp;omega)).mono ?_
      rintro _ W4 ⟨rfl,hT,hC⟩
      obtain⟨T4,C4,R4⟩:=zd3 hT (C2.o.trans hC) (R2.o.to hC.sub)
      have X4:=η (hC.hs X2.o N2.o).1
      clear hT hC
      obtain⟨f0,f1,f2,f3,f4⟩:=cf5 X4.o
      go_wp2_with fail
      refine (HE.o.2 j hlt W4 (cl k1 s1 m1 p1 D1 l1 c1') _ C4.o T4.o R4.o (by have h1:=HLE.o;have h2:=HZ.o;simp;omega)).mono ?_
      rintro _ W5 ⟨rfl,hT,hC⟩
      obtain⟨T5,C5⟩:=zd2 hT hC
      clear hT hC f0 f1 f2 f3 f4
      go_wp2_with fail
      exact⟨⟨j+1,by omega,by go_num,C4.o.trans C5.o,by have h1:=T5.o;rw[HJ.o];exact η (by simpa[wT] using h1)⟩,by simp[intOf];omega⟩
  · have u1:decide ((j:Int)<(l.length:Int))=false:=decide_eq_false ω
    have HJ:Hid (joinT ((l.map out).take j)=joinT (l.map out)):=by show _=_;rw[List.take_of_length_le (by rw[List.length_map];omega)]
    go_wp2_with fail
    refine (words_call [ob] HT.o (by intro s hs;rw[List.mem_singleton] at hs;rw[hs];exact HB.o) (by have h2:=HZ.o;rw[HJ.o];simp;omega)).mono ?_
    rintro _ W6 ⟨rfl,hT,hC⟩
    obtain⟨T6,C6⟩:=zd2 hT (HC.o.trans hC)
    clear hT hC
    go_wp2_with fail
    first|go_end0|refine bodyPost_ret (results_none rfl _ _ _) rfl ?_
    exact⟨rfl,by have h1:=T6.o;rw[HJ.o] at h1;simpa using h1,C6.o⟩
end Go.Proofs.YtbjdcogmiggamaaGreatDoor
