import Derived.Test.YtbjdcogmiggamaaGreatDoorZ22
set_option linter.all false
namespace Go.Proofs.YtbjdcogmiggamaaGreatDoor
open Proofs.Tryz RowKit Maps WideMaps ChangeMaps
set_option maxRecDepth 100000
set_option maxHeartbeats 8000000
mutual
/-- equal, in plain Lean -/
def eqN:Nd→Nd→Bool
 | .mk k s n p a,.mk k' s' n' p' b=>decide (k=k')&&decide (s=s')&&decide (n=n')&&decide (p=p')&&eqL a b
def eqL:List Nd→List Nd→Bool
 | [],[]=>true
 | x::a,y::b=>eqN x y&&eqL a b
 | _,_=>false
end
theorem eqL_len:∀(a b:List Nd),a.length≠b.length→eqL a b=false
 | [],[],h=>absurd rfl h
 | [],_::_,_=>by rw[eqL]<;>simp
 | _::_,[],_=>by rw[eqL]<;>simp
 | x::a,y::b,h=>by rw[eqL,eqL_len a b (fun e=>h (by simp[e])),Bool.and_false]
theorem eqL_at {a b:List Nd} {j:Nat} (h:j<a.length) (k:j<b.length):eqL (a.drop j) (b.drop j)=(eqN a[j] b[j]&&eqL (a.drop (j+1)) (b.drop (j+1))):=by
 rw[List.drop_eq_getElem_cons h,List.drop_eq_getElem_cons k,eqL]
mutual
theorem eqN_iff:∀(x y:Nd),eqN x y=true↔x=y
 | .mk k s n p a,.mk k' s' n' p' b=>by
  rw[eqN]
  simp only[Bool.and_eq_true,decide_eq_true_eq,Nd.mk.injEq,eqL_iff a b]
  constructor
  · rintro ⟨⟨⟨⟨h1,h2⟩,h3⟩,h4⟩,h5⟩;exact⟨h1,h2,h3,h4,h5⟩
  · rintro ⟨h1,h2,h3,h4,h5⟩;exact⟨⟨⟨⟨h1,h2⟩,h3⟩,h4⟩,h5⟩
theorem eqL_iff:∀(a b:List Nd),eqL a b=true↔a=b
 | [],[]=>by rw[eqL];simp
 | [],_::_=>by rw[eqL]<;>simp
 | _::_,[]=>by rw[eqL]<;>simp
 | x::a,y::b=>by rw[eqL,Bool.and_eq_true,eqN_iff x y,eqL_iff a b];simp
end
def EqlS (w:À) (cx cy:Array Value) (X:À):Prop:=Below w.heap.size w X∧Hs X w.heap.size 24 cx∧Hs X (w.heap.size+1) 24 cy
theorem EqlS.bel {w X Y:À} {cx cy:Array Value} (h:EqlS w cx cy X) (k:Below X.heap.size X Y):EqlS w cx cy Y:=⟨Proofs.YtbjdcogmiggamaaGreatDoor.bel h.1 k,hs_bel h.2.1 k,hs_bel h.2.2 k⟩
def EqSaid (o:Bool) (w:À) (e:Ending) (w':À):Prop:=e=.returned (.bool o)∧Below w.heap.size w w'
theorem equal_any (h:Nat):∀(x y:Nd) (cx cy:List Value) (w:À),SizeOf.sizeOf x<h→NdR w (lo w) cx x→NdR w (lo w) cy y→Calls prog 25 #[.agg cx.toArray,.agg cy.toArray] w (EqSaid (eqN x y) w):=by
 induction h with
 | zero=>intro x y cx cy w hz;exact absurd hz (Nat.not_lt_zero _)
 | succ h ih =>
  intro x y cx cy w hz hx hy
  obtain⟨k,s,m,p,a,A,cap,rfl,rfl,_,_,ha⟩:=nd_form hx
  obtain⟨k',s',m',p',b,B,cbp,rfl,rfl,_,_,hb⟩:=nd_form hy
  have IH:Hid (∀(j:Nat) (hj:j<a.length) (y:Nd) (cx cy:List Value) (w:À),NdR w (lo w) cx a[j]→NdR w (lo w) cy y→Calls prog 25 #[.agg cx.toArray,.agg cy.toArray] w (EqSaid (eqN a[j] y) w)):=fun j hj y cx cy w h1 h2=>ih a[j] y cx cy w (by
   have:=List.sizeOf_lt_of_mem (List.getElem_mem hj)
   simp at hz
   omega) h1 h2
  obtain⟨HA,HB⟩:=zd2 ha hb
  have lm:a.length≤9223372036854775807:=ha.len.2
  have ln:b.length≤9223372036854775807:=hb.len.2
  obtain⟨tot,HV⟩:∃q,Hid (eqN (.mk k s m p a) (.mk k' s' m' p' b)=q):=⟨_,rfl⟩
  rw[HV.o]
  have HV0:Hid (tot=(decide (k=k')&&decide (s=s')&&decide (m=m')&&decide (p=p')&&eqL a b)):=HV.o.symm.trans (by rw[eqN])
  obtain⟨W1,hW1⟩:∃q,Hid (q=(w.alloc (.cells (cl k s m p A a.length cap).toArray 24)).alloc (.cells (cl k' s' m' p' B b.length cbp).toArray 24)):=⟨_,rfl⟩
  have B1:Hid (Below w.heap.size w W1):=by show Below _ _ _;rw[hW1.o];exact belA (belA (belR _) _) _
  have X1:Hid (Hs W1 w.heap.size 24 (cl k s m p A a.length cap).toArray):=by show Hs _ _ _ _;rw[hW1.o];exact hs_bel (Hs.new _ _ _) (belA (belR _) _)
  have Y1:Hid (Hs W1 (w.heap.size+1) 24 (cl k' s' m' p' B b.length cbp).toArray):=by show Hs _ _ _ _;rw[hW1.o];have:=Hs.new (w.alloc (.cells (cl k s m p A a.length cap).toArray 24)) 24 (cl k' s' m' p' B b.length cbp).toArray;simpa using this
  obtain⟨x0,x1,x2,x3,x4⟩:=cf5 X1.o
  obtain⟨y0,y1,y2,y3,y4⟩:=cf5 Y1.o
  clear hx hy ha hb hz ih HV
  go_in
  by_cases c1:k=k'
  · have u1:(k != k')=false:=by simpa using c1
    by_cases c2:s=s'
    · have u2:(s.toList==s'.toList)=true:=by rw[c2];simp
      by_cases c3:m=m'
      · have u3:(m != m')=false:=by simpa using c3
        by_cases c4:p=p'
        · have u4:(p != p')=false:=by simpa using c4
          by_cases c5:a.length=b.length
          · have u5:((a.length:Int) != (b.length:Int))=false:=by simp;omega
            have HVE:Hid (tot=eqL a b):=HV0.o.trans (by simp[c1,c2,c3,c4])
            replace c1:=η c1;replace c2:=η c2;replace c3:=η c3;replace c4:=η c4;replace c5:=η c5
            go_upto_region 1 with fail
            rw[←hW1.o]
            clear hW1
            go_upto_region 4 with fail
            clear x0 x1 x2 x3 x4 y0 y1 y2 y3 y4 u1 u2 u3 u4 u5
            go_loopw [5] (fun i wr=>∃(j:Nat),j≤a.length∧i=.int .i64 j∧Hid (tot=eqL (a.drop j) (b.drop j))∧Hid (EqlS w (cl k s m p A a.length cap).toArray (cl k' s' m' p' B b.length cbp).toArray wr)) (fun i _=>a.length-(intOf i).toNat)
            case atStart=>exact⟨0,by omega,rfl,HVE.o,B1.o,X1.o,Y1.o⟩
            case round =>
             obtain⟨j,hj,rfl,HQ,HS0⟩:=hrel
             by_cases hlt:j<a.length
             · have hlb:j<b.length:=by have:=c5.o;omega
               have u1:decide ((j:Int)<(a.length:Int))=true:=decide_eq_true ω
               have HAT:=η (HQ.o.trans (eqL_at hlt hlb))
               obtain⟨g,off,k1,s1,m1,p1,D1,l1,c1',rfl,hg,hr1,e0,e1,e2,e3,e4⟩:=nds_at HA.o hlt
               obtain⟨g2,off2,k2,s2,m2,p2,D2,l2,c2',rfl,hg2,hr2,f0,f1,f2,f3,f4⟩:=nds_at HB.o hlb
               have E:=η (And.intro e0 (And.intro e1 (And.intro e2 (And.intro e3 e4))))
               have F:=η (And.intro f0 (And.intro f1 (And.intro f2 (And.intro f3 f4))))
               obtain⟨G1,G2,HR1,HR2⟩:=zd4 hg hg2 hr1 hr2
               clear e0 e1 e2 e3 e4 f0 f1 f2 f3 f4 hg hg2 hr1 hr2 HQ
               have x4:=HS0.o.2.1.cell 4
               have j0:(0:Int)≤(j:Int):=by omega
               have j1:(j:Int)<(a.length:Int):=by omega
               have j2:(j:Int)<(b.length:Int):=by omega
               go_upto_region 6 with fail
               clear x4
               refine tkB (fun X=>EqlS w (cl k s m p (some ⟨g,off,none⟩) a.length cap).toArray (cl k' s' m' p' (some ⟨g2,off2,none⟩) b.length cbp).toArray X) (HS0.o.bel (belDr wr)) (fun HS=>?_)
               generalize wr.drew=X0 at HS ⊢
               refine tkQ 0 ?_
               refine tkQ 1 ?_ (hy:=fun X hS=>by have q0:=hS.2.1.cell 4;go_simp;first|done|with_reducible rfl)
               refine tkQ 2 ?_
               refine tkQ 3 ?_
               refine tkQ 4 ?_ (hy:=fun X hS=>by have q0:=(hS.1.cell (p:=⟨g,off+j*5,none⟩) G1.o).trans E.o.1;have q1:=(hS.1.cell (p:=⟨g,off+j*5+1,none⟩) G1.o).trans E.o.2.1;have q2:=(hS.1.cell (p:=⟨g,off+j*5+2,none⟩) G1.o).trans E.o.2.2.1;have q3:=(hS.1.cell (p:=⟨g,off+j*5+3,none⟩) G1.o).trans E.o.2.2.2.1;have q4:=(hS.1.cell (p:=⟨g,off+j*5+4,none⟩) G1.o).trans E.o.2.2.2.2;go_simp;first|done|with_reducible rfl)
               refine tkQ 5 ?_
               refine tkQ 6 ?_ (hy:=fun X hS=>by have q0:=hS.2.2.cell 4;go_simp;first|done|with_reducible rfl)
               refine tkQ 7 ?_
               refine tkQ 8 ?_
               refine tkQ 9 ?_ (hy:=fun X hS=>by have q0:=(hS.1.cell (p:=⟨g2,off2+j*5,none⟩) G2.o).trans F.o.1;have q1:=(hS.1.cell (p:=⟨g2,off2+j*5+1,none⟩) G2.o).trans F.o.2.1;have q2:=(hS.1.cell (p:=⟨g2,off2+j*5+2,none⟩) G2.o).trans F.o.2.2.1;have q3:=(hS.1.cell (p:=⟨g2,off2+j*5+3,none⟩) G2.o).trans F.o.2.2.2.1;have q4:=(hS.1.cell (p:=⟨g2,off2+j*5+4,none⟩) G2.o).trans F.o.2.2.2.2;go_simp;first|done|with_reducible rfl)
               refine tkE 10 (fun K hK=>?_)
               go_simp
               cases hq:eqN a[j] b[j] with
               | false =>
                have HD:=η (HAT.o.trans (by rw[hq]))
                refine (IH.o j hlt _ (cl k1 s1 m1 p1 D1 l1 c1') (cl k2 s2 m2 p2 D2 l2 c2') X0 (NdR.to HR1.o (sub_lo HS.1)) (NdR.to HR2.o (sub_lo HS.1))).mono ?_
                rw[hq]
                rintro _ X1' ⟨rfl,hb1⟩
                have HS:=EqlS.bel HS hb1
                clear hb1
                refine tkR hK HS (fun _=>?_)
                clear hK K
                refine tkQ 11 ?_
                refine tkD ?_
                have HS:=η HS
                go_wp2
                go_ret
                rw[HD.o]
                exact⟨rfl,HS.o.1⟩
               | true =>
                have HD:=η (HAT.o.trans (by rw[hq]))
                refine (IH.o j hlt _ (cl k1 s1 m1 p1 D1 l1 c1') (cl k2 s2 m2 p2 D2 l2 c2') X0 (NdR.to HR1.o (sub_lo HS.1)) (NdR.to HR2.o (sub_lo HS.1))).mono ?_
                rw[hq]
                rintro _ X1' ⟨rfl,hb1⟩
                have HS:=EqlS.bel HS hb1
                clear hb1
                refine tkR hK HS (fun _=>?_)
                clear hK K
                refine tkQ 11 ?_
                refine tkD ?_
                have HS:=η HS
                go_wp2_with fail
                exact⟨⟨j+1,by omega,by go_num,HD.o,HS.o⟩,by simp[intOf];omega⟩
             · have u1:decide ((j:Int)<(a.length:Int))=false:=decide_eq_false ω
               have x4:=HS0.o.2.1.cell 4
               have HE:Hid (tot=true):=by show _=_;rw[HQ.o,List.drop_eq_nil_of_le ω,List.drop_eq_nil_of_le (by have:=c5.o;omega),eqL]
               go_wp2
               go_ret
               rw[HE.o]
               exact⟨rfl,HS0.o.1⟩
          · have u5:((a.length:Int) != (b.length:Int))=true:=by simp;omega
            have HVF:Hid (tot=false):=HV0.o.trans (by rw[eqL_len a b c5,Bool.and_false])
            replace c1:=η c1;replace c2:=η c2;replace c3:=η c3;replace c4:=η c4;replace c5:=η c5
            go_upto_region 1 with fail
            rw[←hW1.o]
            go_wp2
            go_ret
            rw[HVF.o]
            exact⟨rfl,B1.o⟩
        · have u4:(p != p')=true:=by simpa using c4
          have HVF:Hid (tot=false):=HV0.o.trans (by simp[c4])
          replace c1:=η c1;replace c2:=η c2;replace c3:=η c3;replace c4:=η c4
          go_upto_region 1 with fail
          rw[←hW1.o]
          go_wp2
          go_ret
          rw[HVF.o]
          exact⟨rfl,B1.o⟩
      · have u3:(m != m')=true:=by simpa using c3
        have HVF:Hid (tot=false):=HV0.o.trans (by simp[c3])
        replace c1:=η c1;replace c2:=η c2;replace c3:=η c3
        go_upto_region 1 with fail
        rw[←hW1.o]
        go_wp2
        go_ret
        rw[HVF.o]
        exact⟨rfl,B1.o⟩
    · have u2:(s.toList==s'.toList)=false:=by rw[ByteArray.toList_eq,ByteArray.toList_eq,beq_eq_false_iff_ne];exact fun e=>c2 (ByteArray.ext (Array.toList_inj.1 e))
      have HVF:Hid (tot=false):=HV0.o.trans (by simp[c2])
      replace c1:=η c1;replace c2:=η c2
      go_upto_region 1 with fail
      rw[←hW1.o]
      go_wp2
      go_ret
      rw[HVF.o]
      exact⟨rfl,B1.o⟩
  · have u1:(k != k')=true:=by simpa using c1
    have HVF:Hid (tot=false):=HV0.o.trans (by simp[c1])
    replace c1:=η c1
    go_upto_region 1 with fail
    rw[←hW1.o]
    go_wp2
    go_ret
    rw[HVF.o]
    exact⟨rfl,B1.o⟩
mutual
/-- the same but for offsets, in plain Lean -/
def smN:Nd→Nd→Bool
 | .mk k s n _ a,.mk k' s' n' _ b=>decide (k=k')&&decide (s=s')&&decide (n=n')&&smL a b
def smL:List Nd→List Nd→Bool
 | [],[]=>true
 | x::a,y::b=>smN x y&&smL a b
 | _,_=>false
end
theorem smL_len:∀(a b:List Nd),a.length≠b.length→smL a b=false
 | [],[],h=>absurd rfl h
 | [],_::_,_=>by rw[smL]<;>simp
 | _::_,[],_=>by rw[smL]<;>simp
 | x::a,y::b,h=>by rw[smL,smL_len a b (fun e=>h (by simp[e])),Bool.and_false]
theorem smL_at {a b:List Nd} {j:Nat} (h:j<a.length) (k:j<b.length):smL (a.drop j) (b.drop j)=(smN a[j] b[j]&&smL (a.drop (j+1)) (b.drop (j+1))):=by
 rw[List.drop_eq_getElem_cons h,List.drop_eq_getElem_cons k,smL]
theorem same_any (h:Nat):∀(x y:Nd) (cx cy:List Value) (w:À),SizeOf.sizeOf x<h→NdR w (lo w) cx x→NdR w (lo w) cy y→Calls prog 19 #[.agg cx.toArray,.agg cy.toArray] w (EqSaid (smN x y) w):=by
 induction h with
 | zero=>intro x y cx cy w hz;exact absurd hz (Nat.not_lt_zero _)
 | succ h ih =>
  intro x y cx cy w hz hx hy
  obtain⟨k,s,m,p,a,A,cap,rfl,rfl,_,_,ha⟩:=nd_form hx
  obtain⟨k',s',m',p',b,B,cbp,rfl,rfl,_,_,hb⟩:=nd_form hy
  have IH:Hid (∀(j:Nat) (hj:j<a.length) (y:Nd) (cx cy:List Value) (w:À),NdR w (lo w) cx a[j]→NdR w (lo w) cy y→Calls prog 19 #[.agg cx.toArray,.agg cy.toArray] w (EqSaid (smN a[j] y) w)):=fun j hj y cx cy w h1 h2=>ih a[j] y cx cy w (by
   have:=List.sizeOf_lt_of_mem (List.getElem_mem hj)
   simp at hz
   omega) h1 h2
  obtain⟨HA,HB⟩:=zd2 ha hb
  have lm:a.length≤9223372036854775807:=ha.len.2
  have ln:b.length≤9223372036854775807:=hb.len.2
  obtain⟨tot,HV⟩:∃q,Hid (smN (.mk k s m p a) (.mk k' s' m' p' b)=q):=⟨_,rfl⟩
  rw[HV.o]
  have HV0:Hid (tot=(decide (k=k')&&decide (s=s')&&decide (m=m')&&smL a b)):=HV.o.symm.trans (by rw[smN])
  obtain⟨W1,hW1⟩:∃q,Hid (q=(w.alloc (.cells (cl k s m p A a.length cap).toArray 24)).alloc (.cells (cl k' s' m' p' B b.length cbp).toArray 24)):=⟨_,rfl⟩
  have B1:Hid (Below w.heap.size w W1):=by show Below _ _ _;rw[hW1.o];exact belA (belA (belR _) _) _
  have X1:Hid (Hs W1 w.heap.size 24 (cl k s m p A a.length cap).toArray):=by show Hs _ _ _ _;rw[hW1.o];exact hs_bel (Hs.new _ _ _) (belA (belR _) _)
  have Y1:Hid (Hs W1 (w.heap.size+1) 24 (cl k' s' m' p' B b.length cbp).toArray):=by show Hs _ _ _ _;rw[hW1.o];have:=Hs.new (w.alloc (.cells (cl k s m p A a.length cap).toArray 24)) 24 (cl k' s' m' p' B b.length cbp).toArray;simpa using this
  obtain⟨x0,x1,x2,x3,x4⟩:=cf5 X1.o
  obtain⟨y0,y1,y2,y3,y4⟩:=cf5 Y1.o
  clear hx hy ha hb hz ih HV
  go_in
  by_cases c1:k=k'
  · have u1:(k != k')=false:=by simpa using c1
    by_cases c2:s=s'
    · have u2:(s.toList==s'.toList)=true:=by rw[c2];simp
      by_cases c3:m=m'
      · have u3:(m != m')=false:=by simpa using c3
        by_cases c5:a.length=b.length
        · have u5:((a.length:Int) != (b.length:Int))=false:=by simp;omega
          have HVE:Hid (tot=smL a b):=HV0.o.trans (by simp[c1,c2,c3])
          replace c1:=η c1;replace c2:=η c2;replace c3:=η c3;replace c5:=η c5
          go_upto_region 1 with fail
          rw[←hW1.o]
          clear hW1
          go_upto_region 4 with fail
          clear x0 x1 x2 x3 x4 y0 y1 y2 y3 y4 u1 u2 u3 u5
          go_loopw [37] (fun i wr=>∃(j:Nat),j≤a.length∧i=.int .i64 j∧Hid (tot=smL (a.drop j) (b.drop j))∧Hid (EqlS w (cl k s m p A a.length cap).toArray (cl k' s' m' p' B b.length cbp).toArray wr)) (fun i _=>a.length-(intOf i).toNat)
          case atStart=>exact⟨0,by omega,rfl,HVE.o,B1.o,X1.o,Y1.o⟩
          case round =>
           obtain⟨j,hj,rfl,HQ,HS0⟩:=hrel
           by_cases hlt:j<a.length
           · have hlb:j<b.length:=by have:=c5.o;omega
             have u1:decide ((j:Int)<(a.length:Int))=true:=decide_eq_true ω
             have HAT:=η (HQ.o.trans (smL_at hlt hlb))
             obtain⟨g,off,k1,s1,m1,p1,D1,l1,c1',rfl,hg,hr1,e0,e1,e2,e3,e4⟩:=nds_at HA.o hlt
             obtain⟨g2,off2,k2,s2,m2,p2,D2,l2,c2',rfl,hg2,hr2,f0,f1,f2,f3,f4⟩:=nds_at HB.o hlb
             have E:=η (And.intro e0 (And.intro e1 (And.intro e2 (And.intro e3 e4))))
             have F:=η (And.intro f0 (And.intro f1 (And.intro f2 (And.intro f3 f4))))
             obtain⟨G1,G2,HR1,HR2⟩:=zd4 hg hg2 hr1 hr2
             clear e0 e1 e2 e3 e4 f0 f1 f2 f3 f4 hg hg2 hr1 hr2 HQ
             have x4:=HS0.o.2.1.cell 4
             have j0:(0:Int)≤(j:Int):=by omega
             have j1:(j:Int)<(a.length:Int):=by omega
             have j2:(j:Int)<(b.length:Int):=by omega
             go_upto_region 6 with fail
             clear x4
             refine tkB (fun X=>EqlS w (cl k s m p (some ⟨g,off,none⟩) a.length cap).toArray (cl k' s' m' p' (some ⟨g2,off2,none⟩) b.length cbp).toArray X) (HS0.o.bel (belDr wr)) (fun HS=>?_)
             generalize wr.drew=X0 at HS ⊢
             refine tkQ 0 ?_
             refine tkQ 1 ?_ (hy:=fun X hS=>by have q0:=hS.2.1.cell 4;go_simp;first|done|with_reducible rfl)
             refine tkQ 2 ?_
             refine tkQ 3 ?_
             refine tkQ 4 ?_ (hy:=fun X hS=>by have q0:=(hS.1.cell (p:=⟨g,off+j*5,none⟩) G1.o).trans E.o.1;have q1:=(hS.1.cell (p:=⟨g,off+j*5+1,none⟩) G1.o).trans E.o.2.1;have q2:=(hS.1.cell (p:=⟨g,off+j*5+2,none⟩) G1.o).trans E.o.2.2.1;have q3:=(hS.1.cell (p:=⟨g,off+j*5+3,none⟩) G1.o).trans E.o.2.2.2.1;have q4:=(hS.1.cell (p:=⟨g,off+j*5+4,none⟩) G1.o).trans E.o.2.2.2.2;go_simp;first|done|with_reducible rfl)
             refine tkQ 5 ?_
             refine tkQ 6 ?_ (hy:=fun X hS=>by have q0:=hS.2.2.cell 4;go_simp;first|done|with_reducible rfl)
             refine tkQ 7 ?_
             refine tkQ 8 ?_
             refine tkQ 9 ?_ (hy:=fun X hS=>by have q0:=(hS.1.cell (p:=⟨g2,off2+j*5,none⟩) G2.o).trans F.o.1;have q1:=(hS.1.cell (p:=⟨g2,off2+j*5+1,none⟩) G2.o).trans F.o.2.1;have q2:=(hS.1.cell (p:=⟨g2,off2+j*5+2,none⟩) G2.o).trans F.o.2.2.1;have q3:=(hS.1.cell (p:=⟨g2,off2+j*5+3,none⟩) G2.o).trans F.o.2.2.2.1;have q4:=(hS.1.cell (p:=⟨g2,off2+j*5+4,none⟩) G2.o).trans F.o.2.2.2.2;go_simp;first|done|with_reducible rfl)
             refine tkE 10 (fun K hK=>?_)
             go_simp
             cases hq:smN a[j] b[j] with
             | false =>
              have HD:=η (HAT.o.trans (by rw[hq]))
              refine (IH.o j hlt _ (cl k1 s1 m1 p1 D1 l1 c1') (cl k2 s2 m2 p2 D2 l2 c2') X0 (NdR.to HR1.o (sub_lo HS.1)) (NdR.to HR2.o (sub_lo HS.1))).mono ?_
              rw[hq]
              rintro _ X1' ⟨rfl,hb1⟩
              have HS:=EqlS.bel HS hb1
              clear hb1
              refine tkR hK HS (fun _=>?_)
              clear hK K
              refine tkQ 11 ?_
              refine tkD ?_
              have HS:=η HS
              go_wp2
              go_ret
              rw[HD.o]
              exact⟨rfl,HS.o.1⟩
             | true =>
              have HD:=η (HAT.o.trans (by rw[hq]))
              refine (IH.o j hlt _ (cl k1 s1 m1 p1 D1 l1 c1') (cl k2 s2 m2 p2 D2 l2 c2') X0 (NdR.to HR1.o (sub_lo HS.1)) (NdR.to HR2.o (sub_lo HS.1))).mono ?_
              rw[hq]
              rintro _ X1' ⟨rfl,hb1⟩
              have HS:=EqlS.bel HS hb1
              clear hb1
              refine tkR hK HS (fun _=>?_)
              clear hK K
              refine tkQ 11 ?_
              refine tkD ?_
              have HS:=η HS
              go_wp2_with fail
              exact⟨⟨j+1,by omega,by go_num,HD.o,HS.o⟩,by simp[intOf];omega⟩
           · have u1:decide ((j:Int)<(a.length:Int))=false:=decide_eq_false ω
             have x4:=HS0.o.2.1.cell 4
             have HE:Hid (tot=true):=by show _=_;rw[HQ.o,List.drop_eq_nil_of_le ω,List.drop_eq_nil_of_le (by have:=c5.o;omega),smL]
             go_wp2
             go_ret
             rw[HE.o]
             exact⟨rfl,HS0.o.1⟩
        · have u5:((a.length:Int) != (b.length:Int))=true:=by simp;omega
          have HVF:Hid (tot=false):=HV0.o.trans (by rw[smL_len a b c5,Bool.and_false])
          replace c1:=η c1;replace c2:=η c2;replace c3:=η c3;replace c5:=η c5
          go_upto_region 1 with fail
          rw[←hW1.o]
          go_wp2
          go_ret
          rw[HVF.o]
          exact⟨rfl,B1.o⟩
      · have u3:(m != m')=true:=by simpa using c3
        have HVF:Hid (tot=false):=HV0.o.trans (by simp[c3])
        replace c1:=η c1;replace c2:=η c2;replace c3:=η c3
        go_upto_region 1 with fail
        rw[←hW1.o]
        go_wp2
        go_ret
        rw[HVF.o]
        exact⟨rfl,B1.o⟩
    · have u2:(s.toList==s'.toList)=false:=by rw[ByteArray.toList_eq,ByteArray.toList_eq,beq_eq_false_iff_ne];exact fun e=>c2 (ByteArray.ext (Array.toList_inj.1 e))
      have HVF:Hid (tot=false):=HV0.o.trans (by simp[c2])
      replace c1:=η c1;replace c2:=η c2
      go_upto_region 1 with fail
      rw[←hW1.o]
      go_wp2
      go_ret
      rw[HVF.o]
      exact⟨rfl,B1.o⟩
  · have u1:(k != k')=true:=by simpa using c1
    have HVF:Hid (tot=false):=HV0.o.trans (by simp[c1])
    replace c1:=η c1
    go_upto_region 1 with fail
    rw[←hW1.o]
    go_wp2
    go_ret
    rw[HVF.o]
    exact⟨rfl,B1.o⟩
theorem nameB_nil {s:Ê} (h:s.size=0):nameB s.data.toList=false:=by
 have:s.data.toList=[]:=List.length_eq_zero_iff.1 (by simpa using h)
 rw[this];rfl
theorem nameB_head {s:Ê} (h:0<s.size):nameB s.data.toList=(letC s[0]&&s.data.toList.all nameC):=by
 cases hl:s.data.toList with
 | nil =>
  have:s.data.toList.length=s.size:=by simp
  rw[hl] at this;simp at this;omega
 | cons c r =>
  have hh:=data_head s h
  rw[hl] at hh
  injection hh with hh
  rw[←hh];rfl
theorem isName_any (s:Ê) (w:À) (hs:s.size≤maxLen):Calls prog 86 #[.string s] w fun e w'=>e=.returned (.bool (nameB s.data.toList))∧w=w':=by
 have lm:s.size≤9223372036854775807:=hs
 by_cases h0:s.size=0
 · have HN:=η (nameB_nil h0)
   have e0:(s.toList==[])=true:=by
    have:s.data.toList=[]:=List.length_eq_zero_iff.1 (by simpa using h0)
    rw[ByteArray.toList_eq,this];rfl
   clear h0
   go_in
   go_wp2
   go_ret
   exact⟨by rw[HN.o];rfl,rfl⟩
 · have hp:0<s.size:=by omega
   have HN:=η (nameB_head hp)
   have hl:s.data.toList.length=s.size:=by simp
   have e0:(s.toList==[])=false:=by
    rw[ByteArray.toList_eq,beq_eq_false_iff_ne]
    intro e
    rw[e] at hl
    exact h0 hl.symm
   clear hl
   have p0:(0:Int)<(s.size:Int):=by omega
   clear h0
   cases hc:letC s[0] with
   | false =>
    have HC:=η hc
    have HF:Hid (nameB s.data.toList=false):=HN.o.trans (by rw[hc];rfl)
    clear hc
    go_in
    go_wp2_with (go_at_call 37;refine (letter_any _ _).mono ?_;rw[HC.o];rintro _ _ ⟨rfl,rfl⟩)
    go_ret
    exact⟨by rw[HF.o];rfl,rfl⟩
   | true =>
    have HC:=η hc
    have HT:Hid (nameB s.data.toList=s.data.toList.all nameC):=HN.o.trans (by rw[hc];rfl)
    clear hc
    go_in
    go_wp2_with (go_at_call 37;refine (letter_any _ _).mono ?_;rw[HC.o];rintro _ _ ⟨rfl,rfl⟩)
    go_loopw [14] (fun i wr=>∃(j:Nat),j≤s.size∧i=.int .i64 j∧Hid (∀q (h:q<s.size),q<j→nameC s[q]=true)∧w=wr) (fun i _=>s.size-(intOf i).toNat)
    case atStart=>exact⟨0,by omega,rfl,fun q _ h=>absurd h (Nat.not_lt_zero _),rfl⟩
    case round =>
     obtain⟨j,hj,rfl,HQ,rfl⟩:=hrel
     by_cases hlt:j<s.size
     · have u1:decide ((j:Int)<(s.size:Int))=true:=decide_eq_true ω
       have j0:(0:Int)≤(j:Int):=by omega
       have j1:(j:Int)<(s.size:Int):=by omega
       cases hd:nameC s[j] with
       | true =>
        have HD:=η hd
        clear hd
        go_wp2_with (go_at_call 129;refine (nch_any _ _).mono ?_;rw[HD.o];rintro _ _ ⟨rfl,rfl⟩)
        exact⟨⟨j+1,by omega,by go_num,fun q h k=>if e:q=j then by subst e;exact HD.o else HQ.o q h ω,trivial⟩,by simp[intOf];omega⟩
       | false =>
        have HD:=η hd
        have HF:Hid (nameB s.data.toList=false):=HT.o.trans (all_bad nameC _ j (by simpa using hlt) hd)
        clear hd
        go_wp2_with (go_at_call 129;refine (nch_any _ _).mono ?_;rw[HD.o];rintro _ _ ⟨rfl,rfl⟩)
        go_ret
        exact⟨by rw[HF.o];rfl,rfl⟩
     · have u1:decide ((j:Int)<(s.size:Int))=false:=decide_eq_false ω
       have HF:Hid (nameB s.data.toList=true):=HT.o.trans (all_good nameC _ fun k hk=>HQ.o k (by simpa using hk) (Nat.lt_of_lt_of_le (by simpa using hk) (Nat.not_lt.1 hlt)))
       go_wp2
       go_ret
       exact⟨by rw[HF.o];rfl,rfl⟩
theorem right_any (t:Tk) (w:À) (hs:t.text.size≤maxLen):Calls prog 43 #[.agg (tkc t.kind t.text t.n t.pos)] w fun e w'=>e=.returned (.bool (tokB t))∧Below w.heap.size w w':=by
 obtain⟨k,s,n,p⟩:=t
 obtain⟨tot,HV⟩:∃q,Hid (tokB ⟨k,s,n,p⟩=q):=⟨_,rfl⟩
 rw[HV.o]
 have HV0:Hid (tot=if k=1 then nameB s.data.toList&&n==0
  else if k=2 then s.data.toList==[]&&decide (0≤n)&&decide (n≤9007199254740992)
  else if k=3 then decide (s.size≤4096)&&n==0
  else if k=4 then markB s.data.toList&&n==0 else false):=HV.o.symm.trans rfl
 have LS:Hid (s.size≤maxLen):=hs
 have lm:s.size≤9223372036854775807:=hs
 clear HV hs
 obtain⟨W1,hW1⟩:∃q,Hid (q=w.alloc (.cells #[.int .i64 k,.string s,.int .i64 n,.int .i64 p] 42)):=⟨_,rfl⟩
 have B1:Hid (Below w.heap.size w W1):=by show Below _ _ _;rw[hW1.o];exact belA (belR _) _
 have X1:Hid (Hs W1 w.heap.size 42 #[.int .i64 k,.string s,.int .i64 n,.int .i64 p]):=by show Hs _ _ _ _;rw[hW1.o];exact Hs.new _ _ _
 have x0:W1.cell? ⟨w.heap.size,0,none⟩=some (.int .i64 k):=X1.o.c 0
 have x1:W1.cell? ⟨w.heap.size,1,none⟩=some (.string s):=X1.o.c 1
 have x2:W1.cell? ⟨w.heap.size,2,none⟩=some (.int .i64 n):=X1.o.c 2
 go_in
 go_upto_region 1 with fail
 rw[←hW1.o]
 clear hW1
 by_cases c1:k=1
 · have v1:(k==1)=true:=by simpa using c1
   have HT:Hid (tot=(nameB s.data.toList&&n==0)):=HV0.o.trans (by rw[if_pos c1])
   replace c1:=η c1
   cases hb:nameB s.data.toList with
   | true =>
    have HB:=η hb
    have HT2:Hid (tot=(n==0)):=HT.o.trans (by rw[hb];rfl)
    clear hb
    go_wp2_with (go_at_call 86;refine (isName_any _ _ LS.o).mono ?_;rw[HB.o];rintro _ _ ⟨rfl,rfl⟩)
    go_ret
    exact⟨by rw[HT2.o];rfl,B1.o⟩
   | false =>
    have HB:=η hb
    have HT2:Hid (tot=false):=HT.o.trans (by rw[hb];rfl)
    clear hb
    go_wp2_with (go_at_call 86;refine (isName_any _ _ LS.o).mono ?_;rw[HB.o];rintro _ _ ⟨rfl,rfl⟩)
    go_ret
    exact⟨by rw[HT2.o];rfl,B1.o⟩
 · have v1:(k==1)=false:=by simpa using c1
   by_cases c2:k=2
   · have v2:(k==2)=true:=by simpa using c2
     have HT:Hid (tot=(s.data.toList==[]&&decide (0≤n)&&decide (n≤9007199254740992))):=HV0.o.trans (by rw[if_neg c1,if_pos c2])
     replace c1:=η c1
     replace c2:=η c2
     by_cases c5:s.data.toList=[]
     · have e0:(s.toList==[])=true:=by rw[ByteArray.toList_eq,c5];rfl
       by_cases c6:0≤n
       · have e1:decide (0≤n)=true:=decide_eq_true c6
         by_cases c7:n≤9007199254740992
         · have e2:decide (n≤9007199254740992)=true:=decide_eq_true c7
           have HT2:Hid (tot=true):=HT.o.trans (by rw[c5,e1,e2];rfl)
           replace c5:=η c5
           replace c6:=η c6
           replace c7:=η c7
           go_wp2
           go_ret
           exact⟨by rw[HT2.o];rfl,B1.o⟩
         · have e2:decide (n≤9007199254740992)=false:=decide_eq_false c7
           have HT2:Hid (tot=false):=HT.o.trans (by rw[c5,e1,e2];rfl)
           replace c5:=η c5
           replace c6:=η c6
           replace c7:=η c7
           go_wp2
           go_ret
           exact⟨by rw[HT2.o];rfl,B1.o⟩
       · have e1:decide (0≤n)=false:=decide_eq_false c6
         have HT2:Hid (tot=false):=HT.o.trans (by rw[e1,Bool.and_false,Bool.false_and])
         replace c5:=η c5
         replace c6:=η c6
         go_wp2
         go_ret
         exact⟨by rw[HT2.o];rfl,B1.o⟩
     · have e0:(s.toList==[])=false:=by rw[ByteArray.toList_eq,beq_eq_false_iff_ne];exact c5
       have HT2:Hid (tot=false):=HT.o.trans (by rw[←ByteArray.toList_eq,e0];rfl)
       replace c5:=η c5
       go_wp2
       go_ret
       exact⟨by rw[HT2.o];rfl,B1.o⟩
   · have v2:(k==2)=false:=by simpa using c2
     by_cases c3:k=3
     · have v3:(k==3)=true:=by simpa using c3
       have HT:Hid (tot=(decide (s.size≤4096)&&n==0)):=HV0.o.trans (by rw[if_neg c1,if_neg c2,if_pos c3])
       replace c1:=η c1
       replace c2:=η c2
       replace c3:=η c3
       by_cases hb:s.size≤4096
       · have hd:decide ((s.size:Int)≤4096)=true:=decide_eq_true ω
         have HT2:Hid (tot=(n==0)):=HT.o.trans (by rw[decide_eq_true hb];rfl)
         clear hb
         go_wp2
         go_ret
         exact⟨by rw[HT2.o];rfl,B1.o⟩
       · have hd:decide ((s.size:Int)≤4096)=false:=decide_eq_false ω
         have HT2:Hid (tot=false):=HT.o.trans (by rw[decide_eq_false hb];rfl)
         clear hb
         go_wp2
         go_ret
         exact⟨by rw[HT2.o];rfl,B1.o⟩
     · have v3:(k==3)=false:=by simpa using c3
       by_cases c4:k=4
       · have v4:(k==4)=true:=by simpa using c4
         have HT:Hid (tot=(markB s.data.toList&&n==0)):=HV0.o.trans (by rw[if_neg c1,if_neg c2,if_neg c3,if_pos c4])
         replace c1:=η c1
         replace c2:=η c2
         replace c3:=η c3
         replace c4:=η c4
         cases hb:markB s.data.toList with
         | true =>
          have HB:=η hb
          have HT2:Hid (tot=(n==0)):=HT.o.trans (by rw[hb];rfl)
          clear hb
          go_wp2_with (go_at_call 85;refine (mark_any _ _).mono ?_;rw[HB.o];rintro _ _ ⟨rfl,rfl⟩)
          go_ret
          exact⟨by rw[HT2.o];rfl,B1.o⟩
         | false =>
          have HB:=η hb
          have HT2:Hid (tot=false):=HT.o.trans (by rw[hb];rfl)
          clear hb
          go_wp2_with (go_at_call 85;refine (mark_any _ _).mono ?_;rw[HB.o];rintro _ _ ⟨rfl,rfl⟩)
          go_ret
          exact⟨by rw[HT2.o];rfl,B1.o⟩
       · have v4:(k==4)=false:=by simpa using c4
         have HT:Hid (tot=false):=HV0.o.trans (by rw[if_neg c1,if_neg c2,if_neg c3,if_neg c4])
         replace c1:=η c1
         replace c2:=η c2
         replace c3:=η c3
         replace c4:=η c4
         go_wp2
         go_ret
         exact⟨by rw[HT.o];rfl,B1.o⟩
theorem quote_at {s:Ê} {j:Nat} (h:j<s.size):(dr s j).flatMap quoteC=quoteC s[j]++(dr s (j+1)).flatMap quoteC:=by
 rw[dr_at h,List.flatMap_cons]
def BldQ (B b:Nat) (w0:À) (a:List UInt8) (w:À):Prop:=Lib.IsBuilder 66 5 B b (Lib.byteCells a) w∧Below B w0 w
theorem quote_any (B b:Nat) (l:List UInt8) (s:Ê) (w:À) (hb:Lib.IsBuilder 66 5 B b (Lib.byteCells l) w) (hlen:l.length+2*s.size+2≤140737488355328) (hBw:B≤w.heap.size) :
 Calls prog 47 #[.pointer (some ⟨b,0,none⟩),.string s] w fun e w'=>e=.returned (.tuple #[])∧BldQ B b w (l++quoteL s.data.toList) w':=by
 have lm:s.size≤9223372036854775807:=by omega
 obtain⟨HL,HW,HB⟩:=zd3 hlen hBw hb
 obtain⟨G,HG⟩:∃G,Hid (G=l++quoteL s.data.toList):=⟨_,rfl⟩
 rw[←HG.o]
 clear hb hlen hBw
 go_in
 go_wp2_with fail
 refine (writeByte_any B b l 34 w HB.o (by have:=HL.o;omega) HW.o).mono ?_
 rintro _ W1 ⟨rfl,h1⟩
 have H1:=η h1
 clear h1
 go_wp2_with fail
 go_loopw [10] (fun i wr=>∃(j:Nat) (a:List UInt8),j≤s.size∧i=.int .i64 j∧Hid (a.length≤l.length+1+2*j)∧Hid (G=a++((dr s j).flatMap quoteC++[34]))∧Hid (BldQ B b w a wr)) (fun i _=>s.size-(intOf i).toNat)
 case atStart=>exact⟨0,l++[34],by omega,rfl,η (by simp),η (by rw[HG.o];unfold quoteL dr;simp),H1.o⟩
 case round =>
  obtain⟨j,a,hj,rfl,HA,HQ,HX⟩:=hrel
  by_cases hlt:j<s.size
  · have u1:decide ((j:Int)<(s.size:Int))=true:=decide_eq_true ω
    have j0:(0:Int)≤(j:Int):=by omega
    have j1:(j:Int)<(s.size:Int):=by omega
    have HQ2:=η (HQ.o.trans (by rw[quote_at hlt]))
    clear HQ
    by_cases hc:s[j].toNat=10
    · have HQ3:=η (HQ2.o.trans (by rw[show quoteC s[j]=[92,110] from by unfold quoteC;rw[if_pos hc]]))
      have t0:((s[j].toNat:Int)==10)=true:=beq_iff_eq.2 ω
      replace hc:=η hc
      go_wp2_with fail
      refine (writeString_any B b a ⟨#[92,110]⟩ wr HX.o.1 (by have:=HA.o;have:=HL.o;show a.length+2≤_;omega) (Nat.le_trans HW.o HX.o.2.size)).mono ?_
      rintro _ W2 ⟨rfl,h2⟩
      have H2:=η h2
      clear h2
      go_wp2_with fail
      exact⟨⟨j+1,a++[92,110],by omega,by go_num,η (by have:=HA.o;simp;omega),η (by rw[HQ3.o];simp only[List.append_assoc]),η ⟨H2.o.1,HX.o.2.trans H2.o.2.1⟩⟩,by simp[intOf];omega⟩
    · have n1:=hc
      clear hc
      by_cases hc:s[j].toNat=9
      · have HQ3:=η (HQ2.o.trans (by rw[show quoteC s[j]=[92,116] from by unfold quoteC;rw[if_neg n1,if_pos hc]]))
        have t0:((s[j].toNat:Int)==10)=false:=beq_eq_false_iff_ne.2 ω
        have t1:((s[j].toNat:Int)==9)=true:=beq_iff_eq.2 ω
        replace hc:=η hc
        go_wp2_with fail
        refine (writeString_any B b a ⟨#[92,116]⟩ wr HX.o.1 (by have:=HA.o;have:=HL.o;show a.length+2≤_;omega) (Nat.le_trans HW.o HX.o.2.size)).mono ?_
        rintro _ W2 ⟨rfl,h2⟩
        have H2:=η h2
        clear h2
        go_wp2_with fail
        exact⟨⟨j+1,a++[92,116],by omega,by go_num,η (by have:=HA.o;simp;omega),η (by rw[HQ3.o];simp only[List.append_assoc]),η ⟨H2.o.1,HX.o.2.trans H2.o.2.1⟩⟩,by simp[intOf];omega⟩
      · have n2:=hc
        clear hc
        by_cases hc:s[j].toNat=34
        · have HQ3:=η (HQ2.o.trans (by rw[show quoteC s[j]=[92,s[j]] from by unfold quoteC;rw[if_neg n1,if_neg n2,if_pos (.inl hc)]]))
          have t0:((s[j].toNat:Int)==10)=false:=beq_eq_false_iff_ne.2 ω
          have t1:((s[j].toNat:Int)==9)=false:=beq_eq_false_iff_ne.2 ω
          have t2:((s[j].toNat:Int)==34)=true:=beq_iff_eq.2 ω
          replace hc:=η hc
          go_wp2_with fail
          refine (writeByte_any B b a 92 wr HX.o.1 (by have:=HA.o;have:=HL.o;simp;omega) (Nat.le_trans HW.o HX.o.2.size)).mono ?_
          rintro _ W2 ⟨rfl,h2⟩
          have H2:=η h2
          clear h2
          go_wp2_with fail
          refine (writeByte_any B b (a++[92]) s[j] W2 H2.o.1 (by have:=HA.o;have:=HL.o;simp;omega) (Nat.le_trans HW.o (HX.o.2.trans H2.o.2).size)).mono ?_
          rintro _ W3 ⟨rfl,h2⟩
          have H3:=η h2
          clear h2
          go_wp2_with fail
          exact⟨⟨j+1,a++[92,s[j]],by omega,by go_num,η (by have:=HA.o;simp;omega),η (by rw[HQ3.o];simp only[List.append_assoc]),η ⟨by have:=H3.o.1;simpa using this,(HX.o.2.trans H2.o.2).trans H3.o.2⟩⟩,by simp[intOf];omega⟩
        · have n3:=hc
          clear hc
          by_cases hc:s[j].toNat=92
          · have HQ3:=η (HQ2.o.trans (by rw[show quoteC s[j]=[92,s[j]] from by unfold quoteC;rw[if_neg n1,if_neg n2,if_pos (.inr hc)]]))
            have t0:((s[j].toNat:Int)==10)=false:=beq_eq_false_iff_ne.2 ω
            have t1:((s[j].toNat:Int)==9)=false:=beq_eq_false_iff_ne.2 ω
            have t2:((s[j].toNat:Int)==34)=false:=beq_eq_false_iff_ne.2 ω
            have t3:((s[j].toNat:Int)==92)=true:=beq_iff_eq.2 ω
            replace hc:=η hc
            go_wp2_with fail
            refine (writeByte_any B b a 92 wr HX.o.1 (by have:=HA.o;have:=HL.o;simp;omega) (Nat.le_trans HW.o HX.o.2.size)).mono ?_
            rintro _ W2 ⟨rfl,h2⟩
            have H2:=η h2
            clear h2
            go_wp2_with fail
            refine (writeByte_any B b (a++[92]) s[j] W2 H2.o.1 (by have:=HA.o;have:=HL.o;simp;omega) (Nat.le_trans HW.o (HX.o.2.trans H2.o.2).size)).mono ?_
            rintro _ W3 ⟨rfl,h2⟩
            have H3:=η h2
            clear h2
            go_wp2_with fail
            exact⟨⟨j+1,a++[92,s[j]],by omega,by go_num,η (by have:=HA.o;simp;omega),η (by rw[HQ3.o];simp only[List.append_assoc]),η ⟨by have:=H3.o.1;simpa using this,(HX.o.2.trans H2.o.2).trans H3.o.2⟩⟩,by simp[intOf];omega⟩
          · have HQ3:=η (HQ2.o.trans (by rw[show quoteC s[j]=[s[j]] from by unfold quoteC;rw[if_neg n1,if_neg n2,if_neg (fun e=>e.elim n3 hc)]]))
            have t0:((s[j].toNat:Int)==10)=false:=beq_eq_false_iff_ne.2 ω
            have t1:((s[j].toNat:Int)==9)=false:=beq_eq_false_iff_ne.2 ω
            have t2:((s[j].toNat:Int)==34)=false:=beq_eq_false_iff_ne.2 ω
            have t3:((s[j].toNat:Int)==92)=false:=beq_eq_false_iff_ne.2 ω
            replace hc:=η hc
            go_wp2_with fail
            refine (writeByte_any B b a s[j] wr HX.o.1 (by have:=HA.o;have:=HL.o;simp;omega) (Nat.le_trans HW.o HX.o.2.size)).mono ?_
            rintro _ W2 ⟨rfl,h2⟩
            have H2:=η h2
            clear h2
            go_wp2_with fail
            exact⟨⟨j+1,a++[s[j]],by omega,by go_num,η (by have:=HA.o;simp;omega),η (by rw[HQ3.o];simp only[List.append_assoc]),η ⟨H2.o.1,HX.o.2.trans H2.o.2⟩⟩,by simp[intOf];omega⟩
  · have u1:decide ((j:Int)<(s.size:Int))=false:=decide_eq_false ω
    have HE:Hid (G=a++[34]):=HQ.o.trans (by rw[show dr s j=[] from List.drop_eq_nil_of_le (by simp;omega)];rfl)
    go_wp2_with fail
    refine (writeByte_any B b a 34 wr HX.o.1 (by have:=HA.o;have:=HL.o;omega) (Nat.le_trans HW.o HX.o.2.size)).mono ?_
    rintro _ W2 ⟨rfl,h2⟩
    have H2:=η h2
    clear h2
    go_wp2_with fail
    first|go_end0|refine bodyPost_ret (results_none rfl _ _ _) rfl ?_
    exact⟨rfl,by rw[HE.o];exact⟨H2.o.1,HX.o.2.trans H2.o.2⟩⟩
def restW (ts:List Tk) (j:Nat):List UInt8:=if j=0 then wTks ts else if j<ts.length then 32::wTks (ts.drop j) else []
theorem wTks_at {ts:List Tk} {j:Nat} (h:j<ts.length):wTks (ts.drop j)=wTk ts[j]++restW ts (j+1):=by
 unfold restW
 rw[if_neg (Nat.succ_ne_zero j),List.drop_eq_getElem_cons h]
 split
 · rename_i h2
   rw[List.drop_eq_getElem_cons h2,wTks]
   exact fun e=>by cases e
 · rename_i h2
   rw[List.drop_eq_nil_of_le ω,wTks,List.append_nil]
theorem restW_end (ts:List Tk):restW ts ts.length=[]:=by
 unfold restW
 split
 · rename_i h
   rw[List.length_eq_zero_iff.1 h,wTks]
 · rw[if_neg (Nat.lt_irrefl _)]
theorem restW_more {ts:List Tk} {j:Nat} (h:j<ts.length) (h0:0<j):restW ts j=32::(wTk ts[j]++restW ts (j+1)):=by
 rw[←wTks_at h];unfold restW;rw[if_neg ω,if_pos h]
theorem restW_zero {ts:List Tk} (h:0<ts.length):restW ts 0=wTk ts[0]++restW ts 1:=by
 rw[←wTks_at h];rfl
def TkW (cs:List Value) (t:Tk):Prop:=cs=[.int .i64 t.kind,.string t.text,.int .i64 t.n,.int .i64 t.pos]∧t.text.size≤maxLen
theorem writeL_bad {ts:List Tk} {j:Nat} (h:j<ts.length) (hb:tokB ts[j]=false):writeL ts=[]:=by
 unfold writeL
 rw[if_neg]
 intro e
 rw[List.all_eq_true] at e
 rw[e _ (List.getElem_mem h)] at hb
 cases hb
theorem writeL_good {ts:List Tk} (h:∀j (h:j<ts.length),tokB ts[j]=true):writeL ts=wTks ts:=by
 unfold writeL
 rw[if_pos]
 rw[List.all_eq_true]
 intro t ht
 obtain⟨j,hj,e⟩:=List.getElem_of_mem ht
 rw[←e];exact h j hj
end Go.Proofs.YtbjdcogmiggamaaGreatDoor
