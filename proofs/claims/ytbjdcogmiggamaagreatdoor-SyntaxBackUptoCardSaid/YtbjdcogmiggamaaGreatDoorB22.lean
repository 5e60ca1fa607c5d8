import Derived.Test.YtbjdcogmiggamaaGreatDoorB21
set_option linter.all false
namespace Go.Proofs.YtbjdcogmiggamaaGreatDoor
open Proofs.Tryz RowKit Maps WideMaps ChangeMaps
set_option maxRecDepth 100000
set_option maxHeartbeats 8000000
mutual
/-- the same but for offsets, in plain Lean -/
def smN:Nd→Nd→Bool
 | .mk k s n _ a,.mk k' s' n' _ b=>decide (k=k')&&decide (s=s')&&decide (n=n')&&smL a b
def smL:List Nd→List Nd→Bool
 | [],[]=>true
 | x::a,y::b=>smN x y&&smL a b
 | _,_=>false
end
theorem smL_len:∀(a b:List Nd),a.length≠b.length→smL a b=false
 | [],[],h=>absurd rfl h
 | [],_::_,_=>by rw[smL]<;>simp
 | _::_,[],_=>by rw[smL]<;>simp
 | x::a,y::b,h=>by rw[smL,smL_len a b (fun e=>h (by simp[e])),Bool.and_false]
theorem smL_at {a b:List Nd} {j:Nat} (h:j<a.length) (k:j<b.length):smL (a.drop j) (b.drop j)=(smN a[j] b[j]&&smL (a.drop (j+1)) (b.drop (j+1))):=by
 rw[List.drop_eq_getElem_cons h,List.drop_eq_getElem_cons k,smL]
theorem same_any (h:Nat):∀(x y:Nd) (cx cy:List Value) (w:À),SizeOf.sizeOf x<h→NdR w (lo w) cx x→NdR w (lo w) cy y→Calls prog 19 #[.agg cx.toArray,.agg cy.toArray] w (EqSaid (smN x y) w):=by
 induction h with
 | zero=>intro x y cx cy w hz;exact absurd hz (Nat.not_lt_zero _)
 | succ h ih =>
  intro x y cx cy w hz hx hy
  obtain⟨k,s,m,p,a,A,cap,rfl,rfl,_,_,ha⟩:=nd_form hx
  obtain⟨k',s',m',p',b,B,cbp,rfl,rfl,_,_,hb⟩:=nd_form hy
  have IH:Hid (∀(j:Nat) (hj:j<a.length) (y:Nd) (cx cy:List Value) (w:À),NdR w (lo w) cx a[j]→NdR w (lo w) cy y→Calls prog 19 #[.agg cx.toArray,.agg cy.toArray] w (EqSaid (smN a[j] y) w)):=fun j hj y cx cy w h1 h2=>ih a[j] y cx cy w (by
   have:=List.sizeOf_lt_of_mem (List.getElem_mem hj)
   simp at hz
   omega) h1 h2
  obtain⟨HA,HB⟩:=zd2 ha hb
  have lm:a.length≤9223372036854775807:=ha.len.2
  have ln:b.length≤9223372036854775807:=hb.len.2
  obtain⟨tot,HV⟩:∃q,Hid (smN (.mk k s m p a) (.mk k' s' m' p' b)=q):=⟨_,rfl⟩
  rw[HV.o]
  have HV0:Hid (tot=(decide (k=k')&&decide (s=s')&&decide (m=m')&&smL a b)):=HV.o.symm.trans (by rw[smN])
  obtain⟨W1,hW1⟩:∃q,Hid (q=(w.alloc (.cells (cl k s m p A a.length cap).toArray 24)).alloc (.cells (cl k' s' m' p' B b.length cbp).toArray 24)):=⟨_,rfl⟩
  have B1:Hid (Below w.heap.size w W1):=by show Below _ _ _;rw[hW1.o];exact belA (belA (belR _) _) _
  have X1:Hid (Hs W1 w.heap.size 24 (cl k s m p A a.length cap).toArray):=by show Hs _ _ _ _;rw[hW1.o];exact hs_bel (Hs.new _ _ _) (belA (belR _) _)
  have Y1:Hid (Hs W1 (w.heap.size+1) 24 (cl k' s' m' p' B b.length cbp).toArray):=by show Hs _ _ _ _;rw[hW1.o];have:=Hs.new (w.alloc (.cells (cl k s m p A a.length cap).toArray 24)) 24 (cl k' s' m' p' B b.length cbp).toArray;simpa using this
  obtain⟨x0,x1,x2,x3,x4⟩:=cf5 X1.o
  obtain⟨y0,y1,y2,y3,y4⟩:=cf5 Y1.o
  clear hx hy ha hb hz ih HV
  go_in
  by_cases c1:k=k'
  · have u1:(k != k')=false:=by simpa using c1
    by_cases c2:s=s'
    · have u2:(s.toList==s'.toList)=true:=by rw[c2];simp
      by_cases c3:m=m'
      · have u3:(m != m')=false:=by simpa using c3
        by_cases c5:a.length=b.length
        · have u5:((a.length:Int) != (b.length:Int))=false:=by simp;omega
          have HVE:Hid (tot=smL a b):=HV0.o.trans (by simp[c1,c2,c3])
          replace c1:=η c1;replace c2:=η c2;replace c3:=η c3;replace c5:=η c5
          go_upto_region 1 with fail
          rw[←hW1.o]
          clear hW1
          go_upto_region 4 with fail
          clear x0 x1 x2 x3 x4 y0 y1 y2 y3 y4 u1 u2 u3 u5
          go_loopw [37] (fun i wr=>∃(j:Nat),j≤a.length∧i=.int .i64 j∧Hid (tot=smL (a.drop j) (b.drop j))∧Hid (EqlS w (cl k s m p A a.length cap).toArray (cl k' s' m' p' B b.length cbp).toArray wr)) (fun i _=>a.length-(intOf i).toNat)
          case atStart=>exact⟨0,by omega,rfl,HVE.o,B1.o,X1.o,Y1.o⟩
          case round =>
           obtain⟨j,hj,rfl,HQ,HS0⟩:=hrel
           by_cases hlt:j<a.length
           · have hlb:j<b.length:=by have:=c5.o;omega
             have u1:decide ((j:Int)<(a.length:Int))=true:=decide_eq_true ω
             have HAT:=η (HQ.o.trans (smL_at hlt hlb))
             obtain⟨g,off,k1,s1,m1,p1,D1,l1,c1',rfl,hg,hr1,e0,e1,e2,e3,e4⟩:=nds_at HA.o hlt
             obtain⟨g2,off2,k2,s2,m2,p2,D2,l2,c2',rfl,hg2,hr2,f0,f1,f2,f3,f4⟩:=nds_at HB.o hlb
             have E:=η (And.intro e0 (And.intro e1 (And.intro e2 (And.intro e3 e4))))
             have F:=η (And.intro f0 (And.intro f1 (And.intro f2 (And.intro f3 f4))))
             obtain⟨G1,G2,HR1,HR2⟩:=zd4 hg hg2 hr1 hr2
             clear e0 e1 e2 e3 e4 f0 f1 f2 f3 f4 hg hg2 hr1 hr2 HQ
             have x4:=HS0.o.2.1.cell 4
             have j0:(0:Int)≤(j:Int):=by omega
             have j1:(j:Int)<(a.length:Int):=by omega
             have j2:(j:Int)<(b.length:Int):=by omega
             go_upto_region 6 with fail
             clear x4
             refine tkB (fun X=>EqlS w (cl k s m p (some ⟨g,off,none⟩) a.length cap).toArray (cl k' s' m' p' (some ⟨g2,off2,none⟩) b.length cbp).toArray X) (HS0.o.bel (belDr wr)) (fun HS=>?_)
             generalize wr.drew=X0 at HS ⊢
             refine tkQ 0 ?_
             refine tkQ 1 ?_ (hy:=fun X hS=>by have q0:=hS.2.1.cell 4;go_simp;first|done|with_reducible rfl)
             refine tkQ 2 ?_
             refine tkQ 3 ?_
             refine tkQ 4 ?_ (hy:=fun X hS=>by have q0:=(hS.1.cell (p:=⟨g,off+j*5,none⟩) G1.o).trans E.o.1;have q1:=(hS.1.cell (p:=⟨g,off+j*5+1,none⟩) G1.o).trans E.o.2.1;have q2:=(hS.1.cell (p:=⟨g,off+j*5+2,none⟩) G1.o).trans E.o.2.2.1;have q3:=(hS.1.cell (p:=⟨g,off+j*5+3,none⟩) G1.o).trans E.o.2.2.2.1;have q4:=(hS.1.cell (p:=⟨g,off+j*5+4,none⟩) G1.o).trans E.o.2.2.2.2;go_simp;first|done|with_reducible rfl)
             refine tkQ 5 ?_
             refine tkQ 6 ?_ (hy:=fun X hS=>by have q0:=hS.2.2.cell 4;go_simp;first|done|with_reducible rfl)
             refine tkQ 7 ?_
             refine tkQ 8 ?_
             refine tkQ 9 ?_ (hy:=fun X hS=>by have q0:=(hS.1.cell (p:=⟨g2,off2+j*5,none⟩) G2.o).trans F.o.1;have q1:=(hS.1.cell (p:=⟨g2,off2+j*5+1,none⟩) G2.o).trans F.o.2.1;have q2:=(hS.1.cell (p:=⟨g2,off2+j*5+2,none⟩) G2.o).trans F.o.2.2.1;have q3:=(hS.1.cell (p:=⟨g2,off2+j*5+3,none⟩) G2.o).trans F.o.2.2.2.1;have q4:=(hS.1.cell (p:=⟨g2,off2+j*5+4,none⟩) G2.o).trans F.o.2.2.2.2;go_simp;first|done|with_reducible rfl)
             refine tkE 10 (fun K hK=>?_)
             go_simp
             cases hq:smN a[j] b[j] with
             | false =>
              have HD:=η (HAT.o.trans (by rw[hq]))
              refine (IH.o j hlt _ (cl k1 s1 m1 p1 D1 l1 c1') (cl k2 s2 m2 p2 D2 l2 c2') X0 (NdR.to HR1.o (sub_lo HS.1)) (NdR.to HR2.o (sub_lo HS.1))).mono ?_
              rw[hq]
              rintro _ X1' ⟨rfl,hb1⟩
              have HS:=EqlS.bel HS hb1
              clear hb1
              refine tkR hK HS (fun _=>?_)
              clear hK K
              refine tkQ 11 ?_
              refine tkD ?_
              have HS:=η HS
              go_wp2
              go_ret
              rw[HD.o]
              exact⟨rfl,HS.o.1⟩
             | true =>
              have HD:=η (HAT.o.trans (by rw[hq]))
              refine (IH.o j hlt _ (cl k1 s1 m1 p1 D1 l1 c1') (cl k2 s2 m2 p2 D2 l2 c2') X0 (NdR.to HR1.o (sub_lo HS.1)) (NdR.to HR2.o (sub_lo HS.1))).mono ?_
              rw[hq]
              rintro _ X1' ⟨rfl,hb1⟩
              have HS:=EqlS.bel HS hb1
              clear hb1
              refine tkR hK HS (fun _=>?_)
              clear hK K
              refine tkQ 11 ?_
              refine tkD ?_
              have HS:=η HS
              go_wp2_with fail
              exact⟨⟨j+1,by omega,by go_num,HD.o,HS.o⟩,by simp[intOf];omega⟩
           · have u1:decide ((j:Int)<(a.length:Int))=false:=decide_eq_false ω
             have x4:=HS0.o.2.1.cell 4
             have HE:Hid (tot=true):=by show _=_;rw[HQ.o,List.drop_eq_nil_of_le ω,List.drop_eq_nil_of_le (by have:=c5.o;omega),smL]
             go_wp2
             go_ret
             rw[HE.o]
             exact⟨rfl,HS0.o.1⟩
        · have u5:((a.length:Int) != (b.length:Int))=true:=by simp;omega
          have HVF:Hid (tot=false):=HV0.o.trans (by rw[smL_len a b c5,Bool.and_false])
          replace c1:=η c1;replace c2:=η c2;replace c3:=η c3;replace c5:=η c5
          go_upto_region 1 with fail
          rw[←hW1.o]
          go_wp2
          go_ret
          rw[HVF.o]
          exact⟨rfl,B1.o⟩
      · have u3:(m != m')=true:=by simpa using c3
        have HVF:Hid (tot=false):=HV0.o.trans (by simp[c3])
        replace c1:=η c1;replace c2:=η c2;replace c3:=η c3
        go_upto_region 1 with fail
        rw[←hW1.o]
        go_wp2
        go_ret
        rw[HVF.o]
        exact⟨rfl,B1.o⟩
    · have u2:(s.toList==s'.toList)=false:=by rw[ByteArray.toList_eq,ByteArray.toList_eq,beq_eq_false_iff_ne];exact fun e=>c2 (ByteArray.ext (Array.toList_inj.1 e))
      have HVF:Hid (tot=false):=HV0.o.trans (by simp[c2])
      replace c1:=η c1;replace c2:=η c2
      go_upto_region 1 with fail
      rw[←hW1.o]
      go_wp2
      go_ret
      rw[HVF.o]
      exact⟨rfl,B1.o⟩
  · have u1:(k != k')=true:=by simpa using c1
    have HVF:Hid (tot=false):=HV0.o.trans (by simp[c1])
    replace c1:=η c1
    go_upto_region 1 with fail
    rw[←hW1.o]
    go_wp2
    go_ret
    rw[HVF.o]
    exact⟨rfl,B1.o⟩
theorem nameB_nil {s:Ê} (h:s.size=0):nameB s.data.toList=false:=by
 have:s.data.toList=[]:=List.length_eq_zero_iff.1 (by simpa using h)
 rw[this];rfl
theorem nameB_head {s:Ê} (h:0<s.size):nameB s.data.toList=(letC s[0]&&s.data.toList.all nameC):=by
 cases hl:s.data.toList with
 | nil =>
  have:s.data.toList.length=s.size:=by simp
  rw[hl] at this;simp at this;omega
 | cons c r =>
  have hh:=data_head s h
  rw[hl] at hh
  injection hh with hh
  rw[←hh];rfl
theorem isName_any (s:Ê) (w:À) (hs:s.size≤maxLen):Calls prog 86 #[.string s] w fun e w'=>e=.returned (.bool (nameB s.data.toList))∧w=w':=by
 have lm:s.size≤9223372036854775807:=hs
 by_cases h0:s.size=0
 · have HN:=η (nameB_nil h0)
   have e0:(s.toList==[])=true:=by
    have:s.data.toList=[]:=List.length_eq_zero_iff.1 (by simpa using h0)
    rw[ByteArray.toList_eq,this];rfl
   clear h0
   go_in
   go_wp2
   go_ret
   exact⟨by rw[HN.o];rfl,rfl⟩
 · have hp:0<s.size:=by omega
   have HN:=η (nameB_head hp)
   have hl:s.data.toList.length=s.size:=by simp
   have e0:(s.toList==[])=false:=by
    rw[ByteArray.toList_eq,beq_eq_false_iff_ne]
    intro e
    rw[e] at hl
    exact h0 hl.symm
   clear hl
   have p0:(0:Int)<(s.size:Int):=by omega
   clear h0
   cases hc:letC s[0] with
   | false =>
    have HC:=η hc
    have HF:Hid (nameB s.data.toList=false):=HN.o.trans (by rw[hc];rfl)
    clear hc
    go_in
    go_wp2_with (go_at_call 37;refine (letter_any _ _).mono ?_;rw[HC.o];rintro _ _ ⟨rfl,rfl⟩)
    go_ret
    exact⟨by rw[HF.o];rfl,rfl⟩
   | true =>
    have HC:=η hc
    have HT:Hid (nameB s.data.toList=s.data.toList.all nameC):=HN.o.trans (by rw[hc];rfl)
    clear hc
    go_in
    go_wp2_with (go_at_call 37;refine (letter_any _ _).mono ?_;rw[HC.o];rintro _ _ ⟨rfl,rfl⟩)
    go_loopw [14] (fun i wr=>∃(j:Nat),j≤s.size∧i=.int .i64 j∧Hid (∀q (h:q<s.size),q<j→nameC s[q]=true)∧w=wr) (fun i _=>s.size-(intOf i).toNat)
    case atStart=>exact⟨0,by omega,rfl,fun q _ h=>absurd h (Nat.not_lt_zero _),rfl⟩
    case round =>
     obtain⟨j,hj,rfl,HQ,rfl⟩:=hrel
     by_cases hlt:j<s.size
     · have u1:decide ((j:Int)<(s.size:Int))=true:=decide_eq_true ω
       have j0:(0:Int)≤(j:Int):=by omega
       have j1:(j:Int)<(s.size:Int):=by omega
       cases hd:nameC s[j] with
       | true =>
        have HD:=η hd
        clear hd
        go_wp2_with (go_at_call 129;refine (nch_any _ _).mono ?_;rw[HD.o];rintro _ _ ⟨rfl,rfl⟩)
        exact⟨⟨j+1,by omega,by go_num,fun q h k=>if e:q=j then by subst e;exact HD.o else HQ.o q h ω,trivial⟩,by simp[intOf];omega⟩
       | false =>
        have HD:=η hd
        have HF:Hid (nameB s.data.toList=false):=HT.o.trans (all_bad nameC _ j (by simpa using hlt) hd)
        clear hd
        go_wp2_with (go_at_call 129;refine (nch_any _ _).mono ?_;rw[HD.o];rintro _ _ ⟨rfl,rfl⟩)
        go_ret
        exact⟨by rw[HF.o];rfl,rfl⟩
     · have u1:decide ((j:Int)<(s.size:Int))=false:=decide_eq_false ω
       have HF:Hid (nameB s.data.toList=true):=HT.o.trans (all_good nameC _ fun k hk=>HQ.o k (by simpa using hk) (Nat.lt_of_lt_of_le (by simpa using hk) (Nat.not_lt.1 hlt)))
       go_wp2
       go_ret
       exact⟨by rw[HF.o];rfl,rfl⟩
theorem right_any (t:Tk) (w:À) (hs:t.text.size≤maxLen):Calls prog 43 #[.agg (tkc t.kind t.text t.n t.pos)] w fun e w'=>e=.returned (.bool (tokB t))∧Below w.heap.size w w':=by
 obtain⟨k,s,n,p⟩:=t
 obtain⟨tot,HV⟩:∃q,Hid (tokB ⟨k,s,n,p⟩=q):=⟨_,rfl⟩
 rw[HV.o]
 have HV0:Hid (tot=if k=1 then nameB s.data.toList&&n==0
  else if k=2 then s.data.toList==[]&&decide (0≤n)&&decide (n≤9007199254740992)
  else if k=3 then decide (s.size≤4096)&&n==0
  else if k=4 then markB s.data.toList&&n==0 else false):=HV.o.symm.trans rfl
 have LS:Hid (s.size≤maxLen):=hs
 have lm:s.size≤9223372036854775807:=hs
 clear HV hs
 obtain⟨W1,hW1⟩:∃q,Hid (q=w.alloc (.cells #[.int .i64 k,.string s,.int .i64 n,.int .i64 p] 42)):=⟨_,rfl⟩
 have B1:Hid (Below w.heap.size w W1):=by show Below _ _ _;rw[hW1.o];exact belA (belR _) _
 have X1:Hid (Hs W1 w.heap.size 42 #[.int .i64 k,.string s,.int .i64 n,.int .i64 p]):=by show Hs _ _ _ _;rw[hW1.o];exact Hs.new _ _ _
 have x0:W1.cell? ⟨w.heap.size,0,none⟩=some (.int .i64 k):=X1.o.c 0
 have x1:W1.cell? ⟨w.heap.size,1,none⟩=some (.string s):=X1.o.c 1
 have x2:W1.cell? ⟨w.heap.size,2,none⟩=some (.int .i64 n):=X1.o.c 2
 go_in
 go_upto_region 1 with fail
 rw[←hW1.o]
 clear hW1
 by_cases c1:k=1
 · have v1:(k==1)=true:=by simpa using c1
   have HT:Hid (tot=(nameB s.data.toList&&n==0)):=HV0.o.trans (by rw[if_pos c1])
   replace c1:=η c1
   cases hb:nameB s.data.toList with
   | true =>
    have HB:=η hb
    have HT2:Hid (tot=(n==0)):=HT.o.trans (by rw[hb];rfl)
    clear hb
    go_wp2_with (go_at_call 86;refine (isName_any _ _ LS.o).mono ?_;rw[HB.o];rintro _ _ ⟨rfl,rfl⟩)
    go_ret
    exact⟨by rw[HT2.o];rfl,B1.o⟩
   | false =>
    have HB:=η hb
    have HT2:Hid (tot=false):=HT.o.trans (by rw[hb];rfl)
    clear hb
    go_wp2_with (go_at_call 86;refine (isName_any _ _ LS.o).mono ?_;rw[HB.o];rintro _ _ ⟨rfl,rfl⟩)
    go_ret
    exact⟨by rw[HT2.o];rfl,B1.o⟩
 · have v1:(k==1)=false:=by simpa using c1
   by_cases c2:k=2
   · have v2:(k==2)=true:=by simpa using c2
     have HT:Hid (tot=(s.data.toList==[]&&decide (0≤n)&&decide (n≤9007199254740992))):=HV0.o.trans (by rw[if_neg c1,if_pos c2])
     replace c1:=η c1
     replace c2:=η c2
     by_cases c5:s.data.toList=[]
     · have e0:(s.toList==[])=true:=by rw[ByteArray.toList_eq,c5];rfl
       by_cases c6:0≤n
       · have e1:decide (0≤n)=true:=decide_eq_true c6
         by_cases c7:n≤9007199254740992
         · have e2:decide (n≤9007199254740992)=true:=decide_eq_true c7
           have HT2:Hid (tot=true):=HT.o.trans (by rw[c5,e1,e2];rfl)
           replace c5:=η c5
           replace c6:=η c6
           replace c7:=η c7
           go_wp2
           go_ret
           exact⟨by rw[HT2.o];rfl,B1.o⟩
         · have e2:decide (n≤9007199254740992)=false:=decide_eq_false c7
           have HT2:Hid (tot=false):=HT.o.trans (by rw[c5,e1,e2];rfl)
           replace c5:=η c5
           replace c6:=η c6
           replace c7:=η c7
           go_wp2
           go_ret
           exact⟨by rw[HT2.o];rfl,B1.o⟩
       · have e1:decide (0≤n)=false:=decide_eq_false c6
         have HT2:Hid (tot=false):=HT.o.trans (by rw[e1,Bool.and_false,Bool.false_and])
         replace c5:=η c5
         replace c6:=η c6
         go_wp2
         go_ret
         exact⟨by rw[HT2.o];rfl,B1.o⟩
     · have e0:(s.toList==[])=false:=by rw[ByteArray.toList_eq,beq_eq_false_iff_ne];exact c5
       have HT2:Hid (tot=false):=HT.o.trans (by rw[←ByteArray.toList_eq,e0];rfl)
       replace c5:=η c5
       go_wp2
       go_ret
       exact⟨by rw[HT2.o];rfl,B1.o⟩
   · have v2:(k==2)=false:=by simpa using c2
     by_cases c3:k=3
     · have v3:(k==3)=true:=by simpa using c3
       have HT:Hid (tot=(decide (s.size≤4096)&&n==0)):=HV0.o.trans (by rw[if_neg c1,if_neg c2,if_pos c3])
       replace c1:=η c1
       replace c2:=η c2
       replace c3:=η c3
       by_cases hb:s.size≤4096
       · have hd:decide ((s.size:Int)≤4096)=true:=decide_eq_true ω
         have HT2:Hid (tot=(n==0)):=HT.o.trans (by rw[decide_eq_true hb];rfl)
         clear hb
         go_wp2
         go_ret
         exact⟨by rw[HT2.o];rfl,B1.o⟩
       · have hd:decide ((s.size:Int)≤4096)=false:=decide_eq_false ω
         have HT2:Hid (tot=false):=HT.o.trans (by rw[decide_eq_false hb];rfl)
         clear hb
         go_wp2
         go_ret
         exact⟨by rw[HT2.o];rfl,B1.o⟩
     · have v3:(k==3)=false:=by simpa using c3
       by_cases c4:k=4
       · have v4:(k==4)=true:=by simpa using c4
         have HT:Hid (tot=(markB s.data.toList&&n==0)):=HV0.o.trans (by rw[if_neg c1,if_neg c2,if_neg c3,if_pos c4])
         replace c1:=η c1
         replace c2:=η c2
         replace c3:=η c3
         replace c4:=η c4
         cases hb:markB s.data.toList with
         | true =>
          have HB:=η hb
          have HT2:Hid (tot=(n==0)):=HT.o.trans (by rw[hb];rfl)
          clear hb
          go_wp2_with (go_at_call 85;refine (mark_any _ _).mono ?_;rw[HB.o];rintro _ _ ⟨rfl,rfl⟩)
          go_ret
          exact⟨by rw[HT2.o];rfl,B1.o⟩
         | false =>
          have HB:=η hb
          have HT2:Hid (tot=false):=HT.o.trans (by rw[hb];rfl)
          clear hb
          go_wp2_with (go_at_call 85;refine (mark_any _ _).mono ?_;rw[HB.o];rintro _ _ ⟨rfl,rfl⟩)
          go_ret
          exact⟨by rw[HT2.o];rfl,B1.o⟩
       · have v4:(k==4)=false:=by simpa using c4
         have HT:Hid (tot=false):=HV0.o.trans (by rw[if_neg c1,if_neg c2,if_neg c3,if_neg c4])
         replace c1:=η c1
         replace c2:=η c2
         replace c3:=η c3
         replace c4:=η c4
         go_wp2
         go_ret
         exact⟨by rw[HT.o];rfl,B1.o⟩
theorem quote_at {s:Ê} {j:Nat} (h:j<s.size):(dr s j).flatMap quoteC=quoteC s[j]++(dr s (j+1)).flatMap quoteC:=by
 rw[dr_at h,List.flatMap_cons]
def BldQ (B b:Nat) (w0:À) (a:List UInt8) (w:À):Prop:=Lib.IsBuilder 66 5 B b (Lib.byteCells a) w∧Below B w0 w
theorem quote_any (B b:Nat) (l:List UInt8) (s:Ê) (w:À) (hb:Lib.IsBuilder 66 5 B b (Lib.byteCells l) w) (hlen:l.length+2*s.size+2≤140737488355328) (hBw:B≤w.heap.size) :
 Calls prog 47 #[.pointer (some ⟨b,0,none⟩),.string s] w fun e w'=>e=.returned (.tuple #[])∧BldQ B b w (l++quoteL s.data.toList) w':=by
 have lm:s.size≤9223372036854775807:=by omega
 obtain⟨HL,HW,HB⟩:=zd3 hlen hBw hb
 obtain⟨G,HG⟩:∃G,Hid (G=l++quoteL s.data.toList):=⟨_,rfl⟩
 rw[←HG.o]
 clear hb hlen hBw
 go_in
 go_wp2_with fail
 refine (writeByte_any B b l 34 w HB.o (by have:=HL.o;omega) HW.o).mono ?_
 rintro _ W1 ⟨rfl,h1⟩
 have H1:=η h1
 clear h1
 go_wp2_with fail
 go_loopw [10] (fun i wr=>∃(j:Nat) (a:List UInt8),j≤s.size∧i=.int .i64 j∧Hid (a.length≤l.length+1+2*j)∧Hid (G=a++((dr s j).flatMap quoteC++[34]))∧Hid (BldQ B b w a wr)) (fun i _=>s.size-(intOf i).toNat)
 case atStart=>exact⟨0,l++[34],by omega,rfl,η (by simp),η (by rw[HG.o];unfold quoteL dr;simp),H1.o⟩
 case round =>
  obtain⟨j,a,hj,rfl,HA,HQ,HX⟩:=hrel
  by_cases hlt:j<s.size
  · have u1:decide ((j:Int)<(s.size:Int))=true:=decide_eq_true ω
    have j0:(0:Int)≤(j:Int):=by omega
    have j1:(j:Int)<(s.size:Int):=by omega
    have HQ2:=η (HQ.o.trans (by rw[quote_at hlt]))
    clear HQ
    by_cases hc:s[j].toNat=10
    · have HQ3:=η (HQ2.o.trans (by rw[show quoteC s[j]=[92,110] from by unfold quoteC;rw[if_pos hc]]))
      have t0:((s[j].toNat:Int)==10)=true:=beq_iff_eq.2 ω
      replace hc:=η hc
      go_wp2_with fail
      refine (writeString_any B b a ⟨#[92,110]⟩ wr HX.o.1 (by have:=HA.o;have:=HL.o;show a.length+2≤_;omega) (Nat.le_trans HW.o HX.o.2.size)).mono ?_
      rintro _ W2 ⟨rfl,h2⟩
      have H2:=η h2
      clear h2
      go_wp2_with fail
      exact⟨⟨j+1,a++[92,110],by omega,by go_num,η (by have:=HA.o;simp;omega),η (by rw[HQ3.o];simp only[List.append_assoc]),η ⟨H2.o.1,HX.o.2.trans H2.o.2.1⟩⟩,by simp[intOf];omega⟩
    · have n1:=hc
      clear hc
      by_cases hc:s[j].toNat=9
      · have HQ3:=η (HQ2.o.trans (by rw[show quoteC s[j]=[92,116] from by unfold quoteC;rw[if_neg n1,if_pos hc]]))
        have t0:((s[j].toNat:Int)==10)=false:=beq_eq_false_iff_ne.2 ω
        have t1:((s[j].toNat:Int)==9)=true:=beq_iff_eq.2 ω
        replace hc:=η hc
        go_wp2_with fail
        refine (writeString_any B b a ⟨#[92,116]⟩ wr HX.o.1 (by have:=HA.o;have:=HL.o;show a.length+2≤_;omega) (Nat.le_trans HW.o HX.o.2.size)).mono ?_
        rintro _ W2 ⟨rfl,h2⟩
        have H2:=η h2
        clear h2
        go_wp2_with fail
        exact⟨⟨j+1,a++[92,116],by omega,by go_num,η (by have:=HA.o;simp;omega),η (by rw[HQ3.o];simp only[List.append_assoc]),η ⟨H2.o.1,HX.o.2.trans H2.o.2.1⟩⟩,by simp[intOf];omega⟩
      · have n2:=hc
        clear hc
        by_cases hc:s[j].toNat=34
        · have HQ3:=η (HQ2.o.trans (by rw[show quoteC s[j]=[92,s[j]] from by unfold quoteC;rw[if_neg n1,if_neg n2,if_pos (.inl hc)]]))
          have t0:((s[j].toNat:Int)==10)=false:=beq_eq_false_iff_ne.2 ω
          have t1:((s[j].toNat:Int)==9)=false:=beq_eq_false_iff_ne.2 ω
          have t2:((s[j].toNat:Int)==34)=true:=beq_iff_eq.2 ω
          replace hc:=η hc
          go_wp2_with fail
          refine (writeByte_any B b a 92 wr HX.o.1 (by have:=HA.o;have:=HL.o;simp;omega) (Nat.le_trans HW.o HX.o.2.size)).mono ?_
          rintro _ W2 ⟨rfl,h2⟩
          have H2:=η h2
          clear h2
          go_wp2_with fail
          refine (writeByte_any B b (a++[92]) s[j] W2 H2.o.1 (by have:=HA.o;have:=HL.o;simp;omega) (Nat.le_trans HW.o (HX.o.2.trans H2.o.2).size)).mono ?_
          rintro _ W3 ⟨rfl,h2⟩
          have H3:=η h2
          clear h2
          go_wp2_with fail
          exact⟨⟨j+1,a++[92,s[j]],by omega,by go_num,η (by have:=HA.o;simp;omega),η (by rw[HQ3.o];simp only[List.append_assoc]),η ⟨by have:=H3.o.1;simpa using this,(HX.o.2.trans H2.o.2).trans H3.o.2⟩⟩,by simp[intOf];omega⟩
        · have n3:=hc
          clear hc
          by_cases hc:s[j].toNat=92
          · have HQ3:=η (HQ2.o.trans (by rw[show quoteC s[j]=[92,s[j]] from by unfold quoteC;rw[if_neg n1,if_neg n2,if_pos (.inr hc)]]))
            have t0:((s[j].toNat:Int)==10)=false:=beq_eq_false_iff_ne.2 ω
            have t1:((s[j].toNat:Int)==9)=false:=beq_eq_false_iff_ne.2 ω
            have t2:((s[j].toNat:Int)==34)=false:=beq_eq_false_iff_ne.2 ω
            have t3:((s[j].toNat:Int)==92)=true:=beq_iff_eq.2 ω
            replace hc:=η hc
            go_wp2_with fail
            refine (writeByte_any B b a 92 wr HX.o.1 (by have:=HA.o;have:=HL.o;simp;omega) (Nat.le_trans HW.o HX.o.2.size)).mono ?_
            rintro _ W2 ⟨rfl,h2⟩
            have H2:=η h2
            clear h2
            go_wp2_with fail
            refine (writeByte_any B b (a++[92]) s[j] W2 H2.o.1 (by have:=HA.o;have:=HL.o;simp;omega) (Nat.le_trans HW.o (HX.o.2.trans H2.o.2).size)).mono ?_
            rintro _ W3 ⟨rfl,h2⟩
            have H3:=η h2
            clear h2
            go_wp2_with fail
            exact⟨⟨j+1,a++[92,s[j]],by omega,by go_num,η (by have:=HA.o;simp;omega),η (by rw[HQ3.o];simp only[List.append_assoc]),η ⟨by have:=H3.o.1;simpa using this,(HX.o.2.trans H2.o.2).trans H3.o.2⟩⟩,by simp[intOf];omega⟩
          · have HQ3:=η (HQ2.o.trans (by rw[show quoteC s[j]=[s[j]] from by unfold quoteC;rw[if_neg n1,if_neg n2,if_neg (fun e=>e.elim n3 hc)]]))
            have t0:((s[j].toNat:Int)==10)=false:=beq_eq_false_iff_ne.2 ω
            have t1:((s[j].toNat:Int)==9)=false:=beq_eq_false_iff_ne.2 ω
            have t2:((s[j].toNat:Int)==34)=false:=beq_eq_false_iff_ne.2 ω
            have t3:((s[j].toNat:Int)==92)=false:=beq_eq_false_iff_ne.2 ω
            replace hc:=η hc
            go_wp2_with fail
            refine (writeByte_any B b a s[j] wr HX.o.1 (by have:=HA.o;have:=HL.o;simp;omega) (Nat.le_trans HW.o HX.o.2.size)).mono ?_
            rintro _ W2 ⟨rfl,h2⟩
            have H2:=η h2
            clear h2
            go_wp2_with fail
            exact⟨⟨j+1,a++[s[j]],by omega,by go_num,η (by have:=HA.o;simp;omega),η (by rw[HQ3.o];simp only[List.append_assoc]),η ⟨H2.o.1,HX.o.2.trans H2.o.2⟩⟩,by simp[intOf];omega⟩
  · have u1:decide ((j:Int)<(s.size:Int))=false:=decide_eq_false ω
    have HE:Hid (G=a++[34]):=HQ.o.trans (by rw[show dr s j=[] from List.drop_eq_nil_of_le (by simp;omega)];rfl)
    go_wp2_with fail
    refine (writeByte_any B b a 34 wr HX.o.1 (by have:=HA.o;have:=HL.o;omega) (Nat.le_trans HW.o HX.o.2.size)).mono ?_
    rintro _ W2 ⟨rfl,h2⟩
    have H2:=η h2
    clear h2
    go_wp2_with fail
    first|go_end0|refine bodyPost_ret (results_none rfl _ _ _) rfl ?_
    exact⟨rfl,by rw[HE.o];exact⟨H2.o.1,HX.o.2.trans H2.o.2⟩⟩
def manyP:Nat→Nd→Int
 | 0,_=>1000000
 | k+1,.mk _ s _ _ a=>a.foldl (fun acc x=>wrap64 (acc+manyP k x)) (wrap64 (1+s.size))
def MnSaid (o:Int) (w:À) (e:Ending) (w':À):Prop:=e=.returned (.int .i64 o)∧Below w.heap.size w w'
theorem many_any (k:Nat):∀(cs:List Value) (t:Nd) (d:Int) (w:À),d+1=k→k≤1000→NdR w (lo w) cs t→Calls prog 26 #[.agg cs.toArray,.int .i64 d] w (MnSaid (manyP k t) w):=by
 induction k with
 | zero =>
  intro cs t d w hd _ hr
  obtain⟨k0,s,m,p,a,A,cap,rfl,rfl,_,hs,ha⟩:=nd_form hr
  have u0:decide (d<0)=true:=decide_eq_true ω
  obtain⟨W1,hW1⟩:∃q,Hid (q=w.alloc (.cells (cl k0 s m p A a.length cap).toArray 24)):=⟨_,rfl⟩
  have B1:Hid (Below w.heap.size w W1):=by show Below _ _ _;rw[hW1.o];exact belA (belR _) _
  clear hr ha hs hd
  go_in
  go_upto_region 1 with fail
  rw[←hW1.o]
  go_wp2
  go_ret
  exact⟨rfl,B1.o⟩
 | succ k ih =>
  intro cs t d w hd hk hr
  obtain⟨k0,s,m,p,a,A,cap,rfl,rfl,_,hs,ha⟩:=nd_form hr
  have lm:a.length≤9223372036854775807:=ha.len.2
  have IH:Hid (∀(cs:List Value) (t:Nd) (w:À),NdR w (lo w) cs t→Calls prog 26 #[.agg cs.toArray,.int .i64 (d-1)] w (MnSaid (manyP k t) w)):=fun cs t w h=>ih cs t (d-1) w ω ω h
  obtain⟨HA,HS⟩:=zd2 ha hs
  have u0:decide (d<0)=false:=decide_eq_false ω
  have d1:-9223372036854775808≤d-1:=by omega
  have d2:d-1≤9223372036854775807:=by omega
  obtain⟨tot,HV⟩:∃q,Hid (q=manyP (k+1) (.mk k0 s m p a)):=⟨_,rfl⟩
  rw[←HV.o]
  obtain⟨W1,hW1⟩:∃q,Hid (q=w.alloc (.cells (cl k0 s m p A a.length cap).toArray 24)):=⟨_,rfl⟩
  have B1:Hid (Below w.heap.size w W1):=by show Below _ _ _;rw[hW1.o];exact belA (belR _) _
  have BX1:Hid (Hs W1 w.heap.size 24 (cl k0 s m p A a.length cap).toArray):=by show Hs _ _ _ _;rw[hW1.o];exact Hs.new _ _ _
  have x1:W1.cell? ⟨w.heap.size,1,none⟩=some (.string s):=BX1.o.c 1
  clear hr ha hs hd hk ih
  go_in
  go_upto_region 1 with fail
  rw[←hW1.o]
  clear hW1
  go_wp2_with fail
  clear x1
  have HV0:Hid (tot=(a.drop 0).foldl (fun acc x=>wrap64 (acc+manyP k x)) (wrap64 (1+s.size))):=HV.o.trans rfl
  go_loopw [5,6] (fun v i wr=>∃(j:Nat) (acc:Int),j≤a.length∧i=.int .i64 j∧v=.int .i64 acc∧Hid (tot=(a.drop j).foldl (fun acc x=>wrap64 (acc+manyP k x)) acc)∧Hid (Below w.heap.size w wr)∧Hid (Hs wr w.heap.size 24 (cl k0 s m p A a.length cap).toArray)) (fun _ i _=>a.length-(intOf i).toNat)
  case atStart=>exact⟨0,_,by omega,rfl,rfl,HV0.o,B1.o,BX1.o⟩
  case round =>
   obtain⟨j,acc,hj,rfl,rfl,HQ,HB,HX⟩:=hrel
   have b4:=HX.o.cell 4
   by_cases hlt:j<a.length
   · have u1:decide ((j:Int)<(a.length:Int))=true:=decide_eq_true ω
     have HAT:=η (HQ.o.trans (by rw[List.drop_eq_getElem_cons hlt,List.foldl_cons]))
     obtain⟨g,off,k1,s1',m1,p1,D1,l1,c1,rfl,hg,hr1,e0,e1,e2,e3,e4⟩:=nds_at (NdsR.to HA.o (sub_lo HB.o)) hlt
     have HR:=η hr1
     have j0:(0:Int)≤(j:Int):=by omega
     have j1:(j:Int)<(a.length:Int):=by omega
     clear hr1 hg HQ
     go_wp2_with (go_at_call 26;refine (IH.o _ _ _ HR.o).mono ?_;rintro _ w2 ⟨rfl,hb2⟩)
     exact⟨⟨j+1,_,by omega,by go_num,rfl,HAT.o,bel HB.o hb2,hs_bel HX.o hb2⟩,by simp[intOf];omega⟩
   · have u1:decide ((j:Int)<(a.length:Int))=false:=decide_eq_false ω
     have HE:Hid (tot=acc):=HQ.o.trans (by rw[List.drop_eq_nil_of_le ω,List.foldl_nil])
     go_wp2
     go_ret
     rw[HE.o]
     exact⟨rfl,HB.o⟩
def sizedP (t:Nd):Bool:=decide (manyP 46 t≤3000)
theorem sized_any (cs:List Value) (t:Nd) (w:À) (hr:NdR w (lo w) cs t):Calls prog 11 #[.agg cs.toArray] w fun e w'=>e=.returned (.bool (sizedP t))∧Below w.heap.size w w':=by
 obtain⟨k0,s,m,p,a,A,cap,rfl,rfl,_,_,_⟩:=nd_form hr
 have HR:=η hr
 obtain⟨W1,hW1⟩:∃q,Hid (q=w.alloc (.cells (cl k0 s m p A a.length cap).toArray 24)):=⟨_,rfl⟩
 have B1:Hid (Below w.heap.size w W1):=by show Below _ _ _;rw[hW1.o];exact belA (belR _) _
 have BX1:Hid (Hs W1 w.heap.size 24 (cl k0 s m p A a.length cap).toArray):=by show Hs _ _ _ _;rw[hW1.o];exact Hs.new _ _ _
 clear hr
 go_in
 go_upto_region 1 with fail
 rw[←hW1.o]
 clear hW1
 go_wp2_with (first|(refine lr5 BX1 ?_)|(go_at_call 26;refine (many_any 46 (cl k0 s m p A a.length cap) _ 45 W1 rfl π (NdR.to HR.o (sub_lo B1.o))).mono ?_;rintro _ w2 ⟨rfl,hb2⟩))
 go_ret
 exact⟨rfl,bel B1.o hb2⟩
def restW (ts:List Tk) (j:Nat):List UInt8:=if j=0 then wTks ts else if j<ts.length then 32::wTks (ts.drop j) else []
theorem wTks_at {ts:List Tk} {j:Nat} (h:j<ts.length):wTks (ts.drop j)=wTk ts[j]++restW ts (j+1):=by
 unfold restW
 rw[if_neg (Nat.succ_ne_zero j),List.drop_eq_getElem_cons h]
 split
 · rename_i h2
   rw[List.drop_eq_getElem_cons h2,wTks]
   exact fun e=>by cases e
 · rename_i h2
   rw[List.drop_eq_nil_of_le ω,wTks,List.append_nil]
theorem restW_end (ts:List Tk):restW ts ts.length=[]:=by
 unfold restW
 split
 · rename_i h
   rw[List.length_eq_zero_iff.1 h,wTks]
 · rw[if_neg (Nat.lt_irrefl _)]
theorem restW_more {ts:List Tk} {j:Nat} (h:j<ts.length) (h0:0<j):restW ts j=32::(wTk ts[j]++restW ts (j+1)):=by
 rw[←wTks_at h];unfold restW;rw[if_neg ω,if_pos h]
theorem restW_zero {ts:List Tk} (h:0<ts.length):restW ts 0=wTk ts[0]++restW ts 1:=by
 rw[←wTks_at h];rfl
def TkW (cs:List Value) (t:Tk):Prop:=cs=[.int .i64 t.kind,.string t.text,.int .i64 t.n,.int .i64 t.pos]∧t.text.size≤maxLen
theorem writeL_bad {ts:List Tk} {j:Nat} (h:j<ts.length) (hb:tokB ts[j]=false):writeL ts=[]:=by
 unfold writeL
 rw[if_neg]
 intro e
 rw[List.all_eq_true] at e
 rw[e _ (List.getElem_mem h)] at hb
 cases hb
theorem writeL_good {ts:List Tk} (h:∀j (h:j<ts.length),tokB ts[j]=true):writeL ts=wTks ts:=by
 unfold writeL
 rw[if_pos]
 rw[List.all_eq_true]
 intro t ht
 obtain⟨j,hj,e⟩:=List.getElem_of_mem ht
 rw[←e];exact h j hj
section
def ndK:Nd→Int|.mk k _ _ _ _=>k
def ndS:Nd→Ê|.mk _ s _ _ _=>s
def ndT (n:Nd):List UInt8:=(ndS n).data.toList
def ndN:Nd→Int|.mk _ _ n _ _=>n
def ndP:Nd→Int|.mk _ _ _ p _=>p
def ndL:Nd→List Nd|.mk _ _ _ _ a=>a
inductive Wp where
 | upp|low|msg|bnd|pat|typ
def Wp.b:Wp→List UInt8→Bool
 | .upp=>uppB
 | .low=>lowB
 | .msg=>msgB
 | .bnd=>bndB
 | .pat=>patB
 | .typ=>typB
inductive Sh where
 | typ|fld|ctor|mem|exp|set|arm|blk|stm|sarm|snd|ans|dcl|chg
 | leaf (k:Int) (p:Wp)
def bareB (n:Nd):Bool:=ndT n==[]&&ndN n==0
def namB (p:Wp) (n:Nd):Bool:=p.b (ndT n)&&ndN n==0
section
variable (f:Sh→Nd→Bool)
def serB:List Nd→List Sh→Bool
 | [],[]=>true
 | x::l,s::q=>f s x&&serB l q
 | _,_=>false
def endB (l:List Nd) (a:Sh) (q:List Sh):Bool:=decide (q.length≤l.length)&&((l.take (l.length-q.length)).all (f a)&&serB f (l.drop (l.length-q.length)) q)
def begB (a b:Sh):List Nd→Bool
 | []=>false
 | x::r=>f a x&&r.all (f b)
def cnsB (n:Nd):Bool:=
 if ndK n=20 then ndT n==[]&&decide (0≤ndN n)&&decide (ndN n≤9007199254740992)
 else if ndK n=21 then ndN n==0&&decide ((ndS n).size≤4096)
 else if ndK n=22 then ndT n==[]&&(ndN n==0||ndN n==1)
 else if ndK n=24 then namB .low n
 else bareB n
def casB (n:Nd) (last:Sh):Bool:=if ndT n=[95]∧(ndL n).length≠1 then false else namB .pat n&&endB f (ndL n) (.leaf 40 .bnd) [last]
def leadB:List Nd→Nat
 | []=>0
 | x::r=>if ndK x=7 then leadB r+1 else 0
def expB (n:Nd):Bool:=
 if ndK n=20∨ndK n=21∨ndK n=22∨ndK n=23∨ndK n=24∨ndK n=25 then (ndL n).length==0&&cnsB n
 else if ndK n=26 then bareB n&&(ndL n).all (f .exp)
 else if ndK n=27 then namB .upp n&&(ndL n).all (f .set)
 else if ndK n=29 then namB .upp n&&(ndL n).all (f .exp)
 else if ndK n=30 then namB .low n&&serB f (ndL n) [.exp]
 else if ndK n=31 then bareB n&&decide (1<(ndL n).length)&&begB f .exp .set (ndL n)
 else if ndK n=32 then bareB n&&begB f .exp .exp (ndL n)
 else if ndK n=33∨ndK n=34 then bareB n&&serB f (ndL n) [.exp]
 else if ndK n=35 then (levP (ndT n)).isSome&&ndN n==0&&serB f (ndL n) [.exp,.exp]
 else if ndK n=36 then bareB n&&serB f (ndL n) [.exp,.exp,.exp]
 else if ndK n=37 then namB .low n&&serB f (ndL n) [.exp,.exp]
 else if ndK n=38 then bareB n&&decide (1<(ndL n).length)&&begB f .exp .arm (ndL n)
 else if ndK n=41 then bareB n&&endB f (ndL n) .fld [.typ,.exp]
 else false
def stmB (n:Nd):Bool:=
 if ndK n=50∨ndK n=51 then namB .low n&&serB f (ndL n) [.exp]
 else if ndK n=52 then bareB n&&(serB f (ndL n) [.exp,.blk]||serB f (ndL n) [.exp,.blk,.blk])
 else if ndK n=53 then bareB n&&decide (1<(ndL n).length)&&begB f .exp .sarm (ndL n)
 else if ndK n=55 then namB .low n&&serB f (ndL n) [.exp,.blk]
 else if ndK n=56 then namB .upp n&&begB f .exp .exp (ndL n)
 else if ndK n=57 then bareB n&&serB f (ndL n) [.exp,.snd]
 else if ndK n=58 then (if ndN n=1∧(ndL n).length<2 then false else uppB (ndT n)&&(ndN n==0||ndN n==1)&&begB f (.leaf 40 .bnd) .exp (ndL n))
 else if ndK n=59 then namB .low n&&endB f (ndL n) .exp [.leaf 75 .upp]
 else if ndK n=60 then bareB n&&(ndL n).length==0
 else if ndK n=61 then bareB n&&serB f (ndL n) [.exp]
 else false
def dclB (n:Nd):Bool:=
 if ndK n=2 then namB .upp n&&(ndL n).all (f .fld)
 else if ndK n=3 then namB .upp n&&decide (0<(ndL n).length)&&(ndL n).all (f .ctor)
 else if ndK n=4 then namB .low n&&endB f (ndL n) .fld [.typ]
 else if ndK n=5 then namB .low n&&endB f (ndL n) .fld [.typ,.exp]
 else if ndK n=6 then uppB (ndT n)&&decide (-1≤ndN n)&&decide (ndN n≤9007199254740993)&&((ndL n).take (leadB (ndL n))).all (f .fld)&&((ndL n).drop (leadB (ndL n))).all (f .mem)
 else false
def hdB (p:Wp):List Nd→Bool
 | []=>false
 | x::_=>f (.leaf 24 p) x
def cngB (n:Nd):Bool:=
 if ndK n=70 then (if uppB (ndT n)=false∨(ndN n≠0∧ndN n≠1) then false else if ndN n=1 then hdB f .upp (ndL n)&&endB f (ndL n).tail .fld [.exp] else endB f (ndL n) .fld [.exp])
 else if ndK n=71 then namB .upp n&&((ndL n).take (leadB (ndL n))).all (f .fld)&&((ndL n).drop (leadB (ndL n))).all (f .set)
 else if ndK n=72 then namB .upp n&&hdB f .msg (ndL n)&&endB f (ndL n).tail .fld [.ans]
 else if ndK n=73 then uppB (ndT n)&&decide (0≤ndN n)&&decide (ndN n≤9007199254740992)&&(ndL n).length==0
 else if ndK n=74 then namB .upp n&&(ndL n).length==0
 else false
def typeB (n:Nd):Bool:=
 if ndK n=12 then namB .typ n&&(ndL n).length==0
 else if ndK n=13 then bareB n&&serB f (ndL n) [.typ]
 else if ndK n=14 then namB .upp n&&(ndL n).length==0
 else if ndK n=15 then bareB n&&decide (0<(ndL n).length)&&(ndL n).all (f .typ)
 else false
def shpB:Sh→Nd→Bool
 | .typ,n=>typeB f n
 | .fld,n=>ndK n==7&&namB .low n&&serB f (ndL n) [.typ]
 | .ctor,n=>ndK n==8&&namB .upp n&&(ndL n).all (f .typ)
 | .mem,n=>if ndK n=9 then namB .low n&&serB f (ndL n) [.typ,.exp] else ndK n==10&&namB .upp n&&endB f (ndL n) .fld [.blk]
 | .exp,n=>expB f n
 | .set,n=>ndK n==28&&namB .low n&&serB f (ndL n) [.exp]
 | .arm,n=>ndK n==39&&casB f n .exp
 | .blk,n=>ndK n==11&&bareB n&&(ndL n).all (f .stm)
 | .stm,n=>stmB f n
 | .sarm,n=>ndK n==54&&casB f n .blk
 | .snd,n=>ndK n==56&&namB .upp n&&begB f .exp .exp (ndL n)
 | .ans,n=>ndK n==75&&namB .msg n&&(ndL n).all (f .exp)
 | .dcl,n=>dclB f n
 | .chg,n=>cngB f n
 | .leaf k p,n=>ndK n==k&&namB p n&&(ndL n).length==0
end
def shp:Nat→Sh→Nd→Bool
 | 0,_,_=>false
 | k+1,s,n=>shpB (shp k) s n
def rightB (n:Nd):Bool:=ndK n==1&&bareB n&&(ndL n).all fun x=>shp 40 .dcl x||shp 40 .chg x
end
end Go.Proofs.YtbjdcogmiggamaaGreatDoor
