import Derived.Laws.RangeAny
import Derived.Test.YtbmknjfgjphfbaaGreatDoorZ15
set_option linter.all false
namespace Go.Proofs.YtbmknjfgjphfbaaGreatDoor
set_option maxRecDepth 100000
set_option maxHeartbeats 8000000
section
open Proofs.Tryz RowKit Maps WideMaps ChangeMaps
theorem nds_at {w:À} {P:Nat→Prop} {A:Option Addr} {n cap:Nat} {l:List Nd} (h:NdsR w P (.slice A n cap) l) {i:Nat} (hi:i<l.length) :
 ∃g off k s m p D ln c,A=some ⟨g,off,none⟩∧P g∧NdR w P (cl k s m p D ln c) l[i]∧w.cell? ⟨g,off+i*5,none⟩=some (.int .i64 k)∧w.cell? ⟨g,off+i*5+1,none⟩=some (.string s)∧w.cell? ⟨g,off+i*5+2,none⟩=some (.int .i64 m)∧w.cell? ⟨g,off+i*5+3,none⟩=some (.int .i64 p)∧w.cell? ⟨g,off+i*5+4,none⟩=some (.slice D ln c):=by
 obtain⟨g,off,cs,hA,hg,hr,_,hc⟩:=SlR.at h hi
 have hr2:=hr
 obtain⟨k,s,m,p,a,D,c,rfl,e,_⟩:=nd_form hr
 exact⟨g,off,k,s,m,p,D,a.length,c,hA,hg,hr2,hc 0 _ rfl,hc 1 _ rfl,hc 2 _ rfl,hc 3 _ rfl,hc 4 _ rfl⟩
def DpSaid (o:Option Int) (w:À) (e:Ending) (w':À):Prop:=e=.returned (.tuple #[.int .i64 (o.getD 0),.bool o.isSome])∧Below w.heap.size w w'
theorem deepL_at {d:Nat} {l:List Nd} {j:Nat} (h:j<l.length):deepL d (l.drop j)=match deepP d l[j] with|some q=>some q|none=>deepL d (l.drop (j+1)):=by
 rw[List.drop_eq_getElem_cons h,deepL];cases deepP d l[j]<;>rfl
theorem deep_any (k:Nat):∀(cs:List Value) (t:Nd) (d:Nat) (w:À),d+k=41→NdR w (lo w) cs t→Calls prog 58 #[.agg cs.toArray,.int .i64 (d:Int)] w (DpSaid (deepP d t) w):=by
 induction k with
 | zero =>
  intro cs t d w hd hr
  obtain⟨k0,s,m,p,a,A,cap,rfl,rfl,_,hs,ha⟩:=nd_form hr
  have u0:decide ((40:Int)<(d:Int))=true:=decide_eq_true ω
  have HV:Hid (deepP d (.mk k0 s m p a)=some p):=by show _=_;rw[deepP,if_pos ω]
  obtain⟨W1,hW1⟩:∃q,Hid (q=w.alloc (.cells (cl k0 s m p A a.length cap).toArray 83)):=⟨_,rfl⟩
  have B1:Hid (Below w.heap.size w W1):=by show Below _ _ _;rw[hW1.o];exact belA (belR _) _
  have b3:W1.cell? ⟨w.heap.size,3,none⟩=some (.int .i64 p):=by rw[hW1.o];exact (Hs.new _ _ _).c 3
  clear hr ha hs hd
  go_in
  go_upto_region 1 with fail
  rw[←hW1.o]
  go_wp2
  go_ret2
  unfold DpSaid
  rw[HV.o]
  exact⟨rfl,B1.o⟩
 | succ k ih =>
  intro cs t d w hd hr
  obtain⟨k0,s,m,p,a,A,cap,rfl,rfl,_,hs,ha⟩:=nd_form hr
  have lm:a.length≤9223372036854775807:=ha.len.2
  have IH:Hid (∀(cs:List Value) (t:Nd) (w:À),NdR w (lo w) cs t→Calls prog 58 #[.agg cs.toArray,.int .i64 ((d+1:Nat):Int)] w (DpSaid (deepP (d+1) t) w)):=fun cs t w h=>ih cs t (d+1) w ω h
  have HA:=η ha
  have u0:decide ((40:Int)<(d:Int))=false:=decide_eq_false ω
  obtain⟨HW,HW2,HW3⟩:=dw5 d ω
  have HV:Hid (deepP d (.mk k0 s m p a)=deepL (d+1) (a.drop 0)):=by show _=_;rw[deepP,if_neg ω];rfl
  obtain⟨tot,htot⟩:∃z,z=deepP d (.mk k0 s m p a):=⟨_,rfl⟩
  rw[←htot] at HV
  rw[←htot]
  obtain⟨W1,hW1⟩:∃q,Hid (q=w.alloc (.cells (cl k0 s m p A a.length cap).toArray 83)):=⟨_,rfl⟩
  have B1:Hid (Below w.heap.size w W1):=by show Below _ _ _;rw[hW1.o];exact belA (belR _) _
  have BX1:Hid (Hs W1 w.heap.size 83 (cl k0 s m p A a.length cap).toArray):=by show Hs _ _ _ _;rw[hW1.o];exact Hs.new _ _ _
  clear ih hr ha hs htot
  go_in
  go_upto_region 1 with fail
  rw[←hW1.o]
  clear hW1
  have b4:W1.cell? ⟨w.heap.size,4,none⟩=some (.slice A a.length cap):=BX1.o.cell 4
  go_wp2_with fail
  clear b4
  go_loopw [17] (fun i wr=>∃(j:Nat),j≤a.length∧i=.int .i64 j∧Hid (tot=deepL (d+1) (a.drop j))∧Hid (Below w.heap.size w wr)∧Hid (Hs wr w.heap.size 83 (cl k0 s m p A a.length cap).toArray)) (fun i _=>a.length-(intOf i).toNat)
  case atStart=>exact⟨0,by omega,rfl,HV.o,B1.o,BX1.o⟩
  case round =>
   obtain⟨j,hj,rfl,HQ,HB,HX⟩:=hrel
   by_cases hlt:j<a.length
   · have u1:decide ((j:Int)<(a.length:Int))=true:=decide_eq_true ω
     have HAT:=η (HQ.o.trans (deepL_at hlt))
     obtain⟨g,off,k1,s1,m1,p1,D1,l1,c1,rfl,hg,hr1,e0,e1,e2,e3,e4⟩:=nds_at (NdsR.to HA.o (sub_lo HB.o)) hlt
     have HR:=η hr1
     have j0:(0:Int)≤(j:Int):=by omega
     have j1:(j:Int)<(a.length:Int):=by omega
     obtain⟨W2,hW2⟩:∃q,Hid (q=wr.alloc (.cells (cl k1 s1 m1 p1 D1 l1 c1).toArray 83)):=⟨_,rfl⟩
     have B2:Hid (Below wr.heap.size wr W2):=by show Below _ _ _;rw[hW2.o];exact belA (belR _) _
     have BX2:Hid (Hs W2 wr.heap.size 83 (cl k1 s1 m1 p1 D1 l1 c1).toArray):=by show Hs _ _ _ _;rw[hW2.o];exact Hs.new _ _ _
     clear hr1 hg HQ
     go_upto_region 6 with fail
     rw[←hW2.o]
     clear hW2 e0 e1 e2 e3 e4
     cases hq:deepP (d+1) a[j] with
     | none =>
      have HD:=η (HAT.o.trans (by rw[hq]))
      go_wp2_with (first|(refine lr5 BX2 ?_)|(go_at_call 58;first|rw[HW.o]|rw[HW2.o]|rw[HW3.o];refine (IH.o _ _ _ (HR.o.to (sub_lo B2.o))).mono ?_;rw[hq];rintro e2 w2 ⟨rfl,hb2⟩))
      refine⟨⟨j+1,by omega,by go_num,HD.o,bel (bel HB.o B2.o) hb2,hs_bel (hs_bel HX.o B2.o) hb2⟩,by simp[intOf];omega⟩
     | some q =>
      have HD:=η (HAT.o.trans (by rw[hq]))
      go_wp2_with (first|(refine lr5 BX2 ?_)|(go_at_call 58;first|rw[HW.o]|rw[HW2.o]|rw[HW3.o];refine (IH.o _ _ _ (HR.o.to (sub_lo B2.o))).mono ?_;rw[hq];rintro e2 w2 ⟨rfl,hb2⟩))
      go_ret2
      unfold DpSaid
      rw[HD.o]
      exact⟨rfl,bel (bel HB.o B2.o) hb2⟩
   · have u1:decide ((j:Int)<(a.length:Int))=false:=decide_eq_false ω
     have HE:Hid (tot=none):=by show _=_;rw[HQ.o,List.drop_eq_nil_of_le ω,deepL]
     go_wp2
     go_ret2
     unfold DpSaid
     rw[HE.o]
     exact⟨rfl,HB.o⟩
end
section
open Proofs.Tryz RowKit Maps WideMaps ChangeMaps
theorem ins_step (w:À) {ops:Array Oper} {rest:List Oper} {o:Oper} {a:Act} {Q:Exit→Act→À→Prop} (hg:o.guard=none) (m x v:Operand) (hop:o.op=Op.insert 90 m x v) (b n:Nat) (f:List UInt8→Option Value)
 (hm:a.eval m=.map (some b)) (his:MapIs prog 9 Lit.string w b n f) (hn:n≤100) (s:Ê) (val:Value) (hx:a.eval x=.string s) (hv:a.eval v=val) (hs:s.size≤100)
 (hk:∀w',MapIs prog 9 Lit.string w' b (if (f s.data.toList).isSome then n else n+1) (upd f s.data.toList (some val))→w.grownBy w' (some b)→wpList prog ops Q rest (a.put o.dst undef) w') :
 wpList prog ops Q (o::rest) a w:=
 wpList_put_is w hg m x v 90 (.inr hop) 3 (keyStr underlying9) underlying90 b n f hm his (by unfold maxLen;omega) s.data.toList (.string s) val hx hv (keyOf_string_mk underlying9 (by unfold maxLen;omega)) hk
def OpS (w:À) (K:Nat) (f:List UInt8→Option Value) (W:À) (n:Nat):Prop:=MapIs prog 9 Lit.string W w.heap.size n f∧n≤K∧Below w.heap.size w W∧w.heap.size<W.heap.size
theorem OpS.step {w:À} {K:Nat} {f:List UInt8→Option Value} {W W':À} {n:Nat} {s:List UInt8} {v:Value} (h:Hid (OpS w K f W n)) (h1:MapIs prog 9 Lit.string W' w.heap.size (if (f s).isSome then n else n+1) (upd f s (some v))) (hg:W.grownBy W' (some w.heap.size)):Hid (OpS w (K+1) (upd f s (some v)) W' (if (f s).isSome then n else n+1)):=
 ⟨h1,by have:=h.o.2.1;split<;>omega,Below.grown h.o.2.2.1 hg (by have:=h.o.2.2.2;omega) (fun j hj=>by injection hj with hj;omega),Nat.lt_of_lt_of_le h.o.2.2.2 hg.size⟩
theorem OpS.start (w:À):Hid (OpS w 0 (fun _=>none) (w.alloc (.map #[] 0)) 0):=⟨MapIs.made _ _ _ _,Nat.le_refl _,belA (belR _) _,by simp⟩
theorem operators_any (w:À):Calls prog 56 #[] w fun e w'=>∃mb n,e=.returned (.map (some mb))∧Below w.heap.size w w'∧w.heap.size≤mb∧mb<w'.heap.size∧MapIs prog 9 Lit.string w' mb n levF:=by
 have hmm:=@run_makeMap prog
 have M:=OpS.start w
 go_in
 go_wp2_with (first|(refine ins_step _ rfl _ _ _ rfl w.heap.size _ _ rfl M.out.1 (Nat.le_trans M.out.2.1 π) _ _ rfl rfl π ?_;intro w1 M1 G1;replace M:=OpS.step M M1 G1;clear M1 G1))
 go_ret
 refine⟨_,rfl,M.out.2.2.1,Nat.le_refl _,M.out.2.2.2,_,M.out.1.congr fun s=>?_⟩
 rcases Decidable.em (s=[111,114]) with rfl|h0
 · rfl
 rcases Decidable.em (s=[97,110,100]) with rfl|h1
 · rfl
 rcases Decidable.em (s=[61,61]) with rfl|h2
 · rfl
 rcases Decidable.em (s=[33,61]) with rfl|h3
 · rfl
 rcases Decidable.em (s=[60]) with rfl|h4
 · rfl
 rcases Decidable.em (s=[60,61]) with rfl|h5
 · rfl
 rcases Decidable.em (s=[62]) with rfl|h6
 · rfl
 rcases Decidable.em (s=[62,61]) with rfl|h7
 · rfl
 rcases Decidable.em (s=[43,43]) with rfl|h8
 · rfl
 rcases Decidable.em (s=[43]) with rfl|h9
 · rfl
 rcases Decidable.em (s=[45]) with rfl|h10
 · rfl
 rcases Decidable.em (s=[42]) with rfl|h11
 · rfl
 rcases Decidable.em (s=[47]) with rfl|h12
 · rfl
 rcases Decidable.em (s=[37]) with rfl|h13
 · rfl
 simp[upd,levF,levP,h0,h1,h2,h3,h4,h5,h6,h7,h8,h9,h10,h11,h12,h13]
end
section
open Proofs.Tryz RowKit
open Go.RowKit
def okP (v:Option Int):Value:=.tuple #[.int .i64 (v.getD 0),.bool v.isSome]
theorem okP_no {v:Option Int} (h:v=none):Ending.returned (.tuple #[.int .i64 0,.bool false])=.returned (okP v):=by rw[h];rfl
theorem okP_yes {v:Option Int} {n:Int} (h:v=some n):Ending.returned (.tuple #[.int .i64 n,.bool true])=.returned (okP v):=by rw[h];rfl
theorem data_length (s:Ê):s.data.toList.length=s.size:=Array.length_toList
theorem isEmpty_ne {s:Ê} (h:1≤s.size):s.toList.isEmpty=false:=by
 rw[ByteArray.toList_eq]
 cases hl:s.data.toList with
 | nil=>have:=data_length s;rw[hl] at this;simp at this;omega
 | cons=>rfl
theorem data_at (d:Ê) (k:Nat) (h:k<d.size):d.data.toList.drop k=d[k]::d.data.toList.drop (k+1):=by
 rw[List.drop_eq_getElem_cons (by rw[data_length];exact h)];rfl
theorem data_head (d:Ê) (h:0<d.size):d.data.toList.head?=some d[0]:=by
 have:=data_at d 0 h
 rw[List.drop_zero] at this
 rw[this];rfl
theorem data_extract1 (s:Ê):(s.extract 1 s.size).data.toList=s.data.toList.tail:=by
 simp only[ByteArray.data_extract,Array.toList_extract,List.extract_eq_take_drop]
 rw[show s.size-1=(s.data.toList.drop 1).length by rw[List.length_drop,data_length],List.take_length,List.drop_one]
theorem acc_step (d:Ê) (k:Nat) (h:k<d.size) (n:Int):accN (d.data.toList.drop k) n=if d[k].toNat<48∨57<d[k].toNat then none else if n<(-9223372036854775808+((d[k].toNat:Int)-48)).tdiv 10 then none else accN (d.data.toList.drop (k+1)) (n*10-((d[k].toNat:Int)-48)):=by
 rw[data_at d k h];rfl
theorem acc_end (d:Ê) (n:Int):accN (d.data.toList.drop d.size) n=some n:=by
 rw[List.drop_of_length_le (by rw[data_length];exact Nat.le_refl _)];rfl
theorem tdiv_mul (d n:Int) (h:0≤d) (h':d≤9) (hq:(-9223372036854775808+d).tdiv 10≤n):-9223372036854775808≤n*10-d:=by
 have e:∀k:Int,(0≤k∧k≤8→(-9223372036854775808+k).tdiv 10=-922337203685477580)∧(k=9→(-9223372036854775808+k).tdiv 10=-922337203685477579):=by
  intro k
  refine⟨fun hk=>?_,fun hk=>by subst hk;decide⟩
  have:k=0∨k=1∨k=2∨k=3∨k=4∨k=5∨k=6∨k=7∨k=8:=by omega
  rcases this with rfl|rfl|rfl|rfl|rfl|rfl|rfl|rfl|rfl<;>decide
 by_cases h9:d=9
 · have:=(e d).2 h9;omega
 · have:=(e d).1 ω;omega
def Fin (s d:Ê) (neg:Bool) (lo hi:Int):Prop:=∀r,accN d.data.toList 0=r→numP s.data.toList lo hi=r.bind fun n=>finN neg n lo hi
theorem fin_neg (s:Ê) (lo hi:Int) (h:1≤s.size) (c:Nat) (hc:c=s[0].toNat) (h45:c=45) (d:Ê) (hd:s.extract 1 s.size=d) (hd1:1≤d.size) (h48:d[0].toNat≠48):Fin s d true lo hi:=by
 intro r hr
 have e1:d.data.toList=s.data.toList.tail:=by rw[←hd,data_extract1]
 have e2:s.data.toList.head?=some 45:=by
  rw[data_head s ω]
  congr 1
  apply UInt8.toNat_inj.1
  rw[←hc,h45];rfl
 unfold numP
 rw[if_pos e2,←e1,if_neg,hr]
 rintro (he|he)
 · have:=data_length d;rw[he] at this;simp at this;omega
 · rw[data_head d ω] at he
   injection he with he
   exact h48 (by rw[he];rfl)
theorem fin_pos (s:Ê) (lo hi:Int) (h:1≤s.size) (c:Nat) (hc:c=s[0].toNat) (h45:c≠45) (h48:c≠48∨s.data.toList=[48]):Fin s s false lo hi:=by
 intro r hr
 have e2:s.data.toList.head?≠some 45:=by
  rw[data_head s ω]
  intro he
  injection he with he
  exact h45 (by rw[hc,he];rfl)
 unfold numP
 rw[if_neg e2,if_neg,hr]
 rintro (he|⟨he,h2⟩)
 · have:=data_length s;rw[he] at this;simp at this;omega
 · rcases h48 with h48|h48
   · rw[data_head s ω] at he
     injection he with he
     exact h48 (by rw[hc,he];rfl)
   · exact h2 h48
theorem numParse_neg (s:Ê) (lo hi:Int) (w:À) (h:1≤s.size) (h0:s.size≤9223372036854775807) (c:Nat) (hm:c=s[0].toNat) (hc:c=45) :
 Calls prog 34 #[.string s,.int .i64 lo,.int .i64 hi] w fun e w'=>e=.returned (okP (numP s.data.toList lo hi))∧Below w.heap.size w w':=by
 have e1:s.toList.isEmpty=false:=isEmpty_ne h
 have e2:¬s.toList=[]:=by simpa using e1
 have e3:((s[0].toNat:Int)==45)=true:=by rw[←hm,hc];rfl
 have hfz:=η (fin_neg s lo hi h c hm hc)
 have hnone:Hid ((s.extract 1 s.size).size=0→numP s.data.toList lo hi=none):=fun hz=>by
  unfold numP
  rw[if_pos (by rw[data_head s ω];congr 1;apply UInt8.toNat_inj.1;rw[←hm,hc];rfl),if_pos]
  left;rw[←data_extract1];have:=data_length (s.extract 1 s.size);rw[hz] at this;exact List.length_eq_zero_iff.1 this
 have hzero:Hid (∀d:Ê,s.extract 1 s.size=d→∀hz:1≤d.size,d[0].toNat=48→numP s.data.toList lo hi=none):=fun d hd hz h48=>by
  unfold numP
  rw[if_pos (by rw[data_head s ω];congr 1;apply UInt8.toNat_inj.1;rw[←hm,hc];rfl),if_pos]
  right;rw[←data_extract1,hd,data_head d ω];congr 1;exact UInt8.toNat_inj.1 (by rw[h48];rfl)
 have hne:(s.toList==[48])=false:=by
  rw[ByteArray.toList_eq,beq_eq_false_iff_ne]
  intro he
  have:=data_head s ω
  rw[he] at this
  injection this with this
  rw[hc,←this] at hm
  exact absurd hm π
 obtain⟨HM,HC⟩:=zd2 hm hc
 clear hm hc
 go_in
 go_upto_region 4 with fail
 have hds:(s.extract 1 s.size).size≤9223372036854775807:=by rw[ByteArray.size_extract];omega
 generalize hd:s.extract 1 s.size=d at hds
 have HD:=η hd;clear hd
 by_cases hd1:d.size=0
 · have HR:=η (hnone.o (by rw[HD.o];exact hd1))
   have d1:d.toList.isEmpty=true:=by rw[ByteArray.toList_eq,List.isEmpty_iff,←List.length_eq_zero_iff,data_length];exact hd1
   have d2:d.toList=[]:=by simpa using d1
   clear hd1
   go_wp2
   go_ret2
   exact⟨okP_no HR.o,Below.refl _ _⟩
 have hd2:1≤d.size:=by omega
 clear hd1
 have d1:d.toList.isEmpty=false:=isEmpty_ne hd2
 have d2:¬d.toList=[]:=by simpa using d1
 by_cases h48:d[0].toNat=48
 · have HR:=η (hzero.o d HD.o hd2 h48)
   have d3:((d[0].toNat:Int)==48)=true:=by rw[h48];rfl
   clear h48
   go_wp2
   go_ret2
   exact⟨okP_no HR.o,Below.refl _ _⟩
 have HF:=η (hfz.o d HD.o hd2 h48)
 have d3:((d[0].toNat:Int)==48)=false:=beq_eq_false_iff_ne.2 ω
 clear h48 hfz hzero hnone
 go_wp2_with fail
 go_loopw [10] (fun v wr=>∃(k:Nat) (n:Int),k≤d.size∧-9223372036854775808≤n∧n≤0∧v=.int .i64 n∧Hid (accN (d.data.toList.drop k) n=accN d.data.toList 0)∧wr=w.iter d k) (fun _ wr=>d.size-wr.iterPos w.heap.size)
 case atStart=>exact⟨0,0,by omega,by omega,by omega,rfl,rfl,rfl⟩
 case round =>
  obtain⟨k,n,hk,hn1,hn2,rfl,hacc,rfl⟩:=hrel
  have hbel:∀p,Below w.heap.size w (w.iter d p):=fun p=>(Below.refl _ _).alloc (Nat.le_refl _) _
  by_cases hlt:k<d.size
  · have HS:=η (acc_step d k hlt n)
    by_cases ha:d[k].toNat<128
    · have hnx:=fun ty=>run_next_ascii (P:=prog) w d k ty hlt ha
      by_cases h48:d[k].toNat<48
      · have t1:decide ((d[k].toNat:Int)<48)=true:=decide_eq_true ω
        have HN:=η (HF.o _ (hacc.o.symm.trans (HS.o.trans (if_pos (Or.inl h48)))))
        go_wp2
        go_ret2
        exact⟨okP_no HN.o,hbel _⟩
      · by_cases h57:57<d[k].toNat
        · have t1:decide ((d[k].toNat:Int)<48)=false:=decide_eq_false ω
          have t2:decide (57<(d[k].toNat:Int))=true:=decide_eq_true ω
          have HN:=η (HF.o _ (hacc.o.symm.trans (HS.o.trans (if_pos (Or.inr h57)))))
          go_wp2
          go_ret2
          exact⟨okP_no HN.o,hbel _⟩
        · have t1:decide ((d[k].toNat:Int)<48)=false:=decide_eq_false ω
          have t2:decide (57<(d[k].toNat:Int))=false:=decide_eq_false ω
          have HS2:=η (HS.o.trans (if_neg ω))
          by_cases hq:n<(-9223372036854775808+((d[k].toNat:Int)-48)).tdiv 10
          · have HN:=η (HF.o _ (hacc.o.symm.trans (HS2.o.trans (if_pos hq))))
            go_wp2
            go_ret2
            exact⟨okP_no HN.o,hbel _⟩
          · have hb1:=tdiv_mul ((d[k].toNat:Int)-48) n ω ω ω
            have hb2:-9223372036854775808≤n*10:=by omega
            have HN:=η ((HS2.o.trans (if_neg hq)).symm.trans hacc.o)
            go_wp2_with fail
            go_roundw
            case rel=>exact⟨k+1,_,by omega,hb1,by omega,rfl,HN.o,rfl⟩
            case measure=>simp;omega
    · have hnx:=fun ty=>run_next_any (P:=prog) w d k ty hlt
      have hhi:=(decode_high d k hlt ω).1
      have t1:decide (((Utf8.decode d k).1:Int)<48)=false:=decide_eq_false ω
      have t2:decide (57<((Utf8.decode d k).1:Int))=true:=decide_eq_true ω
      have HN:=η (HF.o _ (hacc.o.symm.trans (HS.o.trans (if_pos (Or.inr ω)))))
      go_wp2
      go_ret2
      exact⟨okP_no HN.o,hbel _⟩
  · obtain rfl:k=d.size:=by omega
    have hnx:=fun ty=>run_next_end (P:=prog) w d d.size ty hlt
    have HN:=η (HF.o _ (hacc.o.symm.trans (acc_end d n)))
    by_cases hl:n<lo
    · have hd4:decide (n<lo)=true:=decide_eq_true hl
      have HE:Hid (finN true n lo hi=none):=by simp[Hid,finN];omega
      go_wp2
      go_ret2
      exact⟨okP_no (HN.o.trans HE.o),hbel _⟩
    · by_cases hh:hi<n
      · have hd4:decide (n<lo)=false:=decide_eq_false hl
        have hd5:decide (hi<n)=true:=decide_eq_true hh
        have HE:Hid (finN true n lo hi=none):=by simp[Hid,finN];omega
        go_wp2
        go_ret2
        exact⟨okP_no (HN.o.trans HE.o),hbel _⟩
      · have hd4:decide (n<lo)=false:=decide_eq_false hl
        have hd5:decide (hi<n)=false:=decide_eq_false hh
        have HE:Hid (finN true n lo hi=some n):=by simp[Hid,finN];omega
        go_wp2
        go_ret2
        exact⟨okP_yes (HN.o.trans HE.o),hbel _⟩
theorem numParse_pos (s:Ê) (lo hi:Int) (w:À) (h:1≤s.size) (h0:s.size≤9223372036854775807) (c:Nat) (hm:c=s[0].toNat) (hc:c≠45) (h48:c≠48) :
 Calls prog 34 #[.string s,.int .i64 lo,.int .i64 hi] w fun e w'=>e=.returned (okP (numP s.data.toList lo hi))∧Below w.heap.size w w':=by
 have e1:s.toList.isEmpty=false:=isEmpty_ne h
 have e2:¬s.toList=[]:=by simpa using e1
 have e3:((s[0].toNat:Int)==45)=false:=beq_eq_false_iff_ne.2 ω
 have HF:=η (fin_pos s lo hi h c hm hc (.inl h48))
 have e4:((s[0].toNat:Int)==48)=false:=beq_eq_false_iff_ne.2 ω
 have HM:=η hm
 clear hm hc h48
 go_in
 go_wp2_with fail
 go_loopw [10] (fun v wr=>∃(k:Nat) (n:Int),k≤s.size∧-9223372036854775808≤n∧n≤0∧v=.int .i64 n∧Hid (accN (s.data.toList.drop k) n=accN s.data.toList 0)∧wr=w.iter s k) (fun _ wr=>s.size-wr.iterPos w.heap.size)
 case atStart=>exact⟨0,0,by omega,by omega,by omega,rfl,rfl,rfl⟩
 case round =>
  obtain⟨k,n,hk,hn1,hn2,rfl,hacc,rfl⟩:=hrel
  have hbel:∀p,Below w.heap.size w (w.iter s p):=fun p=>(Below.refl _ _).alloc (Nat.le_refl _) _
  by_cases hlt:k<s.size
  · have HS:=η (acc_step s k hlt n)
    by_cases ha:s[k].toNat<128
    · have hnx:=fun ty=>run_next_ascii (P:=prog) w s k ty hlt ha
      by_cases h48:s[k].toNat<48
      · have t1:decide ((s[k].toNat:Int)<48)=true:=decide_eq_true ω
        have HN:=η (HF.o _ (hacc.o.symm.trans (HS.o.trans (if_pos (Or.inl h48)))))
        go_wp2
        go_ret2
        exact⟨okP_no HN.o,hbel _⟩
      · by_cases h57:57<s[k].toNat
        · have t1:decide ((s[k].toNat:Int)<48)=false:=decide_eq_false ω
          have t2:decide (57<(s[k].toNat:Int))=true:=decide_eq_true ω
          have HN:=η (HF.o _ (hacc.o.symm.trans (HS.o.trans (if_pos (Or.inr h57)))))
          go_wp2
          go_ret2
          exact⟨okP_no HN.o,hbel _⟩
        · have t1:decide ((s[k].toNat:Int)<48)=false:=decide_eq_false ω
          have t2:decide (57<(s[k].toNat:Int))=false:=decide_eq_false ω
          have HS2:=η (HS.o.trans (if_neg ω))
          by_cases hq:n<(-9223372036854775808+((s[k].toNat:Int)-48)).tdiv 10
          · have HN:=η (HF.o _ (hacc.o.symm.trans (HS2.o.trans (if_pos hq))))
            go_wp2
            go_ret2
            exact⟨okP_no HN.o,hbel _⟩
          · have hb1:=tdiv_mul ((s[k].toNat:Int)-48) n ω ω ω
            have hb2:-9223372036854775808≤n*10:=by omega
            have HN:=η ((HS2.o.trans (if_neg hq)).symm.trans hacc.o)
            go_wp2_with fail
            go_roundw
            case rel=>exact⟨k+1,_,by omega,hb1,by omega,rfl,HN.o,rfl⟩
            case measure=>simp;omega
    · have hnx:=fun ty=>run_next_any (P:=prog) w s k ty hlt
      have hhi:=(decode_high s k hlt ω).1
      have t1:decide (((Utf8.decode s k).1:Int)<48)=false:=decide_eq_false ω
      have t2:decide (57<((Utf8.decode s k).1:Int))=true:=decide_eq_true ω
      have HN:=η (HF.o _ (hacc.o.symm.trans (HS.o.trans (if_pos (Or.inr ω)))))
      go_wp2
      go_ret2
      exact⟨okP_no HN.o,hbel _⟩
  · obtain rfl:k=s.size:=by omega
    have hnx:=fun ty=>run_next_end (P:=prog) w s s.size ty hlt
    have HN:=η (HF.o _ (hacc.o.symm.trans (acc_end s n)))
    by_cases hmin:n=-9223372036854775808
    · have hd3:(n==-9223372036854775808)=true:=beq_iff_eq.2 hmin
      have HE:Hid (finN false n lo hi=none):=by simp[Hid,finN,hmin]
      clear hmin
      go_wp2
      go_ret2
      exact⟨okP_no (HN.o.trans HE.o),hbel _⟩
    · have hd3:(n==-9223372036854775808)=false:=beq_eq_false_iff_ne.2 hmin
      have hn3:-9223372036854775808<n:=by omega
      have HM:=η hmin
      clear hmin
      by_cases hl:-n<lo
      · have hd4:decide (-n<lo)=true:=decide_eq_true hl
        have HE:Hid (finN false n lo hi=none):=by simp[Hid,finN];omega
        go_wp2
        go_ret2
        exact⟨okP_no (HN.o.trans HE.o),hbel _⟩
      · by_cases hh:hi < -n
        · have hd4:decide (-n<lo)=false:=decide_eq_false hl
          have hd5:decide (hi < -n)=true:=decide_eq_true hh
          have HE:Hid (finN false n lo hi=none):=by simp[Hid,finN];omega
          go_wp2
          go_ret2
          exact⟨okP_no (HN.o.trans HE.o),hbel _⟩
        · have hd4:decide (-n<lo)=false:=decide_eq_false hl
          have hd5:decide (hi < -n)=false:=decide_eq_false hh
          have HE:Hid (finN false n lo hi=some (-n)):=by simp[Hid,finN];omega
          go_wp2
          go_ret2
          exact⟨okP_yes (HN.o.trans HE.o),hbel _⟩
theorem numParse_zero (s:Ê) (lo hi:Int) (w:À) (h:1≤s.size) (h0:s.size≤9223372036854775807) (c:Nat) (hm:c=s[0].toNat) (hc:c≠45) (h48:c=48∧s.data.toList=[48]) :
 Calls prog 34 #[.string s,.int .i64 lo,.int .i64 hi] w fun e w'=>e=.returned (okP (numP s.data.toList lo hi))∧Below w.heap.size w w':=by
 have e1:s.toList.isEmpty=false:=isEmpty_ne h
 have e2:¬s.toList=[]:=by simpa using e1
 have e3:((s[0].toNat:Int)==45)=false:=beq_eq_false_iff_ne.2 ω
 have HF:=η (fin_pos s lo hi h c hm hc (.inr h48.2))
 have e4:((s[0].toNat:Int)==48)=true:=beq_iff_eq.2 ω
 have e5:(s.toList==[48])=true:=by rw[ByteArray.toList_eq,beq_iff_eq];exact h48.2
 have HM:=η hm
 clear hm hc h48
 go_in
 go_wp2_with fail
 go_loopw [10] (fun v wr=>∃(k:Nat) (n:Int),k≤s.size∧-9223372036854775808≤n∧n≤0∧v=.int .i64 n∧Hid (accN (s.data.toList.drop k) n=accN s.data.toList 0)∧wr=w.iter s k) (fun _ wr=>s.size-wr.iterPos w.heap.size)
 case atStart=>exact⟨0,0,by omega,by omega,by omega,rfl,rfl,rfl⟩
 case round =>
  obtain⟨k,n,hk,hn1,hn2,rfl,hacc,rfl⟩:=hrel
  have hbel:∀p,Below w.heap.size w (w.iter s p):=fun p=>(Below.refl _ _).alloc (Nat.le_refl _) _
  by_cases hlt:k<s.size
  · have HS:=η (acc_step s k hlt n)
    by_cases ha:s[k].toNat<128
    · have hnx:=fun ty=>run_next_ascii (P:=prog) w s k ty hlt ha
      by_cases h48:s[k].toNat<48
      · have t1:decide ((s[k].toNat:Int)<48)=true:=decide_eq_true ω
        have HN:=η (HF.o _ (hacc.o.symm.trans (HS.o.trans (if_pos (Or.inl h48)))))
        go_wp2
        go_ret2
        exact⟨okP_no HN.o,hbel _⟩
      · by_cases h57:57<s[k].toNat
        · have t1:decide ((s[k].toNat:Int)<48)=false:=decide_eq_false ω
          have t2:decide (57<(s[k].toNat:Int))=true:=decide_eq_true ω
          have HN:=η (HF.o _ (hacc.o.symm.trans (HS.o.trans (if_pos (Or.inr h57)))))
          go_wp2
          go_ret2
          exact⟨okP_no HN.o,hbel _⟩
        · have t1:decide ((s[k].toNat:Int)<48)=false:=decide_eq_false ω
          have t2:decide (57<(s[k].toNat:Int))=false:=decide_eq_false ω
          have HS2:=η (HS.o.trans (if_neg ω))
          by_cases hq:n<(-9223372036854775808+((s[k].toNat:Int)-48)).tdiv 10
          · have HN:=η (HF.o _ (hacc.o.symm.trans (HS2.o.trans (if_pos hq))))
            go_wp2
            go_ret2
            exact⟨okP_no HN.o,hbel _⟩
          · have hb1:=tdiv_mul ((s[k].toNat:Int)-48) n ω ω ω
            have hb2:-9223372036854775808≤n*10:=by omega
            have HN:=η ((HS2.o.trans (if_neg hq)).symm.trans hacc.o)
            go_wp2_with fail
            go_roundw
            case rel=>exact⟨k+1,_,by omega,hb1,by omega,rfl,HN.o,rfl⟩
            case measure=>simp;omega
    · have hnx:=fun ty=>run_next_any (P:=prog) w s k ty hlt
      have hhi:=(decode_high s k hlt ω).1
      have t1:decide (((Utf8.decode s k).1:Int)<48)=false:=decide_eq_false ω
      have t2:decide (57<((Utf8.decode s k).1:Int))=true:=decide_eq_true ω
      have HN:=η (HF.o _ (hacc.o.symm.trans (HS.o.trans (if_pos (Or.inr ω)))))
      go_wp2
      go_ret2
      exact⟨okP_no HN.o,hbel _⟩
  · obtain rfl:k=s.size:=by omega
    have hnx:=fun ty=>run_next_end (P:=prog) w s s.size ty hlt
    have HN:=η (HF.o _ (hacc.o.symm.trans (acc_end s n)))
    by_cases hmin:n=-9223372036854775808
    · have hd3:(n==-9223372036854775808)=true:=beq_iff_eq.2 hmin
      have HE:Hid (finN false n lo hi=none):=by simp[Hid,finN,hmin]
      clear hmin
      go_wp2
      go_ret2
      exact⟨okP_no (HN.o.trans HE.o),hbel _⟩
    · have hd3:(n==-9223372036854775808)=false:=beq_eq_false_iff_ne.2 hmin
      have hn3:-9223372036854775808<n:=by omega
      have HM:=η hmin
      clear hmin
      by_cases hl:-n<lo
      · have hd4:decide (-n<lo)=true:=decide_eq_true hl
        have HE:Hid (finN false n lo hi=none):=by simp[Hid,finN];omega
        go_wp2
        go_ret2
        exact⟨okP_no (HN.o.trans HE.o),hbel _⟩
      · by_cases hh:hi < -n
        · have hd4:decide (-n<lo)=false:=decide_eq_false hl
          have hd5:decide (hi < -n)=true:=decide_eq_true hh
          have HE:Hid (finN false n lo hi=none):=by simp[Hid,finN];omega
          go_wp2
          go_ret2
          exact⟨okP_no (HN.o.trans HE.o),hbel _⟩
        · have hd4:decide (-n<lo)=false:=decide_eq_false hl
          have hd5:decide (hi < -n)=false:=decide_eq_false hh
          have HE:Hid (finN false n lo hi=some (-n)):=by simp[Hid,finN];omega
          go_wp2
          go_ret2
          exact⟨okP_yes (HN.o.trans HE.o),hbel _⟩
theorem numParse_lead (s:Ê) (lo hi:Int) (w:À) (h:1≤s.size) (h0:s.size≤9223372036854775807) (c:Nat) (hm:c=s[0].toNat) (hc:c=48) (h48:s.data.toList≠[48]) :
 Calls prog 34 #[.string s,.int .i64 lo,.int .i64 hi] w fun e w'=>e=.returned (okP (numP s.data.toList lo hi))∧Below w.heap.size w w':=by
 have e1:s.toList.isEmpty=false:=isEmpty_ne h
 have e2:¬s.toList=[]:=by simpa using e1
 have e3:((s[0].toNat:Int)==45)=false:=beq_eq_false_iff_ne.2 ω
 have e4:((s[0].toNat:Int)==48)=true:=beq_iff_eq.2 ω
 have e5:(s.toList==[48])=false:=by rw[ByteArray.toList_eq,beq_eq_false_iff_ne];exact h48
 have HR:Hid (numP s.data.toList lo hi=none):=by
  unfold Hid numP
  have e:s.data.toList.head?=some 48:=by rw[data_head s ω];congr 1;apply UInt8.toNat_inj.1;rw[←hm,hc];rfl
  rw[if_neg (by rw[e];decide),if_pos (.inr ⟨e,h48⟩)]
 have HM:=η hm
 clear hm hc h48
 go_in
 go_wp2
 go_ret2
 exact⟨okP_no HR.o,Below.refl _ _⟩
theorem numParse_none (s:Ê) (lo hi:Int) (w:À) (h:s.size=0) :
 Calls prog 34 #[.string s,.int .i64 lo,.int .i64 hi] w fun e w'=>e=.returned (okP (numP s.data.toList lo hi))∧Below w.heap.size w w':=by
 have hl:s.data.toList=[]:=by rw[←List.length_eq_zero_iff,data_length];exact h
 have e1:s.toList.isEmpty=true:=by rw[ByteArray.toList_eq,hl];rfl
 have e2:s.toList=[]:=by simpa using e1
 have HR:Hid (numP s.data.toList lo hi=none):=by
  unfold Hid numP;rw[hl];rfl
 clear h hl
 go_in
 go_wp2
 go_ret2
 exact⟨okP_no HR.o,Below.refl _ _⟩
theorem numParse_any (s:Ê) (lo hi:Int) (w:À) (h0:s.size≤9223372036854775807) :
 Calls prog 34 #[.string s,.int .i64 lo,.int .i64 hi] w fun e w'=>e=.returned (okP (numP s.data.toList lo hi))∧Below w.heap.size w w':=by
 by_cases h:s.size=0
 · exact numParse_none s lo hi w h
 · by_cases h45:s[0].toNat=45
   · exact numParse_neg s lo hi w ω h0 _ rfl h45
   · by_cases h48:s[0].toNat=48
     · by_cases hz:s.data.toList=[48]
       · exact numParse_zero s lo hi w ω h0 _ rfl h45 ⟨h48,hz⟩
       · exact numParse_lead s lo hi w ω h0 _ rfl h48 hz
     · exact numParse_pos s lo hi w ω h0 _ rfl h45 h48
end
end Go.Proofs.YtbmknjfgjphfbaaGreatDoor
