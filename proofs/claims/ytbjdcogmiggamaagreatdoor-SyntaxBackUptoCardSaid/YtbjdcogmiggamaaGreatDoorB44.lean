import Derived.Test.YtbjdcogmiggamaaGreatDoorCards
import Derived.Test.YtbjdcogmiggamaaGreatDoorTie
import Derived.ProofKit
import Derived.OpenShut
import Derived.ShutString
import Derived.Carry
import Derived.Deep.DeepHandedRow
import Derived.Deep.Fields
import Derived.Deep.Slices
import Derived.Lib.LaidTab
import Derived.LaidSub
import Derived.Test.YtbjdcogmiggamaaGreatDoorB43
set_option linter.all false
namespace Go.Proofs.YtbjdcogmiggamaaGreatDoor
open Proofs.Tryz RowKit
open Go.ChangeShapes Go.WideShapes Go.ChangeAt Go.RowKit Go.Deep
set_option maxRecDepth 100000
set_option maxHeartbeats 8000000
theorem own:ownKnob prog.godebug=none:=by kernel_rfl
theorem laidOut:laidOutB prog=true:=by kernel_rfl
theorem gTab:prog.globalNamed "internal/strconv.uint64pow10" = some 0:=by kernel_rfl
theorem gTabType:(prog.globals[0]?).map (·.type)=some 146:=by kernel_rfl
theorem cells146:prog.cellsOf 146=20:=by kernel_rfl
theorem cellsU:prog.cellsOf 136=1:=by kernel_rfl
def twenty (x:String×DataW Unit):Bool:=match x.2 with|.agg l=>l.length==20|_=>false
theorem tab_of {W:À} (h:laidMetH prog Rows.syntaxPatchesRow.laid W):Tab W:=
 Lib.tabIs_of_head (rest:=[]) gTab gTabType underlying146 underlying136 cellsU cells146 (h.filter twenty)
def layT (g:Nat) (cs:Array Value) (h:Array Obj):Array Obj:=h.modify g fun
 | .cells _ t frozen=>.cells cs t frozen
 | o=>o
noncomputable def laidWorld (os:Os):À:=
 { World.holding prog os ⟨#[],#[],[]⟩ with heap:=layT 0 #[.int .u64 1,.int .u64 10,.int .u64 100,.int .u64 1000,.int .u64 10000,.int .u64 100000,.int .u64 1000000,.int .u64 10000000,.int .u64 100000000,.int .u64 1000000000,.int .u64 10000000000,.int .u64 100000000000,.int .u64 1000000000000,.int .u64 10000000000000,.int .u64 100000000000000,.int .u64 1000000000000000,.int .u64 10000000000000000,.int .u64 100000000000000000,.int .u64 1000000000000000000,.int .u64 10000000000000000000] (layT 1 #[.int .u8 0,.int .u8 1,.int .u8 28,.int .u8 2,.int .u8 29,.int .u8 14,.int .u8 24,.int .u8 3,.int .u8 30,.int .u8 22,.int .u8 20,.int .u8 15,.int .u8 25,.int .u8 17,.int .u8 4,.int .u8 8,.int .u8 31,.int .u8 27,.int .u8 13,.int .u8 23,.int .u8 21,.int .u8 19,.int .u8 16,.int .u8 7,.int .u8 26,.int .u8 12,.int .u8 18,.int .u8 6,.int .u8 11,.int .u8 5,.int .u8 10,.int .u8 9] (layT 2 #[.int .u8 0,.int .u8 1,.int .u8 56,.int .u8 2,.int .u8 57,.int .u8 49,.int .u8 28,.int .u8 3,.int .u8 61,.int .u8 58,.int .u8 42,.int .u8 50,.int .u8 38,.int .u8 29,.int .u8 17,.int .u8 4,.int .u8 62,.int .u8 47,.int .u8 59,.int .u8 36,.int .u8 45,.int .u8 43,.int .u8 51,.int .u8 22,.int .u8 53,.int .u8 39,.int .u8 33,.int .u8 30,.int .u8 24,.int .u8 18,.int .u8 12,.int .u8 5,.int .u8 63,.int .u8 55,.int .u8 48,.int .u8 27,.int .u8 60,.int .u8 41,.int .u8 37,.int .u8 16,.int .u8 46,.int .u8 35,.int .u8 44,.int .u8 21,.int .u8 52,.int .u8 32,.int .u8 23,.int .u8 11,.int .u8 54,.int .u8 26,.int .u8 40,.int .u8 15,.int .u8 34,.int .u8 20,.int .u8 31,.int .u8 10,.int .u8 25,.int .u8 14,.int .u8 19,.int .u8 9,.int .u8 13,.int .u8 8,.int .u8 7,.int .u8 6] (World.holding prog os ⟨#[],#[],[]⟩).heap)) }
section
theorem pick_list {α β:Type} {c:α→Nat} {b:β→Nat} {s:List α→Nat} (hs:s []=0) (hc:∀a l,s (a::l)=c a+s l):∀(es:List β) (Q:Nat→α→Prop),(∀i (h:i<es.length),∃a,Q i a∧c a≤b es[i])→∃l:List α,l.length=es.length∧(∀i (h:i<l.length),Q i l[i])∧s l≤(es.map b).sum
 | [],Q,_=>⟨[],rfl,fun i h=>by simp at h,by rw[hs];exact Nat.zero_le _⟩
 | e::es,Q,h=>by
  obtain⟨a,h1,h2⟩:=h 0 (by simp)
  obtain⟨l,k1,k2,k3⟩:=pick_list hs hc es (fun i=>Q (i+1)) (fun i hi=>h (i+1) (by simpa using hi))
  refine⟨a::l,by simp[k1],fun i hi=>?_,?_⟩
  · cases i with
    | zero=>exact h1
    | succ i=>exact k2 i (by simpa using hi)
  · rw[hc,List.map_cons,List.sum_cons]
    have h2':c a≤b e:=h2
    omega
theorem bulk_all {H:Type} (l:List (DataW H×List MemPlace)):Rows.uptoBulkAll (l.map (·.1))=(l.map fun y=>Rows.uptoBulk y.1).sum:=by
 induction l with
 | nil=>rfl
 | cons x l ih=>rw[List.map_cons,Rows.uptoBulkAll,ih,List.map_cons,List.sum_cons]
theorem wf_i64 {n:Int} (h:(Lit.int .i64 n).wf=true):i64 n:=by
 simp only[Lit.wf,Bool.and_eq_true,decide_eq_true_eq] at h
 have e1:IntKind.i64.min=-9223372036854775808:=by decide
 have e2:IntKind.i64.max=9223372036854775807:=by decide
 rw[e1,e2] at h;exact h
theorem data_lenB (s:Ê):s.data.toList.length=s.size:=by rw[Array.length_toList];rfl
section
variable {H:Type} {enc:TypeId×Value→H} {w:À} {sp:Nat→Bool} {held:Bool}
abbrev Tr (enc:TypeId×Value→H) (w:À) (sp:Nat→Bool) (held:Bool) (fuel t:Nat) (cs:List Value) (x:DataW H×List MemPlace):Prop:=DataW.trod enc prog w 0 sp held fuel t cs=some x
theorem op_slice {R:List Value→Nd→Prop} {t e size fuel:Nat} (ht:prog.underlying t=some (.slice e)) (hc:prog.cellsOf e=size) (hs:0<size) {cs:List Value} {x:DataW H×List MemPlace} (h:Tr enc w sp held fuel t cs x)
 (hel:∀n,n<fuel→∀cs' y,Tr enc w sp held n e cs' y→∃a,R cs' a∧bkN a≤Rows.uptoBulk y.1):∃A cap l,cs=[.slice A l.length cap]∧SlR w (lo w) size R (.slice A l.length cap) l∧bkL l+1≤Rows.uptoBulk x.1:=by
 rcases DataW.trod_slice ht h with ⟨rfl,rfl⟩|⟨a,len,cap,elems,rest,n,rfl,rfl,rfl,hb,hl,hm,hlen,hat,-,-⟩
 · exact⟨none,0,[],rfl,SlR.nil,Nat.le_refl _⟩
 · obtain⟨l,h1,h2,h3⟩:=pick_list (s:=bkL) (c:=bkN) (b:=fun y:DataW H×List MemPlace=>Rows.uptoBulk y.1) rfl (fun _ _=>rfl) elems (fun i b=>∃cs',cs'.length=size∧(∀j,j<size→w.cell? ((a.add (i*size)).add j)=cs'[j]?)∧R cs' b) (fun i hi=>by
    have h0:=hat i ω
    rw[List.getElem?_eq_getElem hi] at h0
    obtain⟨cs',k1,k2⟩:=Option.bind_eq_some_iff.1 h0
    obtain⟨b,k3,k4⟩:=hel n ω cs' _ k2
    obtain⟨_,k5,k6⟩:=World.cells?_some k1
    rw[hc] at k5 k6
    exact⟨b,⟨cs',k5,k6,k3⟩,k4⟩)
   have hll:l.length=len:=by omega
   refine⟨some a,cap,l,by rw[hll],⟨some a,cap,fun i=>if hi:i<l.length then (h2 i hi).choose else [],rfl,⟨by omega,by omega⟩,fun h0=>?_,fun i hi=>?_⟩,?_⟩
   · obtain⟨cs0,k1,k2,k3⟩:=h2 0 h0
     have k4:=k2 0 hs
     rw[List.getElem?_eq_getElem ω] at k4
     obtain⟨g,off,spt⟩:=a
     have hsp:spt=none:=by simpa[Addr.add] using World.cell?_spot k4
     subst hsp
     have hadd:∀i j,((⟨g,off,none⟩:Addr).add i).add j=⟨g,off+i+j,none⟩:=fun i j=>by rw[Addr.add_lit,Addr.add_lit]
     refine⟨g,off,rfl,?_,fun i hi=>?_⟩
     · have:=World.block_lt_of_cell? w _ k4
       unfold lo;simpa[Addr.add] using this
     · simp only[dif_pos hi]
       obtain⟨q1,q2,q3⟩:=(h2 i hi).choose_spec
       refine⟨q1,fun j u hu=>?_⟩
       have hj:j<size:=by have:=(List.getElem?_eq_some_iff.1 hu).1;omega
       have:=q2 j hj
       rw[hadd,hu] at this;exact this
   · simp only[dif_pos hi]
     exact (h2 i hi).choose_spec.2.2
   · show _≤Rows.uptoBulkAll (elems.map (·.1))+Rows.uptoBulkAll (rest.map (·.1))+1
     rw[bulk_all];omega
set_option maxRecDepth 10000 in
theorem op_nd_k (k:Nat):∀(fuel:Nat),fuel≤k→∀{cs:List Value} {x:DataW H×List MemPlace},Tr enc w sp held fuel 24 cs x→∃a:Nd,NdR w (lo w) cs a∧bkN a≤Rows.uptoBulk x.1:=by
 induction k with
 | zero=>intro fuel hf cs x h;obtain rfl:fuel=0:=ω;simp[Tr,DataW.trod] at h
 | succ k ih =>
  intro fuel hf cs x h
  have c24_:prog.cellsOf 24=5:=by kernel_rfl
  obtain⟨xs,n,hn,rfl,hl,hlen,hg⟩:=DataW.trod_struct underlying24 h
  rw[c24_] at hl
  match cs,hl with
  | [c0,c1,c2,c3,c4],_ =>
   match xs,hlen with
   | [y0,y1,y2,y3,y4],_ =>
    have g0:Tr enc w sp held n 3 [c0] y0:=by have q:Tr enc w sp held n 3 (([c0,c1,c2,c3,c4].drop 0).take (prog.cellsOf 3)) y0:=hg 0 _ rfl;rw[(by kernel_rfl:prog.cellsOf 3=1)] at q;exact q
    have g1:Tr enc w sp held n 9 [c1] y1:=by have q:Tr enc w sp held n 9 (([c0,c1,c2,c3,c4].drop 1).take (prog.cellsOf 9)) y1:=hg 1 _ rfl;rw[(by kernel_rfl:prog.cellsOf 9=1)] at q;exact q
    have g2:Tr enc w sp held n 3 [c2] y2:=by have q:Tr enc w sp held n 3 (([c0,c1,c2,c3,c4].drop 2).take (prog.cellsOf 3)) y2:=hg 2 _ rfl;rw[(by kernel_rfl:prog.cellsOf 3=1)] at q;exact q
    have g3:Tr enc w sp held n 3 [c3] y3:=by have q:Tr enc w sp held n 3 (([c0,c1,c2,c3,c4].drop 3).take (prog.cellsOf 3)) y3:=hg 3 _ rfl;rw[(by kernel_rfl:prog.cellsOf 3=1)] at q;exact q
    have g4:Tr enc w sp held n 22 [c4] y4:=by have q:Tr enc w sp held n 22 (([c0,c1,c2,c3,c4].drop 4).take (prog.cellsOf 22)) y4:=hg 4 _ rfl;rw[(by kernel_rfl:prog.cellsOf 22=1)] at q;exact q
    obtain⟨n0,e0,rfl,w0⟩:=DataW.trod_int underlying3 g0
    have i0:i64 n0:=wf_i64 w0
    obtain rfl:c0=.int .i64 n0:=by simpa using e0
    obtain⟨s1,e1,rfl,w1⟩:=DataW.trod_string underlying9 g1
    obtain rfl:c1=.string s1:=by simpa using e1
    obtain⟨n2,e2,rfl,w2⟩:=DataW.trod_int underlying3 g2
    have i2:i64 n2:=wf_i64 w2
    obtain rfl:c2=.int .i64 n2:=by simpa using e2
    obtain⟨n3,e3,rfl,w3⟩:=DataW.trod_int underlying3 g3
    have i3:i64 n3:=wf_i64 w3
    obtain rfl:c3=.int .i64 n3:=by simpa using e3
    obtain⟨A4,k4,l4,e4,r4,z4⟩:=op_slice (R:=NdR w (lo w)) underlying22 (by kernel_rfl:prog.cellsOf 24=5) π g4 (fun m hm cs y q=>ih m ω q)
    obtain rfl:c4=.slice A4 l4.length k4:=by simpa using e4
    simp only[List.map_cons,List.map_nil,Rows.uptoBulk,Rows.uptoBulkAll,data_lenB]
    refine⟨.mk n0 s1 n2 n3 l4,NdR.of ⟨i0,i2,i3⟩ w1 r4,?_⟩
    rw[bkN];omega
theorem open_nd {r:Reach} {b0:Nat} {v:Value} {d:DataW H} {p:List MemPlace} (hv:Value.okWide prog w r b0 24 v) (h:DataW.Trod enc prog w 0 sp held 24 v d p):∃cs t,v=.agg (List.toArray cs)∧NdR w (lo w) cs t∧bkN t≤Rows.uptoBulk d:=by
 obtain⟨cs,rfl,-⟩:=okWide_struct underlying24 hv
 obtain⟨fuel,hf⟩:=h
 obtain⟨a,hr,hc⟩:=op_nd_k fuel fuel (Nat.le_refl _) hf
 exact⟨cs.toList,a,by simp,hr,hc⟩
end
end
end Go.Proofs.YtbjdcogmiggamaaGreatDoor
