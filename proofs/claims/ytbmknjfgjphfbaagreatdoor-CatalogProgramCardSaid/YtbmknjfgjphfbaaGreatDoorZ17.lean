import Derived.Laws.ResultCell
import Derived.Test.YtbmknjfgjphfbaaGreatDoorZ16
set_option linter.all false
namespace Go.Proofs.YtbmknjfgjphfbaaGreatDoor
open Proofs.Tryz RowKit Maps WideMaps ChangeMaps
set_option maxRecDepth 100000
set_option maxHeartbeats 8000000
theorem letter_any (c:UInt8) (w:À):Calls prog 87 #[.int .u8 (c.toNat:Int)] w fun e w'=>e=.returned (.bool (letC c))∧w=w':=by
 have hcl:(c.toNat<65)∨(65≤c.toNat∧c.toNat≤90)∨(91≤c.toNat∧c.toNat≤96)∨(97≤c.toNat∧c.toNat≤122)∨(123≤c.toNat):=by omega
 rcases hcl with hcl|hcl|hcl|hcl|hcl
 all_goals
  first|(have q0:decide ((97:Int)≤c.toNat)=true:=decide_eq_true ω)|(have q0:decide ((97:Int)≤c.toNat)=false:=decide_eq_false ω)
  first|(have q1:decide ((c.toNat:Int)≤122)=true:=decide_eq_true ω)|(have q1:decide ((c.toNat:Int)≤122)=false:=decide_eq_false ω)
  first|(have q2:decide ((65:Int)≤c.toNat)=true:=decide_eq_true ω)|(have q2:decide ((65:Int)≤c.toNat)=false:=decide_eq_false ω)
  first|(have q3:decide ((c.toNat:Int)≤90)=true:=decide_eq_true ω)|(have q3:decide ((c.toNat:Int)≤90)=false:=decide_eq_false ω)
  first
  | (have HN:Hid (letC c=true):=by
      show letC c=true
      unfold letC;simp;omega
     clear hcl
     go_in
     go_wp2
     go_ret
     exact⟨by rw[HN.o];rfl,rfl⟩)
  | (have HN:Hid (letC c=false):=by
      show letC c=false
      unfold letC;simp;omega
     clear hcl
     go_in
     go_wp2
     go_ret
     exact⟨by rw[HN.o];rfl,rfl⟩)
theorem digit_any (c:UInt8) (w:À):Calls prog 89 #[.int .u8 (c.toNat:Int)] w fun e w'=>e=.returned (.bool (digC c))∧w=w':=by
 have hcl:(c.toNat<48)∨(48≤c.toNat∧c.toNat≤57)∨(58≤c.toNat):=by omega
 rcases hcl with hcl|hcl|hcl
 all_goals
  first|(have q0:decide ((48:Int)≤c.toNat)=true:=decide_eq_true ω)|(have q0:decide ((48:Int)≤c.toNat)=false:=decide_eq_false ω)
  first|(have q1:decide ((c.toNat:Int)≤57)=true:=decide_eq_true ω)|(have q1:decide ((c.toNat:Int)≤57)=false:=decide_eq_false ω)
  first
  | (have HN:Hid (digC c=true):=by
      show digC c=true
      unfold digC;simp;omega
     clear hcl
     go_in
     go_wp2
     go_ret
     exact⟨by rw[HN.o];rfl,rfl⟩)
  | (have HN:Hid (digC c=false):=by
      show digC c=false
      unfold digC;simp;omega
     clear hcl
     go_in
     go_wp2
     go_ret
     exact⟨by rw[HN.o];rfl,rfl⟩)
theorem name_or (c:UInt8):nameC c=(letC c||digC c||(c.toNat==95)):=by
 unfold nameC letC digC;simp[Bool.or_assoc]
theorem nch_any (c:UInt8) (w:À):Calls prog 179 #[.int .u8 (c.toNat:Int)] w fun e w'=>e=.returned (.bool (nameC c))∧w=w':=by
 have HN:=η (name_or c)
 cases h1:letC c with
 | true =>
  have H1:=η h1
  clear h1
  go_in
  go_wp2_with fail
  refine (letter_any c w).mono ?_
  rintro _ _ ⟨rfl,rfl⟩
  rw[H1.o]
  go_wp2
  go_ret
  exact⟨by rw[HN.o,H1.o];rfl,rfl⟩
 | false =>
  have H1:=η h1
  clear h1
  cases h2:digC c with
  | true =>
   have H2:=η h2
   clear h2
   go_in
   go_wp2_with fail
   refine (letter_any c w).mono ?_
   rintro _ _ ⟨rfl,rfl⟩
   rw[H1.o]
   go_wp2_with fail
   refine (digit_any c w).mono ?_
   rintro _ _ ⟨rfl,rfl⟩
   rw[H2.o]
   go_wp2
   go_ret
   exact⟨by rw[HN.o,H1.o,H2.o];rfl,rfl⟩
  | false =>
   have H2:=η h2
   clear h2
   have H3:Hid (nameC c=(c.toNat==95)):=by show _=_;rw[HN.o,H1.o,H2.o];rfl
   by_cases h3:c.toNat=95
   · have q:((c.toNat:Int)==95)=true:=by simp;omega
     have H4:Hid (nameC c=true):=by show _=_;rw[H3.o,h3];rfl
     clear h3
     go_in
     go_wp2_with fail
     refine (letter_any c w).mono ?_
     rintro _ _ ⟨rfl,rfl⟩
     rw[H1.o]
     go_wp2_with fail
     refine (digit_any c w).mono ?_
     rintro _ _ ⟨rfl,rfl⟩
     rw[H2.o]
     go_wp2
     go_ret
     exact⟨by rw[H4.o];rfl,rfl⟩
   · have q:((c.toNat:Int)==95)=false:=by simp;omega
     have H4:Hid (nameC c=false):=by show _=_;rw[H3.o];simpa using h3
     clear h3
     go_in
     go_wp2_with fail
     refine (letter_any c w).mono ?_
     rintro _ _ ⟨rfl,rfl⟩
     rw[H1.o]
     go_wp2_with fail
     refine (digit_any c w).mono ?_
     rintro _ _ ⟨rfl,rfl⟩
     rw[H2.o]
     go_wp2
     go_ret
     exact⟨by rw[H4.o];rfl,rfl⟩
def unV (o:Option UInt8):Value:=.tuple #[.int .u8 ((o.getD 0).toNat:Int),.bool o.isSome]
theorem unesc_any (c:UInt8) (w:À):Calls prog 127 #[.int .u8 (c.toNat:Int)] w fun e w'=>e=.returned (unV (unesc c))∧w=w':=by
 have hcl:c.toNat=110∨c.toNat=116∨c.toNat=34∨c.toNat=92∨(c.toNat≠110∧c.toNat≠116∧c.toNat≠34∧c.toNat≠92):=by omega
 rcases hcl with h|h|h|h|h
 · have q0:((c.toNat:Int)==110)=true:=by simp;omega
   have HN:Hid (unV (unesc c)=.tuple #[.int .u8 10,.bool true]):=by show _=_;unfold unesc;rw[if_pos h];rfl
   clear h
   go_in
   go_wp2
   go_ret2
   exact⟨by rw[HN.o];rfl,rfl⟩
 · have q0:((c.toNat:Int)==110)=false:=by simp;omega
   have q1:((c.toNat:Int)==116)=true:=by simp;omega
   have HN:Hid (unV (unesc c)=.tuple #[.int .u8 9,.bool true]):=by show _=_;unfold unesc;rw[if_neg ω,if_pos h];rfl
   clear h
   go_in
   go_wp2
   go_ret2
   exact⟨by rw[HN.o];rfl,rfl⟩
 · have q0:((c.toNat:Int)==110)=false:=by simp;omega
   have q1:((c.toNat:Int)==116)=false:=by simp;omega
   have q2:((c.toNat:Int)==34)=true:=by simp;omega
   have HN:Hid (unV (unesc c)=.tuple #[.int .u8 (c.toNat:Int),.bool true]):=by show _=_;unfold unesc;rw[if_neg ω,if_neg ω,if_pos ω];rfl
   clear h
   go_in
   go_wp2
   go_ret2
   exact⟨by rw[HN.o];rfl,rfl⟩
 · have q0:((c.toNat:Int)==110)=false:=by simp;omega
   have q1:((c.toNat:Int)==116)=false:=by simp;omega
   have q2:((c.toNat:Int)==34)=false:=by simp;omega
   have q3:((c.toNat:Int)==92)=true:=by simp;omega
   have HN:Hid (unV (unesc c)=.tuple #[.int .u8 (c.toNat:Int),.bool true]):=by show _=_;unfold unesc;rw[if_neg ω,if_neg ω,if_pos ω];rfl
   clear h
   go_in
   go_wp2
   go_ret2
   exact⟨by rw[HN.o];rfl,rfl⟩
 · have q0:((c.toNat:Int)==110)=false:=by simp;omega
   have q1:((c.toNat:Int)==116)=false:=by simp;omega
   have q2:((c.toNat:Int)==34)=false:=by simp;omega
   have q3:((c.toNat:Int)==92)=false:=by simp;omega
   have HN:Hid (unV (unesc c)=.tuple #[.int .u8 0,.bool false]):=by show _=_;unfold unesc;rw[if_neg ω,if_neg ω,if_neg ω];rfl
   clear h
   go_in
   go_wp2
   go_ret2
   exact⟨by rw[HN.o];rfl,rfl⟩
theorem mark_any (s:Ê) (w:À):Calls prog 129 #[.string s] w fun e w'=>e=.returned (.bool (markB s.data.toList))∧w=w':=by
 rw[←ByteArray.toList_eq]
 cases h0:(s.toList==[40]) with
 | true =>
  have HN:Hid (markB s.toList=true):=by show _=_;rw[beq_iff_eq.1 h0];decide
  go_in
  go_wp2
  go_ret
  exact⟨by rw[HN.o];rfl,rfl⟩
 | false =>
 cases h1:(s.toList==[41]) with
 | true =>
  have HN:Hid (markB s.toList=true):=by show _=_;rw[beq_iff_eq.1 h1];decide
  go_in
  go_wp2
  go_ret
  exact⟨by rw[HN.o];rfl,rfl⟩
 | false =>
 cases h2:(s.toList==[123]) with
 | true =>
  have HN:Hid (markB s.toList=true):=by show _=_;rw[beq_iff_eq.1 h2];decide
  go_in
  go_wp2
  go_ret
  exact⟨by rw[HN.o];rfl,rfl⟩
 | false =>
 cases h3:(s.toList==[125]) with
 | true =>
  have HN:Hid (markB s.toList=true):=by show _=_;rw[beq_iff_eq.1 h3];decide
  go_in
  go_wp2
  go_ret
  exact⟨by rw[HN.o];rfl,rfl⟩
 | false =>
 cases h4:(s.toList==[91]) with
 | true =>
  have HN:Hid (markB s.toList=true):=by show _=_;rw[beq_iff_eq.1 h4];decide
  go_in
  go_wp2
  go_ret
  exact⟨by rw[HN.o];rfl,rfl⟩
 | false =>
 cases h5:(s.toList==[93]) with
 | true =>
  have HN:Hid (markB s.toList=true):=by show _=_;rw[beq_iff_eq.1 h5];decide
  go_in
  go_wp2
  go_ret
  exact⟨by rw[HN.o];rfl,rfl⟩
 | false =>
 cases h6:(s.toList==[44]) with
 | true =>
  have HN:Hid (markB s.toList=true):=by show _=_;rw[beq_iff_eq.1 h6];decide
  go_in
  go_wp2
  go_ret
  exact⟨by rw[HN.o];rfl,rfl⟩
 | false =>
 cases h7:(s.toList==[46]) with
 | true =>
  have HN:Hid (markB s.toList=true):=by show _=_;rw[beq_iff_eq.1 h7];decide
  go_in
  go_wp2
  go_ret
  exact⟨by rw[HN.o];rfl,rfl⟩
 | false =>
 cases h8:(s.toList==[58]) with
 | true =>
  have HN:Hid (markB s.toList=true):=by show _=_;rw[beq_iff_eq.1 h8];decide
  go_in
  go_wp2
  go_ret
  exact⟨by rw[HN.o];rfl,rfl⟩
 | false =>
 cases h9:(s.toList==[59]) with
 | true =>
  have HN:Hid (markB s.toList=true):=by show _=_;rw[beq_iff_eq.1 h9];decide
  go_in
  go_wp2
  go_ret
  exact⟨by rw[HN.o];rfl,rfl⟩
 | false =>
 cases h10:(s.toList==[63]) with
 | true =>
  have HN:Hid (markB s.toList=true):=by show _=_;rw[beq_iff_eq.1 h10];decide
  go_in
  go_wp2
  go_ret
  exact⟨by rw[HN.o];rfl,rfl⟩
 | false =>
 cases h11:(s.toList==[95]) with
 | true =>
  have HN:Hid (markB s.toList=true):=by show _=_;rw[beq_iff_eq.1 h11];decide
  go_in
  go_wp2
  go_ret
  exact⟨by rw[HN.o];rfl,rfl⟩
 | false =>
 cases h12:(s.toList==[61]) with
 | true =>
  have HN:Hid (markB s.toList=true):=by show _=_;rw[beq_iff_eq.1 h12];decide
  go_in
  go_wp2
  go_ret
  exact⟨by rw[HN.o];rfl,rfl⟩
 | false =>
 cases h13:(s.toList==[43]) with
 | true =>
  have HN:Hid (markB s.toList=true):=by show _=_;rw[beq_iff_eq.1 h13];decide
  go_in
  go_wp2
  go_ret
  exact⟨by rw[HN.o];rfl,rfl⟩
 | false =>
 cases h14:(s.toList==[45]) with
 | true =>
  have HN:Hid (markB s.toList=true):=by show _=_;rw[beq_iff_eq.1 h14];decide
  go_in
  go_wp2
  go_ret
  exact⟨by rw[HN.o];rfl,rfl⟩
 | false =>
 cases h15:(s.toList==[42]) with
 | true =>
  have HN:Hid (markB s.toList=true):=by show _=_;rw[beq_iff_eq.1 h15];decide
  go_in
  go_wp2
  go_ret
  exact⟨by rw[HN.o];rfl,rfl⟩
 | false =>
 cases h16:(s.toList==[47]) with
 | true =>
  have HN:Hid (markB s.toList=true):=by show _=_;rw[beq_iff_eq.1 h16];decide
  go_in
  go_wp2
  go_ret
  exact⟨by rw[HN.o];rfl,rfl⟩
 | false =>
 cases h17:(s.toList==[37]) with
 | true =>
  have HN:Hid (markB s.toList=true):=by show _=_;rw[beq_iff_eq.1 h17];decide
  go_in
  go_wp2
  go_ret
  exact⟨by rw[HN.o];rfl,rfl⟩
 | false =>
 cases h18:(s.toList==[60]) with
 | true =>
  have HN:Hid (markB s.toList=true):=by show _=_;rw[beq_iff_eq.1 h18];decide
  go_in
  go_wp2
  go_ret
  exact⟨by rw[HN.o];rfl,rfl⟩
 | false =>
 cases h19:(s.toList==[62]) with
 | true =>
  have HN:Hid (markB s.toList=true):=by show _=_;rw[beq_iff_eq.1 h19];decide
  go_in
  go_wp2
  go_ret
  exact⟨by rw[HN.o];rfl,rfl⟩
 | false =>
 cases h20:(s.toList==[61,61]) with
 | true =>
  have HN:Hid (markB s.toList=true):=by show _=_;rw[beq_iff_eq.1 h20];decide
  go_in
  go_wp2
  go_ret
  exact⟨by rw[HN.o];rfl,rfl⟩
 | false =>
 cases h21:(s.toList==[33,61]) with
 | true =>
  have HN:Hid (markB s.toList=true):=by show _=_;rw[beq_iff_eq.1 h21];decide
  go_in
  go_wp2
  go_ret
  exact⟨by rw[HN.o];rfl,rfl⟩
 | false =>
 cases h22:(s.toList==[60,61]) with
 | true =>
  have HN:Hid (markB s.toList=true):=by show _=_;rw[beq_iff_eq.1 h22];decide
  go_in
  go_wp2
  go_ret
  exact⟨by rw[HN.o];rfl,rfl⟩
 | false =>
 cases h23:(s.toList==[62,61]) with
 | true =>
  have HN:Hid (markB s.toList=true):=by show _=_;rw[beq_iff_eq.1 h23];decide
  go_in
  go_wp2
  go_ret
  exact⟨by rw[HN.o];rfl,rfl⟩
 | false =>
 cases h24:(s.toList==[43,43]) with
 | true =>
  have HN:Hid (markB s.toList=true):=by show _=_;rw[beq_iff_eq.1 h24];decide
  go_in
  go_wp2
  go_ret
  exact⟨by rw[HN.o];rfl,rfl⟩
 | false =>
 cases h25:(s.toList==[61,62]) with
 | true =>
  have HN:Hid (markB s.toList=true):=by show _=_;rw[beq_iff_eq.1 h25];decide
  go_in
  go_wp2
  go_ret
  exact⟨by rw[HN.o];rfl,rfl⟩
 | false =>
 cases h26:(s.toList==[58,45]) with
 | true =>
  have HN:Hid (markB s.toList=true):=by show _=_;rw[beq_iff_eq.1 h26];decide
  go_in
  go_wp2
  go_ret
  exact⟨by rw[HN.o];rfl,rfl⟩
 | false =>
 have HN:Hid (markB s.toList=false):=by
  show _=_;unfold markB markWords;simp only[List.contains_cons,List.contains_nil,Bool.or_false,h0,h1,h2,h3,h4,h5,h6,h7,h8,h9,h10,h11,h12,h13,h14,h15,h16,h17,h18,h19,h20,h21,h22,h23,h24,h25,h26]
 go_in
 go_wp2
 go_ret
 exact⟨by rw[HN.o];rfl,rfl⟩
section
structure Sn (w:À) (xb:Nat) (s:Ê) (i:Nat):Prop where
 box:Hs w xb 196 #[.string s,.int .i64 (i:Int)]
 le:i≤s.size
 sz:s.size≤32768
def dr (s:Ê) (i:Nat):List UInt8:=s.data.toList.drop i
theorem dr_at {s:Ê} {i:Nat} (h:i<s.size):dr s i=s[i]::dr s (i+1):=data_at s i h
theorem dr_end (s:Ê):dr s s.size=[]:=List.drop_of_length_le (by simp)
theorem dr_len {s:Ê} {i:Nat} (h:i≤s.size):(dr s i).length=s.size-i:=by unfold dr;simp
section
variable {w w':À} {xb:Nat} {s:Ê} {i:Nat}
theorem Sn.bel (k:Sn w xb s i) (b:Below w.heap.size w w'):Sn w' xb s i:=⟨hs_bel k.box b,k.le,k.sz⟩
theorem Sn.set (k:Sn w xb s i) {j:Nat} (hj:j≤s.size):Sn (w.setCell ⟨xb,1,none⟩ (.int .i64 (j:Int))) xb s j∧Stp (only xb) w (w.setCell ⟨xb,1,none⟩ (.int .i64 (j:Int))):=
 ⟨⟨hs_put k.box,hj,k.sz⟩,⟨rfl,rfl,rfl,by simp[World.setCell],fun q _ hq=>Below.heap_setCell _ _ _ _ (fun e=>hq e)⟩⟩
theorem Sn.stp (k:Sn w xb s i) {own:Nat→Prop} (h:Stp own w w') (hn:¬own xb):Sn w' xb s i:=⟨hs_stp k.box h hn,k.le,k.sz⟩
end
theorem prefix0_any (s p:Ê) (w:À) (h:s.size≤maxLen) (hp:p.size≤100):Calls prog 178 #[.string s,.string p] w fun e w'=>e=.returned (.bool (decide (p.size≤s.size)&&(s.extract 0 p.size).toList==p.toList))∧w=w':=by
 unfold maxLen at h
 by_cases h1:p.size≤s.size
 · have u0:decide ((p.size:Int)≤(s.size:Int))=true:=decide_eq_true ω
   have HN:Hid (decide (p.size≤s.size)=true):=decide_eq_true h1
   have p0:(0:Int)≤(p.size:Int):=by omega
   have p1:(p.size:Int)≤(s.size:Int):=by omega
   cases h2:((s.extract 0 p.size).toList==p.toList) with
   | true =>
    go_in
    go_wp2
    go_ret
    exact⟨by rw[HN.o];rfl,rfl⟩
   | false =>
    go_in
    go_wp2
    go_ret
    exact⟨by rw[HN.o];rfl,rfl⟩
 · have u0:decide ((p.size:Int)≤(s.size:Int))=false:=decide_eq_false ω
   have HN:Hid (decide (p.size≤s.size)=false):=decide_eq_false h1
   have u1:decide (p.size≤s.size)=false:=decide_eq_false h1
   have u2:s.size<p.size:=by omega
   go_in
   go_wp2
   go_ret
   exact⟨by rw[HN.o];rfl,rfl⟩
theorem prefix_any (s p:Ê) (w:À) (h:s.size≤maxLen) (hp:p.size≤100):Calls prog 124 #[.string s,.string p] w fun e w'=>e=.returned (.bool (decide (p.size≤s.size)&&(s.extract 0 p.size).toList==p.toList))∧w=w':=by
 go_in
 go_wp2_with fail
 refine (prefix0_any s p w h hp).mono ?_
 rintro _ _ ⟨rfl,rfl⟩
 go_wp2
 go_ret
 exact⟨rfl,rfl⟩
def wordE (s:Ê) (i:Nat):Nat:=i+((dr s i).takeWhile nameC).length
theorem word_more {s:Ê} {i j:Nat} (hij:i≤j) (h:j<s.size) (hw:wordE s i=wordE s j) (hc:nameC s[j]=true):wordE s i=wordE s (j+1):=by
 rw[hw];unfold wordE
 rw[dr_at h,List.takeWhile_cons_of_pos hc,List.length_cons];omega
theorem word_stop {s:Ê} {i j:Nat} (h:j<s.size) (hw:wordE s i=wordE s j) (hc:nameC s[j]=false):wordE s i=j:=by
 rw[hw];unfold wordE
 rw[dr_at h,List.takeWhile_cons_of_neg (by rw[hc];simp)];rfl
theorem word_last {s:Ê} {i:Nat} (hw:wordE s i=wordE s s.size):wordE s i=s.size:=by
 rw[hw];unfold wordE;rw[dr_end];rfl
def snAt (xb:Nat) (w:À):Nat:=match w.cell? ⟨xb,1,none⟩ with
 | some (.int _ n)=>n.toNat
 | _=>0
theorem Sn.at {w:À} {xb:Nat} {s:Ê} {i:Nat} (k:Sn w xb s i):snAt xb w=i:=by
 have c1:w.cell? ⟨xb,1,none⟩=some (.int .i64 (i:Int)):=k.box.cell 1
 unfold snAt;rw[c1];simp
theorem sn_less {w w':À} {xb:Nat} {s:Ê} {i j:Nat} (k:Sn w xb s i) (k':Sn w' xb s j) (h:i<j):s.size-snAt xb w'<s.size-snAt xb w:=by
 rw[k.at,k'.at];have:=k'.le;omega
theorem sword_any {w:À} {xb:Nat} {s:Ê} {i:Nat} (k:Sn w xb s i):Calls prog 125 #[.pointer (some ⟨xb,0,none⟩)] w fun e w'=>e=.returned (.string (s.extract i (wordE s i)))∧Stp (only xb) w w'∧Sn w' xb s (wordE s i):=by
 have hsz:=k.sz
 have hm:s.size≤9223372036854775807:=by omega
 have c1:w.cell? ⟨xb,1,none⟩=some (.int .i64 (i:Int)):=k.box.cell 1
 have K:=η k
 clear k
 go_in
 go_wp2_with fail
 clear c1
 go_loopw [] (fun wr=>∃j:Nat,Hid (i≤j∧wordE s i=wordE s j)∧Hid (Stp (only xb) w wr)∧Hid (Sn wr xb s j)) (fun wr=>s.size-snAt xb wr)
 case atStart=>exact⟨i,⟨Nat.le_refl _,rfl⟩,Stp.refl _ _,K.o⟩
 case round =>
  obtain⟨j,HE,HS,HK⟩:=hrel
  have c0:wr.cell? ⟨xb,0,none⟩=some (.string s):=HK.o.box.cell 0
  have c1:wr.cell? ⟨xb,1,none⟩=some (.int .i64 (j:Int)):=HK.o.box.cell 1
  have f1:wr.frozen? ⟨xb,1,none⟩=false:=HK.o.box.free 1
  have hle:=HK.o.le
  by_cases hlt:j<s.size
  · have u0:decide ((j:Int)<(s.size:Int))=true:=decide_eq_true ω
    have j0:(0:Int)≤(j:Int):=by omega
    have j1:(j:Int)<(s.size:Int):=by omega
    cases hc:nameC s[j] with
    | true =>
     obtain⟨HC,HW⟩:=zd2 hc (word_more HE.o.1 hlt HE.o.2 hc)
     clear hc
     go_wp2_with fail
     go_quiet ((go_at_call 179;exact Calls.quiet_of_same ((nch_any _ _).mono (fun e w' h=>⟨by rw[HC.o] at h;exact h.1,h.2.symm⟩))))
     go_wp2_with fail
     have X:=(HK.o.bel (below_dwN nq (belR _))).set (j:=j+1) ω
     exact⟨⟨j+1,⟨by have:=HE.o.1;omega,HW.o⟩,HS.o.trans ((Stp.of_below (below_dwN nq (belR _))).trans X.2),X.1⟩,sn_less HK.o X.1 (Nat.lt_succ_self _)⟩
    | false =>
     obtain⟨HC,HW⟩:=zd2 hc (word_stop hlt HE.o.2 hc)
     have i0:(0:Int)≤(i:Int):=by omega
     have i1:(i:Int)≤(j:Int):=by have:=HE.o.1;omega
     have i2:(j:Int)≤(s.size:Int):=by omega
     have i3:i≤j:=HE.o.1
     clear hc
     go_wp2_with fail
     go_quiet ((go_at_call 179;exact Calls.quiet_of_same ((nch_any _ _).mono (fun e w' h=>⟨by rw[HC.o] at h;exact h.1,h.2.symm⟩))))
     go_wp2_with fail
     go_quiet (fail)
     go_wp2
     go_ret
     rw[HW.o]
     exact⟨rfl,HS.o.trans (Stp.of_below (below_dwN _ (below_dwN _ (belR _)))),HK.o.bel (below_dwN _ (below_dwN _ (belR _)))⟩
  · have HQ:=HE.o.2
    obtain rfl:j=s.size:=by omega
    have HW:=η (word_last HQ)
    have u0:decide ((s.size:Int)<(s.size:Int))=false:=decide_eq_false ω
    have i0:(0:Int)≤(i:Int):=by omega
    have i1:(i:Int)≤(s.size:Int):=by have:=HE.o.1;omega
    have i3:i≤s.size:=HE.o.1
    clear HQ
    go_wp2_with fail
    go_quiet (fail)
    go_wp2_with fail
    go_quiet (fail)
    go_wp2
    go_ret
    rw[HW.o]
    exact⟨rfl,HS.o.trans (Stp.of_below (below_dwN _ (below_dwN _ (belR _)))),HK.o.bel (below_dwN _ (below_dwN _ (belR _)))⟩
end
theorem ext_list (s:Ê) (i j:Nat) (h:i≤j) (hj:j≤s.size):(s.extract i j).data.toList=(dr s i).take (j-i):=by
 unfold dr
 simp only[ByteArray.data_extract,Array.toList_extract,List.extract_eq_take_drop]
def preB (s:Ê) (j:Nat):Bool:=decide ((⟨#[47,47]⟩:Ê).size≤(s.extract j s.size).size)&&((s.extract j s.size).extract 0 (⟨#[47,47]⟩:Ê).size).toList==(⟨#[47,47]⟩:Ê).toList
theorem preB_is {s:Ê} {j:Nat} (h:j<s.size):preB s j=(decide (s[j].toNat=47)&&(dr s (j+1)).head?==some 47):=by
 have e1:(s.extract j s.size).size=s.size-j:=by simp
 have e2:(s.extract j s.size).data.toList=dr s j:=by rw[ext_list s j s.size ω (Nat.le_refl _),List.take_of_length_le (by rw[dr_len ω];omega)]
 unfold preB
 rw[e1,ByteArray.toList_eq,ByteArray.toList_eq]
 have e3:((s.extract j s.size).extract 0 (⟨#[47,47]⟩:Ê).size).data.toList=(dr s j).take 2:=by
  rw[←e2]
  simp only[ByteArray.data_extract,Array.toList_extract,List.extract_eq_take_drop]
  simp
  rfl
 rw[e3,dr_at h]
 have e4:s.size-j=1+(dr s (j+1)).length:=by rw[dr_len ω];omega
 rw[e4]
 have hb:(s[j]=47)↔s[j].toNat=47:=by rw[←UInt8.toNat_inj];rfl
 cases hr:dr s (j+1) with
 | nil=>simp
 | cons d r =>
  show (decide (2≤1+(r.length+1))&&([s[j],d]==[47,47]))=_
  rw[show decide (2≤1+(r.length+1))=true from decide_eq_true ω]
  rw[Bool.eq_iff_iff]
  simp[hb]
theorem pre_any (s:Ê) (j:Nat) (w:À) (h:s.size≤32768):Calls prog 124 #[.string (s.extract j s.size),.string ⟨#[47,47]⟩] w fun e w'=>e=.returned (.bool (preB s j))∧w=w':=
 prefix_any _ _ _ (by simp;unfold maxLen;omega) π
theorem skip_any {w:À} {xb:Nat} {s:Ê} {i:Nat} (k:Sn w xb s i):Calls prog 86 #[.pointer (some ⟨xb,0,none⟩)] w fun e w'=>e=.returned (.tuple #[])∧Stp (only xb) w w'∧∃j,Sn w' xb s j∧dr s j=skipL false (dr s i)∧i≤j:=by
 have hsz:=k.sz
 have hm:s.size≤9223372036854775807:=by omega
 have K:=η k
 clear k
 obtain⟨G,hG⟩:∃G,Hid (skipL false (dr s i)=G):=⟨_,rfl⟩
 go_in
 go_wp2_with fail
 go_loopw [] (fun wr=>∃j:Nat,Hid (i≤j∧skipL false (dr s j)=G)∧Hid (Stp (only xb) w wr)∧Hid (Sn wr xb s j)) (fun wr=>s.size-snAt xb wr)
 case atStart=>exact⟨i,⟨Nat.le_refl _,hG.o⟩,Stp.refl _ _,K.o⟩
 case round =>
  obtain⟨j,HE,HS,HK⟩:=hrel
  obtain⟨w1,rfl⟩:∃w1:À,w1=wr:=⟨_,rfl⟩
  have c0:w1.cell? ⟨xb,0,none⟩=some (.string s):=HK.o.box.cell 0
  have c1:w1.cell? ⟨xb,1,none⟩=some (.int .i64 (j:Int)):=HK.o.box.cell 1
  have f1:w1.frozen? ⟨xb,1,none⟩=false:=HK.o.box.free 1
  have hle:=HK.o.le
  by_cases hlt:j<s.size
  · have u0:decide ((j:Int)<(s.size:Int))=true:=decide_eq_true ω
    have j0:(0:Int)≤(j:Int):=by omega
    have j1:(j:Int)<(s.size:Int):=by omega
    have j2:(j:Int)≤(s.size:Int):=by omega
    have j3:j≤s.size:=by omega
    by_cases hb:s[j].toNat=9∨s[j].toNat=10∨s[j].toNat=13∨s[j].toNat=32
    · have HV:Hid (skipL false (dr s (j+1))=G):=by
       show _=_;rw[←HE.o.2,dr_at hlt,skipL,if_pos (by unfold blankC;simpa[or_assoc] using hb)]
      rcases hb with hb|hb|hb|hb
      all_goals
       first|(have q0:((s[j].toNat:Int)==9)=true:=by simp;omega)|(have q0:((s[j].toNat:Int)==9)=false:=by simp;omega)
       first|(have q1:((s[j].toNat:Int)==10)=true:=by simp;omega)|(have q1:((s[j].toNat:Int)==10)=false:=by simp;omega)
       first|(have q2:((s[j].toNat:Int)==13)=true:=by simp;omega)|(have q2:((s[j].toNat:Int)==13)=false:=by simp;omega)
       first|(have q3:((s[j].toNat:Int)==32)=true:=by simp;omega)|(have q3:((s[j].toNat:Int)==32)=false:=by simp;omega)
       clear hb
       go_wp2_with fail
       go_quiet (fail)
       go_wp2_with fail
       go_quiet (fail)
       go_wp2_with fail
       have hj:j+1≤s.size:=by omega
       exact⟨⟨j+1,⟨by have:=HE.o.1;omega,HV.o⟩,HS.o.trans ((Stp.of_below (below_dwN _ (belR _))).trans ((HK.o.bel (below_dwN _ (belR _))).set hj).2),((HK.o.bel (below_dwN _ (belR _))).set hj).1⟩,sn_less HK.o ((HK.o.bel (below_dwN _ (belR _))).set hj).1 (Nat.lt_succ_self _)⟩
    · cases hp:preB s j with
      | false =>
       have HP:=η hp
       have HV:Hid (dr s j=skipL false (dr s i)):=by
        rw[preB_is hlt] at hp
        show _=_;rw[hG.o,←HE.o.2,dr_at hlt,skipL,if_neg (by unfold blankC;simpa[or_assoc] using hb),if_neg (by rintro ⟨h1,h2⟩;rw[h1,h2] at hp;simp at hp)]
       have q0:((s[j].toNat:Int)==9)=false:=by simp;omega
       have q1:((s[j].toNat:Int)==10)=false:=by simp;omega
       have q2:((s[j].toNat:Int)==13)=false:=by simp;omega
       have q3:((s[j].toNat:Int)==32)=false:=by simp;omega
       clear hb hp
       go_wp2_with fail
       go_quiet (fail)
       go_wp2_with fail
       go_quiet (fail)
       go_wp2_with fail
       go_quiet ((go_at_call 124;exact (pre_any _ _ _ hsz).mono (fun e w' h=>⟨by rw[HP.o] at h;exact h.1,_,h.2.symm⟩)))
       go_wp2_with fail
       first|go_end0|refine bodyPost_ret (results_none rfl _ _ _) rfl ?_
       exact⟨rfl,HS.o.trans (Stp.of_below (below_dwN _ (below_dwN _ (belR _)))),j,HK.o.bel (below_dwN _ (below_dwN _ (belR _))),HV.o,HE.o.1⟩
      | true =>
       have HP:=η hp
       rw[preB_is hlt] at hp
       have h47:s[j].toNat=47:=by simp at hp;exact hp.1
       have H47:=η h47
       have HV:Hid (skipL true (dr s j)=G):=by
        show _=_
        rw[←HE.o.2,dr_at hlt]
        have e2:(dr s (j+1)).head?=some 47:=by simp at hp;exact hp.2
        rw[skipL,if_neg ω]
        rw[skipL,if_neg (by unfold blankC;simpa[or_assoc] using hb),if_pos ⟨h47,e2⟩]
       have q0:((s[j].toNat:Int)==9)=false:=by simp;omega
       have q1:((s[j].toNat:Int)==10)=false:=by simp;omega
       have q2:((s[j].toNat:Int)==13)=false:=by simp;omega
       have q3:((s[j].toNat:Int)==32)=false:=by simp;omega
       clear hb hp h47
       go_wp2_with fail
       go_quiet (fail)
       go_wp2_with fail
       go_quiet (fail)
       go_wp2_with fail
       go_quiet ((go_at_call 124;exact (pre_any _ _ _ hsz).mono (fun e w' h=>⟨by rw[HP.o] at h;exact h.1,_,h.2.symm⟩)))
       go_wp2_with fail
       clear c0 c1 f1 q0 q1 q2 q3
       have HSJ:Hid (∀(w':À) (j':Nat),Sn w' xb s j'→j<j'→s.size-snAt xb w'<s.size-snAt xb w1):=fun w' j' k h=>sn_less HK.o k h
       go_loopw [] (fun wr=>∃j':Nat,Hid (j≤j'∧skipL true (dr s j')=G)∧Hid (Stp (only xb) w wr)∧Hid (Sn wr xb s j')) (fun wr=>s.size-snAt xb wr)
       case atStart=>exact⟨j,⟨Nat.le_refl _,HV.o⟩,HS.o.trans (Stp.of_below (below_dwN _ (below_dwN _ (belR _)))),HK.o.bel (below_dwN _ (below_dwN _ (belR _)))⟩
       case round =>
        obtain⟨j',HE2,HS2,HK2⟩:=hrel
        have c0:wr.cell? ⟨xb,0,none⟩=some (.string s):=HK2.o.box.cell 0
        have c1:wr.cell? ⟨xb,1,none⟩=some (.int .i64 (j':Int)):=HK2.o.box.cell 1
        have f1:wr.frozen? ⟨xb,1,none⟩=false:=HK2.o.box.free 1
        have hle2:=HK2.o.le
        by_cases hlt2:j'<s.size
        · have u0':decide ((j':Int)<(s.size:Int))=true:=decide_eq_true ω
          have j0':(0:Int)≤(j':Int):=by omega
          have j1':(j':Int)<(s.size:Int):=by omega
          by_cases h10:s[j'].toNat=10
          · have q:((s[j'].toNat:Int)==10)=true:=by simp;omega
            have q':((s[j'].toNat:Int) != 10)=false:=by simp;omega
            have HW:Hid (skipL false (dr s j')=G):=by
             have h1:skipL true (s[j']::dr s (j'+1))=skipL false (dr s (j'+1)):=by rw[skipL,if_pos h10]
             have h2:skipL false (s[j']::dr s (j'+1))=skipL false (dr s (j'+1)):=by rw[skipL,if_pos (by unfold blankC;simp[h10])]
             show _=_;rw[←HE2.o.2,dr_at hlt2,h1,h2]
            have HJ:Hid (j<j'):=by
             show _<_
             have h1:=HE2.o.1
             rcases Nat.lt_or_ge j j' with h|h
             · exact h
             · obtain rfl:j=j':=by omega
               have:=H47.o;omega
            clear h10
            go_wp2_with fail
            go_quiet (fail)
            go_wp2_with fail
            exact⟨⟨j',⟨by have:=HE.o.1;have:=HJ.o;omega,HW.o⟩,HS2.o.trans (Stp.of_below (below_dwN _ (belR _))),HK2.o.bel (below_dwN _ (belR _))⟩,HSJ.o _ _ (HK2.o.bel (below_dwN _ (belR _))) HJ.o⟩
          · have q:((s[j'].toNat:Int)==10)=false:=by simp;omega
            have q':((s[j'].toNat:Int) != 10)=true:=by simp;omega
            have HW:Hid (skipL true (dr s (j'+1))=G):=by
             show _=_;rw[←HE2.o.2,dr_at hlt2];rw[show skipL true (s[j']::dr s (j'+1))=skipL true (dr s (j'+1)) by rw[skipL,if_neg h10]]
            have hj':j'+1≤s.size:=by omega
            clear h10
            go_wp2_with fail
            go_quiet (fail)
            go_wp2_with fail
            exact⟨⟨j'+1,⟨by have:=HE2.o.1;omega,HW.o⟩,HS2.o.trans ((Stp.of_below (below_dwN _ (belR _))).trans ((HK2.o.bel (below_dwN _ (belR _))).set hj').2),((HK2.o.bel (below_dwN _ (belR _))).set hj').1⟩,sn_less HK2.o ((HK2.o.bel (below_dwN _ (belR _))).set hj').1 (Nat.lt_succ_self _)⟩
        · have hq:=HE2.o
          obtain rfl:j'=s.size:=by omega
          have u0':decide ((s.size:Int)<(s.size:Int))=false:=decide_eq_false ω
          have HW:Hid (skipL false (dr s s.size)=G):=by
           show _=_;rw[←hq.2,dr_end];rfl
          clear hq
          go_wp2_with fail
          go_quiet (fail)
          go_wp2_with fail
          exact⟨⟨s.size,⟨by have:=HE.o.1;omega,HW.o⟩,HS2.o.trans (Stp.of_below (below_dwN _ (belR _))),HK2.o.bel (below_dwN _ (belR _))⟩,HSJ.o _ _ (HK2.o.bel (below_dwN _ (belR _))) hlt⟩
  · have HQ:=HE.o
    obtain rfl:j=s.size:=by omega
    have HW:Hid (dr s s.size=skipL false (dr s i)):=by show _=_;rw[hG.o,←HQ.2,dr_end];rfl
    have u0:decide ((s.size:Int)<(s.size:Int))=false:=decide_eq_false ω
    clear HQ
    go_wp2_with fail
    go_quiet (fail)
    go_wp2_with fail
    first|go_end0|refine bodyPost_ret (results_none rfl _ _ _) rfl ?_
    exact⟨rfl,HS.o.trans (Stp.of_below (below_dwN _ (belR _))),s.size,HK.o.bel (below_dwN _ (belR _)),HW.o,HE.o.1⟩
section
abbrev tkc (k:Int) (t:Ê) (n p:Int):Array Value:=#[.int .i64 k,.string t,.int .i64 n,.int .i64 p]
theorem ret42 {fn:Func} {p u:Tmp} (h:fn.results=#[.cell p 198,.tmp u]) (tmps:Array Value) (w:À) (g:Nat) (k n q:Int) (t:Ê) (hp:tmps.getD p undef=.pointer (some ⟨g,0,none⟩)) (hg:Hs w g 198 (tkc k t n q)) :
 (results fn tmps).run prog w=.ok (.tuple #[.agg (tkc k t n q),tmps.getD u undef]) w:=by
 rw[results_cell_tmp h,hp]
 have:=run_loadVar_row (P:=prog) w g 198 198 (tkc k t n q) (0,0) _ hg underlying198 rfl (by show _=some 4;kernel_rfl)
 simp[asAddr,this,Result.andThen]
section
variable {w w' W1:À} {xb:Nat} {s:Ê} {i j g:Nat}
theorem Sn.row (k:Sn W1 xb s j) (hg:xb≠g) (cs:Array Value):Sn (W1.setRow g cs) xb s j:=⟨(setRow_other _ _ _ _ hg).trans k.box,k.le,k.sz⟩
theorem Sn.s0 (k:Sn w xb s i):∃W,Hid (W=w.alloc (.cells (tkc 0 ⟨#[]⟩ 0 0) 198))∧Hid (Sn W xb s i)∧Hid (Stp (only xb) w W)∧Hid (Hs W w.heap.size 198 (tkc 0 ⟨#[]⟩ 0 0))∧Hid (w.heap.size≠xb):=
 ⟨_,rfl,k.bel (belA (belR _) _),Stp.of_below (belA (belR _) _),Hs.new _ _ _,fun e=>by have:=k.box.lt;omega⟩
end
theorem sname_any {w:À} {xb:Nat} {s:Ê} {i:Nat} (k:Sn w xb s i):Calls prog 88 #[.pointer (some ⟨xb,0,none⟩)] w fun e w'=>e=.returned (.agg (tkc 1 (s.extract i (wordE s i)) 0 0))∧Stp (only xb) w w'∧Sn w' xb s (wordE s i):=by
 obtain⟨W0,HW,K0,S0,Z0,NE⟩:=k.s0
 clear k
 go_in
 go_upto_region 1 with fail
 rw[←HW.o]
 go_wp2_with fail
 refine (sword_any K0.o).mono ?_
 rintro _ W1 ⟨rfl,st,k1⟩
 obtain⟨ST,K1,Z1⟩:=zd3 (S0.o.trans st) k1 (hs_stp Z0.o st (fun e=>NE.o e))
 clear st k1
 have O:=setRow_heap _ _ _ (tkc 1 (s.extract i (wordE s i)) 0 0) _ _ Z1.o
 go_wp2_with (refine wpList_store_row rfl 198 _ _ rfl w.heap.size (tkc 1 (s.extract i (wordE s i)) 0 0) rfl rfl 198 _ Z1.o Δ rfl (by simp[Value.oneCell']) ?_)
 exact bodyPost_ret (results_cell_row results88 _ _ w.heap.size 198 _ _ _ rfl O underlying198 rfl Δ) rfl ⟨rfl,stp_row ST.o (Nat.le_refl _) _,K1.o.row (fun e=>NE.o e.symm) _⟩
def lexV (x:Except Int Tk):Value:=match x with
 | .error e=>.tuple #[.agg (tkc 0 ⟨#[]⟩ 0 0),.int .i64 e]
 | .ok t=>.tuple #[.agg (tkc t.kind t.text t.n 0),.int .i64 0]
def intT (l:List UInt8):Except Int Tk:=match intL l with
 | .error e=>.error e
 | .ok n=>.ok ⟨2,e0,n,0⟩
theorem dig_bad {s:Ê} {k:Nat} (h:k<s.size) (hb:digC s[k]=false):s.data.toList.all digC=false:=all_bad digC _ k (by simpa using h) hb
theorem dig_good {s:Ê} (hb:∀k (h:k<s.size),digC s[k]=true):s.data.toList.all digC=true:=all_good digC _ fun k hk=>hb k (by simpa using hk)
theorem sint_any {w:À} {xb:Nat} {s:Ê} {i:Nat} (k:Sn w xb s i) (hi:i<wordE s i):Calls prog 90 #[.pointer (some ⟨xb,0,none⟩)] w fun e w'=>e=.returned (lexV (intT (s.extract i (wordE s i)).data.toList))∧Stp (only xb) w w'∧Sn w' xb s (wordE s i):=by
 obtain⟨W0,HW,K0,S0,Z0,NE⟩:=k.s0
 have hsz:=k.sz
 obtain⟨u,hu⟩:∃u,Hid (u=s.extract i (wordE s i)):=⟨_,rfl⟩
 have hwe:Hid (wordE s i≤s.size):=by
  show _≤_;unfold wordE
  have h1:=(List.takeWhile_sublist nameC (l:=dr s i)).length_le
  rw[dr_len k.le] at h1;have:=k.le;omega
 have hus:1≤u.size∧u.size≤32768:=by rw[hu.o];have:=hwe.o;simp;omega
 have HUS:=η hus
 have hm:u.size≤9223372036854775807:=by omega
 clear k hi
 rw[←hu.o]
 go_in
 go_upto_region 1 with fail
 rw[←HW.o]
 go_wp2_with fail
 refine (sword_any K0.o).mono ?_
 rintro _ W1 ⟨rfl,st,k1⟩
 obtain⟨ST,K1,Z1⟩:=zd3 (S0.o.trans st) k1 (hs_stp Z0.o st (fun e=>NE.o e))
 clear st k1
 rw[←hu.o]
 have fin:∀(W:À) (cs:Array Value),W=W1.setRow w.heap.size cs→Stp (only xb) w W∧Sn W xb s (wordE s i):=fun W cs e=>by rw[e];exact⟨stp_row ST.o (Nat.le_refl _) _,K1.o.row (fun e=>NE.o e.symm) _⟩
 have FIN:=η fin
 clear fin
 have OZ:=η (setRow_heap _ _ _ (tkc 0 ⟨#[]⟩ 0 0) _ _ Z1.o)
 go_wp2_with fail
 go_loopw [12] (fun v wr=>∃j:Nat,j≤u.size∧v=.int .i64 j∧Hid (∀q (h:q<u.size),q<j→digC u[q]=true)∧wr=W1) (fun v _=>u.size-(intOf v).toNat)
 case atStart=>exact⟨0,by omega,rfl,fun q _ h=>by omega,rfl⟩
 case round =>
  obtain⟨j,hj,rfl,HQ,rfl⟩:=hrel
  by_cases hlt:j<u.size
  · have u0:decide ((j:Int)<(u.size:Int))=true:=decide_eq_true ω
    have j0:(0:Int)≤(j:Int):=by omega
    have j1:(j:Int)<(u.size:Int):=by omega
    cases hc:digC u[j] with
    | true =>
     have HC:=η hc
     have HQ2:Hid (∀q (h:q<u.size),q<j+1→digC u[q]=true):=fun q h hq=>by
      by_cases e:q=j
      · subst e;exact HC.o
      · exact HQ.o q h ω
     clear hc
     go_wp2_with fail
     refine (digit_any _ _).mono ?_
     rw[HC.o]
     rintro _ _ ⟨rfl,rfl⟩
     go_wp2_with fail
     exact⟨⟨j+1,by omega,by go_num,HQ2.o,trivial⟩,by simp[intOf];omega⟩
    | false =>
     have HC:=η hc
     have HV:Hid (intT u.data.toList=.error 2):=by show _=_;unfold intT intL;rw[dig_bad hlt hc];rfl
     clear hc
     go_wp2_with fail
     refine (digit_any _ _).mono ?_
     rw[HC.o]
     rintro _ _ ⟨rfl,rfl⟩
     go_wp2_with (refine wpList_store_row rfl 198 _ _ rfl w.heap.size (tkc 0 ⟨#[]⟩ 0 0) rfl rfl 198 _ Z1.o Δ rfl (by simp[Value.oneCell']) ?_)
     exact bodyPost_ret (ret42 results90 _ _ w.heap.size 0 0 0 ⟨#[]⟩ rfl OZ.o) rfl ⟨by rw[HV.o];rfl,FIN.o _ _ rfl⟩
  · have hd:u.data.toList.all digC=true:=dig_good fun q h=>HQ.o q h ω
    obtain rfl:j=u.size:=by omega
    have u0:decide ((u.size:Int)<(u.size:Int))=false:=decide_eq_false ω
    have hp:0<u.size:=by omega
    have p0:(0:Int)<(u.size:Int):=by omega
    have hh:u.data.toList.head?=some u[0]:=data_head u hp
    have HI:Hid (intL u.data.toList=if u.data.toList.head?=some 48∧u.data.toList≠[48] then .error 2 else match numP u.data.toList 0 9007199254740992 with|none=>.error 6|some n=>.ok n):=by
     show _=_;unfold intL;rw[hd];rfl
    have hb:u[0]=48↔u[0].toNat=48:=by rw[←UInt8.toNat_inj];rfl
    have NUM:∀(W:À),Calls prog 34 #[.string u,.int .i64 0,.int .i64 9007199254740992] W fun e w'=>e=.returned (okP (numP u.data.toList 0 9007199254740992))∧Below W.heap.size W w':=fun W=>numParse_any u 0 9007199254740992 W hm
    have HNUM:=η NUM
    clear NUM
    by_cases hz:u[0].toNat=48∧u.data.toList≠[48]
    · have HV:Hid (intT u.data.toList=.error 2):=by show _=_;unfold intT;rw[HI.o,if_pos ⟨by rw[hh,hb.2 hz.1],hz.2⟩]
      have q0:((u[0].toNat:Int)==48)=true:=by simp;omega
      have q1:(u.toList==[48])=false:=by rw[ByteArray.toList_eq];simpa using hz.2
      have q2:(u.toList != [48])=true:=by simp[bne,q1]
      clear hz hh hb hd
      go_wp2_with (refine wpList_store_row rfl 198 _ _ rfl w.heap.size (tkc 0 ⟨#[]⟩ 0 0) rfl rfl 198 _ Z1.o Δ rfl (by simp[Value.oneCell']) ?_)
      exact bodyPost_ret (ret42 results90 _ _ w.heap.size 0 0 0 ⟨#[]⟩ rfl OZ.o) rfl ⟨by rw[HV.o];rfl,FIN.o _ _ rfl⟩
    · have HV:Hid (intT u.data.toList=match numP u.data.toList 0 9007199254740992 with|none=>.error 6|some n=>.ok ⟨2,e0,n,0⟩):=by
       show _=_;unfold intT;rw[HI.o,if_neg (by rw[hh];rintro ⟨h1,h2⟩;exact hz ⟨hb.1 (by injection h1),h2⟩)]
       cases numP u.data.toList 0 9007199254740992<;>rfl
      have tail:∀q:Prop,q→q:=fun _ h=>h
      by_cases hz0:u[0].toNat=48
      · have q0:((u[0].toNat:Int)==48)=true:=by simp;omega
        have q1:(u.toList==[48])=true:=by rw[ByteArray.toList_eq];have:u.data.toList=[48]:=Classical.byContradiction fun h=>hz ⟨hz0,h⟩;rw[this];rfl
        have q2:(u.toList != [48])=false:=by simp[bne,q1]
        clear hz hh hb hd hz0 tail
        cases hn:numP u.data.toList 0 9007199254740992 with
        | none =>
         have HN:=η hn
         have HV2:Hid (intT u.data.toList=.error 6):=HV.o.trans (by rw[hn])
         clear hn
         go_wp2_with fail
         refine (HNUM.o _).mono ?_
         rw[HN.o,show okP none=.tuple #[.int .i64 0,.bool false] from rfl]
         rintro _ W2 ⟨rfl,b⟩
         have Z2:=η (hs_bel Z1.o b);have OZ2:=η (setRow_heap _ _ _ (tkc 0 ⟨#[]⟩ 0 0) _ _ Z2.o)
         have fin2:∀(W:À) (cs:Array Value),W=W2.setRow w.heap.size cs→Stp (only xb) w W∧Sn W xb s (wordE s i):=fun W cs e=>by rw[e];exact⟨stp_row (ST.o.trans (Stp.of_below b)) (Nat.le_refl _) _,(K1.o.bel b).row (fun e=>NE.o e.symm) _⟩
         have FIN2:=η fin2
         clear fin2 b
         go_wp2_with (refine wpList_store_row rfl 198 _ _ rfl w.heap.size (tkc 0 ⟨#[]⟩ 0 0) rfl rfl 198 _ Z2.o Δ rfl (by simp[Value.oneCell']) ?_)
         exact bodyPost_ret (ret42 results90 _ _ w.heap.size 0 0 0 ⟨#[]⟩ rfl OZ2.o) rfl ⟨by rw[HV2.o];rfl,FIN2.o _ _ rfl⟩
        | some n =>
         have HN:=η hn
         have HV2:Hid (intT u.data.toList=.ok ⟨2,e0,n,0⟩):=HV.o.trans (by rw[hn])
         clear hn
         go_wp2_with fail
         refine (HNUM.o _).mono ?_
         rw[HN.o,show okP (some n)=.tuple #[.int .i64 n,.bool true] from rfl]
         rintro _ W2 ⟨rfl,b⟩
         have Z2:=η (hs_bel Z1.o b);have OZ2:=η (setRow_heap _ _ _ (tkc 0 ⟨#[]⟩ 0 0) _ _ Z2.o)
         have fin2:∀(W:À) (cs:Array Value),W=W2.setRow w.heap.size cs→Stp (only xb) w W∧Sn W xb s (wordE s i):=fun W cs e=>by rw[e];exact⟨stp_row (ST.o.trans (Stp.of_below b)) (Nat.le_refl _) _,(K1.o.bel b).row (fun e=>NE.o e.symm) _⟩
         have FIN2:=η fin2
         clear fin2 b
         have OK:=setRow_heap _ _ _ (tkc 2 ⟨#[]⟩ n 0) _ _ Z2.o
         go_wp2_with (refine wpList_store_row rfl 198 _ _ rfl w.heap.size (tkc 2 ⟨#[]⟩ n 0) rfl rfl 198 _ Z2.o Δ rfl (by simp[Value.oneCell']) ?_)
         exact bodyPost_ret (ret42 results90 _ _ w.heap.size 2 n 0 ⟨#[]⟩ rfl OK) rfl ⟨by rw[HV2.o];rfl,FIN2.o _ _ rfl⟩
      · have q0:((u[0].toNat:Int)==48)=false:=by simp;omega
        clear hz hh hb hd hz0 tail
        cases hn:numP u.data.toList 0 9007199254740992 with
        | none =>
         have HN:=η hn
         have HV2:Hid (intT u.data.toList=.error 6):=HV.o.trans (by rw[hn])
         clear hn
         go_wp2_with fail
         refine (HNUM.o _).mono ?_
         rw[HN.o,show okP none=.tuple #[.int .i64 0,.bool false] from rfl]
         rintro _ W2 ⟨rfl,b⟩
         have Z2:=η (hs_bel Z1.o b);have OZ2:=η (setRow_heap _ _ _ (tkc 0 ⟨#[]⟩ 0 0) _ _ Z2.o)
         have fin2:∀(W:À) (cs:Array Value),W=W2.setRow w.heap.size cs→Stp (only xb) w W∧Sn W xb s (wordE s i):=fun W cs e=>by rw[e];exact⟨stp_row (ST.o.trans (Stp.of_below b)) (Nat.le_refl _) _,(K1.o.bel b).row (fun e=>NE.o e.symm) _⟩
         have FIN2:=η fin2
         clear fin2 b
         go_wp2_with (refine wpList_store_row rfl 198 _ _ rfl w.heap.size (tkc 0 ⟨#[]⟩ 0 0) rfl rfl 198 _ Z2.o Δ rfl (by simp[Value.oneCell']) ?_)
         exact bodyPost_ret (ret42 results90 _ _ w.heap.size 0 0 0 ⟨#[]⟩ rfl OZ2.o) rfl ⟨by rw[HV2.o];rfl,FIN2.o _ _ rfl⟩
        | some n =>
         have HN:=η hn
         have HV2:Hid (intT u.data.toList=.ok ⟨2,e0,n,0⟩):=HV.o.trans (by rw[hn])
         clear hn
         go_wp2_with fail
         refine (HNUM.o _).mono ?_
         rw[HN.o,show okP (some n)=.tuple #[.int .i64 n,.bool true] from rfl]
         rintro _ W2 ⟨rfl,b⟩
         have Z2:=η (hs_bel Z1.o b);have OZ2:=η (setRow_heap _ _ _ (tkc 0 ⟨#[]⟩ 0 0) _ _ Z2.o)
         have fin2:∀(W:À) (cs:Array Value),W=W2.setRow w.heap.size cs→Stp (only xb) w W∧Sn W xb s (wordE s i):=fun W cs e=>by rw[e];exact⟨stp_row (ST.o.trans (Stp.of_below b)) (Nat.le_refl _) _,(K1.o.bel b).row (fun e=>NE.o e.symm) _⟩
         have FIN2:=η fin2
         clear fin2 b
         have OK:=setRow_heap _ _ _ (tkc 2 ⟨#[]⟩ n 0) _ _ Z2.o
         go_wp2_with (refine wpList_store_row rfl 198 _ _ rfl w.heap.size (tkc 2 ⟨#[]⟩ n 0) rfl rfl 198 _ Z2.o Δ rfl (by simp[Value.oneCell']) ?_)
         exact bodyPost_ret (ret42 results90 _ _ w.heap.size 2 n 0 ⟨#[]⟩ rfl OK) rfl ⟨by rw[HV2.o];rfl,FIN2.o _ _ rfl⟩
end
end Go.Proofs.YtbmknjfgjphfbaaGreatDoor
