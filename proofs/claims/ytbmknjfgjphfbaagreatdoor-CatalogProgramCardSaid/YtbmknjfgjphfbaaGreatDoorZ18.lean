import Derived.Test.YtbmknjfgjphfbaaGreatDoorZ17
set_option linter.all false
namespace Go.Proofs.YtbmknjfgjphfbaaGreatDoor
open Proofs.Tryz RowKit Maps WideMaps ChangeMaps
set_option maxRecDepth 100000
set_option maxHeartbeats 8000000
def markN (l:List UInt8):Option Nat:=if 2≤l.length∧markB (l.take 2)=true then some 2 else if markB (l.take 1)=true then some 1 else none
def MkI (s:Ê) (i z:Nat):Prop:=z≤2∧(z=1→markN (dr s i)=if markB ((dr s i).take 1)=true then some 1 else none)∧(z=0→markN (dr s i)=none)
def MkS (w:À) (xb:Nat) (s:Ê) (i:Nat) (e:Ending) (w':À):Prop:=
 match markN (dr s i) with
 | some n=>e=.returned (lexV (.ok ⟨4,s.extract i (i+n),0,0⟩))∧Stp (only xb) w w'∧Sn w' xb s (i+n)
 | none=>e=.returned (lexV (.error 2))∧Stp (only xb) w w'∧Sn w' xb s i
theorem ext_take {s:Ê} {i n:Nat} (h:i+n≤s.size):(s.extract i (i+n)).data.toList=(dr s i).take n:=by
 rw[ext_list s i (i+n) ω h];congr 1;omega
theorem smark_any {w:À} {xb:Nat} {s:Ê} {i:Nat} (k:Sn w xb s i) (hi:i<s.size):Calls prog 92 #[.pointer (some ⟨xb,0,none⟩)] w (MkS w xb s i):=by
 obtain⟨W0,HW,K0,S0,Z0,NE⟩:=k.s0
 have hsz:=k.sz
 have hl:(dr s i).length=s.size-i:=dr_len ω
 clear k
 have c0:W0.cell? ⟨xb,0,none⟩=some (.string s):=K0.o.box.cell 0
 have c1:W0.cell? ⟨xb,1,none⟩=some (.int .i64 (i:Int)):=K0.o.box.cell 1
 obtain⟨z,hz⟩:∃z:Nat,Hid (z=min 2 (s.size-i)):=⟨_,rfl⟩
 have hzc:(z=1∧s.size-i=1)∨(z=2∧2≤s.size-i):=by have:=hz.o;omega
 have hw:wrap64 ((s.size:Int)-(i:Int))=(((s.size-i:Nat)):Int):=by unfold wrap64;omega
 go_in
 go_upto_region 1 with fail
 rw[←HW.o]
 go_wp2_with fail
 go_quiet (fail)
 rw[show (if (s.size:Int)-(i:Int)<2 then (s.size:Int)-(i:Int) else 2)=(z:Int) by split<;>omega]
 generalize hW1:W0.drewN _=W1
 have K1:Hid (Sn W1 xb s i):=by show Sn _ _ _ _;rw[←hW1];exact K0.o.bel (below_dwN _ (belR _))
 have S1:Hid (Stp (only xb) w W1):=by show Stp _ _ _;rw[←hW1];exact S0.o.trans (Stp.of_below (below_dwN _ (belR _)))
 have Z1:Hid (Hs W1 w.heap.size 198 (tkc 0 ⟨#[]⟩ 0 0)):=by show Hs _ _ _ _;rw[←hW1];exact hs_bel Z0.o (below_dwN _ (belR _))
 clear hW1 c0 c1 hw K0 S0 Z0 HW
 have HM0:Hid (MkI s i z):=⟨by omega,fun h=>by unfold markN;rw[if_neg (by rintro ⟨h,_⟩;omega)],fun h=>by omega⟩
 have HB0:Hid (i+z≤s.size):=by show _≤_;omega
 clear hzc hz
 go_wp2_with fail
 go_loopw [4] (fun v wr=>∃z:Nat,v=.int .i64 (z:Int)∧Hid (MkI s i z)∧Hid (i+z≤s.size)∧Hid (Sn wr xb s i)∧Hid (Stp (only xb) w wr)∧Hid (Hs wr w.heap.size 198 (tkc 0 ⟨#[]⟩ 0 0))) (fun v _=>(intOf v).toNat)
 case atStart=>exact⟨z,rfl,HM0,HB0,K1,S1,Z1⟩
 case round =>
  clear HM0 HB0 K1 S1 Z1
  obtain⟨z,rfl,HM,HB,HK,HS,HZ⟩:=hrel
  have hz3:z=0∨z=1∨z=2:=by have:=HM.o.1;omega
  have c0:wr.cell? ⟨xb,0,none⟩=some (.string s):=HK.o.box.cell 0
  have c1:wr.cell? ⟨xb,1,none⟩=some (.int .i64 (i:Int)):=HK.o.box.cell 1
  have f1:wr.frozen? ⟨xb,1,none⟩=false:=HK.o.box.free 1
  rcases hz3 with rfl|rfl|rfl
  rotate_left
  · have jz:i+1≤s.size:=HB.o
    have i0:(0:Int)≤(i:Int):=by omega
    have i1:(i:Int)≤(i:Int)+1:=by omega
    have i2:(i:Int)+1≤(s.size:Int):=by omega
    have HX:=η (ext_take jz)
    have N0:=η (show ((i:Int)+1).toNat=i+1 by omega)
    cases hc:markB ((dr s i).take 1) with
    | true =>
     have HC:=η hc
     have HV:markN (dr s i)=some 1:=by rw[HM.o.2.1 rfl,if_pos hc]
     have HV:=η HV
     clear hc
     go_wp2_with fail
     go_quiet (fail)
     go_wp2_with fail
     generalize hW2:wr.drewN _=W2
     have K2:Hid (Sn W2 xb s i):=by show Sn _ _ _ _;rw[←hW2];exact HK.o.bel (below_dwN _ (belR _))
     have S2:Hid (Stp (only xb) w W2):=by show Stp _ _ _;rw[←hW2];exact HS.o.trans (Stp.of_below (below_dwN _ (belR _)))
     have Z2:Hid (Hs W2 w.heap.size 198 (tkc 0 ⟨#[]⟩ 0 0)):=by show Hs _ _ _ _;rw[←hW2];exact hs_bel HZ.o (below_dwN _ (belR _))
     clear hW2 c0 c1 f1
     have c1:W2.cell? ⟨xb,1,none⟩=some (.int .i64 (i:Int)):=K2.o.box.cell 1
     have f1:W2.frozen? ⟨xb,1,none⟩=false:=K2.o.box.free 1
     refine (mark_any _ _).mono ?_
     first|rw[HX.o,HC.o]|(rw[N0.o,HX.o,HC.o])
     rintro _ _ ⟨rfl,rfl⟩
     have X:=K2.o.set (j:=i+1) HB.o
     have O:=setRow_heap _ _ _ (tkc 4 (s.extract i (i+1)) 0 0) _ _ (hs_oth (g':=xb) (i:=1) (v:=.int .i64 ((i+1:Nat):Int)) Z2.o (fun e=>NE.o e))
     have Z3:=η (hs_oth (g':=xb) (i:=1) (v:=.int .i64 ((i+1:Nat):Int)) Z2.o (fun e=>NE.o e))
     have HR:Hid (Stp (only xb) w ((W2.setCell ⟨xb,1,none⟩ (.int .i64 ((i+1:Nat):Int))).setRow w.heap.size (tkc 4 (s.extract i (i+1)) 0 0))∧Sn ((W2.setCell ⟨xb,1,none⟩ (.int .i64 ((i+1:Nat):Int))).setRow w.heap.size (tkc 4 (s.extract i (i+1)) 0 0)) xb s (i+1)):=⟨stp_row (S2.o.trans X.2) (Nat.le_refl _) _,X.1.row (fun e=>NE.o e.symm) _⟩
     clear X
     go_wp2_with (refine wpList_store_row rfl 198 _ _ rfl w.heap.size (tkc 4 (s.extract i (i+1)) 0 0) rfl rfl 198 _ Z3.o Δ rfl (by simp[Value.oneCell']) ?_)
     exact bodyPost_ret (ret42 results92 _ _ w.heap.size 4 0 0 (s.extract i (i+1)) rfl O) rfl (by unfold MkS;rw[HV.o];exact⟨rfl,HR.o⟩)
    | false =>
     have HC:=η hc
     have HNX:Hid (MkI s i 0):=⟨by omega,fun h=>absurd h ω,fun _=>by rw[HM.o.2.1 rfl,if_neg (by rw[hc];simp)]⟩
     clear hc
     go_wp2_with fail
     go_quiet (fail)
     go_wp2_with fail
     generalize hW2:wr.drewN _=W2
     have K2:Hid (Sn W2 xb s i):=by show Sn _ _ _ _;rw[←hW2];exact HK.o.bel (below_dwN _ (belR _))
     have S2:Hid (Stp (only xb) w W2):=by show Stp _ _ _;rw[←hW2];exact HS.o.trans (Stp.of_below (below_dwN _ (belR _)))
     have Z2:Hid (Hs W2 w.heap.size 198 (tkc 0 ⟨#[]⟩ 0 0)):=by show Hs _ _ _ _;rw[←hW2];exact hs_bel HZ.o (below_dwN _ (belR _))
     clear hW2 c0 c1 f1
     have c1:W2.cell? ⟨xb,1,none⟩=some (.int .i64 (i:Int)):=K2.o.box.cell 1
     have f1:W2.frozen? ⟨xb,1,none⟩=false:=K2.o.box.free 1
     refine (mark_any _ _).mono ?_
     first|rw[HX.o,HC.o]|(rw[N0.o,HX.o,HC.o])
     rintro _ _ ⟨rfl,rfl⟩
     go_wp2_with fail
     exact⟨⟨0,rfl,HNX,by have:=HB.o;show _≤_;omega,K2,S2,Z2⟩,by simp[intOf]⟩
  · have jz:i+2≤s.size:=HB.o
    have i0:(0:Int)≤(i:Int):=by omega
    have i1:(i:Int)≤(i:Int)+2:=by omega
    have i2:(i:Int)+2≤(s.size:Int):=by omega
    have HX:=η (ext_take jz)
    have N0:=η (show ((i:Int)+2).toNat=i+2 by omega)
    cases hc:markB ((dr s i).take 2) with
    | true =>
     have HC:=η hc
     have HV:markN (dr s i)=some 2:=by unfold markN;rw[if_pos ⟨by omega,hc⟩]
     have HV:=η HV
     clear hc
     go_wp2_with fail
     go_quiet (fail)
     go_wp2_with fail
     generalize hW2:wr.drewN _=W2
     have K2:Hid (Sn W2 xb s i):=by show Sn _ _ _ _;rw[←hW2];exact HK.o.bel (below_dwN _ (belR _))
     have S2:Hid (Stp (only xb) w W2):=by show Stp _ _ _;rw[←hW2];exact HS.o.trans (Stp.of_below (below_dwN _ (belR _)))
     have Z2:Hid (Hs W2 w.heap.size 198 (tkc 0 ⟨#[]⟩ 0 0)):=by show Hs _ _ _ _;rw[←hW2];exact hs_bel HZ.o (below_dwN _ (belR _))
     clear hW2 c0 c1 f1
     have c1:W2.cell? ⟨xb,1,none⟩=some (.int .i64 (i:Int)):=K2.o.box.cell 1
     have f1:W2.frozen? ⟨xb,1,none⟩=false:=K2.o.box.free 1
     refine (mark_any _ _).mono ?_
     first|rw[HX.o,HC.o]|(rw[N0.o,HX.o,HC.o])
     rintro _ _ ⟨rfl,rfl⟩
     have X:=K2.o.set (j:=i+2) HB.o
     have O:=setRow_heap _ _ _ (tkc 4 (s.extract i (i+2)) 0 0) _ _ (hs_oth (g':=xb) (i:=1) (v:=.int .i64 ((i+2:Nat):Int)) Z2.o (fun e=>NE.o e))
     have Z3:=η (hs_oth (g':=xb) (i:=1) (v:=.int .i64 ((i+2:Nat):Int)) Z2.o (fun e=>NE.o e))
     have HR:Hid (Stp (only xb) w ((W2.setCell ⟨xb,1,none⟩ (.int .i64 ((i+2:Nat):Int))).setRow w.heap.size (tkc 4 (s.extract i (i+2)) 0 0))∧Sn ((W2.setCell ⟨xb,1,none⟩ (.int .i64 ((i+2:Nat):Int))).setRow w.heap.size (tkc 4 (s.extract i (i+2)) 0 0)) xb s (i+2)):=⟨stp_row (S2.o.trans X.2) (Nat.le_refl _) _,X.1.row (fun e=>NE.o e.symm) _⟩
     clear X
     go_wp2_with (refine wpList_store_row rfl 198 _ _ rfl w.heap.size (tkc 4 (s.extract i (i+2)) 0 0) rfl rfl 198 _ Z3.o Δ rfl (by simp[Value.oneCell']) ?_)
     exact bodyPost_ret (ret42 results92 _ _ w.heap.size 4 0 0 (s.extract i (i+2)) rfl O) rfl (by unfold MkS;rw[HV.o];exact⟨rfl,HR.o⟩)
    | false =>
     have HC:=η hc
     have HNX:Hid (MkI s i 1):=⟨by omega,fun _=>by show markN _=_;unfold markN;rw[if_neg (by rintro ⟨_,h⟩;rw[hc] at h;cases h)],fun h=>absurd h ω⟩
     clear hc
     go_wp2_with fail
     go_quiet (fail)
     go_wp2_with fail
     generalize hW2:wr.drewN _=W2
     have K2:Hid (Sn W2 xb s i):=by show Sn _ _ _ _;rw[←hW2];exact HK.o.bel (below_dwN _ (belR _))
     have S2:Hid (Stp (only xb) w W2):=by show Stp _ _ _;rw[←hW2];exact HS.o.trans (Stp.of_below (below_dwN _ (belR _)))
     have Z2:Hid (Hs W2 w.heap.size 198 (tkc 0 ⟨#[]⟩ 0 0)):=by show Hs _ _ _ _;rw[←hW2];exact hs_bel HZ.o (below_dwN _ (belR _))
     clear hW2 c0 c1 f1
     have c1:W2.cell? ⟨xb,1,none⟩=some (.int .i64 (i:Int)):=K2.o.box.cell 1
     have f1:W2.frozen? ⟨xb,1,none⟩=false:=K2.o.box.free 1
     refine (mark_any _ _).mono ?_
     first|rw[HX.o,HC.o]|(rw[N0.o,HX.o,HC.o])
     rintro _ _ ⟨rfl,rfl⟩
     go_wp2_with fail
     exact⟨⟨1,rfl,HNX,by have:=HB.o;show _≤_;omega,K2,S2,Z2⟩,by simp[intOf]⟩
  · obtain⟨HV,OZ⟩:=zd2 (HM.o.2.2 rfl) (setRow_heap _ _ _ (tkc 0 ⟨#[]⟩ 0 0) _ _ HZ.o)
    have HR:Hid (Stp (only xb) w (wr.setRow w.heap.size (tkc 0 ⟨#[]⟩ 0 0))∧Sn (wr.setRow w.heap.size (tkc 0 ⟨#[]⟩ 0 0)) xb s i):=⟨stp_row HS.o (Nat.le_refl _) _,HK.o.row (fun e=>NE.o e.symm) _⟩
    go_wp2_with (refine wpList_store_row rfl 198 _ _ rfl w.heap.size (tkc 0 ⟨#[]⟩ 0 0) rfl rfl 198 _ HZ.o Δ rfl (by simp[Value.oneCell']) ?_)
    exact bodyPost_ret (ret42 results92 _ _ w.heap.size 0 0 0 ⟨#[]⟩ rfl OZ.o) rfl (by unfold MkS;rw[HV.o];exact⟨rfl,HR.o⟩)
end Go.Proofs.YtbmknjfgjphfbaaGreatDoor
