import Derived.Lib.AppendStr
import Derived.Lib.OthersKept
import Derived.Lib.AppendIntMem
import Derived.Test.YtbmknjfgjphfbaaGreatDoorZ18
import Derived.Test.YtbmknjfgjphfbaaGreatDoorZ19
set_option linter.all false
namespace Go.Proofs.YtbmknjfgjphfbaaGreatDoor
open Proofs.Tryz RowKit Maps WideMaps ChangeMaps
set_option maxRecDepth 100000
set_option maxHeartbeats 8000000
theorem copyCheck_used (b:Nat) (w:À) (h0:w.cell? ⟨b,0,none⟩=some (.pointer (some ⟨b,0,none⟩))) :
 Calls prog 36 #[.pointer (some ⟨b,0,none⟩)] w fun e w'=>e=.returned (.tuple #[])∧w=w':=by
 obtain⟨j,hj,_⟩:=Option.map_eq_some_iff.1 (show (prog.info? 70).map (·.size)=some 2 by kernel_rfl)
 go_in
 go_wp2
 rw[Lib.run_neq_ptr_same w _ underlying68 hj]
 go_wp2
 go_end0
 exact⟨rfl,rfl⟩
theorem copyCheck_fresh (b:Nat) (w:À) (h0:w.cell? ⟨b,0,none⟩=some (.pointer none)) (hsh:w.shape? b=some (70, 2)) (hfz:w.frozen? ⟨b,0,none⟩=false) :
 Calls prog 36 #[.pointer (some ⟨b,0,none⟩)] w fun e w'=>e=.returned (.tuple #[])∧w'=w.setCell ⟨b,0,none⟩ (.pointer (some ⟨b,0,none⟩)):=by
 obtain⟨j,hj,hjs⟩:=Option.map_eq_some_iff.1 (show (prog.info? 70).map (·.size)=some 2 by kernel_rfl)
 go_in
 go_wp2
 rw[Lib.run_to_unsafe w ⟨b,0,none⟩ underlying68 underlying151 hj (by rw[hjs];decide) hsh (Nat.zero_lt_succ 1)]
 simp only[Result.andThen]
 rw[Oper.upon_value]
 go_wp2
 rw[run_callFunc_extern func60 Δ Δ Δ (e:=Extern.AbiNoEscape.same) Δ]
 rw[Lib.run_noEscape]
 simp only[Result.andThen]
 rw[Oper.upon_value]
 go_wp2
 rw[Lib.run_from_unsafe w ⟨b,0,none⟩ underlying151 underlying68 hj hsh Δ]
 simp only[Result.andThen]
 rw[Oper.upon_value]
 go_wp2
 go_end0
 exact⟨rfl,rfl⟩
theorem others_set (b:Nat) (w:À) (v:Value) (i:Nat):Lib.OthersKept 5 (some b) w (w.setCell ⟨b,i,none⟩ v):=(Lib.OthersKept.refl 5 (some b) w).setCell ⟨b,i,none⟩ rfl v
theorem copyCheck_any (B b:Nat) (bs:List Value) (w:À) (h:Lib.IsBuilder 70 5 B b bs w) :
 Calls prog 36 #[.pointer (some ⟨b,0,none⟩)] w fun e w'=>e=.returned (.tuple #[])∧Lib.BuilderAt 70 5 B b (.pointer (some ⟨b,0,none⟩)) bs w'∧Below B w w'∧Lib.OthersKept 5 (some b) w w':=by
 rcases h with h|h
 · obtain⟨hB,v,hbk,hown,hne⟩:=h
   refine (copyCheck_fresh b w (by rw[Lib.cell_of_heap hbk];rfl) (by simp[World.shape?,hbk]) (Lib.frozen_of_heap hbk 0)).mono ?_
   rintro e w' ⟨rfl,rfl⟩
   refine⟨rfl,⟨hB,v,?_,?_,hne⟩,(Below.refl _ _).setCell (p:=⟨b,0,none⟩) hB _,others_set b w _ 0⟩
   · simp[World.setCell,Array.getElem?_modify,hbk]
   · refine⟨hown.1,?_⟩
     rcases hown.2 with hn|⟨g,cap,cur,rfl,hbg,hgg,rest⟩
     · exact .inl hn
     · refine .inr ⟨g,cap,cur,rfl,hbg,?_,rest⟩
       rw[Below.heap_setCell w _ _ g (fun e=>hne (by rw[e];rfl))];exact hgg
 · refine (copyCheck_used b w ?_).mono ?_
   · obtain⟨hB,v,hbk,_⟩:=h
     rw[Lib.cell_of_heap hbk];rfl
   · rintro e w' ⟨rfl,rfl⟩
     exact⟨rfl,h,Below.refl _ _,Lib.OthersKept.refl _ _ _⟩
theorem Tryz.info5:(prog.info? 5).map (fun i=>(i.zero,i.size,i.bytes))=some (some (.int .u8 0),1,1):=by kernel_rfl
theorem row_kind {w:À} {base E size n:Nat} {v:Value} {xs:List Value} (h:w.ownsRow base E size v n xs):∀g,v.ownBlock=some g→∃c fz,w.heap[g]?=some (.cells c E fz):=by
 intro k hk
 rcases h.2 with ⟨rfl,_⟩|⟨g,cap,cur,rfl,_,hg,_⟩
 · simp[Value.ownBlock] at hk
 · simp[Value.ownBlock] at hk
   subst hk
   exact⟨_,_,hg⟩
theorem writeString_any (B b:Nat) (l:List UInt8) (s:Ê) (w:À) (h:Lib.IsBuilder 70 5 B b (Lib.byteCells l) w) (hlen:l.length+s.size≤140737488355328) (hBw:B≤w.heap.size) :
 Calls prog 19 #[.pointer (some ⟨b,0,none⟩),.string s] w fun e w'=>e=.returned (.tuple #[.int .i64 s.size,.nilIface])∧(Lib.IsBuilder 70 5 B b (Lib.byteCells (l++s.data.toList)) w'∧Below B w w'∧Lib.OthersKept 5 (some b) w w'):=by
 obtain⟨i0,hi,hz0,hz1,hz2⟩:=info_parts Tryz.info5
 have hcl:(Lib.byteCells l).length=l.length:=Lib.byteCells_length l
 have HCL:=η hcl
 clear hcl
 go_in
 go_wp2_with (go_at_call 36;refine (copyCheck_any B b _ _ h).mono ?_)
 rintro e w1 ⟨rfl,h1,hb1,hk1⟩
 obtain⟨hB,v,hbk,hown,hne⟩:=h1
 have c0:w1.cell? ⟨b,0,none⟩=some (.pointer (some ⟨b,0,none⟩)):=by rw[Lib.cell_of_heap hbk];rfl
 have c1:w1.cell? ⟨b,1,none⟩=some v:=by rw[Lib.cell_of_heap hbk];rfl
 go_wp2_with (at_builtin;refine Lib.wpList_append_own_string _ rfl _ _ 51 9 rfl B 5 i0 underlying51 underlying9 hi hz0 hz1 hz2 _ _ _ rfl hown s rfl ?c3 ?c4 ?c5 ?_)
 case c3=>rw[HCL.o];unfold maxLen;omega
 case c4=>rw[HCL.o];omega
 case c5=>have:=hb1.size;omega
 intro v' w2 hown' hgrow _
 have hlt:b<w1.heap.size:=(Array.getElem?_eq_some_iff.1 hbk).1
 have hb2:w2.heap[b]?=some (.cells #[.pointer (some ⟨b,0,none⟩),v]  70 (0,0)):=by
  rw[hgrow.block b hlt (fun e=>hne e.symm)]
  exact hbk
 have d0:w2.cell? ⟨b,0,none⟩=some (.pointer (some ⟨b,0,none⟩)):=by rw[Lib.cell_of_heap hb2];rfl
 have d1:w2.cell? ⟨b,1,none⟩=some v:=by rw[Lib.cell_of_heap hb2];rfl
 have f1:w2.frozen? ⟨b,1,none⟩=false:=Lib.frozen_of_heap hb2 1
 obtain⟨ao,n',cap,rfl⟩:∃ao n' cap,v'=.slice ao n' cap:=by
  rcases hown'.2 with ⟨hv,_⟩|⟨g,cap,cur,hv,_⟩
  · exact⟨_,_,_,hv⟩
  · exact⟨_,_,_,hv⟩
 go_wp2
 go_ret2
 refine⟨rfl,.inr ?_,?_,(hk1.grown hgrow (row_kind hown)).setCell ⟨b,1,none⟩ rfl _⟩
 · exact Lib.BuilderAt.put (T:=70) (e:=5) hB hb2 (bs':=Lib.byteCells (l++s.data.toList)) (by rw[Lib.byteCells_append,List.length_append,←Lib.strCells_eq,Lib.strCells_length];exact hown') π
 · exact (hb1.grown hgrow (by have:=hb1.size;omega) (fun k hk=>(hown.lt k hk).1)).setCell (p:=⟨b,1,none⟩) hB _
def Tab (w:À):Prop:=Lib.TabIs prog w "internal/strconv.uint64pow10" .u64 Lib.pow10Tab
theorem Tab.keep {w w':À} (h:Tab w) (hb:Below w.heap.size w w'):Tab w':=by
 unfold Tab Lib.TabIs World.var? at *
 cases hg:prog.globalNamed "internal/strconv.uint64pow10" with
 | none=>simp[hg] at h
 | some g =>
  simp only[hg,Option.bind_some] at h ⊢
  have hlt:g<w.heap.size:=by
   rcases Nat.lt_or_ge g w.heap.size with h'|h'
   · exact h'
   · rw[Array.getElem?_eq_none h'] at h;simp at h
  rw[hb.block g hlt]
  exact h
theorem text_any (n:Int) (h0:-9223372036854775808≤n) (h1:n≤9223372036854775807) (w:À) (ht:Tab w) :
 Calls prog 21 #[.int .i64 n] w fun e w'=>e=.returned (.string (str (Lib.itoa n)))∧Below w.heap.size w w':=by
 have HT:=η ht
 clear ht
 go_in
 go_wp2_with (go_at_call 37;refine (Tryz.strconv_Itoa n h0 h1 _ HT.o).mono ?_;rintro e w' ⟨rfl,k,os,rfl⟩)
 go_ret
 exact⟨rfl,Lib.below_grow _ w (Nat.le_refl _) _ _⟩
theorem byte_row {w:À} {c:UInt8}:∀j u,([Value.int .u8 (c.toNat:Int)])[j]?=some u→(w.alloc (.cells #[.int .u8 (c.toNat:Int)] 5)).cell? ((⟨w.heap.size,0,none⟩:Addr).add j)=some u:=
 World.news_of_block (Hs.new w 5 #[.int .u8 (c.toNat:Int)])
theorem writeByte_any (B b:Nat) (l:List UInt8) (c:UInt8) (w:À) (h:Lib.IsBuilder 70 5 B b (Lib.byteCells l) w) (hlen:l.length+1≤140737488355328) (hBw:B≤w.heap.size) :
 Calls prog 128 #[.pointer (some ⟨b,0,none⟩),.int .u8 (c.toNat:Int)] w fun e w'=>e=.returned .nilIface∧(Lib.IsBuilder 70 5 B b (Lib.byteCells (l++[c])) w'∧Below B w w'):=by
 obtain⟨i0,hi,hz0,hz1,hz2⟩:=info_parts Tryz.info5
 have hcl:(Lib.byteCells l).length=l.length:=Lib.byteCells_length l
 have HCL:=η hcl
 clear hcl
 go_in
 go_wp2_with (go_at_call 36;refine (copyCheck_any B b _ _ h).mono ?_)
 rintro e w1 ⟨rfl,h1,hb1,hk1⟩
 obtain⟨hB,v,hbk,hown,hne⟩:=h1
 have c0:w1.cell? ⟨b,0,none⟩=some (.pointer (some ⟨b,0,none⟩)):=by rw[Lib.cell_of_heap hbk];rfl
 have c1:w1.cell? ⟨b,1,none⟩=some v:=by rw[Lib.cell_of_heap hbk];rfl
 obtain⟨HOW,HB1,HBK,HNE⟩:=zd4 hown hb1 hbk hne
 clear hown hb1 hk1 hne hbk
 go_wp2_with (at_builtin;refine wpList_append_own_at _ rfl (.tmp 11) (.tmp 13) 51 rfl B 5 i0 _ 1 1 underlying51 hi hz0 hz1 hz2 rfl π v (Lib.byteCells l).length (Lib.byteCells l) rfl (row_al HOW.o _) ⟨w1.heap.size,0,none⟩ 1 1 [.int .u8 (c.toNat:Int)] rfl rfl byte_row (by intro u hu;simp at hu;subst hu;rfl) ?c3 ?c4 ?c5 ?_)
 case c3=>rw[HCL.o];unfold maxLen;omega
 case c4=>rw[HCL.o];omega
 case c5=>have:=HB1.o.size;simp;omega
 intro v' w2 hown' hgrow _ _
 have hbk:=HBK.o
 have hlt:b<w1.heap.size:=(Array.getElem?_eq_some_iff.1 hbk).1
 have hb2:w2.heap[b]?=some (.cells #[.pointer (some ⟨b,0,none⟩),v]  70 (0,0)):=by
  rw[hgrow.block b (by simp;omega) (fun e=>HNE.o e.symm),Below.heap_alloc _ _ _ hlt]
  exact hbk
 have d0:w2.cell? ⟨b,0,none⟩=some (.pointer (some ⟨b,0,none⟩)):=by rw[Lib.cell_of_heap hb2];rfl
 have d1:w2.cell? ⟨b,1,none⟩=some v:=by rw[Lib.cell_of_heap hb2];rfl
 have f1:w2.frozen? ⟨b,1,none⟩=false:=Lib.frozen_of_heap hb2 1
 obtain⟨ao,n',cap,rfl⟩:∃ao n' cap,v'=.slice ao n' cap:=by
  rcases hown'.2 with ⟨hv,_⟩|⟨g,cap,cur,hv,_⟩
  · exact⟨_,_,_,hv⟩
  · exact⟨_,_,_,hv⟩
 go_wp2
 go_ret
 refine⟨rfl,.inr ?_,?_⟩
 · exact Lib.BuilderAt.put (T:=70) (e:=5) hB hb2 (bs':=Lib.byteCells (l++[c])) (by rw[Lib.byteCells_append,List.length_append];exact hown') π
 · exact ((HB1.o.alloc (by have:=HB1.o.size;omega) _).grown hgrow (by have:=HB1.o.size;simp;omega) (fun k hk=>(HOW.o.lt k hk).1)).setCell (p:=⟨b,1,none⟩) hB _
section
def textE (a:List UInt8) (r:List UInt8):Except Int (List UInt8×List UInt8):=
 match r with
 | []=>.error 2
 | d::r2=>match unesc d with
  | none=>.error 2
  | some x=>textL (a++[x]) r2
theorem textL_cons (a:List UInt8) (c:UInt8) (r:List UInt8):textL a (c::r)=if c.toNat=10 then .error 2 else if c.toNat=34 then (if 4096<a.length then .error 15 else .ok (a,r)) else if c.toNat=92 then textE a r else textL (a++[c]) r:=by
 rw[textL.eq_def];rfl
theorem textL_nil (a:List UInt8):textL a []=.error 2:=by rw[textL.eq_def]
theorem textE_cons (a:List UInt8) (d:UInt8) (r:List UInt8):textE a (d::r)=match unesc d with|none=>.error 2|some x=>textL (a++[x]) r:=rfl
theorem bld_other {B b:Nat} {bs:List Value} {w w':À} (h:Lib.IsBuilder 70 5 B b bs w) (hz:w'.heap.size=w.heap.size) (hb:∀k,B≤k→w'.heap[k]?=w.heap[k]?):Lib.IsBuilder 70 5 B b bs w':=by
 have one:∀{p:Value},Lib.BuilderAt 70 5 B b p bs w→Lib.BuilderAt 70 5 B b p bs w':=fun {p} ⟨h1,v,h2,h3,h4⟩=>by
  refine⟨h1,v,(hb b h1).trans h2,⟨h3.1,?_⟩,h4⟩
  rcases h3.2 with hn|⟨g,cap,cur,rfl,hbg,hgg,rest⟩
  · exact .inl hn
  · exact .inr ⟨g,cap,cur,rfl,hbg,(hb g hbg).trans hgg,rest⟩
 exact h.imp one one
theorem bld_new (w:À):Lib.IsBuilder 70 5 w.heap.size w.heap.size (Lib.byteCells []) (w.alloc (.cells #[.pointer none,.slice none 0 0] 70)):=
 .inl ⟨Nat.le_refl _,.slice none 0 0,Hs.new _ _ _,⟨rfl,.inl ⟨rfl,rfl⟩⟩,by simp[Value.ownBlock]⟩
section
variable {w W W':À} {xb B g:Nat} {s:Ê} {i:Nat}
theorem Sn.low (k:Sn W xb s i) (h:Below B W W') (hx:xb<B):Sn W' xb s i:=⟨(h.block xb hx).trans k.box,k.le,k.sz⟩
theorem hs_low {t:TypeId} {cs:Array Value} (k:Hs W g t cs) (h:Below B W W') (hx:g<B):Hs W' g t cs:=(h.block g hx).trans k
theorem stp_low (h:Below B W W') (hw:Stp (only xb) w W) (hB:w.heap.size≤B):Stp (only xb) w W':=
 ⟨h.os.trans hw.os,h.tape.trans hw.tape,h.output.trans hw.output,Nat.le_trans hw.size h.size,fun k hk ho=>(h.block k (Nat.lt_of_lt_of_le hk hB)).trans (hw.block k hk ho)⟩
end
def TxS (w:À) (xb:Nat) (s:Ê) (i:Nat) (G:Except Int (List UInt8×List UInt8)) (e:Ending) (w':À):Prop:=
 match G with
 | .ok (a,q)=>e=.returned (lexV (.ok ⟨3,str a,0,0⟩))∧Stp (only xb) w w'∧∃j,Sn w' xb s j∧dr s j=q∧i<j
 | .error x=>e=.returned (lexV (.error x))∧Stp (only xb) w w'∧∃j,Sn w' xb s j
theorem stext_any {w:À} {xb:Nat} {s:Ê} {i:Nat} (k:Sn w xb s i) (hi:i<s.size):Calls prog 91 #[.pointer (some ⟨xb,0,none⟩)] w (TxS w xb s i (textL [] (dr s (i+1)))):=by
 obtain⟨W0,HW,K0,S0,Z0,NE⟩:=k.s0
 have hsz:=k.sz
 have hm:s.size≤9223372036854775807:=by omega
 have HX:=η k.box.lt
 clear k
 obtain⟨G,hG⟩:∃G,Hid (textL [] (dr s (i+1))=G):=⟨_,rfl⟩
 rw[hG.o]
 have hz0:Hid (W0.heap.size=w.heap.size+1):=by show _=_;rw[HW.o];simp
 obtain⟨W1,HW1⟩:∃W1,Hid (W1=W0.alloc (.cells #[.pointer none,.slice none 0 0] 70)):=⟨_,rfl⟩
 have B0:Hid (Lib.IsBuilder 70 5 W0.heap.size W0.heap.size (Lib.byteCells []) W1):=by show Lib.IsBuilder _ _ _ _ _ _;rw[HW1.o];exact bld_new _
 have K1:Hid (Sn W1 xb s i):=by show Sn _ _ _ _;rw[HW1.o];exact K0.o.bel (belA (belR _) _)
 have S1:Hid (Stp (only xb) w W1):=by show Stp _ _ _;rw[HW1.o];exact S0.o.trans (Stp.of_below (belA (belR _) _))
 have Z1:Hid (Hs W1 w.heap.size 198 (tkc 0 ⟨#[]⟩ 0 0)):=by show Hs _ _ _ _;rw[HW1.o];exact hs_bel Z0.o (belA (belR _) _)
 have HB1:Hid (W0.heap.size≤W1.heap.size):=by show _≤_;rw[HW1.o];simp
 have XB:Hid (xb<W0.heap.size∧w.heap.size<W0.heap.size):=⟨by have:=HX.o;have:=hz0.o;omega,by have:=hz0.o;omega⟩
 have HP0:Hid (textL [] (dr s (i+1))=G):=hG
 go_in
 go_upto_region 1 with fail
 rw[←HW.o]
 go_upto_region 2 with fail
 rw[←HW1.o]
 have c1:W1.cell? ⟨xb,1,none⟩=some (.int .i64 (i:Int)):=K1.o.box.cell 1
 go_wp2_with fail
 clear c1
 go_loopw [5] (fun v wr=>∃(p:Nat) (a:List UInt8),v=.int .i64 (p:Int)∧Hid (i+1≤p∧p≤s.size∧a.length≤p)∧Hid (textL a (dr s p)=G)∧Hid (Lib.IsBuilder 70 5 W0.heap.size W0.heap.size (Lib.byteCells a) wr)∧Hid (Below W0.heap.size W1 wr)) (fun v _=>s.size-(intOf v).toNat)
 case atStart=>exact⟨i+1,[],by simp,⟨Nat.le_refl _,hi,Nat.zero_le _⟩,HP0.o,B0.o,Below.refl _ _⟩
 case round =>
  obtain⟨p,a,rfl,HP,HG,HBL,HBW⟩:=hrel
  obtain⟨KR,SR,ZR⟩:=zd3 (K1.o.low HBW.o XB.o.1) (stp_low HBW.o S1.o (Nat.le_of_lt XB.o.2)) (hs_low Z1.o HBW.o XB.o.2)
  have c0:wr.cell? ⟨xb,0,none⟩=some (.string s):=KR.o.box.cell 0
  have c1:wr.cell? ⟨xb,1,none⟩=some (.int .i64 (i:Int)):=KR.o.box.cell 1
  have f1:wr.frozen? ⟨xb,1,none⟩=false:=KR.o.box.free 1
  have OZ:=η (setRow_heap _ _ _ (tkc 0 ⟨#[]⟩ 0 0) _ _ ZR.o)
  by_cases hlt:p<s.size
  · have u0:decide ((p:Int)<(s.size:Int))=true:=decide_eq_true ω
    have j0:(0:Int)≤(p:Int):=by omega
    have j1:(p:Int)<(s.size:Int):=by omega
    have HD:=η (dr_at hlt)
    by_cases h10:s[p].toNat=10
    · have q:((s[p].toNat:Int)==10)=true:=by simp;omega
      have HV:Hid (G=.error 2):=by show _=_;rw[←HG.o,HD.o,textL_cons,if_pos h10]
      clear h10
      go_wp2_with (refine wpList_store_row rfl 198 _ _ rfl w.heap.size (tkc 0 ⟨#[]⟩ 0 0) rfl rfl 198 _ ZR.o Δ rfl (by simp[Value.oneCell']) ?_)
      exact bodyPost_ret (ret42 results91 _ _ w.heap.size 0 0 0 ⟨#[]⟩ rfl OZ.o) rfl (by unfold TxS;rw[HV.o];exact⟨rfl,stp_row SR.o (Nat.le_refl _) _,i,KR.o.row (fun e=>NE.o e.symm) _⟩)
    · have q10:((s[p].toNat:Int)==10)=false:=by simp;omega
      by_cases h34:s[p].toNat=34
      · have q34:((s[p].toNat:Int)==34)=true:=by simp;omega
        have HV0:Hid (G=if 4096<a.length then .error 15 else .ok (a,dr s (p+1))):=by show _=_;rw[←HG.o,HD.o,textL_cons,if_neg h10,if_pos h34]
        have hal:(Lib.byteCells a).length=a.length:=Lib.byteCells_length a
        by_cases hl:4096<a.length
        · have HV:Hid (G=.error 15):=by show _=_;rw[HV0.o,if_pos hl]
          have u1:decide ((4096:Int)<(a.length:Int))=true:=decide_eq_true ω
          have HAL:=η hal
          clear h10 h34 hl hal
          go_wp2_with fail
          refine (Tryz.Builder_Len _ _ _ _ HBL.o).mono ?_
          rw[HAL.o]
          rintro _ _ ⟨rfl,rfl⟩
          go_wp2_with (refine wpList_store_row rfl 198 _ _ rfl w.heap.size (tkc 0 ⟨#[]⟩ 0 0) rfl rfl 198 _ ZR.o Δ rfl (by simp[Value.oneCell']) ?_)
          exact bodyPost_ret (ret42 results91 _ _ w.heap.size 0 0 0 ⟨#[]⟩ rfl OZ.o) rfl (by unfold TxS;rw[HV.o];exact⟨rfl,stp_row SR.o (Nat.le_refl _) _,i,KR.o.row (fun e=>NE.o e.symm) _⟩)
        · have HV:Hid (G=.ok (a,dr s (p+1))):=by show _=_;rw[HV0.o,if_neg hl]
          have u1:decide ((4096:Int)<(a.length:Int))=false:=decide_eq_false ω
          obtain⟨HAL,X⟩:=zd2 hal (KR.o.set (j:=p+1) ω)
          clear h10 h34 hl hal
          go_wp2_with fail
          refine (Tryz.Builder_Len _ _ _ _ HBL.o).mono ?_
          rw[HAL.o]
          rintro _ w9 ⟨rfl,hw⟩
          rw[hw]
          clear hw w9
          go_upto_region 11 with fail
          obtain⟨W4,HW4⟩:∃W4,Hid (W4=wr.setCell ⟨xb,1,none⟩ (.int .i64 ((p:Int)+1))):=⟨_,rfl⟩
          rw[←HW4.o]
          have B4:Hid (Lib.IsBuilder 70 5 W0.heap.size W0.heap.size (Lib.byteCells a) W4):=bld_other HBL.o (show W4.heap.size=wr.heap.size by rw[HW4.o];simp[World.setCell]) (fun b hb=>by rw[HW4.o];exact Below.heap_setCell _ _ _ _ (fun e=>by have:=XB.o.1;simp at e;omega))
          have K4:Hid (Sn W4 xb s (p+1)):=by show Sn _ _ _ _;rw[HW4.o];exact X.o.1
          have S4:Hid (Stp (only xb) w W4):=by show Stp _ _ _;rw[HW4.o];exact SR.o.trans X.o.2
          have Z4:Hid (Hs W4 w.heap.size 198 (tkc 0 ⟨#[]⟩ 0 0)):=by show Hs _ _ _ _;rw[HW4.o];exact hs_oth ZR.o (fun e=>NE.o e)
          clear HW4
          go_wp2_with fail
          refine (Tryz.Builder_String_any _ _ _ _ B4.o (by have:=S4.o.size;have:=XB.o.2;have:=hz0.o;have:=Z4.o.lt;omega)).mono ?_
          rintro _ W5 ⟨rfl,b5⟩
          obtain⟨K5,S5,Z5⟩:=zd3 (K4.o.low b5 XB.o.1) (stp_low b5 S4.o (Nat.le_of_lt XB.o.2)) (hs_low Z4.o b5 XB.o.2)
          have O5:=setRow_heap _ _ _ (tkc 3 ⟨a.toArray⟩ 0 0) _ _ Z5.o
          clear b5
          go_wp2_with (refine wpList_store_row rfl 198 _ _ rfl w.heap.size (tkc 3 ⟨a.toArray⟩ 0 0) rfl rfl 198 _ Z5.o Δ rfl (by simp[Value.oneCell']) ?_)
          exact bodyPost_ret (ret42 results91 _ _ w.heap.size 3 0 0 ⟨a.toArray⟩ rfl O5) rfl (by unfold TxS;rw[HV.o];exact⟨rfl,stp_row S5.o (Nat.le_refl _) _,p+1,K5.o.row (fun e=>NE.o e.symm) _,rfl,by have:=HP.o.1;omega⟩)
      · have q34:((s[p].toNat:Int)==34)=false:=by simp;omega
        by_cases h92:s[p].toNat=92
        · have q92:((s[p].toNat:Int)==92)=true:=by simp;omega
          have HV0:Hid (G=textE a (dr s (p+1))):=by show _=_;rw[←HG.o,HD.o,textL_cons,if_neg h10,if_neg h34,if_pos h92]
          clear h10 h34 h92
          by_cases hp1:p+1=s.size
          · have qe:(((p:Int)+1)==(s.size:Int))=true:=by simp;omega
            have HV:Hid (G=.error 2):=by show _=_;rw[HV0.o,hp1,dr_end];rfl
            go_wp2_with (refine wpList_store_row rfl 198 _ _ rfl w.heap.size (tkc 0 ⟨#[]⟩ 0 0) rfl rfl 198 _ ZR.o Δ rfl (by simp[Value.oneCell']) ?_)
            exact bodyPost_ret (ret42 results91 _ _ w.heap.size 0 0 0 ⟨#[]⟩ rfl OZ.o) rfl (by unfold TxS;rw[HV.o];exact⟨rfl,stp_row SR.o (Nat.le_refl _) _,i,KR.o.row (fun e=>NE.o e.symm) _⟩)
          · have qe:(((p:Int)+1)==(s.size:Int))=false:=by simp;omega
            have hlt1:p+1<s.size:=by omega
            have j2:(0:Int)≤(p:Int)+1:=by omega
            have j3:(p:Int)+1<(s.size:Int):=by omega
            have jn:((p:Int)+1).toNat=p+1:=by omega
            have HV1:=η (HV0.o.trans (by rw[dr_at hlt1]))
            cases hu:unesc s[p+1] with
            | none =>
             have HU:=η hu
             have HV:Hid (G=.error 2):=HV1.o.trans (by rw[textE_cons,hu])
             clear hu
             go_wp2_with fail
             refine (unesc_any _ _).mono ?_
             rw[HU.o,show unV none=.tuple #[.int .u8 0,.bool false] from rfl]
             rintro _ w9 ⟨rfl,hw⟩
             rw[←hw]
             clear hw w9
             go_wp2_with (refine wpList_store_row rfl 198 _ _ rfl w.heap.size (tkc 0 ⟨#[]⟩ 0 0) rfl rfl 198 _ ZR.o Δ rfl (by simp[Value.oneCell']) ?_)
             exact bodyPost_ret (ret42 results91 _ _ w.heap.size 0 0 0 ⟨#[]⟩ rfl OZ.o) rfl (by unfold TxS;rw[HV.o];exact⟨rfl,stp_row SR.o (Nat.le_refl _) _,i,KR.o.row (fun e=>NE.o e.symm) _⟩)
            | some c =>
             have HU:=η hu
             have HV:Hid (textL (a++[c]) (dr s (p+1+1))=G):=(HV1.o.trans (by rw[textE_cons,hu])).symm
             clear hu
             go_wp2_with fail
             refine (unesc_any _ _).mono ?_
             rw[HU.o,show unV (some c)=.tuple #[.int .u8 (c.toNat:Int),.bool true] from rfl]
             rintro _ w9 ⟨rfl,hw⟩
             rw[←hw]
             clear hw w9
             go_wp2_with fail
             refine (writeByte_any _ _ _ c _ HBL.o (by have:=HP.o;omega) (by have:=HBW.o.size;have:=HB1.o;omega)).mono ?_
             rintro _ w9 ⟨rfl,hb9,hw9⟩
             go_wp2_with fail
             exact⟨⟨p+1+1,a++[c],by go_num,⟨by have:=HP.o;omega,by have:=HP.o;omega,by have:=HP.o;simp;omega⟩,HV.o,hb9,HBW.o.trans hw9⟩,by simp[intOf];omega⟩
        · have q92:((s[p].toNat:Int)==92)=false:=by simp;omega
          have HV:Hid (textL (a++[s[p]]) (dr s (p+1))=G):=by show _=_;rw[←HG.o,HD.o,textL_cons,if_neg h10,if_neg h34,if_neg h92]
          clear h10 h34 h92
          go_wp2_with fail
          refine (writeByte_any _ _ _ s[p] _ HBL.o (by have:=HP.o;omega) (by have:=HBW.o.size;have:=HB1.o;omega)).mono ?_
          rintro _ w9 ⟨rfl,hb9,hw9⟩
          go_wp2_with fail
          exact⟨⟨p+1,a++[s[p]],by go_num,⟨by have:=HP.o;omega,by have:=HP.o;omega,by have:=HP.o;simp;omega⟩,HV.o,hb9,HBW.o.trans hw9⟩,by simp[intOf];omega⟩
  · have hp:p=s.size:=by have:=HP.o;omega
    have u0:decide ((p:Int)<(s.size:Int))=false:=decide_eq_false ω
    have HV:Hid (G=.error 2):=by show _=_;rw[←HG.o,hp,dr_end,textL_nil]
    clear hp
    go_wp2_with (refine wpList_store_row rfl 198 _ _ rfl w.heap.size (tkc 0 ⟨#[]⟩ 0 0) rfl rfl 198 _ ZR.o Δ rfl (by simp[Value.oneCell']) ?_)
    exact bodyPost_ret (ret42 results91 _ _ w.heap.size 0 0 0 ⟨#[]⟩ rfl OZ.o) rfl (by unfold TxS;rw[HV.o];exact⟨rfl,stp_row SR.o (Nat.le_refl _) _,i,KR.o.row (fun e=>NE.o e.symm) _⟩)
end
end Go.Proofs.YtbmknjfgjphfbaaGreatDoor
