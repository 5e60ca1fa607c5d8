import Derived.Test.YtbjdcogmiggamaaGreatDoorB08
set_option linter.all false
namespace Go.Proofs.YtbjdcogmiggamaaGreatDoor
open Proofs.Tryz RowKit Maps WideMaps ChangeMaps
set_option maxRecDepth 100000
set_option maxHeartbeats 8000000
theorem op3 (e:Int) (n:Nat) (h:Bool) (r:List Tk):operP e (n+1) h 3 r=acc [110,111,116] (operP e n h 3 >>= fun a=>pure (.mk 34 e0 0 (offP e r) [a])) (operP e n h 4) r:=by rw[operP];rfl
theorem op8 (e:Int) (n:Nat) (h:Bool) (r:List Tk):operP e (n+1) h 8 r=acc [45] (operP e n h 8 >>= fun a=>pure (.mk 33 e0 0 (offP e r) [a])) (postP e (exprP e n false) n h) r:=by rw[operP];rfl
theorem opb (e:Int) (n:Nat) (h:Bool) (r:List Tk) {lv:Nat} (h3:lv≠3) (h8:lv≠8):operP e (n+1) h lv r=(operP e n h (lv+1) >>= fun a=>binP lv (operP e n h (lv+1)) (offP e r) n a) r:=by
 rw[operP];show (if lv=3 then _ else if lv=8 then _ else _:M Nd) r=_;rw[if_neg h3,if_neg h8]
theorem zeroInt (w:À):(zeroValue 3).run prog w=.ok (.int .i64 0) w:=by kernel_rfl
theorem levs_look {w:À} {b n:Nat} (h:MapIs prog 9 Lit.string w b n levF) {s:Ê} (hs:s.size≤maxLen):(Instr.lookup 51 (.map (some b)) (.string s) true).run prog w=.ok (.tuple #[(((levP s.data.toList).map fun n=>Value.int .i64 (n:Int))).getD (.int .i64 0),.bool ((levP s.data.toList).map fun n=>Value.int .i64 (n:Int)).isSome]) w:=
 MapIs.lookOk h (keyStr underlying9) underlying51 (zeroInt w) (keyOf_string_mk underlying9 hs)
theorem oper3_said (c:Cx) (h:Bool) {n:Nat} (hn:n≤1000000000) (IOq:∀lv:Nat,1≤lv→lv≤8→Said 224 #[.pointer (some ⟨c.pb,0,none⟩),.int .i64 (lv:Int)] c h NdV (operP c.e n h lv)) (IP:Said 233 #[.pointer (some ⟨c.pb,0,none⟩)] c h NdV (postP c.e (exprP c.e n false) n h)):Said 224 #[.pointer (some ⟨c.pb,0,none⟩),.int .i64 3] c h NdV (operP c.e (n+1) h 3):=fun w r k hne=>by
 have I3:Hid (Said 224 #[.pointer (some ⟨c.pb,0,none⟩),.int .i64 3] c h NdV (operP c.e n h 3)):=IOq 3 ω ω
 have I4:Hid (Said 224 #[.pointer (some ⟨c.pb,0,none⟩),.int .i64 4] c h NdV (operP c.e n h 4)):=IOq 4 ω ω
 clear IOq IP
 have TX:=η k.tx
 obtain⟨W0,HW,A⟩:=Sw.s1 k
 obtain⟨R,hR⟩:∃R,R=operP c.e (n+1) h 3 r:=⟨_,rfl⟩
 rw[←hR] at hne ⊢
 obtain⟨io,hio,hiz,his,hib⟩:=info_parts info_24
 have HIO:=η (And.intro hio (And.intro hiz (And.intro his hib)))
 clear hio hiz his hib
 have HMF:=hmf
 obtain⟨HN,HR⟩:=zd2 hne hR
 clear hR hne k
 go_in
 go_upto_region 1 with fail
 rw[←HW.o]
 go_wp2_with fail
 have TX2:=η (A.o.pw.tx)
 refine (offset_any A.o.pw).mono ?_
 rintro _ W1 ⟨rfl,b⟩
 replace A:=Sw.bel A b
 have HIF:=η (HR.o.trans (op3 _ _ _ _))
 go_wp2_with fail
 cases a3:(wl (r)==[110,111,116]) with
 | true =>
  refine acY A HIF a3 fun W4 A H5=>?_
  go_wp2_with fail
  cases m6:operP c.e n h 3 ((r).tail) with
  | out=>exact oB H5 m6 HN
  | bad q9 =>
   exact sdB I3 A m6 H5 fun _ h=>⟨rfl,h⟩
  | ok x10 q9 =>
   obtain⟨H8,Z11,Y12⟩:=zd3 (H5.o.trans (bd_ok m6)) (Sw.ge A) (A.o.lo.2.2.2)
   refine sdO I3 A m6 fun W7 k13 s14 n15 p16 D17 l18 c19 A=>?_
   go_wp2_with fail
   have Z20:=η (Sw.ge A)
   replace A:=Sw.al A ((cl k13 s14 n15 p16 D17 l18 c19)).toArray
   refine (node_any _ _ _ _ _ _ _ _).mono ?_
   rintro _ W21 ⟨rfl,b⟩
   replace A:=Sw.bel A b
   have E:=Sw.e A (k:=34) (s:=e0) (n:=0) (p:=(offP c.e (r))) (D:=(some ⟨W7.heap.size,0,none⟩)) (l:=1) (cap:=1) (a:=.mk 34 e0 0 (offP c.e (r)) [x10]) fun X hx k=>NdR.of ⟨by unfold i64;omega,(by unfold i64;omega),TX2.o.2.2.2.2⟩ (by show e0.size≤_;decide) (kid1 (k.2) Z20.o (NdR.lo k.1.2 Z11.o) rfl)
   have O:=setRow_heap _ _ _ (cl 34 e0 0 (offP c.e (r)) (some ⟨W7.heap.size,0,none⟩) 1 1).toArray _ _ (A.o.bx rfl)
   go_wp2_with (refine wpList_store_row rfl 24 _ _ rfl w.heap.size (cl 34 e0 0 (offP c.e (r)) (some ⟨W7.heap.size,0,none⟩) 1 1).toArray rfl rfl 24 _ (A.o.bx rfl) Δ rfl (by simp[Value.oneCell']) ?_)
   exact bodyPost_ret (results_cell_row results224 _ _ w.heap.size 24 _ _ _ rfl O underlying24 rfl Δ) rfl (by rw[H8.o];exact E.o)
 | false =>
  have H23:=η (HIF.o.trans (acc_f a3))
  refine (accept_no A.o.pw (s:=⟨#[110,111,116]⟩) a3).mono ?_
  rintro _ W22 ⟨rfl,s,p⟩
  replace A:=Sw.n A s p
  go_wp2_with fail
  cases m24:operP c.e n h 4 (r) with
  | out=>exact absurd (H23.o.trans m24) HN.o
  | bad q27 =>
   refine (Said.bad (I4.o) A.o.pw m24).mono ?_
   rintro _ W25 ⟨rfl,s⟩
   exact⟨rfl,Sw.bd A s (H23.o.trans m24)⟩
  | ok x28 q27 =>
   obtain⟨H26,Z29⟩:=zd2 (H23.o.trans m24) (Sw.ge A)
   refine sdO I4 A m24 fun W25 k30 s31 n32 p33 D34 l35 c36 A=>?_
   have O:=setRow_heap _ _ _ (cl k30 s31 n32 p33 D34 l35 c36).toArray _ _ (A.o.bx rfl)
   have E:=Sw.eg (Rv:=NdV) A (cells:=(cl k30 s31 n32 p33 D34 l35 c36).toArray) (v:=.agg (cl k30 s31 n32 p33 D34 l35 c36).toArray) (a:=x28) fun X hx k=>⟨k30,s31,n32,p33,D34,l35,c36,rfl,NdR.lo k.2 Z29.o⟩
   go_wp2_with (refine wpList_store_row rfl 24 _ _ rfl w.heap.size (cl k30 s31 n32 p33 D34 l35 c36).toArray rfl rfl 24 _ (A.o.bx rfl) Δ rfl (by simp[Value.oneCell']) ?_)
   exact bodyPost_ret (results_cell_row results224 _ _ w.heap.size 24 _ _ _ rfl O underlying24 rfl Δ) rfl (by rw[H26.o];exact E.o)
theorem oper8_said (c:Cx) (h:Bool) {n:Nat} (hn:n≤1000000000) (IOq:∀lv:Nat,1≤lv→lv≤8→Said 224 #[.pointer (some ⟨c.pb,0,none⟩),.int .i64 (lv:Int)] c h NdV (operP c.e n h lv)) (IP:Said 233 #[.pointer (some ⟨c.pb,0,none⟩)] c h NdV (postP c.e (exprP c.e n false) n h)):Said 224 #[.pointer (some ⟨c.pb,0,none⟩),.int .i64 8] c h NdV (operP c.e (n+1) h 8):=fun w r k hne=>by
 have I8:Hid (Said 224 #[.pointer (some ⟨c.pb,0,none⟩),.int .i64 8] c h NdV (operP c.e n h 8)):=IOq 8 ω ω
 have IP2:=η IP
 clear IOq IP
 have TX:=η k.tx
 obtain⟨W0,HW,A⟩:=Sw.s1 k
 obtain⟨R,hR⟩:∃R,R=operP c.e (n+1) h 8 r:=⟨_,rfl⟩
 rw[←hR] at hne ⊢
 obtain⟨io,hio,hiz,his,hib⟩:=info_parts info_24
 have HIO:=η (And.intro hio (And.intro hiz (And.intro his hib)))
 clear hio hiz his hib
 have HMF:=hmf
 obtain⟨HN,HR⟩:=zd2 hne hR
 clear hR hne k
 go_in
 go_upto_region 1 with fail
 rw[←HW.o]
 go_wp2_with fail
 have TX2:=η (A.o.pw.tx)
 refine (offset_any A.o.pw).mono ?_
 rintro _ W1 ⟨rfl,b⟩
 replace A:=Sw.bel A b
 have HIF:=η (HR.o.trans (op8 _ _ _ _))
 go_wp2_with fail
 cases a3:(wl (r)==[45]) with
 | true =>
  refine acY A HIF a3 fun W4 A H5=>?_
  go_wp2_with fail
  cases m6:operP c.e n h 8 ((r).tail) with
  | out=>exact oB H5 m6 HN
  | bad q9 =>
   exact sdB I8 A m6 H5 fun _ h=>⟨rfl,h⟩
  | ok x10 q9 =>
   obtain⟨H8,Z11,Y12⟩:=zd3 (H5.o.trans (bd_ok m6)) (Sw.ge A) (A.o.lo.2.2.2)
   refine sdO I8 A m6 fun W7 k13 s14 n15 p16 D17 l18 c19 A=>?_
   go_wp2_with fail
   have Z20:=η (Sw.ge A)
   replace A:=Sw.al A ((cl k13 s14 n15 p16 D17 l18 c19)).toArray
   refine (node_any _ _ _ _ _ _ _ _).mono ?_
   rintro _ W21 ⟨rfl,b⟩
   replace A:=Sw.bel A b
   have E:=Sw.e A (k:=33) (s:=e0) (n:=0) (p:=(offP c.e (r))) (D:=(some ⟨W7.heap.size,0,none⟩)) (l:=1) (cap:=1) (a:=.mk 33 e0 0 (offP c.e (r)) [x10]) fun X hx k=>NdR.of ⟨by unfold i64;omega,(by unfold i64;omega),TX2.o.2.2.2.2⟩ (by show e0.size≤_;decide) (kid1 (k.2) Z20.o (NdR.lo k.1.2 Z11.o) rfl)
   have O:=setRow_heap _ _ _ (cl 33 e0 0 (offP c.e (r)) (some ⟨W7.heap.size,0,none⟩) 1 1).toArray _ _ (A.o.bx rfl)
   go_wp2_with (refine wpList_store_row rfl 24 _ _ rfl w.heap.size (cl 33 e0 0 (offP c.e (r)) (some ⟨W7.heap.size,0,none⟩) 1 1).toArray rfl rfl 24 _ (A.o.bx rfl) Δ rfl (by simp[Value.oneCell']) ?_)
   exact bodyPost_ret (results_cell_row results224 _ _ w.heap.size 24 _ _ _ rfl O underlying24 rfl Δ) rfl (by rw[H8.o];exact E.o)
 | false =>
  have H23:=η (HIF.o.trans (acc_f a3))
  refine (accept_no A.o.pw (s:=⟨#[45]⟩) a3).mono ?_
  rintro _ W22 ⟨rfl,s,p⟩
  replace A:=Sw.n A s p
  go_wp2_with fail
  cases m24:postP c.e (exprP c.e n false) n h (r) with
  | out=>exact absurd (H23.o.trans m24) HN.o
  | bad q27 =>
   refine (Said.bad (IP2.o) A.o.pw m24).mono ?_
   rintro _ W25 ⟨rfl,s⟩
   exact⟨rfl,Sw.bd A s (H23.o.trans m24)⟩
  | ok x28 q27 =>
   obtain⟨H26,Z29⟩:=zd2 (H23.o.trans m24) (Sw.ge A)
   refine sdO IP2 A m24 fun W25 k30 s31 n32 p33 D34 l35 c36 A=>?_
   have O:=setRow_heap _ _ _ (cl k30 s31 n32 p33 D34 l35 c36).toArray _ _ (A.o.bx rfl)
   have E:=Sw.eg (Rv:=NdV) A (cells:=(cl k30 s31 n32 p33 D34 l35 c36).toArray) (v:=.agg (cl k30 s31 n32 p33 D34 l35 c36).toArray) (a:=x28) fun X hx k=>⟨k30,s31,n32,p33,D34,l35,c36,rfl,NdR.lo k.2 Z29.o⟩
   go_wp2_with (refine wpList_store_row rfl 24 _ _ rfl w.heap.size (cl k30 s31 n32 p33 D34 l35 c36).toArray rfl rfl 24 _ (A.o.bx rfl) Δ rfl (by simp[Value.oneCell']) ?_)
   exact bodyPost_ret (results_cell_row results224 _ _ w.heap.size 24 _ _ _ rfl O underlying24 rfl Δ) rfl (by rw[H26.o];exact E.o)
set_option maxHeartbeats 16000000 in
theorem operb_said (c:Cx) (h:Bool) {n:Nat} (hn:n≤1000000000) (IOq:∀lv:Nat,1≤lv→lv≤8→Said 224 #[.pointer (some ⟨c.pb,0,none⟩),.int .i64 (lv:Int)] c h NdV (operP c.e n h lv)) (IP:Said 233 #[.pointer (some ⟨c.pb,0,none⟩)] c h NdV (postP c.e (exprP c.e n false) n h)) (lv:Nat) (l1:1≤lv) (l2:lv≤7) (l3:lv≠3):Said 224 #[.pointer (some ⟨c.pb,0,none⟩),.int .i64 (lv:Int)] c h NdV (operP c.e (n+1) h lv):=fun w r k hne=>by
 have HWR:Hid (wrap64 ((lv:Int)+1)=((lv+1:Nat):Int)):=by show _=_;unfold wrap64;omega
 have HW3:Hid (IntKind.i64.wrap ((lv:Int)+1)=((lv+1:Nat):Int)):=by show _=_;rw[IntKind.wrap_i64];omega
 have HW2:Hid (((lv:Nat):Int)+1=((lv+1:Nat):Int)):=by show _=_;omega
 have I1:=η (IOq (lv+1) ω ω)
 have q3:(((lv:Nat):Int)==3)=false:=by simp;omega
 have q8:(((lv:Nat):Int)==8)=false:=by simp;omega
 have HLV:=η (And.intro l3 l2)
 clear IOq IP l1
 have TX:=η k.tx
 obtain⟨W0,HW,A⟩:=Sw.s1 k
 obtain⟨R,hR⟩:∃R,R=operP c.e (n+1) h lv r:=⟨_,rfl⟩
 rw[←hR] at hne ⊢
 obtain⟨io,hio,hiz,his,hib⟩:=info_parts info_24
 have HIO:=η (And.intro hio (And.intro hiz (And.intro his hib)))
 clear hio hiz his hib
 have HMF:=hmf
 obtain⟨HN,HR⟩:=zd2 hne hR
 clear hR hne k
 go_in
 go_upto_region 1 with fail
 rw[←HW.o]
 clear HW
 go_wp2_with fail
 have TX2:=η (A.o.pw.tx)
 refine (offset_any A.o.pw).mono ?_
 rintro _ W1 ⟨rfl,b⟩
 replace A:=Sw.bel A b
 clear b
 have HIF:=η (HR.o.trans (opb _ _ _ _ HLV.o.1 (by have:=HLV.o.2;omega)))
 clear HR
 go_wp2_with fail
 first|rw[HW3.o]|rw[HWR.o]|rw[HW2.o]
 cases m3:operP c.e n h (lv+1) (r) with
 | out=>exact oB HIF m3 HN
 | bad q6 =>
  exact sdB I1 A m3 HIF fun _ h=>⟨rfl,h⟩
 | ok x7 q6 =>
  obtain⟨H5,Z8,Y9⟩:=zd3 (HIF.o.trans (bd_ok m3)) (Sw.ge A) (A.o.lo.2.2.2)
  refine sdO I1 A m3 fun W4 k10 s11 n12 p13 D14 l15 c16 A=>?_
  clear m3 HIF
  replace A:=Sw.box A (Sw.now A).2 Y9.o
  obtain⟨WL,hWL⟩:∃WL,Hid (WL=W4.alloc (.cells (cl k10 s11 n12 p13 D14 l15 c16).toArray 24)):=⟨_,rfl⟩
  rw[←hWL.o] at A
  obtain⟨g,hg⟩:∃g,Hid (g=W4.heap.size):=⟨_,rfl⟩
  rw[←hg.o] at A
  go_wp2_with fail
  rw[←hWL.o,←hg.o]
  clear hWL hg
  have HT:Hid (n≤n∧R=binP lv (operP c.e n h (lv+1)) (offP c.e r) n x7 q6):=⟨Nat.le_refl _,H5.o⟩
  clear H5
  go_loopw [] (fun wr=>∃q n1 k1 s1 n2 p1 D1 l1 c1 a1,Hid (Sw c w (w.heap.size+1) wr q h (BoxT (w.heap.size+1) g (cl k1 s1 n2 p1 D1 l1 c1) a1))∧Hid (n1≤n∧R=binP lv (operP c.e n h (lv+1)) (offP c.e r) n1 a1 q)) (fun wr=>leftN c wr)
  case atStart=>exact⟨_,_,_,_,_,_,_,_,_,_,A,HT⟩
  case round =>
   clear A HT
   obtain⟨q,n1,k1,s1,n2,p1,D1,l1,c1,a1,A,HT⟩:=hrel
   cases hn1:n1 with
   | zero=>exact absurd (HT.o.2.trans (by rw[hn1];rfl)) HN.o
   | succ n3 =>
   subst hn1
   have HL0:=η A.o.pw.left
   have HG0:=η (Sw.now A).1
   have HR0:=η HT.o.2
   have HN3:=η HT.o.1
   clear HT
   have TS:=η A.o.pw.tx.2.1
   go_wp2_with fail
   refine (word_any A.o.pw).mono ?_
   rintro _ W17 ⟨rfl,b⟩
   replace A:=Sw.bel A b
   clear b
   obtain⟨nm_,HM⟩:=A.o.pw.lev
   have hlk:=levs_look HM TS.o
   clear HM
   have c4:W17.cell? ⟨c.pb,4,none⟩=some (.map (some c.mb)):=A.o.pw.box.cell 4
   cases hlv:levP (wl q) with
   | none =>
    have HX:=η (HR0.o.trans (ite_f (by rw[hlv];simp)))
    rw[show levP (wrd q).data.toList=none from hlv] at hlk
    clear hlv
    have O:=setRow_heap _ _ _ (cl k1 s1 n2 p1 D1 l1 c1).toArray _ _ (A.o.bx rfl)
    have E:=Sw.eg (Rv:=NdV) A (cells:=(cl k1 s1 n2 p1 D1 l1 c1).toArray) (v:=.agg (cl k1 s1 n2 p1 D1 l1 c1).toArray) (a:=a1) fun X hx k=>⟨_,_,_,_,_,_,_,rfl,NdR.lo (BoxT.nd k) (Nat.le_succ _)⟩
    go_wp2_with (first|(refine wpList_load_row rfl 24 _ rfl g rfl 24 _ _ _ (Sw.now A).2.1 underlying24 rfl Δ ?_)|(refine wpList_store_row rfl 24 _ _ rfl w.heap.size (cl k1 s1 n2 p1 D1 l1 c1).toArray rfl rfl 24 _ (A.o.bx rfl) Δ rfl (by simp[Value.oneCell']) ?_))
    exact bodyPost_ret (results_cell_row results224 _ _ w.heap.size 24 _ _ _ rfl O underlying24 rfl Δ) rfl (by rw[HX.o];exact E.o)
   | some l =>
    rw[show levP (wrd q).data.toList=some l from hlv] at hlk
    by_cases hll:l=lv
    case neg =>
     have HX:=η (HR0.o.trans (ite_f (by rw[hlv];simpa using hll)))
     have e1:(((l:Nat):Int)==((lv:Nat):Int))=false:=by simp;omega
     have e2:(((l:Nat):Int) != ((lv:Nat):Int))=true:=by simp;omega
     clear hlv hll
     have O:=setRow_heap _ _ _ (cl k1 s1 n2 p1 D1 l1 c1).toArray _ _ (A.o.bx rfl)
     have E:=Sw.eg (Rv:=NdV) A (cells:=(cl k1 s1 n2 p1 D1 l1 c1).toArray) (v:=.agg (cl k1 s1 n2 p1 D1 l1 c1).toArray) (a:=a1) fun X hx k=>⟨_,_,_,_,_,_,_,rfl,NdR.lo (BoxT.nd k) (Nat.le_succ _)⟩
     go_wp2_with (first|(refine wpList_load_row rfl 24 _ rfl g rfl 24 _ _ _ (Sw.now A).2.1 underlying24 rfl Δ ?_)|(refine wpList_store_row rfl 24 _ _ rfl w.heap.size (cl k1 s1 n2 p1 D1 l1 c1).toArray rfl rfl 24 _ (A.o.bx rfl) Δ rfl (by simp[Value.oneCell']) ?_))
     exact bodyPost_ret (results_cell_row results224 _ _ w.heap.size 24 _ _ _ rfl O underlying24 rfl Δ) rfl (by rw[HX.o];exact E.o)
    case pos =>
     subst hll
     obtain⟨HX,HQ0⟩:=zd2 (HR0.o.trans (ite_t hlv)) (lev_ne hlv)
     clear hlv HR0
     obtain⟨i20,hi21⟩:∃i:Nat,Hid (i=c.L.length-(q).length):=⟨_,rfl⟩
     have c1:W17.cell? ⟨c.pb,1,none⟩=some (.int .i64 ((i20:Nat):Int)):=by rw[hi21.o];exact A.o.pw.box.cell 1
     have f1:W17.frozen? ⟨c.pb,1,none⟩=false:=A.o.pw.box.free 1
     have PS:Hid (wrap64 ((i20:Nat)+1:Int)=((c.L.length-(q).tail.length:Nat):Int)):=by show _=_;rw[hi21.o];exact (A.o.pw.skip HQ0.o).2.2
     go_upto_region 17 with fail
     rw[PS.o]
     obtain⟨W18,hW19⟩:∃W18,Hid (W18=W17.setCell ⟨c.pb,1,none⟩ (.int .i64 ((c.L.length-(q).tail.length:Nat):Int))):=⟨_,rfl⟩
     rw[←hW19.o]
     replace A:=Sw.sk A HQ0.o hW19
     have H22:=η (HX.o.trans (nxt_t HQ0.o))
     clear HX
     clear c1 f1 PS hW19
     clear c4 hlk
     replace A:=Sw.bel A (belDr W18)
     refine ttB (fun X=>Hs X g 24 (cl k1 s1 n2 p1 D1 l1 c1).toArray) 9 (Sw.now A).2.1 (fun hHeld=>?_)
     refine ttQ 0 ?_
     refine ttQ 1 ?_
     refine ttQ 2 ?_ (hy:=fun w hS=>ld24 (.tmp 6) rfl _ rfl _ rfl hS)
     refine ttQ 3 ?_
     refine ttQ 4 ?_
     refine ttQ 5 ?_
     refine ttE 6 (fun K hK=>?_)
     go_simp
     first|rw[HW3.o]|rw[HWR.o]|rw[HW2.o]
     have HM1:=η (Sw.now A).2.1.lt
     have HZ:=η A.o.lo.2.2.2
     cases m1:operP c.e n h (l+1) (q.tail) with
     | out=>exact oB H22 m1 HN
     | bad q2 =>
      refine (Said.bad I1.o A.o.pw m1).mono ?_
      rintro _ W90 ⟨rfl,s⟩
      exact⟨rfl,Sw.bd A s (H22.o.trans (bd_bad m1))⟩
     | ok b q2 =>
      have HY:=η (H22.o.trans (bd_ok m1))
      have HQL:=η (suf_len (((inferInstance:Suf (operP c.e n h (l+1))).h _).1 _ _ m1))
      refine (Said.ok I1.o A.o.pw m1).mono ?_
      rintro _ W91 ⟨_,rfl,⟨k5,s5,n5,p5,D5,l5,c5,rfl,hnd⟩,s,p⟩
      replace A:=Sw.nd A s p hnd
      clear s p hnd m1 H22
      refine ttR hK (fun _=>(Sw.now A).1.2.1) (fun hHeld=>?_)
      clear hK K
      refine ttE 7 (fun K hK=>?_)
      go_simp
      have HZ2:=η A.o.lo.2.2.2
      have HM2:=η (Sw.now A).1.2.1.lt
      replace A:=Sw.al A ((cl k1 s1 n2 p1 D1 l1 c1)++(cl k5 s5 n5 p5 D5 l5 c5)).toArray
      refine ttR hK (fun _=>(Sw.now A).1.1.2.1) (fun hHeld=>?_)
      clear hK K
      refine ttE 8 (fun K hK=>?_)
      go_simp
      refine (node_any _ _ _ _ _ _ _ _).mono ?_
      rintro _ W92 ⟨rfl,b⟩
      replace A:=Sw.bel A b
      clear b
      refine ttR hK (fun _=>(Sw.now A).1.1.2.1) (fun hHeld=>?_)
      clear hK K
      have hg0:=HG0.o
      have HSS:=(Sw.now A).1.1.2.1
      have hnd:NdR _ (ndx (w.heap.size+1) g _) (cl 35 (wrd q) 0 (offP c.e r) (some ⟨W91.heap.size,0,none⟩) 2 2) (.mk 35 (wrd q) 0 (offP c.e r) [a1,b]):=NdR.of ⟨by unfold i64;omega,by unfold i64;omega,TX.o.2.2.2.2⟩ TS.o (kidP2 ⟨⟨HZ2.o,(Sw.now A).2.lt⟩,fun e=>by have:=HM2.o;omega⟩ (Sw.now A).2 (Sw.now A).1.1.2.2 (NdR.ndx (Sw.now A).1.2 HZ.o HM1.o) rfl rfl)
      replace A:=Sw.rebox' A hg0 HSS hnd
      refine ttE 9 (fun K hK=>?_)
      rw[if_pos (by rfl)]
      refine wp_store_row 24 _ _ rfl g (cl 35 (wrd q) 0 (offP c.e r) (some ⟨W91.heap.size,0,none⟩) 2 2).toArray rfl rfl 24 _ HSS Δ rfl (by simp[Value.oneCell']) ?_
      refine ttR hK (fun e=>absurd rfl e) (fun _=>?_)
      clear hK K HSS hnd hg0
      refine ttD ?_
      by_cases h4:l=4
      case pos =>
       have HV:=η (HY.o.trans (ite_t h4))
       subst h4
       obtain⟨W93,hW93⟩:∃W93,Hid (W93=W92.setRow g (cl 35 (wrd q) 0 (offP c.e r) (some ⟨W91.heap.size,0,none⟩) 2 2).toArray):=⟨_,rfl⟩
       rw[←hW93.o] at A ⊢
       clear hW93
       have O:=setRow_heap _ _ _ (cl 35 (wrd q) 0 (offP c.e r) (some ⟨W91.heap.size,0,none⟩) 2 2).toArray _ _ (A.o.bx rfl)
       have E:=Sw.eg (Rv:=NdV) A (cells:=(cl 35 (wrd q) 0 (offP c.e r) (some ⟨W91.heap.size,0,none⟩) 2 2).toArray) (v:=.agg (cl 35 (wrd q) 0 (offP c.e r) (some ⟨W91.heap.size,0,none⟩) 2 2).toArray) (a:=.mk 35 (wrd q) 0 (offP c.e r) [a1,b]) fun X hx k=>⟨_,_,_,_,_,_,_,rfl,NdR.lo (BoxT.nd k) (Nat.le_succ _)⟩
       go_wp2_with (first|(refine wpList_load_row rfl 24 _ rfl g rfl 24 _ _ _ (Sw.now A).2.1 underlying24 rfl Δ ?_)|(refine wpList_store_row rfl 24 _ _ rfl w.heap.size (cl 35 (wrd q) 0 (offP c.e r) (some ⟨W91.heap.size,0,none⟩) 2 2).toArray rfl rfl 24 _ (A.o.bx rfl) Δ rfl (by simp[Value.oneCell']) ?_))
       exact bodyPost_ret (results_cell_row results224 _ _ w.heap.size 24 _ _ _ rfl O underlying24 rfl Δ) rfl (by rw[HV.o];exact E.o)
      case neg =>
       have HV:=η (HY.o.trans (ite_f h4))
       have q4:(((l:Nat):Int)==4)=false:=by simp;omega
       clear h4
       go_wp2_with fail
       refine⟨⟨q2,n3,_,_,_,_,_,_,_,_,A,⟨Nat.le_of_succ_le HN3.o,HV.o⟩⟩,?_⟩
       refine Nat.lt_of_le_of_lt (Nat.le_of_eq A.o.pw.left) ?_
       rw[HL0.o]
       have h1:=HQL.o;have h2:0<q.length:=List.length_pos_iff.2 HQ0.o;simp only[List.length_tail] at h1;omega
theorem oper1_said (c:Cx) (h:Bool) {n:Nat} (hn:n≤1000000000) (IOq:∀lv:Nat,1≤lv→lv≤8→Said 224 #[.pointer (some ⟨c.pb,0,none⟩),.int .i64 (lv:Int)] c h NdV (operP c.e n h lv)) (IP:Said 233 #[.pointer (some ⟨c.pb,0,none⟩)] c h NdV (postP c.e (exprP c.e n false) n h)) (lv:Nat) (l1:1≤lv) (l2:lv≤8):Said 224 #[.pointer (some ⟨c.pb,0,none⟩),.int .i64 (lv:Int)] c h NdV (operP c.e (n+1) h lv):=by
 by_cases h3:lv=3
 · subst h3;exact oper3_said c h hn IOq IP
 · by_cases h8:lv=8
   · subst h8;exact oper8_said c h hn IOq IP
   · exact operb_said c h hn IOq IP lv l1 ω h3
theorem expr1_said (c:Cx) (h:Bool) {n:Nat} (hn:n≤1000000000) (IE:∀h,Said 208 #[.pointer (some ⟨c.pb,0,none⟩)] c h NdV (exprP c.e n h)) (IOq:Said 224 #[.pointer (some ⟨c.pb,0,none⟩),.int .i64 1] c h NdV (operP c.e n h 1)) (IH:Said 222 #[.pointer (some ⟨c.pb,0,none⟩)] c h NdV (exprP c.e n true)):Said 208 #[.pointer (some ⟨c.pb,0,none⟩)] c h NdV (exprP c.e (n+1) h):=fun w r k hne=>by
 obtain⟨HX,HO,HH⟩:=zd3 IE IOq IH
 have LA:=η (items_said (F:=223) (c:=c) (h:=h) (m:=armP c.e (exprP c.e n false) n) (s:=⟨#[125]⟩) (n:=n) (fun _ _=>by kernel_rfl) inferInstance (arm_said c false (IE false) hn) π hn)
 have FSq:=η (function_said c h (IE h) hn)
 clear IE IOq IH
 have TX:=η k.tx
 obtain⟨W0,HW,A⟩:=Sw.s1 k
 obtain⟨R,hR⟩:∃R,R=exprP c.e (n+1) h r:=⟨_,rfl⟩
 rw[←hR] at hne ⊢
 obtain⟨io,hio,hiz,his,hib⟩:=info_parts info_24
 have HIO:=η (And.intro hio (And.intro hiz (And.intro his hib)))
 clear hio hiz his hib
 have HMF:=hmf
 obtain⟨HN,HR⟩:=zd2 hne hR
 clear hR hne k
 go_in
 go_upto_region 1 with fail
 rw[←HW.o]
 clear HW
 go_wp2_with fail
 have TX2:=η (A.o.pw.tx)
 refine (offset_any A.o.pw).mono ?_
 rintro _ W1 ⟨rfl,b⟩
 replace A:=Sw.bel A b
 clear b
 go_wp2_with fail
 cases a3:(wl (r)==[108,101,116]) with
 | true =>
  refine acY A HR a3 fun W4 A H5=>?_
  clear HR a3
  go_wp2_with fail
  cases a6:lowB (wl ((r).tail)) with
  | false =>
   exact nmB A p_lowB a6 H5 fun _ h=>⟨rfl,h⟩
  | true =>
   have TS9:=η (A.o.pw.tx.2.1)
   refine nmY A p_lowB H5 a6 fun W7 A H8=>?_
   clear H5 a6
   go_wp2_with fail
   cases a10:(wl (((r).tail).tail)==[61]) with
   | false =>
    exact exB A a10 H8 fun _ h=>⟨rfl,h⟩
   | true =>
    refine exY A H8 a10 fun W11 A H12=>?_
    clear H8 a10
    go_wp2_with fail
    cases m13:exprP c.e n h ((((r).tail).tail).tail) with
    | out=>exact oB H12 m13 HN
    | bad q16 =>
     refine (Said.bad (HX.o h) A.o.pw m13).mono ?_
     rintro _ W14 ⟨rfl,s⟩
     exact⟨rfl,Sw.bd A s (H12.o.trans (bd_bad m13))⟩
    | ok x17 q16 =>
     obtain⟨H15,Z18,Y19⟩:=zd3 (H12.o.trans (bd_ok m13)) (Sw.ge A) (A.o.lo.2.2.2)
     refine (Said.ok (HX.o h) A.o.pw m13).mono ?_
     rintro _ W14 ⟨_,rfl,⟨k20,s21,n22,p23,D24,l25,c26,rfl,hnd⟩,s,p⟩
     replace A:=Sw.nd A s p hnd
     clear s p hnd m13 H12
     replace A:=Sw.al A (cl k20 s21 n22 p23 D24 l25 c26).toArray
     go_wp2_with (refine wpList_load_row rfl 24 _ rfl W14.heap.size rfl 24 _ _ _ (Sw.now A).2 underlying24 rfl Δ ?_)
     cases a27:(wl (q16)==[105,110]) with
     | false =>
      exact exB A a27 H15 fun _ h=>⟨rfl,h⟩
     | true =>
      refine exY A H15 a27 fun W28 A H29=>?_
      clear H15 a27
      go_upto_region 7 with fail
      replace A:=Sw.bel A (belDr W28)
      refine ttB (fun X=>Hs X W14.heap.size 24 (cl k20 s21 n22 p23 D24 l25 c26).toArray) 7 ((Sw.now A).2) (fun hHeld=>?_)
      refine ttQ 0 ?_
      refine ttQ 1 ?_
      refine ttQ 2 ?_ (hy:=fun w hS=>ld24 (.tmp 5) rfl _ rfl _ rfl hS)
      refine ttQ 3 ?_
      refine ttE 4 (fun K hK=>?_)
      go_simp
      cases m30:exprP c.e n h ((q16).tail) with
      | out=>exact oB H29 m30 HN
      | bad q33 =>
       refine (Said.bad (HX.o h) A.o.pw m30).mono ?_
       rintro _ W31 ⟨rfl,s⟩
       exact⟨rfl,Sw.bd A s (H29.o.trans (bd_bad m30))⟩
      | ok x34 q33 =>
       obtain⟨H32,Z35⟩:=zd2 (H29.o.trans (bd_ok m30)) (Sw.ge A)
       refine (Said.ok (HX.o h) A.o.pw m30).mono ?_
       rintro _ W31 ⟨_,rfl,⟨k36,s37,n38,p39,D40,l41,c42,rfl,hnd⟩,s,p⟩
       replace A:=Sw.nd A s p hnd
       clear s p hnd m30 H29
       refine ttR hK (fun _=>(Sw.now A).1.2) (fun hHeld=>?_)
       clear hK K
       refine ttE 5 (fun K hK=>?_)
       go_simp
       have Z43:=η (Sw.ge A)
       replace A:=Sw.al A ((cl k20 s21 n22 p23 D24 l25 c26)++(cl k36 s37 n38 p39 D40 l41 c42)).toArray
       refine ttR hK (fun _=>(Sw.now A).1.1.2) (fun hHeld=>?_)
       clear hK K
       refine ttE 6 (fun K hK=>?_)
       go_simp
       refine (node_any _ _ _ _ _ _ _ _).mono ?_
       rintro _ W44 ⟨rfl,b⟩
       replace A:=Sw.bel A b
       clear b
       refine ttR hK (fun _=>(Sw.now A).1.1.2) (fun hHeld=>?_)
       clear hK K
       have E:=Sw.e A (k:=37) (s:=(wrd ((r).tail))) (n:=0) (p:=(offP c.e (r))) (D:=(some ⟨W31.heap.size,0,none⟩)) (l:=2) (cap:=2) (a:=.mk 37 (wrd ((r).tail)) 0 (offP c.e (r)) [x17,x34]) fun X hx k=>NdR.of ⟨by unfold i64;omega,(by unfold i64;omega),TX2.o.2.2.2.2⟩ TS9.o (kid2 (k.2) Z43.o (NdR.lo k.1.1.1.2 Z18.o) (NdR.lo k.1.2 Z35.o) rfl rfl)
       have O:=setRow_heap _ _ _ (cl 37 (wrd ((r).tail)) 0 (offP c.e (r)) (some ⟨W31.heap.size,0,none⟩) 2 2).toArray _ _ (A.o.bx rfl)
       refine ttE 7 (fun K hK=>?_)
       rw[if_pos (by rfl)]
       refine wp_store_row 24 _ _ rfl w.heap.size (cl 37 (wrd ((r).tail)) 0 (offP c.e (r)) (some ⟨W31.heap.size,0,none⟩) 2 2).toArray rfl rfl 24 _ (A.o.bx rfl) Δ rfl (by simp[Value.oneCell']) ?_
       refine ttR hK (fun e=>absurd rfl e) (fun _=>?_)
       clear hK K
       refine ttD ?_
       go_wp2
       exact bodyPost_ret (results_cell_row results208 _ _ w.heap.size 24 _ _ _ rfl O underlying24 rfl Δ) rfl (by rw[H32.o];exact E.o)
 | false =>
  have H46:=η (HR.o.trans (acc_f a3))
  refine (accept_no A.o.pw (s:=⟨#[108,101,116]⟩) a3).mono ?_
  rintro _ W45 ⟨rfl,s,p⟩
  replace A:=Sw.n A s p
  clear s p HR a3
  go_wp2_with fail
  cases a47:(wl (r)==[105,102]) with
  | true =>
   refine acY A H46 a47 fun W48 A H49=>?_
   clear H46 a47
   go_wp2_with fail
   cases m50:exprP c.e n h ((r).tail) with
   | out=>exact oB H49 m50 HN
   | bad q53 =>
    refine (Said.bad (HX.o h) A.o.pw m50).mono ?_
    rintro _ W51 ⟨rfl,s⟩
    exact⟨rfl,Sw.bd A s (H49.o.trans (bd_bad m50))⟩
   | ok x54 q53 =>
    obtain⟨H52,Z55,Y56⟩:=zd3 (H49.o.trans (bd_ok m50)) (Sw.ge A) (A.o.lo.2.2.2)
    refine (Said.ok (HX.o h) A.o.pw m50).mono ?_
    rintro _ W51 ⟨_,rfl,⟨k57,s58,n59,p60,D61,l62,c63,rfl,hnd⟩,s,p⟩
    replace A:=Sw.nd A s p hnd
    clear s p hnd m50 H49
    replace A:=Sw.al A (cl k57 s58 n59 p60 D61 l62 c63).toArray
    go_wp2_with (refine wpList_load_row rfl 24 _ rfl W51.heap.size rfl 24 _ _ _ (Sw.now A).2 underlying24 rfl Δ ?_)
    cases a64:(wl (q53)==[116,104,101,110]) with
    | false =>
     exact exB A a64 H52 fun _ h=>⟨rfl,h⟩
    | true =>
     refine exY A H52 a64 fun W65 A H66=>?_
     clear H52 a64
     go_wp2_with (refine wpList_load_row rfl 24 _ rfl W51.heap.size rfl 24 _ _ _ (Sw.now A).2 underlying24 rfl Δ ?_)
     cases m67:exprP c.e n h ((q53).tail) with
     | out=>exact oB H66 m67 HN
     | bad q70 =>
      refine (Said.bad (HX.o h) A.o.pw m67).mono ?_
      rintro _ W68 ⟨rfl,s⟩
      exact⟨rfl,Sw.bd A s (H66.o.trans (bd_bad m67))⟩
     | ok x71 q70 =>
      obtain⟨H69,Z72,Y73⟩:=zd3 (H66.o.trans (bd_ok m67)) (Sw.ge A) (A.o.lo.2.2.2)
      refine (Said.ok (HX.o h) A.o.pw m67).mono ?_
      rintro _ W68 ⟨_,rfl,⟨k74,s75,n76,p77,D78,l79,c80,rfl,hnd⟩,s,p⟩
      replace A:=Sw.nd A s p hnd
      clear s p hnd m67 H66
      replace A:=Sw.al A (cl k74 s75 n76 p77 D78 l79 c80).toArray
      go_wp2_with (first|(refine wpList_load_row rfl 24 _ rfl W51.heap.size rfl 24 _ _ _ (Sw.now A).1.1.2 underlying24 rfl Δ ?_)|(refine wpList_load_row rfl 24 _ rfl W68.heap.size rfl 24 _ _ _ (Sw.now A).2 underlying24 rfl Δ ?_))
      cases a81:(wl (q70)==[101,108,115,101]) with
      | false =>
       exact exB A a81 H69 fun _ h=>⟨rfl,h⟩
      | true =>
       refine exY A H69 a81 fun W82 A H83=>?_
       clear H69 a81
       go_upto_region 13 with fail
       replace A:=Sw.bel A (belDr W82)
       refine ttB (fun X=>Hs X W51.heap.size 24 (cl k57 s58 n59 p60 D61 l62 c63).toArray∧Hs X W68.heap.size 24 (cl k74 s75 n76 p77 D78 l79 c80).toArray) 7 (⟨(Sw.now A).1.1.2,(Sw.now A).2⟩) (fun hHeld=>?_)
       refine ttQ 0 ?_
       refine ttQ 1 ?_ (hy:=fun w hS=>ld24 (.tmp 6) rfl _ rfl _ rfl hS.1)
       refine ttQ 2 ?_ (hy:=fun w hS=>ld24 (.tmp 7) rfl _ rfl _ rfl hS.2)
       refine ttQ 3 ?_
       refine ttE 4 (fun K hK=>?_)
       go_simp
       cases m84:exprP c.e n h ((q70).tail) with
       | out=>exact oB H83 m84 HN
       | bad q87 =>
        refine (Said.bad (HX.o h) A.o.pw m84).mono ?_
        rintro _ W85 ⟨rfl,s⟩
        exact⟨rfl,Sw.bd A s (H83.o.trans (bd_bad m84))⟩
       | ok x88 q87 =>
        obtain⟨H86,Z89⟩:=zd2 (H83.o.trans (bd_ok m84)) (Sw.ge A)
        refine (Said.ok (HX.o h) A.o.pw m84).mono ?_
        rintro _ W85 ⟨_,rfl,⟨k90,s91,n92,p93,D94,l95,c96,rfl,hnd⟩,s,p⟩
        replace A:=Sw.nd A s p hnd
        clear s p hnd m84 H83
        refine ttR hK (fun _=>⟨(Sw.now A).1.1.1.2,(Sw.now A).1.2⟩) (fun hHeld=>?_)
        clear hK K
        refine ttE 5 (fun K hK=>?_)
        go_simp
        have Z97:=η (Sw.ge A)
        replace A:=Sw.al A ((cl k57 s58 n59 p60 D61 l62 c63)++((cl k74 s75 n76 p77 D78 l79 c80)++(cl k90 s91 n92 p93 D94 l95 c96))).toArray
        refine ttR hK (fun _=>⟨(Sw.now A).1.1.1.1.2,(Sw.now A).1.1.2⟩) (fun hHeld=>?_)
        clear hK K
        refine ttE 6 (fun K hK=>?_)
        go_simp
        refine (node_any _ _ _ _ _ _ _ _).mono ?_
        rintro _ W98 ⟨rfl,b⟩
        replace A:=Sw.bel A b
        clear b
        refine ttR hK (fun _=>⟨(Sw.now A).1.1.1.1.2,(Sw.now A).1.1.2⟩) (fun hHeld=>?_)
        clear hK K
        have E:=Sw.e A (k:=36) (s:=e0) (n:=0) (p:=(offP c.e (r))) (D:=(some ⟨W85.heap.size,0,none⟩)) (l:=3) (cap:=3) (a:=.mk 36 e0 0 (offP c.e (r)) [x54,x71,x88]) fun X hx k=>NdR.of ⟨by unfold i64;omega,(by unfold i64;omega),TX2.o.2.2.2.2⟩ (by show e0.size≤_;decide) (kid3 (k.2) Z97.o (NdR.lo k.1.1.1.1.1.2 Z55.o) (NdR.lo k.1.1.1.2 Z72.o) (NdR.lo k.1.2 Z89.o) rfl rfl rfl)
        have O:=setRow_heap _ _ _ (cl 36 e0 0 (offP c.e (r)) (some ⟨W85.heap.size,0,none⟩) 3 3).toArray _ _ (A.o.bx rfl)
        refine ttE 7 (fun K hK=>?_)
        rw[if_pos (by rfl)]
        refine wp_store_row 24 _ _ rfl w.heap.size (cl 36 e0 0 (offP c.e (r)) (some ⟨W85.heap.size,0,none⟩) 3 3).toArray rfl rfl 24 _ (A.o.bx rfl) Δ rfl (by simp[Value.oneCell']) ?_
        refine ttR hK (fun e=>absurd rfl e) (fun _=>?_)
        clear hK K
        refine ttD ?_
        go_wp2
        exact bodyPost_ret (results_cell_row results208 _ _ w.heap.size 24 _ _ _ rfl O underlying24 rfl Δ) rfl (by rw[H86.o];exact E.o)
  | false =>
   have H100:=η (H46.o.trans (acc_f a47))
   refine (accept_no A.o.pw (s:=⟨#[105,102]⟩) a47).mono ?_
   rintro _ W99 ⟨rfl,s,p⟩
   replace A:=Sw.n A s p
   clear s p H46 a47
   go_wp2_with fail
   cases a101:(wl (r)==[109,97,116,99,104]) with
   | true =>
    refine acY A H100 a101 fun W102 A H103=>?_
    clear H100 a101
    go_wp2_with fail
    cases m104:exprP c.e n true ((r).tail) with
    | out=>exact oB H103 m104 HN
    | bad q107 =>
     exact sdB HH A m104 H103 fun _ h=>⟨rfl,h⟩
    | ok x108 q107 =>
     obtain⟨H106,Z109,Y110⟩:=zd3 (H103.o.trans (bd_ok m104)) (Sw.ge A) (A.o.lo.2.2.2)
     refine (Said.ok (HH.o) A.o.pw m104).mono ?_
     rintro _ W105 ⟨_,rfl,⟨k111,s112,n113,p114,D115,l116,c117,rfl,hnd⟩,s,p⟩
     replace A:=Sw.nd A s p hnd
     have SZ118:=η (s.size)
     clear s p hnd m104 H103
     replace A:=Sw.one A (Sw.now A).2 Y110.o SZ118.o
     have HL119:Hid (([x108]:List Nd).length≤1):=Nat.le_refl _
     go_wp2_with fail
     cases a120:(wl (q107)==[123]) with
     | false =>
      exact exB A a120 H106 fun _ h=>⟨rfl,h⟩
     | true =>
      refine exY A H106 a120 fun W121 A H122=>?_
      clear H106 a120
      go_wp2_with fail
      cases m123:itemsP [125] (armP c.e (exprP c.e n false) n) n ((q107).tail) with
      | out=>exact oB H122 m123 HN
      | bad q126 =>
       exact sdB LA A m123 H122 fun _ h=>⟨rfl,h⟩
      | ok x127 q126 =>
       obtain⟨H125,Z128,Y129,RL130⟩:=zd4 (H122.o.trans (bd_ok m123)) (Sw.ge A) (A.o.lo.2.2.2) (RowX.lt (Sw.now A).2)
       refine (Said.ok (LA.o) A.o.pw m123).mono ?_
       rintro _ W124 ⟨_,rfl,hrow,s,p⟩
       obtain⟨Ar131,cr132,rfl⟩:=hrow.form
       have HL133:=η (hrow.1)
       replace A:=Sw.rw A s p hrow
       clear s p hrow m123 H122
       obtain⟨_,_,xs138,ho,hr⟩:=(Sw.now A).1.2
       obtain⟨_,_,xs139,ho2,hr2⟩:=(Sw.now A).2
       obtain⟨HO134,HRW135,HO136,HRW137,RN143⟩:=zd5 ho hr ho2 hr2 (RowX.lt (Sw.now A).2)
       have CP147:=η ((RowX.cap (Sw.now A).1.2).2)
       have HL148:Hid (1+x127.length≤4000000000):=(by have:=HL119.o;have:=HL133.o;show _≤_;omega)
       have hcs:=ho2.2
       clear ho hr ho2 hr2
       rcases hcs with ⟨e146,hz⟩|⟨g144,cap145,_,e146,_⟩
       · obtain rfl:x127=[]:=List.eq_nil_of_length_eq_zero hz
         have E149:=η e146
         clear e146 hz
         go_wp2_with (at_builtin;refine wpList_app_nil rfl (.tmp 56) (.tmp 60) rfl (some ⟨W105.heap.size,0,none⟩) (1) 1 rfl E149.o CP147.o ?_)
         refine (node_any _ _ _ _ _ _ _ _).mono ?_
         rintro _ W150 ⟨rfl,b⟩
         replace A:=Sw.bel A b
         clear b
         have E:=Sw.e A (k:=38) (s:=e0) (n:=0) (p:=(offP c.e (r))) (D:=(some ⟨W105.heap.size,0,none⟩)) (l:=(1)) (cap:=1) (a:=.mk 38 e0 0 (offP c.e (r)) [x108]) fun X hx k=>NdR.of ⟨by unfold i64;omega,(by unfold i64;omega),TX2.o.2.2.2.2⟩ (by show e0.size≤_;decide) (RowX.nds k.1.2 Z109.o)
         have O:=setRow_heap _ _ _ (cl 38 e0 0 (offP c.e (r)) (some ⟨W105.heap.size,0,none⟩) (1) 1).toArray _ _ (A.o.bx rfl)
         go_wp2_with (refine wpList_store_row rfl 24 _ _ rfl w.heap.size (cl 38 e0 0 (offP c.e (r)) (some ⟨W105.heap.size,0,none⟩) (1) 1).toArray rfl rfl 24 _ (A.o.bx rfl) Δ rfl (by simp[Value.oneCell']) ?_)
         exact bodyPost_ret (results_cell_row results208 _ _ w.heap.size 24 _ _ _ rfl O underlying24 rfl Δ) rfl (by rw[H125.o];exact E.o)
       · have E149:=η e146
         clear e146
         go_wp2_with (first|(at_builtin;refine wpList_append_own_at _ rfl (.tmp 56) (.tmp 60) 22 rfl W102.heap.size 24 io _ 5 64 underlying22 HIO.o.1 HIO.o.2.1 HIO.o.2.2.1 HIO.o.2.2.2 rfl π (.slice (some ⟨W105.heap.size,0,none⟩) (1) 1) (1) xs138 rfl HO134.o ⟨g144,0,none⟩ x127.length cap145 xs139 E149.o HO136.o.1 (HO136.o.cells (by rw[E149.o];rfl)) (row_one HRW137.o) (by have:=HL119.o;have:=HL133.o;unfold maxLen;omega) (by have:=HL119.o;have:=HL133.o;omega) ((RowX.lt (Sw.now A).1.2).1) ?_;intro vv W142 hown hgrow hnil hvb;obtain⟨Ar140,cr141,rfl⟩:=row_form hown;replace A:=Sw.pushs A hgrow hvb hown (by simp) HRW135.o HRW137.o RL130.o Y110.o RN143.o.1;clear hown hgrow hnil hvb))
         refine (node_any _ _ _ _ _ _ _ _).mono ?_
         rintro _ W151 ⟨rfl,b⟩
         replace A:=Sw.bel A b
         clear b
         have E:=Sw.e A (k:=38) (s:=e0) (n:=0) (p:=(offP c.e (r))) (D:=Ar140) (l:=(1+x127.length)) (cap:=cr141) (a:=.mk 38 e0 0 (offP c.e (r)) ([x108]++x127)) fun X hx k=>NdR.of ⟨by unfold i64;omega,(by unfold i64;omega),TX2.o.2.2.2.2⟩ (by show e0.size≤_;decide) (RowX.nds k Z109.o)
         have O:=setRow_heap _ _ _ (cl 38 e0 0 (offP c.e (r)) Ar140 (1+x127.length) cr141).toArray _ _ (A.o.bx rfl)
         go_wp2_with (refine wpList_store_row rfl 24 _ _ rfl w.heap.size (cl 38 e0 0 (offP c.e (r)) Ar140 (1+x127.length) cr141).toArray rfl rfl 24 _ (A.o.bx rfl) Δ rfl (by simp[Value.oneCell']) ?_)
         exact bodyPost_ret (results_cell_row results208 _ _ w.heap.size 24 _ _ _ rfl O underlying24 rfl Δ) rfl (by rw[H125.o];exact E.o)
   | false =>
    have H153:=η (H100.o.trans (acc_f a101))
    refine (accept_no A.o.pw (s:=⟨#[109,97,116,99,104]⟩) a101).mono ?_
    rintro _ W152 ⟨rfl,s,p⟩
    replace A:=Sw.n A s p
    clear s p H100 a101
    go_wp2_with fail
    cases a154:(wl (r)==[102,117,110]) with
    | true =>
     refine acY A H153 a154 fun W155 A H156=>?_
     clear H153 a154
     go_wp2_with fail
     cases m157:functionP c.e (exprP c.e n h) n ((r).tail) with
     | out=>exact oB H156 m157 HN
     | bad q160 =>
      exact sdB FSq A m157 H156 fun _ h=>⟨rfl,h⟩
     | ok x161 q160 =>
      obtain⟨H159,Z162,Y163⟩:=zd3 (H156.o.trans (bd_ok m157)) (Sw.ge A) (A.o.lo.2.2.2)
      refine (Said.ok (FSq.o) A.o.pw m157).mono ?_
      rintro _ W158 ⟨_,rfl,hrow,s,p⟩
      obtain⟨Ar164,cr165,rfl⟩:=hrow.form
      have HL166:=η (hrow.1)
      replace A:=Sw.rw A s p hrow
      clear s p hrow m157 H156
      go_wp2_with fail
      refine (node_any _ _ _ _ _ _ _ _).mono ?_
      rintro _ W167 ⟨rfl,b⟩
      replace A:=Sw.bel A b
      clear b
      have E:=Sw.e A (k:=41) (s:=e0) (n:=0) (p:=(offP c.e (r))) (D:=Ar164) (l:=(x161.length)) (cap:=cr165) (a:=.mk 41 e0 0 (offP c.e (r)) x161) fun X hx k=>NdR.of ⟨by unfold i64;omega,(by unfold i64;omega),TX2.o.2.2.2.2⟩ (by show e0.size≤_;decide) (RowX.nds k.2 Z162.o)
      have O:=setRow_heap _ _ _ (cl 41 e0 0 (offP c.e (r)) Ar164 (x161.length) cr165).toArray _ _ (A.o.bx rfl)
      go_wp2_with (refine wpList_store_row rfl 24 _ _ rfl w.heap.size (cl 41 e0 0 (offP c.e (r)) Ar164 (x161.length) cr165).toArray rfl rfl 24 _ (A.o.bx rfl) Δ rfl (by simp[Value.oneCell']) ?_)
      exact bodyPost_ret (results_cell_row results208 _ _ w.heap.size 24 _ _ _ rfl O underlying24 rfl Δ) rfl (by rw[H159.o];exact E.o)
    | false =>
     have H169:=η (H153.o.trans (acc_f a154))
     refine (accept_no A.o.pw (s:=⟨#[102,117,110]⟩) a154).mono ?_
     rintro _ W168 ⟨rfl,s,p⟩
     replace A:=Sw.n A s p
     clear s p H153 a154
     go_wp2_with fail
     cases m170:operP c.e n h 1 (r) with
     | out=>exact absurd (H169.o.trans m170) HN.o
     | bad q173 =>
      refine (Said.bad (HO.o) A.o.pw m170).mono ?_
      rintro _ W171 ⟨rfl,s⟩
      exact⟨rfl,Sw.bd A s (H169.o.trans m170)⟩
     | ok x174 q173 =>
      obtain⟨H172,Z175⟩:=zd2 (H169.o.trans m170) (Sw.ge A)
      refine sdO HO A m170 fun W171 k176 s177 n178 p179 D180 l181 c182 A=>?_
      clear m170 H169
      have O:=setRow_heap _ _ _ (cl k176 s177 n178 p179 D180 l181 c182).toArray _ _ (A.o.bx rfl)
      have E:=Sw.eg (Rv:=NdV) A (cells:=(cl k176 s177 n178 p179 D180 l181 c182).toArray) (v:=.agg (cl k176 s177 n178 p179 D180 l181 c182).toArray) (a:=x174) fun X hx k=>⟨k176,s177,n178,p179,D180,l181,c182,rfl,NdR.lo k.2 Z175.o⟩
      go_wp2_with (refine wpList_store_row rfl 24 _ _ rfl w.heap.size (cl k176 s177 n178 p179 D180 l181 c182).toArray rfl rfl 24 _ (A.o.bx rfl) Δ rfl (by simp[Value.oneCell']) ?_)
      exact bodyPost_ret (results_cell_row results208 _ _ w.heap.size 24 _ _ _ rfl O underlying24 rfl Δ) rfl (by rw[H172.o];exact E.o)
section
theorem both_said (c:Cx):∀n,n≤1000000000→(∀h,Said 208 #[.pointer (some ⟨c.pb,0,none⟩)] c h NdV (exprP c.e n h))∧(∀h (lv:Nat),1≤lv→lv≤8→Said 224 #[.pointer (some ⟨c.pb,0,none⟩),.int .i64 (lv:Int)] c h NdV (operP c.e n h lv))
 | 0,_=>⟨fun h w r k hne=>absurd (by rw[exprP];rfl) hne,fun h lv _ _ w r k hne=>absurd (by rw[operP];rfl) hne⟩
 | n+1,hn=>by
  have h1:=(both_said c n ω).1
  have h2:=(both_said c n ω).2
  exact⟨fun h=>expr1_said c h ω h1 (h2 h 1 ω ω) (heading_said c h (h1 true)),fun h lv l1 l2=>oper1_said c h ω (h2 h) (post_said c h (h1 false) ω) lv l1 l2⟩
theorem expr_said (c:Cx) (h:Bool) {n:Nat} (hn:n≤1000000000):Said 208 #[.pointer (some ⟨c.pb,0,none⟩)] c h NdV (exprP c.e n h):=(both_said c n hn).1 h
section
variable {c:Cx} {w W:À} {n0:Nat} {q:List Tk} {h:Bool} {K K2:À→Prop}
theorem Sw.nil (A:Hid (Sw c w n0 W q h K)):Hid (Sw c w n0 W q h (fun X=>K X∧RowX n0 (.slice none 0 0) [] X)):=
 ⟨A.o.pw,A.o.st,A.o.lo,A.o.bx,fun X x=>⟨A.o.k X x,RowX.nil n0 X (Nat.le_trans A.o.lo.2.2.2 x.z)⟩⟩
theorem Sw.keep (A:Hid (Sw c w n0 W q h K)) (hk:∀X,K X→K2 X):Hid (Sw c w n0 W q h K2):=
 ⟨A.o.pw,A.o.st,A.o.lo,A.o.bx,fun X x=>hk X (A.o.k X x)⟩
end
theorem until_succ (s:List UInt8) (m:M Nd) (n:Nat):untilP s m (n+1)=acc s (pure []) (m >>= fun a=>untilP s m n >>= fun l=>pure (a::l)):=rfl
theorem until_bd {β:Type} (s:List UInt8) (m:M Nd) (n:Nat) (q:List Tk) (f:List Nd→M β):((m >>= fun a=>untilP s m n >>= fun l=>pure (a::l):M (List Nd)) q).bd f=(m >>= fun a=>fun r=>(untilP s m n r).bd fun t=>f (a::t)) q:=by
 show ((m q).bd fun a=>fun r=>(untilP s m n r).bd fun t=>M.ret (a::t)).bd _=(m q).bd _
 cases m q with
 | out=>rfl
 | bad r=>rfl
 | ok a r =>
  show ((untilP s m n r).bd fun t=>M.ret (a::t)).bd _=(untilP s m n r).bd _
  cases untilP s m n r<;>rfl
end
end Go.Proofs.YtbjdcogmiggamaaGreatDoor
