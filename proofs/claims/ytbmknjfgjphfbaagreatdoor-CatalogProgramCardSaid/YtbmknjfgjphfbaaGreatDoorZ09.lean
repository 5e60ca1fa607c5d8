import Derived.Test.YtbmknjfgjphfbaaGreatDoorZ08
set_option linter.all false
namespace Go.Proofs.YtbmknjfgjphfbaaGreatDoor
open Proofs.Tryz RowKit Maps WideMaps ChangeMaps
set_option maxRecDepth 100000
set_option maxHeartbeats 8000000
theorem op3 (e:Int) (n:Nat) (h:Bool) (r:List Tk):operP e (n+1) h 3 r=acc [110,111,116] (operP e n h 3 >>= fun a=>pure (.mk 34 e0 0 (offP e r) [a])) (operP e n h 4) r:=by rw[operP];rfl
theorem op8 (e:Int) (n:Nat) (h:Bool) (r:List Tk):operP e (n+1) h 8 r=acc [45] (operP e n h 8 >>= fun a=>pure (.mk 33 e0 0 (offP e r) [a])) (postP e (exprP e n false) n h) r:=by rw[operP];rfl
theorem opb (e:Int) (n:Nat) (h:Bool) (r:List Tk) {lv:Nat} (h3:lv≠3) (h8:lv≠8):operP e (n+1) h lv r=(operP e n h (lv+1) >>= fun a=>binP lv (operP e n h (lv+1)) (offP e r) n a) r:=by
 rw[operP];show (if lv=3 then _ else if lv=8 then _ else _:M Nd) r=_;rw[if_neg h3,if_neg h8]
theorem zeroInt (w:À):(zeroValue 3).run prog w=.ok (.int .i64 0) w:=by kernel_rfl
theorem levs_look {w:À} {b n:Nat} (h:MapIs prog 9 Lit.string w b n levF) {s:Ê} (hs:s.size≤maxLen):(Instr.lookup 90 (.map (some b)) (.string s) true).run prog w=.ok (.tuple #[(((levP s.data.toList).map fun n=>Value.int .i64 (n:Int))).getD (.int .i64 0),.bool ((levP s.data.toList).map fun n=>Value.int .i64 (n:Int)).isSome]) w:=
 MapIs.lookOk h (keyStr underlying9) underlying90 (zeroInt w) (keyOf_string_mk underlying9 hs)
theorem oper3_said (c:Cx) (h:Bool) {n:Nat} (hn:n≤1000000000) (IOq:∀lv:Nat,1≤lv→lv≤8→Said 207 #[.pointer (some ⟨c.pb,0,none⟩),.int .i64 (lv:Int)] c h NdV (operP c.e n h lv)) (IP:Said 220 #[.pointer (some ⟨c.pb,0,none⟩)] c h NdV (postP c.e (exprP c.e n false) n h)):Said 207 #[.pointer (some ⟨c.pb,0,none⟩),.int .i64 3] c h NdV (operP c.e (n+1) h 3):=fun w r k hne=>by
 have I3:Hid (Said 207 #[.pointer (some ⟨c.pb,0,none⟩),.int .i64 3] c h NdV (operP c.e n h 3)):=IOq 3 ω ω
 have I4:Hid (Said 207 #[.pointer (some ⟨c.pb,0,none⟩),.int .i64 4] c h NdV (operP c.e n h 4)):=IOq 4 ω ω
 clear IOq IP
 have TX:=η k.tx
 obtain⟨W0,HW,A⟩:=Sw.s1 k
 obtain⟨R,hR⟩:∃R,R=operP c.e (n+1) h 3 r:=⟨_,rfl⟩
 rw[←hR] at hne ⊢
 obtain⟨io,hio,hiz,his,hib⟩:=info_parts info_83
 have HIO:=η (And.intro hio (And.intro hiz (And.intro his hib)))
 clear hio hiz his hib
 have HMF:=hmf
 obtain⟨HN,HR⟩:=zd2 hne hR
 clear hR hne k
 go_in
 go_upto_region 1 with fail
 rw[←HW.o]
 clear HW
 go_wp2_with fail
 have TX2:=η (A.o.pw.tx)
 refine (offset_any A.o.pw).mono ?_
 rintro _ W1 ⟨rfl,b⟩
 replace A:=Sw.bel A b
 clear b
 have HIF:=η (HR.o.trans (op3 _ _ _ _))
 clear HR
 go_wp2_with fail
 cases a3:(wl (r)==[110,111,116]) with
 | true =>
  have H5:=η (HIF.o.trans (acc_t a3))
  refine (accept_yes A.o.pw (s:=⟨#[110,111,116]⟩) a3 π).mono ?_
  rintro _ W4 ⟨rfl,s,p⟩
  replace A:=Sw.n A s p
  clear s p HIF a3
  go_wp2_with fail
  cases m6:operP c.e n h 3 ((r).tail) with
  | out=>exact absurd (H5.o.trans (bd_out m6)) HN.o
  | bad q9 =>
   refine (Said.bad (I3.o) A.o.pw m6).mono ?_
   rintro _ W7 ⟨rfl,s⟩
   exact⟨rfl,Sw.bd A s (H5.o.trans (bd_bad m6))⟩
  | ok x10 q9 =>
   obtain⟨H8,Z11,Y12⟩:=zd3 (H5.o.trans (bd_ok m6)) (Sw.ge A) (A.o.lo.2.2.2)
   refine (Said.ok (I3.o) A.o.pw m6).mono ?_
   rintro _ W7 ⟨_,rfl,⟨k13,s14,n15,p16,D17,l18,c19,rfl,hnd⟩,s,p⟩
   replace A:=Sw.nd A s p hnd
   clear s p hnd m6 H5
   go_wp2_with fail
   have Z20:=η (Sw.ge A)
   replace A:=Sw.al A ((cl k13 s14 n15 p16 D17 l18 c19)).toArray
   refine (node_any _ _ _ _ _ _ _ _).mono ?_
   rintro _ W21 ⟨rfl,b⟩
   replace A:=Sw.bel A b
   clear b
   have E:=Sw.e A (k:=34) (s:=e0) (n:=0) (p:=(offP c.e (r))) (D:=(some ⟨W7.heap.size,0,none⟩)) (l:=1) (cap:=1) (a:=.mk 34 e0 0 (offP c.e (r)) [x10]) fun X hx k=>NdR.of ⟨by unfold i64;omega,(by unfold i64;omega),TX2.o.2.2.2.2⟩ (by show e0.size≤_;decide) (kid1 (k.2) Z20.o (NdR.lo k.1.2 Z11.o) rfl)
   have O:=setRow_heap _ _ _ (cl 34 e0 0 (offP c.e (r)) (some ⟨W7.heap.size,0,none⟩) 1 1).toArray _ _ (A.o.bx rfl)
   go_wp2_with (refine wpList_store_row rfl 83 _ _ rfl w.heap.size (cl 34 e0 0 (offP c.e (r)) (some ⟨W7.heap.size,0,none⟩) 1 1).toArray rfl rfl 83 _ (A.o.bx rfl) Δ rfl (by simp[Value.oneCell']) ?_)
   exact bodyPost_ret (results_cell_row results207 _ _ w.heap.size 83 _ _ _ rfl O underlying83 rfl Δ) rfl (by rw[H8.o];exact E.o)
 | false =>
  have H23:=η (HIF.o.trans (acc_f a3))
  refine (accept_no A.o.pw (s:=⟨#[110,111,116]⟩) a3).mono ?_
  rintro _ W22 ⟨rfl,s,p⟩
  replace A:=Sw.n A s p
  clear s p HIF a3
  go_wp2_with fail
  cases m24:operP c.e n h 4 (r) with
  | out=>exact absurd (H23.o.trans m24) HN.o
  | bad q27 =>
   refine (Said.bad (I4.o) A.o.pw m24).mono ?_
   rintro _ W25 ⟨rfl,s⟩
   exact⟨rfl,Sw.bd A s (H23.o.trans m24)⟩
  | ok x28 q27 =>
   obtain⟨H26,Z29⟩:=zd2 (H23.o.trans m24) (Sw.ge A)
   refine (Said.ok (I4.o) A.o.pw m24).mono ?_
   rintro _ W25 ⟨_,rfl,⟨k30,s31,n32,p33,D34,l35,c36,rfl,hnd⟩,s,p⟩
   replace A:=Sw.nd A s p hnd
   clear s p hnd m24 H23
   have O:=setRow_heap _ _ _ (cl k30 s31 n32 p33 D34 l35 c36).toArray _ _ (A.o.bx rfl)
   have E:=Sw.eg (Rv:=NdV) A (cells:=(cl k30 s31 n32 p33 D34 l35 c36).toArray) (v:=.agg (cl k30 s31 n32 p33 D34 l35 c36).toArray) (a:=x28) fun X hx k=>⟨k30,s31,n32,p33,D34,l35,c36,rfl,NdR.lo k.2 Z29.o⟩
   go_wp2_with (refine wpList_store_row rfl 83 _ _ rfl w.heap.size (cl k30 s31 n32 p33 D34 l35 c36).toArray rfl rfl 83 _ (A.o.bx rfl) Δ rfl (by simp[Value.oneCell']) ?_)
   exact bodyPost_ret (results_cell_row results207 _ _ w.heap.size 83 _ _ _ rfl O underlying83 rfl Δ) rfl (by rw[H26.o];exact E.o)
theorem oper8_said (c:Cx) (h:Bool) {n:Nat} (hn:n≤1000000000) (IOq:∀lv:Nat,1≤lv→lv≤8→Said 207 #[.pointer (some ⟨c.pb,0,none⟩),.int .i64 (lv:Int)] c h NdV (operP c.e n h lv)) (IP:Said 220 #[.pointer (some ⟨c.pb,0,none⟩)] c h NdV (postP c.e (exprP c.e n false) n h)):Said 207 #[.pointer (some ⟨c.pb,0,none⟩),.int .i64 8] c h NdV (operP c.e (n+1) h 8):=fun w r k hne=>by
 have I8:Hid (Said 207 #[.pointer (some ⟨c.pb,0,none⟩),.int .i64 8] c h NdV (operP c.e n h 8)):=IOq 8 ω ω
 have IP2:=η IP
 clear IOq IP
 have TX:=η k.tx
 obtain⟨W0,HW,A⟩:=Sw.s1 k
 obtain⟨R,hR⟩:∃R,R=operP c.e (n+1) h 8 r:=⟨_,rfl⟩
 rw[←hR] at hne ⊢
 obtain⟨io,hio,hiz,his,hib⟩:=info_parts info_83
 have HIO:=η (And.intro hio (And.intro hiz (And.intro his hib)))
 clear hio hiz his hib
 have HMF:=hmf
 obtain⟨HN,HR⟩:=zd2 hne hR
 clear hR hne k
 go_in
 go_upto_region 1 with fail
 rw[←HW.o]
 clear HW
 go_wp2_with fail
 have TX2:=η (A.o.pw.tx)
 refine (offset_any A.o.pw).mono ?_
 rintro _ W1 ⟨rfl,b⟩
 replace A:=Sw.bel A b
 clear b
 have HIF:=η (HR.o.trans (op8 _ _ _ _))
 clear HR
 go_wp2_with fail
 cases a3:(wl (r)==[45]) with
 | true =>
  have H5:=η (HIF.o.trans (acc_t a3))
  refine (accept_yes A.o.pw (s:=⟨#[45]⟩) a3 π).mono ?_
  rintro _ W4 ⟨rfl,s,p⟩
  replace A:=Sw.n A s p
  clear s p HIF a3
  go_wp2_with fail
  cases m6:operP c.e n h 8 ((r).tail) with
  | out=>exact absurd (H5.o.trans (bd_out m6)) HN.o
  | bad q9 =>
   refine (Said.bad (I8.o) A.o.pw m6).mono ?_
   rintro _ W7 ⟨rfl,s⟩
   exact⟨rfl,Sw.bd A s (H5.o.trans (bd_bad m6))⟩
  | ok x10 q9 =>
   obtain⟨H8,Z11,Y12⟩:=zd3 (H5.o.trans (bd_ok m6)) (Sw.ge A) (A.o.lo.2.2.2)
   refine (Said.ok (I8.o) A.o.pw m6).mono ?_
   rintro _ W7 ⟨_,rfl,⟨k13,s14,n15,p16,D17,l18,c19,rfl,hnd⟩,s,p⟩
   replace A:=Sw.nd A s p hnd
   clear s p hnd m6 H5
   go_wp2_with fail
   have Z20:=η (Sw.ge A)
   replace A:=Sw.al A ((cl k13 s14 n15 p16 D17 l18 c19)).toArray
   refine (node_any _ _ _ _ _ _ _ _).mono ?_
   rintro _ W21 ⟨rfl,b⟩
   replace A:=Sw.bel A b
   clear b
   have E:=Sw.e A (k:=33) (s:=e0) (n:=0) (p:=(offP c.e (r))) (D:=(some ⟨W7.heap.size,0,none⟩)) (l:=1) (cap:=1) (a:=.mk 33 e0 0 (offP c.e (r)) [x10]) fun X hx k=>NdR.of ⟨by unfold i64;omega,(by unfold i64;omega),TX2.o.2.2.2.2⟩ (by show e0.size≤_;decide) (kid1 (k.2) Z20.o (NdR.lo k.1.2 Z11.o) rfl)
   have O:=setRow_heap _ _ _ (cl 33 e0 0 (offP c.e (r)) (some ⟨W7.heap.size,0,none⟩) 1 1).toArray _ _ (A.o.bx rfl)
   go_wp2_with (refine wpList_store_row rfl 83 _ _ rfl w.heap.size (cl 33 e0 0 (offP c.e (r)) (some ⟨W7.heap.size,0,none⟩) 1 1).toArray rfl rfl 83 _ (A.o.bx rfl) Δ rfl (by simp[Value.oneCell']) ?_)
   exact bodyPost_ret (results_cell_row results207 _ _ w.heap.size 83 _ _ _ rfl O underlying83 rfl Δ) rfl (by rw[H8.o];exact E.o)
 | false =>
  have H23:=η (HIF.o.trans (acc_f a3))
  refine (accept_no A.o.pw (s:=⟨#[45]⟩) a3).mono ?_
  rintro _ W22 ⟨rfl,s,p⟩
  replace A:=Sw.n A s p
  clear s p HIF a3
  go_wp2_with fail
  cases m24:postP c.e (exprP c.e n false) n h (r) with
  | out=>exact absurd (H23.o.trans m24) HN.o
  | bad q27 =>
   refine (Said.bad (IP2.o) A.o.pw m24).mono ?_
   rintro _ W25 ⟨rfl,s⟩
   exact⟨rfl,Sw.bd A s (H23.o.trans m24)⟩
  | ok x28 q27 =>
   obtain⟨H26,Z29⟩:=zd2 (H23.o.trans m24) (Sw.ge A)
   refine (Said.ok (IP2.o) A.o.pw m24).mono ?_
   rintro _ W25 ⟨_,rfl,⟨k30,s31,n32,p33,D34,l35,c36,rfl,hnd⟩,s,p⟩
   replace A:=Sw.nd A s p hnd
   clear s p hnd m24 H23
   have O:=setRow_heap _ _ _ (cl k30 s31 n32 p33 D34 l35 c36).toArray _ _ (A.o.bx rfl)
   have E:=Sw.eg (Rv:=NdV) A (cells:=(cl k30 s31 n32 p33 D34 l35 c36).toArray) (v:=.agg (cl k30 s31 n32 p33 D34 l35 c36).toArray) (a:=x28) fun X hx k=>⟨k30,s31,n32,p33,D34,l35,c36,rfl,NdR.lo k.2 Z29.o⟩
   go_wp2_with (refine wpList_store_row rfl 83 _ _ rfl w.heap.size (cl k30 s31 n32 p33 D34 l35 c36).toArray rfl rfl 83 _ (A.o.bx rfl) Δ rfl (by simp[Value.oneCell']) ?_)
   exact bodyPost_ret (results_cell_row results207 _ _ w.heap.size 83 _ _ _ rfl O underlying83 rfl Δ) rfl (by rw[H26.o];exact E.o)
set_option maxHeartbeats 16000000 in
theorem operb_said (c:Cx) (h:Bool) {n:Nat} (hn:n≤1000000000) (IOq:∀lv:Nat,1≤lv→lv≤8→Said 207 #[.pointer (some ⟨c.pb,0,none⟩),.int .i64 (lv:Int)] c h NdV (operP c.e n h lv)) (IP:Said 220 #[.pointer (some ⟨c.pb,0,none⟩)] c h NdV (postP c.e (exprP c.e n false) n h)) (lv:Nat) (l1:1≤lv) (l2:lv≤7) (l3:lv≠3):Said 207 #[.pointer (some ⟨c.pb,0,none⟩),.int .i64 (lv:Int)] c h NdV (operP c.e (n+1) h lv):=fun w r k hne=>by
 have HWR:Hid (wrap64 ((lv:Int)+1)=((lv+1:Nat):Int)):=by show _=_;unfold wrap64;omega
 have HW3:Hid (IntKind.i64.wrap ((lv:Int)+1)=((lv+1:Nat):Int)):=by show _=_;rw[IntKind.wrap_i64];omega
 have HW2:Hid (((lv:Nat):Int)+1=((lv+1:Nat):Int)):=by show _=_;omega
 have I1:=η (IOq (lv+1) ω ω)
 have q3:(((lv:Nat):Int)==3)=false:=by simp;omega
 have q8:(((lv:Nat):Int)==8)=false:=by simp;omega
 have HLV:=η (And.intro l3 l2)
 clear IOq IP l1
 have TX:=η k.tx
 obtain⟨W0,HW,A⟩:=Sw.s1 k
 obtain⟨R,hR⟩:∃R,R=operP c.e (n+1) h lv r:=⟨_,rfl⟩
 rw[←hR] at hne ⊢
 obtain⟨io,hio,hiz,his,hib⟩:=info_parts info_83
 have HIO:=η (And.intro hio (And.intro hiz (And.intro his hib)))
 clear hio hiz his hib
 have HMF:=hmf
 obtain⟨HN,HR⟩:=zd2 hne hR
 clear hR hne k
 go_in
 go_upto_region 1 with fail
 rw[←HW.o]
 clear HW
 go_wp2_with fail
 have TX2:=η (A.o.pw.tx)
 refine (offset_any A.o.pw).mono ?_
 rintro _ W1 ⟨rfl,b⟩
 replace A:=Sw.bel A b
 clear b
 have HIF:=η (HR.o.trans (opb _ _ _ _ HLV.o.1 (by have:=HLV.o.2;omega)))
 clear HR
 go_wp2_with fail
 first|rw[HW3.o]|rw[HWR.o]|rw[HW2.o]
 cases m3:operP c.e n h (lv+1) (r) with
 | out=>exact absurd (HIF.o.trans (bd_out m3)) HN.o
 | bad q6 =>
  refine (Said.bad (I1.o) A.o.pw m3).mono ?_
  rintro _ W4 ⟨rfl,s⟩
  exact⟨rfl,Sw.bd A s (HIF.o.trans (bd_bad m3))⟩
 | ok x7 q6 =>
  obtain⟨H5,Z8,Y9⟩:=zd3 (HIF.o.trans (bd_ok m3)) (Sw.ge A) (A.o.lo.2.2.2)
  refine (Said.ok (I1.o) A.o.pw m3).mono ?_
  rintro _ W4 ⟨_,rfl,⟨k10,s11,n12,p13,D14,l15,c16,rfl,hnd⟩,s,p⟩
  replace A:=Sw.nd A s p hnd
  clear s p hnd m3 HIF
  replace A:=Sw.box A (Sw.now A).2 Y9.o
  obtain⟨WL,hWL⟩:∃WL,Hid (WL=W4.alloc (.cells (cl k10 s11 n12 p13 D14 l15 c16).toArray 83)):=⟨_,rfl⟩
  rw[←hWL.o] at A
  obtain⟨g,hg⟩:∃g,Hid (g=W4.heap.size):=⟨_,rfl⟩
  rw[←hg.o] at A
  go_wp2_with fail
  rw[←hWL.o,←hg.o]
  clear hWL hg
  have HT:Hid (n≤n∧R=binP lv (operP c.e n h (lv+1)) (offP c.e r) n x7 q6):=⟨Nat.le_refl _,H5.o⟩
  clear H5
  go_loopw [] (fun wr=>∃q n1 k1 s1 n2 p1 D1 l1 c1 a1,Hid (Sw c w (w.heap.size+1) wr q h (BoxT (w.heap.size+1) g (cl k1 s1 n2 p1 D1 l1 c1) a1))∧Hid (n1≤n∧R=binP lv (operP c.e n h (lv+1)) (offP c.e r) n1 a1 q)) (fun wr=>leftN c wr)
  case atStart=>exact⟨_,_,_,_,_,_,_,_,_,_,A,HT⟩
  case round =>
   clear A HT
   obtain⟨q,n1,k1,s1,n2,p1,D1,l1,c1,a1,A,HT⟩:=hrel
   cases hn1:n1 with
   | zero=>exact absurd (HT.o.2.trans (by rw[hn1];rfl)) HN.o
   | succ n3 =>
   subst hn1
   have HL0:=η A.o.pw.left
   have HG0:=η (Sw.now A).1
   have HR0:=η HT.o.2
   have HN3:=η HT.o.1
   clear HT
   have TS:=η A.o.pw.tx.2.1
   go_wp2_with fail
   refine (word_any A.o.pw).mono ?_
   rintro _ W17 ⟨rfl,b⟩
   replace A:=Sw.bel A b
   clear b
   obtain⟨nm_,HM⟩:=A.o.pw.lev
   have hlk:=levs_look HM TS.o
   clear HM
   have c4:W17.cell? ⟨c.pb,4,none⟩=some (.map (some c.mb)):=A.o.pw.box.cell 4
   cases hlv:levP (wl q) with
   | none =>
    have HX:=η (HR0.o.trans (ite_f (by rw[hlv];simp)))
    rw[show levP (wrd q).data.toList=none from hlv] at hlk
    clear hlv
    have O:=setRow_heap _ _ _ (cl k1 s1 n2 p1 D1 l1 c1).toArray _ _ (A.o.bx rfl)
    have E:=Sw.eg (Rv:=NdV) A (cells:=(cl k1 s1 n2 p1 D1 l1 c1).toArray) (v:=.agg (cl k1 s1 n2 p1 D1 l1 c1).toArray) (a:=a1) fun X hx k=>⟨_,_,_,_,_,_,_,rfl,NdR.lo (BoxT.nd k) (Nat.le_succ _)⟩
    go_wp2_with (first|(refine wpList_load_row rfl 83 _ rfl g rfl 83 _ _ _ (Sw.now A).2.1 underlying83 rfl Δ ?_)|(refine wpList_store_row rfl 83 _ _ rfl w.heap.size (cl k1 s1 n2 p1 D1 l1 c1).toArray rfl rfl 83 _ (A.o.bx rfl) Δ rfl (by simp[Value.oneCell']) ?_))
    exact bodyPost_ret (results_cell_row results207 _ _ w.heap.size 83 _ _ _ rfl O underlying83 rfl Δ) rfl (by rw[HX.o];exact E.o)
   | some l =>
    rw[show levP (wrd q).data.toList=some l from hlv] at hlk
    by_cases hll:l=lv
    case neg =>
     have HX:=η (HR0.o.trans (ite_f (by rw[hlv];simpa using hll)))
     have e1:(((l:Nat):Int)==((lv:Nat):Int))=false:=by simp;omega
     have e2:(((l:Nat):Int) != ((lv:Nat):Int))=true:=by simp;omega
     clear hlv hll
     have O:=setRow_heap _ _ _ (cl k1 s1 n2 p1 D1 l1 c1).toArray _ _ (A.o.bx rfl)
     have E:=Sw.eg (Rv:=NdV) A (cells:=(cl k1 s1 n2 p1 D1 l1 c1).toArray) (v:=.agg (cl k1 s1 n2 p1 D1 l1 c1).toArray) (a:=a1) fun X hx k=>⟨_,_,_,_,_,_,_,rfl,NdR.lo (BoxT.nd k) (Nat.le_succ _)⟩
     go_wp2_with (first|(refine wpList_load_row rfl 83 _ rfl g rfl 83 _ _ _ (Sw.now A).2.1 underlying83 rfl Δ ?_)|(refine wpList_store_row rfl 83 _ _ rfl w.heap.size (cl k1 s1 n2 p1 D1 l1 c1).toArray rfl rfl 83 _ (A.o.bx rfl) Δ rfl (by simp[Value.oneCell']) ?_))
     exact bodyPost_ret (results_cell_row results207 _ _ w.heap.size 83 _ _ _ rfl O underlying83 rfl Δ) rfl (by rw[HX.o];exact E.o)
    case pos =>
     subst hll
     obtain⟨HX,HQ0⟩:=zd2 (HR0.o.trans (ite_t hlv)) (lev_ne hlv)
     clear hlv HR0
     obtain⟨i20,hi21⟩:∃i:Nat,Hid (i=c.L.length-(q).length):=⟨_,rfl⟩
     have c1:W17.cell? ⟨c.pb,1,none⟩=some (.int .i64 ((i20:Nat):Int)):=by rw[hi21.o];exact A.o.pw.box.cell 1
     have f1:W17.frozen? ⟨c.pb,1,none⟩=false:=A.o.pw.box.free 1
     have PS:Hid (wrap64 ((i20:Nat)+1:Int)=((c.L.length-(q).tail.length:Nat):Int)):=by show _=_;rw[hi21.o];exact (A.o.pw.skip HQ0.o).2.2
     go_upto_region 17 with fail
     rw[PS.o]
     obtain⟨W18,hW19⟩:∃W18,Hid (W18=W17.setCell ⟨c.pb,1,none⟩ (.int .i64 ((c.L.length-(q).tail.length:Nat):Int))):=⟨_,rfl⟩
     rw[←hW19.o]
     replace A:=Sw.sk A HQ0.o hW19
     have H22:=η (HX.o.trans (nxt_t HQ0.o))
     clear HX
     clear c1 f1 PS hW19
     clear c4 hlk
     replace A:=Sw.bel A (belDr W18)
     refine ttB (fun X=>Hs X g 83 (cl k1 s1 n2 p1 D1 l1 c1).toArray) 9 (Sw.now A).2.1 (fun hHeld=>?_)
     refine ttQ 0 ?_
     refine ttQ 1 ?_
     refine ttQ 2 ?_ (hy:=fun w hS=>ld24 (.tmp 6) rfl _ rfl _ rfl hS)
     refine ttQ 3 ?_
     refine ttQ 4 ?_
     refine ttQ 5 ?_
     refine ttE 6 (fun K hK=>?_)
     go_simp
     first|rw[HW3.o]|rw[HWR.o]|rw[HW2.o]
     have HM1:=η (Sw.now A).2.1.lt
     have HZ:=η A.o.lo.2.2.2
     cases m1:operP c.e n h (l+1) (q.tail) with
     | out=>exact absurd (H22.o.trans (bd_out m1)) HN.o
     | bad q2 =>
      refine (Said.bad I1.o A.o.pw m1).mono ?_
      rintro _ W90 ⟨rfl,s⟩
      exact⟨rfl,Sw.bd A s (H22.o.trans (bd_bad m1))⟩
     | ok b q2 =>
      have HY:=η (H22.o.trans (bd_ok m1))
      have HQL:=η (suf_len (((inferInstance:Suf (operP c.e n h (l+1))).h _).1 _ _ m1))
      refine (Said.ok I1.o A.o.pw m1).mono ?_
      rintro _ W91 ⟨_,rfl,⟨k5,s5,n5,p5,D5,l5,c5,rfl,hnd⟩,s,p⟩
      replace A:=Sw.nd A s p hnd
      clear s p hnd m1 H22
      refine ttR hK (fun _=>(Sw.now A).1.2.1) (fun hHeld=>?_)
      clear hK K
      refine ttE 7 (fun K hK=>?_)
      go_simp
      have HZ2:=η A.o.lo.2.2.2
      have HM2:=η (Sw.now A).1.2.1.lt
      replace A:=Sw.al A ((cl k1 s1 n2 p1 D1 l1 c1)++(cl k5 s5 n5 p5 D5 l5 c5)).toArray
      refine ttR hK (fun _=>(Sw.now A).1.1.2.1) (fun hHeld=>?_)
      clear hK K
      refine ttE 8 (fun K hK=>?_)
      go_simp
      refine (node_any _ _ _ _ _ _ _ _).mono ?_
      rintro _ W92 ⟨rfl,b⟩
      replace A:=Sw.bel A b
      clear b
      refine ttR hK (fun _=>(Sw.now A).1.1.2.1) (fun hHeld=>?_)
      clear hK K
      have hg0:=HG0.o
      have HSS:=(Sw.now A).1.1.2.1
      have hnd:NdR _ (ndx (w.heap.size+1) g _) (cl 35 (wrd q) 0 (offP c.e r) (some ⟨W91.heap.size,0,none⟩) 2 2) (.mk 35 (wrd q) 0 (offP c.e r) [a1,b]):=NdR.of ⟨by unfold i64;omega,by unfold i64;omega,TX.o.2.2.2.2⟩ TS.o (kidP2 ⟨⟨HZ2.o,(Sw.now A).2.lt⟩,fun e=>by have:=HM2.o;omega⟩ (Sw.now A).2 (Sw.now A).1.1.2.2 (NdR.ndx (Sw.now A).1.2 HZ.o HM1.o) rfl rfl)
      replace A:=Sw.rebox' A hg0 HSS hnd
      refine ttE 9 (fun K hK=>?_)
      rw[if_pos (by rfl)]
      refine wp_store_row 83 _ _ rfl g (cl 35 (wrd q) 0 (offP c.e r) (some ⟨W91.heap.size,0,none⟩) 2 2).toArray rfl rfl 83 _ HSS Δ rfl (by simp[Value.oneCell']) ?_
      refine ttR hK (fun e=>absurd rfl e) (fun _=>?_)
      clear hK K HSS hnd hg0
      refine ttD ?_
      by_cases h4:l=4
      case pos =>
       have HV:=η (HY.o.trans (ite_t h4))
       subst h4
       obtain⟨W93,hW93⟩:∃W93,Hid (W93=W92.setRow g (cl 35 (wrd q) 0 (offP c.e r) (some ⟨W91.heap.size,0,none⟩) 2 2).toArray):=⟨_,rfl⟩
       rw[←hW93.o] at A ⊢
       clear hW93
       have O:=setRow_heap _ _ _ (cl 35 (wrd q) 0 (offP c.e r) (some ⟨W91.heap.size,0,none⟩) 2 2).toArray _ _ (A.o.bx rfl)
       have E:=Sw.eg (Rv:=NdV) A (cells:=(cl 35 (wrd q) 0 (offP c.e r) (some ⟨W91.heap.size,0,none⟩) 2 2).toArray) (v:=.agg (cl 35 (wrd q) 0 (offP c.e r) (some ⟨W91.heap.size,0,none⟩) 2 2).toArray) (a:=.mk 35 (wrd q) 0 (offP c.e r) [a1,b]) fun X hx k=>⟨_,_,_,_,_,_,_,rfl,NdR.lo (BoxT.nd k) (Nat.le_succ _)⟩
       go_wp2_with (first|(refine wpList_load_row rfl 83 _ rfl g rfl 83 _ _ _ (Sw.now A).2.1 underlying83 rfl Δ ?_)|(refine wpList_store_row rfl 83 _ _ rfl w.heap.size (cl 35 (wrd q) 0 (offP c.e r) (some ⟨W91.heap.size,0,none⟩) 2 2).toArray rfl rfl 83 _ (A.o.bx rfl) Δ rfl (by simp[Value.oneCell']) ?_))
       exact bodyPost_ret (results_cell_row results207 _ _ w.heap.size 83 _ _ _ rfl O underlying83 rfl Δ) rfl (by rw[HV.o];exact E.o)
      case neg =>
       have HV:=η (HY.o.trans (ite_f h4))
       have q4:(((l:Nat):Int)==4)=false:=by simp;omega
       clear h4
       go_wp2_with fail
       refine⟨⟨q2,n3,_,_,_,_,_,_,_,_,A,⟨Nat.le_of_succ_le HN3.o,HV.o⟩⟩,?_⟩
       refine Nat.lt_of_le_of_lt (Nat.le_of_eq A.o.pw.left) ?_
       rw[HL0.o]
       have h1:=HQL.o;have h2:0<q.length:=List.length_pos_iff.2 HQ0.o;simp only[List.length_tail] at h1;omega
theorem oper1_said (c:Cx) (h:Bool) {n:Nat} (hn:n≤1000000000) (IOq:∀lv:Nat,1≤lv→lv≤8→Said 207 #[.pointer (some ⟨c.pb,0,none⟩),.int .i64 (lv:Int)] c h NdV (operP c.e n h lv)) (IP:Said 220 #[.pointer (some ⟨c.pb,0,none⟩)] c h NdV (postP c.e (exprP c.e n false) n h)) (lv:Nat) (l1:1≤lv) (l2:lv≤8):Said 207 #[.pointer (some ⟨c.pb,0,none⟩),.int .i64 (lv:Int)] c h NdV (operP c.e (n+1) h lv):=by
 by_cases h3:lv=3
 · subst h3;exact oper3_said c h hn IOq IP
 · by_cases h8:lv=8
   · subst h8;exact oper8_said c h hn IOq IP
   · exact operb_said c h hn IOq IP lv l1 ω h3
end Go.Proofs.YtbmknjfgjphfbaaGreatDoor
