import Derived.Test.YtbmknjfgjphfbaaGreatDoorZ13
set_option linter.all false
namespace Go.Proofs.YtbmknjfgjphfbaaGreatDoor
open Proofs.Tryz RowKit Maps WideMaps ChangeMaps
set_option maxRecDepth 100000
set_option maxHeartbeats 8000000
instance (e:Int) (p:Int) (n:Nat):Con (convTypeP e p n):=by unfold convTypeP;infer_instance
set_option synthInstance.maxSize 8000 in
set_option synthInstance.maxHeartbeats 800000 in
instance (e:Int) (n:Nat):Con (changeP e n):=by unfold changeP;infer_instance
instance (e:Int) (b:Bool) (n:Nat):Con (oneP e b n):=by unfold oneP;infer_instance
theorem RowX.leaf {n g:Nat} {X:À} {cs:List Value} {a:Nd} (hn:n≤g) (hg:Hs X g 83 cs.toArray) (hc:cs.length=5) (hr:NdR X (fun b=>nb n (.slice (some ⟨g,0,none⟩) 1 1) X b∧¬NoE b) cs a):RowX n (.slice (some ⟨g,0,none⟩) 1 1) [a] X:=by
 refine⟨by have:=hg.lt;omega,fun _ _ h=>h.elim,cs,⟨by simp[hc],.inr ⟨g,1,cs.toArray,rfl,hn,hg,Nat.le_refl _,by decide,by simp[hc],?_⟩⟩,?_⟩
 · rw[List.take_of_length_le (by simp[hc])]
 · have:=RowG.snoc (Q:=NdR X (fun b=>nb n (.slice (some ⟨g,0,none⟩) 1 1) X b∧¬NoE b)) (size:=5) (xs:=[]) (l:=[]) (a:=a) (RowG.nil _) hc hr
   simpa using this
theorem change_said (c:Cx) (h:Bool) {n:Nat} (hn:n≤1000000000):Said 95 #[.pointer (some ⟨c.pb,0,none⟩)] c false NdV (changeP c.e n):=fun w r k hne=>by
 obtain⟨FL,AR⟩:=zd2 (fields_said c false hn) (args_said c false (expr_said c false hn) hn)
 have LS:=η (list_said (F:=139) (c:=c) (h:=false) (m:=setP c.e (exprP c.e n false)) (s:=⟨#[125]⟩) (n:=n) (fun _ _=>by kernel_rfl) inferInstance (set_said c false (expr_said c false hn)) π hn)
 have TX:=η k.tx
 obtain⟨W0,HW,A⟩:=Sw.s1 k
 obtain⟨R,hR⟩:∃R,R=changeP c.e n r:=⟨_,rfl⟩
 rw[←hR] at hne ⊢
 obtain⟨io,hio,hiz,his,hib⟩:=info_parts info_83
 have HIO:=η (And.intro hio (And.intro hiz (And.intro his hib)))
 clear hio hiz his hib
 have HMF:=hmf
 obtain⟨HN,HR⟩:=zd2 hne hR
 clear hR hne k
 go_in
 go_upto_region 1 with fail
 rw[←HW.o]
 clear HW
 go_wp2_with fail
 have TX2:=η (A.o.pw.tx)
 refine (offset_any A.o.pw).mono ?_
 rintro _ W1 ⟨rfl,b⟩
 replace A:=Sw.bel A b
 clear b
 go_wp2_with fail
 cases a3:(wl (r)==[109,111,118,101]) with
 | true =>
  have H5:=η (HR.o.trans (acc_t a3))
  refine (accept_yes A.o.pw (s:=⟨#[109,111,118,101]⟩) a3 π).mono ?_
  rintro _ W4 ⟨rfl,s,p⟩
  replace A:=Sw.n A s p
  clear s p HR a3
  go_wp2_with fail
  cases a6:uppB (wl ((r).tail)) with
  | false =>
   refine (name_no A.o.pw p_uppB a6).mono ?_
   rintro _ W7 ⟨rfl,s⟩
   exact⟨rfl,Sw.bd A s (H5.o.trans (bd_bad (nam_f a6)))⟩
  | true =>
   have H8:=η (H5.o.trans (bd_ok (nam_t a6)))
   have TS9:=η (A.o.pw.tx.2.1)
   refine (name_yes A.o.pw p_uppB a6 (by rfl)).mono ?_
   rintro _ W7 ⟨rfl,s,p⟩
   replace A:=Sw.n A s p
   clear s p H5 a6
   go_wp2_with fail
   cases a10:(wl (((r).tail).tail)==[116,111]) with
   | false =>
    refine (expect_no A.o.pw (s:=⟨#[116,111]⟩) a10).mono ?_
    rintro _ W11 ⟨rfl,s⟩
    exact⟨rfl,Sw.bd A s (H8.o.trans (bd_bad (exp_f a10)))⟩
   | true =>
    have H12:=η (H8.o.trans (bd_ok (exp_t a10)))
    refine (expect_yes A.o.pw (s:=⟨#[116,111]⟩) a10 π).mono ?_
    rintro _ W11 ⟨rfl,s,p⟩
    replace A:=Sw.n A s p
    clear s p H8 a10
    go_wp2_with fail
    by_cases a13:kd ((((r).tail).tail).tail)=2
    case neg =>
     refine (integer_no A.o.pw a13).mono ?_
     rintro _ W14 ⟨rfl,s⟩
     exact⟨rfl,Sw.bd A s (H12.o.trans (bd_bad (int_f a13)))⟩
    case pos =>
     have H15:=η (H12.o.trans (bd_ok (int_t a13)))
     have TI16:=η (And.intro A.o.pw.tx.2.2.2.1 A.o.pw.nb)
     refine (integer_yes A.o.pw a13).mono ?_
     rintro _ W14 ⟨rfl,s,p⟩
     replace A:=Sw.n A s p
     clear s p H12 a13
     go_wp2_with fail
     refine (node_any _ _ _ _ _ _ _ _).mono ?_
     rintro _ W17 ⟨rfl,b⟩
     replace A:=Sw.bel A b
     clear b
     have E:=Sw.e A (k:=73) (s:=(wrd ((r).tail))) (n:=(nm ((((r).tail).tail).tail))) (p:=(offP c.e (r))) (D:=none) (l:=0) (cap:=0) (a:=.mk 73 (wrd ((r).tail)) (nm ((((r).tail).tail).tail)) (offP c.e (r)) []) fun X hx k=>NdR.of ⟨by unfold i64;omega,TI16.o.1,TX2.o.2.2.2.2⟩ TS9.o (kid0)
     have O:=setRow_heap _ _ _ (cl 73 (wrd ((r).tail)) (nm ((((r).tail).tail).tail)) (offP c.e (r)) none 0 0).toArray _ _ (A.o.bx rfl)
     go_wp2_with (refine wpList_store_row rfl 83 _ _ rfl w.heap.size (cl 73 (wrd ((r).tail)) (nm ((((r).tail).tail).tail)) (offP c.e (r)) none 0 0).toArray rfl rfl 83 _ (A.o.bx rfl) Δ rfl (by simp[Value.oneCell']) ?_)
     exact bodyPost_ret (results_cell_row results95 _ _ w.heap.size 83 _ _ _ rfl O underlying83 rfl Δ) rfl (by rw[H15.o];exact E.o)
 | false =>
  have H19:=η (HR.o.trans (acc_f a3))
  refine (accept_no A.o.pw (s:=⟨#[109,111,118,101]⟩) a3).mono ?_
  rintro _ W18 ⟨rfl,s,p⟩
  replace A:=Sw.n A s p
  clear s p HR a3
  go_wp2_with fail
  cases a20:(wl (r)==[100,114,111,112]) with
  | true =>
   have H22:=η (H19.o.trans (acc_t a20))
   refine (accept_yes A.o.pw (s:=⟨#[100,114,111,112]⟩) a20 π).mono ?_
   rintro _ W21 ⟨rfl,s,p⟩
   replace A:=Sw.n A s p
   clear s p H19 a20
   go_wp2_with fail
   cases a23:uppB (wl ((r).tail)) with
   | false =>
    refine (name_no A.o.pw p_uppB a23).mono ?_
    rintro _ W24 ⟨rfl,s⟩
    exact⟨rfl,Sw.bd A s (H22.o.trans (bd_bad (nam_f a23)))⟩
   | true =>
    have H25:=η (H22.o.trans (bd_ok (nam_t a23)))
    have TS26:=η (A.o.pw.tx.2.1)
    refine (name_yes A.o.pw p_uppB a23 (by rfl)).mono ?_
    rintro _ W24 ⟨rfl,s,p⟩
    replace A:=Sw.n A s p
    clear s p H22 a23
    go_wp2_with fail
    refine (node_any _ _ _ _ _ _ _ _).mono ?_
    rintro _ W27 ⟨rfl,b⟩
    replace A:=Sw.bel A b
    clear b
    have E:=Sw.e A (k:=74) (s:=(wrd ((r).tail))) (n:=0) (p:=(offP c.e (r))) (D:=none) (l:=0) (cap:=0) (a:=.mk 74 (wrd ((r).tail)) 0 (offP c.e (r)) []) fun X hx k=>NdR.of ⟨by unfold i64;omega,(by unfold i64;omega),TX2.o.2.2.2.2⟩ TS26.o (kid0)
    have O:=setRow_heap _ _ _ (cl 74 (wrd ((r).tail)) 0 (offP c.e (r)) none 0 0).toArray _ _ (A.o.bx rfl)
    go_wp2_with (refine wpList_store_row rfl 83 _ _ rfl w.heap.size (cl 74 (wrd ((r).tail)) 0 (offP c.e (r)) none 0 0).toArray rfl rfl 83 _ (A.o.bx rfl) Δ rfl (by simp[Value.oneCell']) ?_)
    exact bodyPost_ret (results_cell_row results95 _ _ w.heap.size 83 _ _ _ rfl O underlying83 rfl Δ) rfl (by rw[H25.o];exact E.o)
  | false =>
   have H29:=η (H19.o.trans (acc_f a20))
   refine (accept_no A.o.pw (s:=⟨#[100,114,111,112]⟩) a20).mono ?_
   rintro _ W28 ⟨rfl,s,p⟩
   replace A:=Sw.n A s p
   clear s p H19 a20
   go_wp2_with fail
   cases a30:(wl (r)==[99,111,110,118,101,114,116]) with
   | false =>
    refine (expect_no A.o.pw (s:=⟨#[99,111,110,118,101,114,116]⟩) a30).mono ?_
    rintro _ W31 ⟨rfl,s⟩
    exact⟨rfl,Sw.bd A s (H29.o.trans (bd_bad (exp_f a30)))⟩
   | true =>
    have H32:=η (H29.o.trans (bd_ok (exp_t a30)))
    refine (expect_yes A.o.pw (s:=⟨#[99,111,110,118,101,114,116]⟩) a30 π).mono ?_
    rintro _ W31 ⟨rfl,s,p⟩
    replace A:=Sw.n A s p
    clear s p H29 a30
    go_wp2_with fail
    cases a33:(wl ((r).tail)==[116,121,112,101]) with
    | true =>
     have H35:=η (H32.o.trans (acc_t a33))
     refine (accept_yes A.o.pw (s:=⟨#[116,121,112,101]⟩) a33 π).mono ?_
     rintro _ W34 ⟨rfl,s,p⟩
     replace A:=Sw.n A s p
     clear s p H32 a33
     go_wp2_with fail
     cases m36:convTypeP c.e (offP c.e r) n (((r).tail).tail) with
     | out=>exact absurd (H35.o.trans m36) HN.o
     | bad q39 =>
      refine (Said.bad ((convT_said c false hn _ TX.o.2.2.2.2)) A.o.pw m36).mono ?_
      rintro _ W37 ⟨rfl,s⟩
      exact⟨rfl,Sw.bd A s (H35.o.trans m36)⟩
     | ok x40 q39 =>
      obtain⟨H38,Z41⟩:=zd2 (H35.o.trans m36) (Sw.ge A)
      refine (Said.ok ((convT_said c false hn _ TX.o.2.2.2.2)) A.o.pw m36).mono ?_
      rintro _ W37 ⟨_,rfl,⟨k42,s43,n44,p45,D46,l47,c48,rfl,hnd⟩,s,p⟩
      replace A:=Sw.nd A s p hnd
      clear s p hnd m36 H35
      have O:=setRow_heap _ _ _ (cl k42 s43 n44 p45 D46 l47 c48).toArray _ _ (A.o.bx rfl)
      have E:=Sw.eg (Rv:=NdV) A (cells:=(cl k42 s43 n44 p45 D46 l47 c48).toArray) (v:=.agg (cl k42 s43 n44 p45 D46 l47 c48).toArray) (a:=x40) fun X hx k=>⟨k42,s43,n44,p45,D46,l47,c48,rfl,NdR.lo k.2 Z41.o⟩
      go_wp2_with (refine wpList_store_row rfl 83 _ _ rfl w.heap.size (cl k42 s43 n44 p45 D46 l47 c48).toArray rfl rfl 83 _ (A.o.bx rfl) Δ rfl (by simp[Value.oneCell']) ?_)
      exact bodyPost_ret (results_cell_row results95 _ _ w.heap.size 83 _ _ _ rfl O underlying83 rfl Δ) rfl (by rw[H38.o];exact E.o)
    | false =>
     have H50:=η (H32.o.trans (acc_f a33))
     refine (accept_no A.o.pw (s:=⟨#[116,121,112,101]⟩) a33).mono ?_
     rintro _ W49 ⟨rfl,s,p⟩
     replace A:=Sw.n A s p
     clear s p H32 a33
     go_wp2_with fail
     cases a51:(wl ((r).tail)==[97,99,116,111,114]) with
     | true =>
      have H53:=η (H50.o.trans (acc_t a51))
      refine (accept_yes A.o.pw (s:=⟨#[97,99,116,111,114]⟩) a51 π).mono ?_
      rintro _ W52 ⟨rfl,s,p⟩
      replace A:=Sw.n A s p
      clear s p H50 a51
      go_wp2_with fail
      cases a54:uppB (wl (((r).tail).tail)) with
      | false =>
       refine (name_no A.o.pw p_uppB a54).mono ?_
       rintro _ W55 ⟨rfl,s⟩
       exact⟨rfl,Sw.bd A s (H53.o.trans (bd_bad (nam_f a54)))⟩
      | true =>
       have H56:=η (H53.o.trans (bd_ok (nam_t a54)))
       have TS57:=η (A.o.pw.tx.2.1)
       refine (name_yes A.o.pw p_uppB a54 (by rfl)).mono ?_
       rintro _ W55 ⟨rfl,s,p⟩
       replace A:=Sw.n A s p
       clear s p H53 a54
       go_wp2_with fail
       cases m58:fieldsP c.e n ((((r).tail).tail).tail) with
       | out=>exact absurd (H56.o.trans (bd_out m58)) HN.o
       | bad q61 =>
        refine (Said.bad (FL.o) A.o.pw m58).mono ?_
        rintro _ W59 ⟨rfl,s⟩
        exact⟨rfl,Sw.bd A s (H56.o.trans (bd_bad m58))⟩
       | ok x62 q61 =>
        obtain⟨H60,Z63,Y64⟩:=zd3 (H56.o.trans (bd_ok m58)) (Sw.ge A) (A.o.lo.2.2.2)
        refine (Said.ok (FL.o) A.o.pw m58).mono ?_
        rintro _ W59 ⟨_,rfl,hrow,s,p⟩
        obtain⟨Ar65,cr66,rfl⟩:=hrow.form
        have HL67:=η (hrow.1)
        replace A:=Sw.rw A s p hrow
        clear s p hrow m58 H56
        go_wp2_with fail
        cases a68:(wl (q61)==[123]) with
        | false =>
         refine (expect_no A.o.pw (s:=⟨#[123]⟩) a68).mono ?_
         rintro _ W69 ⟨rfl,s⟩
         exact⟨rfl,Sw.bd A s (H60.o.trans (bd_bad (exp_f a68)))⟩
        | true =>
         have H70:=η (H60.o.trans (bd_ok (exp_t a68)))
         refine (expect_yes A.o.pw (s:=⟨#[123]⟩) a68 π).mono ?_
         rintro _ W69 ⟨rfl,s,p⟩
         replace A:=Sw.n A s p
         clear s p H60 a68
         go_wp2_with fail
         cases m71:listP [125] (setP c.e (exprP c.e n false)) n ((q61).tail) with
         | out=>exact absurd (H70.o.trans (bd_out m71)) HN.o
         | bad q74 =>
          refine (Said.bad (LS.o) A.o.pw m71).mono ?_
          rintro _ W72 ⟨rfl,s⟩
          exact⟨rfl,Sw.bd A s (H70.o.trans (bd_bad m71))⟩
         | ok x75 q74 =>
          obtain⟨H73,Z76,Y77,RL78⟩:=zd4 (H70.o.trans (bd_ok m71)) (Sw.ge A) (A.o.lo.2.2.2) (RowX.lt (Sw.now A).2)
          refine (Said.ok (LS.o) A.o.pw m71).mono ?_
          rintro _ W72 ⟨_,rfl,hrow,s,p⟩
          obtain⟨Ar79,cr80,rfl⟩:=hrow.form
          have HL81:=η (hrow.1)
          replace A:=Sw.rw A s p hrow
          clear s p hrow m71 H70
          obtain⟨_,_,xs86,ho,hr⟩:=(Sw.now A).1.2
          obtain⟨_,_,xs87,ho2,hr2⟩:=(Sw.now A).2
          obtain⟨HO82,HRW83,HO84,HRW85,RN91⟩:=zd5 ho hr ho2 hr2 (RowX.lt (Sw.now A).2)
          have CP95:=η ((RowX.cap (Sw.now A).1.2).2)
          have HL96:Hid (x62.length+x75.length≤4000000000):=(by have:=HL67.o;have:=HL81.o;show _≤_;omega)
          have hcs:=ho2.2
          clear ho hr ho2 hr2
          rcases hcs with ⟨e94,hz⟩|⟨g92,cap93,_,e94,_⟩
          · obtain rfl:x75=[]:=List.eq_nil_of_length_eq_zero hz
            have E97:=η e94
            clear e94 hz
            have H73:=η H73.o
            simp only[List.append_nil] at H73
            go_wp2_with (at_builtin;refine wpList_app_nil rfl (.tmp 50) (.tmp 54) rfl Ar65 (x62.length) cr66 rfl E97.o CP95.o ?_)
            refine (node_any _ _ _ _ _ _ _ _).mono ?_
            rintro _ W98 ⟨rfl,b⟩
            replace A:=Sw.bel A b
            clear b
            have E:=Sw.e A (k:=71) (s:=(wrd (((r).tail).tail))) (n:=0) (p:=(offP c.e (r))) (D:=Ar65) (l:=(x62.length)) (cap:=cr66) (a:=.mk 71 (wrd (((r).tail).tail)) 0 (offP c.e (r)) x62) fun X hx k=>NdR.of ⟨by unfold i64;omega,(by unfold i64;omega),TX2.o.2.2.2.2⟩ TS57.o (RowX.nds k.1.2 Z63.o)
            have O:=setRow_heap _ _ _ (cl 71 (wrd (((r).tail).tail)) 0 (offP c.e (r)) Ar65 (x62.length) cr66).toArray _ _ (A.o.bx rfl)
            go_wp2_with (refine wpList_store_row rfl 83 _ _ rfl w.heap.size (cl 71 (wrd (((r).tail).tail)) 0 (offP c.e (r)) Ar65 (x62.length) cr66).toArray rfl rfl 83 _ (A.o.bx rfl) Δ rfl (by simp[Value.oneCell']) ?_)
            exact bodyPost_ret (results_cell_row results95 _ _ w.heap.size 83 _ _ _ rfl O underlying83 rfl Δ) rfl (by rw[H73.o];exact E.o)
          · have E97:=η e94
            clear e94
            go_wp2_with (first|(at_builtin;refine wpList_append_own_at _ rfl (.tmp 50) (.tmp 54) 81 rfl W55.heap.size 83 io _ 5 64 underlying81 HIO.o.1 HIO.o.2.1 HIO.o.2.2.1 HIO.o.2.2.2 rfl π (.slice Ar65 (x62.length) cr66) (x62.length) xs86 rfl HO82.o ⟨g92,0,none⟩ x75.length cap93 xs87 E97.o HO84.o.1 (HO84.o.cells (by rw[E97.o];rfl)) (row_one HRW85.o) (by have:=HL67.o;have:=HL81.o;unfold maxLen;omega) (by have:=HL67.o;have:=HL81.o;omega) ((RowX.lt (Sw.now A).1.2).1) ?_;intro vv W90 hown hgrow hnil hvb;obtain⟨Ar88,cr89,rfl⟩:=row_form hown;replace A:=Sw.pushs A hgrow hvb hown (by simp) HRW83.o HRW85.o RL78.o Y64.o RN91.o.1;clear hown hgrow hnil hvb))
            refine (node_any _ _ _ _ _ _ _ _).mono ?_
            rintro _ W99 ⟨rfl,b⟩
            replace A:=Sw.bel A b
            clear b
            have E:=Sw.e A (k:=71) (s:=(wrd (((r).tail).tail))) (n:=0) (p:=(offP c.e (r))) (D:=Ar88) (l:=(x62.length+x75.length)) (cap:=cr89) (a:=.mk 71 (wrd (((r).tail).tail)) 0 (offP c.e (r)) (x62++x75)) fun X hx k=>NdR.of ⟨by unfold i64;omega,(by unfold i64;omega),TX2.o.2.2.2.2⟩ TS57.o (RowX.nds k Z63.o)
            have O:=setRow_heap _ _ _ (cl 71 (wrd (((r).tail).tail)) 0 (offP c.e (r)) Ar88 (x62.length+x75.length) cr89).toArray _ _ (A.o.bx rfl)
            go_wp2_with (refine wpList_store_row rfl 83 _ _ rfl w.heap.size (cl 71 (wrd (((r).tail).tail)) 0 (offP c.e (r)) Ar88 (x62.length+x75.length) cr89).toArray rfl rfl 83 _ (A.o.bx rfl) Δ rfl (by simp[Value.oneCell']) ?_)
            exact bodyPost_ret (results_cell_row results95 _ _ w.heap.size 83 _ _ _ rfl O underlying83 rfl Δ) rfl (by rw[H73.o];exact E.o)
     | false =>
      have H101:=η (H50.o.trans (acc_f a51))
      refine (accept_no A.o.pw (s:=⟨#[97,99,116,111,114]⟩) a51).mono ?_
      rintro _ W100 ⟨rfl,s,p⟩
      replace A:=Sw.n A s p
      clear s p H50 a51
      go_wp2_with fail
      cases a102:(wl ((r).tail)==[109,101,115,115,97,103,101]) with
      | false =>
       refine (expect_no A.o.pw (s:=⟨#[109,101,115,115,97,103,101]⟩) a102).mono ?_
       rintro _ W103 ⟨rfl,s⟩
       exact⟨rfl,Sw.bd A s (H101.o.trans (bd_bad (exp_f a102)))⟩
      | true =>
       have H104:=η (H101.o.trans (bd_ok (exp_t a102)))
       refine (expect_yes A.o.pw (s:=⟨#[109,101,115,115,97,103,101]⟩) a102 π).mono ?_
       rintro _ W103 ⟨rfl,s,p⟩
       replace A:=Sw.n A s p
       clear s p H101 a102
       go_wp2_with fail
       cases a105:uppB (wl (((r).tail).tail)) with
       | false =>
        refine (name_no A.o.pw p_uppB a105).mono ?_
        rintro _ W106 ⟨rfl,s⟩
        exact⟨rfl,Sw.bd A s (H104.o.trans (bd_bad (nam_f a105)))⟩
       | true =>
        have H107:=η (H104.o.trans (bd_ok (nam_t a105)))
        have TS108:=η (A.o.pw.tx.2.1)
        refine (name_yes A.o.pw p_uppB a105 (by rfl)).mono ?_
        rintro _ W106 ⟨rfl,s,p⟩
        replace A:=Sw.n A s p
        clear s p H104 a105
        go_wp2_with fail
        cases a109:(wl ((((r).tail).tail).tail)==[46]) with
        | false =>
         refine (expect_no A.o.pw (s:=⟨#[46]⟩) a109).mono ?_
         rintro _ W110 ⟨rfl,s⟩
         exact⟨rfl,Sw.bd A s (H107.o.trans (bd_bad (exp_f a109)))⟩
        | true =>
         have H111:=η (H107.o.trans (bd_ok (exp_t a109)))
         refine (expect_yes A.o.pw (s:=⟨#[46]⟩) a109 π).mono ?_
         rintro _ W110 ⟨rfl,s,p⟩
         replace A:=Sw.n A s p
         clear s p H107 a109
         go_wp2_with fail
         have TX113:=η (A.o.pw.tx)
         refine (offset_any A.o.pw).mono ?_
         rintro _ W112 ⟨rfl,b⟩
         replace A:=Sw.bel A b
         clear b
         go_wp2_with fail
         refine (node_any _ _ _ _ _ _ _ _).mono ?_
         rintro _ W114 ⟨rfl,b⟩
         replace A:=Sw.bel A b
         clear b
         obtain⟨Z117,Y118⟩:=zd2 (Sw.ge A) (A.o.lo.2.2.2)
         replace A:=Sw.al A (cl 24 e0 0 (offP c.e (((((r).tail).tail).tail).tail)) none 0 0).toArray
         go_wp2_with fail
         cases a119:msgB (wl (((((r).tail).tail).tail).tail)) with
         | false =>
          refine (name_no A.o.pw p_msgB a119).mono ?_
          rintro _ W120 ⟨rfl,s⟩
          exact⟨rfl,Sw.bd A s (H111.o.trans (bd_bad (nam_f a119)))⟩
         | true =>
          have H121:=η (H111.o.trans (bd_ok (nam_t a119)))
          have TS122:=η (A.o.pw.tx.2.1)
          refine (name_yes A.o.pw p_msgB a119 (by rfl)).mono ?_
          rintro _ W120 ⟨rfl,s,p⟩
          replace A:=Sw.n A s p
          clear s p H111 a119
          have HB:=η (Sw.now A).2
          have g1:=HB.o.c 1
          have f1:=HB.o.free 1
          have hs:=hs_put (i:=1) (v:=.string (wrd (((((r).tail).tail).tail).tail))) HB.o
          replace A:=Sw.setg (g:=W114.heap.size) (i:=1) (v:=.string (wrd (((((r).tail).tail).tail).tail))) A Y118.o (K2:=RowX W114.heap.size (.slice (some ⟨W114.heap.size,0,none⟩) 1 1) [(Nd.mk 24 (wrd (((((r).tail).tail).tail).tail)) 0 (offP c.e (((((r).tail).tail).tail).tail)) [])]) (fun X x=>RowX.leaf (Nat.le_refl _) (hs_agr hs x Y118.o) rfl (NdR.of ⟨by unfold i64;omega,by unfold i64;omega,TX113.o.2.2.2.2⟩ TS122.o kid0))
          clear hs
          obtain⟨W123,hW124⟩:∃W123,Hid (W123=W120.setCell ⟨W114.heap.size,1,none⟩ (.string (wrd (((((r).tail).tail).tail).tail)))):=⟨_,rfl⟩
          rw[←hW124.o] at A
          go_upto_region 21 with fail
          rw[←hW124.o]
          clear g1 f1 HB hW124
          have HL125:Hid (1≤1):=Nat.le_refl _
          go_wp2_with fail
          cases m126:fieldsP c.e n ((((((r).tail).tail).tail).tail).tail) with
          | out=>exact absurd (H121.o.trans (bd_out m126)) HN.o
          | bad q129 =>
           refine (Said.bad (FL.o) A.o.pw m126).mono ?_
           rintro _ W127 ⟨rfl,s⟩
           exact⟨rfl,Sw.bd A s (H121.o.trans (bd_bad m126))⟩
          | ok x130 q129 =>
           obtain⟨H128,Z131,Y132,RL133⟩:=zd4 (H121.o.trans (bd_ok m126)) (Sw.ge A) (A.o.lo.2.2.2) (RowX.lt (Sw.now A))
           refine (Said.ok (FL.o) A.o.pw m126).mono ?_
           rintro _ W127 ⟨_,rfl,hrow,s,p⟩
           obtain⟨Ar134,cr135,rfl⟩:=hrow.form
           have HL136:=η (hrow.1)
           replace A:=Sw.rw A s p hrow
           clear s p hrow m126 H121
           obtain⟨_,_,xs141,ho,hr⟩:=(Sw.now A).1
           obtain⟨_,_,xs142,ho2,hr2⟩:=(Sw.now A).2
           obtain⟨HO137,HRW138,HO139,HRW140,RN146⟩:=zd5 ho hr ho2 hr2 (RowX.lt (Sw.now A).2)
           have CP150:=η ((RowX.cap (Sw.now A).1).2)
           have HL151:Hid (1+x130.length≤4000000000):=(by have:=HL125.o;have:=HL136.o;show _≤_;omega)
           have hcs:=ho2.2
           clear ho hr ho2 hr2
           rcases hcs with ⟨e149,hz⟩|⟨g147,cap148,_,e149,_⟩
           · obtain rfl:x130=[]:=List.eq_nil_of_length_eq_zero hz
             have E152:=η e149
             clear e149 hz
             go_wp2_with (at_builtin;refine wpList_app_nil rfl (.tmp 72) (.tmp 74) rfl (some ⟨W114.heap.size,0,none⟩) (1) 1 rfl E152.o CP150.o ?_)
             cases a153:(wl (q129)==[61]) with
             | false =>
              refine (expect_no A.o.pw (s:=⟨#[61]⟩) a153).mono ?_
              rintro _ W154 ⟨rfl,s⟩
              exact⟨rfl,Sw.bd A s (H128.o.trans (bd_bad (exp_f a153)))⟩
             | true =>
              have H155:=η (H128.o.trans (bd_ok (exp_t a153)))
              refine (expect_yes A.o.pw (s:=⟨#[61]⟩) a153 π).mono ?_
              rintro _ W154 ⟨rfl,s,p⟩
              replace A:=Sw.n A s p
              clear s p H128 a153
              go_wp2_with fail
              have TX157:=η (A.o.pw.tx)
              refine (offset_any A.o.pw).mono ?_
              rintro _ W156 ⟨rfl,b⟩
              replace A:=Sw.bel A b
              clear b
              go_wp2_with fail
              refine (node_any _ _ _ _ _ _ _ _).mono ?_
              rintro _ W158 ⟨rfl,b⟩
              replace A:=Sw.bel A b
              clear b
              obtain⟨Z161,Y162⟩:=zd2 (Sw.ge A) (A.o.lo.2.2.2)
              have hro:=RowE.e (F:=(·=W158.heap.size)) (Sw.now A).1 (fun g e=>by rw[e];exact Nat.le_refl _)
              have RZ:=η (RowX.lt hro)
              replace A:=Sw.keep (K2:=RowE (·=W158.heap.size) W114.heap.size (.slice (some ⟨W114.heap.size,0,none⟩) 1 1) [(Nd.mk 24 (wrd (((((r).tail).tail).tail).tail)) 0 (offP c.e (((((r).tail).tail).tail).tail)) [])]) ⟨A.o.pw,A.o.st,A.o.lo,A.o.bx,fun X x=>RowX.to hro x Y118.o⟩ (fun _ k=>k)
              clear hro
              replace A:=Sw.al A (cl 75 e0 0 (offP c.e ((q129).tail)) none 0 0).toArray
              go_wp2_with fail
              cases a163:msgB (wl ((q129).tail)) with
              | false =>
               refine (name_no A.o.pw p_msgB a163).mono ?_
               rintro _ W164 ⟨rfl,s⟩
               exact⟨rfl,Sw.bd A s (H155.o.trans (bd_bad (nam_f a163)))⟩
              | true =>
               have H165:=η (H155.o.trans (bd_ok (nam_t a163)))
               have TS166:=η (A.o.pw.tx.2.1)
               refine (name_yes A.o.pw p_msgB a163 (by rfl)).mono ?_
               rintro _ W164 ⟨rfl,s,p⟩
               replace A:=Sw.n A s p
               clear s p H155 a163
               have g1:=(Sw.now A).2.c 1
               have f1:=(Sw.now A).2.free 1
               have hs:=hs_put (i:=1) (v:=.string (wrd ((q129).tail))) (Sw.now A).2
               have hr:=RowE.set (i:=1) (u:=.string (wrd ((q129).tail))) (Sw.now A).1 (show W158.heap.size=W158.heap.size from rfl)
               replace A:=Sw.setg (g:=W158.heap.size) (i:=1) (v:=.string (wrd ((q129).tail))) A Y162.o (K2:=fun X=>(RowE (·=W158.heap.size) W114.heap.size (.slice (some ⟨W114.heap.size,0,none⟩) 1 1) [(Nd.mk 24 (wrd (((((r).tail).tail).tail).tail)) 0 (offP c.e (((((r).tail).tail).tail).tail)) [])]) X∧Hs X W158.heap.size 83 (cl 75 (wrd ((q129).tail)) 0 (offP c.e ((q129).tail)) none 0 0).toArray) (fun X x=>⟨RowX.to hr x Y118.o,hs_agr hs x Y162.o⟩)
               obtain⟨W167,hW168⟩:∃W167,Hid (W167=W164.setCell ⟨W158.heap.size,1,none⟩ (.string (wrd ((q129).tail)))):=⟨_,rfl⟩
               rw[←hW168.o] at A
               go_upto_region 25 with fail
               rw[←hW168.o]
               clear g1 f1 hs hr hW168
               go_wp2_with fail
               cases m169:argsP (exprP c.e n false) n (((q129).tail).tail) with
               | out=>exact absurd (H165.o.trans (bd_out m169)) HN.o
               | bad q172 =>
                refine (Said.bad AR.o A.o.pw m169).mono ?_
                rintro _ W170 ⟨rfl,s⟩
                exact⟨rfl,Sw.bd A s (H165.o.trans (bd_bad m169))⟩
               | ok x173 q172 =>
                have H171:=η (H165.o.trans (bd_ok m169))
                have Y177:=η A.o.lo.2.2.2
                have ZG178:=η (Sw.now A).2.lt
                refine (Said.ok AR.o A.o.pw m169).mono ?_
                rintro _ W170 ⟨_,rfl,hrow,s,p⟩
                obtain⟨Ar174,cr175,rfl⟩:=hrow.form
                have HL176:=η hrow.1
                replace A:=Sw.rw A s p hrow
                clear s p hrow m169
                have g4:=(Sw.now A).1.2.c 4
                have f4:=(Sw.now A).1.2.free 4
                have hs:=hs_put (i:=4) (v:=.slice Ar174 x173.length cr175) (Sw.now A).1.2
                have hr:=RowE.set (i:=4) (u:=.slice Ar174 x173.length cr175) (Sw.now A).1.1 (show W158.heap.size=W158.heap.size from rfl)
                have hr2:=RowX.to (Sw.now A).2 (agr_set W170 W158.heap.size 4 (.slice Ar174 x173.length cr175) (n:=W167.heap.size) ZG178.o) (Nat.le_refl _)
                replace A:=Sw.setg (g:=W158.heap.size) (i:=4) (v:=.slice Ar174 x173.length cr175) A Y162.o (K2:=fun X=>((RowE (·=W158.heap.size) W114.heap.size (.slice (some ⟨W114.heap.size,0,none⟩) 1 1) [(Nd.mk 24 (wrd (((((r).tail).tail).tail).tail)) 0 (offP c.e (((((r).tail).tail).tail).tail)) [])]) X∧Hs X W158.heap.size 83 (cl 75 (wrd ((q129).tail)) 0 (offP c.e ((q129).tail)) Ar174 x173.length cr175).toArray)∧NdR X (nw W167.heap.size X) (cl 75 (wrd ((q129).tail)) 0 (offP c.e ((q129).tail)) Ar174 x173.length cr175) (Nd.mk 75 (wrd ((q129).tail)) 0 (offP c.e ((q129).tail)) x173)) (fun X y=>⟨⟨RowX.to hr y Y118.o,hs_agr hs y Y162.o⟩,NdR.of ⟨by unfold i64;omega,by unfold i64;omega,TX157.o.2.2.2.2⟩ TS166.o (RowX.nds (RowX.to hr2 y Y177.o) (Nat.le_refl _))⟩)
                obtain⟨W179,hW180⟩:∃W179,Hid (W179=W170.setCell ⟨W158.heap.size,4,none⟩ (.slice Ar174 x173.length cr175)):=⟨_,rfl⟩
                rw[←hW180.o] at A
                go_upto_region 26 with fail
                rw[←hW180.o]
                clear g4 f4 hs hr hr2 hW180
                obtain⟨_,_,xs,ho,hr⟩:=(Sw.now A).1.1
                simp only[List.length_append,List.length_cons,List.length_nil,Nat.zero_add] at ho
                obtain⟨HO,HRW⟩:=zd2 ho hr
                have HD:=η (Sw.now A).2
                have HBB:=η (Sw.now A).1.2
                clear ho hr
                have HGN:Hid (∀g,(Value.slice (some ⟨W114.heap.size,0,none⟩) (1) 1).ownBlock=some g→g<W158.heap.size):=fun g e=>(RZ.o.2 g e).2
                have HLW:=η (Sw.now A).1.2.lt
                have HM:Hid (W114.heap.size≤W167.heap.size∧∀g,(Value.slice (some ⟨W114.heap.size,0,none⟩) (1) 1).ownBlock=some g→W114.heap.size≤g∧g<W167.heap.size):=⟨by have:=RZ.o.1;have:=ZG178.o;omega,fun g e=>⟨(RZ.o.2 g e).1,by have:=(RZ.o.2 g e).2;have:=ZG178.o;omega⟩⟩
                go_wp2_with (first|(refine lr5 HBB ?_)|(at_builtin;refine wpList_append_own_at _ rfl (.tmp 89) (.tmp 91) 81 rfl W114.heap.size 83 io _ 5 64 underlying81 HIO.o.1 HIO.o.2.1 HIO.o.2.2.1 HIO.o.2.2.2 rfl π (.slice (some ⟨W114.heap.size,0,none⟩) (1) 1) (1) xs rfl (row_al HO.o _) ⟨W179.heap.size,0,none⟩ 1 1 (cl 75 (wrd ((q129).tail)) 0 (offP c.e ((q129).tail)) Ar174 x173.length cr175) rfl rfl (World.news_of_block (Hs.new _ _ _)) (by intro u hu;simp at hu;repeat (first|(subst hu;rfl)|(rcases hu with rfl|hu;rfl))) (by have:=HL125.o;unfold maxLen;omega) (by have:=HL125.o;omega) (sz_al ((RowX.lt (Sw.now A).1.1).1) _) ?_;intro vv W181 hown hgrow hnil hvb;obtain⟨A6,c6,rfl⟩:=row_form hown;replace A:=Sw.push A hgrow hvb hown (by simp<;>omega) HRW.o HD.o rfl HM.o Y118.o (fun b e=>by have e:b=W158.heap.size:=e;have:=ZG178.o;have:=HLW.o;omega) (fun g e x=>by have x:g=W158.heap.size:=x;have:=HGN.o g e;omega);clear hown hgrow hnil hvb))
                go_wp2_with fail
                refine (node_any _ _ _ _ _ _ _ _).mono ?_
                rintro _ W182 ⟨rfl,b⟩
                replace A:=Sw.bel A b
                clear b
                have E:=Sw.e A (k:=72) (s:=(wrd (((r).tail).tail))) (n:=0) (p:=(offP c.e (r))) (D:=A6) (l:=(1+1)) (cap:=c6) (a:=.mk 72 (wrd (((r).tail).tail)) 0 (offP c.e (r)) ([(Nd.mk 24 (wrd (((((r).tail).tail).tail).tail)) 0 (offP c.e (((((r).tail).tail).tail).tail)) [])]++[(Nd.mk 75 (wrd ((q129).tail)) 0 (offP c.e ((q129).tail)) x173)])) fun X hx k=>NdR.of ⟨by unfold i64;omega,(by unfold i64;omega),TX2.o.2.2.2.2⟩ TS108.o (RowX.nds k Z117.o)
                have O:=setRow_heap _ _ _ (cl 72 (wrd (((r).tail).tail)) 0 (offP c.e (r)) A6 (1+1) c6).toArray _ _ (A.o.bx rfl)
                go_wp2_with (refine wpList_store_row rfl 83 _ _ rfl w.heap.size (cl 72 (wrd (((r).tail).tail)) 0 (offP c.e (r)) A6 (1+1) c6).toArray rfl rfl 83 _ (A.o.bx rfl) Δ rfl (by simp[Value.oneCell']) ?_)
                exact bodyPost_ret (results_cell_row results95 _ _ w.heap.size 83 _ _ _ rfl O underlying83 rfl Δ) rfl (by rw[H171.o];exact E.o)
           · have E152:=η e149
             clear e149
             go_wp2_with (first|(at_builtin;refine wpList_append_own_at _ rfl (.tmp 72) (.tmp 74) 81 rfl W114.heap.size 83 io _ 5 64 underlying81 HIO.o.1 HIO.o.2.1 HIO.o.2.2.1 HIO.o.2.2.2 rfl π (.slice (some ⟨W114.heap.size,0,none⟩) (1) 1) (1) xs141 rfl HO137.o ⟨g147,0,none⟩ x130.length cap148 xs142 E152.o HO139.o.1 (HO139.o.cells (by rw[E152.o];rfl)) (row_one HRW140.o) (by have:=HL125.o;have:=HL136.o;unfold maxLen;omega) (by have:=HL125.o;have:=HL136.o;omega) ((RowX.lt (Sw.now A).1).1) ?_;intro vv W145 hown hgrow hnil hvb;obtain⟨Ar143,cr144,rfl⟩:=row_form hown;replace A:=Sw.pushs A hgrow hvb hown (by simp) HRW138.o HRW140.o RL133.o Y118.o RN146.o.1;clear hown hgrow hnil hvb))
             cases a183:(wl (q129)==[61]) with
             | false =>
              refine (expect_no A.o.pw (s:=⟨#[61]⟩) a183).mono ?_
              rintro _ W184 ⟨rfl,s⟩
              exact⟨rfl,Sw.bd A s (H128.o.trans (bd_bad (exp_f a183)))⟩
             | true =>
              have H185:=η (H128.o.trans (bd_ok (exp_t a183)))
              refine (expect_yes A.o.pw (s:=⟨#[61]⟩) a183 π).mono ?_
              rintro _ W184 ⟨rfl,s,p⟩
              replace A:=Sw.n A s p
              clear s p H128 a183
              go_wp2_with fail
              have TX187:=η (A.o.pw.tx)
              refine (offset_any A.o.pw).mono ?_
              rintro _ W186 ⟨rfl,b⟩
              replace A:=Sw.bel A b
              clear b
              go_wp2_with fail
              refine (node_any _ _ _ _ _ _ _ _).mono ?_
              rintro _ W188 ⟨rfl,b⟩
              replace A:=Sw.bel A b
              clear b
              obtain⟨Z191,Y192⟩:=zd2 (Sw.ge A) (A.o.lo.2.2.2)
              have hro:=RowE.e (F:=(·=W188.heap.size)) (Sw.now A) (fun g e=>by rw[e];exact Nat.le_refl _)
              have RZ:=η (RowX.lt hro)
              replace A:=Sw.keep (K2:=RowE (·=W188.heap.size) W114.heap.size (.slice Ar143 (1+x130.length) cr144) ([(Nd.mk 24 (wrd (((((r).tail).tail).tail).tail)) 0 (offP c.e (((((r).tail).tail).tail).tail)) [])]++x130)) ⟨A.o.pw,A.o.st,A.o.lo,A.o.bx,fun X x=>RowX.to hro x Y118.o⟩ (fun _ k=>k)
              clear hro
              replace A:=Sw.al A (cl 75 e0 0 (offP c.e ((q129).tail)) none 0 0).toArray
              go_wp2_with fail
              cases a193:msgB (wl ((q129).tail)) with
              | false =>
               refine (name_no A.o.pw p_msgB a193).mono ?_
               rintro _ W194 ⟨rfl,s⟩
               exact⟨rfl,Sw.bd A s (H185.o.trans (bd_bad (nam_f a193)))⟩
              | true =>
               have H195:=η (H185.o.trans (bd_ok (nam_t a193)))
               have TS196:=η (A.o.pw.tx.2.1)
               refine (name_yes A.o.pw p_msgB a193 (by rfl)).mono ?_
               rintro _ W194 ⟨rfl,s,p⟩
               replace A:=Sw.n A s p
               clear s p H185 a193
               have g1:=(Sw.now A).2.c 1
               have f1:=(Sw.now A).2.free 1
               have hs:=hs_put (i:=1) (v:=.string (wrd ((q129).tail))) (Sw.now A).2
               have hr:=RowE.set (i:=1) (u:=.string (wrd ((q129).tail))) (Sw.now A).1 (show W188.heap.size=W188.heap.size from rfl)
               replace A:=Sw.setg (g:=W188.heap.size) (i:=1) (v:=.string (wrd ((q129).tail))) A Y192.o (K2:=fun X=>(RowE (·=W188.heap.size) W114.heap.size (.slice Ar143 (1+x130.length) cr144) ([(Nd.mk 24 (wrd (((((r).tail).tail).tail).tail)) 0 (offP c.e (((((r).tail).tail).tail).tail)) [])]++x130)) X∧Hs X W188.heap.size 83 (cl 75 (wrd ((q129).tail)) 0 (offP c.e ((q129).tail)) none 0 0).toArray) (fun X x=>⟨RowX.to hr x Y118.o,hs_agr hs x Y192.o⟩)
               obtain⟨W197,hW198⟩:∃W197,Hid (W197=W194.setCell ⟨W188.heap.size,1,none⟩ (.string (wrd ((q129).tail)))):=⟨_,rfl⟩
               rw[←hW198.o] at A
               go_upto_region 25 with fail
               rw[←hW198.o]
               clear g1 f1 hs hr hW198
               go_wp2_with fail
               cases m199:argsP (exprP c.e n false) n (((q129).tail).tail) with
               | out=>exact absurd (H195.o.trans (bd_out m199)) HN.o
               | bad q202 =>
                refine (Said.bad AR.o A.o.pw m199).mono ?_
                rintro _ W200 ⟨rfl,s⟩
                exact⟨rfl,Sw.bd A s (H195.o.trans (bd_bad m199))⟩
               | ok x203 q202 =>
                have H201:=η (H195.o.trans (bd_ok m199))
                have Y207:=η A.o.lo.2.2.2
                have ZG208:=η (Sw.now A).2.lt
                refine (Said.ok AR.o A.o.pw m199).mono ?_
                rintro _ W200 ⟨_,rfl,hrow,s,p⟩
                obtain⟨Ar204,cr205,rfl⟩:=hrow.form
                have HL206:=η hrow.1
                replace A:=Sw.rw A s p hrow
                clear s p hrow m199
                have g4:=(Sw.now A).1.2.c 4
                have f4:=(Sw.now A).1.2.free 4
                have hs:=hs_put (i:=4) (v:=.slice Ar204 x203.length cr205) (Sw.now A).1.2
                have hr:=RowE.set (i:=4) (u:=.slice Ar204 x203.length cr205) (Sw.now A).1.1 (show W188.heap.size=W188.heap.size from rfl)
                have hr2:=RowX.to (Sw.now A).2 (agr_set W200 W188.heap.size 4 (.slice Ar204 x203.length cr205) (n:=W197.heap.size) ZG208.o) (Nat.le_refl _)
                replace A:=Sw.setg (g:=W188.heap.size) (i:=4) (v:=.slice Ar204 x203.length cr205) A Y192.o (K2:=fun X=>((RowE (·=W188.heap.size) W114.heap.size (.slice Ar143 (1+x130.length) cr144) ([(Nd.mk 24 (wrd (((((r).tail).tail).tail).tail)) 0 (offP c.e (((((r).tail).tail).tail).tail)) [])]++x130)) X∧Hs X W188.heap.size 83 (cl 75 (wrd ((q129).tail)) 0 (offP c.e ((q129).tail)) Ar204 x203.length cr205).toArray)∧NdR X (nw W197.heap.size X) (cl 75 (wrd ((q129).tail)) 0 (offP c.e ((q129).tail)) Ar204 x203.length cr205) (Nd.mk 75 (wrd ((q129).tail)) 0 (offP c.e ((q129).tail)) x203)) (fun X y=>⟨⟨RowX.to hr y Y118.o,hs_agr hs y Y192.o⟩,NdR.of ⟨by unfold i64;omega,by unfold i64;omega,TX187.o.2.2.2.2⟩ TS196.o (RowX.nds (RowX.to hr2 y Y207.o) (Nat.le_refl _))⟩)
                obtain⟨W209,hW210⟩:∃W209,Hid (W209=W200.setCell ⟨W188.heap.size,4,none⟩ (.slice Ar204 x203.length cr205)):=⟨_,rfl⟩
                rw[←hW210.o] at A
                go_upto_region 26 with fail
                rw[←hW210.o]
                clear g4 f4 hs hr hr2 hW210
                obtain⟨_,_,xs,ho,hr⟩:=(Sw.now A).1.1
                simp only[List.length_append,List.length_cons,List.length_nil,Nat.zero_add] at ho
                obtain⟨HO,HRW⟩:=zd2 ho hr
                have HD:=η (Sw.now A).2
                have HBB:=η (Sw.now A).1.2
                clear ho hr
                have HGN:Hid (∀g,(Value.slice Ar143 (1+x130.length) cr144).ownBlock=some g→g<W188.heap.size):=fun g e=>(RZ.o.2 g e).2
                have HLW:=η (Sw.now A).1.2.lt
                have HM:Hid (W114.heap.size≤W197.heap.size∧∀g,(Value.slice Ar143 (1+x130.length) cr144).ownBlock=some g→W114.heap.size≤g∧g<W197.heap.size):=⟨by have:=RZ.o.1;have:=ZG208.o;omega,fun g e=>⟨(RZ.o.2 g e).1,by have:=(RZ.o.2 g e).2;have:=ZG208.o;omega⟩⟩
                go_wp2_with (first|(refine lr5 HBB ?_)|(at_builtin;refine wpList_append_own_at _ rfl (.tmp 89) (.tmp 91) 81 rfl W114.heap.size 83 io _ 5 64 underlying81 HIO.o.1 HIO.o.2.1 HIO.o.2.2.1 HIO.o.2.2.2 rfl π (.slice Ar143 (1+x130.length) cr144) (1+x130.length) xs rfl (row_al HO.o _) ⟨W209.heap.size,0,none⟩ 1 1 (cl 75 (wrd ((q129).tail)) 0 (offP c.e ((q129).tail)) Ar204 x203.length cr205) rfl rfl (World.news_of_block (Hs.new _ _ _)) (by intro u hu;simp at hu;repeat (first|(subst hu;rfl)|(rcases hu with rfl|hu;rfl))) (by have:=HL151.o;unfold maxLen;omega) (by have:=HL151.o;omega) (sz_al ((RowX.lt (Sw.now A).1.1).1) _) ?_;intro vv W211 hown hgrow hnil hvb;obtain⟨A6,c6,rfl⟩:=row_form hown;replace A:=Sw.push A hgrow hvb hown (by simp<;>omega) HRW.o HD.o rfl HM.o Y118.o (fun b e=>by have e:b=W188.heap.size:=e;have:=ZG208.o;have:=HLW.o;omega) (fun g e x=>by have x:g=W188.heap.size:=x;have:=HGN.o g e;omega);clear hown hgrow hnil hvb))
                go_wp2_with fail
                refine (node_any _ _ _ _ _ _ _ _).mono ?_
                rintro _ W212 ⟨rfl,b⟩
                replace A:=Sw.bel A b
                clear b
                have E:=Sw.e A (k:=72) (s:=(wrd (((r).tail).tail))) (n:=0) (p:=(offP c.e (r))) (D:=A6) (l:=(1+x130.length+1)) (cap:=c6) (a:=.mk 72 (wrd (((r).tail).tail)) 0 (offP c.e (r)) (([(Nd.mk 24 (wrd (((((r).tail).tail).tail).tail)) 0 (offP c.e (((((r).tail).tail).tail).tail)) [])]++x130)++[(Nd.mk 75 (wrd ((q129).tail)) 0 (offP c.e ((q129).tail)) x203)])) fun X hx k=>NdR.of ⟨by unfold i64;omega,(by unfold i64;omega),TX2.o.2.2.2.2⟩ TS108.o (RowX.nds k Z117.o)
                have O:=setRow_heap _ _ _ (cl 72 (wrd (((r).tail).tail)) 0 (offP c.e (r)) A6 (1+x130.length+1) c6).toArray _ _ (A.o.bx rfl)
                go_wp2_with (refine wpList_store_row rfl 83 _ _ rfl w.heap.size (cl 72 (wrd (((r).tail).tail)) 0 (offP c.e (r)) A6 (1+x130.length+1) c6).toArray rfl rfl 83 _ (A.o.bx rfl) Δ rfl (by simp[Value.oneCell']) ?_)
                exact bodyPost_ret (results_cell_row results95 _ _ w.heap.size 83 _ _ _ rfl O underlying83 rfl Δ) rfl (by rw[H201.o];exact E.o)
end Go.Proofs.YtbmknjfgjphfbaaGreatDoor
