import Derived.Test.YtbjdcogmiggamaaGreatDoorB41
set_option linter.all false
namespace Go.Proofs.YtbjdcogmiggamaaGreatDoor
open Proofs.Tryz RowKit Maps WideMaps ChangeMaps
set_option maxRecDepth 100000
set_option maxHeartbeats 8000000
theorem bld_lt {B b:Nat} {bs:List Value} {w:À} (h:Lib.IsBuilder 66 5 B b bs w):b<w.heap.size:=by
 rcases h with ⟨_,v,hb,_⟩|⟨_,v,hb,_⟩<;>exact (Array.getElem?_eq_some_iff.1 hb).1
theorem bld_keep {B b:Nat} {bs:List Value} {w w':À} (h:Lib.IsBuilder 66 5 B b bs w) (hb:Below w.heap.size w w'):Lib.IsBuilder 66 5 B b bs w':=by
 have one:∀p,Lib.BuilderAt 66 5 B b p bs w→Lib.BuilderAt 66 5 B b p bs w':=by
  rintro p ⟨hB,v,hbk,hown,hne⟩
  refine⟨hB,v,(hb.block b (Array.getElem?_eq_some_iff.1 hbk).1).trans hbk,⟨hown.1,?_⟩,hne⟩
  rcases hown.2 with hn|⟨g,cap,cur,rfl,hbg,hgg,rest⟩
  · exact .inl hn
  · exact .inr ⟨g,cap,cur,rfl,hbg,(hb.block g (Array.getElem?_eq_some_iff.1 hgg).1).trans hgg,rest⟩
 rcases h with h|h
 · exact .inl (one _ h)
 · exact .inr (one _ h)
theorem writeByteK_any (B b:Nat) (l:List UInt8) (c:UInt8) (w:À) (h:Lib.IsBuilder 66 5 B b (Lib.byteCells l) w) (hlen:l.length+1≤140737488355328) (hBw:B≤w.heap.size) :
 Calls prog 44 #[.pointer (some ⟨b,0,none⟩),.int .u8 (c.toNat:Int)] w fun e w'=>e=.returned .nilIface∧(Lib.IsBuilder 66 5 B b (Lib.byteCells (l++[c])) w'∧Below B w w'∧Lib.OthersKept 5 (some b) w w'):=by
 obtain⟨i0,hi,hz0,hz1,hz2⟩:=info_parts Tryz.info5
 have hcl:(Lib.byteCells l).length=l.length:=Lib.byteCells_length l
 have HCL:=η hcl
 clear hcl
 go_in
 go_wp2_with (go_at_call 87;refine (copyCheck_any B b _ _ h).mono ?_)
 rintro e w1 ⟨rfl,h1,hb1,hk1⟩
 obtain⟨hB,v,hbk,hown,hne⟩:=h1
 have c0:w1.cell? ⟨b,0,none⟩=some (.pointer (some ⟨b,0,none⟩)):=by rw[Lib.cell_of_heap hbk];rfl
 have c1:w1.cell? ⟨b,1,none⟩=some v:=by rw[Lib.cell_of_heap hbk];rfl
 obtain⟨HOW,HB1,HBK,HK1,HNE⟩:=zd5 hown hb1 hbk hk1 hne
 clear hown hb1 hk1 hne hbk
 go_wp2_with (at_builtin;refine wpList_append_own_at _ rfl (.tmp 11) (.tmp 13) 64 rfl B 5 i0 _ 1 1 underlying64 hi hz0 hz1 hz2 rfl π v (Lib.byteCells l).length (Lib.byteCells l) rfl (row_al HOW.o _) ⟨w1.heap.size,0,none⟩ 1 1 [.int .u8 (c.toNat:Int)] rfl rfl byte_row (by intro u hu;simp at hu;subst hu;rfl) ?c3 ?c4 ?c5 ?_)
 case c3=>rw[HCL.o];unfold maxLen;omega
 case c4=>rw[HCL.o];omega
 case c5=>have:=HB1.o.size;simp;omega
 intro v' w2 hown' hgrow _ _
 have hbk:=HBK.o
 have hlt:b<w1.heap.size:=(Array.getElem?_eq_some_iff.1 hbk).1
 have hb2:w2.heap[b]?=some (.cells #[.pointer (some ⟨b,0,none⟩),v] 66 (0,0)):=by
  rw[hgrow.block b (by simp;omega) (fun e=>HNE.o e.symm),Below.heap_alloc _ _ _ hlt]
  exact hbk
 have d0:w2.cell? ⟨b,0,none⟩=some (.pointer (some ⟨b,0,none⟩)):=by rw[Lib.cell_of_heap hb2];rfl
 have d1:w2.cell? ⟨b,1,none⟩=some v:=by rw[Lib.cell_of_heap hb2];rfl
 have f1:w2.frozen? ⟨b,1,none⟩=false:=Lib.frozen_of_heap hb2 1
 obtain⟨ao,n',cap,rfl⟩:∃ao n' cap,v'=.slice ao n' cap:=by
  rcases hown'.2 with ⟨hv,_⟩|⟨g,cap,cur,hv,_⟩
  · exact⟨_,_,_,hv⟩
  · exact⟨_,_,_,hv⟩
 go_wp2
 go_ret
 refine⟨rfl,.inr ?_,?_,((HK1.o.alloc _).grown hgrow (row_kind (row_al HOW.o _))).setCell ⟨b,1,none⟩ rfl _⟩
 · exact Lib.BuilderAt.put (T:=66) (e:=5) hB hb2 (bs':=Lib.byteCells (l++[c])) (by rw[Lib.byteCells_append,List.length_append];exact hown') π
 · exact ((HB1.o.alloc (by have:=HB1.o.size;omega) _).grown hgrow (by have:=HB1.o.size;simp;omega) (fun k hk=>(HOW.o.lt k hk).1)).setCell (p:=⟨b,1,none⟩) hB _
theorem write_any (ts:List Tk) (A:Option Addr) (cap:Nat) (w:À) (h:SlR w (lo w) 4 TkW (.slice A ts.length cap) ts) (ht:Tab w) (hl:(wTks ts).length+8194≤140737488355328) :
 Calls prog 23 #[.slice A ts.length cap] w fun e w'=>e=.returned (.string ⟨(writeL ts).toArray⟩)∧Below w.heap.size w w':=by
 obtain⟨HL,HT,HB⟩:=zd3 h ht hl
 have lm:ts.length≤9223372036854775807:=h.len.2
 obtain⟨W1,hW1⟩:∃q,Hid (q=w.alloc (.cells #[.pointer none,.slice none 0 0] 66)):=⟨_,rfl⟩
 have B1:Hid (Below w.heap.size w W1):=by show Below _ _ _;rw[hW1.o];exact belA (belR _) _
 have X1:Hid (Lib.IsBuilder 66 5 w.heap.size w.heap.size (Lib.byteCells []) W1):=by show Lib.IsBuilder _ _ _ _ _ _;rw[hW1.o];exact bld_new _
 clear h ht hl
 go_in
 go_upto_region 2 with fail
 rw[←hW1.o]
 clear hW1
 go_wp2_with fail
 go_loopw [8] (fun i wr=>∃(j:Nat) (a:List UInt8),j≤ts.length∧i=.int .i64 j∧Hid (∀q (h:q<ts.length),q<j→tokB ts[q]=true)∧Hid (a++restW ts j=wTks ts)∧Hid (Below w.heap.size w wr)∧Hid (Lib.IsBuilder 66 5 w.heap.size w.heap.size (Lib.byteCells a) wr)) (fun i _=>ts.length-(intOf i).toNat)
 case atStart=>exact⟨0,[],by omega,rfl,η (fun q _ h=>absurd h (Nat.not_lt_zero _)),η (by unfold restW;rfl),B1.o,X1.o⟩
 case round =>
  obtain⟨j,a,hj,rfl,HQ,HA,HW,HX⟩:=hrel
  have HWS0:Hid (w.heap.size<wr.heap.size):=bld_lt HX.o
  by_cases hlt:j<ts.length
  · have u1:decide ((j:Int)<(ts.length:Int))=true:=decide_eq_true ω
    obtain⟨g,off,cs,rfl,hg,hr,_,hc⟩:=SlR.at (SlR.to' HL.o (sub_lo HW.o) fun _ _ x=>x) hlt
    obtain⟨rfl,hsz⟩:=hr
    have e0:=hc 0 _ rfl
    have e1:=hc 1 _ rfl
    have e2:=hc 2 _ rfl
    have e3:=hc 3 _ rfl
    have SZ:=η hsz
    have j0:(0:Int)≤(j:Int):=by omega
    have j1:(j:Int)<(ts.length:Int):=by omega
    simp only[Nat.add_zero] at e0
    clear hc hg hsz
    have BX:Hid (Hs (wr.alloc (.cells (tkc ts[j].kind ts[j].text ts[j].n ts[j].pos) 42)) wr.heap.size 42 (tkc ts[j].kind ts[j].text ts[j].n ts[j].pos)):=Hs.new _ _ _
    have BW:Hid (Below wr.heap.size wr (wr.alloc (.cells (tkc ts[j].kind ts[j].text ts[j].n ts[j].pos) 42))):=belA (belR _) _
    obtain⟨W2,hW2⟩:∃q,Hid (q=wr.alloc (.cells (tkc ts[j].kind ts[j].text ts[j].n ts[j].pos) 42)):=⟨_,η rfl⟩
    rw[←hW2.o] at BX BW
    go_upto_region 5 with fail
    rw[←hW2.o]
    obtain⟨BL,B2⟩:=zd2 (bld_keep HX.o BW.o) (bel HW.o BW.o)
    clear hW2 e0 e1 e2 e3
    cases hb:tokB ts[j] with
    | false =>
     obtain⟨HN,HH⟩:=zd2 (writeL_bad hlt hb) hb
     clear hb
     go_wp2_with (first|(refine wpList_load_row rfl 42 _ rfl wr.heap.size rfl 42 _ _ _ BX.o underlying42 rfl Δ ?_)|(go_at_call 43;refine (right_any ts[j] _ SZ.o).mono ?_;rw[HH.o];rintro _ w3 ⟨rfl,hb3⟩))
     go_ret
     exact⟨by rw[HN.o];rfl,bel B2.o hb3⟩
    | true =>
     have HH:=η hb
     have HQ2:Hid (∀q (h:q<ts.length),q<j+1→tokB ts[q]=true):=η (fun q h k=>if e:q=j then by subst e;exact hb else HQ.o q h ω)
     clear hb
     go_upto_region 7 with (first|(refine wpList_load_row rfl 42 _ rfl wr.heap.size rfl 42 _ _ _ BX.o underlying42 rfl Δ ?_)|(go_at_call 43;refine (right_any ts[j] _ SZ.o).mono ?_;rw[HH.o];rintro _ w3 ⟨rfl,hb3⟩))
     have BX3:=η (hs_bel BX.o hb3);have BL3:=η (bld_keep BL.o hb3);have B3:=η (bel B2.o hb3);have HT3:=η (HT.o.keep B3.o)
     have HTKB:=η HH.o
     have HLT:Hid True:=trivial
     have HWS:Hid (w.heap.size<wr.heap.size):=HWS0
     clear hb3
     by_cases hz:j=0
     · have u2:decide ((0:Int)<(j:Int))=false:=decide_eq_false ω
       have u3:decide (0<j)=false:=decide_eq_false ω
       have HA2:Hid (a++(wTk ts[j]++restW ts (j+1))=wTks ts):=by
        subst hz
        exact (congrArg (a++·) (restW_zero hlt)).symm.trans HA.o
       replace hz:=η hz
       generalize hts:ts[j]=tk at HA2 BX3 HH HTKB SZ HLT ⊢
       obtain⟨kk,s,nn,pp⟩:=tk
       clear hts
       have y0:w3.cell? ⟨wr.heap.size,0,none⟩=some (.int .i64 kk):=BX3.o.c 0
       have y1:w3.cell? ⟨wr.heap.size,1,none⟩=some (.string s):=BX3.o.c 1
       have y2:w3.cell? ⟨wr.heap.size,2,none⟩=some (.int .i64 nn):=BX3.o.c 2
       have HLE:Hid ((a).length+(wTk ⟨kk,s,nn,pp⟩).length≤(wTks ts).length):=by
        show _≤_
        rw[←HA2.o];simp only[List.length_append];omega
       by_cases k2:kk=2
       · subst k2
         have hbd:0≤nn∧nn≤9007199254740992:=by
          have h:=HTKB.o
          unfold tokB at h
          simp only[if_true,Bool.and_eq_true,decide_eq_true_eq] at h
          rw[if_neg π] at h
          simp only[Bool.and_eq_true,decide_eq_true_eq] at h
          exact⟨h.1.2,h.2⟩
         have HBD:=η hbd
         clear hbd
         have HWT:Hid (wTk ⟨2,s,nn,pp⟩=Lib.itoa nn):=rfl
         go_wp2_with fail
         refine (text_any nn (by have:=HBD.o;omega) (by have:=HBD.o;omega) _ HT3.o).mono ?_
         rintro _ w5 ⟨rfl,hb5⟩
         have HB5:=η hb5
         clear hb5
         go_wp2_with fail
         refine (writeString_any w.heap.size w.heap.size (a) (str (Lib.itoa nn)) w5 (bld_keep BL3.o HB5.o) (by have h1:=HLE.o;have h2:=HB.o;have h3:(str (Lib.itoa nn)).size=(Lib.itoa nn).length:=by { unfold str;exact List.size_toArray };rw[HWT.o] at h1;omega) (bel B3.o HB5.o).size).mono ?_
         rintro _ w6 ⟨rfl,h6⟩
         have H6:=η h6
         clear h6 y0 y1 y2
         go_wp2_with fail
         exact⟨⟨j+1,(a)++Lib.itoa nn,by omega,by go_num,HQ2,η (by rw[←HA2.o,HWT.o,List.append_assoc]),η ((bel B3.o HB5.o).trans H6.o.2.1),η (by have h:=H6.o.1;rw[show (str (Lib.itoa nn)).data.toList=Lib.itoa nn from by unfold str;simp] at h;exact h)⟩,by simp[intOf];omega⟩
       · have v2:(kk==2)=false:=beq_eq_false_iff_ne.2 k2
         by_cases k3:kk=3
         · subst k3
           have HWT:Hid (wTk ⟨3,s,nn,pp⟩=quoteL s.data.toList):=rfl
           have HS4:Hid (s.size≤4096):=by
            have h:=HTKB.o
            unfold tokB at h
            simp only at h
            rw[if_neg π,if_neg π,if_pos π,Bool.and_eq_true,decide_eq_true_eq] at h
            exact h.1
           replace k2:=η k2
           go_wp2_with fail
           refine (quote_any w.heap.size w.heap.size (a) s _ BL3.o (by have h1:=HLE.o;have h2:=HB.o;have h3:=HS4.o;omega) B3.o.size).mono ?_
           rintro _ w6 ⟨rfl,h6⟩
           have H6:=η h6
           clear h6 y0 y1 y2
           go_wp2_with fail
           exact⟨⟨j+1,(a)++quoteL s.data.toList,by omega,by go_num,HQ2,η (by rw[←HA2.o,HWT.o,List.append_assoc]),η (B3.o.trans H6.o.2),η H6.o.1⟩,by simp[intOf];omega⟩
         · have v3:(kk==3)=false:=beq_eq_false_iff_ne.2 k3
           have HWT:Hid (wTk ⟨kk,s,nn,pp⟩=s.data.toList):=by
            show _=_
            unfold wTk
            simp only
            rw[if_neg k2,if_neg k3]
           replace k2:=η k2
           replace k3:=η k3
           go_wp2_with fail
           refine (writeString_any w.heap.size w.heap.size (a) s _ BL3.o (by have h1:=HLE.o;have h2:=HB.o;have h3:s.size=s.data.toList.length:=by { rw[Array.length_toList];rfl };rw[HWT.o] at h1;omega) B3.o.size).mono ?_
           rintro _ w6 ⟨rfl,h6⟩
           have H6:=η h6
           clear h6 y0 y1 y2
           go_wp2_with fail
           exact⟨⟨j+1,(a)++s.data.toList,by omega,by go_num,HQ2,η (by rw[←HA2.o,HWT.o,List.append_assoc]),η (B3.o.trans H6.o.2.1),η H6.o.1⟩,by simp[intOf];omega⟩
     · have u2:decide ((0:Int)<(j:Int))=true:=decide_eq_true ω
       have u3:decide (0<j)=true:=decide_eq_true ω
       have HA2:Hid ((a++[32])++(wTk ts[j]++restW ts (j+1))=wTks ts):=by
        show _=_
        rw[←HA.o,restW_more hlt ω,List.append_assoc];rfl
       replace hz:=η hz
       go_wp2_with fail
       refine (writeByteK_any w.heap.size w.heap.size a 32 w3 BL3.o (by have h1:=HA2.o;have h2:=HB.o;have h3:=congrArg List.length h1;simp only[List.length_append,List.length_cons,List.length_nil] at h3;omega) B3.o.size).mono ?_
       rintro _ w4 ⟨rfl,h4,h5,h6⟩
       have BX4:Hid (Hs w4 wr.heap.size 42 (tkc ts[j].kind ts[j].text ts[j].n ts[j].pos)):=h6 _ _ BX3.o (by intro e;injection e with e;have:=HWS.o;omega) (by intro c fz e;injection e with e1 e2 e3;cases e2)
       have BL4:=η h4;have B4:=η (B3.o.trans h5);have HT4:=η (HT.o.keep B4.o)
       clear h4 h5 h6
       generalize hts:ts[j]=tk at HA2 BX4 HH HTKB SZ HLT ⊢
       obtain⟨kk,s,nn,pp⟩:=tk
       clear hts
       have y0:w4.cell? ⟨wr.heap.size,0,none⟩=some (.int .i64 kk):=BX4.o.c 0
       have y1:w4.cell? ⟨wr.heap.size,1,none⟩=some (.string s):=BX4.o.c 1
       have y2:w4.cell? ⟨wr.heap.size,2,none⟩=some (.int .i64 nn):=BX4.o.c 2
       have HLE:Hid ((a++[32]).length+(wTk ⟨kk,s,nn,pp⟩).length≤(wTks ts).length):=by
        show _≤_
        rw[←HA2.o];simp only[List.length_append];omega
       by_cases k2:kk=2
       · subst k2
         have hbd:0≤nn∧nn≤9007199254740992:=by
          have h:=HTKB.o
          unfold tokB at h
          simp only[if_true,Bool.and_eq_true,decide_eq_true_eq] at h
          rw[if_neg π] at h
          simp only[Bool.and_eq_true,decide_eq_true_eq] at h
          exact⟨h.1.2,h.2⟩
         have HBD:=η hbd
         clear hbd
         have HWT:Hid (wTk ⟨2,s,nn,pp⟩=Lib.itoa nn):=rfl
         go_wp2_with fail
         refine (text_any nn (by have:=HBD.o;omega) (by have:=HBD.o;omega) _ HT4.o).mono ?_
         rintro _ w5 ⟨rfl,hb5⟩
         have HB5:=η hb5
         clear hb5
         go_wp2_with fail
         refine (writeString_any w.heap.size w.heap.size (a++[32]) (str (Lib.itoa nn)) w5 (bld_keep BL4.o HB5.o) (by have h1:=HLE.o;have h2:=HB.o;have h3:(str (Lib.itoa nn)).size=(Lib.itoa nn).length:=by { unfold str;exact List.size_toArray };rw[HWT.o] at h1;omega) (bel B4.o HB5.o).size).mono ?_
         rintro _ w6 ⟨rfl,h6⟩
         have H6:=η h6
         clear h6 y0 y1 y2
         go_wp2_with fail
         exact⟨⟨j+1,(a++[32])++Lib.itoa nn,by omega,by go_num,HQ2,η (by rw[←HA2.o,HWT.o,List.append_assoc]),η ((bel B4.o HB5.o).trans H6.o.2.1),η (by have h:=H6.o.1;rw[show (str (Lib.itoa nn)).data.toList=Lib.itoa nn from by unfold str;simp] at h;exact h)⟩,by simp[intOf];omega⟩
       · have v2:(kk==2)=false:=beq_eq_false_iff_ne.2 k2
         by_cases k3:kk=3
         · subst k3
           have HWT:Hid (wTk ⟨3,s,nn,pp⟩=quoteL s.data.toList):=rfl
           have HS4:Hid (s.size≤4096):=by
            have h:=HTKB.o
            unfold tokB at h
            simp only at h
            rw[if_neg π,if_neg π,if_pos π,Bool.and_eq_true,decide_eq_true_eq] at h
            exact h.1
           replace k2:=η k2
           go_wp2_with fail
           refine (quote_any w.heap.size w.heap.size (a++[32]) s _ BL4.o (by have h1:=HLE.o;have h2:=HB.o;have h3:=HS4.o;omega) B4.o.size).mono ?_
           rintro _ w6 ⟨rfl,h6⟩
           have H6:=η h6
           clear h6 y0 y1 y2
           go_wp2_with fail
           exact⟨⟨j+1,(a++[32])++quoteL s.data.toList,by omega,by go_num,HQ2,η (by rw[←HA2.o,HWT.o,List.append_assoc]),η (B4.o.trans H6.o.2),η H6.o.1⟩,by simp[intOf];omega⟩
         · have v3:(kk==3)=false:=beq_eq_false_iff_ne.2 k3
           have HWT:Hid (wTk ⟨kk,s,nn,pp⟩=s.data.toList):=by
            show _=_
            unfold wTk
            simp only
            rw[if_neg k2,if_neg k3]
           replace k2:=η k2
           replace k3:=η k3
           go_wp2_with fail
           refine (writeString_any w.heap.size w.heap.size (a++[32]) s _ BL4.o (by have h1:=HLE.o;have h2:=HB.o;have h3:s.size=s.data.toList.length:=by { rw[Array.length_toList];rfl };rw[HWT.o] at h1;omega) B4.o.size).mono ?_
           rintro _ w6 ⟨rfl,h6⟩
           have H6:=η h6
           clear h6 y0 y1 y2
           go_wp2_with fail
           exact⟨⟨j+1,(a++[32])++s.data.toList,by omega,by go_num,HQ2,η (by rw[←HA2.o,HWT.o,List.append_assoc]),η (B4.o.trans H6.o.2.1),η H6.o.1⟩,by simp[intOf];omega⟩
  · have u1:decide ((j:Int)<(ts.length:Int))=false:=decide_eq_false ω
    have HE:Hid (writeL ts=a):=by
     obtain rfl:j=ts.length:=by omega
     show _=_
     rw[writeL_good (fun q h=>HQ.o q h h),←HA.o,restW_end,List.append_nil]
    go_wp2_with fail
    refine (Tryz.Builder_String_any _ _ a wr HX.o HW.o.size).mono ?_
    rintro _ w2 ⟨rfl,h2⟩
    have H2:=η h2
    clear h2
    go_wp2
    go_ret
    exact⟨by rw[HE.o];rfl,HW.o.trans H2.o⟩
theorem toks_row:∀(ts:List Tk),(∀t∈ts,t.text.size≤maxLen)→RowG 4 TkW (ts.flatMap tkv) ts:=by
 have key:∀(ts a:List Tk),(∀t∈a++ts,t.text.size≤maxLen)→RowG 4 TkW (a.flatMap tkv) a→RowG 4 TkW ((a++ts).flatMap tkv) (a++ts):=by
  intro ts
  induction ts with
  | nil=>intro a _ h;simpa using h
  | cons t ts ih =>
   intro a hs h
   have e:a++t::ts=(a++[t])++ts:=by simp
   rw[e] at hs ⊢
   refine ih (a++[t]) hs ?_
   rw[List.flatMap_append]
   have:=h.snoc (cs:=tkv t) (a:=t) rfl ⟨rfl,hs t (by simp)⟩
   simpa using this
 intro ts hs
 have:=key ts [] (by simpa using hs) (RowG.nil _)
 simpa using this
theorem Wr.toks {wb mb:Nat} {ts:List Tk} {w:À} (h:Wr wb mb ts w) (hs:∀t∈ts,t.text.size≤maxLen):∃A cap,w.cell? ⟨wb,0,none⟩=some (.slice A ts.length cap)∧SlR w (lo w) 4 TkW (.slice A ts.length cap) ts:=by
 obtain⟨v,hb,ho,_⟩:=h.row
 obtain⟨A,cap,rfl⟩:=row_form ho
 exact⟨A,cap,hb.c 0,RowG.sl (w:=w) (P:=lo w) (toks_row ts hs) ho (fun g hg=>(ho.lt g hg).2)⟩
theorem tokens_all (t:Nd) (cs:List Value) (w:À) (h:NdR w (lo w) cs t) (hr:rightB t=true) (hz:(toksP t).length≤wTop) (hs:∀x∈toksP t,x.text.size≤maxLen) :
 Calls prog 15 #[.agg cs.toArray] w fun e w'=>∃A cap,e=.returned (.slice A (toksP t).length cap)∧Below w.heap.size w w'∧SlR w' (lo w') 4 TkW (.slice A (toksP t).length cap) (toksP t):=by
 have hn:=h
 obtain⟨k0,s,n,p,a,A,cap,rfl,rfl,_,_,ha⟩:=nd_form h
 have lm:a.length≤9223372036854775807:=ha.len.2
 obtain⟨HN,HA,HR,HS⟩:=zd4 hn ha hr hs
 have eT:toksP (.mk k0 s n p a)=a.flatMap (tok 40 .dcl):=by unfold toksP;rw[if_pos hr];rfl
 have hall:∀(j:Nat) (h:j<a.length),shp 40 .dcl a[j]=true∨shp 40 .chg a[j]=true:=fun j h=>by
  have h1:(k0==1&&bareB (.mk k0 s n p a)&&a.all fun x=>shp 40 .dcl x||shp 40 .chg x)=true:=hr
  rw[Bool.and_eq_true,List.all_eq_true] at h1
  have h2:=h1.2 _ (List.getElem_mem h)
  rw[Bool.or_eq_true] at h2
  exact h2
 rw[eT] at hz hs ⊢
 obtain⟨HALL,HZ⟩:=zd2 hall hz
 replace HS:=η hs
 obtain⟨W1,hW1,B0,Y0,x0,x1,x2,x3,x4⟩:=nb5 w k0 s n p A a.length cap
 clear h hn hr hz hs ha eT hall
 go_in
 go_upto_region 1 with fail
 rw[←hW1.o]
 clear hW1
 go_wp2_with fail
 refine (saidEq (tright_any _ _ _ (NdR.to HN.o (sub_lo B0.o))) HR.o).mono ?_
 rintro _ X1 ⟨rfl,hb1⟩
 obtain⟨B1,Y1⟩:=zd2 (bel B0.o hb1) (hs_bel Y0.o hb1)
 clear hb1 x0 x1 x2 x3 x4
 go_wp2_with fail
 refine (operators_any _).mono ?_
 rintro _ X2 ⟨mb,nb,rfl,hb2,_,hmb,hm2⟩
 obtain⟨B2,Y2,HM,HMB⟩:=zd4 (bel B1.o hb2) (hs_bel Y1.o hb2) hm2 hmb
 clear hb2 hm2 hmb
 obtain⟨W3,hW3⟩:∃q,Hid (q=X2.alloc (.cells #[.slice none 0 0,.map (some mb)] 54)):=⟨_,rfl⟩
 have b3:Below X2.heap.size X2 W3:=by rw[hW3.o];exact belA (belR _) _
 have H3:Hs W3 X2.heap.size 54 #[.slice none 0 0,.map (some mb)]:=by rw[hW3.o];exact Hs.new _ _ _
 have T3:Hid (Wr X2.heap.size mb [] W3):=η ⟨⟨.slice none 0 0,H3,⟨by simp,.inl ⟨rfl,rfl⟩⟩,(by intro e;cases e),(by intro e;cases e)⟩,⟨nb,HM.o.below b3 HMB.o⟩,by have:=HMB.o;omega⟩
 have O3:Hid (∀k,wOwn X2.heap.size W3 k→k=X2.heap.size):=η (fun k hk=>by
  rcases hk with e|⟨v,h1,h2⟩
  · exact e
  · have e:W3.cell? ⟨X2.heap.size,0,none⟩=some (.slice none 0 0):=H3.c 0
    rw[e] at h1;injection h1 with h1;subst h1;cases h2)
 have B3:=η (bel B2.o b3)
 have SZ3:Hid (w.heap.size≤X2.heap.size):=η B2.o.size
 have A3:Hid (NdsR W3 (im (wOwn X2.heap.size W3) W3) (.slice A a.length cap) a):=η (NdsR.to HA.o fun k hk=>⟨⟨Nat.lt_of_lt_of_le hk B3.o.size,fun e=>by have h1:=O3.o k e;have h2:=SZ3.o;unfold lo at hk;omega⟩,B3.o.block k hk⟩)
 have y4:W3.cell? ⟨w.heap.size,4,none⟩=some (.slice A a.length cap):=(hs_bel Y2.o b3).c 4
 have WB:Hid (∀X,WrC X2.heap.size W3 X→Below w.heap.size w X):=η (fun X hX=>⟨hX.st.os.trans B3.o.os,hX.st.tape.trans B3.o.tape,hX.st.output.trans B3.o.output,Nat.le_trans B3.o.size hX.st.size,fun k hk=>(hX.st.block k (Nat.lt_of_lt_of_le hk B3.o.size) (fun e=>by have h1:=O3.o k e;have h2:=SZ3.o;omega)).trans (B3.o.block k hk)⟩)
 obtain⟨wb,hwb⟩:∃b,Hid (b=X2.heap.size):=⟨_,η rfl⟩
 rw[←hwb.o] at T3 O3 A3 WB
 clear b3 H3
 go_upto_region 4 with fail
 rw[←hW3.o,←hwb.o]
 clear hW3 hwb Y0 Y1 Y2 B0 B1 B2 HM HMB HN HA O3 SZ3
 go_wp2_with fail
 clear y4
 go_loopw [15] (fun i wr=>∃(j:Nat),j≤a.length∧i=.int .i64 j∧Hid (WrC wb W3 wr)∧Hid (Wr wb mb ((a.take j).flatMap (tok 40 .dcl)) wr)) (fun i _=>a.length-(intOf i).toNat)
 case atStart=>exact⟨0,by omega,rfl,WrC.refl _ _,T3.o⟩
 case round =>
  obtain⟨j,hj,rfl,HC,HT⟩:=hrel
  by_cases hlt:j<a.length
  · have u1:decide ((j:Int)<(a.length:Int))=true:=decide_eq_true ω
    obtain⟨b,off,k1,s1,m1,p1,D1,l1,c1',rfl,hg,hr1,e0,e1,e2,e3,e4⟩:=nds_at (NdsR.to A3.o HC.o.sub) hlt
    have j0:(0:Int)≤(j:Int):=by omega
    have j1:(j:Int)<(a.length:Int):=by omega
    obtain⟨W2,hW2⟩:∃q,Hid (q=wr.alloc (.cells (cl k1 s1 m1 p1 D1 l1 c1').toArray 24)):=⟨_,rfl⟩
    have B4:Hid (Below wr.heap.size wr W2):=by show Below _ _ _;rw[hW2.o];exact belA (belR _) _
    have X4:Hid (Hs W2 wr.heap.size 24 (cl k1 s1 m1 p1 D1 l1 c1').toArray):=by show Hs _ _ _ _;rw[hW2.o];exact Hs.new _ _ _
    obtain⟨T4,C4,R4⟩:=zd3 (HT.o.bel B4.o) (HC.o.trans (WrC.bel B4.o HT.o.lt)) (NdR.to hr1 (WrC.bel B4.o HT.o.lt).sub)
    have HJ:Hid ((a.take (j+1)).flatMap (tok 40 .dcl)=(a.take j).flatMap (tok 40 .dcl)++tok 40 .dcl a[j]):=by
     show _=_
     rw[List.take_succ_eq_append_getElem hlt,List.flatMap_append];simp
    have HLE:Hid (((a.take j).flatMap (tok 40 .dcl)).length+(tok 40 .dcl a[j]).length≤wTop):=by
     have h1:(a.take (j+1)).flatMap (tok 40 .dcl)++(a.drop (j+1)).flatMap (tok 40 .dcl)=a.flatMap (tok 40 .dcl):=by rw[←List.flatMap_append,List.take_append_drop]
     have h2:=congrArg List.length h1
     rw[HJ.o] at h2
     have h3:=HZ.o
     simp only[List.length_append] at h2
     show _≤_
     omega
    clear hr1 hg
    go_upto_region 7 with fail
    rw[←hW2.o]
    clear hW2 e0 e1 e2 e3 e4
    obtain⟨f0,f1,f2,f3,f4⟩:=cf5 X4.o
    go_wp2_with fail
    have CA:Calls prog 33 #[.pointer (some ⟨wb,0,none⟩),.agg (cl k1 s1 m1 p1 D1 l1 c1').toArray] W2 (WrSaid wb mb ((a.take j).flatMap (tok 40 .dcl)++tok 40 .dcl a[j]) W2):=by
     rcases HALL.o j hlt with q|q
     · exact n_dcl (j:=38) rfl wb mb _ _ _ W2 T4.o R4.o q HLE.o
     · exact n_chg (j:=38) rfl wb mb _ _ _ W2 T4.o R4.o q HLE.o
    refine CA.mono ?_
    rintro _ W5 ⟨rfl,hT,hC⟩
    obtain⟨T5,C5⟩:=zd2 hT hC
    clear hT hC f0 f1 f2 f3 f4
    go_wp2_with fail
    exact⟨⟨j+1,by omega,by go_num,η (C4.o.trans C5.o),by rw[HJ.o];exact T5⟩,by simp[intOf];omega⟩
  · have u1:decide ((j:Int)<(a.length:Int))=false:=decide_eq_false ω
    have HJ:Hid ((a.take j).flatMap (tok 40 .dcl)=a.flatMap (tok 40 .dcl)):=by show _=_;rw[List.take_of_length_le ω]
    have T9:Wr wb mb (a.flatMap (tok 40 .dcl)) wr:=by rw[←HJ.o];exact HT.o
    have S9:=HS.o
    obtain⟨TS,HTS⟩:∃q,Hid (q=a.flatMap (tok 40 .dcl)):=⟨_,η rfl⟩
    rw[←HTS.o] at T9 S9
    obtain⟨A9,c9,y9,hsl⟩:=Wr.toks T9 S9
    clear T9 S9
    obtain⟨HSL,HWB⟩:=zd2 hsl (WB.o _ HC.o)
    clear hsl
    go_wp2
    go_ret
    rw[←HTS.o]
    exact⟨A9,c9,rfl,HWB.o,HSL.o⟩
theorem tokens_none (t:Nd) (cs:List Value) (w:À) (h:NdR w (lo w) cs t) (hr:rightB t=false) :
 Calls prog 15 #[.agg cs.toArray] w fun e w'=>e=.returned (.slice none 0 0)∧Below w.heap.size w w':=by
 have hn:=h
 obtain⟨k0,s,n,p,a,A,cap,rfl,rfl,_,_,ha⟩:=nd_form h
 obtain⟨W1,hW1,B0,Y0,x0,x1,x2,x3,x4⟩:=nb5 w k0 s n p A a.length cap
 have C:=η (saidEq (tright_any _ _ _ (NdR.to hn (sub_lo B0.o))) hr)
 clear h hn ha hr
 go_in
 go_upto_region 1 with fail
 rw[←hW1.o]
 clear hW1
 go_wp2_with fail
 refine C.o.mono ?_
 rintro _ X1 ⟨rfl,hb1⟩
 go_wp2
 go_ret
 exact⟨rfl,bel B0.o hb1⟩
theorem tokens_any (t:Nd) (cs:List Value) (w:À) (h:NdR w (lo w) cs t) (hz:(toksP t).length≤wTop) (hs:∀x∈toksP t,x.text.size≤maxLen) :
 Calls prog 15 #[.agg cs.toArray] w fun e w'=>∃A cap,e=.returned (.slice A (toksP t).length cap)∧Below w.heap.size w w'∧SlR w' (lo w') 4 TkW (.slice A (toksP t).length cap) (toksP t):=by
 cases hr:rightB t with
 | true=>exact tokens_all t cs w h hr hz hs
 | false =>
  refine (tokens_none t cs w h hr).mono fun e w' ⟨he,hb⟩=>?_
  have e1:toksP t=[]:=by unfold toksP;rw[hr];rfl
  rw[e1]
  exact⟨none,0,he,hb,SlR.nil⟩
theorem swrite_any (t:Nd) (cs:List Value) (w:À) (h:NdR w (lo w) cs t) (hz:(toksP t).length≤wTop) (hs:∀x∈toksP t,x.text.size≤maxLen) (ht:Tab w) (hl:(wTks (toksP t)).length+8194≤140737488355328) :
 Calls prog 17 #[.agg cs.toArray] w fun e w'=>e=.returned (.string ⟨(writeL (toksP t)).toArray⟩)∧Below w.heap.size w w':=by
 have hn:=h
 obtain⟨k0,s,n,p,a,A,cap,rfl,rfl,_,_,ha⟩:=nd_form h
 obtain⟨W1,hW1,B0,Y0,x0,x1,x2,x3,x4⟩:=nb5 w k0 s n p A a.length cap
 have C:=η (tokens_any (.mk k0 s n p a) (cl k0 s n p A a.length cap) W1 (NdR.to hn (sub_lo B0.o)) hz hs)
 obtain⟨HT,HL⟩:=zd2 (ht.keep B0.o) hl
 clear h hn ha hz hs ht hl
 generalize toksP (.mk k0 s n p a)=TS at C HL ⊢
 go_in
 go_upto_region 1 with fail
 rw[←hW1.o]
 clear hW1
 go_wp2_with fail
 refine C.o.mono ?_
 rintro _ X1 ⟨A9,c9,rfl,hb,hsl⟩
 obtain⟨HB,HS⟩:=zd2 hb hsl
 clear hb hsl x0 x1 x2 x3 x4
 go_wp2_with fail
 refine (write_any TS A9 c9 X1 HS.o (HT.o.keep HB.o) HL.o).mono ?_
 rintro _ X2 ⟨rfl,hb2⟩
 go_wp2
 go_ret
 exact⟨rfl,bel (bel B0.o HB.o) hb2⟩
def q1:List UInt8:=[102,117,110,32,102,40,120,58,32,105,110,116,41,58,32,105,110,116,32,61,32,120,32,43,32,49,32,42,32,50,10,97,99,116,111,114,32,77,97,105,110,40,41,32,114,101,115,116,97,114,116,32,51,32,123,32,115,116,97,116,101,32,97,58,32,105,110,116,32,61,32,48,32,111,110,32,71,111,40,41,32,123,32,105,102,32,40,97,41,32,61,61,32,49,32,123,32,115,101,110,100,32,115,101,108,102,32,71,111,40,41,32,125,32,125,32,125]
def q2:List UInt8:=[114,101,99,111,114,100,32,80,32,123,32,120,32,105,110,116,32,125]
def q3:List UInt8:=[109,111,118,101,32,65,32,116,111,32,50,32,100,114,111,112,32,66,32,99,111,110,118,101,114,116,32,116,121,112,101,32,86,46,67,40,120,58,32,105,110,116,41,32,61,32,68,40,120,41]
def q4:List UInt8:=[109,111,118,101,32,65,32,116,111,32,50]
def qo:List UInt8:=[102,117,110,32,102,32,40,32,120,32,58,32,105,110,116,32,41,32,58,32,105,110,116,32,61,32,120,32,43,32,49,32,42,32,50]
def unR:RunR→Nd
 | .ok n=>n
 | .err _ _=>nd0
def T1:Nd:=unR (runP false q1)
def T3:Nd:=unR (runP true q3)
def okR:RunR→Bool
 | .ok _=>true
 | .err _ _=>false
def erR (x p:Int):RunR→Bool
 | .ok _=>false
 | .err y q=>x==y&&p==q
theorem ok_of {r:RunR} (h:okR r=true):r=.ok (unR r):=by
 cases r with
 | ok n=>rfl
 | err x p=>cases h
theorem er_of {r:RunR} {x p:Int} (h:erR x p r=true):r=.err x p:=by
 cases r with
 | ok n=>cases h
 | err y q =>
  simp only[erR,Bool.and_eq_true,beq_iff_eq] at h
  rw[h.1,h.2]
theorem r1:runP false q1=.ok T1:=ok_of Γ
theorem r2:runP false q2=.err 2 13:=er_of Γ
theorem r3:runP true q3=.ok T3:=ok_of Γ
theorem r4:runP false q4=.err 2 0:=er_of Γ
def TF:Nd:=kid T1 0
def TB:Nd:=kid TF 2
def TM:Nd:=kid T1 1
theorem t1:T1=.mk 1 e0 0 0 [TF,TM]:=(eqN_iff _ _).1 Γ
theorem tF:TF=.mk 5 (str [102]) 0 0 [kid TF 0,kid TF 1,TB]:=(eqN_iff _ _).1 Γ
theorem tB:TB=.mk 35 (str [43]) 0 21 [kid TB 0,kid TB 1]:=(eqN_iff _ _).1 Γ
theorem tB1:kid TB 1=.mk 35 (str [42]) 0 (ndP (kid TB 1)) (ndL (kid TB 1)):=(eqN_iff _ _).1 Γ
theorem tM:TM=.mk 6 (ndS TM) 4 (ndP TM) [kid TM 0,kid TM 1]:=(eqN_iff _ _).1 Γ
theorem t3:T3=.mk 1 e0 0 0 [kid T3 0,kid T3 1,kid T3 2]:=(eqN_iff _ _).1 Γ
theorem t30:kid T3 0=.mk 73 (ndS (kid T3 0)) 2 (ndP (kid T3 0)) (ndL (kid T3 0)):=(eqN_iff _ _).1 Γ
theorem right1:rightB T1=true:=by decide +kernel
theorem right3:rightB T3=true:=by decide +kernel
theorem rightB0:rightB TB=false:=by decide +kernel
theorem same11:smN T1 T1=true:=by decide +kernel
theorem same13:smN T1 T3=false:=by decide +kernel
def TW:Nd:=.mk 1 e0 0 0 [TF]
def tksW:List Tk:=toksP TW
theorem lenW:tksW.length=15:=by decide +kernel
theorem szW:∀x∈tksW,x.text.size≤maxLen:=by
 have h:tksW.all (fun x=>decide (x.text.size≤100))=true:=by decide +kernel
 intro x hx
 have:=of_decide_eq_true (List.all_eq_true.1 h x hx)
 unfold maxLen
 omega
def wTkS (t:Tk):List UInt8:=if t.kind=2 then [UInt8.ofNat (48+t.n.toNat)] else if t.kind=3 then quoteL t.text.data.toList else t.text.data.toList
def wTksS:List Tk→List UInt8
 | []=>[]
 | [t]=>wTkS t
 | t::r=>wTkS t++32::wTksS r
theorem wTkS_eq (t:Tk) (h:(decide (0≤t.n)&&decide (t.n<10))=true):wTk t=wTkS t:=by
 rw[Bool.and_eq_true,decide_eq_true_eq,decide_eq_true_eq] at h
 unfold wTk wTkS
 split
 · unfold Lib.itoa
   rw[if_neg ω,Lib.decDigits_one ω]
 · rfl
theorem wTksS_eq:∀l:List Tk,l.all (fun t=>decide (0≤t.n)&&decide (t.n<10))=true→wTks l=wTksS l
 | [],_=>by rw[wTks,wTksS]
 | [t],h=>by
  simp only[List.all_cons,List.all_nil,Bool.and_true] at h
  rw[wTks,wTksS,wTkS_eq t h]
 | t::u::r,h=>by
  rw[List.all_cons,Bool.and_eq_true] at h
  rw[wTks,wTksS,wTkS_eq t h.1,wTksS_eq (u::r) h.2]
  · exact fun e=>by cases e
  · exact fun e=>by cases e
theorem smallW:tksW.all (fun t=>decide (0≤t.n)&&decide (t.n<10))=true:=by decide +kernel
theorem writeW:writeL tksW=qo:=by
 unfold writeL
 rw[if_pos Γ,wTksS_eq _ smallW]
 decide +kernel
theorem wlenW:(wTks tksW).length=qo.length:=by
 have h:=writeW
 unfold writeL at h
 rw[if_pos Γ] at h
 rw[h]
theorem nd_cells {w:À} {P:Nat→Prop} {k n p:Int} {s:Ê} {a:List Nd} {cs:List Value} (h:NdR w P cs (.mk k s n p a)):∃A cap,cs=cl k s n p A a.length cap∧NdsR w P (.slice A a.length cap) a:=by
 obtain⟨k0,s0,n0,p0,a0,A0,c0,e1,e2,_,_,h⟩:=nd_form h
 injection e2 with h1 h2 h3 h4 h5
 subst h1 h2 h3 h4 h5
 exact⟨A0,c0,e1,h⟩
def ParS (t:Nd) (K:Int) (l:Nat) (w:À) (e:Ending) (w':À):Prop:=∃A cap,e=.returned (.tuple #[.agg (cl K e0 0 0 A l cap).toArray,.int .i64 0,.int .i64 0])∧Below w.heap.size w w'∧NdR w' (lo w') (cl K e0 0 0 A l cap) t
theorem par_of {F:FuncId} {args:Array Value} {w:À} {t:Nd} {l:Nat} {a:List Nd} (ht:t=.mk 1 e0 0 0 a) (hl:a.length=l) (h:Calls prog F args w (RunV w (.ok t))):Calls prog F args w (ParS t 1 l w):=h.mono (by
 rintro e w' ⟨k,s,m,p,D,l',c,rfl,hb,hn⟩
 have hn2:NdR w' (lo w') (cl k s m p D l' c) t:=hn.to fun b hb=>⟨hb.2,rfl⟩
 have hn3:=hn2
 rw[ht] at hn3
 obtain⟨A,cap,e,_⟩:=nd_cells hn3
 rw[hl] at e
 rw[e] at hn2 ⊢
 exact⟨A,cap,rfl,hb,hn2⟩)
theorem bl (q:List UInt8):(⟨q.toArray⟩:Ê).data.toList=q:=by simp
theorem p1 (w:À):Calls prog 24 #[.string ⟨q1.toArray⟩] w (ParS T1 1 2 w):=par_of t1 rfl (by
 have h:=parse_any ⟨q1.toArray⟩ w Γ
 rw[bl,r1] at h;exact h)
theorem p3 (w:À):Calls prog 21 #[.string ⟨q3.toArray⟩] w (ParS T3 1 3 w):=par_of t3 rfl (by
 have h:=patch_any ⟨q3.toArray⟩ w Γ
 rw[bl,r3] at h;exact h)
theorem p2 (w:À):Calls prog 24 #[.string ⟨q2.toArray⟩] w fun e w'=>e=.returned (.tuple #[.agg zero5,.int .i64 2,.int .i64 13])∧Below w.heap.size w w':=by
 have h:=parse_any ⟨q2.toArray⟩ w Γ
 rw[bl,r2] at h;exact h
theorem p4 (w:À):Calls prog 24 #[.string ⟨q4.toArray⟩] w fun e w'=>e=.returned (.tuple #[.agg zero5,.int .i64 2,.int .i64 0])∧Below w.heap.size w w':=by
 have h:=parse_any ⟨q4.toArray⟩ w Γ
 rw[bl,r4] at h;exact h
structure SmM (b1 b3 g1 o1 c1 g3 o3 c3 gF oF cF gB oB cB:Nat) (AM:Option Addr) (cM:Nat) (AC:Option Addr) (lC cC:Nat) (AD:Option Addr) (lD cD:Nat) (X:À):Prop where
 f0:X.cell? ⟨b1,0,none⟩=some (.int .i64 1)
 f1:X.cell? ⟨b1,1,none⟩=some (.string e0)
 f2:X.cell? ⟨b1,2,none⟩=some (.int .i64 0)
 f3:X.cell? ⟨b1,3,none⟩=some (.int .i64 0)
 f4:X.cell? ⟨b1,4,none⟩=some (.slice (some ⟨g1,o1,none⟩) 2 c1)
 f5:X.cell? ⟨b3,0,none⟩=some (.int .i64 1)
 f6:X.cell? ⟨b3,1,none⟩=some (.string e0)
 f7:X.cell? ⟨b3,2,none⟩=some (.int .i64 0)
 f8:X.cell? ⟨b3,3,none⟩=some (.int .i64 0)
 f9:X.cell? ⟨b3,4,none⟩=some (.slice (some ⟨g3,o3,none⟩) 3 c3)
 f10:X.cell? ⟨g1,o1,none⟩=some (.int .i64 5)
 f11:X.cell? ⟨g1,o1+1,none⟩=some (.string (str [102]))
 f12:X.cell? ⟨g1,o1+2,none⟩=some (.int .i64 0)
 f13:X.cell? ⟨g1,o1+3,none⟩=some (.int .i64 0)
 f14:X.cell? ⟨g1,o1+4,none⟩=some (.slice (some ⟨gF,oF,none⟩) 3 cF)
 f15:X.cell? ⟨g1,o1+5,none⟩=some (.int .i64 6)
 f16:X.cell? ⟨g1,o1+6,none⟩=some (.string (ndS TM))
 f17:X.cell? ⟨g1,o1+7,none⟩=some (.int .i64 4)
 f18:X.cell? ⟨g1,o1+8,none⟩=some (.int .i64 (ndP TM))
 f19:X.cell? ⟨g1,o1+9,none⟩=some (.slice AM 2 cM)
 f20:X.cell? ⟨gF,oF+10,none⟩=some (.int .i64 35)
 f21:X.cell? ⟨gF,oF+11,none⟩=some (.string (str [43]))
 f22:X.cell? ⟨gF,oF+12,none⟩=some (.int .i64 0)
 f23:X.cell? ⟨gF,oF+13,none⟩=some (.int .i64 21)
 f24:X.cell? ⟨gF,oF+14,none⟩=some (.slice (some ⟨gB,oB,none⟩) 2 cB)
 f25:X.cell? ⟨gB,oB+5,none⟩=some (.int .i64 35)
 f26:X.cell? ⟨gB,oB+6,none⟩=some (.string (str [42]))
 f27:X.cell? ⟨gB,oB+7,none⟩=some (.int .i64 0)
 f28:X.cell? ⟨gB,oB+8,none⟩=some (.int .i64 (ndP (kid TB 1)))
 f29:X.cell? ⟨gB,oB+9,none⟩=some (.slice AC lC cC)
 f30:X.cell? ⟨g3,o3,none⟩=some (.int .i64 73)
 f31:X.cell? ⟨g3,o3+1,none⟩=some (.string (ndS (kid T3 0)))
 f32:X.cell? ⟨g3,o3+2,none⟩=some (.int .i64 2)
 f33:X.cell? ⟨g3,o3+3,none⟩=some (.int .i64 (ndP (kid T3 0)))
 f34:X.cell? ⟨g3,o3+4,none⟩=some (.slice AD lD cD)
theorem SmM.bel {b1 b3 g1 o1 c1 g3 o3 c3 gF oF cF gB oB cB:Nat} {AM:Option Addr} {cM:Nat} {AC:Option Addr} {lC cC:Nat} {AD:Option Addr} {lD cD:Nat} {X Y:À} (h:SmM b1 b3 g1 o1 c1 g3 o3 c3 gF oF cF gB oB cB AM cM AC lC cC AD lD cD X) (hb:Below X.heap.size X Y):SmM b1 b3 g1 o1 c1 g3 o3 c3 gF oF cF gB oB cB AM cM AC lC cC AD lD cD Y:=⟨belC hb h.f0,belC hb h.f1,belC hb h.f2,belC hb h.f3,belC hb h.f4,belC hb h.f5,belC hb h.f6,belC hb h.f7,belC hb h.f8,belC hb h.f9,belC hb h.f10,belC hb h.f11,belC hb h.f12,belC hb h.f13,belC hb h.f14,belC hb h.f15,belC hb h.f16,belC hb h.f17,belC hb h.f18,belC hb h.f19,belC hb h.f20,belC hb h.f21,belC hb h.f22,belC hb h.f23,belC hb h.f24,belC hb h.f25,belC hb h.f26,belC hb h.f27,belC hb h.f28,belC hb h.f29,belC hb h.f30,belC hb h.f31,belC hb h.f32,belC hb h.f33,belC hb h.f34⟩
theorem sm_of {X:À} {b1 b3 c1 c3:Nat} {A1 A3:Option Addr} (h1:Hs X b1 24 (cl 1 e0 0 0 A1 2 c1).toArray) (n1:NdR X (lo X) (cl 1 e0 0 0 A1 2 c1) T1) (h3:Hs X b3 24 (cl 1 e0 0 0 A3 3 c3).toArray) (n3:NdR X (lo X) (cl 1 e0 0 0 A3 3 c3) T3) :
 ∃g1 o1 g3 o3 gF oF cF gB oB cB AM cM AC lC cC AD lD cD,A1=some ⟨g1,o1,none⟩∧A3=some ⟨g3,o3,none⟩∧SmM b1 b3 g1 o1 c1 g3 o3 c3 gF oF cF gB oB cB AM cM AC lC cC AD lD cD X∧NdR X (lo X) (cl 35 (str [43]) 0 21 (some ⟨gB,oB,none⟩) 2 cB) TB∧NdsR X (lo X) (.slice A1 2 c1) [TF,TM]:=by
 have m1:=n1
 rw[t1] at m1
 obtain⟨A,cap,e,hk⟩:=nd_cells m1
 injection e with _ e;injection e with _ e;injection e with _ e;injection e with _ e;injection e with e _;injection e with e1 e2 e3
 subst e1 e3
 have m3:=n3
 rw[t3] at m3
 obtain⟨A',cap',e,hk3⟩:=nd_cells m3
 injection e with _ e;injection e with _ e;injection e with _ e;injection e with _ e;injection e with e _;injection e with e1 e2 e3
 subst e1 e3
 obtain⟨g1,o1,rfl⟩:=NdsR.some hk (by simp)
 obtain⟨g3,o3,rfl⟩:=NdsR.some hk3 (by simp)
 have K0:=kid_at hk (i:=0) (by simp)
 obtain⟨k,s,m,p,D,ln,c,hr,x0,x1,x2,x3,x4⟩:=K0
 have hr0:NdR X (lo X) (cl k s m p D ln c) TF:=hr
 rw[tF] at hr0
 obtain⟨AF,cF,e,hF⟩:=nd_cells hr0
 injection e with e1 e;injection e with e2 e;injection e with e3 e;injection e with e4 e;injection e with e5 _
 injection e1 with _ e1;injection e2 with e2;injection e3 with _ e3;injection e4 with _ e4;injection e5 with e5 e6 e7
 subst e1 e2 e3 e4 e5 e6 e7
 have K1:=kid_at hk (i:=1) (by simp)
 obtain⟨k,s,m,p,D,ln,c,hr,y0,y1,y2,y3,y4⟩:=K1
 have hr0:NdR X (lo X) (cl k s m p D ln c) TM:=hr
 rw[tM] at hr0
 obtain⟨AM,cM,e,hM⟩:=nd_cells hr0
 injection e with e1 e;injection e with e2 e;injection e with e3 e;injection e with e4 e;injection e with e5 _
 injection e1 with _ e1;injection e2 with e2;injection e3 with _ e3;injection e4 with _ e4;injection e5 with e5 e6 e7
 subst e1 e2 e3 e4 e5 e6 e7
 obtain⟨gF,oF,rfl⟩:=NdsR.some hF (by simp)
 have K2:=kid_at hF (i:=2) (by simp)
 obtain⟨k,s,m,p,D,ln,c,hr,z0,z1,z2,z3,z4⟩:=K2
 have hB:NdR X (lo X) (cl k s m p D ln c) TB:=hr
 have hr0:=hB
 rw[tB] at hr0
 obtain⟨AB,cB,e,hBk⟩:=nd_cells hr0
 injection e with e1 e;injection e with e2 e;injection e with e3 e;injection e with e4 e;injection e with e5 _
 injection e1 with _ e1;injection e2 with e2;injection e3 with _ e3;injection e4 with _ e4;injection e5 with e5 e6 e7
 subst e1 e2 e3 e4 e5 e6 e7
 obtain⟨gB,oB,rfl⟩:=NdsR.some hBk (by simp)
 have K3:=kid_at hBk (i:=1) (by simp)
 obtain⟨k,s,m,p,D,ln,c,hr,u0,u1,u2,u3,u4⟩:=K3
 have hr0:NdR X (lo X) (cl k s m p D ln c) (kid TB 1):=hr
 rw[tB1] at hr0
 obtain⟨AC,cC,e,_⟩:=nd_cells hr0
 injection e with e1 e;injection e with e2 e;injection e with e3 e;injection e with e4 e;injection e with e5 _
 injection e1 with _ e1;injection e2 with e2;injection e3 with _ e3;injection e4 with _ e4;injection e5 with e5 e6 e7
 have K4:=kid_at hk3 (i:=0) (by simp)
 obtain⟨k',s',m',p',D',ln',c',hr',v0,v1,v2,v3,v4⟩:=K4
 have hr0:NdR X (lo X) (cl k' s' m' p' D' ln' c') (kid T3 0):=hr'
 rw[t30] at hr0
 obtain⟨AD,cD,e,_⟩:=nd_cells hr0
 injection e with d1 e;injection e with d2 e;injection e with d3 e;injection e with d4 e;injection e with d5 _
 injection d1 with _ d1;injection d2 with d2;injection d3 with _ d3;injection d4 with _ d4;injection d5 with d5 d6 d7
 rw[e1] at u0;rw[e2] at u1;rw[e3] at u2;rw[e4] at u3;rw[e5,e6,e7] at u4
 rw[d1] at v0;rw[d2] at v1;rw[d3] at v2;rw[d4] at v3;rw[d5,d6,d7] at v4
 exact⟨_,_,_,_,_,_,_,_,_,_,_,_,_,_,_,_,_,_,rfl,rfl,⟨h1.c 0,h1.c 1,h1.c 2,h1.c 3,h1.c 4,h3.c 0,h3.c 1,h3.c 2,h3.c 3,h3.c 4,x0,x1,x2,x3,x4,y0,y1,y2,y3,y4,z0,z1,z2,z3,z4,u0,u1,u2,u3,u4,v0,v1,v2,v3,v4⟩,hB,hk⟩
end Go.Proofs.YtbjdcogmiggamaaGreatDoor
