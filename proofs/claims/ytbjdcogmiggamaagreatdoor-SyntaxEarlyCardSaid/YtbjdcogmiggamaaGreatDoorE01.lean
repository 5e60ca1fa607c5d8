import Derived.Test.YtbjdcogmiggamaaGreatDoorE00
set_option linter.all false
namespace Go.Proofs.YtbjdcogmiggamaaGreatDoor
open Proofs.Tryz RowKit Maps WideMaps ChangeMaps
set_option maxRecDepth 100000
set_option maxHeartbeats 8000000
theorem early_walk (s rest:Ê) (w:À) (hs:s.size≤maxLen) (hr:rest.size≤maxLen) (ht:Tab w):Calls prog 8 #[.string s,.string rest] w (EqSaid true w):=by
 obtain⟨HT,HS,HR⟩:=zd3 ht hs hr
 clear ht hs hr
 go_in
 by_cases hl:2000<s.size
 · have u0:decide ((2000:Int)<(s.size:Int))=true:=decide_eq_true ω
   go_wp2_with fail
   refine (small_any w HT.o).mono ?_
   rintro _ X1 ⟨rfl,hb1⟩
   have HB:=η hb1
   clear hb1
   go_wp2
   go_ret
   exact⟨rfl,HB.o⟩
 have u0:decide ((2000:Int)<(s.size:Int))=false:=decide_eq_false ω
 by_cases hl2:1000<rest.size
 · have u1:decide ((1000:Int)<(rest.size:Int))=true:=decide_eq_true ω
   go_wp2_with fail
   refine (small_any w HT.o).mono ?_
   rintro _ X1 ⟨rfl,hb1⟩
   have HB:=η hb1
   clear hb1
   go_wp2
   go_ret
   exact⟨rfl,HB.o⟩
 have u1:decide ((1000:Int)<(rest.size:Int))=false:=decide_eq_false ω
 go_wp2_with fail
 refine (small_any w HT.o).mono ?_
 rintro _ X1 ⟨rfl,hb1⟩
 have HB:=η hb1
 clear hb1
 go_wp2_with fail
 refine (scan_uni s X1 HS.o).mono ?_
 rintro _ X2 ⟨A,cap,ts,x1,p1,rfl,hb2,hn1,hr1⟩
 replace HB:=η (bel HB.o hb2)
 obtain⟨HT2,R1⟩:=zd2 hn1 hr1
 clear hb2 hn1 hr1
 go_wp2_with fail
 refine (run_uni (patch_any s X2 HS.o)).mono ?_
 rintro _ X3 ⟨k2,s2,n2,p2,D2,l2,c2,a2,x2,q2,rfl,hb3,hn3,hr3⟩
 replace HB:=η (bel HB.o hb3)
 replace HT2:=η (HT2.o.to' (sub_lo hb3) (fun _ _ x=>x))
 have R2:=η hr3
 clear hn3 hr3
 obtain⟨Y3,hY3,by3,HX3,-,-,-,-,-⟩:=nb5 X3 k2 s2 n2 p2 D2 l2 c2
 replace HB:=η (bel HB.o by3.o)
 replace HT2:=η (HT2.o.to' (sub_lo by3.o) (fun _ _ x=>x))
 clear hb3 by3 HX3
 go_upto_region 6 with fail
 rw[←hY3.o]
 clear hY3
 by_cases hx1:x1=0
 · by_cases hx2:x2=2
   · subst hx1 hx2
     have hok:scanP s.data.toList=.ok ts:=by
      rcases R1.o with ⟨_,h,_⟩|⟨h,_⟩
      · exact absurd rfl h
      · exact h
     have hre:runP true s.data.toList=.err 2 q2:=by
      rcases R2.o with ⟨h,_⟩|⟨_,h⟩
      · exact h
      · cases h
     have sl:s.data.toList.length=s.size:=by simp
     have rl:rest.data.toList.length=rest.size:=by simp
     obtain⟨hp0,hp1,hlaw,hend⟩:=early_law s.data.toList rest.data.toList ω ω ts hok q2 hre
     have lm:ts.length≤9223372036854775807:=HT2.o.len.2
     rw[sl] at hp1 hend
     obtain⟨LAW,OK⟩:=zd2 hlaw hok
     have END:Hid ((∀t∈ts,t.pos≠q2)→q2=(s.size:Int)):=hend
     have P01:=η (And.intro hp0 hp1)
     clear hlaw hok hre hend rl R1 R2 hp0 hp1
     go_wp2_with fail
     go_loopw [12] (fun i wr=>∃(j:Nat),j≤ts.length∧i=.int .i64 j∧Hid (∀k (h:k<ts.length),k<j→ts[k].pos≠q2)∧Hid (wr=Y3)) (fun i _=>ts.length-(intOf i).toNat)
     case atStart=>exact⟨0,by omega,rfl,η (fun k _ h=>absurd h ω),η rfl⟩
     case round =>
      obtain⟨j,hj,rfl,HQ,HW⟩:=hrel
      obtain rfl:Y3=wr:=HW.o.symm
      clear HW
      by_cases hlt:j<ts.length
      · have v1:decide ((j:Int)<(ts.length:Int))=true:=decide_eq_true ω
        obtain⟨g,off,cs,rfl,hg,hr,_,hc⟩:=SlR.at HT2.o hlt
        obtain⟨rfl,-,-,-,hsz⟩:=hr
        have e3:=hc 3 _ rfl
        have j0:(0:Int)≤(j:Int):=by omega
        have j1:(j:Int)<(ts.length:Int):=by omega
        clear hc hg
        by_cases hb:ts[j].pos=q2
        · have v2:(ts[j].pos != q2)=false:=by simpa using hb
          obtain⟨q0,hq0,hq1⟩:∃q0:Nat,q2=(q0:Int)∧q0≤s.size:=⟨q2.toNat,by have:=P01.o;omega,by have:=P01.o;omega⟩
          subst hq0
          have hwr:Hid (IntKind.i64.wrap ((j:Int)+1)=(j:Int)+1):=by show _=_;rw[IntKind.wrap_i64];omega
          have lc:ts.length≤cap:=HT2.o.cap
          have hmem:ts[j]∈ts:=List.getElem_mem hlt
          have hok:=OK.o
          rw[scanP_of ω] at hok
          have hgood:tokB ts[j]=true:=scan_good _ _ _ hok _ hmem
          have hlen:=wTk_len hgood (scan_txt _ _ _ hok _ hmem)
          rw[sl] at hlen
          have LN:Hid ((wTk ts[j]).length≤s.size+8194):=hlen
          have GOOD:=η hgood
          have HL1:Hid (SlR Y3 (lo Y3) 4 TkW (.slice (some ⟨g,off+j*4,none⟩) 1 (cap-j)) [ts[j]]):=by
           have h1:=SlR.from (SlR.upto HT2.o (j+1) ω) j (by simp;omega)
           rw[one_tk hlt] at h1
           have h2:fromA (some ⟨g,off,none⟩) cap j 4=some ⟨g,off+j*4,none⟩:=by unfold fromA;rw[if_neg ω];simp[Addr.add]
           rw[h2] at h1
           exact h1.to' (fun b hb=>⟨hb,rfl⟩) (fun _ _ x=>⟨x.1,x.2.2.2.2⟩)
          clear hok hmem hgood hlen
          go_wp2_with fail
          refine tkB (fun X=>Below Y3.heap.size Y3 X) (belDr Y3) (fun hHeld=>?_)
          refine tkQ 0 ?_
          refine tkQ 1 ?_
          refine tkQ 2 ?_
          refine tkQ 3 ?_
          refine tkQ 4 ?_
          refine tkQ 5 ?_
          refine tkQ (v:=.int .i64 ((j:Int)+1)) 6 ?_ (hy:=fun X hS=>by go_simp;rw[hwr.o])
          refine tkQ (v:=.slice (some ⟨g,off+j*4,none⟩) 1 (cap-j)) 7 ?_ (hy:=fun X hS=>by go_simp;rw[if_pos ⟨by omega,by omega⟩,if_neg (show ¬cap=j by omega)])
          refine tkQ 11 ?_
          refine tkE 8 (fun K hK=>?_)
          go_simp
          refine (write_any [ts[j]] _ _ _ (SlR.to' HL1.o (sub_lo hHeld) (fun _ _ x=>x)) (HT.o.keep (bel HB.o hHeld)) (by rw[show wTks [ts[j]]=wTk ts[j] from rfl];have:=LN.o;omega)).mono ?_
          rintro _ W4 ⟨rfl,hb4⟩
          rw[wTks_one _ GOOD.o]
          refine tkR hK ?_ (fun hHeld=>?_)
          · exact bel hHeld hb4
          clear hK K
          have n1:¬9223372036854775807<q0+(wTk ts[j]).length:=by have:=LN.o;omega
          have n2:¬9223372036854775807<q0+(wTk ts[j]).length+1:=by have:=LN.o;omega
          have n3:¬9223372036854775807<q0+(wTk ts[j]).length+1+rest.size:=by have:=LN.o;omega
          refine tkQ 9 ?_
          refine tkQ 10 ?_
          refine tkQ 12 ?_
          refine tkQ 13 ?_
          refine tkD ?_
          obtain⟨U,hU⟩:∃q,q=s.extract 0 q0++{ data:=(wTk ts[j]).toArray }++{ data:=#[10] }++rest:=⟨_,rfl⟩
          have UD:Hid (U.data.toList=s.data.toList.take q0++(wTk ts[j]++10::rest.data.toList)):=by
           show _=_
           rw[hU]
           simp[ByteArray.data_append,ByteArray.data_extract]
          have US:Hid (U.size≤maxLen):=by
           have h:U.data.toList.length=U.size:=by simp
           rw[UD.o] at h
           have:=LN.o
           simp at h
           show _≤9223372036854775807
           omega
          rw[←hU]
          clear hU
          have LW:=η (LAW.o ts[j] (List.getElem_mem hlt) hb)
          replace HB:=η (bel HB.o hHeld)
          clear hb4 hHeld n1 n2 n3 hwr lc HQ HL1 LAW END GOOD
          go_wp2_with fail
          refine (scan_uni U W4 US.o).mono ?_
          rintro _ W5 ⟨A3,c3,ts3,x3,p3,rfl,hb5,-,hr3⟩
          have R3:=η hr3
          replace HB:=η (bel HB.o hb5)
          clear hb5 hr3
          go_wp2_with fail
          refine (run_uni (patch_any U W5 US.o)).mono ?_
          rintro _ W6 ⟨k4,s4,n4,p4,D4,l4,c4,a4,x4,q4,rfl,hb6,-,hr4⟩
          obtain⟨Y6,hY6,by6,-,-,-,-,-,-⟩:=nb5 W6 k4 s4 n4 p4 D4 l4 c4
          have R4:=η hr4
          replace HB:=η (bel HB.o (bel hb6 by6.o))
          clear hb6 by6 hr4
          go_upto_region 15 with fail
          rw[←hY6.o]
          clear hY6
          by_cases hx3:x3=0
          · have hs3:scanP U.data.toList=.ok ts3:=by
             rcases R3.o with ⟨_,h,_⟩|⟨h,_⟩
             · exact absurd hx3 h
             · exact h
            have hlw:=LW.o ts3
            rw[show ((q0:Int)).toNat=q0 from rfl,←UD.o] at hlw
            have hrr:=hlw hs3
            have h4:x4=2∧q4=(q0:Int):=by
             rcases R4.o with ⟨h,_⟩|⟨h,_⟩
             · rw[hrr] at h;injection h with h1 h2;exact⟨h1.symm,h2.symm⟩
             · rw[hrr] at h;cases h
            obtain⟨rfl,rfl⟩:=h4
            subst hx3
            clear hs3 hlw hrr
            go_wp2
            go_ret
            exact⟨rfl,HB.o⟩
          · have e3:(x3 != (0:Int))=true:=by simpa using hx3
            go_wp2
            go_ret
            exact⟨rfl,HB.o⟩
        · have v2:(ts[j].pos != q2)=true:=by simpa using hb
          have HQ2:Hid (∀k (h:k<ts.length),k<j+1→ts[k].pos≠q2):=fun k h hk=>by
           by_cases e:k=j
           · subst e;exact hb
           · exact HQ.o k h ω
          go_wp2_with fail
          exact⟨⟨j+1,by omega,by go_num,HQ2,η trivial⟩,by simp[intOf];omega⟩
      · obtain rfl:j=ts.length:=by omega
        have v1:decide ((ts.length:Int)<(ts.length:Int))=false:=decide_eq_false ω
        have he:(q2==(s.size:Int))=true:=beq_iff_eq.2 (END.o fun t ht=>by
         obtain⟨k,hk,rfl⟩:=List.mem_iff_getElem.1 ht
         exact HQ.o k hk hk)
        go_wp2
        go_ret
        exact⟨rfl,HB.o⟩
   · have e1:(x2 != (2:Int))=true:=by simpa using hx2
     subst hx1
     go_wp2
     go_ret
     exact⟨rfl,HB.o⟩
 · have e1:(x1 != (0:Int))=true:=by simpa using hx1
   go_wp2
   go_ret
   exact⟨rfl,HB.o⟩
end Go.Proofs.YtbjdcogmiggamaaGreatDoor
