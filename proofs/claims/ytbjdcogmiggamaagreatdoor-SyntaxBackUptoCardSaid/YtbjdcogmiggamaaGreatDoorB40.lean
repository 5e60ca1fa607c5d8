import Derived.Test.YtbjdcogmiggamaaGreatDoorB39
set_option linter.all false
namespace Go.Proofs.YtbjdcogmiggamaaGreatDoor
open Proofs.Tryz RowKit Maps WideMaps ChangeMaps
set_option maxRecDepth 100000
set_option maxHeartbeats 8000000
section
theorem lead_w {wb mb:Nat} {ts:List Tk} {w:À} {P:Nat→Prop} {a:List Nd} {A:Option Addr} {cap:Nat} (hw:Wr wb mb ts w) (ha:NdsR w P (.slice A a.length cap) a):Calls prog 116 #[.slice A a.length cap] w (LvSaid wb mb ts (leadB a) w):=
 (lead_any a A cap w P ha).mono fun e w' h=>⟨h.1,hw.bel h.2,WrC.bel h.2 hw.lt⟩
def MemW (j:Nat) (z:Nd):Prop:=0<(ndS z).size∧((ndK z=9∧∃x y,ndL z=[x,y]∧shp j .typ x=true∧shp j .exp y=true)∨(ndK z≠9∧0<(ndL z).length∧(initN z).all (shp j .fld)=true∧shp j .blk (lastN z)=true))
theorem ws_gen {wb mb nb:Nat} {bx:Array Value} {av:Value} {a:List Nd} {T:List Tk} {w X:À} (S:Hid (WS wb mb nb bx av a T w X)):∃bx T0,Hid (T0=T)∧Hid (WS wb mb nb bx av a T0 w X):=⟨_,_,η rfl,S⟩
theorem UC {P:Prop} (h:P:=by
 intro wb mb ts A cap w hw hn hz
 have lm:a.length≤9223372036854775807:=(nd_kids hn).len.2
 have lc:a.length≤cap:=(nd_kids hn).cap
 have hs:=nd_sz hn
 obtain⟨HZ,HN⟩:=zd2 hz hn
 (try have HS0:=η (And.intro hs0 hs))
 (try (have EA:=eaK H hal rfl;unfold Sh.wn at EA;replace EA:=η EA))
 (try (have EB:=eaK H hal2 rfl;unfold Sh.wn at EB;replace EB:=η EB))
 have HL1:Hid ((a.take (leadB a)).length=leadB a):=η (by rw[List.length_take];have:=lead_le a;omega)
 have HL2:Hid ((a.drop (leadB a)).length=a.length-leadB a):=η List.length_drop
 have hs1:∀(A:Option Addr) (W:À),(Instr.slice 22 (.slice A a.length cap) none (some (.int .i64 (leadB a:Int))) none).run prog W=.ok (.slice A (leadB a) cap) W:=fun A W=>run_upto22 W A _ _ _ (lead_le a) lc
 have hs2:∀(A:Option Addr) (W:À),(Instr.slice 22 (.slice A a.length cap) (some (.int .i64 (leadB a:Int))) none none).run prog W=.ok (.slice (fromA A cap (leadB a) 5) (a.length-leadB a) (cap-leadB a)) W:=fun A W=>run_from22 W A _ _ _ (lead_le a)
 obtain⟨W1,hW1,S⟩:=ws0 hw hn
 clear hw hn hz
 go_in
 go_upto_region 1 with fail
 rw[←hW1.o]
 clear hW1
 repeat (obtain⟨y0,y1,y2,y3,y4⟩:=cf5 S.o.y;go_wp2_with fail;(first|((with_reducible refine (wc1 S.o.t ?_ ?_).mono ?_);exact Zw;exact Zb)|((with_reducible refine (wc2 S.o.t ?_ ?_ ?_).mono ?_);exact Zw;exact Zw;exact Zb)|((with_reducible refine (wc3 S.o.t ?_ ?_ ?_ ?_).mono ?_);exact Zw;exact Zw;exact Zw;exact Zb)|(with_reducible refine (lead_w S.o.t S.o.a).mono ?_)|((with_reducible refine (list_at _ _ (a.take (leadB a)) _ _ _ HL1.o S.o.t ?_ ?_ (NdsR.upto S.o.a (leadB a) (lead_le a)) (EA.o wb mb _) ?_).mono ?_);exact Zw;exact Zw;exact Zb)|((with_reducible refine (list_at _ _ (a.drop (leadB a)) _ _ _ HL2.o S.o.t ?_ ?_ (NdsR.from S.o.a (leadB a) (lead_le a)) (EB.o wb mb _) ?_).mono ?_);exact Zw;exact Zw;exact Zb)|((with_reducible refine (integer_any _ S.o.t ?_).mono ?_);exact Zb));rintro _ X ⟨rfl,hT,hC⟩;replace S:=η (S.o.step hT hC);clear hT hC y0 y1 y2 y3 y4)
 obtain⟨y0,y1,y2,y3,y4⟩:=cf5 S.o.y
 go_wp2_with fail
 first|go_end0|refine bodyPost_ret (results_none rfl _ _ _) rfl ?_
 exact⟨rfl,(by have h:=S.o.t;(try simp only[List.append_assoc,List.cons_append,List.nil_append,List.map_cons,List.map_nil] at h);(try simp only[List.append_assoc,List.cons_append,List.nil_append,List.map_cons,List.map_nil]);exact h),S.o.c⟩):P:=h
theorem UA {P:Prop} (h:P:=by
 intro wb mb ts A cap w hw hn hz
 have lm:a.length≤9223372036854775807:=(nd_kids hn).len.2
 have lc:a.length≤cap:=(nd_kids hn).cap
 have hs:=nd_sz hn
 obtain⟨HZ,HN⟩:=zd2 hz hn
 (try have HS0:=η (And.intro hs0 hs))
 (try (have EA:=eaK H hal rfl;unfold Sh.wn at EA;replace EA:=η EA))
 (try (have EB:=eaK H hal2 rfl;unfold Sh.wn at EB;replace EB:=η EB))
 have HL1:Hid ((a.take (leadB a)).length=leadB a):=η (by rw[List.length_take];have:=lead_le a;omega)
 have HL2:Hid ((a.drop (leadB a)).length=a.length-leadB a):=η List.length_drop
 have hs1:∀(A:Option Addr) (W:À),(Instr.slice 22 (.slice A a.length cap) none (some (.int .i64 (leadB a:Int))) none).run prog W=.ok (.slice A (leadB a) cap) W:=fun A W=>run_upto22 W A _ _ _ (lead_le a) lc
 have hs2:∀(A:Option Addr) (W:À),(Instr.slice 22 (.slice A a.length cap) (some (.int .i64 (leadB a:Int))) none none).run prog W=.ok (.slice (fromA A cap (leadB a) 5) (a.length-leadB a) (cap-leadB a)) W:=fun A W=>run_from22 W A _ _ _ (lead_le a)
 (try have HW:Hid (IntKind.i64.wrap (n-1)=n-1):=η (by have h:=of_decide_eq_true hv2;rw[IntKind.wrap_i64];omega))
 (try have HW2:Hid (wrap64 (n-1)=n-1):=η (by have h:=of_decide_eq_true hv2;unfold wrap64;omega))
 (try clear hn9)
 obtain⟨W1,hW1,S⟩:=ws0 hw hn
 clear hw hn hz
 go_in
 go_upto_region 1 with fail
 rw[←hW1.o]
 clear hW1
 repeat (obtain⟨y0,y1,y2,y3,y4⟩:=cf5 S.o.y;go_wp2_with fail;(first|rw[HW.o]|rw[HW2.o]|skip);(first|((with_reducible refine (wc1 S.o.t ?_ ?_).mono ?_);exact Zw;exact Zb)|((with_reducible refine (wc2 S.o.t ?_ ?_ ?_).mono ?_);exact Zw;exact Zw;exact Zb)|((with_reducible refine (wc3 S.o.t ?_ ?_ ?_ ?_).mono ?_);exact Zw;exact Zw;exact Zw;exact Zb)|(with_reducible refine (lead_w S.o.t S.o.a).mono ?_)|((with_reducible refine (list_at _ _ (a.take (leadB a)) _ _ _ HL1.o S.o.t ?_ ?_ (NdsR.upto S.o.a (leadB a) (lead_le a)) (EA.o wb mb _) ?_).mono ?_);exact Zw;exact Zw;exact Zb)|((with_reducible refine (list_at _ _ (a.drop (leadB a)) _ _ _ HL2.o S.o.t ?_ ?_ (NdsR.from S.o.a (leadB a) (lead_le a)) (EB.o wb mb _) ?_).mono ?_);exact Zw;exact Zw;exact Zb)|((with_reducible refine (integer_any _ S.o.t ?_).mono ?_);exact Zb));rintro _ X ⟨rfl,hT,hC⟩;replace S:=η (S.o.step hT hC);clear hT hC y0 y1 y2 y3 y4)
 obtain⟨y0,y1,y2,y3,y4⟩:=cf5 S.o.y
 go_wp2_with fail
 obtain⟨bx,T0,hT0,S⟩:=ws_gen S
 have HZT:Hid (T0.length+(((a.drop (leadB a)).flatMap (memT (tok j))).length+1)≤wTop):=η (by have e:=congrArg List.length hT0.o;have h:=HZ.o;simp only[List.length_append,List.length_cons,List.length_nil,List.map_cons,List.map_nil] at e h ⊢;omega)
 go_loopw [51] (fun i wr=>∃(q:Nat),q≤a.length-leadB a∧i=.int .i64 q∧Hid (WS wb mb w.heap.size bx (.slice A a.length cap) a (T0++((a.drop (leadB a)).take q).flatMap (memT (tok j))) w wr)) (fun i _=>a.length-leadB a-(intOf i).toNat)
 case atStart=>exact⟨0,by omega,rfl,by rw[List.take_zero];exact η (by simpa using S.o)⟩
 case round =>
  clear y0 y1 y2 y3 y4
  obtain⟨q,hq,rfl,HT⟩:=hrel
  have HD:Hid ((a.drop (leadB a)).length=a.length-leadB a):=HL2.o
  have HLa:=NdsR.from HT.o.a (leadB a) (lead_le a)
  by_cases hlt:q<a.length-leadB a
  · have hlt2:q<(a.drop (leadB a)).length:=by rw[HD.o];exact hlt
    have u1:decide ((q:Int)<((a.length-leadB a:Nat):Int))=true:=decide_eq_true ω
    rw[←HD.o] at HLa
    obtain⟨g1,o1,k1,s1,m1,p1,D1,l1,c1,hA1,hg,hr1,e0,e1,e2,e3,e4⟩:=nds_at HLa hlt2
    rw[hA1]
    have hz2:=HMEM.o _ (List.getElem_mem hlt2)
    obtain⟨z,hz⟩:∃z,Hid (z=(a.drop (leadB a))[q]):=⟨_,η rfl⟩
    rw[←hz.o] at hr1 hz2
    obtain rfl:=kid_ks hr1
    have hk1:=η (kid_kl hr1).1
    have HKS:Hid (0<(ndS z).size∧(ndS z).size≤maxLen):=⟨hz2.1,nd_sz hr1⟩
    obtain⟨cs,hcs⟩:∃cs,Hid (cs=ndL z):=⟨_,rfl⟩
    have hl1:l1=cs.length:=(kid_kl hr1).2.trans (by rw[hcs.o])
    subst hl1
    have hc0:0<cs.length:=by
     rw[hcs.o]
     rcases hz2.2 with ⟨_,x,y,e,_⟩|⟨_,h,_⟩
     · rw[e];simp
     · exact h
    have hcn:=kid_nds hr1
    rw[←hcs.o] at hcn
    obtain⟨b2,off2,rfl⟩:=NdsR.some hcn hc0
    have lm2:cs.length≤9223372036854775807:=hcn.len.2
    have lc2:cs.length≤c1:=hcn.cap
    obtain⟨HR,HZ2⟩:=zd2 hr1 hz2
    have q0:(0:Int)≤(q:Int):=by omega
    have q1:(q:Int)<((a.length-leadB a:Nat):Int):=by omega
    obtain⟨W2,hW2⟩:∃r,Hid (r=wr.alloc (.cells (cl k1 (ndS z) m1 p1 (some ⟨b2,off2,none⟩) cs.length c1).toArray 24)):=⟨_,rfl⟩
    have B2:Hid (Below wr.heap.size wr W2):=by show Below _ _ _;rw[hW2.o];exact belA (belR _) _
    have X2:Hid (Hs W2 wr.heap.size 24 (cl k1 (ndS z) m1 p1 (some ⟨b2,off2,none⟩) cs.length c1).toArray):=by show Hs _ _ _ _;rw[hW2.o];exact Hs.new _ _ _
    have N2:Hid (¬wOwn wb W2 wr.heap.size):=fun e=>by have:=HT.o.t.own_lt _ ((own_bel B2.o HT.o.t.lt _).1 e);omega
    obtain⟨R2,S2⟩:=zd2 (HR.o.to (WrC.bel B2.o HT.o.t.lt).sub) (HT.o.bel B2.o)
    have HJ:Hid (((a.drop (leadB a)).take (q+1)).flatMap (memT (tok j))=((a.drop (leadB a)).take q).flatMap (memT (tok j))++memT (tok j) z):=by
     show _=_
     rw[List.take_succ_eq_append_getElem hlt2,List.flatMap_append,hz.o];simp
    have HLE:Hid ((((a.drop (leadB a)).take q).flatMap (memT (tok j))).length+(memT (tok j) z).length≤((a.drop (leadB a)).flatMap (memT (tok j))).length):=by
     show _≤_
     have e:=congrArg List.length HJ.o
     have e2:((a.drop (leadB a)).flatMap (memT (tok j))).length=(((a.drop (leadB a)).take (q+1)).flatMap (memT (tok j))).length+(((a.drop (leadB a)).drop (q+1)).flatMap (memT (tok j))).length:=by
      rw[←List.length_append,←List.flatMap_append,List.take_append_drop]
     rw[List.length_append] at e
     omega
    obtain⟨PQ,hPQ⟩:∃PQ,Hid (PQ=((a.drop (leadB a)).take q).flatMap (memT (tok j))):=⟨_,rfl⟩
    obtain⟨AQ,hAQ⟩:∃AQ,Hid (AQ=(a.drop (leadB a)).flatMap (memT (tok j))):=⟨_,rfl⟩
    have HZ3:=HZT
    rw[←hAQ.o] at HZ3
    have HLE0:=HLE
    rw[←hPQ.o,←hAQ.o] at HLE0
    rw[←hPQ.o] at S2
    clear hr1 hg hz2 hcn HLE
    have r0:(0:Int)≤(cs.length:Int)-1:=by omega
    have r1:(cs.length:Int)-1<(cs.length:Int):=by omega
    go_upto_region 13 with fail
    rw[←hW2.o]
    clear hW2 e0 e1 e2 e3 e4
    obtain⟨f0,f1,f2,f3,f4⟩:=cf5 X2.o
    by_cases c9:k1=9
    · have u2:(k1==9)=true:=beq_iff_eq.2 c9
      obtain⟨x,y,hxy,hx,hy⟩:∃x y,cs=[x,y]∧shp j .typ x=true∧shp j .exp y=true:=by
       rcases HZ2.o.2 with ⟨_,x,y,e,h1,h2⟩|⟨h,_⟩
       · exact⟨x,y,hcs.o.trans e,h1,h2⟩
       · exact absurd (hk1.o.symm.trans c9) h
      obtain⟨HXY,HX,HY⟩:=zd3 hxy hx hy
      have i0:(0:Int)<(cs.length:Int):=by omega
      have i1:(1:Int)<(cs.length:Int):=by rw[hxy];simp
      have HM:Hid (memT (tok j) z=[wT [115,116,97,116,101],wdT (ndS z),wT [58]]++(tok j .typ x++([wT [61]]++tok j .exp y))):=by
       show _=_
       unfold memT kid
       rw[if_pos (hk1.o.symm.trans c9),←hcs.o,hxy];rfl
      have HLE2:=HLE0
      rw[HM.o] at HLE2
      clear hxy hx hy
      go_wp2_with fail
      refine (words_call [str [115,116,97,116,101],ndS z,str [58]] S2.o.t (by intro x hx;simp only[List.mem_cons,List.not_mem_nil,or_false] at hx;rcases hx with rfl|rfl|rfl<;>first|exact HKS.o|exact⟨by decide,by decide⟩) (by have h1:=HLE2.o;have h2:=HZ3.o;simp only[List.length_append,List.length_cons,List.length_nil,List.map_cons,List.map_nil] at h1 h2 ⊢;omega)).mono ?_
      rintro _ W3 ⟨rfl,hT,hC⟩
      obtain⟨S3,R3,X3⟩:=zd3 (S2.o.step hT hC) (R2.o.to hC.sub) (hC.hs X2.o N2.o)
      have N3:Hid (¬wOwn wb W3 wr.heap.size):=X3.o.2
      replace X3:=η X3.o.1
      clear hT hC f0 f1 f2 f3 f4
      obtain⟨k5,s5,m5,p5,D5,l5,c5,hr5,e0,e1,e2,e3,e4⟩:=kid_at (show NdsR _ _ (.slice (some ⟨b2,off2,none⟩) cs.length c1) cs from by have h:=kid_nds R3.o;rw[←hcs.o] at h;exact h) (i:=0) hc0
      have HR5:=η hr5
      clear hr5
      obtain⟨f0,f1,f2,f3,f4⟩:=cf5 X3.o
      simp only[Nat.zero_mul,Nat.add_zero] at e0 e1 e2 e3 e4
      go_wp2_with fail
      refine (HJJ.o .typ rfl wb mb _ (cl k5 s5 m5 p5 D5 l5 c5) _ _ S3.o.t HR5.o (by simp only[HXY.o];exact HX.o) (by simp only[HXY.o,List.getElem_cons_zero];exact (by have h1:=HLE2.o;have h2:=HZ3.o;simp only[List.length_append,List.length_cons,List.length_nil,List.map_cons,List.map_nil] at h1 h2 ⊢;omega))).mono ?_
      rintro _ W4 ⟨rfl,hT,hC⟩
      obtain⟨S4,R4,X4⟩:=zd3 (S3.o.step hT hC) (R3.o.to hC.sub) (hC.hs X3.o N3.o)
      have N4:Hid (¬wOwn wb W4 wr.heap.size):=X4.o.2
      replace X4:=η X4.o.1
      clear hT hC f0 f1 f2 f3 f4 e0 e1 e2 e3 e4
      obtain⟨f0,f1,f2,f3,f4⟩:=cf5 X4.o
      go_wp2_with fail
      refine (words_call [str [61]] S4.o.t (by intro x hx;rw[List.mem_singleton] at hx;rw[hx];exact⟨by decide,by decide⟩) (by simp only[HXY.o,List.getElem_cons_zero];exact (by have h1:=HLE2.o;have h2:=HZ3.o;simp only[List.length_append,List.length_cons,List.length_nil,List.map_cons,List.map_nil] at h1 h2 ⊢;omega))).mono ?_
      rintro _ W5 ⟨rfl,hT,hC⟩
      obtain⟨S5,R5,X5⟩:=zd3 (S4.o.step hT hC) (R4.o.to hC.sub) (hC.hs X4.o N4.o)
      have N5:Hid (¬wOwn wb W5 wr.heap.size):=X5.o.2
      replace X5:=η X5.o.1
      clear hT hC f0 f1 f2 f3 f4
      obtain⟨k5,s5,m5,p5,D5,l5,c5,hr5,e0,e1,e2,e3,e4⟩:=kid_at (show NdsR _ _ (.slice (some ⟨b2,off2,none⟩) cs.length c1) cs from by have h:=kid_nds R5.o;rw[←hcs.o] at h;exact h) (i:=1) (by rw[HXY.o];simp)
      have HR5:=η hr5
      clear hr5
      obtain⟨f0,f1,f2,f3,f4⟩:=cf5 X5.o
      have g1:=e1;have g2:=e2;have g3:=e3;have g4:=e4
      simp only[Nat.add_assoc,Nat.reduceMul,Nat.reduceAdd] at g1 g2 g3 g4
      simp only[Nat.reduceMul] at e0 e1 e2 e3 e4
      go_wp2_with fail
      refine (HJJ.o .exp rfl wb mb _ (cl k5 s5 m5 p5 D5 l5 c5) _ _ S5.o.t HR5.o (by simp only[HXY.o];exact HY.o) (by simp only[HXY.o,List.getElem_cons_zero,List.getElem_cons_succ];exact (by have h1:=HLE2.o;have h2:=HZ3.o;simp only[List.length_append,List.length_cons,List.length_nil,List.map_cons,List.map_nil] at h1 h2 ⊢;omega))).mono ?_
      rintro _ W6 ⟨rfl,hT,hC⟩
      have S6:=η (S5.o.step hT hC)
      clear hT hC e0 e1 e2 e3 e4 g1 g2 g3 g4 f0 f1 f2 f3 f4
      go_wp2_with fail
      exact⟨⟨q+1,by omega,by go_num,by have h:=S6.o;simp only[HXY.o,List.getElem_cons_zero,List.getElem_cons_succ] at h;rw[HJ.o,←hPQ.o,HM.o];exact η (by simpa[wT] using h)⟩,by simp[intOf];omega⟩
    · have u2:(k1==9)=false:=beq_eq_false_iff_ne.2 c9
      obtain⟨hall,hblk⟩:(initN z).all (shp j .fld)=true∧shp j .blk (lastN z)=true:=by
       rcases HZ2.o.2 with ⟨h,_⟩|⟨_,_,h1,h2⟩
       · exact absurd (hk1.o.trans h) c9
       · exact⟨h1,h2⟩
      have hcm:cs.length-1<cs.length:=by omega
      have HLN:Hid (lastN z=cs[cs.length-1]):=by
       show _=_
       unfold lastN kid
       rw[←hcs.o,List.getD_eq_getElem?_getD,List.getElem?_eq_getElem hcm];rfl
      have HIN:Hid (initN z=cs.take (cs.length-1)):=by show _=_;unfold initN;rw[←hcs.o]
      rw[HIN.o] at hall
      rw[HLN.o] at hblk
      obtain⟨HALL,HBLK,HCM⟩:=zd3 hall hblk hcm
      have HLEN3:Hid ((cs.take (cs.length-1)).length=cs.length-1):=by show _=_;rw[List.length_take];omega
      have hs3:∀W:À,(Instr.slice 22 (.slice (some ⟨b2,off2,none⟩) cs.length c1) none (some (.int .i64 ((cs.length:Int)-1))) none).run prog W=.ok (.slice (some ⟨b2,off2,none⟩) (cs.length-1) c1) W:=fun W=>(by have h:=run_upto22 W (some ⟨b2,off2,none⟩) cs.length c1 (cs.length-1) ω lc2;simpa[show ((cs.length-1:Nat):Int)=(cs.length:Int)-1 by omega] using h)
      have HM:Hid (memT (tok j) z=[wT [111,110],wdT (ndS z)]++((wdT (str [40])::(joinT ((cs.take (cs.length-1)).map (tok j .fld))++[wdT (str [41])]))++tok j .blk (cs[cs.length-1]'hcm))):=by
       show _=_
       unfold memT
       rw[if_neg (fun e=>c9 (hk1.o.trans e)),HIN.o,HLN.o];rfl
      have HLE2:=HLE0
      rw[HM.o] at HLE2
      clear hall hblk
      go_wp2_with fail
      refine (words_call [str [111,110],ndS z] S2.o.t (by intro x hx;simp only[List.mem_cons,List.not_mem_nil,or_false] at hx;rcases hx with rfl|rfl<;>first|exact HKS.o|exact⟨by decide,by decide⟩) (by have h1:=HLE2.o;have h2:=HZ3.o;simp only[List.length_append,List.length_cons,List.length_nil,List.map_cons,List.map_nil] at h1 h2 ⊢;omega)).mono ?_
      rintro _ W3 ⟨rfl,hT,hC⟩
      obtain⟨S3,R3,X3⟩:=zd3 (S2.o.step hT hC) (R2.o.to hC.sub) (hC.hs X2.o N2.o)
      have N3:Hid (¬wOwn wb W3 wr.heap.size):=X3.o.2
      replace X3:=η X3.o.1
      clear hT hC f0 f1 f2 f3 f4
      obtain⟨f0,f1,f2,f3,f4⟩:=cf5 X3.o
      go_wp2_with fail
      refine (list_at (str [40]) (str [41]) (cs.take (cs.length-1)) _ _ _ HLEN3.o S3.o.t ⟨by decide,by decide⟩ ⟨by decide,by decide⟩ (NdsR.upto (show NdsR _ _ (.slice (some ⟨b2,off2,none⟩) cs.length c1) cs from by have h:=kid_nds R3.o;rw[←hcs.o] at h;exact h) (cs.length-1) ω) (each_of HJJ.o .fld rfl HALL.o wb mb _) (by have h1:=HLE2.o;have h2:=HZ3.o;simp only[List.length_append,List.length_cons,List.length_nil,List.map_cons,List.map_nil] at h1 h2 ⊢;omega)).mono ?_
      rintro _ W4 ⟨rfl,hT,hC⟩
      obtain⟨S4,R4,X4⟩:=zd3 (S3.o.step hT hC) (R3.o.to hC.sub) (hC.hs X3.o N3.o)
      have N4:Hid (¬wOwn wb W4 wr.heap.size):=X4.o.2
      replace X4:=η X4.o.1
      clear hT hC f0 f1 f2 f3 f4
      obtain⟨k5,s5,m5,p5,D5,l5,c5,hr5,e0,e1,e2,e3,e4⟩:=kid_at (show NdsR _ _ (.slice (some ⟨b2,off2,none⟩) cs.length c1) cs from by have h:=kid_nds R4.o;rw[←hcs.o] at h;exact h) (i:=cs.length-1) HCM.o
      have HR5:=η hr5
      clear hr5
      obtain⟨f0,f1,f2,f3,f4⟩:=cf5 X4.o
      go_wp2_with fail
      refine (HJJ.o .blk rfl wb mb _ (cl k5 s5 m5 p5 D5 l5 c5) _ _ S4.o.t HR5.o HBLK.o (by have h1:=HLE2.o;have h2:=HZ3.o;simp only[List.length_append,List.length_cons,List.length_nil,List.map_cons,List.map_nil] at h1 h2 ⊢;omega)).mono ?_
      rintro _ W6 ⟨rfl,hT,hC⟩
      have S6:=η (S4.o.step hT hC)
      clear hT hC e0 e1 e2 e3 e4 f0 f1 f2 f3 f4
      go_wp2_with fail
      exact⟨⟨q+1,by omega,by go_num,by have h:=S6.o;rw[HJ.o,←hPQ.o,HM.o];exact η (by simpa[wT] using h)⟩,by simp[intOf];omega⟩
  · have u1:decide ((q:Int)<((a.length-leadB a:Nat):Int))=false:=decide_eq_false ω
    have HJ:Hid (((a.drop (leadB a)).take q)=a.drop (leadB a)):=List.take_of_length_le (by rw[HD.o];omega)
    rw[HJ.o] at HT
    go_wp2_with fail
    refine (words_call [str [125]] HT.o.t (by intro x hx;rw[List.mem_singleton] at hx;rw[hx];exact⟨by decide,by decide⟩) (by have h2:=HZT.o;simp only[List.length_append,List.length_cons,List.length_nil,List.map_cons,List.map_nil] at h2 ⊢;omega)).mono ?_
    rintro _ W6 ⟨rfl,hT,hC⟩
    have S6:=η (HT.o.step hT hC)
    clear hT hC
    go_wp2_with fail
    first|go_end0|refine bodyPost_ret (results_none rfl _ _ _) rfl ?_
    exact⟨rfl,(by have h1:=S6.o.t;rw[hT0.o] at h1;(try simp only[List.append_assoc,List.cons_append,List.nil_append,List.map_cons,List.map_nil] at h1);(try simp only[List.append_assoc,List.cons_append,List.nil_append,List.map_cons,List.map_nil]);exact h1),S6.o.c⟩):P:=h
section
variable {k j:Nat} {s:Ê} {n p:Int} {a:List Nd}
theorem w_cnv71 (H:AllW k) (hs0:0<s.size) (hal:(a.take (leadB a)).all (shp k .fld)=true) (hal2:(a.drop (leadB a)).all (shp k .set)=true):Wf 75 71 s n p a ([wT [99,111,110,118,101,114,116]]++([wT [97,99,116,111,114],wdT s]++((wdT (str [40])::(joinT ((a.take (leadB a)).map (tok k .fld))++[wdT (str [41])]))++((wdT (str [123])::(joinT ((a.drop (leadB a)).map (tok k .set))++[wdT (str [125])])))))):=UC
theorem w_act0 (H:AllW k) (hs0:0<s.size) (hal:(a.take (leadB a)).all (shp k .fld)=true) (HJJ:Hid (AllW j)) (HMEM:Hid (∀z∈a.drop (leadB a),MemW j z)):Wf 73 6 s 0 p a ([wT [97,99,116,111,114],wdT s]++((wdT (str [40])::(joinT ((a.take (leadB a)).map (tok k .fld))++[wdT (str [41])]))++([wT [123]]++((((a.drop (leadB a)).flatMap (memT (tok j)))++[wT [125]]))))):=UA
theorem w_actN (H:AllW k) (hs0:0<s.size) (hal:(a.take (leadB a)).all (shp k .fld)=true) (HJJ:Hid (AllW j)) (HMEM:Hid (∀z∈a.drop (leadB a),MemW j z)) (hv1:decide (n<0)=true):Wf 73 6 s n p a ([wT [97,99,116,111,114],wdT s]++((wdT (str [40])::(joinT ((a.take (leadB a)).map (tok k .fld))++[wdT (str [41])]))++([wT [101,115,99,97,108,97,116,101]]++([wT [123]]++((((a.drop (leadB a)).flatMap (memT (tok j)))++[wT [125]])))))):=UA
theorem w_actP (H:AllW k) (hs0:0<s.size) (hal:(a.take (leadB a)).all (shp k .fld)=true) (HJJ:Hid (AllW j)) (HMEM:Hid (∀z∈a.drop (leadB a),MemW j z)) (hv1:decide (n<0)=false) (hv2:decide (0<n)=true) (hn9:n≤9007199254740993):Wf 73 6 s n p a ([wT [97,99,116,111,114],wdT s]++((wdT (str [40])::(joinT ((a.take (leadB a)).map (tok k .fld))++[wdT (str [41])]))++([wT [114,101,115,116,97,114,116]]++([inT (n-1)]++([wT [123]]++((((a.drop (leadB a)).flatMap (memT (tok j)))++[wT [125]]))))))):=UA
end
end
theorem w_pri21 {wb mb:Nat} {ts:List Tk} (s:Ê) (n p:Int) (a:List Nd) (A:Option Addr) (cap:Nat) (w:À) (hw:Wr wb mb ts w) (hn:NdR w (im (wOwn wb w) w) (cl 21 s n p A a.length cap) (.mk 21 s n p a)) (hz:ts.length+1≤wTop):Calls prog 164 #[.pointer (some ⟨wb,0,none⟩),.agg (cl 21 s n p A a.length cap).toArray] w (WrSaid wb mb (ts++[⟨3,s,0,0⟩]) w):=by
 have hs:=nd_sz hn
 obtain⟨io,hio,hiz,his,hib⟩:=info_parts info_42
 have HIO:=η (And.intro hio (And.intro hiz (And.intro his hib)))
 obtain⟨W1,hW1⟩:∃q,Hid (q=w.alloc (.cells (cl 21 s n p A a.length cap).toArray 24)):=⟨_,rfl⟩
 have S:Hid (WS wb mb w.heap.size (cl 21 s n p A a.length cap).toArray (.slice A a.length cap) a ts w W1):=by show WS _ _ _ _ _ _ _ _ _;rw[hW1.o];exact WS.start hw hn
 have y0:W1.cell? ⟨w.heap.size,0,none⟩=some (.int .i64 21):=S.o.y.c 0
 have y1:W1.cell? ⟨w.heap.size,1,none⟩=some (.string s):=S.o.y.c 1
 have HTJ:=η hz
 clear hw hn hz hio hiz his hib
 go_in
 go_upto_region 1 with fail
 rw[←hW1.o]
 clear hW1
 go_upto_region 6 with fail
 clear y0 y1
 replace S:=η (S.o.bel (belDr W1))
 obtain⟨v,hb,ho,hv1,hv2⟩:=S.o.t.row
 obtain⟨Ar,cr,rfl⟩:=row_form ho
 obtain⟨HB,HO,HV⟩:=zd3 hb ho (And.intro hv1 hv2)
 have HLV:=η S.o.t.lev;have HNW:=η S.o.t.ne
 have HQ:Hid ((Value.slice Ar ts.length cr).ownBlock≠some w.heap.size):=fun e=>S.o.n (.inr ⟨_,HB.o.c 0,e⟩)
 obtain⟨Z,hZ⟩:∃Z:À→Prop,Hid (∀X,Z X↔X.cell? ⟨wb,0,none⟩=some (.slice Ar ts.length cr)∧X.cell? ⟨w.heap.size,1,none⟩=some (.string s)):=⟨_,η fun _=>Iff.rfl⟩
 have zA:∀X,Z X→X.cell? ⟨wb,0,none⟩=some (.slice Ar ts.length cr):=fun X h=>((hZ.o X).1 h).1
 have zB:∀X,Z X→X.cell? ⟨w.heap.size,1,none⟩=some (.string s):=fun X h=>((hZ.o X).1 h).2
 have z0:Z W1.drew:=(hZ.o _).2 ⟨HB.o.c 0,S.o.y.c 1⟩
 clear hb ho hv1 hv2
 refine ttB Z 12 z0 (fun hHeld=>?_)
 generalize W1.drew=X0 at *
 refine ttQ 0 ?_
 refine ttQ 1 ?_
 refine ttQ 2 ?_
 refine ttQ 3 ?_
 refine ttQ 4 ?_ (hy:=by intro w hSw;have:=zA w hSw;go_simp;first|done|with_reducible rfl)
 refine ttQ 5 ?_
 refine ttQ 6 ?_ (hy:=by intro w hSw;have:=zB w hSw;go_simp;first|done|with_reducible rfl)
 refine ttQ 7 ?_
 refine ttE 8 (fun K hK=>?_)
 go_simp
 refine ttR hK (fun _=>(hZ.o _).2 ⟨celA (zA _ z0) _,celA (zB _ z0) _⟩) (fun hHeld=>?_)
 clear hK K
 refine ttE 9 (fun K hK=>?_)
 rw[if_pos (by rfl)]
 refine app_wp (.tmp 23) (.tmp 27) 28 rfl 0 42 io _ 4 40 underlying28 HIO.o.1 HIO.o.2.1 HIO.o.2.2.1 HIO.o.2.2.2 rfl π (.slice Ar ts.length cr) ts.length (ts.flatMap tkv) rfl (row_al HO.o _) ⟨X0.heap.size,0,none⟩ 1 1 (tkv ⟨3,s,0,0⟩) rfl rfl (World.news_of_block (Hs.new _ _ _)) (by intro u hu;simp[tkv] at hu;repeat (first|(subst hu;rfl)|(rcases hu with rfl|hu;rfl))) (by have:=HTJ.o;unfold wTop at this;unfold maxLen;omega) (by have:=HTJ.o;unfold wTop at this;omega) (Nat.zero_le _) ?_
 intro vv W5 hown hgrow hnil hvb
 obtain⟨A6,c6,rfl⟩:=row_form hown
 have hb7:=grown_box HB.o HV.o.1 hgrow
 have f7:W5.frozen? ⟨wb,0,none⟩=false:=hb7.free 0
 have y7:W5.cell? ⟨wb,0,none⟩=some (.slice Ar ts.length cr):=hb7.c 0
 refine ttR hK (fun _=>(hZ.o _).2 ⟨y7,(grown_box S.o.y HQ.o hgrow).c 1⟩) (fun hHeld=>?_)
 clear hK K
 have hH:=hHeld π
 refine ttE 10 (fun K hK=>?_)
 go_simp
 refine ttR hK (fun _=>hH) (fun _=>?_)
 clear hK K
 refine ttQ 11 ?_
 refine ttE 12 (fun K hK=>?_)
 go_simp
 refine ttR hK (fun e=>absurd rfl e) (fun _=>?_)
 clear hK K
 refine ttD ?_
 obtain⟨h1,h2⟩:=Wr.push HB.o HV.o.1 HV.o.2 HLV.o HNW.o hgrow hvb hown
 obtain⟨H1,H2⟩:=zd2 h1 h2
 clear h1 h2
 go_wp2_with fail
 first|go_end0|refine bodyPost_ret (results_none rfl _ _ _) rfl ?_
 exact⟨rfl,H1.o,S.o.c.trans H2.o⟩
end Go.Proofs.YtbjdcogmiggamaaGreatDoor
