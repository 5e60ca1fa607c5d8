import Derived.Test.YtbjdcogmiggamaaGreatDoorB38
set_option linter.all false
namespace Go.Proofs.YtbjdcogmiggamaaGreatDoor
open Proofs.Tryz RowKit Maps WideMaps ChangeMaps
set_option maxRecDepth 100000
set_option maxHeartbeats 8000000
theorem w_bin4 {k:Nat} (H:AllW k) {wb mb:Nat} {ts:List Tk} (s:Ê) (n p:Int) (a:List Nd) (A:Option Addr) (cap:Nat) (w:À) (hw:Wr wb mb ts w) (hn:NdR w (im (wOwn wb w) w) (cl 35 s n p A a.length cap) (.mk 35 s n p a)) (hs0:0<s.size)(hi0:0<a.length) (h0:shp k .exp a[0]=true)(hi1:1<a.length) (h1:shp k .exp a[1]=true)(L:Nat) (hL:L=(levP s.data.toList).getD 0) (hL7:L≤7) (h4:L=4) (hz:ts.length+(opdT (tok k) (a[0]'hi0) (L+1)++([wdT s]++(opdT (tok k) (a[1]'hi1) (L+1)))).length≤wTop):Calls prog 161 #[.pointer (some ⟨wb,0,none⟩),.agg (cl 35 s n p A a.length cap).toArray] w (WrSaid wb mb (ts++(opdT (tok k) (a[0]'hi0) (L+1)++([wdT s]++(opdT (tok k) (a[1]'hi1) (L+1))))) w):=by
 have lm:a.length≤9223372036854775807:=(nd_kids hn).len.2
 have lc:a.length≤cap:=(nd_kids hn).cap
 have hs:=nd_sz hn
 obtain⟨HH,HZ,HN,HS0,HK_0⟩:=zd5 H hz hn (And.intro hs0 hs) h0
 have j0:(0:Int)<(a.length:Int):=by omega
 have HK_1:=η h1
 have j1:(1:Int)<(a.length:Int):=by omega
 obtain⟨HL,HL7,H4⟩:=zd3 hL hL7 h4
 have u4:((L:Int)==4)=true:=beq_iff_eq.2 ω
 have HW:Hid (IntKind.i64.wrap ((L:Int)+1)=((L+1:Nat):Int)):=by show _=_;rw[IntKind.wrap_i64];omega
 have HW2:Hid (wrap64 ((L:Int)+1)=((L+1:Nat):Int)):=by show _=_;unfold wrap64;omega
 have HW3:Hid ((L:Int)+1=((L+1:Nat):Int)):=by show _=_;omega
 obtain⟨b,off,rfl⟩:=NdsR.some (nd_kids hn) hi0
 obtain⟨W1,hW1⟩:∃q,Hid (q=w.alloc (.cells (cl 35 s n p (some ⟨b,off,none⟩) a.length cap).toArray 24)):=⟨_,rfl⟩
 have S:Hid (WS wb mb w.heap.size (cl 35 s n p (some ⟨b,off,none⟩) a.length cap).toArray (.slice (some ⟨b,off,none⟩) a.length cap) a ts w W1):=by show WS _ _ _ _ _ _ _ _ _;rw[hW1.o];exact WS.start hw hn
 obtain⟨v,hb,_⟩:=S.o.t.row
 have b1:W1.cell? ⟨wb,1,none⟩=some (.map (some mb)):=hb.c 1
 have y1:W1.cell? ⟨w.heap.size,1,none⟩=some (.string s):=S.o.y.c 1
 obtain⟨nm,hm⟩:=S.o.t.lev
 have z1:=belW y1;have zb:=belW b1
 have hlk:∀X,Below W1.heap.size W1 X→(Instr.lookup 51 (.map (some mb)) (.string s) false).run prog X=.ok (.int .i64 (L:Int)) X:=fun X hX =>
  (MapIs.look (hm.below hX hm.lt) (keyStr underlying9) underlying51 (zeroInt X) (keyOf_string_mk underlying9 HS0.o.2)).trans (by rw[HL.o];unfold levF;cases levP s.data.toList<;>rfl)
 clear hb hm b1 y1
 clear hw hn hz hL hL7 h4
 go_in
 go_upto_region 1 with fail
 rw[←hW1.o]
 clear hW1
 refine tkB (fun X=>Below W1.heap.size W1 X) (belDr W1) (fun HS2=>?_)
 generalize W1.drew=X0 at HS2 ⊢
 refine θ ?_
 refine tkD ?_
 replace S:=η (S.o.bel HS2)
 clear z1 zb hlk HS2
 obtain⟨y0,y1,y2,y3,y4⟩:=cf5 S.o.y
 obtain⟨k1,s1,m1,p1,D1,l1,c1,hr1,e0,e1,e2,e3,e4⟩:=kid_at S.o.a (i:=0) hi0
 have KR:=η hr1
 clear hr1
 simp only[Nat.zero_mul,Nat.add_zero,Nat.reduceMul] at e0 e1 e2 e3 e4
 go_wp2_with fail
 (first|rw[HW.o]|rw[HW2.o]|rw[HW3.o]|skip)
 refine (opd_said HH.o wb mb _ (cl k1 s1 m1 p1 D1 l1 c1) _ (L+1) _ S.o.t KR.o HK_0.o (by have:=HL7.o;omega) (by have h:=HZ.o;simp at h ⊢;omega)).mono ?_
 rintro _ X1 ⟨rfl,hT,hC⟩
 replace S:=η (S.o.step hT hC)
 clear hT hC y0 y1 y2 y3 y4 e0 e1 e2 e3 e4
 obtain⟨y0,y1,y2,y3,y4⟩:=cf5 S.o.y
 go_wp2_with fail
 refine (words_call [s] S.o.t (by intro x hx;simp only[List.mem_cons,List.not_mem_nil,or_false] at hx;subst hx;first|exact HS0.o|exact HK0.o|exact⟨by decide,by decide⟩) (by have h:=HZ.o;simp at h ⊢;omega)).mono ?_
 rintro _ X2 ⟨rfl,hT,hC⟩
 replace S:=η (S.o.step hT hC)
 clear hT hC y0 y1 y2 y3 y4
 obtain⟨y0,y1,y2,y3,y4⟩:=cf5 S.o.y
 obtain⟨k1,s1,m1,p1,D1,l1,c1,hr1,e0,e1,e2,e3,e4⟩:=kid_at S.o.a (i:=1) hi1
 have KR:=η hr1
 clear hr1
 have g1:=e1;have g2:=e2;have g3:=e3;have g4:=e4
 simp only[Nat.add_assoc,Nat.reduceMul,Nat.reduceAdd] at g1 g2 g3 g4
 simp only[Nat.zero_mul,Nat.add_zero,Nat.reduceMul] at e0 e1 e2 e3 e4
 go_wp2_with fail
 (first|rw[HW.o]|rw[HW2.o]|rw[HW3.o]|skip)
 refine (opd_said HH.o wb mb _ (cl k1 s1 m1 p1 D1 l1 c1) _ (L+1) _ S.o.t KR.o HK_1.o (by have:=HL7.o;omega) (by have h:=HZ.o;simp at h ⊢;omega)).mono ?_
 rintro _ X3 ⟨rfl,hT,hC⟩
 replace S:=η (S.o.step hT hC)
 clear hT hC y0 y1 y2 y3 y4 e0 e1 e2 e3 e4 g1 g2 g3 g4
 obtain⟨y0,y1,y2,y3,y4⟩:=cf5 S.o.y
 go_wp2_with fail
 first|go_end0|refine bodyPost_ret (results_none rfl _ _ _) rfl ?_
 exact⟨rfl,by have h:=S.o.t;(try simp only[List.append_assoc,List.cons_append,List.nil_append,List.map_cons,List.map_nil] at h);(try simp only[List.append_assoc,List.cons_append,List.nil_append,List.map_cons,List.map_nil]);exact h,S.o.c⟩
theorem w_bin0 {k:Nat} (H:AllW k) {wb mb:Nat} {ts:List Tk} (s:Ê) (n p:Int) (a:List Nd) (A:Option Addr) (cap:Nat) (w:À) (hw:Wr wb mb ts w) (hn:NdR w (im (wOwn wb w) w) (cl 35 s n p A a.length cap) (.mk 35 s n p a)) (hs0:0<s.size)(hi0:0<a.length) (h0:shp k .exp a[0]=true)(hi1:1<a.length) (h1:shp k .exp a[1]=true)(L:Nat) (hL:L=(levP s.data.toList).getD 0) (hL7:L≤7) (h4:¬L=4) (hz:ts.length+(opdT (tok k) (a[0]'hi0) L++([wdT s]++(opdT (tok k) (a[1]'hi1) (L+1)))).length≤wTop):Calls prog 161 #[.pointer (some ⟨wb,0,none⟩),.agg (cl 35 s n p A a.length cap).toArray] w (WrSaid wb mb (ts++(opdT (tok k) (a[0]'hi0) L++([wdT s]++(opdT (tok k) (a[1]'hi1) (L+1))))) w):=by
 have lm:a.length≤9223372036854775807:=(nd_kids hn).len.2
 have lc:a.length≤cap:=(nd_kids hn).cap
 have hs:=nd_sz hn
 obtain⟨HH,HZ,HN,HS0,HK_0⟩:=zd5 H hz hn (And.intro hs0 hs) h0
 have j0:(0:Int)<(a.length:Int):=by omega
 have HK_1:=η h1
 have j1:(1:Int)<(a.length:Int):=by omega
 obtain⟨HL,HL7,H4⟩:=zd3 hL hL7 h4
 have u4:((L:Int)==4)=false:=beq_eq_false_iff_ne.2 ω
 have HW:Hid (IntKind.i64.wrap ((L:Int)+1)=((L+1:Nat):Int)):=by show _=_;rw[IntKind.wrap_i64];omega
 have HW2:Hid (wrap64 ((L:Int)+1)=((L+1:Nat):Int)):=by show _=_;unfold wrap64;omega
 have HW3:Hid ((L:Int)+1=((L+1:Nat):Int)):=by show _=_;omega
 obtain⟨b,off,rfl⟩:=NdsR.some (nd_kids hn) hi0
 obtain⟨W1,hW1⟩:∃q,Hid (q=w.alloc (.cells (cl 35 s n p (some ⟨b,off,none⟩) a.length cap).toArray 24)):=⟨_,rfl⟩
 have S:Hid (WS wb mb w.heap.size (cl 35 s n p (some ⟨b,off,none⟩) a.length cap).toArray (.slice (some ⟨b,off,none⟩) a.length cap) a ts w W1):=by show WS _ _ _ _ _ _ _ _ _;rw[hW1.o];exact WS.start hw hn
 obtain⟨v,hb,_⟩:=S.o.t.row
 have b1:W1.cell? ⟨wb,1,none⟩=some (.map (some mb)):=hb.c 1
 have y1:W1.cell? ⟨w.heap.size,1,none⟩=some (.string s):=S.o.y.c 1
 obtain⟨nm,hm⟩:=S.o.t.lev
 have z1:=belW y1;have zb:=belW b1
 have hlk:∀X,Below W1.heap.size W1 X→(Instr.lookup 51 (.map (some mb)) (.string s) false).run prog X=.ok (.int .i64 (L:Int)) X:=fun X hX =>
  (MapIs.look (hm.below hX hm.lt) (keyStr underlying9) underlying51 (zeroInt X) (keyOf_string_mk underlying9 HS0.o.2)).trans (by rw[HL.o];unfold levF;cases levP s.data.toList<;>rfl)
 clear hb hm b1 y1
 clear hw hn hz hL hL7 h4
 go_in
 go_upto_region 1 with fail
 rw[←hW1.o]
 clear hW1
 refine tkB (fun X=>Below W1.heap.size W1 X) (belDr W1) (fun HS2=>?_)
 generalize W1.drew=X0 at HS2 ⊢
 refine θ ?_
 refine tkD ?_
 replace S:=η (S.o.bel HS2)
 clear z1 zb hlk HS2
 obtain⟨y0,y1,y2,y3,y4⟩:=cf5 S.o.y
 obtain⟨k1,s1,m1,p1,D1,l1,c1,hr1,e0,e1,e2,e3,e4⟩:=kid_at S.o.a (i:=0) hi0
 have KR:=η hr1
 clear hr1
 simp only[Nat.zero_mul,Nat.add_zero,Nat.reduceMul] at e0 e1 e2 e3 e4
 go_wp2_with fail
 (first|rw[HW.o]|rw[HW2.o]|rw[HW3.o]|skip)
 refine (opd_said HH.o wb mb _ (cl k1 s1 m1 p1 D1 l1 c1) _ L _ S.o.t KR.o HK_0.o (by have:=HL7.o;omega) (by have h:=HZ.o;simp at h ⊢;omega)).mono ?_
 rintro _ X1 ⟨rfl,hT,hC⟩
 replace S:=η (S.o.step hT hC)
 clear hT hC y0 y1 y2 y3 y4 e0 e1 e2 e3 e4
 obtain⟨y0,y1,y2,y3,y4⟩:=cf5 S.o.y
 go_wp2_with fail
 refine (words_call [s] S.o.t (by intro x hx;simp only[List.mem_cons,List.not_mem_nil,or_false] at hx;subst hx;first|exact HS0.o|exact HK0.o|exact⟨by decide,by decide⟩) (by have h:=HZ.o;simp at h ⊢;omega)).mono ?_
 rintro _ X2 ⟨rfl,hT,hC⟩
 replace S:=η (S.o.step hT hC)
 clear hT hC y0 y1 y2 y3 y4
 obtain⟨y0,y1,y2,y3,y4⟩:=cf5 S.o.y
 obtain⟨k1,s1,m1,p1,D1,l1,c1,hr1,e0,e1,e2,e3,e4⟩:=kid_at S.o.a (i:=1) hi1
 have KR:=η hr1
 clear hr1
 have g1:=e1;have g2:=e2;have g3:=e3;have g4:=e4
 simp only[Nat.add_assoc,Nat.reduceMul,Nat.reduceAdd] at g1 g2 g3 g4
 simp only[Nat.zero_mul,Nat.add_zero,Nat.reduceMul] at e0 e1 e2 e3 e4
 go_wp2_with fail
 (first|rw[HW.o]|rw[HW2.o]|rw[HW3.o]|skip)
 refine (opd_said HH.o wb mb _ (cl k1 s1 m1 p1 D1 l1 c1) _ (L+1) _ S.o.t KR.o HK_1.o (by have:=HL7.o;omega) (by have h:=HZ.o;simp at h ⊢;omega)).mono ?_
 rintro _ X3 ⟨rfl,hT,hC⟩
 replace S:=η (S.o.step hT hC)
 clear hT hC y0 y1 y2 y3 y4 e0 e1 e2 e3 e4 g1 g2 g3 g4
 obtain⟨y0,y1,y2,y3,y4⟩:=cf5 S.o.y
 go_wp2_with fail
 first|go_end0|refine bodyPost_ret (results_none rfl _ _ _) rfl ?_
 exact⟨rfl,by have h:=S.o.t;(try simp only[List.append_assoc,List.cons_append,List.nil_append,List.map_cons,List.map_nil] at h);(try simp only[List.append_assoc,List.cons_append,List.nil_append,List.map_cons,List.map_nil]);exact h,S.o.c⟩
theorem lev_le7 (l:List UInt8):(levP l).getD 0≤7:=by
 unfold levP
 repeat (first|split|decide|simp)
theorem w_blk {k:Nat} (H:AllW k) {wb mb:Nat} {ts:List Tk} (k0:Int) (s:Ê) (n p:Int) (a:List Nd) (A:Option Addr) (cap:Nat) (w:À) (hw:Wr wb mb ts w) (hn:NdR w (im (wOwn wb w) w) (cl k0 s n p A a.length cap) (.mk k0 s n p a)) (hal:a.all (shp k .stm)=true) (hz:ts.length+(wT [123]::(a.flatMap (tok k .stm)++[wT [125]])).length≤wTop):Calls prog 117 #[.pointer (some ⟨wb,0,none⟩),.agg (cl k0 s n p A a.length cap).toArray] w (WrSaid wb mb (ts++wT [123]::(a.flatMap (tok k .stm)++[wT [125]])) w):=by
 have lm:a.length≤9223372036854775807:=(nd_kids hn).len.2
 obtain⟨HH,HN,HL⟩:=zd3 H hn hal
 have HZ:Hid (ts.length+1+(a.flatMap (tok k .stm)).length+1≤wTop):=by
  show _≤_
  simp only[List.length_cons,List.length_append,List.length_nil] at hz
  omega
 obtain⟨W1,hW1⟩:∃q,Hid (q=w.alloc (.cells (cl k0 s n p A a.length cap).toArray 24)):=⟨_,rfl⟩
 have S:Hid (WS wb mb w.heap.size (cl k0 s n p A a.length cap).toArray (.slice A a.length cap) a ts w W1):=by show WS _ _ _ _ _ _ _ _ _;rw[hW1.o];exact WS.start hw hn
 clear hw hn hz hal
 go_in
 go_upto_region 1 with fail
 rw[←hW1.o]
 clear hW1
 have y4:W1.cell? ⟨w.heap.size,4,none⟩=some (.slice A a.length cap):=S.o.y.c 4
 go_wp2_with fail
 refine (words_call [str [123]] S.o.t (by intro x hx;rw[List.mem_singleton] at hx;rw[hx];exact⟨by decide,by decide⟩) (by have:=HZ.o;simp;omega)).mono ?_
 rintro _ X1 ⟨rfl,hT,hC⟩
 replace S:=η (S.o.step hT hC)
 clear hT hC y4
 have y4:X1.cell? ⟨w.heap.size,4,none⟩=some (.slice A a.length cap):=S.o.y.c 4
 go_wp2_with fail
 go_loopw [12] (fun i wr=>∃(j:Nat),j≤a.length∧i=.int .i64 j∧Hid (WS wb mb w.heap.size (cl k0 s n p A a.length cap).toArray (.slice A a.length cap) a (ts++wT [123]::(a.take j).flatMap (tok k .stm)) w wr)) (fun i _=>a.length-(intOf i).toNat)
 case atStart=>exact⟨0,by omega,rfl,by rw[List.take_zero];exact S⟩
 case round =>
  clear y4
  obtain⟨j,hj,rfl,HT⟩:=hrel
  by_cases hlt:j<a.length
  · have u1:decide ((j:Int)<(a.length:Int))=true:=decide_eq_true ω
    obtain⟨b,off,k1,s1,m1,p1,D1,l1,c1,rfl,hg,hr1,e0,e1,e2,e3,e4⟩:=nds_at HT.o.a hlt
    have HR:=η hr1
    have j0:(0:Int)≤(j:Int):=by omega
    have j1:(j:Int)<(a.length:Int):=by omega
    obtain⟨W2,hW2⟩:∃q,Hid (q=wr.alloc (.cells (cl k1 s1 m1 p1 D1 l1 c1).toArray 24)):=⟨_,rfl⟩
    have B2:Hid (Below wr.heap.size wr W2):=by show Below _ _ _;rw[hW2.o];exact belA (belR _) _
    have X2:Hid (Hs W2 wr.heap.size 24 (cl k1 s1 m1 p1 D1 l1 c1).toArray):=by show Hs _ _ _ _;rw[hW2.o];exact Hs.new _ _ _
    obtain⟨R2,S2⟩:=zd2 (HR.o.to (WrC.bel B2.o HT.o.t.lt).sub) (HT.o.bel B2.o)
    have HJ:Hid ((a.take (j+1)).flatMap (tok k .stm)=(a.take j).flatMap (tok k .stm)++tok k .stm a[j]):=by
     show _=_
     rw[List.take_succ_eq_append_getElem hlt,List.flatMap_append];simp
    have HLE:Hid (((a.take j).flatMap (tok k .stm)).length+(tok k .stm a[j]).length≤(a.flatMap (tok k .stm)).length):=by
     show _≤_
     have e:=congrArg List.length HJ.o
     have e2:(a.flatMap (tok k .stm)).length=((a.take (j+1)).flatMap (tok k .stm)).length+((a.drop (j+1)).flatMap (tok k .stm)).length:=by
      rw[←List.length_append,←List.flatMap_append,List.take_append_drop]
     rw[List.length_append] at e
     omega
    clear hr1 hg
    go_upto_region 5 with fail
    rw[←hW2.o]
    clear hW2 e0 e1 e2 e3 e4
    obtain⟨f0,f1,f2,f3,f4⟩:=cf5 X2.o
    go_wp2_with fail
    refine (HH.o .stm rfl wb mb _ (cl k1 s1 m1 p1 D1 l1 c1) _ _ S2.o.t R2.o (all_get HL.o j hlt) (by have h1:=HLE.o;have h2:=HZ.o;simp at h1 h2 ⊢;omega)).mono ?_
    rintro _ W3 ⟨rfl,hT,hC⟩
    have S3:=η (S2.o.step hT hC)
    clear hT hC f0 f1 f2 f3 f4
    go_wp2_with fail
    exact⟨⟨j+1,by omega,by go_num,by have h:=S3.o;rw[HJ.o];exact η (by simpa using h)⟩,by simp[intOf];omega⟩
  · have u1:decide ((j:Int)<(a.length:Int))=false:=decide_eq_false ω
    have HJ:Hid ((a.take j)=a):=List.take_of_length_le ω
    go_wp2_with fail
    refine (words_call [str [125]] HT.o.t (by intro x hx;rw[List.mem_singleton] at hx;rw[hx];exact⟨by decide,by decide⟩) (by have h2:=HZ.o;rw[HJ.o];simp at h2 ⊢;omega)).mono ?_
    rintro _ W6 ⟨rfl,hT,hC⟩
    have S6:=η (HT.o.step hT hC)
    clear hT hC
    go_wp2_with fail
    first|go_end0|refine bodyPost_ret (results_none rfl _ _ _) rfl ?_
    exact⟨rfl,by have h1:=S6.o.t;rw[HJ.o] at h1;simpa[wT] using h1,S6.o.c⟩
theorem w_cnv72 {k:Nat} (H:AllW k) {wb mb:Nat} {ts:List Tk} (s:Ê) (n p:Int) (a:List Nd) (A:Option Addr) (cap:Nat) (w:À) (hw:Wr wb mb ts w) (hn:NdR w (im (wOwn wb w) w) (cl 72 s n p A a.length cap) (.mk 72 s n p a)) {j:Nat} (hj:AllW j)(hs0:0<s.size)(hi0:0<a.length) (hx0:0<(ndS a[0]).size) (him:a.length-1<a.length) (hx1:0<(ndS a[a.length-1]).size) (hax:(ndL a[a.length-1]).all (shp j .exp)=true)(hl2:1≤a.length-1) (hal:((a.take (a.length-1)).drop 1).all (shp k .fld)=true) (hz:ts.length+([wT [99,111,110,118,101,114,116]]++([wT [109,101,115,115,97,103,101],wdT s,wT [46],wdT (ndS (a[0]'hi0))]++((wdT (str [40])::(joinT (((a.take (a.length-1)).drop 1).map (tok k .fld))++[wdT (str [41])]))++([wT [61],wdT (ndS (a[a.length-1]'him))]++((wdT (str [40])::(joinT ((ndL (a[a.length-1]'him)).map (tok j .exp))++[wdT (str [41])]))))))).length≤wTop):Calls prog 75 #[.pointer (some ⟨wb,0,none⟩),.agg (cl 72 s n p A a.length cap).toArray] w (WrSaid wb mb (ts++([wT [99,111,110,118,101,114,116]]++([wT [109,101,115,115,97,103,101],wdT s,wT [46],wdT (ndS (a[0]'hi0))]++((wdT (str [40])::(joinT (((a.take (a.length-1)).drop 1).map (tok k .fld))++[wdT (str [41])]))++([wT [61],wdT (ndS (a[a.length-1]'him))]++((wdT (str [40])::(joinT ((ndL (a[a.length-1]'him)).map (tok j .exp))++[wdT (str [41])])))))))) w):=by
 have lm:a.length≤9223372036854775807:=(nd_kids hn).len.2
 have lc:a.length≤cap:=(nd_kids hn).cap
 have hs:=nd_sz hn
 obtain⟨HH,HZ,HN,HS0,HX0,HX1⟩:=zd6 H hz hn (And.intro hs0 hs) hx0 hx1;obtain⟨HAX,HJ⟩:=zd2 hax hj
 have j0:(0:Int)<(a.length:Int):=by omega
 have HM:=η him
 have jm0:(0:Int)≤(a.length:Int)-1:=by omega
 have jm1:(a.length:Int)-1<(a.length:Int):=by omega
 obtain⟨HL2,HAL⟩:=zd2 hl2 hal
 have HLEN:Hid ((((a.take (a.length-1)).drop 1)).length=a.length-1-1):=by show _=_;rw[List.length_drop,List.length_take];omega
 have hsl:∀(A:Option Addr) (W:À),(Instr.slice 22 (.slice A a.length cap) (some (.int .i64 1)) (some (.int .i64 ((a.length:Int)-1))) none).run prog W=.ok (.slice (fromA A cap 1 5) (a.length-1-1) (cap-1)) W:=fun A W=>(by have h:=run_mid22 W A a.length cap 1 (a.length-1) ω ω lc;simpa[show ((a.length-1:Nat):Int)=(a.length:Int)-1 by omega] using h)
 obtain⟨b,off,rfl⟩:=NdsR.some (nd_kids hn) hi0
 obtain⟨W1,hW1⟩:∃q,Hid (q=w.alloc (.cells (cl 72 s n p (some ⟨b,off,none⟩) a.length cap).toArray 24)):=⟨_,rfl⟩
 have S:Hid (WS wb mb w.heap.size (cl 72 s n p (some ⟨b,off,none⟩) a.length cap).toArray (.slice (some ⟨b,off,none⟩) a.length cap) a ts w W1):=by show WS _ _ _ _ _ _ _ _ _;rw[hW1.o];exact WS.start hw hn
 clear hw hn hz
 go_in
 go_upto_region 1 with fail
 rw[←hW1.o]
 clear hW1
 obtain⟨y0,y1,y2,y3,y4⟩:=cf5 S.o.y
 go_wp2_with fail
 refine (words_call [str [99,111,110,118,101,114,116]] S.o.t (by intro x hx;simp only[List.mem_cons,List.not_mem_nil,or_false] at hx;subst hx;first|exact HS0.o|exact HK0.o|exact⟨by decide,by decide⟩) (by have h:=HZ.o;simp at h ⊢;omega)).mono ?_
 rintro _ X1 ⟨rfl,hT,hC⟩
 replace S:=η (S.o.step hT hC)
 clear hT hC y0 y1 y2 y3 y4
 obtain⟨y0,y1,y2,y3,y4⟩:=cf5 S.o.y
 obtain⟨k1,s1,m1,p1,D1,l1,c1,hr1,e0,e1,e2,e3,e4⟩:=kid_at S.o.a (i:=0) hi0
 have KR:=η hr1
 clear hr1
 simp only[Nat.zero_mul,Nat.add_zero,Nat.reduceMul] at e0 e1 e2 e3 e4
 obtain rfl:=kid_ks KR.o
 have HK0:=η (And.intro HX0.o (nd_sz KR.o))
 go_wp2_with fail
 obtain⟨Z,hZ⟩:∃Z:À→Prop,Hid (∀X,Z X↔X.cell? ⟨w.heap.size,1,none⟩=some (.string s)∧X.cell? ⟨b,off+1,none⟩=some (.string (ndS (a[0]'hi0)))):=⟨_,η fun _=>Iff.rfl⟩
 have zA:∀X,Z X→X.cell? ⟨w.heap.size,1,none⟩=some (.string s):=fun X h=>((hZ.o X).1 h).1
 have zB:∀X,Z X→X.cell? ⟨b,off+1,none⟩=some (.string (ndS (a[0]'hi0))):=fun X h=>((hZ.o X).1 h).2
 have SD:=η (S.o.bel (belDr X1))
 have z0:Z X1.drew:=(hZ.o _).2 ⟨belC (belDr X1) y1,belC (belDr X1) e1⟩
 refine tkB Z z0 (fun HS2=>?_)
 generalize X1.drew=Y at HS2 SD z0 ⊢
 replace S:=SD
 clear SD
 refine tkQ 0 ?_
 refine tkQ 1 ?_
 refine tkQ 2 ?_ (hy:=by intro w hSw;have:=zA w hSw;go_simp;first|done|with_reducible rfl)
 refine tkQ 3 ?_
 refine tkQ 4 ?_
 refine tkQ 5 ?_
 refine tkQ 6 ?_ (hy:=by intro w hSw;have:=zB w hSw;go_simp;first|done|with_reducible rfl)
 refine tkE 7 (fun K hK=>?_)
 go_simp
 have z5:Z (Y.alloc (.cells (List.map Value.string [str [109,101,115,115,97,103,101],s,str [46],ndS (a[0]'hi0)]).toArray 9)):=(hZ.o _).2 ⟨celA (zA _ HS2) _,celA (zB _ HS2) _⟩
 refine tkR hK z5 (fun _=>?_)
 clear hK K z5
 refine tkE 8 (fun K hK=>?_)
 go_simp
 refine (words_call [str [109,101,115,115,97,103,101],s,str [46],ndS (a[0]'hi0)] S.o.t (by intro x hx;simp only[List.mem_cons,List.not_mem_nil,or_false] at hx;rcases hx with rfl|rfl|rfl|rfl<;>first|exact HK0.o|exact HS0.o|exact⟨by decide,by decide⟩) (by have h:=HZ.o;simp at h ⊢;omega)).mono ?_
 rintro _ X2 ⟨rfl,hT,hC⟩
 replace S:=η (S.o.step hT hC)
 have z6:Z X2:=(hZ.o _).2 ⟨S.o.y.c 1,by
  obtain⟨k9,s9,m9,p9,D9,l9,c9,hr9,_,e9,_⟩:=kid_at S.o.a (i:=0) hi0
  obtain rfl:=kid_ks hr9
  simpa using e9⟩
 refine tkR hK z6 (fun _=>?_)
 clear hK K z6 z0 zA zB hZ HS2
 refine tkD ?_
 clear hT hC y0 y1 y2 y3 y4 e0 e1 e2 e3 e4
 obtain⟨y0,y1,y2,y3,y4⟩:=cf5 S.o.y
 go_wp2_with fail
 refine (list_at (str [40]) (str [41]) ((a.take (a.length-1)).drop 1) _ _ _ HLEN.o S.o.t ⟨by decide,by decide⟩ ⟨by decide,by decide⟩ (NdsR.mid S.o.a 1 (a.length-1) (by have:=HL2.o;omega) ω) (each_of HH.o .fld rfl HAL.o wb mb _) (by have h:=HZ.o;simp at h ⊢;omega)).mono ?_
 rintro _ X3 ⟨rfl,hT,hC⟩
 replace S:=η (S.o.step hT hC)
 clear hT hC y0 y1 y2 y3 y4
 obtain⟨y0,y1,y2,y3,y4⟩:=cf5 S.o.y
 obtain⟨k1,s1,m1,p1,D1,l1,c1,hr1,e0,e1,e2,e3,e4⟩:=kid_at S.o.a (i:=a.length-1) him
 have KR:=η hr1
 clear hr1
 obtain rfl:=kid_ks KR.o
 have HK0:=η (And.intro HX1.o (nd_sz KR.o))
 go_wp2_with fail
 refine (words_call [str [61],ndS (a[a.length-1]'him)] S.o.t (by intro x hx;simp only[List.mem_cons,List.not_mem_nil,or_false] at hx;rcases hx with rfl|rfl<;>first|exact HK0.o|exact HS0.o|exact⟨by decide,by decide⟩) (by have h:=HZ.o;simp at h ⊢;omega)).mono ?_
 rintro _ X4 ⟨rfl,hT,hC⟩
 replace S:=η (S.o.step hT hC)
 clear hT hC y0 y1 y2 y3 y4 e0 e1 e2 e3 e4
 obtain⟨y0,y1,y2,y3,y4⟩:=cf5 S.o.y
 obtain⟨k1,s1,m1,p1,D1,l1,c1,hr1,e0,e1,e2,e3,e4⟩:=kid_at S.o.a (i:=a.length-1) him
 have KR:=η hr1
 clear hr1
 go_wp2_with fail
 refine (list_at (str [40]) (str [41]) (ndL (a[a.length-1]'HM.o)) _ _ _ (kid_kl KR.o).2.symm S.o.t ⟨by decide,by decide⟩ ⟨by decide,by decide⟩ (kid_nds KR.o) (each_of HJ.o .exp rfl HAX.o wb mb _) (by have h:=HZ.o;simp at h ⊢;omega)).mono ?_
 rintro _ X5 ⟨rfl,hT,hC⟩
 replace S:=η (S.o.step hT hC)
 clear hT hC y0 y1 y2 y3 y4 e0 e1 e2 e3 e4
 obtain⟨y0,y1,y2,y3,y4⟩:=cf5 S.o.y
 go_wp2_with fail
 first|go_end0|refine bodyPost_ret (results_none rfl _ _ _) rfl ?_
 exact⟨rfl,by have h:=S.o.t;(try simp only[List.append_assoc,List.cons_append,List.nil_append,List.map_cons,List.map_nil] at h);(try simp only[List.append_assoc,List.cons_append,List.nil_append,List.map_cons,List.map_nil]);exact h,S.o.c⟩
def armW (j:Nat) (z:Nd):List Tk:=patT z++tok j .blk (lastN z)
theorem w_stm53 {k:Nat} (H:AllW k) {wb mb:Nat} {ts:List Tk} (s:Ê) (n p:Int) (a:List Nd) (A:Option Addr) (cap:Nat) (w:À) (hw:Wr wb mb ts w) (hn:NdR w (im (wOwn wb w) w) (cl 53 s n p A a.length cap) (.mk 53 s n p a)) (hi0:0<a.length) (h0:shp k .exp a[0]=true){j:Nat} (hj:AllW j) (hal:∀z∈a.drop 1,0<(ndS z).size∧0<(ndL z).length∧(initN z).all (fun x=>decide (0<(ndS x).size))=true∧shp j .blk (lastN z)=true) (hz:ts.length+([wT [109,97,116,99,104]]++(grpT (tok k) (a[0]'hi0)++([wT [123]]++((a.drop 1).flatMap (armW j)++[wT [125]])))).length≤wTop):Calls prog 165 #[.pointer (some ⟨wb,0,none⟩),.agg (cl 53 s n p A a.length cap).toArray] w (WrSaid wb mb (ts++([wT [109,97,116,99,104]]++(grpT (tok k) (a[0]'hi0)++([wT [123]]++((a.drop 1).flatMap (armW j)++[wT [125]]))))) w):=by
 have lm:a.length≤9223372036854775807:=(nd_kids hn).len.2
 have lc:a.length≤cap:=(nd_kids hn).cap
 have hs:=nd_sz hn
 obtain⟨HH,HZ,HN,HK_0⟩:=zd4 H hz hn h0
 have j0:(0:Int)<(a.length:Int):=by omega
 obtain⟨HJJ,HAL⟩:=zd2 hj hal
 have HLEN:Hid ((a.drop 1).length=a.length-1):=List.length_drop
 have hsl:∀(A:Option Addr) (W:À),(Instr.slice 22 (.slice A a.length cap) (some (.int .i64 1)) none none).run prog W=.ok (.slice (fromA A cap 1 5) (a.length-1) (cap-1)) W:=fun A W=>run_from22 W A _ _ 1 ω
 have HL1:Hid (1≤a.length):=η ω
 obtain⟨b,off,rfl⟩:=NdsR.some (nd_kids hn) hi0
 obtain⟨W1,hW1⟩:∃q,Hid (q=w.alloc (.cells (cl 53 s n p (some ⟨b,off,none⟩) a.length cap).toArray 24)):=⟨_,rfl⟩
 have S:Hid (WS wb mb w.heap.size (cl 53 s n p (some ⟨b,off,none⟩) a.length cap).toArray (.slice (some ⟨b,off,none⟩) a.length cap) a ts w W1):=by show WS _ _ _ _ _ _ _ _ _;rw[hW1.o];exact WS.start hw hn
 clear hw hn hz hal hj h0
 go_in
 go_upto_region 1 with fail
 rw[←hW1.o]
 clear hW1
 obtain⟨y0,y1,y2,y3,y4⟩:=cf5 S.o.y
 go_wp2_with fail
 refine (words_call [str [109,97,116,99,104]] S.o.t (by intro x hx;simp only[List.mem_cons,List.not_mem_nil,or_false] at hx;subst hx;first|exact HS0.o|exact HK0.o|exact⟨by decide,by decide⟩) (by have h:=HZ.o;simp at h ⊢;omega)).mono ?_
 rintro _ X1 ⟨rfl,hT,hC⟩
 replace S:=η (S.o.step hT hC)
 clear hT hC y0 y1 y2 y3 y4
 obtain⟨y0,y1,y2,y3,y4⟩:=cf5 S.o.y
 obtain⟨k1,s1,m1,p1,D1,l1,c1,hr1,e0,e1,e2,e3,e4⟩:=kid_at S.o.a (i:=0) hi0
 have KR:=η hr1
 clear hr1
 simp only[Nat.zero_mul,Nat.add_zero,Nat.reduceMul] at e0 e1 e2 e3 e4
 go_wp2_with fail
 refine (grp_said HH.o wb mb _ (cl k1 s1 m1 p1 D1 l1 c1) _ _ S.o.t KR.o HK_0.o (by have h:=HZ.o;simp at h ⊢;omega)).mono ?_
 rintro _ X2 ⟨rfl,hT,hC⟩
 replace S:=η (S.o.step hT hC)
 clear hT hC y0 y1 y2 y3 y4 e0 e1 e2 e3 e4
 obtain⟨y0,y1,y2,y3,y4⟩:=cf5 S.o.y
 go_wp2_with fail
 refine (words_call [str [123]] S.o.t (by intro x hx;simp only[List.mem_cons,List.not_mem_nil,or_false] at hx;subst hx;first|exact HS0.o|exact HK0.o|exact⟨by decide,by decide⟩) (by have h:=HZ.o;simp at h ⊢;omega)).mono ?_
 rintro _ X3 ⟨rfl,hT,hC⟩
 replace S:=η (S.o.step hT hC)
 clear hT hC y0 y1 y2 y3 y4
 obtain⟨y0,y1,y2,y3,y4⟩:=cf5 S.o.y
 go_wp2_with fail
 go_loopw [83] (fun i wr=>∃(q:Nat),q≤a.length-1∧i=.int .i64 q∧Hid (WS wb mb w.heap.size (cl 53 s n p (some ⟨b,off,none⟩) a.length cap).toArray (.slice (some ⟨b,off,none⟩) a.length cap) a (ts++([wT [109,97,116,99,104]]++(grpT (tok k) (a[0]'hi0)++([wT [123]]++((a.drop 1).take q).flatMap (armW j))))) w wr)) (fun i _=>a.length-1-(intOf i).toNat)
 case atStart=>exact⟨0,by omega,rfl,by rw[List.take_zero];exact η (by simpa[wT] using S.o)⟩
 case round =>
  clear y0 y1 y2 y3 y4
  obtain⟨q,hq,rfl,HT⟩:=hrel
  have HD:Hid ((a.drop 1).length=a.length-1):=HLEN
  have HLa:=NdsR.from HT.o.a 1 HL1.o
  by_cases hlt:q<a.length-1
  · have hlt2:q<(a.drop 1).length:=by rw[HD.o];exact hlt
    have u1:decide ((q:Int)<((a.length-1:Nat):Int))=true:=decide_eq_true ω
    rw[←HD.o] at HLa
    obtain⟨g1,o1,k1,s1,m1,p1,D1,l1,c1,hA1,hg,hr1,e0,e1,e2,e3,e4⟩:=nds_at HLa hlt2
    rw[hA1]
    have hz2:=HAL.o _ (List.getElem_mem hlt2)
    obtain⟨z,hz⟩:∃z,Hid (z=(a.drop 1)[q]):=⟨_,η rfl⟩
    rw[←hz.o] at hr1 hz2
    obtain⟨HR,HZ2⟩:=zd2 hr1 hz2
    have q0:(0:Int)≤(q:Int):=by omega
    have q1:(q:Int)<((a.length-1:Nat):Int):=by omega
    obtain⟨W2,hW2⟩:∃r,Hid (r=wr.alloc (.cells (cl k1 s1 m1 p1 D1 l1 c1).toArray 24)):=⟨_,rfl⟩
    have B2:Hid (Below wr.heap.size wr W2):=by show Below _ _ _;rw[hW2.o];exact belA (belR _) _
    have X2:Hid (Hs W2 wr.heap.size 24 (cl k1 s1 m1 p1 D1 l1 c1).toArray):=by show Hs _ _ _ _;rw[hW2.o];exact Hs.new _ _ _
    have N2:Hid (¬wOwn wb W2 wr.heap.size):=fun e=>by have:=HT.o.t.own_lt _ ((own_bel B2.o HT.o.t.lt _).1 e);omega
    obtain⟨R2,S2⟩:=zd2 (HR.o.to (WrC.bel B2.o HT.o.t.lt).sub) (HT.o.bel B2.o)
    have HJ:Hid (((a.drop 1).take (q+1)).flatMap (armW j)=((a.drop 1).take q).flatMap (armW j)++armW j z):=by
     show _=_
     rw[List.take_succ_eq_append_getElem hlt2,List.flatMap_append,hz.o];simp
    have HLE:Hid ((((a.drop 1).take q).flatMap (armW j)).length+(armW j z).length≤((a.drop 1).flatMap (armW j)).length):=by
     show _≤_
     have e:=congrArg List.length HJ.o
     have e2:((a.drop 1).flatMap (armW j)).length=(((a.drop 1).take (q+1)).flatMap (armW j)).length+(((a.drop 1).drop (q+1)).flatMap (armW j)).length:=by
      rw[←List.length_append,←List.flatMap_append,List.take_append_drop]
     rw[List.length_append] at e
     omega
    obtain⟨PQ,hPQ⟩:∃PQ,Hid (PQ=((a.drop 1).take q).flatMap (armW j)):=⟨_,rfl⟩
    obtain⟨AQ,hAQ⟩:∃AQ,Hid (AQ=(a.drop 1).flatMap (armW j)):=⟨_,rfl⟩
    have HZ3:Hid (ts.length+(1+((grpT (tok k) (a[0]'hi0)).length+(1+(AQ.length+1))))≤wTop):=by have h:=HZ.o;rw[←hAQ.o] at h;simp only[List.length_append,List.length_singleton] at h;show _≤_;omega
    have HLE2:Hid (PQ.length+((patT z).length+(tok j .blk (lastN z)).length)≤AQ.length):=by have h:=HLE.o;rw[←hPQ.o,←hAQ.o] at h;unfold armW at h;rw[List.length_append] at h;exact h
    rw[←hPQ.o] at S2
    clear hr1 hg hz2
    go_upto_region 22 with fail
    rw[←hW2.o]
    clear hW2 e0 e1 e2 e3 e4
    obtain⟨f0,f1,f2,f3,f4⟩:=cf5 X2.o
    go_wp2_with fail
    refine (pat_said k wb mb _ (cl k1 s1 m1 p1 D1 l1 c1) z _ S2.o.t R2.o HZ2.o.1 HZ2.o.2.1 HZ2.o.2.2.1 (by have h1:=HLE2.o;have h2:=HZ3.o;simp only[List.length_append,List.length_singleton];omega)).mono ?_
    rintro _ W3 ⟨rfl,hT,hC⟩
    obtain⟨S3,R3⟩:=zd2 (S2.o.step hT hC) (R2.o.to hC.sub)
    have X3:=η (hC.hs X2.o N2.o).1
    clear hT hC f0 f1 f2 f3 f4
    obtain⟨cs,hcs⟩:∃cs,Hid (cs=ndL z):=⟨_,rfl⟩
    have hl1:l1=cs.length:=(kid_kl R3.o).2.trans (by rw[hcs.o])
    subst hl1
    have hcn:=kid_nds R3.o
    rw[←hcs.o] at hcn
    have hc0:0<cs.length:=by rw[hcs.o];exact HZ2.o.2.1
    obtain⟨b2,off2,rfl⟩:=NdsR.some hcn hc0
    have lm2:cs.length≤9223372036854775807:=hcn.len.2
    have hcm:cs.length-1<cs.length:=by omega
    have r0:(0:Int)≤(cs.length:Int)-1:=by omega
    have r1:(cs.length:Int)-1<(cs.length:Int):=by omega
    obtain⟨k5,s5,m5,p5,D5,l5,c5,hr5,e0,e1,e2,e3,e4⟩:=kid_at hcn (i:=cs.length-1) hcm
    have HR5:=η hr5
    have HLN:Hid (lastN z=cs[cs.length-1]):=by
     show _=_
     unfold lastN kid
     rw[←hcs.o,List.getD_eq_getElem?_getD,List.getElem?_eq_getElem hcm];rfl
    clear hr5 hcn
    obtain⟨f0,f1,f2,f3,f4⟩:=cf5 X3.o
    go_wp2_with fail
    refine (HJJ.o .blk rfl wb mb _ (cl k5 s5 m5 p5 D5 l5 c5) _ _ S3.o.t HR5.o (by rw[←HLN.o];exact HZ2.o.2.2.2) (by rw[←HLN.o];have h1:=HLE2.o;have h2:=HZ3.o;simp only[List.length_append,List.length_singleton];omega)).mono ?_
    rintro _ W4 ⟨rfl,hT,hC⟩
    have S4:=η (S3.o.step hT hC)
    clear hT hC e0 e1 e2 e3 e4 f0 f1 f2 f3 f4
    go_wp2_with fail
    exact⟨⟨q+1,by omega,by go_num,by have h:=S4.o;rw[HJ.o,←hPQ.o];unfold armW;rw[HLN.o];exact η (by simpa using h)⟩,by simp[intOf];omega⟩
  · have u1:decide ((q:Int)<((a.length-1:Nat):Int))=false:=decide_eq_false ω
    have HJ:Hid (((a.drop 1).take q)=a.drop 1):=List.take_of_length_le (by rw[HD.o];omega)
    rw[HJ.o] at HT
    go_wp2_with fail
    refine (words_call [str [125]] HT.o.t (by intro x hx;rw[List.mem_singleton] at hx;rw[hx];exact⟨by decide,by decide⟩) (by have h2:=HZ.o;simp only[List.length_append,List.length_cons,List.length_nil,List.map_cons,List.map_nil] at h2 ⊢;omega)).mono ?_
    rintro _ W6 ⟨rfl,hT,hC⟩
    have S6:=η (HT.o.step hT hC)
    clear hT hC
    go_wp2_with fail
    first|go_end0|refine bodyPost_ret (results_none rfl _ _ _) rfl ?_
    exact⟨rfl,by have h1:=S6.o.t;simpa[wT] using h1,S6.o.c⟩
theorem lead_any (a:List Nd) (A:Option Addr) (cap:Nat) (w:À) (P:Nat→Prop) (ha:NdsR w P (.slice A a.length cap) a):Calls prog 116 #[.slice A a.length cap] w fun e w'=>e=.returned (.int .i64 (leadB a:Int))∧Below w.heap.size w w':=by
 go_in
 have lm:a.length≤9223372036854775807:=ha.len.2
 have HA:=η ha
 clear ha
 go_wp2_with fail
 go_loopw [7] (fun i wr=>∃(j:Nat),j≤a.length∧i=.int .i64 j∧j≤leadB a∧Hid (Below w.heap.size w wr)) (fun i _=>a.length-(intOf i).toNat)
 case atStart=>exact⟨0,by omega,rfl,Nat.zero_le _,η (belR _)⟩
 case round =>
  obtain⟨j,hj,rfl,hle,HB⟩:=hrel
  by_cases hlt:j<a.length
  · have u1:decide ((j:Int)<(a.length:Int))=true:=decide_eq_true ω
    obtain⟨b,off,k1,s1,m1,p1,D1,l1,c1,rfl,hg,hr1,e0,e1,e2,e3,e4⟩:=nds_at HA.o hlt
    have hk:=nd_k hr1
    have e0:=belW e0 _ HB.o;have e1:=belW e1 _ HB.o;have e2:=belW e2 _ HB.o;have e3:=belW e3 _ HB.o;have e4:=belW e4 _ HB.o
    have j0:(0:Int)≤(j:Int):=by omega
    have j1:(j:Int)<(a.length:Int):=by omega
    obtain⟨W2,hW2⟩:∃q,Hid (q=wr.alloc (.cells (cl k1 s1 m1 p1 D1 l1 c1).toArray 24)):=⟨_,rfl⟩
    have B2:Hid (Below wr.heap.size wr W2):=by show Below _ _ _;rw[hW2.o];exact belA (belR _) _
    have X2:Hid (Hs W2 wr.heap.size 24 (cl k1 s1 m1 p1 D1 l1 c1).toArray):=by show Hs _ _ _ _;rw[hW2.o];exact Hs.new _ _ _
    clear hr1 hg
    go_upto_region 4 with fail
    rw[←hW2.o]
    clear hW2 e0 e1 e2 e3 e4
    have f0:W2.cell? ⟨wr.heap.size,0,none⟩=some (.int .i64 k1):=X2.o.c 0
    by_cases c7:k1=7
    · have u2:(k1==7)=true:=beq_iff_eq.2 c7
      go_wp2_with fail
      refine⟨⟨j+1,by omega,by go_num,?_,η (bel HB.o B2.o)⟩,by simp[intOf];omega⟩
      refine Classical.byContradiction fun q=>?_
      have e:leadB a=j:=by omega
      have h:=lead_end a (by rw[e];exact hlt)
      simp only[e] at h
      exact h (hk.trans c7)
    · have u2:(k1==7)=false:=beq_eq_false_iff_ne.2 c7
      go_wp2_with fail
      have e:leadB a=j:=by
       refine Classical.byContradiction fun q=>?_
       exact c7 (hk.symm.trans (lead_at a j hlt ω))
      rw[e]
      go_ret
      exact⟨rfl,bel HB.o B2.o⟩
  · have u1:decide ((j:Int)<(a.length:Int))=false:=decide_eq_false ω
    have e:leadB a=a.length:=by have:=lead_le a;omega
    go_wp2
    rw[e]
    go_ret
    exact⟨rfl,HB.o⟩
end Go.Proofs.YtbjdcogmiggamaaGreatDoor
