import Derived.Test.YtbjdcogmiggamaaGreatDoorZ31
set_option linter.all false
namespace Go.Proofs.YtbjdcogmiggamaaGreatDoor
open Proofs.Tryz RowKit Maps WideMaps ChangeMaps
set_option maxRecDepth 100000
set_option maxHeartbeats 8000000
theorem w_pri20 {k:Nat} (H:AllW k) {wb mb:Nat} {ts:List Tk} (s:Ê) (n p:Int) (a:List Nd) (A:Option Addr) (cap:Nat) (w:À) (hw:Wr wb mb ts w) (hn:NdR w (im (wOwn wb w) w) (cl 20 s n p A a.length cap) (.mk 20 s n p a))  (hz:ts.length+([inT (n)]).length≤wTop):Calls prog 164 #[.pointer (some ⟨wb,0,none⟩),.agg (cl 20 s n p A a.length cap).toArray] w (WrSaid wb mb (ts++([inT (n)])) w):=by
 have lm:a.length≤9223372036854775807:=(nd_kids hn).len.2
 have lc:a.length≤cap:=(nd_kids hn).cap
 have hs:=nd_sz hn
 obtain⟨HH,HZ,HN⟩:=zd3 H hz hn
 obtain⟨W1,hW1⟩:∃q,Hid (q=w.alloc (.cells (cl 20 s n p A a.length cap).toArray 24)):=⟨_,rfl⟩
 have S:Hid (WS wb mb w.heap.size (cl 20 s n p A a.length cap).toArray (.slice A a.length cap) a ts w W1):=by show WS _ _ _ _ _ _ _ _ _;rw[hW1.o];exact WS.start hw hn
 clear hw hn hz
 go_in
 go_upto_region 1 with fail
 rw[←hW1.o]
 clear hW1
 obtain⟨y0,y1,y2,y3,y4⟩:=cf5 S.o.y
 go_wp2_with fail
 refine (integer_any (n) S.o.t (by have h:=HZ.o;simp at h ⊢;omega)).mono ?_
 rintro _ X1 ⟨rfl,hT,hC⟩
 replace S:=η (S.o.step hT hC)
 clear hT hC y0 y1 y2 y3 y4
 obtain⟨y0,y1,y2,y3,y4⟩:=cf5 S.o.y
 go_wp2_with fail
 first|go_end0|refine bodyPost_ret (results_none rfl _ _ _) rfl ?_
 exact⟨rfl,by have h:=S.o.t;(try simp only[List.append_assoc,List.cons_append,List.nil_append,List.map_cons,List.map_nil] at h);(try simp only[List.append_assoc,List.cons_append,List.nil_append,List.map_cons,List.map_nil]);exact h,S.o.c⟩
theorem w_pri24 {k:Nat} (H:AllW k) {wb mb:Nat} {ts:List Tk} (s:Ê) (n p:Int) (a:List Nd) (A:Option Addr) (cap:Nat) (w:À) (hw:Wr wb mb ts w) (hn:NdR w (im (wOwn wb w) w) (cl 24 s n p A a.length cap) (.mk 24 s n p a)) (hs0:0<s.size) (hz:ts.length+([wdT s]).length≤wTop):Calls prog 164 #[.pointer (some ⟨wb,0,none⟩),.agg (cl 24 s n p A a.length cap).toArray] w (WrSaid wb mb (ts++([wdT s])) w):=by
 have lm:a.length≤9223372036854775807:=(nd_kids hn).len.2
 have lc:a.length≤cap:=(nd_kids hn).cap
 have hs:=nd_sz hn
 obtain⟨HH,HZ,HN,HS0⟩:=zd4 H hz hn (And.intro hs0 hs)
 obtain⟨W1,hW1⟩:∃q,Hid (q=w.alloc (.cells (cl 24 s n p A a.length cap).toArray 24)):=⟨_,rfl⟩
 have S:Hid (WS wb mb w.heap.size (cl 24 s n p A a.length cap).toArray (.slice A a.length cap) a ts w W1):=by show WS _ _ _ _ _ _ _ _ _;rw[hW1.o];exact WS.start hw hn
 clear hw hn hz
 go_in
 go_upto_region 1 with fail
 rw[←hW1.o]
 clear hW1
 obtain⟨y0,y1,y2,y3,y4⟩:=cf5 S.o.y
 go_wp2_with fail
 refine (words_call [s] S.o.t (by intro x hx;simp only[List.mem_cons,List.not_mem_nil,or_false] at hx;subst hx;first|exact HS0.o|exact HK0.o|exact⟨by decide,by decide⟩) (by have h:=HZ.o;simp at h ⊢;omega)).mono ?_
 rintro _ X1 ⟨rfl,hT,hC⟩
 replace S:=η (S.o.step hT hC)
 clear hT hC y0 y1 y2 y3 y4
 obtain⟨y0,y1,y2,y3,y4⟩:=cf5 S.o.y
 go_wp2_with fail
 first|go_end0|refine bodyPost_ret (results_none rfl _ _ _) rfl ?_
 exact⟨rfl,by have h:=S.o.t;(try simp only[List.append_assoc,List.cons_append,List.nil_append,List.map_cons,List.map_nil] at h);(try simp only[List.append_assoc,List.cons_append,List.nil_append,List.map_cons,List.map_nil]);exact h,S.o.c⟩
structure WT (wb mb:Nat) (av:Value) (a:List Nd) (ts:List Tk) (w X:À):Prop where
 t:Wr wb mb ts X
 c:WrC wb w X
 a:NdsR X (im (wOwn wb X) X) av a
theorem WT.step {wb mb:Nat} {av:Value} {a:List Nd} {ts ts':List Tk} {w X X':À} (h:WT wb mb av a ts w X) (ht:Wr wb mb ts' X') (hc:WrC wb X X'):WT wb mb av a ts' w X':=⟨ht,h.c.trans hc,NdsR.to h.a hc.sub⟩
theorem w_fun {k:Nat} (H:AllW k) {wb mb:Nat} {ts:List Tk} (a:List Nd) (A:Option Addr) (cap:Nat) (w:À) (hw:Wr wb mb ts w) (hn:NdsR w (im (wOwn wb w) w) (.slice A a.length cap) a) (him:a.length-1<a.length) (hlast:shq k .exp a[a.length-1]=true)(h2:2≤a.length) (hi2:a.length-1-1<a.length) (htyp:shq k .typ a[a.length-1-1]=true) (hal:(a.take (a.length-1-1)).all (shq k .fld)=true) (hz:ts.length+((wdT (str [40])::(joinT ((a.take (a.length-1-1)).map (tok k .fld))++[wdT (str [41])]))++([wT [58]]++(tok k .typ (a[a.length-1-1]'hi2)++([wT [61]]++(tok k .exp (a[a.length-1]'him)))))).length≤wTop):Calls prog 72 #[.pointer (some ⟨wb,0,none⟩),.slice A a.length cap] w (WrSaid wb mb (ts++((wdT (str [40])::(joinT ((a.take (a.length-1-1)).map (tok k .fld))++[wdT (str [41])]))++([wT [58]]++(tok k .typ (a[a.length-1-1]'hi2)++([wT [61]]++(tok k .exp (a[a.length-1]'him))))))) w):=by
 have lm:a.length≤9223372036854775807:=hn.len.2
 have lc:a.length≤cap:=hn.cap
 obtain⟨HH,HZ,HN,HK_m,HM⟩:=zd5 H hz hn hlast him
 have jm0:(0:Int)≤(a.length:Int)-1:=by omega
 have jm1:(a.length:Int)-1<(a.length:Int):=by omega
 obtain⟨HK_t,HAL⟩:=zd2 htyp hal
 have HLEN:Hid ((a.take (a.length-1-1)).length=a.length-1-1):=by show _=_;rw[List.length_take];omega
 have jt0:(0:Int)≤(a.length:Int)-1-1:=by omega
 have jt1:(a.length:Int)-1-1<(a.length:Int):=by omega
 obtain⟨b,off,rfl⟩:=NdsR.some hn ω
 have S:Hid (WT wb mb (.slice (some ⟨b,off,none⟩) a.length cap) a ts w w):=⟨hw,WrC.refl _ _,hn⟩
 clear hw hn hz
 go_in
 go_wp2_with fail
 refine (list_at (str [40]) (str [41]) (a.take (a.length-1-1)) _ _ _ HLEN.o S.o.t ⟨by decide,by decide⟩ ⟨by decide,by decide⟩ (NdsR.upto S.o.a (a.length-1-1) ω) (each_of HH.o .fld rfl HAL.o wb mb _) (by have h:=HZ.o;simp at h ⊢;omega)).mono ?_
 rintro _ X1 ⟨rfl,hT,hC⟩
 replace S:=η (S.o.step hT hC)
 clear hT hC
 go_wp2_with fail
 refine (words_call [str [58]] S.o.t (by intro x hx;simp only[List.mem_cons,List.not_mem_nil,or_false] at hx;subst hx;first|exact HS0.o|exact HK0.o|exact⟨by decide,by decide⟩) (by have h:=HZ.o;simp at h ⊢;omega)).mono ?_
 rintro _ X2 ⟨rfl,hT,hC⟩
 replace S:=η (S.o.step hT hC)
 clear hT hC
 obtain⟨k1,s1,m1,p1,D1,l1,c1,hr1,e0,e1,e2,e3,e4⟩:=kid_at S.o.a (i:=a.length-1-1) hi2
 have KR:=η hr1
 clear hr1
 go_wp2_with fail
 refine (HH.o .typ rfl wb mb _ (cl k1 s1 m1 p1 D1 l1 c1) _ _ S.o.t KR.o HK_t.o (by have h:=HZ.o;simp at h ⊢;omega)).mono ?_
 rintro _ X3 ⟨rfl,hT,hC⟩
 replace S:=η (S.o.step hT hC)
 clear hT hC e0 e1 e2 e3 e4
 go_wp2_with fail
 refine (words_call [str [61]] S.o.t (by intro x hx;simp only[List.mem_cons,List.not_mem_nil,or_false] at hx;subst hx;first|exact HS0.o|exact HK0.o|exact⟨by decide,by decide⟩) (by have h:=HZ.o;simp at h ⊢;omega)).mono ?_
 rintro _ X4 ⟨rfl,hT,hC⟩
 replace S:=η (S.o.step hT hC)
 clear hT hC
 obtain⟨k1,s1,m1,p1,D1,l1,c1,hr1,e0,e1,e2,e3,e4⟩:=kid_at S.o.a (i:=a.length-1) him
 have KR:=η hr1
 clear hr1
 go_wp2_with fail
 refine (HH.o .exp rfl wb mb _ (cl k1 s1 m1 p1 D1 l1 c1) _ _ S.o.t KR.o HK_m.o (by have h:=HZ.o;simp at h ⊢;omega)).mono ?_
 rintro _ X5 ⟨rfl,hT,hC⟩
 replace S:=η (S.o.step hT hC)
 clear hT hC e0 e1 e2 e3 e4
 go_wp2_with fail
 first|go_end0|refine bodyPost_ret (results_none rfl _ _ _) rfl ?_
 exact⟨rfl,by have h:=S.o.t;(try simp only[List.append_assoc,List.cons_append,List.nil_append,List.map_cons,List.map_nil] at h);(try simp only[List.append_assoc,List.cons_append,List.nil_append,List.map_cons,List.map_nil]);exact h,S.o.c⟩
theorem ser1 {f:Sh→Nd→Bool} {a:List Nd} {x:Sh} (h:serB f a [x]=true):∃y,a=[y]∧f x y=true:=by
 match a,h with
 | [y],h=>exact⟨y,rfl,by simpa[serB] using h⟩
 | _::_::_,h=>simp[serB] at h
theorem ser2 {f:Sh→Nd→Bool} {a:List Nd} {x x':Sh} (h:serB f a [x,x']=true):∃y z,a=[y,z]∧f x y=true∧f x' z=true:=by
 match a,h with
 | [y,z],h=>exact⟨y,z,rfl,by simpa[serB] using h⟩
 | [_],h=>simp[serB] at h
 | _::_::_::_,h=>simp[serB] at h
theorem end2 {f:Sh→Nd→Bool} {a:List Nd} {s x x':Sh} (h:endB f a s [x,x']=true):2≤a.length∧(a.take (a.length-1-1)).all (f s)=true∧∃(h1:a.length-1-1<a.length) (h2:a.length-1<a.length),f x a[a.length-1-1]=true∧f x' a[a.length-1]=true:=by
 unfold endB at h
 simp only[List.length_cons,List.length_nil,Bool.and_eq_true,decide_eq_true_eq] at h
 obtain⟨h1,h2,h3⟩:=h
 obtain⟨y,z,e,h4,h5⟩:=ser2 h3
 have l2:2≤a.length:=by omega
 refine⟨l2,h2,by omega,by omega,?_⟩
 have d1:=List.drop_eq_getElem_cons (l:=a) (i:=a.length-2) ω
 have d2:=List.drop_eq_getElem_cons (l:=a) (i:=a.length-1) ω
 rw[show 0+1+1=2 from rfl] at e
 rw[e] at d1
 injection d1 with d1 d3
 rw[show a.length-2+1=a.length-1 by omega,d2] at d3
 injection d3 with d3 _
 exact⟨by rw[show a[a.length-1-1]' ω=y from d1.symm];exact h4,by rw[←d3];exact h5⟩
theorem kid_get {K n p:Int} {s:Ê} {a:List Nd} {i:Nat} (h:i<a.length):kid (.mk K s n p a) i=a[i]:=by
 show a.getD i nd0=_
 simp[h]
theorem up_sz {l:List UInt8} {s:Ê} {p:List UInt8→Bool} (h:p s.data.toList=true) (h0:p []=false):0<s.size:=by
 rcases Nat.eq_zero_or_pos s.size with e|e
 · have e2:s.data.toList=[]:=by
    have:s.data.toList.length=0:=by simpa using e
    exact List.eq_nil_of_length_eq_zero this
   rw[e2,h0] at h;cases h
 · exact e
def NoSaid (F:FuncId) (P:Nd→Prop) (out:Nd→List Tk):Prop:=∀(wb mb:Nat) (ts:List Tk) (cs:List Value) (t:Nd) (w:À),Wr wb mb ts w→NdR w (im (wOwn wb w) w) cs t→P t→ts.length+(out t).length≤wTop→Calls prog F #[.pointer (some ⟨wb,0,none⟩),.agg cs.toArray] w (WrSaid wb mb (ts++out t) w)
theorem w_exp35 {k:Nat} (H:AllW k) {wb mb:Nat} {ts:List Tk} (s:Ê) (n p:Int) (a:List Nd) (A:Option Addr) (cap:Nat) (w:À) (hw:Wr wb mb ts w) (hn:NdR w (im (wOwn wb w) w) (cl 35 s n p A a.length cap) (.mk 35 s n p a)) {Pp:Nd→Prop} (HF0:NoSaid 161 Pp (binT (tok k))) (hp:Pp (.mk 35 s n p a)) (hz:ts.length+(binT (tok k) (Nd.mk 35 s n p a)).length≤wTop):Calls prog 115 #[.pointer (some ⟨wb,0,none⟩),.agg (cl 35 s n p A a.length cap).toArray] w (WrSaid wb mb (ts++(binT (tok k) (Nd.mk 35 s n p a))) w):=by
 have lm:a.length≤9223372036854775807:=(nd_kids hn).len.2
 have lc:a.length≤cap:=(nd_kids hn).cap
 have hs:=nd_sz hn
 obtain⟨HH,HZ,HN,HF,HP⟩:=zd5 H hz hn HF0 hp
 obtain⟨W1,hW1⟩:∃q,Hid (q=w.alloc (.cells (cl 35 s n p A a.length cap).toArray 24)):=⟨_,rfl⟩
 have S:Hid (WS wb mb w.heap.size (cl 35 s n p A a.length cap).toArray (.slice A a.length cap) a ts w W1):=by show WS _ _ _ _ _ _ _ _ _;rw[hW1.o];exact WS.start hw hn
 clear hw hn hz
 go_in
 go_upto_region 1 with fail
 rw[←hW1.o]
 clear hW1
 obtain⟨y0,y1,y2,y3,y4⟩:=cf5 S.o.y
 go_wp2_with fail
 have SN:=η (NdR.to HN.o S.o.c.sub)
 refine (HF.o wb mb _ (cl 35 s n p A a.length cap) _ _ S.o.t SN.o HP.o (by have h:=HZ.o;simp at h ⊢;omega)).mono ?_
 rintro _ X1 ⟨rfl,hT,hC⟩
 replace S:=η (S.o.step hT hC)
 clear hT hC y0 y1 y2 y3 y4
 obtain⟨y0,y1,y2,y3,y4⟩:=cf5 S.o.y
 go_wp2_with fail
 first|go_end0|refine bodyPost_ret (results_none rfl _ _ _) rfl ?_
 exact⟨rfl,by have h:=S.o.t;(try simp only[List.append_assoc,List.cons_append,List.nil_append,List.map_cons,List.map_nil] at h);(try simp only[List.append_assoc,List.cons_append,List.nil_append,List.map_cons,List.map_nil]);exact h,S.o.c⟩
theorem w_exp20 {k:Nat} (H:AllW k) {wb mb:Nat} {ts:List Tk} (s:Ê) (n p:Int) (a:List Nd) (A:Option Addr) (cap:Nat) (w:À) (hw:Wr wb mb ts w) (hn:NdR w (im (wOwn wb w) w) (cl 20 s n p A a.length cap) (.mk 20 s n p a)) {Pp:Nd→Prop} (HF0:NoSaid 164 Pp (priT (tok k))) (hp:Pp (.mk 20 s n p a)) (hz:ts.length+(priT (tok k) (Nd.mk 20 s n p a)).length≤wTop):Calls prog 115 #[.pointer (some ⟨wb,0,none⟩),.agg (cl 20 s n p A a.length cap).toArray] w (WrSaid wb mb (ts++(priT (tok k) (Nd.mk 20 s n p a))) w):=by
 have lm:a.length≤9223372036854775807:=(nd_kids hn).len.2
 have lc:a.length≤cap:=(nd_kids hn).cap
 have hs:=nd_sz hn
 obtain⟨HH,HZ,HN,HF,HP⟩:=zd5 H hz hn HF0 hp
 obtain⟨W1,hW1⟩:∃q,Hid (q=w.alloc (.cells (cl 20 s n p A a.length cap).toArray 24)):=⟨_,rfl⟩
 have S:Hid (WS wb mb w.heap.size (cl 20 s n p A a.length cap).toArray (.slice A a.length cap) a ts w W1):=by show WS _ _ _ _ _ _ _ _ _;rw[hW1.o];exact WS.start hw hn
 clear hw hn hz
 go_in
 go_upto_region 1 with fail
 rw[←hW1.o]
 clear hW1
 obtain⟨y0,y1,y2,y3,y4⟩:=cf5 S.o.y
 go_wp2_with fail
 have SN:=η (NdR.to HN.o S.o.c.sub)
 refine (HF.o wb mb _ (cl 20 s n p A a.length cap) _ _ S.o.t SN.o HP.o (by have h:=HZ.o;simp at h ⊢;omega)).mono ?_
 rintro _ X1 ⟨rfl,hT,hC⟩
 replace S:=η (S.o.step hT hC)
 clear hT hC y0 y1 y2 y3 y4
 obtain⟨y0,y1,y2,y3,y4⟩:=cf5 S.o.y
 go_wp2_with fail
 first|go_end0|refine bodyPost_ret (results_none rfl _ _ _) rfl ?_
 exact⟨rfl,by have h:=S.o.t;(try simp only[List.append_assoc,List.cons_append,List.nil_append,List.map_cons,List.map_nil] at h);(try simp only[List.append_assoc,List.cons_append,List.nil_append,List.map_cons,List.map_nil]);exact h,S.o.c⟩
theorem w_exp24 {k:Nat} (H:AllW k) {wb mb:Nat} {ts:List Tk} (s:Ê) (n p:Int) (a:List Nd) (A:Option Addr) (cap:Nat) (w:À) (hw:Wr wb mb ts w) (hn:NdR w (im (wOwn wb w) w) (cl 24 s n p A a.length cap) (.mk 24 s n p a)) {Pp:Nd→Prop} (HF0:NoSaid 164 Pp (priT (tok k))) (hp:Pp (.mk 24 s n p a)) (hz:ts.length+(priT (tok k) (Nd.mk 24 s n p a)).length≤wTop):Calls prog 115 #[.pointer (some ⟨wb,0,none⟩),.agg (cl 24 s n p A a.length cap).toArray] w (WrSaid wb mb (ts++(priT (tok k) (Nd.mk 24 s n p a))) w):=by
 have lm:a.length≤9223372036854775807:=(nd_kids hn).len.2
 have lc:a.length≤cap:=(nd_kids hn).cap
 have hs:=nd_sz hn
 obtain⟨HH,HZ,HN,HF,HP⟩:=zd5 H hz hn HF0 hp
 obtain⟨W1,hW1⟩:∃q,Hid (q=w.alloc (.cells (cl 24 s n p A a.length cap).toArray 24)):=⟨_,rfl⟩
 have S:Hid (WS wb mb w.heap.size (cl 24 s n p A a.length cap).toArray (.slice A a.length cap) a ts w W1):=by show WS _ _ _ _ _ _ _ _ _;rw[hW1.o];exact WS.start hw hn
 clear hw hn hz
 go_in
 go_upto_region 1 with fail
 rw[←hW1.o]
 clear hW1
 obtain⟨y0,y1,y2,y3,y4⟩:=cf5 S.o.y
 go_wp2_with fail
 have SN:=η (NdR.to HN.o S.o.c.sub)
 refine (HF.o wb mb _ (cl 24 s n p A a.length cap) _ _ S.o.t SN.o HP.o (by have h:=HZ.o;simp at h ⊢;omega)).mono ?_
 rintro _ X1 ⟨rfl,hT,hC⟩
 replace S:=η (S.o.step hT hC)
 clear hT hC y0 y1 y2 y3 y4
 obtain⟨y0,y1,y2,y3,y4⟩:=cf5 S.o.y
 go_wp2_with fail
 first|go_end0|refine bodyPost_ret (results_none rfl _ _ _) rfl ?_
 exact⟨rfl,by have h:=S.o.t;(try simp only[List.append_assoc,List.cons_append,List.nil_append,List.map_cons,List.map_nil] at h);(try simp only[List.append_assoc,List.cons_append,List.nil_append,List.map_cons,List.map_nil]);exact h,S.o.c⟩
theorem fn_said {k:Nat} (H:AllW k) (K:Int) (s:Ê) (n p:Int) (a:List Nd) (A:Option Addr) (cap:Nat) {wb mb:Nat} {ts:List Tk} {w:À} (hw:Wr wb mb ts w) (ha:NdsR w (im (wOwn wb w) w) (.slice A a.length cap) a) (hf:endB (shq k) a .fld [.typ,.exp]=true) (hz:ts.length+(funT (tok k) (.mk K s n p a)).length≤wTop) :
 Calls prog 72 #[.pointer (some ⟨wb,0,none⟩),.slice A a.length cap] w (WrSaid wb mb (ts++funT (tok k) (.mk K s n p a)) w):=by
 obtain⟨h1,h2,h3,h4,h5,h6⟩:=end2 hf
 have e:funT (tok k) (.mk K s n p a)=(wdT (str [40])::(joinT ((a.take (a.length-1-1)).map (tok k .fld))++[wdT (str [41])]))++([wT [58]]++(tok k .typ (a[a.length-1-1]'h3)++([wT [61]]++(tok k .exp (a[a.length-1]'h4))))):=by
  unfold funT lastN
  rw[show (ndL (.mk K s n p a))=a from rfl,kid_get (K:=K) (n:=n) (p:=p) (s:=s) (a:=a) (i:=a.length-2) ω,kid_get (K:=K) (n:=n) (p:=p) (s:=s) (a:=a) (i:=a.length-1) h4]
  rfl
 rw[e] at hz ⊢
 exact w_fun H a A cap w hw ha h4 h6 h1 h3 h5 h2 hz
theorem w_dcl5 {k:Nat} (H:AllW k) {wb mb:Nat} {ts:List Tk} (s:Ê) (n p:Int) (a:List Nd) (A:Option Addr) (cap:Nat) (w:À) (hw:Wr wb mb ts w) (hn:NdR w (im (wOwn wb w) w) (cl 5 s n p A a.length cap) (.mk 5 s n p a)) (hs0:0<s.size)(hfk:endB (shq k) a .fld [.typ,.exp]=true) (hz:ts.length+([wT [102,117,110],wdT s]++(funT (tok k) (Nd.mk 5 s n p a))).length≤wTop):Calls prog 33 #[.pointer (some ⟨wb,0,none⟩),.agg (cl 5 s n p A a.length cap).toArray] w (WrSaid wb mb (ts++([wT [102,117,110],wdT s]++(funT (tok k) (Nd.mk 5 s n p a)))) w):=by
 have lm:a.length≤9223372036854775807:=(nd_kids hn).len.2
 have lc:a.length≤cap:=(nd_kids hn).cap
 have hs:=nd_sz hn
 obtain⟨HH,HZ,HN,HS0,HFK⟩:=zd5 H hz hn (And.intro hs0 hs) hfk
 obtain⟨W1,hW1⟩:∃q,Hid (q=w.alloc (.cells (cl 5 s n p A a.length cap).toArray 24)):=⟨_,rfl⟩
 have S:Hid (WS wb mb w.heap.size (cl 5 s n p A a.length cap).toArray (.slice A a.length cap) a ts w W1):=by show WS _ _ _ _ _ _ _ _ _;rw[hW1.o];exact WS.start hw hn
 clear hw hn hz
 go_in
 go_upto_region 1 with fail
 rw[←hW1.o]
 clear hW1
 obtain⟨y0,y1,y2,y3,y4⟩:=cf5 S.o.y
 go_wp2_with fail
 refine (words_call [str [102,117,110],s] S.o.t (by intro x hx;simp only[List.mem_cons,List.not_mem_nil,or_false] at hx;rcases hx with rfl|rfl<;>first|exact HS0.o|exact HK0.o|exact⟨by decide,by decide⟩) (by have h:=HZ.o;simp at h ⊢;omega)).mono ?_
 rintro _ X1 ⟨rfl,hT,hC⟩
 replace S:=η (S.o.step hT hC)
 clear hT hC y0 y1 y2 y3 y4
 obtain⟨y0,y1,y2,y3,y4⟩:=cf5 S.o.y
 go_wp2_with fail
 refine (fn_said HH.o 5 s n p a _ _ S.o.t S.o.a HFK.o (by have h:=HZ.o;simp at h ⊢;omega)).mono ?_
 rintro _ X2 ⟨rfl,hT,hC⟩
 replace S:=η (S.o.step hT hC)
 clear hT hC y0 y1 y2 y3 y4
 obtain⟨y0,y1,y2,y3,y4⟩:=cf5 S.o.y
 go_wp2_with fail
 first|go_end0|refine bodyPost_ret (results_none rfl _ _ _) rfl ?_
 exact⟨rfl,by have h:=S.o.t;(try simp only[List.append_assoc,List.cons_append,List.nil_append,List.map_cons,List.map_nil] at h);(try simp only[List.append_assoc,List.cons_append,List.nil_append,List.map_cons,List.map_nil]);exact h,S.o.c⟩
theorem w_bin4 {k:Nat} (H:AllW k) {wb mb:Nat} {ts:List Tk} (s:Ê) (n p:Int) (a:List Nd) (A:Option Addr) (cap:Nat) (w:À) (hw:Wr wb mb ts w) (hn:NdR w (im (wOwn wb w) w) (cl 35 s n p A a.length cap) (.mk 35 s n p a)) (hs0:0<s.size)(hi0:0<a.length) (h0:shq k .exp a[0]=true)(hi1:1<a.length) (h1:shq k .exp a[1]=true)(L:Nat) (hL:L=(levP s.data.toList).getD 0) (hL7:L≤7) (h4:L=4) (hz:ts.length+(opdT (tok k) (a[0]'hi0) (L+1)++([wdT s]++(opdT (tok k) (a[1]'hi1) (L+1)))).length≤wTop):Calls prog 161 #[.pointer (some ⟨wb,0,none⟩),.agg (cl 35 s n p A a.length cap).toArray] w (WrSaid wb mb (ts++(opdT (tok k) (a[0]'hi0) (L+1)++([wdT s]++(opdT (tok k) (a[1]'hi1) (L+1))))) w):=by
 have lm:a.length≤9223372036854775807:=(nd_kids hn).len.2
 have lc:a.length≤cap:=(nd_kids hn).cap
 have hs:=nd_sz hn
 obtain⟨HH,HZ,HN,HS0,HK_0⟩:=zd5 H hz hn (And.intro hs0 hs) h0
 have j0:(0:Int)<(a.length:Int):=by omega
 have HK_1:=η h1
 have j1:(1:Int)<(a.length:Int):=by omega
 obtain⟨HL,HL7,H4⟩:=zd3 hL hL7 h4
 have u4:((L:Int)==4)=true:=beq_iff_eq.2 ω
 have HW:Hid (IntKind.i64.wrap ((L:Int)+1)=((L+1:Nat):Int)):=by show _=_;rw[IntKind.wrap_i64];omega
 have HW2:Hid (wrap64 ((L:Int)+1)=((L+1:Nat):Int)):=by show _=_;unfold wrap64;omega
 have HW3:Hid ((L:Int)+1=((L+1:Nat):Int)):=by show _=_;omega
 obtain⟨b,off,rfl⟩:=NdsR.some (nd_kids hn) hi0
 obtain⟨W1,hW1⟩:∃q,Hid (q=w.alloc (.cells (cl 35 s n p (some ⟨b,off,none⟩) a.length cap).toArray 24)):=⟨_,rfl⟩
 have S:Hid (WS wb mb w.heap.size (cl 35 s n p (some ⟨b,off,none⟩) a.length cap).toArray (.slice (some ⟨b,off,none⟩) a.length cap) a ts w W1):=by show WS _ _ _ _ _ _ _ _ _;rw[hW1.o];exact WS.start hw hn
 obtain⟨v,hb,_⟩:=S.o.t.row
 have b1:W1.cell? ⟨wb,1,none⟩=some (.map (some mb)):=hb.c 1
 have y1:W1.cell? ⟨w.heap.size,1,none⟩=some (.string s):=S.o.y.c 1
 obtain⟨nm,hm⟩:=S.o.t.lev
 have z1:=belW y1;have zb:=belW b1
 have hlk:∀X,Below W1.heap.size W1 X→(Instr.lookup 51 (.map (some mb)) (.string s) false).run prog X=.ok (.int .i64 (L:Int)) X:=fun X hX =>
  (MapIs.look (hm.below hX hm.lt) (keyStr underlying9) underlying51 (zeroInt X) (keyOf_string_mk underlying9 HS0.o.2)).trans (by rw[HL.o];unfold levF;cases levP s.data.toList<;>rfl)
 clear hb hm b1 y1
 clear hw hn hz hL hL7 h4
 go_in
 go_upto_region 1 with fail
 rw[←hW1.o]
 clear hW1
 refine tkB (fun X=>Below W1.heap.size W1 X) (belDr W1) (fun HS2=>?_)
 generalize W1.drew=X0 at HS2 ⊢
 refine θ ?_
 refine tkD ?_
 replace S:=η (S.o.bel HS2)
 clear z1 zb hlk HS2
 obtain⟨y0,y1,y2,y3,y4⟩:=cf5 S.o.y
 obtain⟨k1,s1,m1,p1,D1,l1,c1,hr1,e0,e1,e2,e3,e4⟩:=kid_at S.o.a (i:=0) hi0
 have KR:=η hr1
 clear hr1
 simp only[Nat.zero_mul,Nat.add_zero,Nat.reduceMul] at e0 e1 e2 e3 e4
 go_wp2_with fail
 (first|rw[HW.o]|rw[HW2.o]|rw[HW3.o]|skip)
 refine (opd_said HH.o wb mb _ (cl k1 s1 m1 p1 D1 l1 c1) _ (L+1) _ S.o.t KR.o HK_0.o (by have:=HL7.o;omega) (by have h:=HZ.o;simp at h ⊢;omega)).mono ?_
 rintro _ X1 ⟨rfl,hT,hC⟩
 replace S:=η (S.o.step hT hC)
 clear hT hC y0 y1 y2 y3 y4 e0 e1 e2 e3 e4
 obtain⟨y0,y1,y2,y3,y4⟩:=cf5 S.o.y
 go_wp2_with fail
 refine (words_call [s] S.o.t (by intro x hx;simp only[List.mem_cons,List.not_mem_nil,or_false] at hx;subst hx;first|exact HS0.o|exact HK0.o|exact⟨by decide,by decide⟩) (by have h:=HZ.o;simp at h ⊢;omega)).mono ?_
 rintro _ X2 ⟨rfl,hT,hC⟩
 replace S:=η (S.o.step hT hC)
 clear hT hC y0 y1 y2 y3 y4
 obtain⟨y0,y1,y2,y3,y4⟩:=cf5 S.o.y
 obtain⟨k1,s1,m1,p1,D1,l1,c1,hr1,e0,e1,e2,e3,e4⟩:=kid_at S.o.a (i:=1) hi1
 have KR:=η hr1
 clear hr1
 have g1:=e1;have g2:=e2;have g3:=e3;have g4:=e4
 simp only[Nat.add_assoc,Nat.reduceMul,Nat.reduceAdd] at g1 g2 g3 g4
 simp only[Nat.zero_mul,Nat.add_zero,Nat.reduceMul] at e0 e1 e2 e3 e4
 go_wp2_with fail
 (first|rw[HW.o]|rw[HW2.o]|rw[HW3.o]|skip)
 refine (opd_said HH.o wb mb _ (cl k1 s1 m1 p1 D1 l1 c1) _ (L+1) _ S.o.t KR.o HK_1.o (by have:=HL7.o;omega) (by have h:=HZ.o;simp at h ⊢;omega)).mono ?_
 rintro _ X3 ⟨rfl,hT,hC⟩
 replace S:=η (S.o.step hT hC)
 clear hT hC y0 y1 y2 y3 y4 e0 e1 e2 e3 e4 g1 g2 g3 g4
 obtain⟨y0,y1,y2,y3,y4⟩:=cf5 S.o.y
 go_wp2_with fail
 first|go_end0|refine bodyPost_ret (results_none rfl _ _ _) rfl ?_
 exact⟨rfl,by have h:=S.o.t;(try simp only[List.append_assoc,List.cons_append,List.nil_append,List.map_cons,List.map_nil] at h);(try simp only[List.append_assoc,List.cons_append,List.nil_append,List.map_cons,List.map_nil]);exact h,S.o.c⟩
theorem w_bin0 {k:Nat} (H:AllW k) {wb mb:Nat} {ts:List Tk} (s:Ê) (n p:Int) (a:List Nd) (A:Option Addr) (cap:Nat) (w:À) (hw:Wr wb mb ts w) (hn:NdR w (im (wOwn wb w) w) (cl 35 s n p A a.length cap) (.mk 35 s n p a)) (hs0:0<s.size)(hi0:0<a.length) (h0:shq k .exp a[0]=true)(hi1:1<a.length) (h1:shq k .exp a[1]=true)(L:Nat) (hL:L=(levP s.data.toList).getD 0) (hL7:L≤7) (h4:¬L=4) (hz:ts.length+(opdT (tok k) (a[0]'hi0) L++([wdT s]++(opdT (tok k) (a[1]'hi1) (L+1)))).length≤wTop):Calls prog 161 #[.pointer (some ⟨wb,0,none⟩),.agg (cl 35 s n p A a.length cap).toArray] w (WrSaid wb mb (ts++(opdT (tok k) (a[0]'hi0) L++([wdT s]++(opdT (tok k) (a[1]'hi1) (L+1))))) w):=by
 have lm:a.length≤9223372036854775807:=(nd_kids hn).len.2
 have lc:a.length≤cap:=(nd_kids hn).cap
 have hs:=nd_sz hn
 obtain⟨HH,HZ,HN,HS0,HK_0⟩:=zd5 H hz hn (And.intro hs0 hs) h0
 have j0:(0:Int)<(a.length:Int):=by omega
 have HK_1:=η h1
 have j1:(1:Int)<(a.length:Int):=by omega
 obtain⟨HL,HL7,H4⟩:=zd3 hL hL7 h4
 have u4:((L:Int)==4)=false:=beq_eq_false_iff_ne.2 ω
 have HW:Hid (IntKind.i64.wrap ((L:Int)+1)=((L+1:Nat):Int)):=by show _=_;rw[IntKind.wrap_i64];omega
 have HW2:Hid (wrap64 ((L:Int)+1)=((L+1:Nat):Int)):=by show _=_;unfold wrap64;omega
 have HW3:Hid ((L:Int)+1=((L+1:Nat):Int)):=by show _=_;omega
 obtain⟨b,off,rfl⟩:=NdsR.some (nd_kids hn) hi0
 obtain⟨W1,hW1⟩:∃q,Hid (q=w.alloc (.cells (cl 35 s n p (some ⟨b,off,none⟩) a.length cap).toArray 24)):=⟨_,rfl⟩
 have S:Hid (WS wb mb w.heap.size (cl 35 s n p (some ⟨b,off,none⟩) a.length cap).toArray (.slice (some ⟨b,off,none⟩) a.length cap) a ts w W1):=by show WS _ _ _ _ _ _ _ _ _;rw[hW1.o];exact WS.start hw hn
 obtain⟨v,hb,_⟩:=S.o.t.row
 have b1:W1.cell? ⟨wb,1,none⟩=some (.map (some mb)):=hb.c 1
 have y1:W1.cell? ⟨w.heap.size,1,none⟩=some (.string s):=S.o.y.c 1
 obtain⟨nm,hm⟩:=S.o.t.lev
 have z1:=belW y1;have zb:=belW b1
 have hlk:∀X,Below W1.heap.size W1 X→(Instr.lookup 51 (.map (some mb)) (.string s) false).run prog X=.ok (.int .i64 (L:Int)) X:=fun X hX =>
  (MapIs.look (hm.below hX hm.lt) (keyStr underlying9) underlying51 (zeroInt X) (keyOf_string_mk underlying9 HS0.o.2)).trans (by rw[HL.o];unfold levF;cases levP s.data.toList<;>rfl)
 clear hb hm b1 y1
 clear hw hn hz hL hL7 h4
 go_in
 go_upto_region 1 with fail
 rw[←hW1.o]
 clear hW1
 refine tkB (fun X=>Below W1.heap.size W1 X) (belDr W1) (fun HS2=>?_)
 generalize W1.drew=X0 at HS2 ⊢
 refine θ ?_
 refine tkD ?_
 replace S:=η (S.o.bel HS2)
 clear z1 zb hlk HS2
 obtain⟨y0,y1,y2,y3,y4⟩:=cf5 S.o.y
 obtain⟨k1,s1,m1,p1,D1,l1,c1,hr1,e0,e1,e2,e3,e4⟩:=kid_at S.o.a (i:=0) hi0
 have KR:=η hr1
 clear hr1
 simp only[Nat.zero_mul,Nat.add_zero,Nat.reduceMul] at e0 e1 e2 e3 e4
 go_wp2_with fail
 (first|rw[HW.o]|rw[HW2.o]|rw[HW3.o]|skip)
 refine (opd_said HH.o wb mb _ (cl k1 s1 m1 p1 D1 l1 c1) _ L _ S.o.t KR.o HK_0.o (by have:=HL7.o;omega) (by have h:=HZ.o;simp at h ⊢;omega)).mono ?_
 rintro _ X1 ⟨rfl,hT,hC⟩
 replace S:=η (S.o.step hT hC)
 clear hT hC y0 y1 y2 y3 y4 e0 e1 e2 e3 e4
 obtain⟨y0,y1,y2,y3,y4⟩:=cf5 S.o.y
 go_wp2_with fail
 refine (words_call [s] S.o.t (by intro x hx;simp only[List.mem_cons,List.not_mem_nil,or_false] at hx;subst hx;first|exact HS0.o|exact HK0.o|exact⟨by decide,by decide⟩) (by have h:=HZ.o;simp at h ⊢;omega)).mono ?_
 rintro _ X2 ⟨rfl,hT,hC⟩
 replace S:=η (S.o.step hT hC)
 clear hT hC y0 y1 y2 y3 y4
 obtain⟨y0,y1,y2,y3,y4⟩:=cf5 S.o.y
 obtain⟨k1,s1,m1,p1,D1,l1,c1,hr1,e0,e1,e2,e3,e4⟩:=kid_at S.o.a (i:=1) hi1
 have KR:=η hr1
 clear hr1
 have g1:=e1;have g2:=e2;have g3:=e3;have g4:=e4
 simp only[Nat.add_assoc,Nat.reduceMul,Nat.reduceAdd] at g1 g2 g3 g4
 simp only[Nat.zero_mul,Nat.add_zero,Nat.reduceMul] at e0 e1 e2 e3 e4
 go_wp2_with fail
 (first|rw[HW.o]|rw[HW2.o]|rw[HW3.o]|skip)
 refine (opd_said HH.o wb mb _ (cl k1 s1 m1 p1 D1 l1 c1) _ (L+1) _ S.o.t KR.o HK_1.o (by have:=HL7.o;omega) (by have h:=HZ.o;simp at h ⊢;omega)).mono ?_
 rintro _ X3 ⟨rfl,hT,hC⟩
 replace S:=η (S.o.step hT hC)
 clear hT hC y0 y1 y2 y3 y4 e0 e1 e2 e3 e4 g1 g2 g3 g4
 obtain⟨y0,y1,y2,y3,y4⟩:=cf5 S.o.y
 go_wp2_with fail
 first|go_end0|refine bodyPost_ret (results_none rfl _ _ _) rfl ?_
 exact⟨rfl,by have h:=S.o.t;(try simp only[List.append_assoc,List.cons_append,List.nil_append,List.map_cons,List.map_nil] at h);(try simp only[List.append_assoc,List.cons_append,List.nil_append,List.map_cons,List.map_nil]);exact h,S.o.c⟩
theorem lev_le7 (l:List UInt8):(levP l).getD 0≤7:=by
 unfold levP
 repeat (first|split|decide|simp)
theorem w_fld {k:Nat} (H:AllW k) {wb mb:Nat} {ts:List Tk} (k0:Int) (s:Ê) (n p:Int) (a:List Nd) (A:Option Addr) (cap:Nat) (w:À) (hw:Wr wb mb ts w) (hn:NdR w (im (wOwn wb w) w) (cl k0 s n p A a.length cap) (.mk k0 s n p a)) (hs0:0<s.size)(hi0:0<a.length) (h0:shq k .typ a[0]=true) (hz:ts.length+([wdT s,wT [58]]++(tok k .typ (a[0]'hi0))).length≤wTop):Calls prog 69 #[.pointer (some ⟨wb,0,none⟩),.agg (cl k0 s n p A a.length cap).toArray] w (WrSaid wb mb (ts++([wdT s,wT [58]]++(tok k .typ (a[0]'hi0)))) w):=by
 have lm:a.length≤9223372036854775807:=(nd_kids hn).len.2
 have lc:a.length≤cap:=(nd_kids hn).cap
 have hs:=nd_sz hn
 obtain⟨HH,HZ,HN,HS0,HK_0⟩:=zd5 H hz hn (And.intro hs0 hs) h0
 have j0:(0:Int)<(a.length:Int):=by omega
 obtain⟨b,off,rfl⟩:=NdsR.some (nd_kids hn) hi0
 obtain⟨W1,hW1⟩:∃q,Hid (q=w.alloc (.cells (cl k0 s n p (some ⟨b,off,none⟩) a.length cap).toArray 24)):=⟨_,rfl⟩
 have S:Hid (WS wb mb w.heap.size (cl k0 s n p (some ⟨b,off,none⟩) a.length cap).toArray (.slice (some ⟨b,off,none⟩) a.length cap) a ts w W1):=by show WS _ _ _ _ _ _ _ _ _;rw[hW1.o];exact WS.start hw hn
 clear hw hn hz
 go_in
 go_upto_region 1 with fail
 rw[←hW1.o]
 clear hW1
 obtain⟨y0,y1,y2,y3,y4⟩:=cf5 S.o.y
 go_wp2_with fail
 refine (words_call [s,str [58]] S.o.t (by intro x hx;simp only[List.mem_cons,List.not_mem_nil,or_false] at hx;rcases hx with rfl|rfl<;>first|exact HS0.o|exact HK0.o|exact⟨by decide,by decide⟩) (by have h:=HZ.o;simp at h ⊢;omega)).mono ?_
 rintro _ X1 ⟨rfl,hT,hC⟩
 replace S:=η (S.o.step hT hC)
 clear hT hC y0 y1 y2 y3 y4
 obtain⟨y0,y1,y2,y3,y4⟩:=cf5 S.o.y
 obtain⟨k1,s1,m1,p1,D1,l1,c1,hr1,e0,e1,e2,e3,e4⟩:=kid_at S.o.a (i:=0) hi0
 have KR:=η hr1
 clear hr1
 simp only[Nat.zero_mul,Nat.add_zero,Nat.reduceMul] at e0 e1 e2 e3 e4
 go_wp2_with fail
 refine (HH.o .typ rfl wb mb _ (cl k1 s1 m1 p1 D1 l1 c1) _ _ S.o.t KR.o HK_0.o (by have h:=HZ.o;simp at h ⊢;omega)).mono ?_
 rintro _ X2 ⟨rfl,hT,hC⟩
 replace S:=η (S.o.step hT hC)
 clear hT hC y0 y1 y2 y3 y4 e0 e1 e2 e3 e4
 obtain⟨y0,y1,y2,y3,y4⟩:=cf5 S.o.y
 go_wp2_with fail
 first|go_end0|refine bodyPost_ret (results_none rfl _ _ _) rfl ?_
 exact⟨rfl,by have h:=S.o.t;(try simp only[List.append_assoc,List.cons_append,List.nil_append,List.map_cons,List.map_nil] at h);(try simp only[List.append_assoc,List.cons_append,List.nil_append,List.map_cons,List.map_nil]);exact h,S.o.c⟩
theorem w_typ12 {k:Nat} (H:AllW k) {wb mb:Nat} {ts:List Tk} (s:Ê) (n p:Int) (a:List Nd) (A:Option Addr) (cap:Nat) (w:À) (hw:Wr wb mb ts w) (hn:NdR w (im (wOwn wb w) w) (cl 12 s n p A a.length cap) (.mk 12 s n p a)) (hs0:0<s.size) (hz:ts.length+([wdT s]).length≤wTop):Calls prog 71 #[.pointer (some ⟨wb,0,none⟩),.agg (cl 12 s n p A a.length cap).toArray] w (WrSaid wb mb (ts++([wdT s])) w):=by
 have lm:a.length≤9223372036854775807:=(nd_kids hn).len.2
 have lc:a.length≤cap:=(nd_kids hn).cap
 have hs:=nd_sz hn
 obtain⟨HH,HZ,HN,HS0⟩:=zd4 H hz hn (And.intro hs0 hs)
 obtain⟨W1,hW1⟩:∃q,Hid (q=w.alloc (.cells (cl 12 s n p A a.length cap).toArray 24)):=⟨_,rfl⟩
 have S:Hid (WS wb mb w.heap.size (cl 12 s n p A a.length cap).toArray (.slice A a.length cap) a ts w W1):=by show WS _ _ _ _ _ _ _ _ _;rw[hW1.o];exact WS.start hw hn
 clear hw hn hz
 go_in
 go_upto_region 1 with fail
 rw[←hW1.o]
 clear hW1
 obtain⟨y0,y1,y2,y3,y4⟩:=cf5 S.o.y
 go_wp2_with fail
 refine (words_call [s] S.o.t (by intro x hx;simp only[List.mem_cons,List.not_mem_nil,or_false] at hx;subst hx;first|exact HS0.o|exact HK0.o|exact⟨by decide,by decide⟩) (by have h:=HZ.o;simp at h ⊢;omega)).mono ?_
 rintro _ X1 ⟨rfl,hT,hC⟩
 replace S:=η (S.o.step hT hC)
 clear hT hC y0 y1 y2 y3 y4
 obtain⟨y0,y1,y2,y3,y4⟩:=cf5 S.o.y
 go_wp2_with fail
 first|go_end0|refine bodyPost_ret (results_none rfl _ _ _) rfl ?_
 exact⟨rfl,by have h:=S.o.t;(try simp only[List.append_assoc,List.cons_append,List.nil_append,List.map_cons,List.map_nil] at h);(try simp only[List.append_assoc,List.cons_append,List.nil_append,List.map_cons,List.map_nil]);exact h,S.o.c⟩
section
theorem simL_all:∀a:List Nd,simL a=a.all simN
 | []=>by rw[simL];rfl
 | x::a=>by rw[simL,List.all_cons,simL_all a]
theorem shq_iff {k:Nat} {s:Sh} {t:Nd}:shq k s t=true↔shp k s t=true∧simN t=true:=by unfold shq;rw[Bool.and_eq_true]
theorem simN_mk {K n p:Int} {s:Ê} {a:List Nd} (h:simN (.mk K s n p a)=true):simK K=true∧a.all simN=true:=by
 rw[simN,Bool.and_eq_true,simL_all] at h;exact h
theorem all_shq {k:Nat} {s:Sh} {a:List Nd} (h:a.all (shp k s)=true) (h2:a.all simN=true):a.all (shq k s)=true:=by
 rw[List.all_eq_true] at h h2 ⊢
 exact fun x hx=>shq_iff.2 ⟨h x hx,h2 x hx⟩
theorem all_take {g:Nd→Bool} {a:List Nd} (h:a.all g=true) (j:Nat):(a.take j).all g=true:=by
 rw[List.all_eq_true] at h ⊢
 exact fun x hx=>h x (List.mem_of_mem_take hx)
theorem all_drop {g:Nd→Bool} {a:List Nd} (h:a.all g=true) (j:Nat):(a.drop j).all g=true:=by
 rw[List.all_eq_true] at h ⊢
 exact fun x hx=>h x (List.mem_of_mem_drop hx)
theorem ser_shq {k:Nat}:∀(a:List Nd) (q:List Sh),serB (shp k) a q=true→a.all simN=true→serB (shq k) a q=true
 | [],[],_,_=>rfl
 | [],_::_,h,_=>by simp[serB] at h
 | _::_,[],h,_=>by simp[serB] at h
 | x::a,s::q,h,h2=>by
  simp only[serB,List.all_cons,Bool.and_eq_true] at h h2 ⊢
  exact⟨shq_iff.2 ⟨h.1,h2.1⟩,ser_shq a q h.2 h2.2⟩
theorem end_shq {k:Nat} {a:List Nd} {s:Sh} {q:List Sh} (h:endB (shp k) a s q=true) (h2:a.all simN=true):endB (shq k) a s q=true:=by
 unfold endB at h ⊢
 simp only[Bool.and_eq_true] at h ⊢
 exact⟨h.1,all_shq h.2.1 (all_take h2 _),ser_shq _ _ h.2.2 (all_drop h2 _)⟩
theorem nam_sz {p:Wp} {K n q:Int} {s:Ê} {a:List Nd} (h:namB p (.mk K s n q a)=true):0<s.size:=by
 unfold namB at h
 rw[Bool.and_eq_true] at h
 exact up_sz (l:=[]) (p:=p.b) h.1 (by cases p<;>rfl)
section
variable {k:Nat} (H:AllW k)
include H
theorem pri_said:NoSaid 164 (fun t=>shq (k+1) .exp t=true∧(ndK t=20∨ndK t=24)) (priT (tok k)):=fun wb mb ts cs t w hw hn hx hz=>by
 have hn2:=hn
 obtain⟨K,s,n,p,a,A,cap,rfl,rfl,_⟩:=nd_form hn
 obtain⟨hq,hk⟩:=hx
 obtain⟨hs,hsim⟩:=shq_iff.1 hq
 obtain⟨_,hsa⟩:=simN_mk hsim
 rcases hk with h|h<;>obtain rfl:K=_:=h
 · exact w_pri20 H s n p a A cap w hw hn2 hz
 · have h2:(a.length==0&&namB .low (.mk 24 s n p a))=true:=hs
   rw[Bool.and_eq_true] at h2
   exact w_pri24 H s n p a A cap w hw hn2 (nam_sz h2.2) hz
theorem bin_said:NoSaid 161 (fun t=>shq (k+1) .exp t=true∧ndK t=35) (binT (tok k)):=fun wb mb ts cs t w hw hn hx hz=>by
 have hn2:=hn
 obtain⟨K,s,n,p,a,A,cap,rfl,rfl,_⟩:=nd_form hn
 obtain⟨hq,hk⟩:=hx
 obtain⟨hs,hsim⟩:=shq_iff.1 hq
 obtain⟨_,hsa⟩:=simN_mk hsim
 obtain rfl:K=35:=hk
 have h2:((levP s.data.toList).isSome&&n==0&&serB (shp k) a [.exp,.exp])=true:=hs
 rw[Bool.and_eq_true,Bool.and_eq_true] at h2
 obtain⟨y,z,rfl,h3,h4⟩:=ser2 (ser_shq _ _ h2.2 hsa)
 have h0:0<s.size:=up_sz (l:=[]) (p:=fun l=>(levP l).isSome) h2.1.1 rfl
 have e:binT (tok k) (.mk 35 s n p [y,z])=opdT (tok k) y (if (levP s.data.toList).getD 0=4 then 5 else (levP s.data.toList).getD 0)++wdT s::opdT (tok k) z ((levP s.data.toList).getD 0+1):=rfl
 rw[e] at hz ⊢
 obtain⟨L,hL⟩:∃L,L=(levP s.data.toList).getD 0:=⟨_,rfl⟩
 have h7:=lev_le7 s.data.toList
 rw[←hL] at hz h7 ⊢
 by_cases c4:L=4
 · rw[if_pos c4] at hz ⊢
   rw[show (5:Nat)=L+1 by omega] at hz ⊢
   exact w_bin4 H s n p [y,z] A cap w hw hn2 h0 (by simp) h3 (by simp) h4 L hL h7 c4 hz
 · rw[if_neg c4] at hz ⊢
   exact w_bin0 H s n p [y,z] A cap w hw hn2 h0 (by simp) h3 (by simp) h4 L hL h7 c4 hz
theorem n_typ:NwSaid (k+1) .typ:=fun wb mb ts cs t w hw hn hq hz=>by
 have hn2:=hn
 obtain⟨K,s,n,p,a,A,cap,rfl,rfl,_⟩:=nd_form hn
 obtain⟨hs,hsim⟩:=shq_iff.1 hq
 obtain⟨hK,hsa⟩:=simN_mk hsim
 have h1:typeB (shp k) (.mk K s n p a)=true:=hs
 by_cases c1:K=12
 · subst c1
   have h2:(namB .typ (.mk 12 s n p a)&&a.length==0)=true:=h1
   rw[Bool.and_eq_true] at h2
   exact w_typ12 H s n p a A cap w hw hn2 (nam_sz h2.1) hz
 by_cases c2:K=13
 · subst c2;exact absurd hK π
 by_cases c3:K=14
 · subst c3;exact absurd hK π
 by_cases c4:K=15
 · subst c4;exact absurd hK π
 · exfalso
   unfold typeB at h1
   simp[ndK,c1,c2,c3,c4] at h1
theorem n_fld:NwSaid (k+1) .fld:=fun wb mb ts cs t w hw hn hq hz=>by
 have hn2:=hn
 obtain⟨K,s,n,p,a,A,cap,rfl,rfl,_⟩:=nd_form hn
 obtain⟨hs,hsim⟩:=shq_iff.1 hq
 obtain⟨_,hsa⟩:=simN_mk hsim
 have h2:(K==7&&namB .low (.mk K s n p a)&&serB (shp k) a [.typ])=true:=hs
 rw[Bool.and_eq_true,Bool.and_eq_true] at h2
 obtain⟨y,rfl,h3⟩:=ser1 (ser_shq _ _ h2.2 hsa)
 exact w_fld H K s n p [y] A cap w hw hn2 (nam_sz h2.1.2) (by simp) h3 hz
theorem n_set:NwSaid (k+1) .set:=fun wb mb ts cs t w hw hn hq hz=>by
 have hn2:=hn
 obtain⟨K,s,n,p,a,A,cap,rfl,rfl,_⟩:=nd_form hn
 obtain⟨hs,hsim⟩:=shq_iff.1 hq
 obtain⟨hK,_⟩:=simN_mk hsim
 have h2:(K==28&&namB .low (.mk K s n p a)&&serB (shp k) a [.exp])=true:=hs
 rw[Bool.and_eq_true,Bool.and_eq_true,beq_iff_eq] at h2
 rw[h2.1.1] at hK
 exact absurd hK π
theorem n_ctor:NwSaid (k+1) .ctor:=fun wb mb ts cs t w hw hn hq hz=>by
 have hn2:=hn
 obtain⟨K,s,n,p,a,A,cap,rfl,rfl,_⟩:=nd_form hn
 obtain⟨hs,hsim⟩:=shq_iff.1 hq
 obtain⟨hK,_⟩:=simN_mk hsim
 have h2:(K==8&&namB .upp (.mk K s n p a)&&a.all (shp k .typ))=true:=hs
 rw[Bool.and_eq_true,Bool.and_eq_true,beq_iff_eq] at h2
 rw[h2.1.1] at hK
 exact absurd hK π
theorem n_exp:NwSaid (k+1) .exp:=fun wb mb ts cs t w hw hn hq hz=>by
 have hn2:=hn
 obtain⟨K,s,n,p,a,A,cap,rfl,rfl,_⟩:=nd_form hn
 obtain⟨hs,hsim⟩:=shq_iff.1 hq
 obtain⟨hK,hsa⟩:=simN_mk hsim
 have h1:expB (shp k) (.mk K s n p a)=true:=hs
 by_cases c:K=20
 · subst c;exact w_exp20 H s n p a A cap w hw hn2 (pri_said H) ⟨hq,by simp[ndK]⟩ hz
 by_cases c:K=22
 · subst c;exact absurd hK π
 by_cases c:K=23
 · subst c;exact absurd hK π
 by_cases c:K=24
 · subst c;exact w_exp24 H s n p a A cap w hw hn2 (pri_said H) ⟨hq,by simp[ndK]⟩ hz
 by_cases c:K=25
 · subst c;exact absurd hK π
 by_cases c:K=26
 · subst c;exact absurd hK π
 by_cases c:K=27
 · subst c;exact absurd hK π
 by_cases c:K=29
 · subst c;exact absurd hK π
 by_cases c:K=35
 · subst c;exact w_exp35 H s n p a A cap w hw hn2 (bin_said H) ⟨hq,rfl⟩ hz
 by_cases c:K=33
 · subst c;exact absurd hK π
 by_cases c:K=34
 · subst c;exact absurd hK π
 by_cases c:K=36
 · subst c;exact absurd hK π
 by_cases c:K=37
 · subst c;exact absurd hK π
 by_cases c:K=38
 · subst c;exact absurd hK π
 by_cases c:K=41
 · subst c;exact absurd hK π
 · exfalso
   have hk2:K≠21∧K≠30∧K≠31∧K≠32:=by
    refine⟨?_,?_,?_,?_⟩<;>(intro e;subst e;exact absurd hK π)
   unfold expB at h1
   simp[ndK, *] at h1
theorem n_arm:NwSaid (k+1) .arm:=fun wb mb ts cs t w hw hn hq hz=>by
 have hn2:=hn
 obtain⟨K,s,n,p,a,A,cap,rfl,rfl,_⟩:=nd_form hn
 obtain⟨hs,hsim⟩:=shq_iff.1 hq
 obtain⟨hK,_⟩:=simN_mk hsim
 have h2:(K==39&&casB (shp k) (.mk K s n p a) .exp)=true:=hs
 rw[Bool.and_eq_true,beq_iff_eq] at h2
 rw[h2.1] at hK
 exact absurd hK π
theorem nw_step:AllW (k+1):=fun s hs=>by
 cases s with
 | typ=>exact n_typ H
 | fld=>exact n_fld H
 | ctor=>exact n_ctor H
 | set=>exact n_set H
 | exp=>exact n_exp H
 | arm=>exact n_arm H
 | blk =>
  intro wb mb ts cs t w hw hn hq hz
  exfalso
  obtain⟨h1,h2⟩:=shq_iff.1 hq
  obtain⟨K,s,n,p,a⟩:=t
  have h3:(K==11&&bareB (.mk K s n p a)&&a.all (shp k .stm))=true:=h1
  rw[Bool.and_eq_true,Bool.and_eq_true,beq_iff_eq] at h3
  have:=(simN_mk h2).1
  rw[h3.1.1] at this
  exact absurd this π
 | snd =>
  intro wb mb ts cs t w hw hn hq hz
  exfalso
  obtain⟨h1,h2⟩:=shq_iff.1 hq
  obtain⟨K,s,n,p,a⟩:=t
  have h3:(K==56&&namB .upp (.mk K s n p a)&&begB (shp k) .exp .exp a)=true:=h1
  rw[Bool.and_eq_true,Bool.and_eq_true,beq_iff_eq] at h3
  have:=(simN_mk h2).1
  rw[h3.1.1] at this
  exact absurd this π
 | stm =>
  intro wb mb ts cs t w hw hn hq hz
  exfalso
  obtain⟨h1,h2⟩:=shq_iff.1 hq
  obtain⟨K,s,n,p,a⟩:=t
  have h3:stmB (shp k) (.mk K s n p a)=true:=h1
  have hK:=(simN_mk h2).1
  have hk2:K≠50∧K≠51∧K≠52∧K≠53∧K≠55∧K≠56∧K≠57∧K≠58∧K≠59∧K≠60∧K≠61:=by
   and_intros<;>(intro e;subst e;exact absurd hK π)
  obtain⟨e1,e2,e3,e4,e5,e6,e7,e8,e9,e10,e11⟩:=hk2
  unfold stmB at h3
  simp[ndK, *] at h3
 | mem=>cases hs
 | sarm=>cases hs
 | ans=>cases hs
 | dcl=>cases hs
 | chg=>cases hs
 | leaf=>cases hs
end
theorem allW:∀k,AllW k
 | 0=>fun s hs wb mb ts cs t w hw hn hq hz=>by
  obtain⟨h1,_⟩:=shq_iff.1 hq
  cases h1
 | k+1=>nw_step (allW k)
theorem n_dcl {k:Nat} (wb mb:Nat) (ts:List Tk) (cs:List Value) (t:Nd) (w:À) (hw:Wr wb mb ts w) (hn:NdR w (im (wOwn wb w) w) cs t) (hq:shq (k+1) .dcl t=true) (hz:ts.length+(tok (k+1) .dcl t).length≤wTop):Calls prog 33 #[.pointer (some ⟨wb,0,none⟩),.agg cs.toArray] w (WrSaid wb mb (ts++tok (k+1) .dcl t) w):=by
 have H:=allW k
 have hn2:=hn
 obtain⟨K,s,n,p,a,A,cap,rfl,rfl,_⟩:=nd_form hn
 obtain⟨hs,hsim⟩:=shq_iff.1 hq
 obtain⟨hK,hsa⟩:=simN_mk hsim
 have h1:dclB (shp k) (.mk K s n p a)=true:=hs
 by_cases c:K=2
 · subst c;exact absurd hK π
 by_cases c:K=3
 · subst c;exact absurd hK π
 by_cases c:K=4
 · subst c;exact absurd hK π
 by_cases c:K=5
 · subst c
   have h2:(namB .low (.mk 5 s n p a)&&endB (shp k) a .fld [.typ,.exp])=true:=h1
   rw[Bool.and_eq_true] at h2
   exact w_dcl5 H s n p a A cap w hw hn2 (nam_sz h2.1) (end_shq h2.2 hsa) hz
 · exfalso
   have e6:K≠6:=by intro e;subst e;exact absurd hK π
   unfold dclB at h1
   simp[ndK, *] at h1
end
end Go.Proofs.YtbjdcogmiggamaaGreatDoor
