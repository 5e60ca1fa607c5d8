import Derived.Test.YtbjdcogmiggamaaGreatDoorB36
set_option linter.all false
namespace Go.Proofs.YtbjdcogmiggamaaGreatDoor
open Proofs.Tryz RowKit Maps WideMaps ChangeMaps
set_option maxRecDepth 100000
set_option maxHeartbeats 8000000
def Sh.wn:Sh→FuncId
 | .typ=>71
 | .fld=>69
 | .ctor=>70
 | .set=>118
 | .exp=>115
 | .arm=>160
 | .blk=>117
 | .stm=>165
 | .snd=>204
 | _=>33
def Sh.wp:Sh→Bool
 | .typ|.fld|.ctor|.set|.exp|.arm|.blk|.stm|.snd=>true
 | _=>false
def NwSaid (k:Nat) (s:Sh):Prop:=∀(wb mb:Nat) (ts:List Tk) (cs:List Value) (t:Nd) (w:À),Wr wb mb ts w→NdR w (im (wOwn wb w) w) cs t→shp k s t=true→ts.length+(tok k s t).length≤wTop→Calls prog s.wn #[.pointer (some ⟨wb,0,none⟩),.agg cs.toArray] w (WrSaid wb mb (ts++tok k s t) w)
def AllW (k:Nat):Prop:=∀s:Sh,s.wp=true→NwSaid k s
theorem wn_ent (s:Sh):Ent s.wn:=fun _ _=>by cases s<;>kernel_rfl
def Sh.mv (s:Sh) (wb:Nat):Value:=.func (.func s.wn) #[.pointer (some ⟨wb,0,none⟩)] #[]
theorem all_get {g:Nd→Bool} {l:List Nd} (h:l.all g=true) (i:Nat) (hi:i<l.length):g l[i]=true:=List.all_eq_true.1 h _ (List.getElem_mem hi)
theorem each_of {k:Nat} (H:AllW k) (s:Sh) (hs:s.wp=true) {l:List Nd} (hl:l.all (shp k s)=true) (wb mb:Nat) (w:À):EachS wb mb s.wn #[.pointer (some ⟨wb,0,none⟩)] #[] l (tok k s) w:=
 ⟨wn_ent s,fun i hi X cs ts _ hT hn hz=>H s hs wb mb ts cs l[i] X hT hn (all_get hl i hi) hz⟩
structure WS (wb mb nb:Nat) (bx:Array Value) (av:Value) (a:List Nd) (ts:List Tk) (w X:À):Prop where
 t:Wr wb mb ts X
 c:WrC wb w X
 y:Hs X nb 24 bx
 n:¬wOwn wb X nb
 a:NdsR X (im (wOwn wb X) X) av a
theorem WS.step {wb mb nb:Nat} {bx:Array Value} {av:Value} {a:List Nd} {ts ts':List Tk} {w X X':À} (h:WS wb mb nb bx av a ts w X) (ht:Wr wb mb ts' X') (hc:WrC wb X X'):WS wb mb nb bx av a ts' w X':=
 ⟨ht,h.c.trans hc,(hc.hs h.y h.n).1,(hc.hs h.y h.n).2,NdsR.to h.a hc.sub⟩
theorem WS.bel {wb mb nb:Nat} {bx:Array Value} {av:Value} {a:List Nd} {ts:List Tk} {w X X':À} (h:WS wb mb nb bx av a ts w X) (hb:Below X.heap.size X X'):WS wb mb nb bx av a ts w X':=h.step (h.t.bel hb) (WrC.bel hb h.t.lt)
theorem WS.start {wb mb:Nat} {ts:List Tk} {w:À} {K n p:Int} {s:Ê} {A:Option Addr} {cap:Nat} {a:List Nd} (hw:Wr wb mb ts w) (hn:NdR w (im (wOwn wb w) w) (cl K s n p A a.length cap) (.mk K s n p a)) :
 WS wb mb w.heap.size (cl K s n p A a.length cap).toArray (.slice A a.length cap) a ts w (w.alloc (.cells (cl K s n p A a.length cap).toArray 24)):=by
 have hb:Below w.heap.size w (w.alloc (.cells (cl K s n p A a.length cap).toArray 24)):=belA (belR _) _
 exact⟨hw.bel hb,WrC.bel hb hw.lt,Hs.new _ _ _,fun e=>by have:=hw.own_lt _ ((own_bel hb hw.lt _).1 e);omega,NdsR.to (nd_kids hn) (WrC.bel hb hw.lt).sub⟩
theorem nd_sz {w:À} {P:Nat→Prop} {k n p:Int} {s:Ê} {A:Option Addr} {l cap:Nat} {t:Nd} (h:NdR w P (cl k s n p A l cap) t):s.size≤maxLen:=by
 obtain⟨k0,s0,n0,p0,a0,A0,c0,e1,e2,_,hs,_⟩:=nd_form h
 injection e1 with _ e1
 injection e1 with e1 _
 injection e1 with e1
 rw[e1];exact hs
theorem kid_at {w:À} {P:Nat→Prop} {b off cap:Nat} {l:List Nd} (h:NdsR w P (.slice (some ⟨b,off,none⟩) l.length cap) l) {i:Nat} (hi:i<l.length) :
 ∃k s m p D ln c,NdR w P (cl k s m p D ln c) l[i]∧w.cell? ⟨b,off+i*5,none⟩=some (.int .i64 k)∧w.cell? ⟨b,off+i*5+1,none⟩=some (.string s)∧w.cell? ⟨b,off+i*5+2,none⟩=some (.int .i64 m)∧w.cell? ⟨b,off+i*5+3,none⟩=some (.int .i64 p)∧w.cell? ⟨b,off+i*5+4,none⟩=some (.slice D ln c):=by
 obtain⟨g,off',k,s,m,p,D,ln,c,hA,hg,hr,e0,e1,e2,e3,e4⟩:=nds_at h hi
 injection hA with hA
 injection hA with h1 h2
 subst h1 h2
 exact⟨k,s,m,p,D,ln,c,hr,e0,e1,e2,e3,e4⟩
theorem NdsR.some {w:À} {P:Nat→Prop} {A:Option Addr} {n cap:Nat} {l:List Nd} (h:NdsR w P (.slice A n cap) l) (hi:0<l.length):∃b off,A=some ⟨b,off,none⟩:=by
 obtain⟨g,off',k,s,m,p,D,ln,c,hA,_⟩:=nds_at h hi
 exact⟨g,off',hA⟩
theorem list_at {F:FuncId} {c1 c2:Array Value} {out:Nd→List Tk} (oa ob:Ê) (l:List Nd) (A:Option Addr) (n cap:Nat) (hn:l.length=n) {wb mb:Nat} {ts:List Tk} {w:À} (h:Wr wb mb ts w) (hoa:0<oa.size∧oa.size≤maxLen) (hob:0<ob.size∧ob.size≤maxLen) (hl:NdsR w (im (wOwn wb w) w) (.slice A n cap) l) (hE:EachS wb mb F c1 c2 l out w)
 (hz:ts.length+(wdT oa::(joinT (l.map out)++[wdT ob])).length≤wTop) :
 Calls prog 68 #[.pointer (some ⟨wb,0,none⟩),.string oa,.slice A n cap,.string ob,.func (.func F) c1 c2] w (WrSaid wb mb (ts++wdT oa::(joinT (l.map out)++[wdT ob])) w):=by
 subst hn;exact list_any oa ob l A cap h hoa hob hl hE hz
abbrev GrSaid (k:Nat):Prop:=∀(wb mb:Nat) (ts:List Tk) (cs:List Value) (t:Nd) (w:À),Wr wb mb ts w→NdR w (im (wOwn wb w) w) cs t→shp k .exp t=true→ts.length+(grpT (tok k) t).length≤wTop→Calls prog 159 #[.pointer (some ⟨wb,0,none⟩),.agg cs.toArray] w (WrSaid wb mb (ts++grpT (tok k) t) w)
abbrev OpSaid (k:Nat):Prop:=∀(wb mb:Nat) (ts:List Tk) (cs:List Value) (t:Nd) (lv:Nat) (w:À),Wr wb mb ts w→NdR w (im (wOwn wb w) w) cs t→shp k .exp t=true→lv≤100→ts.length+(opdT (tok k) t lv).length≤wTop→Calls prog 162 #[.pointer (some ⟨wb,0,none⟩),.agg cs.toArray,.int .i64 (lv:Int)] w (WrSaid wb mb (ts++opdT (tok k) t lv) w)
abbrev PtSaid (k:Nat):Prop:=∀(wb mb:Nat) (ts:List Tk) (cs:List Value) (t:Nd) (w:À),Wr wb mb ts w→NdR w (im (wOwn wb w) w) cs t→0<(ndS t).size→0<(ndL t).length→(initN t).all (fun x=>decide (0<(ndS x).size))=true→ts.length+(patT t).length≤wTop→Calls prog 202 #[.pointer (some ⟨wb,0,none⟩),.agg cs.toArray] w (WrSaid wb mb (ts++patT t) w)
theorem ser1 {f:Sh→Nd→Bool} {a:List Nd} {x:Sh} (h:serB f a [x]=true):∃y,a=[y]∧f x y=true:=by
 match a,h with
 | [y],h=>exact⟨y,rfl,by simpa[serB] using h⟩
 | _::_::_,h=>simp[serB] at h
theorem ser2 {f:Sh→Nd→Bool} {a:List Nd} {x x':Sh} (h:serB f a [x,x']=true):∃y z,a=[y,z]∧f x y=true∧f x' z=true:=by
 match a,h with
 | [y,z],h=>exact⟨y,z,rfl,by simpa[serB] using h⟩
 | [_],h=>simp[serB] at h
 | _::_::_::_,h=>simp[serB] at h
theorem ser3 {f:Sh→Nd→Bool} {a:List Nd} {x x' x'':Sh} (h:serB f a [x,x',x'']=true):∃y z u,a=[y,z,u]∧f x y=true∧f x' z=true∧f x'' u=true:=by
 match a,h with
 | [y,z,u],h=>exact⟨y,z,u,rfl,by simpa[serB,and_assoc] using h⟩
 | [_],h=>simp[serB] at h
 | [_,_],h=>simp[serB] at h
 | _::_::_::_::_,h=>simp[serB] at h
theorem beg1 {f:Sh→Nd→Bool} {a:List Nd} {x y:Sh} (h:begB f x y a=true):∃(hi:0<a.length),f x a[0]=true∧(a.drop 1).all (f y)=true:=by
 match a,h with
 | b::r,h=>exact⟨by simp,by simpa[begB] using h⟩
theorem end1 {f:Sh→Nd→Bool} {a:List Nd} {s x:Sh} (h:endB f a s [x]=true):∃(hi:a.length-1<a.length),(a.take (a.length-1)).all (f s)=true∧f x a[a.length-1]=true:=by
 unfold endB at h
 simp only[List.length_cons,List.length_nil,Bool.and_eq_true,decide_eq_true_eq] at h
 obtain⟨h1,h2,h3⟩:=h
 obtain⟨y,e,h4⟩:=ser1 h3
 refine⟨by omega,h2,?_⟩
 have e2:a[a.length-1]' ω=y:=by
  have:=List.drop_eq_getElem_cons (l:=a) (i:=a.length-1) ω
  rw[show 0+1=1 from rfl] at e
  rw[this] at e
  injection e
 rw[e2];exact h4
theorem end2 {f:Sh→Nd→Bool} {a:List Nd} {s x x':Sh} (h:endB f a s [x,x']=true):2≤a.length∧(a.take (a.length-1-1)).all (f s)=true∧∃(h1:a.length-1-1<a.length) (h2:a.length-1<a.length),f x a[a.length-1-1]=true∧f x' a[a.length-1]=true:=by
 unfold endB at h
 simp only[List.length_cons,List.length_nil,Bool.and_eq_true,decide_eq_true_eq] at h
 obtain⟨h1,h2,h3⟩:=h
 obtain⟨y,z,e,h4,h5⟩:=ser2 h3
 have l2:2≤a.length:=by omega
 refine⟨l2,h2,by omega,by omega,?_⟩
 have d1:=List.drop_eq_getElem_cons (l:=a) (i:=a.length-2) ω
 have d2:=List.drop_eq_getElem_cons (l:=a) (i:=a.length-1) ω
 rw[show 0+1+1=2 from rfl] at e
 rw[e] at d1
 injection d1 with d1 d3
 rw[show a.length-2+1=a.length-1 by omega,d2] at d3
 injection d3 with d3 _
 exact⟨by rw[show a[a.length-1-1]' ω=y from d1.symm];exact h4,by rw[←d3];exact h5⟩
theorem kid_get {K n p:Int} {s:Ê} {a:List Nd} {i:Nat} (h:i<a.length):kid (.mk K s n p a) i=a[i]:=by
 show a.getD i nd0=_
 simp[h]
theorem up_sz {l:List UInt8} {s:Ê} {p:List UInt8→Bool} (h:p s.data.toList=true) (h0:p []=false):0<s.size:=by
 rcases Nat.eq_zero_or_pos s.size with e|e
 · have e2:s.data.toList=[]:=by
    have:s.data.toList.length=0:=by simpa using e
    exact List.eq_nil_of_length_eq_zero this
   rw[e2,h0] at h;cases h
 · exact e
theorem pat1_each {wb mb pb:Nat} {w:À} (l:List Nd) (hp:Hs w pb 50 #[.pointer (some ⟨wb,0,none⟩)]) (hq:¬wOwn wb w pb) (hl:l.all (fun x=>decide (0<(ndS x).size))=true):EachS wb mb 221 #[] #[.pointer (some ⟨pb,0,none⟩)] l (fun x=>[wdT (ndS x)]) w:=by
 refine⟨fun _ _=>by kernel_rfl,fun i hi X cs ts hC hT hn hz=>?_⟩
 have hx:=all_get hl i hi
 have hb:Hs X pb 50 #[.pointer (some ⟨wb,0,none⟩)]:=(hC.hs hp hq).1
 generalize l[i]=t at hn hx hz
 have hn2:=hn
 obtain⟨k0,s,n,p,a,A,cap,rfl,rfl,_,hs,_⟩:=nd_form hn
 have hs0:0<s.size:=of_decide_eq_true hx
 show Calls prog 221 #[.agg (cl k0 s n p A a.length cap).toArray,.pointer (some ⟨pb,0,none⟩)] X (WrSaid wb mb (ts++[wdT s]) X)
 obtain⟨HZ,HS0⟩:=zd2 hz (And.intro hs0 hs)
 obtain⟨W1,hW1⟩:∃q,Hid (q=X.alloc (.cells (cl k0 s n p A a.length cap).toArray 24)):=⟨_,rfl⟩
 have S:Hid (WS wb mb X.heap.size (cl k0 s n p A a.length cap).toArray (.slice A a.length cap) a ts X W1):=by show WS _ _ _ _ _ _ _ _ _;rw[hW1.o];exact WS.start hT hn2
 have b1:W1.cell? ⟨pb,0,none⟩=some (.pointer (some ⟨wb,0,none⟩)):=by rw[hW1.o];exact (hs_bel hb (belA (belR _) _)).c 0
 have y1:W1.cell? ⟨X.heap.size,1,none⟩=some (.string s):=S.o.y.c 1
 clear hn hn2 hz hx hb hC hT hp hq hl hs hs0
 go_in
 go_upto_region 1 with fail
 rw[←hW1.o]
 clear hW1
 go_wp2_with fail
 refine (words_call [s] S.o.t (by intro x hx;simp only[List.mem_cons,List.not_mem_nil,or_false] at hx;subst hx;exact HS0.o) (by have h:=HZ.o;simp at h ⊢;omega)).mono ?_
 rintro _ X2 ⟨rfl,hT,hC⟩
 replace S:=η (S.o.step hT hC)
 clear hT hC
 go_wp2_with fail
 first|go_end0|refine bodyPost_ret (results_none rfl _ _ _) rfl ?_
 exact⟨rfl,S.o.t,S.o.c⟩
theorem pat_said (k:Nat):PtSaid k:=fun wb mb ts cs t w hw hn hx hlen hall hz=>by
 have hn2:=hn
 obtain⟨k0,s,n,p,a,A,cap,rfl,rfl,_,hs,_⟩:=nd_form hn
 have lm:a.length≤9223372036854775807:=(nd_kids hn2).len.2
 have lc:a.length≤cap:=(nd_kids hn2).cap
 have hi:0<a.length:=hlen
 have HS0:=η (And.intro (show 0<s.size from hx) hs)
 have HAL:Hid ((a.take (a.length-1)).all (fun x=>decide (0<(ndS x).size))=true):=hall
 obtain⟨v,hv⟩:∃v,v=w.alloc (.cells #[.pointer (some ⟨wb,0,none⟩)] 50):=⟨_,rfl⟩
 have bv:Below w.heap.size w v:=by rw[hv];exact belA (belR _) _
 have sv:v.heap.size=w.heap.size+1:=by rw[hv];simp
 have pv:Hs v w.heap.size 50 #[.pointer (some ⟨wb,0,none⟩)]:=by rw[hv];exact Hs.new _ _ _
 have nv:¬wOwn wb v w.heap.size:=fun e=>by have:=hw.own_lt _ ((own_bel bv hw.lt _).1 e);omega
 obtain⟨W1,hW1⟩:∃q,Hid (q=v.alloc (.cells (cl k0 s n p A a.length cap).toArray 24)):=⟨_,rfl⟩
 have S0:WS wb mb v.heap.size (cl k0 s n p A a.length cap).toArray (.slice A a.length cap) a ts v W1:=by rw[hW1.o];exact WS.start (hw.bel bv) (NdR.to hn2 (WrC.bel bv hw.lt).sub)
 rw[sv] at S0
 have S:Hid (WS wb mb (w.heap.size+1) (cl k0 s n p A a.length cap).toArray (.slice A a.length cap) a ts w W1):=⟨S0.t,(WrC.bel bv hw.lt).trans S0.c,S0.y,S0.n,S0.a⟩
 have PB:=η (And.intro (S0.c.hs pv nv).1 (S0.c.hs pv nv).2)
 have b1:W1.cell? ⟨w.heap.size,0,none⟩=some (.pointer (some ⟨wb,0,none⟩)):=PB.o.1.c 0
 have y1:W1.cell? ⟨w.heap.size+1,1,none⟩=some (.string s):=S.o.y.c 1
 have hWW:(w.alloc (.cells #[.pointer (some ⟨wb,0,none⟩)] 50)).alloc (.cells (cl k0 s n p A a.length cap).toArray 24)=W1:=by rw[hW1.o,hv]
 have hW2:=η hWW
 have hlw:w.heap.size<W1.heap.size:=PB.o.1.lt
 clear hn hn2 hw hx hlen hall hs S0 hv bv sv pv nv hW1 hWW
 by_cases hb:0<a.length-1
 · have u1:decide ((0:Int)<((a.length-1:Nat):Int))=true:=decide_eq_true ω
   have u2:decide (0<a.length-1)=true:=decide_eq_true hb
   have u3:decide ((0:Int)<(a.length:Int)-1)=true:=decide_eq_true ω
   have u4:decide (1<a.length)=true:=decide_eq_true ω
   have HLEN:Hid ((a.take (a.length-1)).length=a.length-1):=by show _=_;rw[List.length_take];omega
   have HO:Hid (patT (.mk k0 s n p a)=[wdT s]++(wdT (str [40])::(joinT ((a.take (a.length-1)).map (fun x=>[wdT (ndS x)]))++[wdT (str [41])]))):=by
    show _=_
    unfold patT
    rw[if_pos (show 0<(initN (.mk k0 s n p a)).length by show 0<(a.take (a.length-1)).length;rw[HLEN.o];exact hb)]
    rfl
   have HZ:Hid (ts.length+([wdT s]++(wdT (str [40])::(joinT ((a.take (a.length-1)).map (fun x=>[wdT (ndS x)]))++[wdT (str [41])]))).length≤wTop):=by show _≤_;rw[←HO.o];exact hz
   rw[HO.o]
   clear hz
   go_in
   go_upto_region 1 with fail
   rw[hW2.o]
   go_wp2_with fail
   refine (words_call [s] S.o.t (by intro x hx;simp only[List.mem_cons,List.not_mem_nil,or_false] at hx;subst hx;exact HS0.o) (by have h:=HZ.o;simp at h ⊢;omega)).mono ?_
   rintro _ X1 ⟨rfl,hT,hC⟩
   replace S:=η (S.o.step hT hC)
   replace PB:=η (hC.hs PB.o.1 PB.o.2)
   clear hT hC b1 y1
   have b1:X1.cell? ⟨w.heap.size,0,none⟩=some (.pointer (some ⟨wb,0,none⟩)):=PB.o.1.c 0
   have y4:X1.cell? ⟨w.heap.size+1,4,none⟩=some (.slice A a.length cap):=S.o.y.c 4
   go_wp2_with fail
   refine (list_at (str [40]) (str [41]) (a.take (a.length-1)) _ _ _ HLEN.o S.o.t ⟨by decide,by decide⟩ ⟨by decide,by decide⟩ (NdsR.upto S.o.a (a.length-1) ω) (pat1_each _ PB.o.1 PB.o.2 HAL.o) (by have h:=HZ.o;simp at h ⊢;omega)).mono ?_
   rintro _ X2 ⟨rfl,hT,hC⟩
   replace S:=η (S.o.step hT hC)
   clear hT hC b1 y4
   go_wp2_with fail
   first|go_end0|refine bodyPost_ret (results_none rfl _ _ _) rfl ?_
   exact⟨rfl,by have h:=S.o.t;rw[List.append_assoc] at h;exact h,S.o.c⟩
 · have u1:decide ((0:Int)<((a.length-1:Nat):Int))=false:=decide_eq_false ω
   have u2:decide (0<a.length-1)=false:=decide_eq_false hb
   have u3:decide ((0:Int)<(a.length:Int)-1)=false:=decide_eq_false ω
   have u4:decide (1<a.length)=false:=decide_eq_false ω
   have HO:Hid (patT (.mk k0 s n p a)=[wdT s]):=by
    show _=_
    unfold patT
    rw[if_neg (show ¬0<(initN (.mk k0 s n p a)).length by show ¬0<(a.take (a.length-1)).length;rw[List.length_take];omega)]
    rfl
   have HZ:Hid (ts.length+[wdT s].length≤wTop):=by show _≤_;rw[←HO.o];exact hz
   rw[HO.o]
   clear hz
   go_in
   go_upto_region 1 with fail
   rw[hW2.o]
   go_wp2_with fail
   refine (words_call [s] S.o.t (by intro x hx;simp only[List.mem_cons,List.not_mem_nil,or_false] at hx;subst hx;exact HS0.o) (by have h:=HZ.o;simp at h ⊢;omega)).mono ?_
   rintro _ X1 ⟨rfl,hT,hC⟩
   replace S:=η (S.o.step hT hC)
   replace PB:=η (hC.hs PB.o.1 PB.o.2)
   clear hT hC b1 y1
   have b1:X1.cell? ⟨w.heap.size,0,none⟩=some (.pointer (some ⟨wb,0,none⟩)):=PB.o.1.c 0
   have y4:X1.cell? ⟨w.heap.size+1,4,none⟩=some (.slice A a.length cap):=S.o.y.c 4
   go_wp2_with fail
   first|go_end0|refine bodyPost_ret (results_none rfl _ _ _) rfl ?_
   exact⟨rfl,S.o.t,S.o.c⟩
end Go.Proofs.YtbjdcogmiggamaaGreatDoor
