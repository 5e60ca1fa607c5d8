import Derived.Test.YtbjdcogmiggamaaGreatDoorZ30
set_option linter.all false
namespace Go.Proofs.YtbjdcogmiggamaaGreatDoor
open Proofs.Tryz RowKit Maps WideMaps ChangeMaps
set_option maxRecDepth 100000
set_option maxHeartbeats 8000000
theorem WrSaid.up {wb mb:Nat} {ts:List Tk} {w X:À} {F:FuncId} {args:Array Value} {W:À} (h:Calls prog F args W (WrSaid wb mb ts X)) (hc:WrC wb w X):Calls prog F args W (WrSaid wb mb ts w):=h.mono (by rintro e w' ⟨h1,h2,h3⟩;exact⟨h1,h2,hc.trans h3⟩)
theorem words_call (ss:List Ê) {wb mb:Nat} {ts:List Tk} {X:À} (h:Wr wb mb ts X) (hne:∀s∈ss,0<s.size∧s.size≤maxLen) (hl:ts.length+(ss.map wdT).length≤wTop) :
 Calls prog 67 #[.pointer (some ⟨wb,0,none⟩),.slice (some ⟨X.heap.size,0,none⟩) ss.length ss.length] (X.alloc (.cells (ss.map Value.string).toArray 9)) (WrSaid wb mb (ts++ss.map wdT) X):=by
 rw[List.length_map] at hl
 have hb:Below X.heap.size X (X.alloc (.cells (ss.map Value.string).toArray 9)):=belA (belR _) _
 refine WrSaid.up (words_any ss (h.bel hb) _ _ ?_ hne hl) (WrC.bel hb h.lt)
 have hs:=strs_new X ss (by unfold wTop at hl;unfold maxLen;omega)
 have hrow:∀k,lo (X.alloc (.cells (ss.map Value.string).toArray 9)) k→k=X.heap.size→im (wOwn wb (X.alloc (.cells (ss.map Value.string).toArray 9))) (X.alloc (.cells (ss.map Value.string).toArray 9)) k:=fun k h1 h2=>⟨h1,fun e=>by
  have:=h.own_lt k ((own_bel hb h.lt k).1 e)
  omega⟩
 obtain⟨A,cap,css,e,hl2,hr,hk⟩:=hs
 refine⟨A,cap,css,e,hl2,fun hn=>?_,hk⟩
 obtain⟨g,off,hA,hg,hc⟩:=hr hn
 injection e with e1 e2 e3
 rw[←e1] at hA
 have hA2:=hA
 injection hA with hA
 injection hA with hg2 _
 exact⟨g,off,by rw[←e1];exact hA2,hrow g hg hg2.symm,hc⟩
theorem integer_any (n:Int) {wb mb:Nat} {ts:List Tk} {w:À} (h:Wr wb mb ts w) (hl:ts.length+1≤wTop):Calls prog 74 #[.pointer (some ⟨wb,0,none⟩),.int .i64 n] w (WrSaid wb mb (ts++[inT n]) w):=by
 obtain⟨io,hio,hiz,his,hib⟩:=info_parts info_42
 have HIO:=η (And.intro hio (And.intro hiz (And.intro his hib)))
 obtain⟨v,hb,ho,hv1,hv2⟩:=h.row
 obtain⟨Ar,cr,rfl⟩:=row_form ho
 obtain⟨HB,HO,HTJ,HV⟩:=zd4 hb ho hl (And.intro hv1 hv2)
 have HLV:=η h.lev;have HNW:=η h.ne
 have y0:w.cell? ⟨wb,0,none⟩=some (.slice Ar ts.length cr):=HB.o.c 0
 clear hb ho hv1 hv2 h hl hio hiz his hib
 go_in
 go_wp2_with (first|(at_builtin;refine wpList_append_own_at _ rfl (.tmp 8) (.tmp 11) 28 rfl 0 42 io _ 4 40 underlying28 HIO.o.1 HIO.o.2.1 HIO.o.2.2.1 HIO.o.2.2.2 rfl π (.slice Ar ts.length cr) ts.length (ts.flatMap tkv) rfl (row_al HO.o _) ⟨w.heap.size,0,none⟩ 1 1 (tkv (inT n)) rfl rfl (World.news_of_block (Hs.new _ _ _)) (by intro u hu;simp[tkv,inT] at hu;repeat (first|(subst hu;rfl)|(rcases hu with rfl|hu;rfl))) (by have:=HTJ.o;unfold wTop at this;unfold maxLen;omega) (by have:=HTJ.o;unfold wTop at this;omega) (Nat.zero_le _) ?_;intro vv w7 hown hgrow hnil hvb;obtain⟨A6,c6,rfl⟩:=row_form hown;have hb7:=grown_box HB.o HV.o.1 hgrow;have f7:w7.frozen? ⟨wb,0,none⟩=false:=hb7.free 0;have y7:w7.cell? ⟨wb,0,none⟩=some (.slice Ar ts.length cr):=hb7.c 0))
 obtain⟨h1,h2⟩:=Wr.push HB.o HV.o.1 HV.o.2 HLV.o HNW.o hgrow hvb hown
 first|go_end0|refine bodyPost_ret (results_none rfl _ _ _) rfl ?_
 exact⟨rfl,h1,h2⟩
def EachS (wb mb:Nat) (F:FuncId) (c1 c2:Array Value) (l:List Nd) (out:Nd→List Tk) (w:À):Prop:=
 Ent F∧∀(i:Nat) (h:i<l.length) (X:À) (cs:List Value) (ts:List Tk),WrC wb w X→Wr wb mb ts X→NdR X (im (wOwn wb X) X) cs l[i]→ts.length+(out l[i]).length≤wTop→Calls prog F (c1++#[.agg cs.toArray]++c2) X (WrSaid wb mb (ts++out l[i]) X)
theorem join_snoc:∀(l:List (List Tk)) (x:List Tk),l≠[]→joinT (l++[x])=joinT l++wT [44]::x
 | [],_,h=>absurd rfl h
 | [a],x,_=>rfl
 | a::b::l,x,_=>by
  have:=join_snoc (b::l) x (by simp)
  show a++wT [44]::joinT (b::(l++[x]))=_
  rw[show b::(l++[x])=(b::l)++[x] from rfl,this]
  show _=(a++wT [44]::joinT (b::l))++_
  simp
theorem join_take {l:List (List Tk)} {j:Nat} (h:j<l.length) (h0:0<j):joinT (l.take (j+1))=joinT (l.take j)++wT [44]::l[j]:=by
 rw[List.take_succ_eq_append_getElem h,join_snoc]
 intro e
 have:=congrArg List.length e
 rw[List.length_take,List.length_nil] at this
 omega
theorem join_le (l:List (List Tk)):∀j,(joinT (l.take j)).length≤(joinT l).length:=by
 have key:∀(a b:List (List Tk)),(joinT a).length≤(joinT (a++b)).length:=by
  intro a
  induction a with
  | nil=>intro b;exact Nat.zero_le _
  | cons x a ih =>
   intro b
   cases a with
   | nil =>
    cases b with
    | nil=>exact Nat.le_refl _
    | cons y b=>show x.length≤(x++wT [44]::joinT (y::b)).length;simp
   | cons y a =>
    have:=ih b
    show (x++wT [44]::joinT (y::a)).length≤(x++wT [44]::joinT ((y::a)++b)).length
    simp only[List.length_append,List.length_cons] at this ⊢
    omega
 intro j
 have:=key (l.take j) (l.drop j)
 rw[List.take_append_drop] at this
 exact this
theorem list_any {F:FuncId} {c1 c2:Array Value} {out:Nd→List Tk} (oa ob:Ê) (l:List Nd) (A:Option Addr) (cap:Nat) {wb mb:Nat} {ts:List Tk} {w:À} (h:Wr wb mb ts w) (hoa:0<oa.size∧oa.size≤maxLen) (hob:0<ob.size∧ob.size≤maxLen) (hl:NdsR w (im (wOwn wb w) w) (.slice A l.length cap) l) (hE:EachS wb mb F c1 c2 l out w)
 (hz:ts.length+(wdT oa::(joinT (l.map out)++[wdT ob])).length≤wTop) :
 Calls prog 68 #[.pointer (some ⟨wb,0,none⟩),.string oa,.slice A l.length cap,.string ob,.func (.func F) c1 c2] w (WrSaid wb mb (ts++wdT oa::(joinT (l.map out)++[wdT ob])) w):=by
 have lm:l.length≤9223372036854775807:=hl.len.2
 obtain⟨H0,HL,HE⟩:=zd3 h hl hE
 have hcf:=hE.1
 unfold Ent at hcf
 obtain⟨HA,HB⟩:=zd2 hoa hob
 have HZ:Hid (ts.length+1+(joinT (l.map out)).length+1≤wTop):=by
  show _≤_
  simp only[List.length_cons,List.length_append,List.length_nil] at hz
  omega
 clear h hl hE hoa hob hz
 go_in
 go_wp2_with fail
 refine (words_call [oa] H0.o (by intro s hs;rw[List.mem_singleton] at hs;rw[hs];exact HA.o) (by have:=HZ.o;simp;omega)).mono ?_
 rintro _ W1 ⟨rfl,hT,hC⟩
 obtain⟨T1,C1⟩:=zd2 hT hC
 clear hT hC
 go_wp2_with fail
 go_loopw [18] (fun i wr=>∃(j:Nat),j≤l.length∧i=.int .i64 j∧Hid (WrC wb w wr)∧Hid (Wr wb mb (ts++wdT oa::joinT ((l.map out).take j)) wr)) (fun i _=>l.length-(intOf i).toNat)
 case atStart=>exact⟨0,by omega,rfl,C1.o,by rw[List.take_zero];exact T1.o⟩
 case round =>
  obtain⟨j,hj,rfl,HC,HT⟩:=hrel
  by_cases hlt:j<l.length
  · have u1:decide ((j:Int)<(l.length:Int))=true:=decide_eq_true ω
    obtain⟨b,off,k1,s1,m1,p1,D1,l1,c1',rfl,hg,hr1,e0,e1,e2,e3,e4⟩:=nds_at (NdsR.to HL.o HC.o.sub) hlt
    have HR:=η hr1
    have j0:(0:Int)≤(j:Int):=by omega
    have j1:(j:Int)<(l.length:Int):=by omega
    obtain⟨W2,hW2⟩:∃q,Hid (q=wr.alloc (.cells (cl k1 s1 m1 p1 D1 l1 c1').toArray 24)):=⟨_,rfl⟩
    have B2:Hid (Below wr.heap.size wr W2):=by show Below _ _ _;rw[hW2.o];exact belA (belR _) _
    have X2:Hid (Hs W2 wr.heap.size 24 (cl k1 s1 m1 p1 D1 l1 c1').toArray):=by show Hs _ _ _ _;rw[hW2.o];exact Hs.new _ _ _
    have N2:Hid (¬wOwn wb W2 wr.heap.size):=fun e=>by have:=HT.o.own_lt _ ((own_bel B2.o HT.o.lt _).1 e);omega
    obtain⟨T2,C2,R2⟩:=zd3 (HT.o.bel B2.o) (HC.o.trans (WrC.bel B2.o HT.o.lt)) (HR.o.to (WrC.bel B2.o HT.o.lt).sub)
    have hlm:j<(l.map out).length:=by rw[List.length_map];exact hlt
    have ej:(l.map out)[j]=out l[j]:=by simp
    have hle:=join_le (l.map out) (j+1)
    clear hr1 hg
    go_upto_region 4 with fail
    rw[←hW2.o]
    clear hW2 e0 e1 e2 e3 e4
    by_cases h0:j=0
    · have u2:decide ((0:Int)<(j:Int))=false:=decide_eq_false ω
      have u3:decide (0<j)=false:=decide_eq_false ω
      have HJ:Hid (joinT ((l.map out).take (j+1))=out l[j]∧joinT ((l.map out).take j)=[]):=by
       subst h0
       rw[List.take_succ_eq_append_getElem hlm,List.take_zero]
       exact⟨ej,rfl⟩
      have HLE:Hid ((out l[j]).length≤(joinT (l.map out)).length):=by rw[HJ.o.1] at hle;exact hle
      replace h0:=η h0
      clear hle ej
      obtain⟨f0,f1,f2,f3,f4⟩:=cf5 X2.o
      go_wp2_with fail
      refine (HE.o.2 j hlt W2 (cl k1 s1 m1 p1 D1 l1 c1') _ C2.o T2.o R2.o (by have h1:=HLE.o;have h2:=HZ.o;rw[HJ.o.2];simp;omega)).mono ?_
      rintro _ W3 ⟨rfl,hT,hC⟩
      obtain⟨T3,C3⟩:=zd2 hT hC
      clear hT hC f0 f1 f2 f3 f4
      go_wp2_with fail
      exact⟨⟨j+1,by omega,by go_num,C2.o.trans C3.o,by have h1:=T3.o;rw[HJ.o.2] at h1;rw[HJ.o.1];exact η (by simpa using h1)⟩,by simp[intOf];omega⟩
    · have u2:decide ((0:Int)<(j:Int))=true:=decide_eq_true ω
      have u3:decide (0<j)=true:=decide_eq_true ω
      have HJ:Hid (joinT ((l.map out).take (j+1))=joinT ((l.map out).take j)++wT [44]::out l[j]):=by
       show _=_
       rw[join_take hlm ω,ej]
      have HLE:Hid ((joinT ((l.map out).take j)).length+1+(out l[j]).length≤(joinT (l.map out)).length):=by
       show _≤_
       rw[HJ.o] at hle
       simp only[List.length_append,List.length_cons] at hle
       omega
      replace h0:=η h0
      clear hle ej
      go_wp2_with fail
      refine (words_call [str [44]] T2.o (by intro s hs;rw[List.mem_singleton] at hs;rw[hs];exact⟨by decide,by decide⟩) (by have h1:=HLE.o;have h2:=HZ.o;simp;omega)).mono ?_
      rintro _ W4 ⟨rfl,hT,hC⟩
      obtain⟨T4,C4,R4⟩:=zd3 hT (C2.o.trans hC) (R2.o.to hC.sub)
      have X4:=η (hC.hs X2.o N2.o).1
      clear hT hC
      obtain⟨f0,f1,f2,f3,f4⟩:=cf5 X4.o
      go_wp2_with fail
      refine (HE.o.2 j hlt W4 (cl k1 s1 m1 p1 D1 l1 c1') _ C4.o T4.o R4.o (by have h1:=HLE.o;have h2:=HZ.o;simp;omega)).mono ?_
      rintro _ W5 ⟨rfl,hT,hC⟩
      obtain⟨T5,C5⟩:=zd2 hT hC
      clear hT hC f0 f1 f2 f3 f4
      go_wp2_with fail
      exact⟨⟨j+1,by omega,by go_num,C4.o.trans C5.o,by have h1:=T5.o;rw[HJ.o];exact η (by simpa[wT] using h1)⟩,by simp[intOf];omega⟩
  · have u1:decide ((j:Int)<(l.length:Int))=false:=decide_eq_false ω
    have HJ:Hid (joinT ((l.map out).take j)=joinT (l.map out)):=by show _=_;rw[List.take_of_length_le (by rw[List.length_map];omega)]
    go_wp2_with fail
    refine (words_call [ob] HT.o (by intro s hs;rw[List.mem_singleton] at hs;rw[hs];exact HB.o) (by have h2:=HZ.o;rw[HJ.o];simp;omega)).mono ?_
    rintro _ W6 ⟨rfl,hT,hC⟩
    obtain⟨T6,C6⟩:=zd2 hT (HC.o.trans hC)
    clear hT hC
    go_wp2_with fail
    first|go_end0|refine bodyPost_ret (results_none rfl _ _ _) rfl ?_
    exact⟨rfl,by have h1:=T6.o;rw[HJ.o] at h1;simpa using h1,C6.o⟩
def Sh.wn:Sh→FuncId
 | .typ=>71
 | .fld=>69
 | .ctor=>70
 | .set=>118
 | .exp=>115
 | .arm=>160
 | .blk=>117
 | .stm=>165
 | .snd=>204
 | _=>33
def simK (k:Int):Bool:=([1,5,7,12,20,24,35]:List Int).contains k
mutual
def simN:Nd→Bool
 | .mk k _ _ _ a=>simK k&&simL a
def simL:List Nd→Bool
 | []=>true
 | x::a=>simN x&&simL a
end
def shq (k:Nat) (s:Sh) (t:Nd):Bool:=shp k s t&&simN t
def Sh.wp:Sh→Bool
 | .typ|.fld|.ctor|.set|.exp|.arm|.blk|.stm|.snd=>true
 | _=>false
def NwSaid (k:Nat) (s:Sh):Prop:=∀(wb mb:Nat) (ts:List Tk) (cs:List Value) (t:Nd) (w:À),Wr wb mb ts w→NdR w (im (wOwn wb w) w) cs t→shq k s t=true→ts.length+(tok k s t).length≤wTop→Calls prog s.wn #[.pointer (some ⟨wb,0,none⟩),.agg cs.toArray] w (WrSaid wb mb (ts++tok k s t) w)
def AllW (k:Nat):Prop:=∀s:Sh,s.wp=true→NwSaid k s
theorem wn_ent (s:Sh):Ent s.wn:=fun _ _=>by cases s<;>kernel_rfl
def Sh.mv (s:Sh) (wb:Nat):Value:=.func (.func s.wn) #[.pointer (some ⟨wb,0,none⟩)] #[]
theorem all_get {g:Nd→Bool} {l:List Nd} (h:l.all g=true) (i:Nat) (hi:i<l.length):g l[i]=true:=List.all_eq_true.1 h _ (List.getElem_mem hi)
theorem each_of {k:Nat} (H:AllW k) (s:Sh) (hs:s.wp=true) {l:List Nd} (hl:l.all (shq k s)=true) (wb mb:Nat) (w:À):EachS wb mb s.wn #[.pointer (some ⟨wb,0,none⟩)] #[] l (tok k s) w:=
 ⟨wn_ent s,fun i hi X cs ts _ hT hn hz=>H s hs wb mb ts cs l[i] X hT hn (all_get hl i hi) hz⟩
structure WS (wb mb nb:Nat) (bx:Array Value) (av:Value) (a:List Nd) (ts:List Tk) (w X:À):Prop where
 t:Wr wb mb ts X
 c:WrC wb w X
 y:Hs X nb 24 bx
 n:¬wOwn wb X nb
 a:NdsR X (im (wOwn wb X) X) av a
theorem WS.step {wb mb nb:Nat} {bx:Array Value} {av:Value} {a:List Nd} {ts ts':List Tk} {w X X':À} (h:WS wb mb nb bx av a ts w X) (ht:Wr wb mb ts' X') (hc:WrC wb X X'):WS wb mb nb bx av a ts' w X':=
 ⟨ht,h.c.trans hc,(hc.hs h.y h.n).1,(hc.hs h.y h.n).2,NdsR.to h.a hc.sub⟩
theorem WS.bel {wb mb nb:Nat} {bx:Array Value} {av:Value} {a:List Nd} {ts:List Tk} {w X X':À} (h:WS wb mb nb bx av a ts w X) (hb:Below X.heap.size X X'):WS wb mb nb bx av a ts w X':=h.step (h.t.bel hb) (WrC.bel hb h.t.lt)
theorem WS.start {wb mb:Nat} {ts:List Tk} {w:À} {K n p:Int} {s:Ê} {A:Option Addr} {cap:Nat} {a:List Nd} (hw:Wr wb mb ts w) (hn:NdR w (im (wOwn wb w) w) (cl K s n p A a.length cap) (.mk K s n p a)) :
 WS wb mb w.heap.size (cl K s n p A a.length cap).toArray (.slice A a.length cap) a ts w (w.alloc (.cells (cl K s n p A a.length cap).toArray 24)):=by
 have hb:Below w.heap.size w (w.alloc (.cells (cl K s n p A a.length cap).toArray 24)):=belA (belR _) _
 exact⟨hw.bel hb,WrC.bel hb hw.lt,Hs.new _ _ _,fun e=>by have:=hw.own_lt _ ((own_bel hb hw.lt _).1 e);omega,NdsR.to (nd_kids hn) (WrC.bel hb hw.lt).sub⟩
theorem nd_sz {w:À} {P:Nat→Prop} {k n p:Int} {s:Ê} {A:Option Addr} {l cap:Nat} {t:Nd} (h:NdR w P (cl k s n p A l cap) t):s.size≤maxLen:=by
 obtain⟨k0,s0,n0,p0,a0,A0,c0,e1,e2,_,hs,_⟩:=nd_form h
 injection e1 with _ e1
 injection e1 with e1 _
 injection e1 with e1
 rw[e1];exact hs
theorem kid_at {w:À} {P:Nat→Prop} {b off cap:Nat} {l:List Nd} (h:NdsR w P (.slice (some ⟨b,off,none⟩) l.length cap) l) {i:Nat} (hi:i<l.length) :
 ∃k s m p D ln c,NdR w P (cl k s m p D ln c) l[i]∧w.cell? ⟨b,off+i*5,none⟩=some (.int .i64 k)∧w.cell? ⟨b,off+i*5+1,none⟩=some (.string s)∧w.cell? ⟨b,off+i*5+2,none⟩=some (.int .i64 m)∧w.cell? ⟨b,off+i*5+3,none⟩=some (.int .i64 p)∧w.cell? ⟨b,off+i*5+4,none⟩=some (.slice D ln c):=by
 obtain⟨g,off',k,s,m,p,D,ln,c,hA,hg,hr,e0,e1,e2,e3,e4⟩:=nds_at h hi
 injection hA with hA
 injection hA with h1 h2
 subst h1 h2
 exact⟨k,s,m,p,D,ln,c,hr,e0,e1,e2,e3,e4⟩
theorem NdsR.some {w:À} {P:Nat→Prop} {A:Option Addr} {n cap:Nat} {l:List Nd} (h:NdsR w P (.slice A n cap) l) (hi:0<l.length):∃b off,A=some ⟨b,off,none⟩:=by
 obtain⟨g,off',k,s,m,p,D,ln,c,hA,_⟩:=nds_at h hi
 exact⟨g,off',hA⟩
theorem list_at {F:FuncId} {c1 c2:Array Value} {out:Nd→List Tk} (oa ob:Ê) (l:List Nd) (A:Option Addr) (n cap:Nat) (hn:l.length=n) {wb mb:Nat} {ts:List Tk} {w:À} (h:Wr wb mb ts w) (hoa:0<oa.size∧oa.size≤maxLen) (hob:0<ob.size∧ob.size≤maxLen) (hl:NdsR w (im (wOwn wb w) w) (.slice A n cap) l) (hE:EachS wb mb F c1 c2 l out w)
 (hz:ts.length+(wdT oa::(joinT (l.map out)++[wdT ob])).length≤wTop) :
 Calls prog 68 #[.pointer (some ⟨wb,0,none⟩),.string oa,.slice A n cap,.string ob,.func (.func F) c1 c2] w (WrSaid wb mb (ts++wdT oa::(joinT (l.map out)++[wdT ob])) w):=by
 subst hn;exact list_any oa ob l A cap h hoa hob hl hE hz
def GrSaid (k:Nat):Prop:=∀(wb mb:Nat) (ts:List Tk) (cs:List Value) (t:Nd) (w:À),Wr wb mb ts w→NdR w (im (wOwn wb w) w) cs t→shq k .exp t=true→ts.length+(grpT (tok k) t).length≤wTop→Calls prog 159 #[.pointer (some ⟨wb,0,none⟩),.agg cs.toArray] w (WrSaid wb mb (ts++grpT (tok k) t) w)
def OpSaid (k:Nat):Prop:=∀(wb mb:Nat) (ts:List Tk) (cs:List Value) (t:Nd) (lv:Nat) (w:À),Wr wb mb ts w→NdR w (im (wOwn wb w) w) cs t→shq k .exp t=true→lv≤100→ts.length+(opdT (tok k) t lv).length≤wTop→Calls prog 162 #[.pointer (some ⟨wb,0,none⟩),.agg cs.toArray,.int .i64 (lv:Int)] w (WrSaid wb mb (ts++opdT (tok k) t lv) w)
theorem w_grp {k:Nat} (H:AllW k) {wb mb:Nat} {ts:List Tk} (k0:Int) (s:Ê) (n p:Int) (a:List Nd) (A:Option Addr) (cap:Nat) (w:À) (hw:Wr wb mb ts w) (hn:NdR w (im (wOwn wb w) w) (cl k0 s n p A a.length cap) (.mk k0 s n p a)) (hx:shq k .exp (Nd.mk k0 s n p a)=true) (hz:ts.length+([wT [40]]++(tok k .exp (Nd.mk k0 s n p a)++([wT [41]]))).length≤wTop):Calls prog 159 #[.pointer (some ⟨wb,0,none⟩),.agg (cl k0 s n p A a.length cap).toArray] w (WrSaid wb mb (ts++([wT [40]]++(tok k .exp (Nd.mk k0 s n p a)++([wT [41]])))) w):=by
 have lm:a.length≤9223372036854775807:=(nd_kids hn).len.2
 have lc:a.length≤cap:=(nd_kids hn).cap
 have hs:=nd_sz hn
 obtain⟨HH,HZ,HN,HX⟩:=zd4 H hz hn hx
 obtain⟨W1,hW1⟩:∃q,Hid (q=w.alloc (.cells (cl k0 s n p A a.length cap).toArray 24)):=⟨_,rfl⟩
 have S:Hid (WS wb mb w.heap.size (cl k0 s n p A a.length cap).toArray (.slice A a.length cap) a ts w W1):=by show WS _ _ _ _ _ _ _ _ _;rw[hW1.o];exact WS.start hw hn
 clear hw hn hz
 go_in
 go_upto_region 1 with fail
 rw[←hW1.o]
 clear hW1
 obtain⟨y0,y1,y2,y3,y4⟩:=cf5 S.o.y
 go_wp2_with fail
 refine (words_call [str [40]] S.o.t (by intro x hx;simp only[List.mem_cons,List.not_mem_nil,or_false] at hx;subst hx;first|exact HS0.o|exact HK0.o|exact⟨by decide,by decide⟩) (by have h:=HZ.o;simp at h ⊢;omega)).mono ?_
 rintro _ X1 ⟨rfl,hT,hC⟩
 replace S:=η (S.o.step hT hC)
 clear hT hC y0 y1 y2 y3 y4
 obtain⟨y0,y1,y2,y3,y4⟩:=cf5 S.o.y
 go_wp2_with fail
 have SN:=η (NdR.to HN.o S.o.c.sub)
 refine (HH.o .exp rfl wb mb _ (cl k0 s n p A a.length cap) _ _ S.o.t SN.o HX.o (by have h:=HZ.o;simp at h ⊢;omega)).mono ?_
 rintro _ X2 ⟨rfl,hT,hC⟩
 replace S:=η (S.o.step hT hC)
 clear hT hC y0 y1 y2 y3 y4
 obtain⟨y0,y1,y2,y3,y4⟩:=cf5 S.o.y
 go_wp2_with fail
 refine (words_call [str [41]] S.o.t (by intro x hx;simp only[List.mem_cons,List.not_mem_nil,or_false] at hx;subst hx;first|exact HS0.o|exact HK0.o|exact⟨by decide,by decide⟩) (by have h:=HZ.o;simp at h ⊢;omega)).mono ?_
 rintro _ X3 ⟨rfl,hT,hC⟩
 replace S:=η (S.o.step hT hC)
 clear hT hC y0 y1 y2 y3 y4
 obtain⟨y0,y1,y2,y3,y4⟩:=cf5 S.o.y
 go_wp2_with fail
 first|go_end0|refine bodyPost_ret (results_none rfl _ _ _) rfl ?_
 exact⟨rfl,by have h:=S.o.t;(try simp only[List.append_assoc,List.cons_append,List.nil_append,List.map_cons,List.map_nil] at h);(try simp only[List.append_assoc,List.cons_append,List.nil_append,List.map_cons,List.map_nil]);exact h,S.o.c⟩
theorem grp_said {k:Nat} (H:AllW k):GrSaid k:=fun wb mb ts cs t w hw hn hx hz=>by
 have hn2:=hn
 obtain⟨k0,s,n,p,a,A,cap,rfl,rfl,_⟩:=nd_form hn
 exact w_grp H k0 s n p a A cap w hw hn2 hx hz
def LvSaid (wb mb:Nat) (ts:List Tk) (lv:Nat) (w:À) (e:Ending) (w':À):Prop:=e=.returned (.int .i64 (lv:Int))∧Wr wb mb ts w'∧WrC wb w w'
theorem lev_37 {wb mb:Nat} {ts:List Tk} (s:Ê) (n p:Int) (a:List Nd) (A:Option Addr) (cap:Nat) (w:À) (hw:Wr wb mb ts w) (hn:NdR w (im (wOwn wb w) w) (cl 37 s n p A a.length cap) (.mk 37 s n p a)):Calls prog 203 #[.pointer (some ⟨wb,0,none⟩),.agg (cl 37 s n p A a.length cap).toArray] w (LvSaid wb mb ts 0 w):=by
 have hs:=nd_sz hn
 have HS:=η hs
 obtain⟨W1,hW1⟩:∃q,Hid (q=w.alloc (.cells (cl 37 s n p A a.length cap).toArray 24)):=⟨_,rfl⟩
 have S:Hid (WS wb mb w.heap.size (cl 37 s n p A a.length cap).toArray (.slice A a.length cap) a ts w W1):=by show WS _ _ _ _ _ _ _ _ _;rw[hW1.o];exact WS.start hw hn
 have y0:W1.cell? ⟨w.heap.size,0,none⟩=some (.int .i64 37):=S.o.y.c 0
 have y1:W1.cell? ⟨w.heap.size,1,none⟩=some (.string s):=S.o.y.c 1
 clear hw hn hs
 go_in
 go_upto_region 1 with fail
 rw[←hW1.o]
 clear hW1
 go_wp2
 go_ret
 exact⟨rfl,S.o.t,S.o.c⟩
theorem lev_36 {wb mb:Nat} {ts:List Tk} (s:Ê) (n p:Int) (a:List Nd) (A:Option Addr) (cap:Nat) (w:À) (hw:Wr wb mb ts w) (hn:NdR w (im (wOwn wb w) w) (cl 36 s n p A a.length cap) (.mk 36 s n p a)):Calls prog 203 #[.pointer (some ⟨wb,0,none⟩),.agg (cl 36 s n p A a.length cap).toArray] w (LvSaid wb mb ts 0 w):=by
 have hs:=nd_sz hn
 have HS:=η hs
 obtain⟨W1,hW1⟩:∃q,Hid (q=w.alloc (.cells (cl 36 s n p A a.length cap).toArray 24)):=⟨_,rfl⟩
 have S:Hid (WS wb mb w.heap.size (cl 36 s n p A a.length cap).toArray (.slice A a.length cap) a ts w W1):=by show WS _ _ _ _ _ _ _ _ _;rw[hW1.o];exact WS.start hw hn
 have y0:W1.cell? ⟨w.heap.size,0,none⟩=some (.int .i64 36):=S.o.y.c 0
 have y1:W1.cell? ⟨w.heap.size,1,none⟩=some (.string s):=S.o.y.c 1
 clear hw hn hs
 go_in
 go_upto_region 1 with fail
 rw[←hW1.o]
 clear hW1
 go_wp2
 go_ret
 exact⟨rfl,S.o.t,S.o.c⟩
theorem lev_38 {wb mb:Nat} {ts:List Tk} (s:Ê) (n p:Int) (a:List Nd) (A:Option Addr) (cap:Nat) (w:À) (hw:Wr wb mb ts w) (hn:NdR w (im (wOwn wb w) w) (cl 38 s n p A a.length cap) (.mk 38 s n p a)):Calls prog 203 #[.pointer (some ⟨wb,0,none⟩),.agg (cl 38 s n p A a.length cap).toArray] w (LvSaid wb mb ts 0 w):=by
 have hs:=nd_sz hn
 have HS:=η hs
 obtain⟨W1,hW1⟩:∃q,Hid (q=w.alloc (.cells (cl 38 s n p A a.length cap).toArray 24)):=⟨_,rfl⟩
 have S:Hid (WS wb mb w.heap.size (cl 38 s n p A a.length cap).toArray (.slice A a.length cap) a ts w W1):=by show WS _ _ _ _ _ _ _ _ _;rw[hW1.o];exact WS.start hw hn
 have y0:W1.cell? ⟨w.heap.size,0,none⟩=some (.int .i64 38):=S.o.y.c 0
 have y1:W1.cell? ⟨w.heap.size,1,none⟩=some (.string s):=S.o.y.c 1
 clear hw hn hs
 go_in
 go_upto_region 1 with fail
 rw[←hW1.o]
 clear hW1
 go_wp2
 go_ret
 exact⟨rfl,S.o.t,S.o.c⟩
theorem lev_41 {wb mb:Nat} {ts:List Tk} (s:Ê) (n p:Int) (a:List Nd) (A:Option Addr) (cap:Nat) (w:À) (hw:Wr wb mb ts w) (hn:NdR w (im (wOwn wb w) w) (cl 41 s n p A a.length cap) (.mk 41 s n p a)):Calls prog 203 #[.pointer (some ⟨wb,0,none⟩),.agg (cl 41 s n p A a.length cap).toArray] w (LvSaid wb mb ts 0 w):=by
 have hs:=nd_sz hn
 have HS:=η hs
 obtain⟨W1,hW1⟩:∃q,Hid (q=w.alloc (.cells (cl 41 s n p A a.length cap).toArray 24)):=⟨_,rfl⟩
 have S:Hid (WS wb mb w.heap.size (cl 41 s n p A a.length cap).toArray (.slice A a.length cap) a ts w W1):=by show WS _ _ _ _ _ _ _ _ _;rw[hW1.o];exact WS.start hw hn
 have y0:W1.cell? ⟨w.heap.size,0,none⟩=some (.int .i64 41):=S.o.y.c 0
 have y1:W1.cell? ⟨w.heap.size,1,none⟩=some (.string s):=S.o.y.c 1
 clear hw hn hs
 go_in
 go_upto_region 1 with fail
 rw[←hW1.o]
 clear hW1
 go_wp2
 go_ret
 exact⟨rfl,S.o.t,S.o.c⟩
theorem lev_35 {wb mb:Nat} {ts:List Tk} (s:Ê) (n p:Int) (a:List Nd) (A:Option Addr) (cap:Nat) (w:À) (hw:Wr wb mb ts w) (hn:NdR w (im (wOwn wb w) w) (cl 35 s n p A a.length cap) (.mk 35 s n p a)):Calls prog 203 #[.pointer (some ⟨wb,0,none⟩),.agg (cl 35 s n p A a.length cap).toArray] w (LvSaid wb mb ts ((levP s.data.toList).getD 0) w):=by
 have hs:=nd_sz hn
 have HS:=η hs
 obtain⟨W1,hW1⟩:∃q,Hid (q=w.alloc (.cells (cl 35 s n p A a.length cap).toArray 24)):=⟨_,rfl⟩
 have S:Hid (WS wb mb w.heap.size (cl 35 s n p A a.length cap).toArray (.slice A a.length cap) a ts w W1):=by show WS _ _ _ _ _ _ _ _ _;rw[hW1.o];exact WS.start hw hn
 have y0:W1.cell? ⟨w.heap.size,0,none⟩=some (.int .i64 35):=S.o.y.c 0
 have y1:W1.cell? ⟨w.heap.size,1,none⟩=some (.string s):=S.o.y.c 1
 obtain⟨v,hb,_⟩:=S.o.t.row
 have b1:W1.cell? ⟨wb,1,none⟩=some (.map (some mb)):=hb.c 1
 obtain⟨nm,hm⟩:=S.o.t.lev
 have z1:=belW y1;have zb:=belW b1
 have hlk:∀X,Below W1.heap.size W1 X→(Instr.lookup 51 (.map (some mb)) (.string s) false).run prog X=.ok (.int .i64 (((levP s.data.toList).getD 0:Nat):Int)) X:=fun X hX =>
  (MapIs.look (hm.below hX hm.lt) (keyStr underlying9) underlying51 (zeroInt X) (keyOf_string_mk underlying9 HS.o)).trans (by unfold levF;cases levP s.data.toList<;>rfl)
 clear hb hm b1
 clear hw hn hs
 go_in
 go_upto_region 1 with fail
 rw[←hW1.o]
 clear hW1
 go_upto_region 8 with fail
 clear y0 y1
 refine tkB (fun X=>Below W1.heap.size W1 X) (belDr W1) (fun HS2=>?_)
 generalize W1.drew=X0 at HS2 ⊢
 refine θ ?_
 refine tkD ?_
 have HS2:=η HS2
 clear z1 zb hlk
 go_wp2
 go_ret
 have S2:=S.o.bel HS2.o
 exact⟨rfl,S2.t,S2.c⟩
theorem lev_34 {wb mb:Nat} {ts:List Tk} (s:Ê) (n p:Int) (a:List Nd) (A:Option Addr) (cap:Nat) (w:À) (hw:Wr wb mb ts w) (hn:NdR w (im (wOwn wb w) w) (cl 34 s n p A a.length cap) (.mk 34 s n p a)):Calls prog 203 #[.pointer (some ⟨wb,0,none⟩),.agg (cl 34 s n p A a.length cap).toArray] w (LvSaid wb mb ts 3 w):=by
 have hs:=nd_sz hn
 have HS:=η hs
 obtain⟨W1,hW1⟩:∃q,Hid (q=w.alloc (.cells (cl 34 s n p A a.length cap).toArray 24)):=⟨_,rfl⟩
 have S:Hid (WS wb mb w.heap.size (cl 34 s n p A a.length cap).toArray (.slice A a.length cap) a ts w W1):=by show WS _ _ _ _ _ _ _ _ _;rw[hW1.o];exact WS.start hw hn
 have y0:W1.cell? ⟨w.heap.size,0,none⟩=some (.int .i64 34):=S.o.y.c 0
 have y1:W1.cell? ⟨w.heap.size,1,none⟩=some (.string s):=S.o.y.c 1
 clear hw hn hs
 go_in
 go_upto_region 1 with fail
 rw[←hW1.o]
 clear hW1
 go_wp2
 go_ret
 exact⟨rfl,S.o.t,S.o.c⟩
theorem lev_33 {wb mb:Nat} {ts:List Tk} (s:Ê) (n p:Int) (a:List Nd) (A:Option Addr) (cap:Nat) (w:À) (hw:Wr wb mb ts w) (hn:NdR w (im (wOwn wb w) w) (cl 33 s n p A a.length cap) (.mk 33 s n p a)):Calls prog 203 #[.pointer (some ⟨wb,0,none⟩),.agg (cl 33 s n p A a.length cap).toArray] w (LvSaid wb mb ts 8 w):=by
 have hs:=nd_sz hn
 have HS:=η hs
 obtain⟨W1,hW1⟩:∃q,Hid (q=w.alloc (.cells (cl 33 s n p A a.length cap).toArray 24)):=⟨_,rfl⟩
 have S:Hid (WS wb mb w.heap.size (cl 33 s n p A a.length cap).toArray (.slice A a.length cap) a ts w W1):=by show WS _ _ _ _ _ _ _ _ _;rw[hW1.o];exact WS.start hw hn
 have y0:W1.cell? ⟨w.heap.size,0,none⟩=some (.int .i64 33):=S.o.y.c 0
 have y1:W1.cell? ⟨w.heap.size,1,none⟩=some (.string s):=S.o.y.c 1
 clear hw hn hs
 go_in
 go_upto_region 1 with fail
 rw[←hW1.o]
 clear hW1
 go_wp2
 go_ret
 exact⟨rfl,S.o.t,S.o.c⟩
theorem lev_32 {wb mb:Nat} {ts:List Tk} (s:Ê) (n p:Int) (a:List Nd) (A:Option Addr) (cap:Nat) (w:À) (hw:Wr wb mb ts w) (hn:NdR w (im (wOwn wb w) w) (cl 32 s n p A a.length cap) (.mk 32 s n p a)):Calls prog 203 #[.pointer (some ⟨wb,0,none⟩),.agg (cl 32 s n p A a.length cap).toArray] w (LvSaid wb mb ts 9 w):=by
 have hs:=nd_sz hn
 have HS:=η hs
 obtain⟨W1,hW1⟩:∃q,Hid (q=w.alloc (.cells (cl 32 s n p A a.length cap).toArray 24)):=⟨_,rfl⟩
 have S:Hid (WS wb mb w.heap.size (cl 32 s n p A a.length cap).toArray (.slice A a.length cap) a ts w W1):=by show WS _ _ _ _ _ _ _ _ _;rw[hW1.o];exact WS.start hw hn
 have y0:W1.cell? ⟨w.heap.size,0,none⟩=some (.int .i64 32):=S.o.y.c 0
 have y1:W1.cell? ⟨w.heap.size,1,none⟩=some (.string s):=S.o.y.c 1
 clear hw hn hs
 go_in
 go_upto_region 1 with fail
 rw[←hW1.o]
 clear hW1
 go_wp2
 go_ret
 exact⟨rfl,S.o.t,S.o.c⟩
theorem lev_30 {wb mb:Nat} {ts:List Tk} (s:Ê) (n p:Int) (a:List Nd) (A:Option Addr) (cap:Nat) (w:À) (hw:Wr wb mb ts w) (hn:NdR w (im (wOwn wb w) w) (cl 30 s n p A a.length cap) (.mk 30 s n p a)):Calls prog 203 #[.pointer (some ⟨wb,0,none⟩),.agg (cl 30 s n p A a.length cap).toArray] w (LvSaid wb mb ts 9 w):=by
 have hs:=nd_sz hn
 have HS:=η hs
 obtain⟨W1,hW1⟩:∃q,Hid (q=w.alloc (.cells (cl 30 s n p A a.length cap).toArray 24)):=⟨_,rfl⟩
 have S:Hid (WS wb mb w.heap.size (cl 30 s n p A a.length cap).toArray (.slice A a.length cap) a ts w W1):=by show WS _ _ _ _ _ _ _ _ _;rw[hW1.o];exact WS.start hw hn
 have y0:W1.cell? ⟨w.heap.size,0,none⟩=some (.int .i64 30):=S.o.y.c 0
 have y1:W1.cell? ⟨w.heap.size,1,none⟩=some (.string s):=S.o.y.c 1
 clear hw hn hs
 go_in
 go_upto_region 1 with fail
 rw[←hW1.o]
 clear hW1
 go_wp2
 go_ret
 exact⟨rfl,S.o.t,S.o.c⟩
theorem lev_31 {wb mb:Nat} {ts:List Tk} (s:Ê) (n p:Int) (a:List Nd) (A:Option Addr) (cap:Nat) (w:À) (hw:Wr wb mb ts w) (hn:NdR w (im (wOwn wb w) w) (cl 31 s n p A a.length cap) (.mk 31 s n p a)):Calls prog 203 #[.pointer (some ⟨wb,0,none⟩),.agg (cl 31 s n p A a.length cap).toArray] w (LvSaid wb mb ts 9 w):=by
 have hs:=nd_sz hn
 have HS:=η hs
 obtain⟨W1,hW1⟩:∃q,Hid (q=w.alloc (.cells (cl 31 s n p A a.length cap).toArray 24)):=⟨_,rfl⟩
 have S:Hid (WS wb mb w.heap.size (cl 31 s n p A a.length cap).toArray (.slice A a.length cap) a ts w W1):=by show WS _ _ _ _ _ _ _ _ _;rw[hW1.o];exact WS.start hw hn
 have y0:W1.cell? ⟨w.heap.size,0,none⟩=some (.int .i64 31):=S.o.y.c 0
 have y1:W1.cell? ⟨w.heap.size,1,none⟩=some (.string s):=S.o.y.c 1
 clear hw hn hs
 go_in
 go_upto_region 1 with fail
 rw[←hW1.o]
 clear hW1
 go_wp2
 go_ret
 exact⟨rfl,S.o.t,S.o.c⟩
theorem lev_o {wb mb:Nat} {ts:List Tk} (k0:Int) (s:Ê) (n p:Int) (a:List Nd) (A:Option Addr) (cap:Nat) (w:À) (hw:Wr wb mb ts w) (hn:NdR w (im (wOwn wb w) w) (cl k0 s n p A a.length cap) (.mk k0 s n p a)) (hne:k0≠37∧k0≠36∧k0≠38∧k0≠41∧k0≠35∧k0≠34∧k0≠33∧k0≠32∧k0≠30∧k0≠31):Calls prog 203 #[.pointer (some ⟨wb,0,none⟩),.agg (cl k0 s n p A a.length cap).toArray] w (LvSaid wb mb ts 10 w):=by
 have hs:=nd_sz hn
 have HS:=η hs
 obtain⟨n37,n36,n38,n41,n35,n34,n33,n32,n30,n31⟩:=hne
 have v37:(k0==37)=false:=beq_eq_false_iff_ne.2 n37
 have v36:(k0==36)=false:=beq_eq_false_iff_ne.2 n36
 have v38:(k0==38)=false:=beq_eq_false_iff_ne.2 n38
 have v41:(k0==41)=false:=beq_eq_false_iff_ne.2 n41
 have v35:(k0==35)=false:=beq_eq_false_iff_ne.2 n35
 have v34:(k0==34)=false:=beq_eq_false_iff_ne.2 n34
 have v33:(k0==33)=false:=beq_eq_false_iff_ne.2 n33
 have v32:(k0==32)=false:=beq_eq_false_iff_ne.2 n32
 have v30:(k0==30)=false:=beq_eq_false_iff_ne.2 n30
 have v31:(k0==31)=false:=beq_eq_false_iff_ne.2 n31
 clear n37 n36 n38 n41 n35 n34 n33 n32 n30 n31
 obtain⟨W1,hW1⟩:∃q,Hid (q=w.alloc (.cells (cl k0 s n p A a.length cap).toArray 24)):=⟨_,rfl⟩
 have S:Hid (WS wb mb w.heap.size (cl k0 s n p A a.length cap).toArray (.slice A a.length cap) a ts w W1):=by show WS _ _ _ _ _ _ _ _ _;rw[hW1.o];exact WS.start hw hn
 have y0:W1.cell? ⟨w.heap.size,0,none⟩=some (.int .i64 k0):=S.o.y.c 0
 have y1:W1.cell? ⟨w.heap.size,1,none⟩=some (.string s):=S.o.y.c 1
 clear hw hn hs
 go_in
 go_upto_region 1 with fail
 rw[←hW1.o]
 clear hW1
 go_wp2
 go_ret
 exact⟨rfl,S.o.t,S.o.c⟩
theorem lev_any {wb mb:Nat} {ts:List Tk} (t:Nd) (cs:List Value) (w:À) (hw:Wr wb mb ts w) (hn:NdR w (im (wOwn wb w) w) cs t):Calls prog 203 #[.pointer (some ⟨wb,0,none⟩),.agg cs.toArray] w (LvSaid wb mb ts (levW t) w):=by
 have hn2:=hn
 obtain⟨k0,s,n,p,a,A,cap,rfl,rfl,_⟩:=nd_form hn
 by_cases c37:k0=37
 · subst c37;exact lev_37 s n p a A cap w hw hn2
 by_cases c36:k0=36
 · subst c36;exact lev_36 s n p a A cap w hw hn2
 by_cases c38:k0=38
 · subst c38;exact lev_38 s n p a A cap w hw hn2
 by_cases c41:k0=41
 · subst c41;exact lev_41 s n p a A cap w hw hn2
 by_cases c35:k0=35
 · subst c35;exact lev_35 s n p a A cap w hw hn2
 by_cases c34:k0=34
 · subst c34;exact lev_34 s n p a A cap w hw hn2
 by_cases c33:k0=33
 · subst c33;exact lev_33 s n p a A cap w hw hn2
 by_cases c32:k0=32
 · subst c32;exact lev_32 s n p a A cap w hw hn2
 by_cases c30:k0=30
 · subst c30;exact lev_30 s n p a A cap w hw hn2
 by_cases c31:k0=31
 · subst c31;exact lev_31 s n p a A cap w hw hn2
 have e:levW (.mk k0 s n p a)=10:=by unfold levW;simp[ndK, *]
 rw[e]
 exact lev_o k0 s n p a A cap w hw hn2 ⟨c37,c36,c38,c41,c35,c34,c33,c32,c30,c31⟩
theorem w_opd1 {k:Nat} (H:AllW k) {wb mb:Nat} {ts:List Tk} (k0:Int) (s:Ê) (n p:Int) (a:List Nd) (A:Option Addr) (cap:Nat) (w:À) (hw:Wr wb mb ts w) (hn:NdR w (im (wOwn wb w) w) (cl k0 s n p A a.length cap) (.mk k0 s n p a)) (lv:Nat) (hlv:lv≤100) (hx:shq k .exp (Nd.mk k0 s n p a)=true) (hc:decide (levW (Nd.mk k0 s n p a)<lv)=true) (hz:ts.length+(grpT (tok k) (Nd.mk k0 s n p a)).length≤wTop):Calls prog 162 #[.pointer (some ⟨wb,0,none⟩),.agg (cl k0 s n p A a.length cap).toArray,.int .i64 (lv:Int)] w (WrSaid wb mb (ts++(grpT (tok k) (Nd.mk k0 s n p a))) w):=by
 have lm:a.length≤9223372036854775807:=(nd_kids hn).len.2
 have lc:a.length≤cap:=(nd_kids hn).cap
 have hs:=nd_sz hn
 obtain⟨HH,HZ,HN,HX⟩:=zd4 H hz hn hx
 have hc2:decide ((levW (Nd.mk k0 s n p a):Int)<(lv:Int))=true:=(lenlt _ _).trans hc
 have HLV:=η hlv
 obtain⟨W1,hW1⟩:∃q,Hid (q=w.alloc (.cells (cl k0 s n p A a.length cap).toArray 24)):=⟨_,rfl⟩
 have S:Hid (WS wb mb w.heap.size (cl k0 s n p A a.length cap).toArray (.slice A a.length cap) a ts w W1):=by show WS _ _ _ _ _ _ _ _ _;rw[hW1.o];exact WS.start hw hn
 clear hw hn hz hlv hx
 go_in
 go_upto_region 1 with fail
 rw[←hW1.o]
 clear hW1
 obtain⟨y0,y1,y2,y3,y4⟩:=cf5 S.o.y
 go_wp2_with fail
 have SN:=η (NdR.to HN.o S.o.c.sub)
 refine (lev_any (Nd.mk k0 s n p a) (cl k0 s n p A a.length cap) _ S.o.t SN.o).mono ?_
 rintro _ X1 ⟨rfl,hT,hC⟩
 replace S:=η (S.o.step hT hC)
 clear hT hC y0 y1 y2 y3 y4
 obtain⟨y0,y1,y2,y3,y4⟩:=cf5 S.o.y
 go_wp2_with fail
 have SN:=η (NdR.to HN.o S.o.c.sub)
 refine (grp_said HH.o wb mb _ (cl k0 s n p A a.length cap) _ _ S.o.t SN.o HX.o HZ.o).mono ?_
 rintro _ X2 ⟨rfl,hT,hC⟩
 replace S:=η (S.o.step hT hC)
 clear hT hC y0 y1 y2 y3 y4
 obtain⟨y0,y1,y2,y3,y4⟩:=cf5 S.o.y
 go_wp2_with fail
 first|go_end0|refine bodyPost_ret (results_none rfl _ _ _) rfl ?_
 exact⟨rfl,by have h:=S.o.t;(try simp only[List.append_assoc,List.cons_append,List.nil_append,List.map_cons,List.map_nil] at h);(try simp only[List.append_assoc,List.cons_append,List.nil_append,List.map_cons,List.map_nil]);exact h,S.o.c⟩
theorem w_opd0 {k:Nat} (H:AllW k) {wb mb:Nat} {ts:List Tk} (k0:Int) (s:Ê) (n p:Int) (a:List Nd) (A:Option Addr) (cap:Nat) (w:À) (hw:Wr wb mb ts w) (hn:NdR w (im (wOwn wb w) w) (cl k0 s n p A a.length cap) (.mk k0 s n p a)) (lv:Nat) (hlv:lv≤100) (hx:shq k .exp (Nd.mk k0 s n p a)=true) (hc:decide (levW (Nd.mk k0 s n p a)<lv)=false) (hz:ts.length+(tok k .exp (Nd.mk k0 s n p a)).length≤wTop):Calls prog 162 #[.pointer (some ⟨wb,0,none⟩),.agg (cl k0 s n p A a.length cap).toArray,.int .i64 (lv:Int)] w (WrSaid wb mb (ts++(tok k .exp (Nd.mk k0 s n p a))) w):=by
 have lm:a.length≤9223372036854775807:=(nd_kids hn).len.2
 have lc:a.length≤cap:=(nd_kids hn).cap
 have hs:=nd_sz hn
 obtain⟨HH,HZ,HN,HX⟩:=zd4 H hz hn hx
 have hc2:decide ((levW (Nd.mk k0 s n p a):Int)<(lv:Int))=false:=(lenlt _ _).trans hc
 have HLV:=η hlv
 obtain⟨W1,hW1⟩:∃q,Hid (q=w.alloc (.cells (cl k0 s n p A a.length cap).toArray 24)):=⟨_,rfl⟩
 have S:Hid (WS wb mb w.heap.size (cl k0 s n p A a.length cap).toArray (.slice A a.length cap) a ts w W1):=by show WS _ _ _ _ _ _ _ _ _;rw[hW1.o];exact WS.start hw hn
 clear hw hn hz hlv hx
 go_in
 go_upto_region 1 with fail
 rw[←hW1.o]
 clear hW1
 obtain⟨y0,y1,y2,y3,y4⟩:=cf5 S.o.y
 go_wp2_with fail
 have SN:=η (NdR.to HN.o S.o.c.sub)
 refine (lev_any (Nd.mk k0 s n p a) (cl k0 s n p A a.length cap) _ S.o.t SN.o).mono ?_
 rintro _ X1 ⟨rfl,hT,hC⟩
 replace S:=η (S.o.step hT hC)
 clear hT hC y0 y1 y2 y3 y4
 obtain⟨y0,y1,y2,y3,y4⟩:=cf5 S.o.y
 go_wp2_with fail
 have SN:=η (NdR.to HN.o S.o.c.sub)
 refine (HH.o .exp rfl wb mb _ (cl k0 s n p A a.length cap) _ _ S.o.t SN.o HX.o HZ.o).mono ?_
 rintro _ X2 ⟨rfl,hT,hC⟩
 replace S:=η (S.o.step hT hC)
 clear hT hC y0 y1 y2 y3 y4
 obtain⟨y0,y1,y2,y3,y4⟩:=cf5 S.o.y
 go_wp2_with fail
 first|go_end0|refine bodyPost_ret (results_none rfl _ _ _) rfl ?_
 exact⟨rfl,by have h:=S.o.t;(try simp only[List.append_assoc,List.cons_append,List.nil_append,List.map_cons,List.map_nil] at h);(try simp only[List.append_assoc,List.cons_append,List.nil_append,List.map_cons,List.map_nil]);exact h,S.o.c⟩
theorem opd_said {k:Nat} (H:AllW k):OpSaid k:=fun wb mb ts cs t lv w hw hn hx hl hz=>by
 have hn2:=hn
 obtain⟨k0,s,n,p,a,A,cap,rfl,rfl,_⟩:=nd_form hn
 by_cases hc:levW (.mk k0 s n p a)<lv
 · have e:opdT (tok k) (.mk k0 s n p a) lv=grpT (tok k) (.mk k0 s n p a):=by unfold opdT;rw[if_pos hc]
   rw[e] at hz ⊢
   exact w_opd1 H k0 s n p a A cap w hw hn2 lv hl hx (decide_eq_true hc) hz
 · have e:opdT (tok k) (.mk k0 s n p a) lv=tok k .exp (.mk k0 s n p a):=by unfold opdT;rw[if_neg hc]
   rw[e] at hz ⊢
   exact w_opd0 H k0 s n p a A cap w hw hn2 lv hl hx (decide_eq_false hc) hz
end Go.Proofs.YtbjdcogmiggamaaGreatDoor
