import Derived.Test.YtbjdcogmiggamaaGreatDoorB37
set_option linter.all false
namespace Go.Proofs.YtbjdcogmiggamaaGreatDoor
open Proofs.Tryz RowKit Maps WideMaps ChangeMaps
set_option maxRecDepth 100000
set_option maxHeartbeats 8000000
section
abbrev NoSaid (F:FuncId) (P:Nd→Prop) (out:Nd→List Tk):Prop:=∀(wb mb:Nat) (ts:List Tk) (cs:List Value) (t:Nd) (w:À),Wr wb mb ts w→NdR w (im (wOwn wb w) w) cs t→P t→ts.length+(out t).length≤wTop→Calls prog F #[.pointer (some ⟨wb,0,none⟩),.agg cs.toArray] w (WrSaid wb mb (ts++out t) w)
def Wf (F:FuncId) (K:Int) (s:Ê) (n p:Int) (a:List Nd) (out:List Tk):Prop:=∀⦃wb mb:Nat⦄ ⦃ts:List Tk⦄ ⦃A:Option Addr⦄ ⦃cap:Nat⦄ ⦃w:À⦄,Wr wb mb ts w→NdR w (im (wOwn wb w) w) (cl K s n p A a.length cap) (.mk K s n p a)→ts.length+out.length≤wTop→Calls prog F #[.pointer (some ⟨wb,0,none⟩),.agg (cl K s n p A a.length cap).toArray] w (WrSaid wb mb (ts++out) w)
def NkS (k:Nat) (s:Sh) (t:Nd):Prop:=∀(wb mb:Nat) (ts:List Tk) (cs:List Value) (w:À),Wr wb mb ts w→NdR w (im (wOwn wb w) w) cs t→ts.length+(tok k s t).length≤wTop→Calls prog s.wn #[.pointer (some ⟨wb,0,none⟩),.agg cs.toArray] w (WrSaid wb mb (ts++tok k s t) w)
theorem nk {k:Nat} {s:Sh} {t:Nd} (H:AllW k) (h:shp k s t=true) (hs:s.wp=true):NkS k s t:=fun wb mb ts cs w hw hn hz=>H s hs wb mb ts cs t w hw hn h hz
theorem eaK {k:Nat} {s:Sh} {l:List Nd} (H:AllW k) (hl:l.all (shp k s)=true) (hs:s.wp=true) (wb mb:Nat) (w:À):EachS wb mb s.wn #[.pointer (some ⟨wb,0,none⟩)] #[] l (tok k s) w:=each_of H s hs hl wb mb w
theorem ws0 {wb mb:Nat} {ts:List Tk} {w:À} {K n p:Int} {s:Ê} {A:Option Addr} {cap:Nat} {a:List Nd} (hw:Wr wb mb ts w) (hn:NdR w (im (wOwn wb w) w) (cl K s n p A a.length cap) (.mk K s n p a)) :
 ∃W1,Hid (W1=w.alloc (.cells (cl K s n p A a.length cap).toArray 24))∧Hid (WS wb mb w.heap.size (cl K s n p A a.length cap).toArray (.slice A a.length cap) a ts w W1):=⟨_,η rfl,η (WS.start hw hn)⟩
theorem kid_kl {w:À} {P:Nat→Prop} {k n p:Int} {s:Ê} {A:Option Addr} {l cap:Nat} {t:Nd} (h:NdR w P (cl k s n p A l cap) t):k=ndK t∧l=(ndL t).length:=by
 obtain⟨k0,s0,n0,p0,a0,A0,c0,e1,e2,_⟩:=nd_form h
 subst e2
 injection e1 with h1 e1
 injection e1 with _ e1
 injection e1 with _ e1
 injection e1 with _ e1
 injection e1 with h5 _
 injection h1 with _ h1
 injection h5 with _ h5 _
 exact⟨h1,h5⟩
theorem kid_ks {w:À} {P:Nat→Prop} {k n p:Int} {s:Ê} {A:Option Addr} {l cap:Nat} {t:Nd} (h:NdR w P (cl k s n p A l cap) t):s=ndS t:=by
 obtain⟨k0,s0,n0,p0,a0,A0,c0,e1,e2,_⟩:=nd_form h
 subst e2
 injection e1 with _ e1
 injection e1 with h1 _
 injection h1 with h1
theorem run_mid22 (w:À) (A:Option Addr) (len cap j k:Nat) (h:j≤k) (hk:k≤len) (hc:len≤cap):(Instr.slice 22 (.slice A len cap) (some (.int .i64 (j:Int))) (some (.int .i64 (k:Int))) none).run prog w=.ok (.slice (fromA A cap j 5) (k-j) (cap-j)) w:=by
 have h2:(0:Int)≤(k:Int)∧(k:Int)≤(cap:Int):=by omega
 have h3:(0:Int)≤(j:Int)∧(j:Int)≤(k:Int):=by omega
 simp[Instr.slice,run_underlying underlying22,Instr.sliceBounds,Instr.sliceBound,asIntOf,size24,Result.andThen,h,h2,h3,show k≤cap by omega,fromA]
theorem NdsR.mid {w:À} {P:Nat→Prop} {A:Option Addr} {n cap:Nat} {l:List Nd} (h:NdsR w P (.slice A n cap) l) (j k:Nat) (hj:j≤k) (hk:k≤l.length):NdsR w P (.slice (fromA A cap j 5) (k-j) (cap-j)) ((l.take k).drop j):=by
 have:=NdsR.from (NdsR.upto h k hk) j (by rw[List.length_take];omega)
 rw[List.length_take,Nat.min_eq_left hk] at this
 exact this
theorem kid_nds {w:À} {P:Nat→Prop} {k n p:Int} {s:Ê} {A:Option Addr} {l cap:Nat} {t:Nd} (h:NdR w P (cl k s n p A l cap) t):NdsR w P (.slice A l cap) (ndL t):=by
 have hl:=(kid_kl h).2
 cases t with
 | mk K S N P' a =>
  have hl:l=a.length:=hl
  subst hl
  obtain rfl:=(kid_kl h).1
  obtain rfl:=kid_ks h
  have h2:=h
  obtain⟨k0,s0,n0,p0,a0,A0,c0,e1,e2,_⟩:=nd_form h2
  injection e1 with _ e1
  injection e1 with _ e1
  injection e1 with e3 e1
  injection e1 with e4 _
  injection e3 with _ e3
  injection e4 with _ e4
  injection e2 with _ _ e5 e6 _
  subst e5 e6 e3 e4
  exact nd_kids h
section
variable {wb mb:Nat} {ts:List Tk} {X:À} {x y z u:Ê} (h:Wr wb mb ts X) (hx:0<x.size∧x.size≤maxLen)
include h hx
theorem wc1 (hl:ts.length+[wdT x].length≤wTop):Calls prog 67 #[.pointer (some ⟨wb,0,none⟩),.slice (some ⟨X.heap.size,0,none⟩) 1 1] (X.alloc (.cells #[.string x] 9)) (WrSaid wb mb (ts++[wdT x]) X):=
 words_call [x] h (by simpa using hx) hl
variable (hy:0<y.size∧y.size≤maxLen)
include hy
theorem wc2 (hl:ts.length+[wdT x,wdT y].length≤wTop):Calls prog 67 #[.pointer (some ⟨wb,0,none⟩),.slice (some ⟨X.heap.size,0,none⟩) 2 2] (X.alloc (.cells #[.string x,.string y] 9)) (WrSaid wb mb (ts++[wdT x,wdT y]) X):=
 words_call [x,y] h (by intro s hs;simp only[List.mem_cons,List.not_mem_nil,or_false] at hs;rcases hs with rfl|rfl<;>assumption) hl
variable (hw:0<z.size∧z.size≤maxLen)
include hw
theorem wc3 (hl:ts.length+[wdT x,wdT y,wdT z].length≤wTop):Calls prog 67 #[.pointer (some ⟨wb,0,none⟩),.slice (some ⟨X.heap.size,0,none⟩) 3 3] (X.alloc (.cells #[.string x,.string y,.string z] 9)) (WrSaid wb mb (ts++[wdT x,wdT y,wdT z]) X):=
 words_call [x,y,z] h (by intro s hs;simp only[List.mem_cons,List.not_mem_nil,or_false] at hs;rcases hs with rfl|rfl|rfl<;>assumption) hl
end
theorem Zb {p:Prop} (h:p:=by first|exact HZ.o|(have h:=HZ.o;simp at h ⊢;omega)):p:=h
theorem Zw {p:Prop} (h:p:=by first|exact HS0.o|exact HX0.o|exact HX1.o|exact⟨by decide,by decide⟩):p:=h
theorem UU {P:Prop} (h:P:=by
 intro wb mb ts A cap w hw hn hz
 have lm:a.length≤9223372036854775807:=(nd_kids hn).len.2
 have lc:a.length≤cap:=(nd_kids hn).cap
 have hs:=nd_sz hn
 obtain⟨HZ,HN⟩:=zd2 hz hn
 (try have HS0:=η (And.intro hs0 hs))
 (try (have NK0:=nk H h0 rfl;unfold NkS Sh.wn at NK0;replace NK0:=η NK0));(try have j0:(0:Int)<(a.length:Int):=by omega)
 (try (have NK1:=nk H h1 rfl;unfold NkS Sh.wn at NK1;replace NK1:=η NK1));(try have j1:(1:Int)<(a.length:Int):=by omega)
 (try (have NK2:=nk H h2 rfl;unfold NkS Sh.wn at NK2;replace NK2:=η NK2));(try have j2:(2:Int)<(a.length:Int):=by omega)
 (try (have NKm:=nk H hlast rfl;unfold NkS Sh.wn at NKm;replace NKm:=η NKm))
 (try (have NKx:=nk H hx rfl;unfold NkS Sh.wn at NKx;replace NKx:=η NKx))
 (try have jm0:(0:Int)≤(a.length:Int)-1:=by omega);(try have jm1:(a.length:Int)-1<(a.length:Int):=by omega)
 (try (have EA:=eaK H hal rfl;unfold Sh.wn at EA;replace EA:=η EA))
 (try have HLT:Hid ((a.take (a.length-1)).length=a.length-1):=η (by rw[List.length_take];omega))
 (try have u1:decide ((0:Int)<(a.length:Int))=true:=decide_eq_true ω);(try have u2:decide (0<a.length)=true:=decide_eq_true ω);(try have u1:decide ((0:Int)<(a.length:Int))=false:=decide_eq_false ω);(try have u2:decide (0<a.length)=false:=decide_eq_false ω);(try have u3:decide ((2:Int)<(a.length:Int))=true:=decide_eq_true ω);(try have u3:decide ((2:Int)<(a.length:Int))=false:=decide_eq_false ω)
 (try have hsl:∀(A:Option Addr) (W:À),(Instr.slice 22 (.slice A a.length cap) (some (.int .i64 1)) none none).run prog W=.ok (.slice (fromA A cap 1 5) (a.length-1) (cap-1)) W:=fun A W=>run_from22 W A _ _ 1 ω)
 (try have HM01:Hid (((a.take (a.length-0)).drop 1).length=a.length-1):=η (by rw[List.length_drop,List.length_take];omega))
 (try have hs01:∀(A:Option Addr) (W:À),(Instr.slice 22 (.slice A a.length cap) (some (.int .i64 1)) (some (.int .i64 ((a.length:Int)))) none).run prog W=.ok (.slice (fromA A cap 1 5) (a.length-0-1) (cap-1)) W:=fun A W=>(by have h:=run_mid22 W A a.length cap 1 (a.length-0) ω ω lc;simpa[show ((a.length-0:Nat):Int)=(a.length:Int) by omega] using h))
 (try have HM11:Hid (((a.take (a.length-1)).drop 1).length=a.length-1-1):=η (by rw[List.length_drop,List.length_take];omega))
 (try have hs11:∀(A:Option Addr) (W:À),(Instr.slice 22 (.slice A a.length cap) (some (.int .i64 1)) (some (.int .i64 ((a.length:Int)-1))) none).run prog W=.ok (.slice (fromA A cap 1 5) (a.length-1-1) (cap-1)) W:=fun A W=>(by have h:=run_mid22 W A a.length cap 1 (a.length-1) ω ω lc;simpa[show ((a.length-1:Nat):Int)=(a.length:Int)-1 by omega] using h))
 (try have HM10:Hid (((a.take (a.length-1)).drop 0).length=a.length-1):=η (by rw[List.length_drop,List.length_take];omega))
 (try have hs10:∀(A:Option Addr) (W:À),(Instr.slice 22 (.slice A a.length cap) (some (.int .i64 0)) (some (.int .i64 ((a.length:Int)-1))) none).run prog W=.ok (.slice (fromA A cap 0 5) (a.length-1-0) (cap-0)) W:=fun A W=>(by have h:=run_mid22 W A a.length cap 0 (a.length-1) ω ω lc;simpa[show ((a.length-1:Nat):Int)=(a.length:Int)-1 by omega] using h))
 (try (have hp0:0<a.length:=ω;have hq0:=NdsR.some (nd_kids hn) hp0;clear hp0;obtain⟨b,off,rfl⟩:=hq0))
 obtain⟨W1,hW1,S⟩:=ws0 hw hn
 clear hw hn hz
 go_in
 go_upto_region 1 with fail
 rw[←hW1.o]
 clear hW1
 repeat (obtain⟨y0,y1,y2,y3,y4⟩:=cf5 S.o.y;(try (have hh:=kid_at S.o.a (i:=0) hi0;obtain⟨kk,sk,mk,pk,Dk,lk,ck,hr1,e0,e1,e2,e3,e4⟩:=hh;have hks:=kid_ks hr1;subst hks;have KR0:=η hr1;clear hr1;(try simp only[Nat.zero_mul,Nat.add_zero,Nat.reduceMul] at e0 e1 e2 e3 e4)));(try (have hh:=kid_at S.o.a (i:=1) hi1;obtain⟨kk,sk,mk,pk,Dk,lk,ck,hr1,f0,f1,f2,f3,f4⟩:=hh;have hks:=kid_ks hr1;subst hks;have KR1:=η hr1;clear hr1;(try simp only[Nat.zero_mul,Nat.add_zero,Nat.reduceMul] at f0 f1 f2 f3 f4);have qf1:=f1;have qf2:=f2;have qf3:=f3;have qf4:=f4;(try simp only[Nat.add_assoc,Nat.reduceAdd] at qf1 qf2 qf3 qf4)));(try (have hh:=kid_at S.o.a (i:=2) hi2;obtain⟨kk,sk,mk,pk,Dk,lk,ck,hr1,g0,g1,g2,g3,g4⟩:=hh;have hks:=kid_ks hr1;subst hks;have KR2:=η hr1;clear hr1;(try simp only[Nat.zero_mul,Nat.add_zero,Nat.reduceMul] at g0 g1 g2 g3 g4);have qg1:=g1;have qg2:=g2;have qg3:=g3;have qg4:=g4;(try simp only[Nat.add_assoc,Nat.reduceAdd] at qg1 qg2 qg3 qg4)));(try (have hh:=kid_at S.o.a (i:=a.length-1) him;obtain⟨kk,sk,mk,pk,Dk,lk,ck,hr1,i0,i1,i2,i3,i4⟩:=hh;have hks:=kid_ks hr1;subst hks;have KRm:=η hr1;clear hr1));(try have HX0:=η (And.intro hx0 (nd_sz KR0.o)));(try have HX1:=η (And.intro hx1 (nd_sz KRm.o)));go_wp2_with fail;(first|((with_reducible refine (wc1 S.o.t ?_ ?_).mono ?_);exact Zw;exact Zb)|((with_reducible refine (wc2 S.o.t ?_ ?_ ?_).mono ?_);exact Zw;exact Zw;exact Zb)|((with_reducible refine (wc3 S.o.t ?_ ?_ ?_ ?_).mono ?_);exact Zw;exact Zw;exact Zw;exact Zb)|((with_reducible refine (NK0.o wb mb _ _ _ S.o.t KR0.o ?_).mono ?_);exact Zb)|((with_reducible refine (NK1.o wb mb _ _ _ S.o.t KR1.o ?_).mono ?_);exact Zb)|((with_reducible refine (NK2.o wb mb _ _ _ S.o.t KR2.o ?_).mono ?_);exact Zb)|((with_reducible refine (NKm.o wb mb _ _ _ S.o.t KRm.o ?_).mono ?_);exact Zb)|((with_reducible refine (grp_said H wb mb _ _ _ _ S.o.t KR0.o h0 ?_).mono ?_);exact Zb)|((with_reducible refine (opdz H 3 ?_ wb mb _ _ _ _ S.o.t KR0.o h0 ?_ ?_).mono ?_);exact rfl;decide;exact Zb)|((with_reducible refine (opdz H 8 ?_ wb mb _ _ _ _ S.o.t KR0.o h0 ?_ ?_).mono ?_);exact rfl;decide;exact Zb)|((with_reducible refine (list_any _ _ a _ _ S.o.t ?_ ?_ S.o.a (EA.o wb mb _) ?_).mono ?_);exact Zw;exact Zw;exact Zb)|((with_reducible refine (list_at _ _ (a.take (a.length-1)) _ _ _ HLT.o S.o.t ?_ ?_ (NdsR.upto S.o.a (a.length-1) ?_) (EA.o wb mb _) ?_).mono ?_);exact Zw;exact Zw;omega;exact Zb)|((with_reducible refine (list_at _ _ (a.drop 1) _ _ _ List.length_drop S.o.t ?_ ?_ (NdsR.from S.o.a 1 ?_) (EA.o wb mb _) ?_).mono ?_);exact Zw;exact Zw;omega;exact Zb)|((with_reducible refine (list_at _ _ ((a.take (a.length-0)).drop 1) _ _ _ HM01.o S.o.t ?_ ?_ ?_ (EA.o wb mb _) ?_).mono ?_);exact Zw;exact Zw;simpa using NdsR.mid S.o.a 1 (a.length-0) ω ω;exact Zb)|((with_reducible refine (list_at _ _ ((a.take (a.length-1)).drop 1) _ _ _ HM11.o S.o.t ?_ ?_ (NdsR.mid S.o.a 1 (a.length-1) ?_ ?_) (EA.o wb mb _) ?_).mono ?_);exact Zw;exact Zw;omega;omega;exact Zb)|((with_reducible refine (list_at _ _ ((a.take (a.length-1)).drop 0) _ _ _ HM10.o S.o.t ?_ ?_ ?_ (EA.o wb mb _) ?_).mono ?_);exact Zw;exact Zw;simpa using NdsR.mid S.o.a 0 (a.length-1) ω ω;exact Zb)|((with_reducible refine (HF wb mb _ _ _ _ S.o.t (NdR.to HN.o S.o.c.sub) hp ?_).mono ?_);exact Zb)|((with_reducible refine (integer_any _ S.o.t ?_).mono ?_);exact Zb)|(with_reducible refine (lev_any _ _ _ S.o.t (NdR.to HN.o S.o.c.sub)).mono ?_)|((with_reducible refine (grp_said H wb mb _ _ _ _ S.o.t (NdR.to HN.o S.o.c.sub) hx ?_).mono ?_);exact Zb)|((with_reducible refine (NKx.o wb mb _ _ _ S.o.t (NdR.to HN.o S.o.c.sub) ?_).mono ?_);exact Zb)|((with_reducible refine (pat_said k wb mb _ _ _ _ S.o.t (NdR.to HN.o S.o.c.sub) ?_ ?_ ?_ ?_).mono ?_);exact hs0;exact hi0;exact hpa;exact Zb)|((with_reducible refine (fn_said H 5 s n p a _ _ S.o.t S.o.a hfk ?_).mono ?_);exact Zb)|((with_reducible refine (fn_said H 41 s n p a _ _ S.o.t S.o.a hgk ?_).mono ?_);exact Zb));rintro _ X ⟨rfl,hT,hC⟩;replace S:=η (S.o.step hT hC);clear hT hC y0 y1 y2 y3 y4;(try clear e0 e1 e2 e3 e4 KR0);(try clear f0 f1 f2 f3 f4 qf1 qf2 qf3 qf4 KR1);(try clear g0 g1 g2 g3 g4 qg1 qg2 qg3 qg4 KR2);(try clear i0 i1 i2 i3 i4 KRm))
 obtain⟨y0,y1,y2,y3,y4⟩:=cf5 S.o.y
 go_wp2_with fail
 first|go_end0|refine bodyPost_ret (results_none rfl _ _ _) rfl ?_
 exact⟨rfl,(by have h:=S.o.t;(try simp only[List.append_assoc,List.cons_append,List.nil_append,List.map_cons,List.map_nil] at h);(try simp only[List.append_assoc,List.cons_append,List.nil_append,List.map_cons,List.map_nil]);exact h),S.o.c⟩):P:=h
section
variable {k:Nat} {s:Ê} {n p:Int} {a:List Nd} {K:Int} {Pp:Nd→Prop}
theorem w_fld (H:AllW k) (hs0:0<s.size) (hi0:0<a.length) (h0:shp k .typ a[0]=true)  : Wf 69 K s n p a ([wdT s,wT [58]]++(tok k .typ (a[0]'hi0))):=UU
theorem w_set (H:AllW k) (hs0:0<s.size) (hi0:0<a.length) (h0:shp k .exp a[0]=true)  : Wf 118 K s n p a ([wdT s,wT [61]]++(tok k .exp (a[0]'hi0))):=UU
theorem w_typ13 (H:AllW k) (hi0:0<a.length) (h0:shp k .typ a[0]=true)  : Wf 71 13 s n p a ([wT [91]]++(tok k .typ (a[0]'hi0)++([wT [93]]))):=UU
theorem w_typ14 (hs0:0<s.size)  : Wf 71 14 s n p a ([wT [114,101,102],wdT s]):=UU
theorem w_typ12 (hs0:0<s.size)  : Wf 71 12 s n p a ([wdT s]):=UU
theorem w_typ15 (H:AllW k) (him:a.length-1<a.length) (hlast:shp k .typ a[a.length-1]=true) (hal:(a.take (a.length-1)).all (shp k .typ)=true)  : Wf 71 15 s n p a ([wT [102,117,110]]++((wdT (str [40])::(joinT ((a.take (a.length-1)).map (tok k .typ))++[wdT (str [41])]))++([wT [58]]++(tok k .typ (a[a.length-1]'him))))):=UU
theorem w_ctor1 (H:AllW k) (hs0:0<s.size) (hi:0<a.length) (hal:a.all (shp k .typ)=true)  : Wf 70 K s n p a ([wdT s]++((wdT (str [40])::(joinT ((a).map (tok k .typ))++[wdT (str [41])])))):=UU
theorem w_ctor0 (hs0:0<s.size) (hi:¬0<a.length):Wf 70 K s n p a ([wdT s]):=UU
theorem w_snd (H:AllW k) (hs0:0<s.size) (hi0:0<a.length) (h0:shp k .exp a[0]=true) (hal:(a.drop 1).all (shp k .exp)=true)  : Wf 204 K s n p a ([wT [115,101,110,100]]++(tok k .exp (a[0]'hi0)++([wdT s]++((wdT (str [40])::(joinT ((a.drop 1).map (tok k .exp))++[wdT (str [41])])))))):=UU
theorem w_grp (H:AllW k) (hx:shp k .exp (Nd.mk K s n p a)=true):Wf 159 K s n p a ([wT [40]]++(tok k .exp (Nd.mk K s n p a)++([wT [41]]))):=UU
theorem grp_said (H:AllW k):GrSaid k:=fun wb mb ts cs t w hw hn hx hz=>by
 have hn2:=hn
 obtain⟨k0,s,n,p,a,A,cap,rfl,rfl,_⟩:=nd_form hn
 exact w_grp H hx hw hn2 hz
def LvSaid (wb mb:Nat) (ts:List Tk) (lv:Nat) (w:À) (e:Ending) (w':À):Prop:=e=.returned (.int .i64 (lv:Int))∧Wr wb mb ts w'∧WrC wb w w'
def LvF (K:Int) (s:Ê) (n p:Int) (a:List Nd) (lv:Nat):Prop:=∀⦃wb mb:Nat⦄ ⦃ts:List Tk⦄ ⦃A:Option Addr⦄ ⦃cap:Nat⦄ ⦃w:À⦄,Wr wb mb ts w→NdR w (im (wOwn wb w) w) (cl K s n p A a.length cap) (.mk K s n p a)→Calls prog 203 #[.pointer (some ⟨wb,0,none⟩),.agg (cl K s n p A a.length cap).toArray] w (LvSaid wb mb ts lv w)
theorem UL {P:Prop} (h:P:=by
 intro wb mb ts A cap w hw hn
 obtain⟨W1,hW1,S⟩:=ws0 hw hn
 obtain⟨y0,y1,-,-,-⟩:=cf5 S.o.y
 clear hw hn
 go_in
 go_upto_region 1 with fail
 rw[←hW1.o]
 clear hW1
 go_wp2
 go_ret
 exact⟨rfl,S.o.t,S.o.c⟩):P:=h
theorem lev_37:LvF 37 s n p a 0:=UL
theorem lev_36:LvF 36 s n p a 0:=UL
theorem lev_38:LvF 38 s n p a 0:=UL
theorem lev_41:LvF 41 s n p a 0:=UL
theorem lev_34:LvF 34 s n p a 3:=UL
theorem lev_33:LvF 33 s n p a 8:=UL
theorem lev_32:LvF 32 s n p a 9:=UL
theorem lev_30:LvF 30 s n p a 9:=UL
theorem lev_31:LvF 31 s n p a 9:=UL
theorem lev_o (v37:(K==37)=false) (v36:(K==36)=false) (v38:(K==38)=false) (v41:(K==41)=false) (v35:(K==35)=false) (v34:(K==34)=false) (v33:(K==33)=false) (v32:(K==32)=false) (v30:(K==30)=false) (v31:(K==31)=false):LvF K s n p a 10:=UL
theorem lev_35 {wb mb:Nat} {ts:List Tk} (s:Ê) (n p:Int) (a:List Nd) (A:Option Addr) (cap:Nat) (w:À) (hw:Wr wb mb ts w) (hn:NdR w (im (wOwn wb w) w) (cl 35 s n p A a.length cap) (.mk 35 s n p a)):Calls prog 203 #[.pointer (some ⟨wb,0,none⟩),.agg (cl 35 s n p A a.length cap).toArray] w (LvSaid wb mb ts ((levP s.data.toList).getD 0) w):=by
 have hs:=nd_sz hn
 have HS:=η hs
 obtain⟨W1,hW1⟩:∃q,Hid (q=w.alloc (.cells (cl 35 s n p A a.length cap).toArray 24)):=⟨_,rfl⟩
 have S:Hid (WS wb mb w.heap.size (cl 35 s n p A a.length cap).toArray (.slice A a.length cap) a ts w W1):=by show WS _ _ _ _ _ _ _ _ _;rw[hW1.o];exact WS.start hw hn
 have y0:W1.cell? ⟨w.heap.size,0,none⟩=some (.int .i64 35):=S.o.y.c 0
 have y1:W1.cell? ⟨w.heap.size,1,none⟩=some (.string s):=S.o.y.c 1
 obtain⟨v,hb,_⟩:=S.o.t.row
 have b1:W1.cell? ⟨wb,1,none⟩=some (.map (some mb)):=hb.c 1
 obtain⟨nm,hm⟩:=S.o.t.lev
 have z1:=belW y1;have zb:=belW b1
 have hlk:∀X,Below W1.heap.size W1 X→(Instr.lookup 51 (.map (some mb)) (.string s) false).run prog X=.ok (.int .i64 (((levP s.data.toList).getD 0:Nat):Int)) X:=fun X hX =>
  (MapIs.look (hm.below hX hm.lt) (keyStr underlying9) underlying51 (zeroInt X) (keyOf_string_mk underlying9 HS.o)).trans (by unfold levF;cases levP s.data.toList<;>rfl)
 clear hb hm b1
 clear hw hn hs
 go_in
 go_upto_region 1 with fail
 rw[←hW1.o]
 clear hW1
 go_upto_region 8 with fail
 clear y0 y1
 refine tkB (fun X=>Below W1.heap.size W1 X) (belDr W1) (fun HS2=>?_)
 generalize W1.drew=X0 at HS2 ⊢
 refine θ ?_
 refine tkD ?_
 have HS2:=η HS2
 clear z1 zb hlk
 go_wp2
 go_ret
 have S2:=S.o.bel HS2.o
 exact⟨rfl,S2.t,S2.c⟩
theorem lev_any {wb mb:Nat} {ts:List Tk} (t:Nd) (cs:List Value) (w:À) (hw:Wr wb mb ts w) (hn:NdR w (im (wOwn wb w) w) cs t):Calls prog 203 #[.pointer (some ⟨wb,0,none⟩),.agg cs.toArray] w (LvSaid wb mb ts (levW t) w):=by
 have hn2:=hn
 obtain⟨k0,s,n,p,a,A,cap,rfl,rfl,_⟩:=nd_form hn
 by_cases c37:k0=37
 · subst c37;exact lev_37 hw hn2
 by_cases c36:k0=36
 · subst c36;exact lev_36 hw hn2
 by_cases c38:k0=38
 · subst c38;exact lev_38 hw hn2
 by_cases c41:k0=41
 · subst c41;exact lev_41 hw hn2
 by_cases c35:k0=35
 · subst c35;exact lev_35 s n p a A cap w hw hn2
 by_cases c34:k0=34
 · subst c34;exact lev_34 hw hn2
 by_cases c33:k0=33
 · subst c33;exact lev_33 hw hn2
 by_cases c32:k0=32
 · subst c32;exact lev_32 hw hn2
 by_cases c30:k0=30
 · subst c30;exact lev_30 hw hn2
 by_cases c31:k0=31
 · subst c31;exact lev_31 hw hn2
 have e:levW (.mk k0 s n p a)=10:=by unfold levW;simp[ndK, *]
 rw[e]
 exact lev_o (beq_eq_false_iff_ne.2 c37) (beq_eq_false_iff_ne.2 c36) (beq_eq_false_iff_ne.2 c38) (beq_eq_false_iff_ne.2 c41) (beq_eq_false_iff_ne.2 c35) (beq_eq_false_iff_ne.2 c34) (beq_eq_false_iff_ne.2 c33) (beq_eq_false_iff_ne.2 c32) (beq_eq_false_iff_ne.2 c30) (beq_eq_false_iff_ne.2 c31) hw hn2
def WfO (F:FuncId) (K:Int) (s:Ê) (n p:Int) (a:List Nd) (lv:Nat) (out:List Tk):Prop:=∀⦃wb mb:Nat⦄ ⦃ts:List Tk⦄ ⦃A:Option Addr⦄ ⦃cap:Nat⦄ ⦃w:À⦄,Wr wb mb ts w→NdR w (im (wOwn wb w) w) (cl K s n p A a.length cap) (.mk K s n p a)→ts.length+out.length≤wTop→Calls prog F #[.pointer (some ⟨wb,0,none⟩),.agg (cl K s n p A a.length cap).toArray,.int .i64 (lv:Int)] w (WrSaid wb mb (ts++out) w)
theorem w_opd1 (H:AllW k) {lv:Nat} (hx:shp k .exp (Nd.mk K s n p a)=true) (hc:decide (levW (Nd.mk K s n p a)<lv)=true) (hc2:decide ((levW (Nd.mk K s n p a):Int)<(lv:Int))=true):WfO 162 K s n p a lv (grpT (tok k) (Nd.mk K s n p a)):=UU
theorem w_opd0 (H:AllW k) {lv:Nat} (hx:shp k .exp (Nd.mk K s n p a)=true) (hc:decide (levW (Nd.mk K s n p a)<lv)=false) (hc2:decide ((levW (Nd.mk K s n p a):Int)<(lv:Int))=false):WfO 162 K s n p a lv (tok k .exp (Nd.mk K s n p a)):=UU
theorem opd_said (H:AllW k):OpSaid k:=fun wb mb ts cs t lv w hw hn hx hl hz=>by
 have hn2:=hn
 obtain⟨k0,s,n,p,a,A,cap,rfl,rfl,_⟩:=nd_form hn
 by_cases hc:levW (.mk k0 s n p a)<lv
 · have e:opdT (tok k) (.mk k0 s n p a) lv=grpT (tok k) (.mk k0 s n p a):=by unfold opdT;rw[if_pos hc]
   rw[e] at hz ⊢
   exact w_opd1 H hx (decide_eq_true hc) ((lenlt _ _).trans (decide_eq_true hc)) hw hn2 hz
 · have e:opdT (tok k) (.mk k0 s n p a) lv=tok k .exp (.mk k0 s n p a):=by unfold opdT;rw[if_neg hc]
   rw[e] at hz ⊢
   exact w_opd0 H hx (decide_eq_false hc) ((lenlt _ _).trans (decide_eq_false hc)) hw hn2 hz
theorem opdz (H:AllW k) (lv:Nat) {z:Int} (h:(lv:Int)=z) (wb mb:Nat) (ts:List Tk) (cs:List Value) (t:Nd) (w:À) (hw:Wr wb mb ts w) (hn:NdR w (im (wOwn wb w) w) cs t) (hx:shp k .exp t=true) (hl:lv≤100) (hz:ts.length+(opdT (tok k) t lv).length≤wTop):Calls prog 162 #[.pointer (some ⟨wb,0,none⟩),.agg cs.toArray,.int .i64 z] w (WrSaid wb mb (ts++opdT (tok k) t lv) w):=by
 subst h
 exact opd_said H wb mb ts cs t lv w hw hn hx hl hz
structure WT (wb mb:Nat) (av:Value) (a:List Nd) (ts:List Tk) (w X:À):Prop where
 t:Wr wb mb ts X
 c:WrC wb w X
 a:NdsR X (im (wOwn wb X) X) av a
theorem WT.step {wb mb:Nat} {av:Value} {a:List Nd} {ts ts':List Tk} {w X X':À} (h:WT wb mb av a ts w X) (ht:Wr wb mb ts' X') (hc:WrC wb X X'):WT wb mb av a ts' w X':=⟨ht,h.c.trans hc,NdsR.to h.a hc.sub⟩
theorem w_fun {k:Nat} (H:AllW k) {wb mb:Nat} {ts:List Tk} (a:List Nd) (A:Option Addr) (cap:Nat) (w:À) (hw:Wr wb mb ts w) (hn:NdsR w (im (wOwn wb w) w) (.slice A a.length cap) a) (him:a.length-1<a.length) (hlast:shp k .exp a[a.length-1]=true)(h2:2≤a.length) (hi2:a.length-1-1<a.length) (htyp:shp k .typ a[a.length-1-1]=true) (hal:(a.take (a.length-1-1)).all (shp k .fld)=true) (hz:ts.length+((wdT (str [40])::(joinT ((a.take (a.length-1-1)).map (tok k .fld))++[wdT (str [41])]))++([wT [58]]++(tok k .typ (a[a.length-1-1]'hi2)++([wT [61]]++(tok k .exp (a[a.length-1]'him)))))).length≤wTop):Calls prog 72 #[.pointer (some ⟨wb,0,none⟩),.slice A a.length cap] w (WrSaid wb mb (ts++((wdT (str [40])::(joinT ((a.take (a.length-1-1)).map (tok k .fld))++[wdT (str [41])]))++([wT [58]]++(tok k .typ (a[a.length-1-1]'hi2)++([wT [61]]++(tok k .exp (a[a.length-1]'him))))))) w):=by
 have lm:a.length≤9223372036854775807:=hn.len.2
 have lc:a.length≤cap:=hn.cap
 obtain⟨HH,HZ,HN,HK_m,HM⟩:=zd5 H hz hn hlast him
 have jm0:(0:Int)≤(a.length:Int)-1:=by omega
 have jm1:(a.length:Int)-1<(a.length:Int):=by omega
 obtain⟨HK_t,HAL⟩:=zd2 htyp hal
 have HLEN:Hid ((a.take (a.length-1-1)).length=a.length-1-1):=by show _=_;rw[List.length_take];omega
 have jt0:(0:Int)≤(a.length:Int)-1-1:=by omega
 have jt1:(a.length:Int)-1-1<(a.length:Int):=by omega
 obtain⟨b,off,rfl⟩:=NdsR.some hn ω
 have S:Hid (WT wb mb (.slice (some ⟨b,off,none⟩) a.length cap) a ts w w):=⟨hw,WrC.refl _ _,hn⟩
 clear hw hn hz
 go_in
 go_wp2_with fail
 refine (list_at (str [40]) (str [41]) (a.take (a.length-1-1)) _ _ _ HLEN.o S.o.t ⟨by decide,by decide⟩ ⟨by decide,by decide⟩ (NdsR.upto S.o.a (a.length-1-1) ω) (each_of HH.o .fld rfl HAL.o wb mb _) (by have h:=HZ.o;simp at h ⊢;omega)).mono ?_
 rintro _ X1 ⟨rfl,hT,hC⟩
 replace S:=η (S.o.step hT hC)
 clear hT hC
 go_wp2_with fail
 refine (words_call [str [58]] S.o.t (by intro x hx;simp only[List.mem_cons,List.not_mem_nil,or_false] at hx;subst hx;first|exact HS0.o|exact HK0.o|exact⟨by decide,by decide⟩) (by have h:=HZ.o;simp at h ⊢;omega)).mono ?_
 rintro _ X2 ⟨rfl,hT,hC⟩
 replace S:=η (S.o.step hT hC)
 clear hT hC
 obtain⟨k1,s1,m1,p1,D1,l1,c1,hr1,e0,e1,e2,e3,e4⟩:=kid_at S.o.a (i:=a.length-1-1) hi2
 have KR:=η hr1
 clear hr1
 go_wp2_with fail
 refine (HH.o .typ rfl wb mb _ (cl k1 s1 m1 p1 D1 l1 c1) _ _ S.o.t KR.o HK_t.o (by have h:=HZ.o;simp at h ⊢;omega)).mono ?_
 rintro _ X3 ⟨rfl,hT,hC⟩
 replace S:=η (S.o.step hT hC)
 clear hT hC e0 e1 e2 e3 e4
 go_wp2_with fail
 refine (words_call [str [61]] S.o.t (by intro x hx;simp only[List.mem_cons,List.not_mem_nil,or_false] at hx;subst hx;first|exact HS0.o|exact HK0.o|exact⟨by decide,by decide⟩) (by have h:=HZ.o;simp at h ⊢;omega)).mono ?_
 rintro _ X4 ⟨rfl,hT,hC⟩
 replace S:=η (S.o.step hT hC)
 clear hT hC
 obtain⟨k1,s1,m1,p1,D1,l1,c1,hr1,e0,e1,e2,e3,e4⟩:=kid_at S.o.a (i:=a.length-1) him
 have KR:=η hr1
 clear hr1
 go_wp2_with fail
 refine (HH.o .exp rfl wb mb _ (cl k1 s1 m1 p1 D1 l1 c1) _ _ S.o.t KR.o HK_m.o (by have h:=HZ.o;simp at h ⊢;omega)).mono ?_
 rintro _ X5 ⟨rfl,hT,hC⟩
 replace S:=η (S.o.step hT hC)
 clear hT hC e0 e1 e2 e3 e4
 go_wp2_with fail
 first|go_end0|refine bodyPost_ret (results_none rfl _ _ _) rfl ?_
 exact⟨rfl,by have h:=S.o.t;(try simp only[List.append_assoc,List.cons_append,List.nil_append,List.map_cons,List.map_nil] at h);(try simp only[List.append_assoc,List.cons_append,List.nil_append,List.map_cons,List.map_nil]);exact h,S.o.c⟩
theorem fn_said {k:Nat} (H:AllW k) (K:Int) (s:Ê) (n p:Int) (a:List Nd) (A:Option Addr) (cap:Nat) {wb mb:Nat} {ts:List Tk} {w:À} (hw:Wr wb mb ts w) (ha:NdsR w (im (wOwn wb w) w) (.slice A a.length cap) a) (hf:endB (shp k) a .fld [.typ,.exp]=true) (hz:ts.length+(funT (tok k) (.mk K s n p a)).length≤wTop) :
 Calls prog 72 #[.pointer (some ⟨wb,0,none⟩),.slice A a.length cap] w (WrSaid wb mb (ts++funT (tok k) (.mk K s n p a)) w):=by
 obtain⟨h1,h2,h3,h4,h5,h6⟩:=end2 hf
 have e:funT (tok k) (.mk K s n p a)=(wdT (str [40])::(joinT ((a.take (a.length-1-1)).map (tok k .fld))++[wdT (str [41])]))++([wT [58]]++(tok k .typ (a[a.length-1-1]'h3)++([wT [61]]++(tok k .exp (a[a.length-1]'h4))))):=by
  unfold funT lastN
  rw[show (ndL (.mk K s n p a))=a from rfl,kid_get (K:=K) (n:=n) (p:=p) (s:=s) (a:=a) (i:=a.length-2) ω,kid_get (K:=K) (n:=n) (p:=p) (s:=s) (a:=a) (i:=a.length-1) h4]
  rfl
 rw[e] at hz ⊢
 exact w_fun H a A cap w hw ha h4 h6 h1 h3 h5 h2 hz
theorem w_pri20:Wf 164 20 s n p a ([inT (n)]):=UU
theorem w_pri22t (hv:(n==1)=true):Wf 164 22 s n p a ([wT [116,114,117,101]]):=UU
theorem w_pri22f (hv:(n==1)=false):Wf 164 22 s n p a ([wT [102,97,108,115,101]]):=UU
theorem w_pri23:Wf 164 23 s n p a ([wT [40],wT [41]]):=UU
theorem w_pri25:Wf 164 25 s n p a ([wT [115,101,108,102]]):=UU
theorem w_pri24 (hs0:0<s.size)  : Wf 164 24 s n p a ([wdT s]):=UU
theorem w_pri26 (H:AllW k) (hal:a.all (shp k .exp)=true)  : Wf 164 26 s n p a ((wdT (str [91])::(joinT ((a).map (tok k .exp))++[wdT (str [93])]))):=UU
theorem w_pri27 (H:AllW k) (hs0:0<s.size) (hal:a.all (shp k .set)=true)  : Wf 164 27 s n p a ([wdT s]++((wdT (str [123])::(joinT ((a).map (tok k .set))++[wdT (str [125])])))):=UU
theorem w_pri29 (H:AllW k) (hs0:0<s.size) (hi:0<a.length) (hal:a.all (shp k .exp)=true)  : Wf 164 29 s n p a ([wdT s]++((wdT (str [40])::(joinT ((a).map (tok k .exp))++[wdT (str [41])])))):=UU
theorem w_pri29z (hs0:0<s.size) (hi:¬0<a.length):Wf 164 29 s n p a ([wdT s]):=UU
theorem w_exp37 (H:AllW k) (hs0:0<s.size) (hi0:0<a.length) (h0:shp k .exp a[0]=true) (hi1:1<a.length) (h1:shp k .exp a[1]=true)  : Wf 115 37 s n p a ([wT [108,101,116],wdT s,wT [61]]++(tok k .exp (a[0]'hi0)++([wT [105,110]]++(tok k .exp (a[1]'hi1))))):=UU
theorem w_exp36 (H:AllW k) (hi0:0<a.length) (h0:shp k .exp a[0]=true) (hi1:1<a.length) (h1:shp k .exp a[1]=true) (hi2:2<a.length) (h2:shp k .exp a[2]=true)  : Wf 115 36 s n p a ([wT [105,102]]++(tok k .exp (a[0]'hi0)++([wT [116,104,101,110]]++(tok k .exp (a[1]'hi1)++([wT [101,108,115,101]]++(tok k .exp (a[2]'hi2))))))):=UU
theorem w_exp38 (H:AllW k) (hi0:0<a.length) (h0:shp k .exp a[0]=true) (hal:(a.drop 1).all (shp k .arm)=true)  : Wf 115 38 s n p a ([wT [109,97,116,99,104]]++(grpT (tok k) (a[0]'hi0)++((wdT (str [123])::(joinT ((a.drop 1).map (tok k .arm))++[wdT (str [125])]))))):=UU
theorem w_exp34 (H:AllW k) (hi0:0<a.length) (h0:shp k .exp a[0]=true)  : Wf 115 34 s n p a ([wT [110,111,116]]++(opdT (tok k) (a[0]'hi0) 3)):=UU
theorem w_exp33 (H:AllW k) (hi0:0<a.length) (h0:shp k .exp a[0]=true)  : Wf 115 33 s n p a ([wT [45]]++(opdT (tok k) (a[0]'hi0) 8)):=UU
theorem w_arm (H:AllW k) (hs0:0<s.size) (him:a.length-1<a.length) (hlast:shp k .exp a[a.length-1]=true) (hi0:0<a.length) (hpa:(a.take (a.length-1)).all (fun x=>decide (0<(ndS x).size))=true)  : Wf 160 K s n p a (patT (Nd.mk K s n p a)++([wT [61,62]]++(tok k .exp (a[a.length-1]'him)))):=UU
theorem w_stm50 (H:AllW k) (hs0:0<s.size) (hi0:0<a.length) (h0:shp k .exp a[0]=true)  : Wf 165 50 s n p a ([wT [108,101,116],wdT s,wT [61]]++(tok k .exp (a[0]'hi0))):=UU
theorem w_stm51 (H:AllW k) (hs0:0<s.size) (hi0:0<a.length) (h0:shp k .exp a[0]=true)  : Wf 165 51 s n p a ([wdT s,wT [61]]++(tok k .exp (a[0]'hi0))):=UU
theorem w_stm52a (H:AllW k) (hi0:0<a.length) (h0:shp k .exp a[0]=true) (hi1:1<a.length) (h1:shp k .blk a[1]=true) (hle:¬2<a.length):Wf 165 52 s n p a ([wT [105,102]]++(grpT (tok k) (a[0]'hi0)++(tok k .blk (a[1]'hi1)))):=UU
theorem w_stm52b (H:AllW k) (hi0:0<a.length) (h0:shp k .exp a[0]=true) (hi1:1<a.length) (h1:shp k .blk a[1]=true) (hi2:2<a.length) (h2:shp k .blk a[2]=true)  : Wf 165 52 s n p a ([wT [105,102]]++(grpT (tok k) (a[0]'hi0)++(tok k .blk (a[1]'hi1)++([wT [101,108,115,101]]++(tok k .blk (a[2]'hi2)))))):=UU
theorem w_stm55 (H:AllW k) (hs0:0<s.size) (hi0:0<a.length) (h0:shp k .exp a[0]=true) (hi1:1<a.length) (h1:shp k .blk a[1]=true)  : Wf 165 55 s n p a ([wT [102,111,114],wdT s,wT [105,110]]++(grpT (tok k) (a[0]'hi0)++(tok k .blk (a[1]'hi1)))):=UU
theorem w_stm57 (H:AllW k) (hi0:0<a.length) (h0:shp k .exp a[0]=true) (hi1:1<a.length) (h1:shp k .snd a[1]=true)  : Wf 165 57 s n p a ([wT [97,102,116,101,114]]++(tok k .exp (a[0]'hi0)++(tok k .snd (a[1]'hi1)))):=UU
theorem w_stm60:Wf 165 60 s n p a ([wT [115,116,111,112]]):=UU
theorem w_stm61 (H:AllW k) (hi0:0<a.length) (h0:shp k .exp a[0]=true)  : Wf 165 61 s n p a ([wT [102,97,105,108]]++(tok k .exp (a[0]'hi0))):=UU
theorem w_stm56 (HF:NoSaid 204 Pp (sndT (tok k))) (hp:Pp (.mk 56 s n p a)):Wf 165 56 s n p a (sndT (tok k) (Nd.mk 56 s n p a)):=UU
theorem w_stm58 (HF:NoSaid 205 Pp (spwT (tok k))) (hp:Pp (.mk 58 s n p a)):Wf 165 58 s n p a (spwT (tok k) (Nd.mk 58 s n p a)):=UU
theorem w_exp35 (HF:NoSaid 161 Pp (binT (tok k))) (hp:Pp (.mk 35 s n p a)):Wf 115 35 s n p a (binT (tok k) (Nd.mk 35 s n p a)):=UU
theorem w_exp32 (HF:NoSaid 163 Pp (posT (tok k))) (hp:Pp (.mk 32 s n p a)):Wf 115 32 s n p a (posT (tok k) (Nd.mk 32 s n p a)):=UU
theorem w_exp30 (HF:NoSaid 163 Pp (posT (tok k))) (hp:Pp (.mk 30 s n p a)):Wf 115 30 s n p a (posT (tok k) (Nd.mk 30 s n p a)):=UU
theorem w_exp31 (HF:NoSaid 163 Pp (posT (tok k))) (hp:Pp (.mk 31 s n p a)):Wf 115 31 s n p a (posT (tok k) (Nd.mk 31 s n p a)):=UU
theorem w_exp20 (HF:NoSaid 164 Pp (priT (tok k))) (hp:Pp (.mk 20 s n p a)):Wf 115 20 s n p a (priT (tok k) (Nd.mk 20 s n p a)):=UU
theorem w_exp21 (HF:NoSaid 164 Pp (priT (tok k))) (hp:Pp (.mk 21 s n p a)):Wf 115 21 s n p a (priT (tok k) (Nd.mk 21 s n p a)):=UU
theorem w_exp22 (HF:NoSaid 164 Pp (priT (tok k))) (hp:Pp (.mk 22 s n p a)):Wf 115 22 s n p a (priT (tok k) (Nd.mk 22 s n p a)):=UU
theorem w_exp23 (HF:NoSaid 164 Pp (priT (tok k))) (hp:Pp (.mk 23 s n p a)):Wf 115 23 s n p a (priT (tok k) (Nd.mk 23 s n p a)):=UU
theorem w_exp24 (HF:NoSaid 164 Pp (priT (tok k))) (hp:Pp (.mk 24 s n p a)):Wf 115 24 s n p a (priT (tok k) (Nd.mk 24 s n p a)):=UU
theorem w_exp25 (HF:NoSaid 164 Pp (priT (tok k))) (hp:Pp (.mk 25 s n p a)):Wf 115 25 s n p a (priT (tok k) (Nd.mk 25 s n p a)):=UU
theorem w_exp26 (HF:NoSaid 164 Pp (priT (tok k))) (hp:Pp (.mk 26 s n p a)):Wf 115 26 s n p a (priT (tok k) (Nd.mk 26 s n p a)):=UU
theorem w_exp27 (HF:NoSaid 164 Pp (priT (tok k))) (hp:Pp (.mk 27 s n p a)):Wf 115 27 s n p a (priT (tok k) (Nd.mk 27 s n p a)):=UU
theorem w_exp29 (HF:NoSaid 164 Pp (priT (tok k))) (hp:Pp (.mk 29 s n p a)):Wf 115 29 s n p a (priT (tok k) (Nd.mk 29 s n p a)):=UU
theorem w_spwN0 (H:AllW k) (hs0:0<s.size) (hi0:0<a.length) (hx0:0<(ndS a[0]).size) (hl2:1≤a.length-0) (hc:((ndS a[0]).toList==[95])=false) (hal:((a.take (a.length-0)).drop 1).all (shp k .exp)=true):Wf 205 58 s 0 p a ([wT [108,101,116],wdT (ndS (a[0]'hi0)),wT [61]]++([wT [115,112,97,119,110],wdT s]++((wdT (str [40])::(joinT (((a.take (a.length-0)).drop 1).map (tok k .exp))++[wdT (str [41])]))))):=UU
theorem w_spwU0 (H:AllW k) (hs0:0<s.size) (hi0:0<a.length) (hx0:0<(ndS a[0]).size) (hl2:1≤a.length-0) (hc:((ndS a[0]).toList==[95])=true) (hal:((a.take (a.length-0)).drop 1).all (shp k .exp)=true):Wf 205 58 s 0 p a ([wT [115,112,97,119,110],wdT s]++((wdT (str [40])::(joinT (((a.take (a.length-0)).drop 1).map (tok k .exp))++[wdT (str [41])])))):=UU
theorem w_spwN1 (H:AllW k) (hs0:0<s.size) (hi0:0<a.length) (hx0:0<(ndS a[0]).size) (hl2:1≤a.length-1) (hc:((ndS a[0]).toList==[95])=false) (hal:((a.take (a.length-1)).drop 1).all (shp k .exp)=true) (him:a.length-1<a.length) (hlast:shp k .exp a[a.length-1]=true)  : Wf 205 58 s 1 p a ([wT [108,101,116],wdT (ndS (a[0]'hi0)),wT [61]]++([wT [115,112,97,119,110],wdT s]++((wdT (str [40])::(joinT (((a.take (a.length-1)).drop 1).map (tok k .exp))++[wdT (str [41])]))++([wT [111,110]]++(tok k .exp (a[a.length-1]'him)))))):=UU
theorem w_spwU1 (H:AllW k) (hs0:0<s.size) (hi0:0<a.length) (hx0:0<(ndS a[0]).size) (hl2:1≤a.length-1) (hc:((ndS a[0]).toList==[95])=true) (hal:((a.take (a.length-1)).drop 1).all (shp k .exp)=true) (him:a.length-1<a.length) (hlast:shp k .exp a[a.length-1]=true)  : Wf 205 58 s 1 p a ([wT [115,112,97,119,110],wdT s]++((wdT (str [40])::(joinT (((a.take (a.length-1)).drop 1).map (tok k .exp))++[wdT (str [41])]))++([wT [111,110]]++(tok k .exp (a[a.length-1]'him))))):=UU
theorem w_stm59 (H:AllW k) (hs0:0<s.size) (him:a.length-1<a.length) (hx1:0<(ndS a[a.length-1]).size) (hal:(a.take (a.length-1)).all (shp k .exp)=true)  : Wf 165 59 s n p a ([wT [100,111],wdT s]++((wdT (str [40])::(joinT ((a.take (a.length-1)).map (tok k .exp))++[wdT (str [41])]))++([wT [116,104,101,110],wdT (ndS (a[a.length-1]'him))]))):=UU
theorem w_cnv70a (H:AllW k) (hs0:0<s.size) (him:a.length-1<a.length) (hlast:shp k .exp a[a.length-1]=true) (hl2:0≤a.length-1) (hal:((a.take (a.length-1)).drop 0).all (shp k .fld)=true):Wf 75 70 s 0 p a ([wT [99,111,110,118,101,114,116]]++([wT [116,121,112,101],wdT s]++((wdT (str [40])::(joinT (((a.take (a.length-1)).drop 0).map (tok k .fld))++[wdT (str [41])]))++([wT [61]]++(tok k .exp (a[a.length-1]'him)))))):=UU
theorem w_cnv70b (H:AllW k) (hs0:0<s.size) (hi0:0<a.length) (hx0:0<(ndS a[0]).size) (him:a.length-1<a.length) (hlast:shp k .exp a[a.length-1]=true) (hl2:1≤a.length-1) (hal:((a.take (a.length-1)).drop 1).all (shp k .fld)=true):Wf 75 70 s 1 p a ([wT [99,111,110,118,101,114,116]]++([wT [116,121,112,101],wdT s]++([wT [46],wdT (ndS (a[0]'hi0))]++((wdT (str [40])::(joinT (((a.take (a.length-1)).drop 1).map (tok k .fld))++[wdT (str [41])]))++([wT [61]]++(tok k .exp (a[a.length-1]'him))))))):=UU
theorem w_exp41 (H:AllW k) (hgk:endB (shp k) a .fld [.typ,.exp]=true):Wf 115 41 s n p a ([wT [102,117,110]]++(funT (tok k) (Nd.mk 41 s n p a))):=UU
theorem w_dcl5 (H:AllW k) (hs0:0<s.size) (hfk:endB (shp k) a .fld [.typ,.exp]=true):Wf 33 5 s n p a ([wT [102,117,110],wdT s]++(funT (tok k) (Nd.mk 5 s n p a))):=UU
theorem w_dcl2 (H:AllW k) (hs0:0<s.size) (hal:a.all (shp k .fld)=true)  : Wf 33 2 s n p a ([wT [114,101,99,111,114,100],wdT s]++((wdT (str [123])::(joinT ((a).map (tok k .fld))++[wdT (str [125])])))):=UU
theorem w_dcl3 (H:AllW k) (hs0:0<s.size) (hal:a.all (shp k .ctor)=true)  : Wf 33 3 s n p a ([wT [118,97,114,105,97,110,116],wdT s]++((wdT (str [123])::(joinT ((a).map (tok k .ctor))++[wdT (str [125])])))):=UU
theorem w_dcl4 (H:AllW k) (hs0:0<s.size) (him:a.length-1<a.length) (hlast:shp k .typ a[a.length-1]=true) (hal:(a.take (a.length-1)).all (shp k .fld)=true)  : Wf 33 4 s n p a ([wT [101,102,102,101,99,116],wdT s]++((wdT (str [40])::(joinT ((a.take (a.length-1)).map (tok k .fld))++[wdT (str [41])]))++([wT [58]]++(tok k .typ (a[a.length-1]'him))))):=UU
theorem w_dcl73 (hs0:0<s.size)  : Wf 33 73 s n p a ([wT [109,111,118,101],wdT s,wT [116,111]]++([inT (n)])):=UU
theorem w_dcl74 (hs0:0<s.size)  : Wf 33 74 s n p a ([wT [100,114,111,112],wdT s]):=UU
theorem w_dcl6 (HF:NoSaid 73 Pp (actT (tok k))) (hp:Pp (.mk 6 s n p a)):Wf 33 6 s n p a (actT (tok k) (Nd.mk 6 s n p a)):=UU
theorem w_dcl70 (HF:NoSaid 75 Pp (cnvT (tok k))) (hp:Pp (.mk 70 s n p a)):Wf 33 70 s n p a (cnvT (tok k) (Nd.mk 70 s n p a)):=UU
theorem w_dcl71 (HF:NoSaid 75 Pp (cnvT (tok k))) (hp:Pp (.mk 71 s n p a)):Wf 33 71 s n p a (cnvT (tok k) (Nd.mk 71 s n p a)):=UU
theorem w_dcl72 (HF:NoSaid 75 Pp (cnvT (tok k))) (hp:Pp (.mk 72 s n p a)):Wf 33 72 s n p a (cnvT (tok k) (Nd.mk 72 s n p a)):=UU
theorem UP {P:Prop} (h:P:=by
 intro wb mb ts A cap w hw hn hz
 have lm:a.length≤9223372036854775807:=(nd_kids hn).len.2
 have lc:a.length≤cap:=(nd_kids hn).cap
 have hs:=nd_sz hn
 obtain⟨HZ,HN⟩:=zd2 hz hn
 (try have HS0:=η (And.intro hs0 hs))
 (try (have NK0:=nk H h0 rfl;unfold NkS Sh.wn at NK0;replace NK0:=η NK0));(try have j0:(0:Int)<(a.length:Int):=by omega)
 (try (have NK1:=nk H h1 rfl;unfold NkS Sh.wn at NK1;replace NK1:=η NK1));(try have j1:(1:Int)<(a.length:Int):=by omega)
 (try (have NK2:=nk H h2 rfl;unfold NkS Sh.wn at NK2;replace NK2:=η NK2));(try have j2:(2:Int)<(a.length:Int):=by omega)
 (try (have NKm:=nk H hlast rfl;unfold NkS Sh.wn at NKm;replace NKm:=η NKm))
 (try (have NKx:=nk H hx rfl;unfold NkS Sh.wn at NKx;replace NKx:=η NKx))
 (try have jm0:(0:Int)≤(a.length:Int)-1:=by omega);(try have jm1:(a.length:Int)-1<(a.length:Int):=by omega)
 (try (have EA:=eaK H hal rfl;unfold Sh.wn at EA;replace EA:=η EA))
 (try have HLT:Hid ((a.take (a.length-1)).length=a.length-1):=η (by rw[List.length_take];omega))
 (try have hsl:∀(A:Option Addr) (W:À),(Instr.slice 22 (.slice A a.length cap) (some (.int .i64 1)) none none).run prog W=.ok (.slice (fromA A cap 1 5) (a.length-1) (cap-1)) W:=fun A W=>run_from22 W A _ _ 1 ω)
 (try have HM01:Hid (((a.take (a.length-0)).drop 1).length=a.length-1):=η (by rw[List.length_drop,List.length_take];omega))
 (try have hs01:∀(A:Option Addr) (W:À),(Instr.slice 22 (.slice A a.length cap) (some (.int .i64 1)) (some (.int .i64 ((a.length:Int)))) none).run prog W=.ok (.slice (fromA A cap 1 5) (a.length-0-1) (cap-1)) W:=fun A W=>(by have h:=run_mid22 W A a.length cap 1 (a.length-0) ω ω lc;simpa[show ((a.length-0:Nat):Int)=(a.length:Int) by omega] using h))
 (try have HM11:Hid (((a.take (a.length-1)).drop 1).length=a.length-1-1):=η (by rw[List.length_drop,List.length_take];omega))
 (try have hs11:∀(A:Option Addr) (W:À),(Instr.slice 22 (.slice A a.length cap) (some (.int .i64 1)) (some (.int .i64 ((a.length:Int)-1))) none).run prog W=.ok (.slice (fromA A cap 1 5) (a.length-1-1) (cap-1)) W:=fun A W=>(by have h:=run_mid22 W A a.length cap 1 (a.length-1) ω ω lc;simpa[show ((a.length-1:Nat):Int)=(a.length:Int)-1 by omega] using h))
 (try have HM10:Hid (((a.take (a.length-1)).drop 0).length=a.length-1):=η (by rw[List.length_drop,List.length_take];omega))
 (try have hs10:∀(A:Option Addr) (W:À),(Instr.slice 22 (.slice A a.length cap) (some (.int .i64 0)) (some (.int .i64 ((a.length:Int)-1))) none).run prog W=.ok (.slice (fromA A cap 0 5) (a.length-1-0) (cap-0)) W:=fun A W=>(by have h:=run_mid22 W A a.length cap 0 (a.length-1) ω ω lc;simpa[show ((a.length-1:Nat):Int)=(a.length:Int)-1 by omega] using h))
 (try (have hp0:0<a.length:=ω;have hq0:=NdsR.some (nd_kids hn) hp0;clear hp0;obtain⟨b,off,rfl⟩:=hq0))
 obtain⟨W1,hW1,S⟩:=ws0 hw hn
 clear hw hn hz
 go_in
 go_upto_region 1 with fail
 rw[←hW1.o]
 clear hW1
 obtain⟨y0,y1,y2,y3,y4⟩:=cf5 S.o.y
 have hh:=kid_at S.o.a (i:=0) hi0
 obtain⟨k1,s1,m1,p1,D1,l1,c1,hr1,e0,e1,e2,e3,e4⟩:=hh
 simp only[Nat.zero_mul,Nat.add_zero,Nat.reduceMul] at e0 e1 e2 e3 e4
 obtain⟨W2,hW2,B2,X2,z0,z1,z2,z3,z4⟩:=nb5 W1 k1 s1 m1 p1 D1 l1 c1
 have KRb:=η (hr1.to (WrC.bel B2.o S.o.t.lt).sub)
 replace S:=η (S.o.bel B2.o)
 have HKL:=kid_kl hr1
 (try have v1:(k1==29)=true:=(by rw[HKL.1];exact beq_iff_eq.2 hc.1))
 (try have v1:(k1==29)=false:=(by rw[HKL.1];exact beq_eq_false_iff_ne.2 hc.1))
 (try have v2:((l1:Int)==0)=true:=(by have h1:=HKL.2;have h2:=hc.2;exact beq_iff_eq.2 ω))
 (try have v2:((l1:Int)==0)=false:=(by have h1:=HKL.2;have h2:=hc.2;exact beq_eq_false_iff_ne.2 ω))
 (try clear hc)
 clear HKL
 go_upto_region 2 with fail
 rw[←hW2.o]
 clear hW2 B2 e0 e1 e2 e3 e4 y0 y1 y2 y3 y4 hr1
 repeat (obtain⟨y0,y1,y2,y3,y4⟩:=cf5 S.o.y;(try (have hh:=kid_at S.o.a (i:=0) hi0;obtain⟨kk,sk,mk,pk,Dk,lk,ck,hr1,e0,e1,e2,e3,e4⟩:=hh;have hks:=kid_ks hr1;subst hks;have KR0:=η hr1;clear hr1;(try simp only[Nat.zero_mul,Nat.add_zero,Nat.reduceMul] at e0 e1 e2 e3 e4)));(try (have hh:=kid_at S.o.a (i:=1) hi1;obtain⟨kk,sk,mk,pk,Dk,lk,ck,hr1,f0,f1,f2,f3,f4⟩:=hh;have hks:=kid_ks hr1;subst hks;have KR1:=η hr1;clear hr1;(try simp only[Nat.zero_mul,Nat.add_zero,Nat.reduceMul] at f0 f1 f2 f3 f4);have qf1:=f1;have qf2:=f2;have qf3:=f3;have qf4:=f4;(try simp only[Nat.add_assoc,Nat.reduceAdd] at qf1 qf2 qf3 qf4)));(try (have hh:=kid_at S.o.a (i:=2) hi2;obtain⟨kk,sk,mk,pk,Dk,lk,ck,hr1,g0,g1,g2,g3,g4⟩:=hh;have hks:=kid_ks hr1;subst hks;have KR2:=η hr1;clear hr1;(try simp only[Nat.zero_mul,Nat.add_zero,Nat.reduceMul] at g0 g1 g2 g3 g4);have qg1:=g1;have qg2:=g2;have qg3:=g3;have qg4:=g4;(try simp only[Nat.add_assoc,Nat.reduceAdd] at qg1 qg2 qg3 qg4)));(try (have hh:=kid_at S.o.a (i:=a.length-1) him;obtain⟨kk,sk,mk,pk,Dk,lk,ck,hr1,i0,i1,i2,i3,i4⟩:=hh;have hks:=kid_ks hr1;subst hks;have KRm:=η hr1;clear hr1));(try have HX0:=η (And.intro hx0 (nd_sz KR0.o)));(try have HX1:=η (And.intro hx1 (nd_sz KRm.o)));go_wp2_with fail;(first|((with_reducible refine (wc1 S.o.t ?_ ?_).mono ?_);exact Zw;exact Zb)|((with_reducible refine (wc2 S.o.t ?_ ?_ ?_).mono ?_);exact Zw;exact Zw;exact Zb)|((with_reducible refine (wc3 S.o.t ?_ ?_ ?_ ?_).mono ?_);exact Zw;exact Zw;exact Zw;exact Zb)|((with_reducible refine (opdz H 9 ?_ wb mb _ _ _ _ S.o.t KRb.o h0 ?_ ?_).mono ?_);exact rfl;decide;exact Zb)|((with_reducible refine (grp_said H wb mb _ _ _ _ S.o.t KRb.o h0 ?_).mono ?_);exact Zb)|((with_reducible refine (list_at _ _ (a.drop 1) _ _ _ List.length_drop S.o.t ?_ ?_ (NdsR.from S.o.a 1 ?_) (EA.o wb mb _) ?_).mono ?_);exact Zw;exact Zw;omega;exact Zb));rintro _ X ⟨rfl,hT,hC⟩;replace S:=η (S.o.step hT hC);clear hT hC y0 y1 y2 y3 y4;(try clear e0 e1 e2 e3 e4 KR0);(try clear f0 f1 f2 f3 f4 qf1 qf2 qf3 qf4 KR1);(try clear g0 g1 g2 g3 g4 qg1 qg2 qg3 qg4 KR2);(try clear i0 i1 i2 i3 i4 KRm))
 obtain⟨y0,y1,y2,y3,y4⟩:=cf5 S.o.y
 go_wp2_with fail
 first|go_end0|refine bodyPost_ret (results_none rfl _ _ _) rfl ?_
 exact⟨rfl,(by have h:=S.o.t;(try simp only[List.append_assoc,List.cons_append,List.nil_append,List.map_cons,List.map_nil] at h);(try simp only[List.append_assoc,List.cons_append,List.nil_append,List.map_cons,List.map_nil]);exact h),S.o.c⟩):P:=h
theorem w_pos31 (H:AllW k) (hi0:0<a.length) (h0:shp k .exp a[0]=true) (hal:(a.drop 1).all (shp k .set)=true)  : Wf 163 31 s n p a (opdT (tok k) (a[0]'hi0) 9++([wT [119,105,116,104]]++((wdT (str [123])::(joinT ((a.drop 1).map (tok k .set))++[wdT (str [125])]))))):=UP
theorem w_pos32a (H:AllW k) (hi0:0<a.length) (h0:shp k .exp a[0]=true) (hal:(a.drop 1).all (shp k .exp)=true) (hc:ndK a[0]=29∧(ndL a[0]).length=0):Wf 163 32 s n p a (grpT (tok k) (a[0]'hi0)++((wdT (str [40])::(joinT ((a.drop 1).map (tok k .exp))++[wdT (str [41])])))):=UP
theorem w_pos32b (H:AllW k) (hi0:0<a.length) (h0:shp k .exp a[0]=true) (hal:(a.drop 1).all (shp k .exp)=true) (hc:ndK a[0]≠29∧True):Wf 163 32 s n p a (opdT (tok k) (a[0]'hi0) 9++((wdT (str [40])::(joinT ((a.drop 1).map (tok k .exp))++[wdT (str [41])])))):=UP
theorem w_pos32c (H:AllW k) (hi0:0<a.length) (h0:shp k .exp a[0]=true) (hal:(a.drop 1).all (shp k .exp)=true) (hc:ndK a[0]=29∧(ndL a[0]).length≠0):Wf 163 32 s n p a (opdT (tok k) (a[0]'hi0) 9++((wdT (str [40])::(joinT ((a.drop 1).map (tok k .exp))++[wdT (str [41])])))):=UP
theorem w_pos30 (H:AllW k) (hs0:0<s.size) (hi0:0<a.length) (h0:shp k .exp a[0]=true)  : Wf 163 30 s n p a (opdT (tok k) (a[0]'hi0) 9++([wT [46],wdT s])):=UP
end
end
end Go.Proofs.YtbjdcogmiggamaaGreatDoor
