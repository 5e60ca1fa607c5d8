import Derived.Test.YtbjdcogmiggamaaGreatDoorB42
set_option linter.all false
namespace Go.Proofs.YtbjdcogmiggamaaGreatDoor
set_option maxRecDepth 100000
set_option maxHeartbeats 8000000
section
open Proofs.Tryz RowKit Maps WideMaps ChangeMaps
abbrev cN (A:Option Addr) (l cap:Nat):List Value:=cl 1 e0 0 0 A l cap
theorem small_any (w:À) (ht:Tab w):Calls prog 10 #[] w (EqSaid true w):=by
 have HT:=η ht
 clear ht
 go_in
 go_wp2_with fail
 refine (p1 w).mono ?_
 rintro _ X1 ⟨A1,c1,rfl,hb1,n1⟩
 obtain⟨Y1,hY1⟩:∃q,Hid (q=X1.alloc (.cells (cN A1 2 c1).toArray 24)):=⟨_,η rfl⟩
 have by1:Below X1.heap.size X1 Y1:=by rw[hY1.o];exact belA (belR _) _
 have HB1:=η (bel hb1 by1)
 have H1:Hid (Hs Y1 X1.heap.size 24 (cN A1 2 c1).toArray):=by rw[hY1.o];exact η (Hs.new _ _ _)
 have N1:=η (NdR.to n1 (sub_lo by1))
 obtain⟨b1,hq1⟩:∃b,b=X1.heap.size:=⟨_,rfl⟩
 rw[←hq1] at H1
 clear hb1 n1 by1
 go_upto_region 2 with fail
 rw[←hY1.o,←hq1]
 clear hY1 hq1
 go_wp2_with fail
 refine (p2 Y1).mono ?_
 rintro _ X2 ⟨rfl,hb2⟩
 obtain⟨Y2,hY2⟩:∃q,Hid (q=X2.alloc (.cells zero5 24)):=⟨_,η rfl⟩
 have by2:Below Y1.heap.size Y1 Y2:=by rw[hY2.o];exact bel hb2 (belA (belR _) _)
 replace HB1:=η (bel HB1.o by2)
 replace H1:=η (hs_bel H1.o by2)
 replace N1:=η (NdR.to N1.o (sub_lo by2))
 clear hb2 by2
 go_upto_region 3 with fail
 rw[←hY2.o]
 clear hY2
 go_wp2_with fail
 refine (p3 Y2).mono ?_
 rintro _ X3 ⟨A3,c3,rfl,hb3,n3⟩
 obtain⟨Y3,hY3⟩:∃q,Hid (q=X3.alloc (.cells (cN A3 3 c3).toArray 24)):=⟨_,η rfl⟩
 have by3:Below X3.heap.size X3 Y3:=by rw[hY3.o];exact belA (belR _) _
 have H3:Hid (Hs Y3 X3.heap.size 24 (cN A3 3 c3).toArray):=by rw[hY3.o];exact η (Hs.new _ _ _)
 have N3:=η (NdR.to n3 (sub_lo by3))
 replace HB1:=η (bel HB1.o (bel hb3 by3))
 replace H1:=η (hs_bel H1.o (bel hb3 by3))
 replace N1:=η (NdR.to N1.o (sub_lo (bel hb3 by3)))
 obtain⟨b3,hq3⟩:∃b,b=X3.heap.size:=⟨_,rfl⟩
 rw[←hq3] at H3
 clear hb3 n3 by3
 go_upto_region 4 with fail
 rw[←hY3.o,←hq3]
 clear hY3 hq3
 go_wp2_with fail
 refine (p4 Y3).mono ?_
 rintro _ X4 ⟨rfl,hb4⟩
 obtain⟨Y4,hY4⟩:∃q,Hid (q=X4.alloc (.cells zero5 24)):=⟨_,η rfl⟩
 have by4:Below Y3.heap.size Y3 Y4:=by rw[hY4.o];exact bel hb4 (belA (belR _) _)
 replace HB1:=η (bel HB1.o by4)
 replace H1:=η (hs_bel H1.o by4)
 replace N1:=η (NdR.to N1.o (sub_lo by4))
 replace H3:=η (hs_bel H3.o by4)
 replace N3:=η (NdR.to N3.o (sub_lo by4))
 clear hb4 by4
 go_upto_region 5 with fail
 rw[←hY4.o]
 clear hY4
 obtain⟨g1,o1,g3,o3,gF,oF,cF,gB,oB,cB,AM,cM,AC,lC,cC,AD,lD,cD,rfl,rfl,hm,hB,hk⟩:=sm_of H1.o N1.o H3.o N3.o
 obtain⟨M,NB,NK⟩:=zd3 hm hB hk
 obtain⟨f0,f1,f2,f3,f4,f5,f6,f7,f8,f9,f10,f11,f12,f13,f14,f15,f16,f17,f18,f19,f20,f21,f22,f23,f24,f25,f26,f27,f28,f29,f30,f31,f32,f33,f34⟩:=hm
 clear hB hk
 obtain⟨Y5,hY5⟩:∃q,Hid (q=Y4.alloc (.cells (cl 35 (str [43]) 0 21 (some ⟨gB,oB,none⟩) 2 cB).toArray 24)):=⟨_,η rfl⟩
 have by5:Below Y4.heap.size Y4 Y5:=by rw[hY5.o];exact belA (belR _) _
 have H5:Hid (Hs Y5 Y4.heap.size 24 (cl 35 (str [43]) 0 21 (some ⟨gB,oB,none⟩) 2 cB).toArray):=by rw[hY5.o];exact η (Hs.new _ _ _)
 go_upto_region 8 with fail
 rw[←hY5.o]
 obtain⟨b5,hq5⟩:∃b,b=Y4.heap.size:=⟨_,rfl⟩
 rw[←hq5] at H5 ⊢
 replace HB1:=η (bel HB1.o by5)
 replace N1:=η (NdR.to N1.o (sub_lo by5))
 replace N3:=η (NdR.to N3.o (sub_lo by5))
 replace NB:=η (NdR.to NB.o (sub_lo by5))
 replace NK:=η (NdsR.to NK.o (sub_lo by5))
 replace M:=η (M.out.bel by5)
 clear f0 f1 f2 f3 f4 f5 f6 f7 f8 f9 f10 f11 f12 f13 f14 f15 f16 f17 f18 f19 f20 f21 f22 f23 f24 f25 f26 f27 f28 f29 f30 f31 f32 f33 f34 by5 hY5 hq5 H1 H3
 have hm:=M.out
 obtain⟨f0,f1,f2,f3,f4,f5,f6,f7,f8,f9,f10,f11,f12,f13,f14,f15,f16,f17,f18,f19,f20,f21,f22,f23,f24,f25,f26,f27,f28,f29,f30,f31,f32,f33,f34⟩:=hm
 obtain⟨x0,x1,x2,x3,x4⟩:=cf5 H5.o
 have s1:((str [43]).toList==[43])=true:=by rw[str_eq];rfl
 have s2:((str [42]).toList==[42])=true:=by rw[str_eq];rfl
 go_wp2_with fail
 refine (saidEq (tright_any T1 _ Y5 N1.o) right1).mono ?_
 rintro _ W6 ⟨rfl,kW6⟩
 replace HB1:=η (bel HB1.o kW6)
 replace N1:=η (NdR.to N1.o (sub_lo kW6))
 replace N3:=η (NdR.to N3.o (sub_lo kW6))
 replace NB:=η (NdR.to NB.o (sub_lo kW6))
 replace NK:=η (NdsR.to NK.o (sub_lo kW6))
 replace M:=η (M.out.bel kW6)
 replace H5:=η (hs_bel H5.o kW6)
 clear f0 f1 f2 f3 f4 f5 f6 f7 f8 f9 f10 f11 f12 f13 f14 f15 f16 f17 f18 f19 f20 f21 f22 f23 f24 f25 f26 f27 f28 f29 f30 f31 f32 f33 f34 x0 x1 x2 x3 x4 kW6
 have hm:=M.out
 obtain⟨f0,f1,f2,f3,f4,f5,f6,f7,f8,f9,_,_,_,_,_,_,_,_,_,_,_,_,_,_,_,_,_,_,_,_,_,_,_,_,_⟩:=hm
 obtain⟨x0,x1,x2,x3,x4⟩:=cf5 H5.o
 go_wp2_with fail
 refine (saidEq (tright_any T3 _ W6 N3.o) right3).mono ?_
 rintro _ W7 ⟨rfl,kW7⟩
 replace HB1:=η (bel HB1.o kW7)
 replace N1:=η (NdR.to N1.o (sub_lo kW7))
 replace N3:=η (NdR.to N3.o (sub_lo kW7))
 replace NB:=η (NdR.to NB.o (sub_lo kW7))
 replace NK:=η (NdsR.to NK.o (sub_lo kW7))
 replace M:=η (M.out.bel kW7)
 replace H5:=η (hs_bel H5.o kW7)
 clear f0 f1 f2 f3 f4 f5 f6 f7 f8 f9 x0 x1 x2 x3 x4 kW7
 have hm:=M.out
 obtain⟨f0,f1,f2,f3,f4,f5,f6,f7,f8,f9,_,_,_,_,_,_,_,_,_,_,_,_,_,_,_,_,_,_,_,_,_,_,_,_,_⟩:=hm
 obtain⟨x0,x1,x2,x3,x4⟩:=cf5 H5.o
 go_wp2_with fail
 refine (saidEq (tright_any TB _ W7 NB.o) rightB0).mono ?_
 rintro _ W8 ⟨rfl,kW8⟩
 replace HB1:=η (bel HB1.o kW8)
 replace N1:=η (NdR.to N1.o (sub_lo kW8))
 replace N3:=η (NdR.to N3.o (sub_lo kW8))
 replace NB:=η (NdR.to NB.o (sub_lo kW8))
 replace NK:=η (NdsR.to NK.o (sub_lo kW8))
 replace M:=η (M.out.bel kW8)
 replace H5:=η (hs_bel H5.o kW8)
 clear f0 f1 f2 f3 f4 f5 f6 f7 f8 f9 x0 x1 x2 x3 x4 kW8
 have hm:=M.out
 obtain⟨f0,f1,f2,f3,f4,f5,f6,f7,f8,f9,_,_,_,_,_,_,_,_,_,_,_,_,_,_,_,_,_,_,_,_,_,_,_,_,_⟩:=hm
 obtain⟨x0,x1,x2,x3,x4⟩:=cf5 H5.o
 have hsl:∀X:À,(Instr.slice 22 (.slice (some ⟨g1,o1,none⟩) 2 c1) none (some (.int .i64 ((1:Nat):Int))) none).run prog X=.ok (.slice (some ⟨g1,o1,none⟩) 1 c1) X:=fun X=>run_upto22 X _ _ _ _ π NK.o.cap
 have hsl2:∀X:À,(Instr.slice 22 (.slice (some ⟨g1,o1,none⟩) 2 c1) none (some (.int .i64 1)) none).run prog X=.ok (.slice (some ⟨g1,o1,none⟩) 1 c1) X:=hsl
 have nW:NdR W8 (lo W8) (cl 1 e0 0 0 (some ⟨g1,o1,none⟩) 1 c1) TW:=NdR.of ⟨by unfold i64;decide,by unfold i64;decide,by unfold i64;decide⟩ π (NdsR.upto NK.o 1 π)
 have so:((⟨qo.toArray⟩:Ê).toList==qo)=true:=by rw[str_eq];rfl
 go_wp2_with fail
 refine (swrite_any TW _ W8 nW (by show tksW.length≤_;rw[lenW];decide) szW (HT.o.keep HB1.o) (by show (wTks tksW).length+_≤_;rw[wlenW];decide)).mono ?_
 rintro _ W9 ⟨e9,k9⟩
 rw[show writeL (toksP TW)=qo from writeW] at e9
 subst e9
 clear x0 x1 x2 x3 x4 hsl hsl2 nW H5 NB NK
 replace HB1:=η (bel HB1.o k9)
 replace N1:=η (NdR.to N1.o (sub_lo k9))
 replace N3:=η (NdR.to N3.o (sub_lo k9))
 replace M:=η (M.out.bel k9)
 clear f0 f1 f2 f3 f4 f5 f6 f7 f8 f9 k9
 have hm:=M.out
 obtain⟨f0,f1,f2,f3,f4,f5,f6,f7,f8,f9,_,_,_,_,_,_,_,_,_,_,_,_,_,_,_,_,_,_,_,_,_,_,_,_,_⟩:=hm
 go_wp2_with fail
 refine (saidEq (same_any (SizeOf.sizeOf T1+1) T1 T1 _ _ W9 (Nat.lt_succ_self _) N1.o N1.o) same11).mono ?_
 rintro _ Wa ⟨rfl,ka⟩
 replace HB1:=η (bel HB1.o ka)
 replace N1:=η (NdR.to N1.o (sub_lo ka))
 replace N3:=η (NdR.to N3.o (sub_lo ka))
 replace M:=η (M.out.bel ka)
 clear f0 f1 f2 f3 f4 f5 f6 f7 f8 f9 ka
 have hm:=M.out
 obtain⟨f0,f1,f2,f3,f4,f5,f6,f7,f8,f9,_,_,_,_,_,_,_,_,_,_,_,_,_,_,_,_,_,_,_,_,_,_,_,_,_⟩:=hm
 go_wp2_with fail
 refine (saidEq (same_any (SizeOf.sizeOf T1+1) T1 T3 _ _ Wa (Nat.lt_succ_self _) N1.o N3.o) same13).mono ?_
 rintro _ Wb ⟨rfl,kb⟩
 replace HB1:=η (bel HB1.o kb)
 go_wp2
 go_ret
 exact⟨rfl,HB1.o⟩
end
section
open Proofs.Tryz RowKit Maps WideMaps ChangeMaps
theorem runP_errs {b:Bool} {l:List UInt8} {x p:Int} (h:runP b l=.err x p):x≠0:=by
 cases hs:scanP l with
 | err y q=>rw[run_err hs] at h;injection h with h1 h2;rw[←h1];exact scanP_errs hs
 | ok ts =>
  rw[run_ok hs] at h
  cases hp:progP (l.length:Int) b (20*ts.length+1) (ts.length+1) ts with
  | out=>exact absurd hp prog_in
  | bad r=>rw[hp] at h;injection h with h1 h2;rw[←h1];decide
  | ok q r =>
   rw[hp] at h
   cases hd:deepP 0 (.mk 1 e0 0 0 q) with
   | some p=>rw[fin_deep hd] at h;injection h with h1 h2;rw[←h1];decide
   | none=>rw[fin_ok hd] at h;cases h
def RunU (w:À) (R:RunR) (e:Ending) (w':À):Prop:=
 ∃k s n p D l c a x q,e=.returned (.tuple #[.agg (cl k s n p D l c).toArray,.int .i64 x,.int .i64 q])∧Below w.heap.size w w'∧NdR w' (lo w') (cl k s n p D l c) a∧((R=.err x q∧x≠0∧a=.mk 0 e0 0 0 [])∨(R=.ok a∧x=0))
theorem run_uni {b:Bool} {f:FuncId} {s:Ê} {w:À} (h:Calls prog f #[.string s] w (RunV w (runP b s.data.toList))):Calls prog f #[.string s] w (RunU w (runP b s.data.toList)):=by
 refine h.mono fun e w' h=>?_
 cases hR:runP b s.data.toList with
 | err x p =>
  rw[hR] at h
  obtain⟨he,hb⟩:=h
  exact⟨0,e0,0,0,none,0,0,.mk 0 e0 0 0 [],x,p,he,hb,NdR.of ⟨by unfold i64;decide,by unfold i64;decide,by unfold i64;decide⟩ π SlR.nil,.inl ⟨rfl,runP_errs hR,rfl⟩⟩
 | ok n =>
  rw[hR] at h
  obtain⟨k,s,m,p,D,l,c,he,hb,hn⟩:=h
  exact⟨k,s,m,p,D,l,c,n,0,0,he,hb,hn.to fun b hb=>⟨hb.2,rfl⟩,.inr ⟨rfl,rfl⟩⟩
theorem scan_num {N:Nat}:∀(n:Nat) (l:List UInt8) (ts:List Tk),scanL N n l=.ok ts→ts.length≤l.length
 | 0,l,ts,h=>by rw[scanL] at h;cases h
 | n+1,l,ts,h=>by
  rcases scan_inv h with ⟨_,rfl⟩|⟨c,r,t,q,us,h0,ht,hq,rfl⟩
  · exact Nat.zero_le _
  · have h1:=skip_le false l
    rw[h0] at h1
    have h2:=tok_less ht
    have:=scan_num n q us hq
    simp only[List.length_cons] at h2 h1 ⊢;omega
end
section
open Proofs.Tryz RowKit
open Go.RowKit Go.Maps Go.WideMaps Go.ChangeMaps
class Bz (α:Type) where
 b:α→Nat
instance:Bz Nd:=⟨fun x=>wN x+300⟩
instance:Bz (List Nd):=⟨wL⟩
instance:Bz Ê:=⟨fun s=>1000*s.size⟩
instance:Bz Unit:=⟨fun _=>0⟩
instance:Bz Int:=⟨fun _=>0⟩
theorem bz_N (x:Nd):Bz.b x=wN x+300:=rfl
theorem bz_L (x:List Nd):Bz.b x=wL x:=rfl
theorem bz_S (x:Ê):Bz.b x=1000*x.size:=rfl
theorem bz_U (x:Unit):Bz.b x=0:=rfl
theorem bz_I (x:Int):Bz.b x=0:=rfl
theorem wN_k (k:Int) (s:Ê) (n p:Int) (a:List Nd):wN (.mk k s n p a)=700+1000*s.size+wL a:=rfl
theorem e0_z:e0.size=0:=rfl
theorem wN_add (l:List Nd) (a:Nd):wN (addK l a)=wN a+wL l:=by
 obtain⟨k,s,n,p,q⟩:=a
 show wN (.mk k s n p (q++l))=_
 rw[wN_k,wN_k,wL_a];omega
def lt:List Tk→Nat
 | []=>0
 | t::r=>4000+1000*t.text.size+lt r
section
variable {α β:Type} [Bz α] [Bz β]
def Ba (ts:List Tk) (c:Nat) (m:M α) (g:Nat):Prop:=∀a r,m ts=.ok a r→Bz.b a+g+lt r≤lt ts+c
def Bd (c:Nat) (m:M α) (g:Nat):Prop:=∀ts,Ba ts c m g
variable {c g:Nat} {w:List UInt8}
theorem Bd.wk {c' g':Nat} {m:M α} (h:Bd c m g) (k:c+g'≤c'+g):Bd c' m g':=fun ts a r e=>by have:=h ts a r e;omega
theorem Bd.ret {a:α} (k:Bz.b a+g≤c):Bd c (pure a:M α) g:=fun ts b r e=>by
 have e:Re.ok a ts=Re.ok b r:=e
 injection e with e1 e2
 rw[←e1,←e2];omega
theorem Bd.bd {g':Nat} {m:M β} {f:β→M α} (h:Bd 0 m g') (k:∀b,Bd (c+Bz.b b+g') (f b) g):Bd c (m >>= f) g:=fun ts a r e=>by
 have e:Re.bd (m ts) f=Re.ok a r:=e
 cases hm:m ts with
 | out=>rw[hm] at e;cases e
 | bad q=>rw[hm] at e;cases e
 | ok b q =>
  rw[hm] at e
  have h1:=h ts b q hm
  have h2:=k b q a r e
  omega
theorem Bd.o:Bd c (outP:M α) g:=fun ts a r e=>by cases e
theorem lt_tail {ts:List Tk} (h:ts≠[]):lt ts=4000+1000*(tx ts).size+lt ts.tail:=by
 cases ts with
 | nil=>exact absurd rfl h
 | cons t r=>rfl
theorem wl_neB {ts:List Tk} (hw:w≠[]) (h:(wl ts==w)=true):ts≠[]:=fun e=>by
 subst e
 exact hw (beq_iff_eq.1 h).symm
theorem Ba.acc {ts:List Tk} {y n:M α} {z:UInt8} (h:Bd (c+4000) y g) (k:Ba ts c n g):Ba ts c (acc (z::w) y n) g:=fun a r e=>by
 unfold Go.Proofs.YtbjdcogmiggamaaGreatDoor.acc at e
 split at e
 · rename_i q
   have h1:=lt_tail (wl_neB (List.cons_ne_nil _ _) q)
   have h2:=h _ a r e
   omega
 · exact k a r e
theorem Bd.acc {y n:M α} {z:UInt8} (h:Bd (c+4000) y g) (k:Bd c n g):Bd c (acc (z::w) y n) g:=fun ts=>Ba.acc h (k ts)
theorem Bd.exp {z:UInt8}:Bd 0 (expect (z::w)) 4000:=fun ts a r e=>by
 unfold expect at e
 split at e
 · rename_i q
   injection e with _ e2
   rw[←e2]
   have h1:=lt_tail (wl_neB (List.cons_ne_nil _ _) q)
   rw[bz_U];omega
 · cases e
theorem wrd_le (ts:List Tk):(wrd ts).size≤(tx ts).size:=by
 unfold wrd
 split
 · exact Nat.le_refl _
 · exact Nat.zero_le _
class Pz (p:List UInt8→Bool):Prop where
 h:p []=false
instance:Pz lowB:=⟨rfl⟩
instance:Pz uppB:=⟨rfl⟩
instance:Pz bndB:=⟨rfl⟩
instance:Pz patB:=⟨rfl⟩
instance:Pz typB:=⟨rfl⟩
instance:Pz msgB:=⟨rfl⟩
theorem Bd.name {p:List UInt8→Bool} [hp:Pz p]:Bd 0 (name p) 4000:=fun ts a r e=>by
 unfold Go.Proofs.YtbjdcogmiggamaaGreatDoor.name at e
 split at e
 · rename_i q
   injection e with e1 e2
   rw[←e1,←e2]
   have h1:=lt_tail (ts:=ts) fun e=>by
    subst e
    have:p []=true:=q
    rw[hp.h] at this;cases this
   have:=wrd_le ts
   rw[bz_S];omega
 · cases e
theorem kd_neB {ts:List Tk} {k:Int} (h:kd ts=k) (hk:k≠0):ts≠[]:=fun e=>by subst e;exact hk h.symm
theorem Bd.int:Bd 0 intP 4000:=fun ts a r e=>by
 unfold intP at e
 split at e
 · rename_i q
   injection e with e1 e2
   rw[←e2]
   have:=lt_tail (kd_neB q π)
   rw[bz_I];omega
 · cases e
theorem Bd.look {f:List Tk→M α} (h:∀t0,Ba t0 c (f t0) g):Bd c (look f) g:=fun ts a r e=>h ts a r e
theorem Ba.next {ts:List Tk} {m:M α} (h:Bd (c+4000+1000*(tx ts).size) m g):Ba ts c (nextP m) g:=fun a r e=>by
 cases ts with
 | nil=>cases e
 | cons t q =>
  have:=h q a r e
  have e1:lt (t::q)=4000+1000*t.text.size+lt q:=rfl
  have e2:(tx (t::q)).size=t.text.size:=rfl
  omega
theorem Ba.ite {ts:List Tk} {p:Prop} [Decidable p] {a b:M α} (h:Ba ts c a g) (k:Ba ts c b g):Ba ts c (if p then a else b) g:=by
 by_cases q:p
 · rw[if_pos q];exact h
 · rw[if_neg q];exact k
theorem Bd.ite {p:Prop} [Decidable p] {a b:M α} (h:Bd c a g) (k:Bd c b g):Bd c (if p then a else b) g:=fun ts=>Ba.ite (h ts) (k ts)
end
theorem Bd.r {α:Type} [Bz α] {c g:Nat} {a:α} (k:Bz.b a+g≤c:=by simp only[bz_N,bz_L,bz_S,bz_U,bz_I,wN_k,wN_add,wL_a,wL_c,wL_n,e0_z];omega):Bd c (pure a:M α) g:=Bd.ret k
theorem Ba.r {α:Type} [Bz α] {ts:List Tk} {c g:Nat} {a:α} (k:Bz.b a+g≤c:=by simp only[bz_N,bz_L,bz_S,bz_U,bz_I,wN_k,wN_add,wL_a,wL_c,wL_n,e0_z];omega):Ba ts c (pure a:M α) g:=Bd.ret k ts
theorem Bd.w {α:Type} [Bz α] {c c' g:Nat} {m:M α} (h:Bd c m g) (k:c+0≤c'+g:=by simp only[bz_N,bz_L,bz_S,bz_U,bz_I,wN_k,wN_add,wL_a,wL_c,wL_n,e0_z];omega):Bd c' m 0:=h.wk k
section
variable {m:M Nd} (h:Bd 0 m 0) {w:List UInt8}
include h
theorem Bd.tail:∀n:Nat,Bd 0 (tailP m n) 0
 | 0=>Bd.o
 | n+1=>Bd.acc (h.bd fun a=>(Bd.tail n).bd fun l=>Bd.r) Bd.r
theorem Bd.items {z:UInt8} (n:Nat):Bd 0 (itemsP (z::w) m n) 4000:=h.bd fun a=>(Bd.tail h n).bd fun l=>Bd.exp.bd fun _=>Bd.r
theorem Bd.list {z:UInt8} (n:Nat):Bd 0 (listP (z::w) m n) 4000:=Bd.acc Bd.r (Bd.items h n)
theorem Bd.until {z:UInt8}:∀n:Nat,Bd 0 (untilP (z::w) m n) 4000
 | 0=>Bd.o
 | n+1=>Bd.acc Bd.r (h.bd fun a=>(Bd.until n).bd fun l=>Bd.r)
end
section
variable (e:Int)
theorem typ_bd:∀n:Nat,Bd 0 (typP e n) 0
 | 0=>Bd.o
 | n+1=>by
  have I:=typ_bd n
  unfold typP
  exact Bd.look fun t0=>(Bd.acc (I.bd fun x=>Bd.exp.bd fun _=>Bd.r) (Bd.acc (Bd.name.bd fun s=>Bd.r) (Bd.acc (Bd.exp.bd fun _=>(Bd.list I n).bd fun l=>Bd.exp.bd fun _=>I.bd fun x=>Bd.r) (Bd.name.bd fun s=>Bd.r)))) t0
theorem fld_bd (n:Nat):Bd 0 (fieldP e n) 0:=Bd.look fun t0=>(Bd.name.bd fun s=>Bd.exp.bd fun _=>(typ_bd e n).bd fun x=>Bd.r) t0
theorem flds_bd (n:Nat):Bd 0 (fieldsP e n) 0:=Bd.exp.bd fun _=>(Bd.list (fld_bd e n) n).w
theorem bnd_bd:Bd 0 (bindP e) 0:=Bd.look fun t0=>(Bd.name.bd fun s=>Bd.r) t0
theorem pat_bd (k:Int) (n:Nat):Bd 0 (patP e k n) 0:=Bd.look fun t0=>(Bd.name.bd fun s=>Bd.ite Bd.r (Bd.acc ((Bd.items (bnd_bd e) n).bd fun l=>Bd.r) Bd.r)) t0
theorem ctor_bd (n:Nat):Bd 0 (ctorP e n) 0:=Bd.look fun t0=>(Bd.name.bd fun s=>Bd.acc ((Bd.items (typ_bd e n) n).bd fun l=>Bd.r) Bd.r) t0
section
variable {m:M Nd} (h:Bd 0 m 0)
include h
theorem bin_bd (lv:Nat) (p:Int):∀(n:Nat) (a:Nd),Bd (Bz.b a) (binP lv m p n a) 0
 | 0,_=>Bd.o
 | n+1,a=>by
  unfold binP
  exact Bd.look fun t0=>Ba.ite (Ba.next (h.bd fun b=>Bd.ite (Bd.ret (by have:=wrd_le t0;simp only[bz_N,wN_k,wL_c,wL_n];omega)) ((bin_bd lv p n _).wk (by have:=wrd_le t0;simp only[bz_N,wN_k,wL_c,wL_n];omega)))) Ba.r
theorem args_bd (n:Nat):Bd 0 (argsP m n) 4000:=Bd.exp.bd fun _=>(Bd.list h n).wk ω
theorem set_bd:Bd 0 (setP e m) 0:=Bd.look fun t0=>(Bd.name.bd fun s=>Bd.exp.bd fun _=>h.bd fun x=>Bd.r) t0
theorem arm_bd (n:Nat):Bd 0 (armP e m n) 0:=(pat_bd e 39 n).bd fun a=>Bd.exp.bd fun _=>h.bd fun x=>Bd.r
theorem tails_bd (p:Int):∀(n:Nat) (a:Nd),Bd (Bz.b a) (tailsP e m p n a) 0
 | 0,_=>Bd.o
 | n+1,a=>by
  unfold tailsP
  exact Bd.look fun t0=>(Bd.ite ((args_bd h n).bd fun l=>(tails_bd p n _).w) (Bd.acc (Bd.name.bd fun s=>(tails_bd p n _).w) (Bd.acc (Bd.exp.bd fun _=>(Bd.items (set_bd e h) n).bd fun l=>(tails_bd p n _).w) Bd.r))) t0
theorem fun_bd (n:Nat):Bd 0 (functionP e m n) 4000:=(flds_bd e n).bd fun l=>Bd.exp.bd fun _=>(typ_bd e n).bd fun t=>Bd.exp.bd fun _=>h.bd fun x=>Bd.r
theorem cons_bd (n:Nat) (s:Ê) (p:Int):Bd (1000+1000*s.size) (consP m n s p) 0:=Bd.acc ((Bd.items h n).bd fun l=>Bd.r) Bd.r
theorem prim_bd (n:Nat) (hh:Bool):Bd 0 (primP e m n hh) 0:=Bd.look fun t0=>Ba.ite (Ba.next (Bd.ret (by show 700+1000*e0.size+0+300+0≤_;rw[e0_z];omega))) (Ba.ite (Ba.next Bd.r) (Ba.acc Bd.r (Ba.acc Bd.r (Ba.acc Bd.r (Ba.acc ((Bd.list h n).bd fun l=>Bd.r) (Ba.acc (Bd.acc Bd.r (h.bd fun a=>Bd.exp.bd fun _=>Bd.r)) (Ba.ite (Ba.next (Bd.ret (by have:=wrd_le t0;simp only[bz_N,wN_k,wL_n];omega))) ((Bd.name.bd fun s=>Bd.ite (cons_bd h n s _).w (Bd.acc ((Bd.list (set_bd e h) n).bd fun l=>Bd.r) (cons_bd h n s _).w)) t0))))))))
end
theorem expr_bd:∀n:Nat,(∀h,Bd 0 (exprP e n h) 0)∧∀h lv,Bd 0 (operP e n h lv) 0
 | 0=>⟨fun h=>by unfold exprP;exact Bd.o,fun h lv=>by unfold operP;exact Bd.o⟩
 | n+1=>by
  obtain⟨E,O⟩:=expr_bd n
  constructor
  · intro h
    unfold exprP
    exact Bd.look fun t0=>(Bd.acc (Bd.name.bd fun s=>Bd.exp.bd fun _=>(E h).bd fun a=>Bd.exp.bd fun _=>(E h).bd fun b=>Bd.r) (Bd.acc ((E h).bd fun a=>Bd.exp.bd fun _=>(E h).bd fun b=>Bd.exp.bd fun _=>(E h).bd fun c=>Bd.r) (Bd.acc ((E true).bd fun a=>Bd.exp.bd fun _=>(Bd.items (arm_bd e (E false) n) n).bd fun l=>Bd.r) (Bd.acc ((fun_bd e (E h) n).bd fun l=>Bd.r) (O h 1))))) t0
  · intro h lv
    unfold operP
    exact Bd.look fun t0=>(Bd.ite (Bd.acc ((O h 3).bd fun a=>Bd.r) (O h 4)) (Bd.ite (Bd.acc ((O h 8).bd fun a=>Bd.r) ((prim_bd e (E false) n h).bd fun a=>(tails_bd e (E false) _ n a).w)) ((O h (lv+1)).bd fun a=>(bin_bd (O h (lv+1)) lv _ n a).w))) t0
theorem exp_bd (n:Nat) (h:Bool):Bd 0 (exprP e n h) 0:=(expr_bd e n).1 h
theorem snd_bd (n:Nat):Bd 0 (sendP e n) 0:=Bd.look fun t0=>(Bd.exp.bd fun _=>(exp_bd e n false).bd fun a=>Bd.name.bd fun s=>(args_bd (exp_bd e n false) n).bd fun l=>Bd.r) t0
theorem spw_bd (n:Nat) (p:Int) (b:Nd) (c:Nat) (hb:Bz.b b≤c+6000):Bd c (spawnP e n p b) 0:=Bd.exp.bd fun _=>Bd.name.bd fun s=>(args_bd (exp_bd e n false) n).bd fun l=>Bd.acc ((exp_bd e n false).bd fun x=>Bd.ret (by rw[bz_N] at hb;simp only[bz_N,bz_L,bz_S,bz_U,wN_k,wL_a,wL_c,wL_n];omega)) (Bd.ret (by rw[bz_N] at hb;simp only[bz_N,bz_L,bz_S,bz_U,wN_k,wL_a,wL_c,wL_n];omega))
theorem let_bd (n:Nat):Bd 0 (letP e n) 0:=Bd.look fun t0=>(Bd.exp.bd fun _=>Bd.look fun t1=>(Bd.name.bd fun s=>Bd.exp.bd fun _=>Bd.look fun t2=>(Bd.ite (spw_bd e n _ _ _ (by simp only[bz_N,bz_S,bz_U,wN_k,wL_n];omega)) ((exp_bd e n false).bd fun x=>Bd.r)) t2) t1) t0
theorem do_bd (n:Nat):Bd 0 (doP e n) 0:=Bd.look fun t0=>(Bd.exp.bd fun _=>Bd.name.bd fun s=>(args_bd (exp_bd e n false) n).bd fun l=>Bd.exp.bd fun _=>Bd.look fun t1=>(Bd.name.bd fun u=>Bd.r) t1) t0
section
variable {m:M Nd} (h:Bd 0 m 0)
include h
theorem blk_bd (n:Nat):Bd 0 (blockP e m n) 0:=Bd.look fun t0=>(Bd.exp.bd fun _=>(Bd.until h n).bd fun l=>Bd.r) t0
theorem brn_bd (n:Nat):Bd 0 (branchP e m n) 0:=Bd.look fun t0=>(Bd.exp.bd fun _=>(exp_bd e n true).bd fun a=>(blk_bd e h n).bd fun b=>Bd.acc ((blk_bd e h n).bd fun c=>Bd.r) Bd.r) t0
theorem sarm_bd (n:Nat):Bd 0 (sarmP e m n) 0:=(pat_bd e 54 n).bd fun a=>(blk_bd e h n).bd fun b=>Bd.r
theorem cas_bd (n:Nat):Bd 0 (casesP e m n) 0:=Bd.look fun t0=>(Bd.exp.bd fun _=>(exp_bd e n true).bd fun a=>Bd.exp.bd fun _=>(sarm_bd e h n).bd fun b=>(Bd.until (sarm_bd e h n) n).bd fun l=>Bd.r) t0
end
theorem stm_bd:∀n:Nat,Bd 0 (stmtP e n) 0
 | 0=>Bd.o
 | n+1=>by
  have I:=stm_bd n
  unfold stmtP
  refine Bd.look fun t0=>Ba.ite (let_bd e n t0) (Ba.ite (spw_bd e n _ _ _ (by simp only[bz_N,wN_k,wL_n];decide) t0) (Ba.ite (brn_bd e I n t0) (Ba.ite (cas_bd e I n t0) ?_)))
  refine Ba.ite (Ba.next (Bd.name.bd fun s=>Bd.exp.bd fun _=>(exp_bd e n true).bd fun a=>(blk_bd e I n).bd fun b=>Bd.r)) (Ba.ite (snd_bd e n t0) (Ba.ite (Ba.next ((exp_bd e n false).bd fun a=>(snd_bd e n).bd fun b=>Bd.ret (by simp only[bz_N,wN_k,wL_c,wL_n,e0_z];omega))) ?_))
  exact Ba.ite (do_bd e n t0) (Ba.ite (Ba.next (Bd.ret (by simp only[bz_N,wN_k,wL_c,wL_n,e0_z];omega))) (Ba.ite (Ba.next ((exp_bd e n false).bd fun a=>Bd.ret (by simp only[bz_N,wN_k,wL_c,wL_n,e0_z];omega))) ((Bd.name.bd fun s=>Bd.exp.bd fun _=>(exp_bd e n false).bd fun a=>Bd.r) t0)))
theorem mem_bd (n:Nat):Bd 0 (memberP e n) 0:=Bd.look fun t0=>(Bd.acc (Bd.name.bd fun s=>Bd.exp.bd fun _=>(typ_bd e n).bd fun t=>Bd.exp.bd fun _=>(exp_bd e n false).bd fun x=>Bd.r) (Bd.exp.bd fun _=>Bd.name.bd fun s=>(flds_bd e n).bd fun l=>(blk_bd e (stm_bd e n) n).bd fun b=>Bd.r)) t0
theorem pol_bd:Bd 0 policyP 0:=Bd.acc Bd.r (Bd.acc (Bd.int.bd fun k=>Bd.r) Bd.r)
theorem fail_bd {α:Type} [Bz α] {c g:Nat}:Bd c (failP:M α) g:=fun ts a r h=>by cases h
theorem dcl_bd (n:Nat):Bd 0 (declP e n) 0:=by
 unfold declP
 refine Bd.look fun t0=>(?_:Bd _ _ _) t0
 refine Bd.acc (Bd.name.bd fun s=>Bd.exp.bd fun _=>(Bd.list (fld_bd e n) n).bd fun l=>Bd.r) ?_
 refine Bd.acc (Bd.name.bd fun s=>Bd.exp.bd fun _=>(Bd.items (ctor_bd e n) n).bd fun l=>Bd.r) ?_
 refine Bd.acc (Bd.name.bd fun s=>(flds_bd e n).bd fun l=>Bd.exp.bd fun _=>(typ_bd e n).bd fun t=>Bd.r) ?_
 refine Bd.acc (Bd.name.bd fun s=>(fun_bd e (exp_bd e n false) n).bd fun l=>Bd.r) ?_
 exact Bd.acc (Bd.name.bd fun s=>(flds_bd e n).bd fun l=>pol_bd.bd fun k=>Bd.exp.bd fun _=>(Bd.until (mem_bd e n) n).bd fun q=>Bd.r) fail_bd
theorem cvt_bd (p:Int) (n:Nat):Bd 0 (convTypeP e p n) 0:=Bd.name.bd fun s=>Bd.acc (Bd.look fun t1=>(Bd.name.bd fun u=>(flds_bd e n).bd fun l=>Bd.exp.bd fun _=>(exp_bd e n false).bd fun x=>Bd.r) t1) ((flds_bd e n).bd fun l=>Bd.exp.bd fun _=>(exp_bd e n false).bd fun x=>Bd.r)
theorem chg_bd (n:Nat):Bd 0 (changeP e n) 0:=by
 unfold changeP
 refine Bd.look fun t0=>(?_:Bd _ _ _) t0
 refine Bd.acc (Bd.name.bd fun s=>Bd.exp.bd fun _=>Bd.int.bd fun k=>Bd.r) ?_
 refine Bd.acc (Bd.name.bd fun s=>Bd.r) ?_
 refine Bd.exp.bd fun _=>Bd.acc (cvt_bd e _ n).w ?_
 refine Bd.acc (Bd.name.bd fun s=>(flds_bd e n).bd fun l=>Bd.exp.bd fun _=>(Bd.list (set_bd e (exp_bd e n false)) n).bd fun q=>Bd.r) ?_
 exact Bd.exp.bd fun _=>Bd.name.bd fun s=>Bd.exp.bd fun _=>Bd.look fun t1=>(Bd.name.bd fun u=>(flds_bd e n).bd fun l=>Bd.exp.bd fun _=>Bd.look fun t2=>(Bd.name.bd fun v=>(args_bd (exp_bd e n false) n).bd fun q=>Bd.r) t2) t1
theorem onB_bd (b:Bool) (n:Nat):Bd 0 (oneP e b n) 0:=Bd.look fun t0=>Ba.ite (chg_bd e n t0) (dcl_bd e n t0)
theorem prog_bd (b:Bool) (n:Nat):∀k:Nat,Bd 0 (progP e b n k) 0
 | 0=>Bd.o
 | k+1=>fun ts a r h=>by
  cases ts with
  | nil =>
   have h:Re.ok [] []=Re.ok a r:=h
   injection h with h1 h2
   rw[←h1,←h2]
   exact Nat.le_refl _
  | cons t q =>
   have H:Bd 0 (do let a ←oneP e b n;let l ←progP e b n k;pure (a::l):M (List Nd)) 0:=(onB_bd e b n).bd fun x=>(prog_bd b n k).bd fun l=>Bd.r
   exact H (t::q) a r h
end
theorem lt_len {N:Nat}:∀ts:List Tk,(∀t∈ts,t.text.size≤N)→lt ts≤ts.length*(4000+1000*N)
 | [],_=>Nat.zero_le _
 | t::r,h=>by
  have h1:=h t (List.mem_cons_self ..)
  have h2:=lt_len r fun x hx=>h x (List.mem_cons_of_mem _ hx)
  have e1:lt (t::r)=4000+1000*t.text.size+lt r:=rfl
  rw[e1,List.length_cons,Nat.add_mul]
  omega
theorem tk_size {t:Tk} (h:tokB t=true) {N:Nat} (hn:t.kind=1→t.text.size≤N):t.text.size≤N+4096:=by
 unfold tokB at h
 split at h
 · rename_i hk;have:=hn hk;omega
 · split at h
   · rename_i hk
     simp only[Bool.and_eq_true,beq_iff_eq] at h
     have e:t.text.size=t.text.data.toList.length:=by simp
     rw[e,h.1.1];exact Nat.zero_le _
   · split at h
     · simp only[Bool.and_eq_true,decide_eq_true_eq] at h
       have:=h.1;omega
     · split at h
       · rw[Bool.and_eq_true] at h
         have h1:t.text.data.toList∈markWords:=by have:=h.1;unfold markB at this;simpa using this
         have h2:∀w∈markWords,w.length≤2:=by decide
         have h3:=h2 _ h1
         have e:t.text.size=t.text.data.toList.length:=by simp
         omega
       · cases h
theorem run_wt {l:List UInt8} {m:Nd} (h:runP true l=.ok m) (hl:l.length≤3000):wL (ndL m)≤22000000000:=by
 unfold runP at h
 cases hs:scanP l with
 | err x p=>rw[hs] at h;cases h
 | ok ts =>
  have hs':=hs
  unfold scanP at hs
  rw[if_neg ω] at hs
  have hg:=scan_good _ _ _ hs
  have hn:=scan_num _ _ _ hs
  have ht:=scan_txt _ _ _ hs
  have hb:=lt_len (N:=3000+4096) ts fun t h1=>tk_size (hg t h1) fun hk=>Nat.le_trans (ht t h1 hk) hl
  rw[hs'] at h
  have h:(match progP (l.length:Int) true (20*ts.length+1) (ts.length+1) ts with
   | .out=>RunR.err 0 0
   | .bad r=>.err 2 (offP (l.length:Int) r)
   | .ok q _=>match deepP 0 (.mk 1 e0 0 0 q) with
    | some p=>.err 10 p
    | none=>.ok (.mk 1 e0 0 0 q))=.ok m:=h
  cases hp:progP (l.length:Int) true (20*ts.length+1) (ts.length+1) ts with
  | out=>rw[hp] at h;cases h
  | bad r=>rw[hp] at h;cases h
  | ok q r =>
   rw[hp] at h
   have h:(match deepP 0 (.mk 1 e0 0 0 q) with
    | some p=>RunR.err 10 p
    | none=>.ok (.mk 1 e0 0 0 q))=.ok m:=h
   have hw:=prog_bd (l.length:Int) true _ _ ts q r hp
   rw[bz_L] at hw
   cases hd:deepP 0 (.mk 1 e0 0 0 q) with
   | some p=>rw[hd] at h;cases h
   | none =>
    rw[hd] at h
    injection h with h
    rw[←h]
    show wL q≤_
    have:ts.length*(4000+1000*(3000+4096))≤3000*(4000+1000*(3000+4096)):=Nat.mul_le_mul_right _ ω
    omega
end
section
open Proofs.Tryz RowKit Maps WideMaps ChangeMaps
theorem mu_len:∀ts:List Tk,40*ts.length≤mu ts
 | []=>Nat.zero_le _
 | t::r=>by have:=mu_len r;rw[mu_c,List.length_cons];omega
theorem mu_txt:∀{ts:List Tk},∀t∈ts,t.text.size≤mu ts
 | x::r,t,h=>by
  rw[mu_c]
  rcases List.mem_cons.1 h with rfl|h
  · omega
  · have:=mu_txt t h;omega
theorem wTks_mu:∀ts:List Tk,(∀t∈ts,tokB t=true)→(wTks ts).length≤mu ts+ts.length*8195
 | [],_=>Nat.zero_le _
 | [t],h=>by
  have:=wTk_len (h t (List.mem_cons_self ..)) (N:=t.text.size) fun _=>Nat.le_refl _
  show (wTk t).length≤_
  rw[mu_c,List.length_cons];omega
 | t::u::r,h=>by
  have h1:=wTk_len (h t (List.mem_cons_self ..)) (N:=t.text.size) fun _=>Nat.le_refl _
  have h2:=wTks_mu (u::r) fun x hx=>h x (List.mem_cons_of_mem _ hx)
  rw[wTks_cc,mu_c,List.length_cons,List.length_append,List.length_append]
  show _+(1+_)≤_
  omega
theorem toks_mu (n:Nd):(∀t∈toksP n,tokB t=true)∧mu (toksP n)≤wL (ndL n):=by
 cases h:rightB n with
 | true=>exact⟨fun t ht=>((toks_gd h).1 t ht).1,(toks_gd h).2⟩
 | false =>
  have e:toksP n=[]:=by unfold toksP;rw[h];rfl
  rw[e]
  exact⟨fun t ht=>(by cases ht),Nat.zero_le _⟩
theorem write_ok {n:Nd} (h:wL (ndL n)≤22000000000):(toksP n).length≤wTop∧(∀x∈toksP n,x.text.size≤maxLen)∧(wTks (toksP n)).length+8194≤140737488355328:=by
 obtain⟨h1,h2⟩:=toks_mu n
 have h3:=mu_len (toksP n)
 have h4:=wTks_mu _ h1
 have e:wTop=1000000000:=rfl
 have e2:maxLen=9223372036854775807:=rfl
 refine⟨by omega,fun x hx=>?_,by omega⟩
 have:=mu_txt x hx
 omega
mutual
def bkN:Nd→Nat
 | .mk _ s _ _ a=>1+s.size+bkL a
def bkL:List Nd→Nat
 | []=>0
 | x::a=>bkN x+bkL a
end
mutual
theorem wN_bk:∀n:Nd,wN n+300=1000*bkN n
 | .mk k s n p a=>by rw[wN_k,bkN,Nat.mul_add,←wL_bk a];omega
theorem wL_bk:∀a:List Nd,wL a=1000*bkL a
 | []=>rfl
 | x::a=>by rw[wL_c,bkL,Nat.mul_add,←wL_bk a,←wN_bk x]
end
theorem write_arg {n:Nd} (h:bkN n≤1048576):wL (ndL n)≤22000000000:=by
 have:=wN_bk n
 rw[wN_mk] at this
 omega
end
section
open Proofs.Tryz RowKit Maps WideMaps ChangeMaps
theorem back_write (t:Nd) (cs:List Value) (w:À) (h:NdR w (lo w) cs t) (hw:wL (ndL t)≤22000000000) (ht:Tab w):Calls prog 17 #[.agg cs.toArray] w fun e w'=>e=.returned (.string ⟨(writeL (toksP t)).toArray⟩)∧Below w.heap.size w w':=by
 obtain⟨h1,h2,h3⟩:=write_ok hw
 exact swrite_any t cs w h h1 h2 ht h3
theorem back_write2 (t c:Nd) (cs:List Value) (w:À) (h:NdR w (lo w) cs c) (hw:wL (ndL t)≤22000000000) (e:toksP c=toksP t) (ht:Tab w):Calls prog 17 #[.agg cs.toArray] w fun e w'=>e=.returned (.string ⟨(writeL (toksP t)).toArray⟩)∧Below w.heap.size w w':=by
 obtain⟨h1,h2,h3⟩:=write_ok hw
 rw[←e] at h1 h2 h3 ⊢
 exact swrite_any c cs w h h1 h2 ht h3
theorem write_size {t:Nd} (hw:wL (ndL t)≤22000000000):(writeL (toksP t)).length≤9223372036854775807:=by
 obtain⟨h1,h2,h3⟩:=write_ok hw
 obtain⟨h4,_⟩:=toks_mu t
 have e:writeL (toksP t)=wTks (toksP t):=writeL_good fun j hj=>h4 _ (List.getElem_mem hj)
 rw[e];omega
theorem back_walk (t:Nd) (cs:List Value) (s:Ê) (w:À) (h:NdR w (lo w) cs t) (hc:bkN t≤1048576) (hs:s.size≤maxLen) (ht:Tab w):Calls prog 4 #[.agg cs.toArray,.string s] w (EqSaid true w):=by
 have HW:=η (write_arg hc)
 have HN:Hid (NdR w (lo w) cs t):=η h
 obtain⟨k0,s0,n0,p0,a0,A0,c0,rfl,et,_,_,_⟩:=nd_form h
 clear et hc h
 obtain⟨W1,hW1,B1,X1,-,-,-,-,-⟩:=nb5 w k0 s0 n0 p0 A0 a0.length c0
 obtain⟨HT,HS⟩:=zd2 (ht.keep B1.o) hs
 replace HN:=η (NdR.to HN.o (sub_lo B1.o))
 obtain⟨g1,hg1⟩:∃q,q=w.heap.size:=⟨_,rfl⟩
 rw[←hg1] at X1
 clear ht hs
 go_in
 go_upto_region 1 with fail
 rw[←hW1.o,←hg1]
 clear hW1 hg1
 go_wp2_with fail
 refine (small_any W1 HT.o).mono ?_
 rintro _ W2 ⟨rfl,hb⟩
 obtain⟨B2,X2⟩:=zd2 (bel B1.o hb) (hs_bel X1.o hb)
 replace HN:=η (NdR.to HN.o (sub_lo hb))
 replace HT:=η (HT.o.keep hb)
 obtain⟨x0,x1,x2,x3,x4⟩:=cf5 X2.o
 clear hb X1 B1
 cases hz:sizedP t with
 | false =>
  go_wp2_with fail
  refine (sized_any _ t W2 HN.o).mono ?_
  rw[hz]
  rintro _ W3 ⟨rfl,hb⟩
  have B3:=η (bel B2.o hb)
  clear hb
  go_wp2
  go_ret
  exact⟨rfl,B3.o⟩
 | true =>
 go_wp2_with fail
 refine (sized_any _ t W2 HN.o).mono ?_
 rw[hz]
 rintro _ W3 ⟨rfl,hb⟩
 obtain⟨B3,X3⟩:=zd2 (bel B2.o hb) (hs_bel X2.o hb)
 replace HN:=η (NdR.to HN.o (sub_lo hb))
 replace HT:=η (HT.o.keep hb)
 clear hb X2 B2 x0 x1 x2 x3 x4 hz
 obtain⟨x0,x1,x2,x3,x4⟩:=cf5 X3.o
 by_cases hl:3000<s.size
 · have u0:decide ((3000:Int)<(s.size:Int))=true:=decide_eq_true ω
   go_wp2
   go_ret
   exact⟨rfl,B3.o⟩
 have u0:decide ((3000:Int)<(s.size:Int))=false:=decide_eq_false ω
 go_wp2_with fail
 refine (back_write t _ W3 HN.o HW.o HT.o).mono ?_
 obtain⟨v,hv⟩:∃q:Ê,q=⟨(writeL (toksP t)).toArray⟩:=⟨_,rfl⟩
 rw[←hv]
 have VL:Hid (v.data.toList=writeL (toksP t)):=by show _=_;rw[hv]
 have VS:Hid (v.size≤maxLen):=by
  show v.size≤9223372036854775807
  have e:v.size=v.data.toList.length:=by simp
  rw[e,VL.o];exact write_size HW.o
 clear hv
 rintro _ W4 ⟨rfl,hb⟩
 obtain⟨B4,X4⟩:=zd2 (bel B3.o hb) (hs_bel X3.o hb)
 replace HN:=η (NdR.to HN.o (sub_lo hb))
 replace HT:=η (HT.o.keep hb)
 clear hb X3 B3 x0 x1 x2 x3 x4 u0
 go_wp2_with fail
 refine (run_uni (patch_any v W4 VS.o)).mono ?_
 rintro _ W5 ⟨k5,s5,n5,p5,A5,l5,c5,t5,x5,q5,rfl,hb,hn5,hr5⟩
 obtain⟨Y5,hY5,by5,HX5,-,-,-,-,-⟩:=nb5 W5 k5 s5 n5 p5 A5 l5 c5
 have bb:=bel hb by5.o
 obtain⟨B5,X5⟩:=zd2 (bel B4.o bb) (hs_bel X4.o bb)
 replace HN:=η (NdR.to HN.o (sub_lo bb))
 replace HT:=η (HT.o.keep bb)
 obtain⟨N5,R5⟩:=zd2 (NdR.to hn5 (sub_lo by5.o)) hr5
 obtain⟨g5,hg5⟩:∃q,q=W5.heap.size:=⟨_,rfl⟩
 rw[←hg5] at HX5
 clear hb hn5 hr5 bb by5 B4 X4
 go_upto_region 6 with fail
 rw[←hY5.o,←hg5]
 clear hY5 hg5
 go_cut [51] (fun v W=>v=.bool false∧Below Y5.heap.size Y5 W)
 case first =>
  obtain⟨x0,x1,x2,x3,x4⟩:=cf5 X5.o
  obtain⟨y0,y1,y2,y3,y4⟩:=cf5 HX5.o
  cases hr:rightB t with
  | false =>
   go_wp2_with fail
   refine (saidEq (tright_any t _ Y5 HN.o) hr).mono ?_
   rintro _ W6 ⟨rfl,hb⟩
   go_wp2
   go_meet
   exact⟨rfl,hb⟩
  | true =>
   by_cases hv:v.size≤32768
   · have u1:decide ((v.size:Int)≤32768)=true:=decide_eq_true ω
     have ALL:x5=0∧smN t5 t=true:=by
      have e:v.size=v.data.toList.length:=by simp
      rw[e,VL.o] at hv
      obtain⟨m,h1,_,h2⟩:=run_back hr hv
      rw[←VL.o] at h1
      rcases R5.o with ⟨h3,_⟩|⟨h3,h4⟩
      · rw[h1] at h3;cases h3
      · rw[h1] at h3;injection h3 with h3;subst h3;exact⟨h4,h2⟩
     obtain⟨rfl,hsm⟩:=ALL
     have SM:=η hsm
     clear hsm hv
     go_wp2_with fail
     refine (saidEq (tright_any t _ Y5 HN.o) hr).mono ?_
     rintro _ W6 ⟨rfl,hb⟩
     obtain⟨x0,x1,x2,x3,x4⟩:=cf5 (hs_bel X5.o hb)
     obtain⟨y0,y1,y2,y3,y4⟩:=cf5 (hs_bel HX5.o hb)
     obtain⟨N6,M6,B6⟩:=zd3 (NdR.to HN.o (sub_lo hb)) (NdR.to N5.o (sub_lo hb)) hb
     clear hb hr
     go_wp2_with fail
     refine (saidEq (same_any (SizeOf.sizeOf t5+1) t5 t _ _ W6 (Nat.lt_succ_self _) M6.o N6.o) SM.o).mono ?_
     rintro _ W7 ⟨rfl,hb⟩
     go_wp2
     go_meet
     exact⟨rfl,bel B6.o hb⟩
   · have u1:decide ((v.size:Int)≤32768)=false:=decide_eq_false ω
     go_wp2_with fail
     refine (saidEq (tright_any t _ Y5 HN.o) hr).mono ?_
     rintro _ W6 ⟨rfl,hb⟩
     go_wp2
     go_meet
     exact⟨rfl,hb⟩
 case rest =>
  obtain⟨rfl,hb⟩:=hcut
  have B6:=η (bel B5.o hb)
  replace HT:=η (HT.o.keep hb)
  clear hb X5 HX5 N5 R5 VL VS HN B5 HW
  go_wp2_with fail
  refine (run_uni (patch_any s _ HS.o)).mono ?_
  rintro _ W8 ⟨k8,s8,n8,p8,A8,l8,c8,t8,x8,q8,rfl,hb,hn8,hr8⟩
  obtain⟨Y8,hY8,by8,HX8,-,-,-,-,-⟩:=nb5 W8 k8 s8 n8 p8 A8 l8 c8
  have bb:=bel hb by8.o
  have B8:=η (bel B6.o bb)
  replace HT:=η (HT.o.keep bb)
  obtain⟨N8,R8⟩:=zd2 (NdR.to hn8 (sub_lo by8.o)) hr8
  obtain⟨g8,hg8⟩:∃q,q=W8.heap.size:=⟨_,rfl⟩
  rw[←hg8] at HX8
  clear hb hn8 hr8 bb by8 B6
  go_upto_region 9 with fail
  rw[←hY8.o,←hg8]
  clear hY8 hg8
  obtain⟨y0,y1,y2,y3,y4⟩:=cf5 HX8.o
  by_cases hx:x8=0
  · subst hx
    have hra:runP true s.data.toList=.ok t8:=by
     rcases R8.o with ⟨_,h,_⟩|⟨h,_⟩
     · exact absurd rfl h
     · exact h
    have sl:s.data.toList.length=s.size:=by simp
    obtain⟨HW,RR,RA⟩:=zd3 (run_wt hra ω) (run_right hra) hra
    clear hra sl R8
    go_wp2_with fail
    refine (back_write t8 _ Y8 N8.o HW.o HT.o).mono ?_
    obtain⟨v,hv⟩:∃q:Ê,q=⟨(writeL (toksP t8)).toArray⟩:=⟨_,rfl⟩
    rw[←hv]
    have HV:=η hv
    have VL:Hid (v.data.toList=writeL (toksP t8)):=by show _=_;rw[hv]
    have VS:Hid (v.size≤maxLen):=by
     show v.size≤9223372036854775807
     have e:v.size=v.data.toList.length:=by simp
     rw[e,VL.o];exact write_size HW.o
    clear hv
    rintro _ W9 ⟨rfl,hb⟩
    obtain⟨B9,X9⟩:=zd2 (bel B8.o hb) (hs_bel HX8.o hb)
    replace N8:=η (NdR.to N8.o (sub_lo hb))
    replace HT:=η (HT.o.keep hb)
    clear hb HX8 B8 y0 y1 y2 y3 y4
    go_wp2_with fail
    refine (run_uni (patch_any v W9 VS.o)).mono ?_
    rintro _ W10 ⟨k5,s5,n5,p5,A5,l5,c5,t5,x5,q5,rfl,hb,hn5,hr5⟩
    obtain⟨Y5,hY5,by5,HX5,-,-,-,-,-⟩:=nb5 W10 k5 s5 n5 p5 A5 l5 c5
    have bb:=bel hb by5.o
    obtain⟨B5,X5⟩:=zd2 (bel B9.o bb) (hs_bel X9.o bb)
    replace N8:=η (NdR.to N8.o (sub_lo bb))
    replace HT:=η (HT.o.keep bb)
    obtain⟨N5,R5⟩:=zd2 (NdR.to hn5 (sub_lo by5.o)) hr5
    obtain⟨g5,hg5⟩:∃q,q=W10.heap.size:=⟨_,rfl⟩
    rw[←hg5] at HX5
    clear hb hn5 hr5 bb by5 B9 X9
    go_upto_region 13 with fail
    rw[←hY5.o,←hg5]
    clear hY5 hg5
    obtain⟨x0,x1,x2,x3,x4⟩:=cf5 X5.o
    obtain⟨y0,y1,y2,y3,y4⟩:=cf5 HX5.o
    by_cases hv:v.size≤32768
    · have u1:decide ((32768:Int)<(v.size:Int))=false:=decide_eq_false ω
      have ALL:x5=0∧smN t8 t5=true∧toksP t5=toksP t8:=by
       have e:v.size=v.data.toList.length:=by simp
       rw[e,VL.o] at hv
       obtain⟨_,m,h1,h2,_,h5⟩:=run_round RA.o hv
       rw[←VL.o] at h1
       rcases R5.o with ⟨h3,_⟩|⟨h3,h4⟩
       · rw[h1] at h3;cases h3
       · rw[h1] at h3;injection h3 with h3;subst h3;exact⟨h4,h2,h5⟩
      obtain⟨rfl,hsm,htk⟩:=ALL
      obtain⟨SM,TK⟩:=zd2 hsm htk
      clear hsm hv htk
      go_wp2_with fail
      refine (saidEq (tright_any t8 _ Y5 N8.o) RR.o).mono ?_
      rintro _ W6 ⟨rfl,hb⟩
      obtain⟨X6,Z6⟩:=zd2 (hs_bel X5.o hb) (hs_bel HX5.o hb)
      replace N8:=η (NdR.to N8.o (sub_lo hb))
      replace N5:=η (NdR.to N5.o (sub_lo hb))
      replace HT:=η (HT.o.keep hb)
      have B6:=η (bel B5.o hb)
      clear hb X5 HX5 B5 x0 x1 x2 x3 x4 y0 y1 y2 y3 y4
      obtain⟨x0,x1,x2,x3,x4⟩:=cf5 X6.o
      obtain⟨y0,y1,y2,y3,y4⟩:=cf5 Z6.o
      go_wp2_with fail
      refine (saidEq (same_any (SizeOf.sizeOf t8+1) t8 t5 _ _ W6 (Nat.lt_succ_self _) N8.o N5.o) SM.o).mono ?_
      rintro _ W7 ⟨rfl,hb⟩
      have Z7:=η (hs_bel Z6.o hb)
      replace N5:=η (NdR.to N5.o (sub_lo hb))
      replace HT:=η (HT.o.keep hb)
      have B7:=η (bel B6.o hb)
      clear hb X6 Z6 B6 N8 x0 x1 x2 x3 x4 y0 y1 y2 y3 y4
      obtain⟨y0,y1,y2,y3,y4⟩:=cf5 Z7.o
      have C:=η (back_write2 t8 t5 _ W7 N5.o HW.o TK.o HT.o)
      rw[←HV.o] at C
      go_wp2_with fail
      refine C.o.mono ?_
      rintro _ W8 ⟨rfl,hb⟩
      have B9:=η (bel B7.o hb)
      have e9:(v.toList==v.toList)=true:=beq_self_eq_true _
      clear hb
      go_wp2
      go_ret
      exact⟨rfl,B9.o⟩
    · have u1:decide ((32768:Int)<(v.size:Int))=true:=decide_eq_true ω
      go_wp2_with fail
      refine (saidEq (tright_any t8 _ Y5 N8.o) RR.o).mono ?_
      rintro _ W6 ⟨rfl,hb⟩
      have B6:=η (bel B5.o hb)
      go_wp2
      go_ret
      exact⟨rfl,B6.o⟩
  · have hx1:(x8==(0:Int))=false:=beq_false_of_ne hx
    have hx2:decide (x8=(0:Int))=false:=decide_eq_false hx
    have hz:t8=.mk 0 e0 0 0 []:=by
     rcases R8.o with ⟨_,_,h⟩|⟨_,h⟩
     · exact h
     · exact absurd h hx
    rw[hz] at N8
    obtain⟨hk,hl⟩:=kid_kl N8.o
    have hk:k8=0:=hk
    have hl:l8=0:=hl
    have k1:decide (k8=(0:Int))=true:=decide_eq_true hk
    have l1:decide ((l8:Int)=(0:Int))=true:=decide_eq_true ω
    clear N8 R8 hz hx hk hl
    go_wp2
    go_ret
    exact⟨rfl,B8.o⟩
end
end Go.Proofs.YtbjdcogmiggamaaGreatDoor
