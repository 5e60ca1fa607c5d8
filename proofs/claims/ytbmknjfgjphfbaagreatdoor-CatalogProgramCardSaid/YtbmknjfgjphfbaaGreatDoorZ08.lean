import Derived.OwnWalk
import Derived.Test.YtbmknjfgjphfbaaGreatDoorZ07
set_option linter.all false
namespace Go.Proofs.YtbmknjfgjphfbaaGreatDoor
open Proofs.Tryz RowKit Maps WideMaps ChangeMaps
set_option maxRecDepth 100000
set_option maxHeartbeats 8000000
section
section
variable {P:Program} {md:Region.Mode} {ops:Array Oper} {Q:Exit→Act→À→Prop} {S:À→Prop} {z:Nat} {fuel:Nat} {listed:Array Bool} {a:Act} {w:À}
theorem ttE2 (i j:Nat) {oi oj:Oper}
 (h1:∀K':Act→À→Prop,Shut (∀a w,(i≠z→S w)→((i≠z→S w)→wpT P md ops Q S z fuel (listed.setIfInBounds i true) a w)→K' a w)→if Region.wanted oi (yielded ops a.tmps)=true then Oper.wp P oi a w K' Q else K' (a.put oi.dst undef) w)
 (h2:∀K':Act→À→Prop,Shut (∀a w,(j≠z→S w)→((j≠z→S w)→wpT P md ops Q S z fuel (listed.setIfInBounds j true) a w)→K' a w)→if Region.wanted oj (yielded ops a.tmps)=true then Oper.wp P oj a w K' Q else K' (a.put oj.dst undef) w)
 (hi:nthO ops.toList i=some oi:=by exact rfl) (hj:nthO ops.toList j=some oj:=by exact rfl)
 (hr:Region.ready md ops listed=[i,j]:=by kernel_rfl):wpT P md ops Q S z (fuel+1) listed a w:=
 ⟨fun h0=>(by rw[hr] at h0;cases h0),fun k hk=>by
  rw[hr] at hk
  have hk:k=i∨k=j:=by simpa using hk
  rcases hk with rfl|rfl
  · exact wpOp_step (nthO_eq hi) fun K' hK=>h1 K' (fun a w hS hW=>hK a w ⟨hS,hW hS⟩)
  · exact wpOp_step (nthO_eq hj) fun K' hK=>h2 K' (fun a w hS hW=>hK a w ⟨hS,hW hS⟩)⟩
end
section
variable {c:Cx} {w W W' X Y:À} {n0 n m g:Nat} {q q':List Tk} {h h':Bool} {K K2:À→Prop} {cs:List Value} {a:Nd}
theorem RowE.lens {E:Nat→Prop} {v:Value} {l:List Nd} {A:Option Addr} {N cap:Nat} (h:RowE E n (.slice A N cap) l X):N=l.length∧N≤cap:=by
 obtain⟨_,_,xs,ho,_⟩:=h
 rcases ho.2 with ⟨e,h0⟩|⟨g,cp,cur,e,hb,hh,hnc,hcm,hcs,hct⟩
 · injection e with e1 e2 e3;omega
 · injection e with e1 e2 e3;omega
theorem Sw.oneE (A:Hid (Sw c w n0 W q h K)) (hb:BoxT n0 g cs a W):Hid (Sw c w n0 (W.alloc (.cells cs.toArray 83)) q h (fun X=>K X∧RowE (·=g) n0 (.slice (some ⟨W.heap.size,0,none⟩) 1 1) [a] X)):=by
 have hc:=(nd_one hb.2.2).1
 have hl:=A.o.lo
 have hgl:=hb.2.1.lt
 have hR:RowE (·=g) n0 (.slice (some ⟨W.heap.size,0,none⟩) 1 1) [a] (W.alloc (.cells cs.toArray 83)):=by
  refine⟨by simp;omega,fun k e e2=>by have e:W.heap.size=k:=Option.some.inj e;omega,cs,?_,?_⟩
  · have:=own_one (w:=W) (base:=n0) hl.2.2.2 cs.toArray (by simpa using hc)
    simpa using this
  · have:=RowG.snoc (Q:=NdR (W.alloc (.cells cs.toArray 83)) (fun b=>nb n0 (.slice (some ⟨W.heap.size,0,none⟩) 1 1) (W.alloc (.cells cs.toArray 83)) b∧¬b=g)) (size:=5) (xs:=[]) (l:=[]) (a:=a) (RowG.nil _) hc (hb.2.2.to fun b hb=>⟨⟨⟨hb.1.1,by have:=hb.1.2;simp;omega,fun e=>by have e:W.heap.size=b:=Option.some.inj e;have:=hb.1.2;omega⟩,hb.2⟩,Below.heap_alloc _ _ _ hb.1.2⟩)
    simpa using this
 exact Sw.nk A (Stp.of_below (belA (belR _) _)) (A.o.pw.bel (belA (belR _) _)) fun X x=>RowX.to hR x (Nat.le_refl _)
theorem Sw.rwE (A:Hid (Sw c w n0 W q h K)) (s:Stp (only c.pb) W W') (p:PW c W' q' h') {b:Nat} {v:Value} {l:List Nd} (r:RowV b W W' v l):Hid (Sw c w n0 W' q' h' (fun X=>K X∧RowE (·=W'.heap.size) W.heap.size v l X)):=
 Sw.nk A s p fun X x=>RowX.to (r.x s.size (fun k e=>by have e:k=W'.heap.size:=e;omega)) x A.o.lo.2.2.2
theorem Sw.appG {K3:À→Prop} {E E2:Nat→Prop} {n2:Nat} {A1 A2:Option Addr} {N c1 M c2:Nat} {l l2:List Nd} (A:Hid (Sw c w n0 W q h K)) (h3:∀W5 X,W.grownBy W5 (Value.slice A1 N c1).ownBlock→Agr n0 W5 X→K3 X) (hr:RowE E n (.slice A1 N c1) l W) (hr2:RowE E2 n2 (.slice A2 M c2) l2 W) (hN:l.length≤1000000007) (hM:l2.length≤1000000007) (hm:n≤n2) (hn:n0≤n) (hE:∀b,E b→b<n2∧b<W.heap.size) (hd:∀b,(Value.slice A1 N c1).ownBlock=some b→¬(nb n2 (.slice A2 M c2) W b∧¬E2 b))
 {o:Oper} {ac:Act} {Kc:Act→À→Prop} {Q:Exit→Act→À→Prop} (s x:Operand) (ho:o.op=.call { callee:=.builtin .append,args:=#[s,x],argTypes:=#[81,81] }) (hs:ac.eval s=.slice A1 N c1) (hx:ac.eval x=.slice A2 M c2)
 (hk:∀A' c' W',Hid (Sw c w n0 W' q h (fun X=>K3 X∧RowE E n (.slice A' (l.length+l2.length) c') (l++l2) X))→Kc (ac.put o.dst (.slice A' (l.length+l2.length) c')) W'):Oper.wp prog o ac W Kc Q:=by
 obtain⟨rfl,hcap⟩:=RowE.lens (v:=.slice A1 N c1) hr
 obtain⟨rfl,hcap2⟩:=RowE.lens (v:=.slice A2 M c2) hr2
 have hr0:=hr
 obtain⟨hz1,he1,xs,ho1,hg1⟩:=hr
 obtain⟨hz2,he2,ys,ho2,hg2⟩:=hr2
 obtain⟨io,hio,hiz,his,hib⟩:=info_parts info_83
 have hown1:=ho1
 have hgn:∀b,(Value.slice A1 l.length c1).ownBlock=some b→n≤b∧b<W.heap.size:=fun b e=>ho1.lt b e
 rcases ho2.2 with ⟨e,h0⟩|⟨g2,cp,cur,e,hb2,hh,hnc,hcm,hcs,hct⟩
 · injection e with e1 e2 e3
   have hl2:l2=[]:=List.eq_nil_of_length_eq_zero h0
   subst hl2
   refine app_nil_wp s x ho A1 l.length c1 hs (by rw[hx,e1,e3];rfl) hcap ?_
   refine hk A1 c1 W ?_
   rw[List.append_nil]
   exact⟨A.o.pw,A.o.st,A.o.lo,A.o.bx,fun X x=>⟨h3 W X (World.grownBy.refl _ _) x,RowX.to hr0 x hn⟩⟩
 · have hnews:∀j u,ys[j]?=some u→W.cell? ((⟨g2,0,none⟩:Addr).add j)=some u:=fun j u hu=>(ho2.cells (by rw[e];rfl)) j u hu
   injection e with e1 e2 e3
   have hxy:ys.length=l2.length*5:=hg2.1
   refine app_wp s x 81 ho n 83 io _ 5 64 underlying81 hio hiz his hib rfl π (.slice A1 l.length c1) l.length xs hs hown1 ⟨g2,0,none⟩ l2.length c2 ys (by rw[hx,e1]) hxy hnews (row_one (hg2.to fun cs a x=>x)) (by unfold maxLen;omega) ω hz1 ?_
   intro v5 W5 hown hgrow _ hvb
   obtain⟨A',c',rfl⟩:=row_form hown
   have hz:=hgrow.size
   have hl:=A.o.lo
   have hbk:∀b,b<W.heap.size→(Value.slice A1 l.length c1).ownBlock≠some b→W5.heap[b]?=W.heap[b]?:=fun b h1 h2=>hgrow.block b h1 (fun e=>h2 e.symm)
   have hEo:∀b,(Value.slice A1 l.length c1).ownBlock=some b→¬E b:=fun b e=>he1 b e
   have R5:RowE E n (.slice A' (l.length+l2.length) c') (l++l2) W5:=by
    refine⟨Nat.le_trans hz1 hz,fun b e hEb=>?_,xs++ys,by rw[List.length_append];exact hown,?_⟩
    · rcases hvb with e2|e2
      · exact hEo b (e2.symm.trans e) hEb
      · rw[e] at e2;injection e2 with e2;have:=(hE b hEb).2;omega
    · refine RowG.app (hg1.to fun cs a x=>x.to fun b h1=>⟨⟨⟨h1.1.1,Nat.lt_of_lt_of_le h1.1.2.1 hz,fun e=>?_⟩,h1.2⟩,hbk b h1.1.2.1 h1.1.2.2⟩) (hg2.to fun cs a x=>x.to fun b h1=>⟨⟨⟨Nat.le_trans hm h1.1.1,Nat.lt_of_lt_of_le h1.1.2.1 hz,fun e=>?_⟩,fun e=>by have:=(hE b e).1;have:=h1.1.1;omega⟩,hbk b h1.1.2.1 (fun e=>hd b e h1)⟩)
      · rcases hvb with e2|e2
        · exact hd b (e2.symm.trans e) h1
        · rw[e] at e2;injection e2 with e2;have:=h1.1.2.1;omega
      · rcases hvb with e2|e2
        · exact h1.1.2.2 (e2.symm.trans e)
        · rw[e] at e2;injection e2 with e2;have:=h1.1.2.1;omega
   have hv:∀b,(Value.slice A1 l.length c1).ownBlock=some b→n0≤b:=fun b e=>Nat.le_trans hn (hgn b e).1
   have st:Stp (only c.pb) w W5:=⟨hgrow.os.trans A.o.st.os,hgrow.tape.trans A.o.st.tape,hgrow.output.trans A.o.st.output,Nat.le_trans A.o.st.size hz,fun k hk hn2=>(hbk k (Nat.lt_of_lt_of_le hk A.o.st.size) (fun e=>by have:=hv k e;omega)).trans (A.o.st.block k hk hn2)⟩
   refine hk A' c' W5 ⟨A.o.pw.stp' hz (fun b h1 h2=>hbk b ω (fun e=>by have:=hv b e;omega)) ((hbk _ ω (fun e=>by have:=hv _ e;omega)).trans A.o.pw.box) (List.suffix_refl _),st,⟨hl.1,hl.2.1,hl.2.2.1,by omega⟩,fun e=>?_,fun X x=>⟨h3 W5 X hgrow x,RowX.to R5 x hn⟩⟩
   have hb3:=A.o.bx e
   exact (hbk w.heap.size hb3.lt (fun e2=>by have:=hv _ e2;omega)).trans hb3
theorem Sw.app {E E2:Nat→Prop} {n2:Nat} {A1 A2:Option Addr} {N c1 M c2:Nat} {l l2:List Nd} (A:Hid (Sw c w n0 W q h K)) (hb:n0≤g∧Hs W g 83 cs.toArray) (hr:RowE E n (.slice A1 N c1) l W) (hr2:RowE E2 n2 (.slice A2 M c2) l2 W) (hN:l.length≤1000000007) (hM:l2.length≤1000000007) (hm:n≤n2) (hn:n0≤n) (hE:∀b,E b→b<n2∧b<W.heap.size) (hEg:E g) (hd:∀b,(Value.slice A1 N c1).ownBlock=some b→¬(nb n2 (.slice A2 M c2) W b∧¬E2 b))
 {o:Oper} {ac:Act} {Kc:Act→À→Prop} {Q:Exit→Act→À→Prop} (s x:Operand) (ho:o.op=.call { callee:=.builtin .append,args:=#[s,x],argTypes:=#[81,81] }) (hs:ac.eval s=.slice A1 N c1) (hx:ac.eval x=.slice A2 M c2)
 (hk:∀A' c' W',Hid (Sw c w n0 W' q h (fun X=>Hs X g 83 cs.toArray∧RowE E n (.slice A' (l.length+l2.length) c') (l++l2) X))→Kc (ac.put o.dst (.slice A' (l.length+l2.length) c')) W'):Oper.wp prog o ac W Kc Q:=by
 have hEo:∀b,(Value.slice A1 N c1).ownBlock=some b→¬E b:=fun b e=>by obtain⟨_,he,_⟩:=hr;exact he b e
 refine Sw.appG (K3:=fun X=>Hs X g 83 cs.toArray) A (fun W5 X hgr x=>?_) hr hr2 hN hM hm hn hE hd s x ho hs hx hk
 have hbg:Hs W5 g 83 cs.toArray:=(hgr.block g hb.2.lt (fun e=>hEo g e.symm hEg)).trans hb.2
 exact hs_agr hbg x hb.1
theorem Res.up {w0 w1:À} {x:Re Nd} {en:Ending} {ob:Obj} (hw:Hid (w1=w0.alloc ob)) (H:Res NdV c w1 h x en W'):Res NdV c w0 h x en W':=by
 have hb:=hw.o
 subst hb
 cases x with
 | out=>trivial
 | bad q=>exact⟨H.1,(stpA (Stp.refl _ _) ob).trans H.2⟩
 | ok a q =>
  obtain⟨v,e,⟨k,s,n,p,A,l,cap,hv,hr⟩,h2,h3⟩:=H
  exact⟨v,e,⟨k,s,n,p,A,l,cap,hv,NdR.lo hr (by simp)⟩,(stpA (Stp.refl _ _) ob).trans h2,h3⟩
theorem Sw.rebox' {cs2:List Value} {b:Nd} (A:Hid (Sw c w n0 W q h K)) (hg:n0≤g) (hb:Hs W g 83 cs.toArray) (hr:NdR W (ndx n0 g W) cs2 b):Hid (Sw c w n0 (W.setRow g cs2.toArray) q h (BoxT n0 g cs2 b)):=by
 have hz:(W.setRow g cs2.toArray).heap.size=W.heap.size:=by simp
 have H:BoxT n0 g cs2 b (W.setRow g cs2.toArray):=⟨hg,setRow_heap _ _ _ _ _ _ hb,hr.to fun k hk=>⟨⟨⟨hk.1.1,by rw[hz];exact hk.1.2⟩,hk.2⟩,setRow_other _ _ _ _ hk.2⟩⟩
 exact Sw.setrow A hg fun X x=>H.to x (Nat.le_refl _)
end
end
def postP (e:Int) (m:M Nd) (n:Nat) (h:Bool):M Nd:=look fun t0=>primP e m n h >>= fun a=>tailsP e m (offP e t0) n a
instance {m:M Nd} [Suf m] (n:Nat):Con (argsP m n):=by unfold argsP;infer_instance
instance {m:M Nd} [Suf m] (n:Nat):Suf (argsP m n):=by unfold argsP;infer_instance
set_option maxHeartbeats 16000000 in
theorem post_said (c:Cx) (h:Bool) {m:M Nd} [hS:Suf m] (HE:Said 181 #[.pointer (some ⟨c.pb,0,none⟩)] c false NdV m) {n:Nat} (hn:n≤1000000000):Said 220 #[.pointer (some ⟨c.pb,0,none⟩)] c h NdV (postP c.e m n h):=fun w r k hne=>by
 obtain⟨PR,AS,LT⟩:=zd3 (prim_said c h HE hn) (fun (n:Nat) (hn:n≤1000000000)=>args_said c h HE hn) (fun (n:Nat) (hn:n≤1000000000)=>items_said (F:=139) (c:=c) (h:=h) (m:=setP c.e m) (s:=⟨#[125]⟩) (n:=n) (fun _ _=>by kernel_rfl) inferInstance (set_said c false HE) π hn)
 clear HE
 have TX:=η k.tx
 obtain⟨W0,HW,A⟩:=Sw.s1 k
 obtain⟨R,hR⟩:∃R,R=postP c.e m n h r:=⟨_,rfl⟩
 rw[←hR] at hne ⊢
 obtain⟨io,hio,hiz,his,hib⟩:=info_parts info_83
 have HIO:=η (And.intro hio (And.intro hiz (And.intro his hib)))
 clear hio hiz his hib
 have HMF:=hmf
 obtain⟨HN,HR⟩:=zd2 hne hR
 clear hR hne k
 go_in
 go_upto_region 1 with fail
 rw[←HW.o]
 clear HW
 go_wp2_with fail
 have TX2:=η (A.o.pw.tx)
 refine (offset_any A.o.pw).mono ?_
 rintro _ W1 ⟨rfl,b⟩
 replace A:=Sw.bel A b
 clear b
 go_wp2_with fail
 cases m3:primP c.e m n h (r) with
 | out=>exact absurd (HR.o.trans (bd_out m3)) HN.o
 | bad q6 =>
  refine (Said.bad (PR.o) A.o.pw m3).mono ?_
  rintro _ W4 ⟨rfl,s⟩
  exact⟨rfl,Sw.bd A s (HR.o.trans (bd_bad m3))⟩
 | ok x7 q6 =>
  obtain⟨H5,Z8,Y9⟩:=zd3 (HR.o.trans (bd_ok m3)) (Sw.ge A) (A.o.lo.2.2.2)
  refine (Said.ok (PR.o) A.o.pw m3).mono ?_
  rintro _ W4 ⟨_,rfl,⟨k10,s11,n12,p13,D14,l15,c16,rfl,hnd⟩,s,p⟩
  replace A:=Sw.nd A s p hnd
  clear s p hnd m3 HR
  replace A:=Sw.box A (Sw.now A).2 Y9.o
  have HG:=η (Nat.le_trans A.o.lo.2.2.1 (Nat.le_refl _))
  obtain⟨WL,hWL⟩:∃WL,Hid (WL=W4.alloc (.cells (cl k10 s11 n12 p13 D14 l15 c16).toArray 83)):=⟨_,rfl⟩
  rw[←hWL.o] at A
  obtain⟨g,hg⟩:∃g,Hid (g=W4.heap.size):=⟨_,rfl⟩
  rw[←hg.o] at A
  go_wp2_with fail
  rw[←hWL.o,←hg.o]
  clear hWL hg HG
  have HT:Hid (n≤n∧R=tailsP c.e m (offP c.e r) n x7 q6):=⟨Nat.le_refl _,H5.o⟩
  clear H5
  go_loopw [] (fun wr=>∃q n1 k1 s1 n2 p1 D1 l1 c1 a1,Hid (Sw c w (w.heap.size+1) wr q h (BoxT (w.heap.size+1) g (cl k1 s1 n2 p1 D1 l1 c1) a1))∧Hid (n1≤n∧R=tailsP c.e m (offP c.e r) n1 a1 q)) (fun wr=>leftN c wr)
  case atStart=>exact⟨_,_,_,_,_,_,_,_,_,_,A,HT⟩
  case round =>
   clear A HT
   obtain⟨q,n1,k1,s1,n2,p1,D1,l1,c1,a1,A,HT⟩:=hrel
   cases hn1:n1 with
   | zero=>exact absurd (HT.o.2.trans (by rw[hn1];rfl)) HN.o
   | succ n3 =>
   subst hn1
   have HL0:=η A.o.pw.left
   have HR0:=η HT.o.2
   have HN3:=η HT.o.1
   clear HT
   have HG0:=η (Sw.now A).1
   go_wp2_with fail
   refine (word_any A.o.pw).mono ?_
   rintro _ W41 ⟨rfl,b⟩
   replace A:=Sw.bel A b
   clear b
   cases a42:(wl (q)==[40]) with
   | true =>
    have H44:=η (HR0.o.trans (ite_t a42))
    have tw43:((wrd (q)).toList==[40])=true:=by rw[ByteArray.toList_eq];exact a42
    have hq45:=η (ne_of_wl π a42)
    clear a42 HR0
    go_upto_region 5 with fail
    replace A:=Sw.bel A (belDr W41)
    refine ttB (fun X=>Hs X g 83 (cl k1 s1 n2 p1 D1 l1 c1).toArray) 7 (Sw.now A).2.1 (fun hHeld=>?_)
    refine ttQ 0 ?_
    refine ttQ 1 ?_ (hy:=fun w hS=>ld24 (.tmp 4) rfl _ rfl _ rfl hS)
    refine ttQ 3 ?_
    refine ttE2 2 4 (fun K hK=>?_) (fun K hK=>?_)
    · go_simp
      have HM0:=η (Sw.now A).2.1.lt
      replace A:=Sw.oneE A (Sw.now A)
      refine ttR hK (fun _=>(Sw.now A).1.2.1) (fun hHeld=>?_)
      clear hK K
      refine ttE 4 (fun K hK=>?_)
      go_simp
      cases m46:argsP m n3 (q) with
      | out=>exact absurd (H44.o.trans (bd_out m46)) HN.o
      | bad q49 =>
       refine (Said.bad (AS.o n3 (Nat.le_trans (Nat.le_of_succ_le HN3.o) hn)) A.o.pw m46).mono ?_
       rintro _ W47 ⟨rfl,s⟩
       exact⟨rfl,Sw.bd A s (H44.o.trans (bd_bad m46))⟩
      | ok x50 q49 =>
       have H48:=η (H44.o.trans (bd_ok m46))
       have HQL:=η ((inferInstance:Con (argsP m n3)).h _ _ _ m46).2
       have Y54:=η A.o.lo.2.2.2
       refine (Said.ok (AS.o n3 (Nat.le_trans (Nat.le_of_succ_le HN3.o) hn)) A.o.pw m46).mono ?_
       rintro _ W47 ⟨_,rfl,hrow,s,p⟩
       obtain⟨Ar51,cr52,rfl⟩:=hrow.form
       have HL53:=η hrow.1
       replace A:=Sw.rw A s p hrow
       clear s p hrow m46
       refine ttR hK (fun _=>(Sw.now A).1.1.2.1) (fun hHeld=>?_)
       clear hK K
       refine ttE 5 (fun K hK=>?_)
       rw[if_pos (by rfl)]
       refine Sw.app (g:=g) (E:=(·=g)) A ⟨HG0.o,(Sw.now A).1.1.2.1⟩ (Sw.now A).1.2 (Sw.now A).2 (by simp) (by have:=HL53.o;have:=HN3.o;omega) (Nat.le_trans Y54.o (Nat.le_refl _)) (Nat.le_refl _) (fun b e=>by have e:b=g:=e;have h1:=(Sw.now A).1.1.2.1.lt;have h2:=HM0.o;simp at h2 ⊢;omega) rfl (fun b e x=>by have e:_=b:=Option.some.inj e;have t:=x.1.1;simp at t e;omega) (.tmp 16) (.tmp 18) rfl rfl rfl ?_
       rintro A6 c6 W6 A
       refine ttR hK (fun _=>(Sw.now A).1) (fun hHeld=>?_)
       clear hK K
       refine ttE 6 (fun K hK=>?_)
       go_simp
       refine (node_any _ _ _ _ _ _ _ _).mono ?_
       rintro _ W55 ⟨rfl,b⟩
       replace A:=Sw.bel A b
       clear b
       refine ttR hK (fun _=>(Sw.now A).1) (fun hHeld=>?_)
       clear hK K
       have hg0:=HG0.o
       have HSS:=(Sw.now A).1
       have hnd:NdR _ (ndx (w.heap.size+1) g _) (cl 32 e0 0 (offP c.e r) A6 (1+x50.length) c6) (.mk 32 e0 0 (offP c.e r) ([a1]++x50)):=NdR.of ⟨by unfold i64;omega,by unfold i64;omega,TX.o.2.2.2.2⟩ (by show e0.size≤_;decide) (RowE.nds (Sw.now A).2 (Nat.le_refl _) rfl)
       replace A:=Sw.rebox' A hg0 HSS hnd
       refine ttE 7 (fun K hK=>?_)
       rw[if_pos (by rfl)]
       refine wp_store_row 83 _ _ rfl g (cl 32 e0 0 (offP c.e r) A6 (1+x50.length) c6).toArray rfl rfl 83 _ HSS Δ rfl (by simp[Value.oneCell']) ?_
       refine ttR hK (fun e=>absurd rfl e) (fun _=>?_)
       clear hK K HSS hnd hg0
       refine ttD ?_
       go_wp2_with fail
       refine⟨⟨q49,n3,_,_,_,_,_,_,_,_,A,⟨Nat.le_of_succ_le HN3.o,H48.o⟩⟩,?_⟩
       refine Nat.lt_of_le_of_lt (Nat.le_of_eq A.o.pw.left) ?_
       rw[HL0.o]
       have:=HQL.o;omega
    · go_simp
      have HM0:=η (Sw.now A).2.1.lt
      cases m56:argsP m n3 (q) with
      | out=>exact absurd (H44.o.trans (bd_out m56)) HN.o
      | bad q59 =>
       refine (Said.bad (AS.o n3 (Nat.le_trans (Nat.le_of_succ_le HN3.o) hn)) A.o.pw m56).mono ?_
       rintro _ W57 ⟨rfl,s⟩
       exact⟨rfl,Sw.bd A s (H44.o.trans (bd_bad m56))⟩
      | ok x60 q59 =>
       have H58:=η (H44.o.trans (bd_ok m56))
       have HQL:=η ((inferInstance:Con (argsP m n3)).h _ _ _ m56).2
       have Y64:=η A.o.lo.2.2.2
       refine (Said.ok (AS.o n3 (Nat.le_trans (Nat.le_of_succ_le HN3.o) hn)) A.o.pw m56).mono ?_
       rintro _ W57 ⟨_,rfl,hrow,s,p⟩
       obtain⟨Ar61,cr62,rfl⟩:=hrow.form
       have HL63:=η hrow.1
       replace A:=Sw.rwE A s p hrow
       clear s p hrow m56
       refine ttR hK (fun _=>(Sw.now A).1.2.1) (fun hHeld=>?_)
       clear hK K
       refine ttE 2 (fun K hK=>?_)
       go_simp
       replace A:=Sw.oneE A (Sw.now A).1
       refine ttR hK (fun _=>(Sw.now A).1.1.2.1) (fun hHeld=>?_)
       clear hK K
       refine ttE 5 (fun K hK=>?_)
       rw[if_pos (by rfl)]
       refine Sw.app (g:=g) (E:=(·=g)) A ⟨HG0.o,(Sw.now A).1.1.2.1⟩ (Sw.now A).2 (Sw.now A).1.2 (by simp) (by have:=HL63.o;have:=HN3.o;omega) (Y64.o) (Nat.le_refl _) (fun b e=>by have e:b=g:=e;have:=(Sw.now A).1.1.2.1.lt;have:=HM0.o;omega) rfl (fun b e x=>x.2 (Option.some.inj e).symm) (.tmp 16) (.tmp 18) rfl rfl rfl ?_
       rintro A6 c6 W6 A
       refine ttR hK (fun _=>(Sw.now A).1) (fun hHeld=>?_)
       clear hK K
       refine ttE 6 (fun K hK=>?_)
       go_simp
       refine (node_any _ _ _ _ _ _ _ _).mono ?_
       rintro _ W65 ⟨rfl,b⟩
       replace A:=Sw.bel A b
       clear b
       refine ttR hK (fun _=>(Sw.now A).1) (fun hHeld=>?_)
       clear hK K
       have hg0:=HG0.o
       have HSS:=(Sw.now A).1
       have hnd:NdR _ (ndx (w.heap.size+1) g _) (cl 32 e0 0 (offP c.e r) A6 (1+x60.length) c6) (.mk 32 e0 0 (offP c.e r) ([a1]++x60)):=NdR.of ⟨by unfold i64;omega,by unfold i64;omega,TX.o.2.2.2.2⟩ (by show e0.size≤_;decide) (RowE.nds (Sw.now A).2 (Nat.le_refl _) rfl)
       replace A:=Sw.rebox' A hg0 HSS hnd
       refine ttE 7 (fun K hK=>?_)
       rw[if_pos (by rfl)]
       refine wp_store_row 83 _ _ rfl g (cl 32 e0 0 (offP c.e r) A6 (1+x60.length) c6).toArray rfl rfl 83 _ HSS Δ rfl (by simp[Value.oneCell']) ?_
       refine ttR hK (fun e=>absurd rfl e) (fun _=>?_)
       clear hK K HSS hnd hg0
       refine ttD ?_
       go_wp2_with fail
       refine⟨⟨q59,n3,_,_,_,_,_,_,_,_,A,⟨Nat.le_of_succ_le HN3.o,H58.o⟩⟩,?_⟩
       refine Nat.lt_of_le_of_lt (Nat.le_of_eq A.o.pw.left) ?_
       rw[HL0.o]
       have:=HQL.o;omega
   | false =>
    have H66:=η (HR0.o.trans (ite_f (by rw[a42];simp)))
    have tw43:((wrd (q)).toList==[40])=false:=by rw[ByteArray.toList_eq];exact a42
    clear a42 HR0
    go_wp2_with fail
    cases a67:(wl (q)==[46]) with
    | true =>
     obtain⟨H69,HQ0⟩:=zd2 (H66.o.trans (acc_t a67)) (ne_of_wl (r:=q) π a67)
     refine (accept_yes A.o.pw (s:=⟨#[46]⟩) a67 π).mono ?_
     rintro _ W68 ⟨rfl,s,p⟩
     replace A:=Sw.n A s p
     clear s p H66 a67
     go_upto_region 7 with fail
     replace A:=Sw.bel A (belDr W68)
     refine ttB (fun X=>Hs X g 83 (cl k1 s1 n2 p1 D1 l1 c1).toArray) 6 (Sw.now A).2.1 (fun hHeld=>?_)
     refine ttQ 0 ?_
     refine ttQ 2 ?_
     refine ttQ 3 ?_ (hy:=fun w hS=>ld24 (.tmp 4) rfl _ rfl _ rfl hS)
     cases a70:lowB (wl ((q).tail)) with
     | false =>
      refine ttE2 1 4 (fun K hK=>?_) (fun K hK=>?_)
      · go_simp
        refine (name_no A.o.pw p_lowB a70).mono ?_
        rintro _ W72 ⟨rfl,s⟩
        exact⟨rfl,Sw.bd A s (H69.o.trans (bd_bad (nam_f a70)))⟩
      · go_simp
        replace A:=Sw.al A (cl k1 s1 n2 p1 D1 l1 c1).toArray
        refine ttR hK (fun _=>(Sw.now A).1.2.1) (fun hHeld=>?_)
        clear hK K
        refine ttE 1 (fun K hK=>?_)
        go_simp
        refine (name_no A.o.pw p_lowB a70).mono ?_
        rintro _ W73 ⟨rfl,s⟩
        exact⟨rfl,Sw.bd A s (H69.o.trans (bd_bad (nam_f a70)))⟩
     | true =>
      have H74:=η (H69.o.trans (bd_ok (nam_t a70)))
      obtain⟨TS71,HQ1⟩:=zd2 (A.o.pw.tx.2.1) (low_ne' a70)
      refine ttE2 1 4 (fun K hK=>?_) (fun K hK=>?_)
      · go_simp
        have HM0:=η (Sw.now A).2.1.lt
        refine (name_yes A.o.pw p_lowB a70 (by rfl)).mono ?_
        rintro _ W75 ⟨rfl,s,p⟩
        replace A:=Sw.n A s p
        clear s p
        refine ttR hK (fun _=>(Sw.now A).2.1) (fun hHeld=>?_)
        clear hK K
        refine ttE 4 (fun K hK=>?_)
        go_simp
        have HZ:=η A.o.lo.2.2.2
        have HM1:=η (Sw.now A).2.1.lt
        replace A:=Sw.al A (cl k1 s1 n2 p1 D1 l1 c1).toArray
        refine ttR hK (fun _=>(Sw.now A).1.2.1) (fun hHeld=>?_)
        clear hK K
        have HKB:=η (Sw.now A).2
        refine ttE 5 (fun K hK=>?_)
        go_simp
        refine (node_any _ _ _ _ _ _ _ _).mono ?_
        rintro _ W76 ⟨rfl,b⟩
        replace A:=Sw.bel A b
        clear b
        refine ttR hK (fun _=>(Sw.now A).1.2.1) (fun hHeld=>?_)
        clear hK K
        have hg0:=HG0.o
        have HSS:=(Sw.now A).1.2.1
        have hnd:NdR _ (ndx (w.heap.size+1) g _) (cl 30 (wrd ((q).tail)) 0 (offP c.e r) (some ⟨_,0,none⟩) 1 1) (.mk 30 (wrd ((q).tail)) 0 (offP c.e r) [a1]):=NdR.of ⟨by unfold i64;omega,by unfold i64;omega,TX.o.2.2.2.2⟩ TS71.o (kidP1 ⟨⟨HZ.o,(Sw.now A).2.lt⟩,fun e=>by have:=HM1.o;omega⟩ (Sw.now A).2 (Sw.now A).1.2.2 rfl)
        replace A:=Sw.rebox' A hg0 HSS hnd
        refine ttE 6 (fun K hK=>?_)
        rw[if_pos (by rfl)]
        refine wp_store_row 83 _ _ rfl g (cl 30 (wrd ((q).tail)) 0 (offP c.e r) (some ⟨_,0,none⟩) 1 1).toArray rfl rfl 83 _ HSS Δ rfl (by simp[Value.oneCell']) ?_
        refine ttR hK (fun e=>absurd rfl e) (fun _=>?_)
        clear hK K HSS hnd hg0
        refine ttD ?_
        go_wp2_with fail
        refine⟨⟨((q).tail).tail,n3,_,_,_,_,_,_,_,_,A,⟨Nat.le_of_succ_le HN3.o,H74.o⟩⟩,?_⟩
        refine Nat.lt_of_le_of_lt (Nat.le_of_eq A.o.pw.left) ?_
        rw[HL0.o]
        have h1:=HQ1.o;have h2:=HQ0.o;rw[List.length_tail,List.length_tail];rcases q with _|⟨t,_|⟨u,l⟩⟩<;>simp at h1 h2 ⊢<;>omega
      · go_simp
        have HM0:=η (Sw.now A).2.1.lt
        have HZ:=η A.o.lo.2.2.2
        have HM1:=η (Sw.now A).2.1.lt
        replace A:=Sw.al A (cl k1 s1 n2 p1 D1 l1 c1).toArray
        refine ttR hK (fun _=>(Sw.now A).1.2.1) (fun hHeld=>?_)
        clear hK K
        refine ttE 1 (fun K hK=>?_)
        go_simp
        refine (name_yes A.o.pw p_lowB a70 (by rfl)).mono ?_
        rintro _ W77 ⟨rfl,s,p⟩
        replace A:=Sw.n A s p
        clear s p
        refine ttR hK (fun _=>(Sw.now A).1.2.1) (fun hHeld=>?_)
        clear hK K
        have HKB:=η (Sw.now A).2
        refine ttE 5 (fun K hK=>?_)
        go_simp
        refine (node_any _ _ _ _ _ _ _ _).mono ?_
        rintro _ W78 ⟨rfl,b⟩
        replace A:=Sw.bel A b
        clear b
        refine ttR hK (fun _=>(Sw.now A).1.2.1) (fun hHeld=>?_)
        clear hK K
        have hg0:=HG0.o
        have HSS:=(Sw.now A).1.2.1
        have hnd:NdR _ (ndx (w.heap.size+1) g _) (cl 30 (wrd ((q).tail)) 0 (offP c.e r) (some ⟨_,0,none⟩) 1 1) (.mk 30 (wrd ((q).tail)) 0 (offP c.e r) [a1]):=NdR.of ⟨by unfold i64;omega,by unfold i64;omega,TX.o.2.2.2.2⟩ TS71.o (kidP1 ⟨⟨HZ.o,(Sw.now A).2.lt⟩,fun e=>by have:=HM1.o;omega⟩ (Sw.now A).2 (Sw.now A).1.2.2 rfl)
        replace A:=Sw.rebox' A hg0 HSS hnd
        refine ttE 6 (fun K hK=>?_)
        rw[if_pos (by rfl)]
        refine wp_store_row 83 _ _ rfl g (cl 30 (wrd ((q).tail)) 0 (offP c.e r) (some ⟨_,0,none⟩) 1 1).toArray rfl rfl 83 _ HSS Δ rfl (by simp[Value.oneCell']) ?_
        refine ttR hK (fun e=>absurd rfl e) (fun _=>?_)
        clear hK K HSS hnd hg0
        refine ttD ?_
        go_wp2_with fail
        refine⟨⟨((q).tail).tail,n3,_,_,_,_,_,_,_,_,A,⟨Nat.le_of_succ_le HN3.o,H74.o⟩⟩,?_⟩
        refine Nat.lt_of_le_of_lt (Nat.le_of_eq A.o.pw.left) ?_
        rw[HL0.o]
        have h1:=HQ1.o;have h2:=HQ0.o;rw[List.length_tail,List.length_tail];rcases q with _|⟨t,_|⟨u,l⟩⟩<;>simp at h1 h2 ⊢<;>omega
    | false =>
     have H80:=η (H66.o.trans (acc_f a67))
     refine (accept_no A.o.pw (s:=⟨#[46]⟩) a67).mono ?_
     rintro _ W79 ⟨rfl,s,p⟩
     replace A:=Sw.n A s p
     clear s p H66 a67
     go_wp2_with fail
     cases a81:(wl (q)==[119,105,116,104]) with
     | true =>
      obtain⟨H83,HQ0⟩:=zd2 (H80.o.trans (acc_t a81)) (ne_of_wl (r:=q) π a81)
      refine (accept_yes A.o.pw (s:=⟨#[119,105,116,104]⟩) a81 π).mono ?_
      rintro _ W82 ⟨rfl,s,p⟩
      replace A:=Sw.n A s p
      clear s p H80 a81
      go_wp2_with fail
      cases a84:(wl ((q).tail)==[123]) with
      | false =>
       refine (expect_no A.o.pw (s:=⟨#[123]⟩) a84).mono ?_
       rintro _ W85 ⟨rfl,s⟩
       exact⟨rfl,Sw.bd A s (H83.o.trans (bd_bad (exp_f a84)))⟩
      | true =>
       have H86:=η (H83.o.trans (bd_ok (exp_t a84)))
       refine (expect_yes A.o.pw (s:=⟨#[123]⟩) a84 π).mono ?_
       rintro _ W85 ⟨rfl,s,p⟩
       replace A:=Sw.n A s p
       clear s p H83 a84
       go_upto_region 10 with fail
       replace A:=Sw.bel A (belDr W85)
       refine ttB (fun X=>Hs X g 83 (cl k1 s1 n2 p1 D1 l1 c1).toArray) 9 (Sw.now A).2.1 (fun hHeld=>?_)
       refine ttQ 0 ?_
       refine ttQ 1 ?_ (hy:=fun w hS=>ld24 (.tmp 4) rfl _ rfl _ rfl hS)
       refine ttQ 3 ?_
       refine ttQ 4 ?_
       refine ttQ 5 ?_
       refine ttE2 2 6 (fun K hK=>?_) (fun K hK=>?_)
       · go_simp
         have HM0:=η (Sw.now A).2.1.lt
         replace A:=Sw.oneE A (Sw.now A)
         refine ttR hK (fun _=>(Sw.now A).1.2.1) (fun hHeld=>?_)
         clear hK K
         refine ttE 6 (fun K hK=>?_)
         go_simp
         cases m87:itemsP [125] (setP c.e m) n3 (((q).tail).tail) with
         | out=>exact absurd (H86.o.trans (bd_out m87)) HN.o
         | bad q90 =>
          refine (Said.bad (LT.o n3 (Nat.le_trans (Nat.le_of_succ_le HN3.o) hn)) A.o.pw m87).mono ?_
          rintro _ W88 ⟨rfl,s⟩
          exact⟨rfl,Sw.bd A s (H86.o.trans (bd_bad m87))⟩
         | ok x91 q90 =>
          have H89:=η (H86.o.trans (bd_ok m87))
          have HQL:=η (suf_len (((inferInstance:Suf (itemsP [125] (setP c.e m) n3)).h _).1 _ _ m87))
          have Y95:=η A.o.lo.2.2.2
          refine (Said.ok (LT.o n3 (Nat.le_trans (Nat.le_of_succ_le HN3.o) hn)) A.o.pw m87).mono ?_
          rintro _ W88 ⟨_,rfl,hrow,s,p⟩
          obtain⟨Ar92,cr93,rfl⟩:=hrow.form
          have HL94:=η hrow.1
          replace A:=Sw.rw A s p hrow
          clear s p hrow m87
          refine ttR hK (fun _=>(Sw.now A).1.1.2.1) (fun hHeld=>?_)
          clear hK K
          refine ttE 7 (fun K hK=>?_)
          rw[if_pos (by rfl)]
          refine Sw.app (g:=g) (E:=(·=g)) A ⟨HG0.o,(Sw.now A).1.1.2.1⟩ (Sw.now A).1.2 (Sw.now A).2 (by simp) (by have:=HL94.o;have:=HN3.o;omega) (Nat.le_trans Y95.o (Nat.le_refl _)) (Nat.le_refl _) (fun b e=>by have e:b=g:=e;have h1:=(Sw.now A).1.1.2.1.lt;have h2:=HM0.o;simp at h2 ⊢;omega) rfl (fun b e x=>by have e:_=b:=Option.some.inj e;have t:=x.1.1;simp at t e;omega) (.tmp 37) (.tmp 41) rfl rfl rfl ?_
          rintro A6 c6 W6 A
          refine ttR hK (fun _=>(Sw.now A).1) (fun hHeld=>?_)
          clear hK K
          refine ttE 8 (fun K hK=>?_)
          go_simp
          refine (node_any _ _ _ _ _ _ _ _).mono ?_
          rintro _ W96 ⟨rfl,b⟩
          replace A:=Sw.bel A b
          clear b
          refine ttR hK (fun _=>(Sw.now A).1) (fun hHeld=>?_)
          clear hK K
          have hg0:=HG0.o
          have HSS:=(Sw.now A).1
          have hnd:NdR _ (ndx (w.heap.size+1) g _) (cl 31 e0 0 (offP c.e r) A6 (1+x91.length) c6) (.mk 31 e0 0 (offP c.e r) ([a1]++x91)):=NdR.of ⟨by unfold i64;omega,by unfold i64;omega,TX.o.2.2.2.2⟩ (by show e0.size≤_;decide) (RowE.nds (Sw.now A).2 (Nat.le_refl _) rfl)
          replace A:=Sw.rebox' A hg0 HSS hnd
          refine ttE 9 (fun K hK=>?_)
          rw[if_pos (by rfl)]
          refine wp_store_row 83 _ _ rfl g (cl 31 e0 0 (offP c.e r) A6 (1+x91.length) c6).toArray rfl rfl 83 _ HSS Δ rfl (by simp[Value.oneCell']) ?_
          refine ttR hK (fun e=>absurd rfl e) (fun _=>?_)
          clear hK K HSS hnd hg0
          refine ttD ?_
          go_wp2_with fail
          refine⟨⟨q90,n3,_,_,_,_,_,_,_,_,A,⟨Nat.le_of_succ_le HN3.o,H89.o⟩⟩,?_⟩
          refine Nat.lt_of_le_of_lt (Nat.le_of_eq A.o.pw.left) ?_
          rw[HL0.o]
          have:=HQL.o;have h2:=HQ0.o;have h3:0<q.length:=List.length_pos_iff.2 h2;simp only[List.length_tail] at this;omega
       · go_simp
         have HM0:=η (Sw.now A).2.1.lt
         cases m97:itemsP [125] (setP c.e m) n3 (((q).tail).tail) with
         | out=>exact absurd (H86.o.trans (bd_out m97)) HN.o
         | bad q100 =>
          refine (Said.bad (LT.o n3 (Nat.le_trans (Nat.le_of_succ_le HN3.o) hn)) A.o.pw m97).mono ?_
          rintro _ W98 ⟨rfl,s⟩
          exact⟨rfl,Sw.bd A s (H86.o.trans (bd_bad m97))⟩
         | ok x101 q100 =>
          have H99:=η (H86.o.trans (bd_ok m97))
          have HQL:=η (suf_len (((inferInstance:Suf (itemsP [125] (setP c.e m) n3)).h _).1 _ _ m97))
          have Y105:=η A.o.lo.2.2.2
          refine (Said.ok (LT.o n3 (Nat.le_trans (Nat.le_of_succ_le HN3.o) hn)) A.o.pw m97).mono ?_
          rintro _ W98 ⟨_,rfl,hrow,s,p⟩
          obtain⟨Ar102,cr103,rfl⟩:=hrow.form
          have HL104:=η hrow.1
          replace A:=Sw.rwE A s p hrow
          clear s p hrow m97
          refine ttR hK (fun _=>(Sw.now A).1.2.1) (fun hHeld=>?_)
          clear hK K
          refine ttE 2 (fun K hK=>?_)
          go_simp
          replace A:=Sw.oneE A (Sw.now A).1
          refine ttR hK (fun _=>(Sw.now A).1.1.2.1) (fun hHeld=>?_)
          clear hK K
          refine ttE 7 (fun K hK=>?_)
          rw[if_pos (by rfl)]
          refine Sw.app (g:=g) (E:=(·=g)) A ⟨HG0.o,(Sw.now A).1.1.2.1⟩ (Sw.now A).2 (Sw.now A).1.2 (by simp) (by have:=HL104.o;have:=HN3.o;omega) (Y105.o) (Nat.le_refl _) (fun b e=>by have e:b=g:=e;have:=(Sw.now A).1.1.2.1.lt;have:=HM0.o;omega) rfl (fun b e x=>x.2 (Option.some.inj e).symm) (.tmp 37) (.tmp 41) rfl rfl rfl ?_
          rintro A6 c6 W6 A
          refine ttR hK (fun _=>(Sw.now A).1) (fun hHeld=>?_)
          clear hK K
          refine ttE 8 (fun K hK=>?_)
          go_simp
          refine (node_any _ _ _ _ _ _ _ _).mono ?_
          rintro _ W106 ⟨rfl,b⟩
          replace A:=Sw.bel A b
          clear b
          refine ttR hK (fun _=>(Sw.now A).1) (fun hHeld=>?_)
          clear hK K
          have hg0:=HG0.o
          have HSS:=(Sw.now A).1
          have hnd:NdR _ (ndx (w.heap.size+1) g _) (cl 31 e0 0 (offP c.e r) A6 (1+x101.length) c6) (.mk 31 e0 0 (offP c.e r) ([a1]++x101)):=NdR.of ⟨by unfold i64;omega,by unfold i64;omega,TX.o.2.2.2.2⟩ (by show e0.size≤_;decide) (RowE.nds (Sw.now A).2 (Nat.le_refl _) rfl)
          replace A:=Sw.rebox' A hg0 HSS hnd
          refine ttE 9 (fun K hK=>?_)
          rw[if_pos (by rfl)]
          refine wp_store_row 83 _ _ rfl g (cl 31 e0 0 (offP c.e r) A6 (1+x101.length) c6).toArray rfl rfl 83 _ HSS Δ rfl (by simp[Value.oneCell']) ?_
          refine ttR hK (fun e=>absurd rfl e) (fun _=>?_)
          clear hK K HSS hnd hg0
          refine ttD ?_
          go_wp2_with fail
          refine⟨⟨q100,n3,_,_,_,_,_,_,_,_,A,⟨Nat.le_of_succ_le HN3.o,H99.o⟩⟩,?_⟩
          refine Nat.lt_of_le_of_lt (Nat.le_of_eq A.o.pw.left) ?_
          rw[HL0.o]
          have:=HQL.o;have h2:=HQ0.o;have h3:0<q.length:=List.length_pos_iff.2 h2;simp only[List.length_tail] at this;omega
     | false =>
      have H108:=η (H80.o.trans (acc_f a81))
      refine (accept_no A.o.pw (s:=⟨#[119,105,116,104]⟩) a81).mono ?_
      rintro _ W107 ⟨rfl,s,p⟩
      replace A:=Sw.n A s p
      clear s p H80 a81
      have O:=setRow_heap _ _ _ (cl k1 s1 n2 p1 D1 l1 c1).toArray _ _ (A.o.bx rfl)
      have E:=Sw.eg (Rv:=NdV) A (cells:=(cl k1 s1 n2 p1 D1 l1 c1).toArray) (v:=.agg (cl k1 s1 n2 p1 D1 l1 c1).toArray) (a:=a1) fun X hx k=>⟨k1,s1,n2,p1,D1,l1,c1,rfl,NdR.lo (BoxT.nd k) (Nat.le_succ _)⟩
      go_wp2_with (first|(refine wpList_load_row rfl 83 _ rfl g rfl 83 _ _ _ (Sw.now A).2.1 underlying83 rfl Δ ?_)|(refine wpList_store_row rfl 83 _ _ rfl w.heap.size (cl k1 s1 n2 p1 D1 l1 c1).toArray rfl rfl 83 _ (A.o.bx rfl) Δ rfl (by simp[Value.oneCell']) ?_))
      exact bodyPost_ret (results_cell_row results220 _ _ w.heap.size 83 _ _ _ rfl O underlying83 rfl Δ) rfl (by rw[H108.o];exact E.o)
end Go.Proofs.YtbmknjfgjphfbaaGreatDoor
