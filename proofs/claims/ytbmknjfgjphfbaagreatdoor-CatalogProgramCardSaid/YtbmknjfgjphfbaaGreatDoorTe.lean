import Derived.Test.YtbmknjfgjphfbaaGreatDoorTd
import Derived.Test.YtbmknjfgjphfbaaGreatDoorZ30
set_option linter.all false
namespace Go.Proofs.YtbmknjfgjphfbaaGreatDoor
open Proofs.Tryz RowKit Maps WideMaps ChangeMaps
set_option maxRecDepth 100000
set_option maxHeartbeats 8000000
theorem own_put {w:À} {base size e g cap j:Nat} {xs zs cs:List Value} (h:w.ownsRow base e size (.slice (some ⟨g,0,none⟩) (j+1) cap) (j+1) (xs++zs)) (hx:xs.length=j*size) (hc:cs.length=size) :
    ∃cur,w.heap[g]?=some (.cells cur e (0,0))∧j*size+size≤cur.size∧(w.setRow g (cur.toList.take (j*size)++cs++cur.toList.drop (j*size+size)).toArray).ownsRow base e size (.slice (some ⟨g,0,none⟩) (j+1) cap) (j+1) (xs++cs):=by
  rcases h.2 with ⟨e,_⟩|⟨g',cap',cur,e,hb,hg,hn,hm,hs,ht⟩
  · cases e
  · injection e with e1 e2 e3
    injection e1 with e1
    injection e1 with e1
    subst e1 e3
    have hmul:(j+1)*size≤cap*size:=Nat.mul_le_mul_right _ hn
    have hj:(j+1)*size=j*size+size:=Nat.succ_mul _ _
    rw[hj] at hmul ht
    have hsz:j*size+size≤cur.size:=by rw[hs];exact hmul
    have hxs:cur.toList.take (j*size)=xs:=by
      have:=congrArg (List.take (j*size)) ht
      rw[List.take_take,Nat.min_eq_left (by omega),←hx,List.take_left'] at this
      · rw[←hx];exact this
      · rfl
    refine ⟨cur,hg,hsz,?_,.inr ⟨g,cap,_,rfl,hb,setRow_heap _ _ _ _ _ _ hg,hn,hm,?_,?_⟩⟩
    · rw[List.length_append,hx,hc,hj]
    · rw[←hs]
      simp only[List.size_toArray,List.length_append,List.length_take,List.length_drop,Array.length_toList,hc]
      omega
    · rw[hxs]
      simp only[List.toList_toArray]
      rw[List.take_left' (by rw[List.length_append,hx,hc,hj])]
theorem stp_rowO {O:Nat→Prop} {w w':À} (h:Stp O w w') (g:Nat) (cs:Array Value):Stp (fun k=>O k∨k=g) w (w'.setRow g cs):=
  ⟨h.os,h.tape,h.output,by simp;exact h.size,fun k hk hn=>(setRow_other _ _ _ _ (fun e=>hn (.inr e))).trans (h.block k hk (fun e=>hn (.inl e)))⟩
theorem put_wp {K:Act→À→Prop} {o:Oper} {a:Act} {w:À} {Q:Exit→Act→À→Prop} (ty:TypeId) (x y:Operand) (ho:o.op=.store ty x y)
    {base size e g cap j off:Nat} {xs zs:List Value} (cs:Array Value) (hx:a.eval x=.pointer (some ⟨g,off,none⟩)) (hoff:off=j*size) (hy:a.eval y=.agg cs)
    (own:w.ownsRow base e size (.slice (some ⟨g,0,none⟩) (j+1) cap) (j+1) (xs++zs)) (hxs:xs.length=j*size) (hc:cs.toList.length=size) (h1:cs.all (·.oneCell')=true) (hi:(prog.info? ty).map (·.size)=some cs.size)
    (h:∀w',w'.ownsRow base e size (.slice (some ⟨g,0,none⟩) (j+1) cap) (j+1) (xs++cs.toList)→Stp (·=g) w w'→K (a.put o.dst undef) w'):Oper.wp prog o a w K Q:=by
  subst hoff
  obtain⟨cur,hg,hsz,ho2⟩:=own_put own hxs hc
  have h1':∀v∈cs.toList,v.oneCell'=true:=fun v hv=>(Array.all_eq_true_iff_forall_mem.1 h1) v (by simpa using hv)
  have hr:=run_storeCells_at prog g (j*size) e cs.toList 0 cur w hg (by simpa[hc] using hsz) h1'
  have hr2:(storeVar ty ⟨g,j*size,none⟩ (.agg cs)).run prog w=.ok () (w.setRow g (cur.toList.take (j*size)++cs.toList++cur.toList.drop (j*size+size)).toArray):=by
    cases hq:prog.info? ty with
    | none=>simp[hq] at hi
    | some i=>
      have hs:cs.size=i.size:=by simp[hq] at hi;omega
      rw[Nat.add_zero,hc] at hr
      simp[storeVar,sizeOf,typeInfo,hq,Value.cells,hs,hr]
  unfold Oper.wp execOp
  simp only[ho,hx,hy,Instr.storeAt,Instr.sureAddr,Sem.run_bind,Sem.run_pure,Result.andThen_ok,hr2]
  exact h _ ho2 ⟨rfl,rfl,rfl,by simp,fun k hk hn=>setRow_other _ _ _ _ hn⟩
/-- the nodes' own row under way -/
structure CoS (w wr:À) (db mt ma:Nat) (v:Value) (j:Nat) (xs:List Value) (l:List Nd):Prop where
  bl:Below w.heap.size w wr
  bx:Hs wr db 105 #[v,.map (some mt),.map (some ma)]
  t2:Hs wr (w.heap.size+1) 30 z4
  ge:w.heap.size+1<mt∧mt<ma∧ma<db
  m1:SM wr mt 0 (fun _=>none)
  m2:SM wr ma 0 (fun _=>none)
  ow:wr.ownsRow db 83 5 v j xs
  row:RowG 5 (NdR w (lo w)) xs (l.take j)
section
variable {w wr X W5 W6:À} {db mt ma j g c:Nat} {v:Value} {xs zs:List Value} {l:List Nd} {ob:Obj}
theorem CoS.blw (h:CoS w wr db mt ma v j xs l) (hb:Below wr.heap.size wr X):CoS w X db mt ma v j xs l:=
  ⟨bel h.bl hb,hs_bel h.bx hb,hs_bel h.t2 hb,h.ge,h.m1.below hb h.m1.lt,h.m2.below hb h.m2.lt,row_stp h.ow (Stp.of_below (own:=fun _=>False) hb) (fun _ _ e=>e),h.row⟩
theorem stp_or {O O':Nat→Prop} {a b c:À} (h:Stp O a b) (h':Stp O' b c):Stp (fun k=>O k∨O' k) a c:=
  ⟨h'.os.trans h.os,h'.tape.trans h.tape,h'.output.trans h.output,Nat.le_trans h.size h'.size,fun k hk hn=>(h'.block k (Nat.lt_of_lt_of_le hk h.size) (fun e=>hn (.inr e))).trans (h.block k hk (fun e=>hn (.inl e)))⟩
theorem stp_cell (w:À) (g i:Nat) (v:Value):Stp (·=g) w (w.setCell ⟨g,i,none⟩ v):=
  ⟨rfl,rfl,rfl,by rw[size_set];exact Nat.le_refl _,fun k hk hn=>Below.heap_setCell _ _ _ _ (fun e=>hn e)⟩
theorem row_some {w:À} {b e size n:Nat} {v:Value} {xs:List Value} (h:w.ownsRow b e size v n xs) (hn:0<n):∃g c,v=.slice (some ⟨g,0,none⟩) n c:=by
  rcases h.2 with ⟨_,h0⟩|⟨g,cap,cur,rfl,_⟩
  · omega
  · exact ⟨_,_,rfl⟩
theorem CoS.fin (h:CoS w X db mt ma v j xs l) (hv:(Value.slice (some ⟨g,0,none⟩) (j+1) c).ownBlock=v.ownBlock∨(Value.slice (some ⟨g,0,none⟩) (j+1) c).ownBlock=some (X.alloc ob).heap.size) (hj:j<l.length) {cs:List Value} (hn:NdR w (lo w) cs l[j]) (hc:cs.length=5)
    (st:Stp (fun k=>(v.ownBlock=some k∨k=g)∨k=db) X W6) (B:Hs W6 db 105 #[.slice (some ⟨g,0,none⟩) (j+1) c,.map (some mt),.map (some ma)]) (ho:W6.ownsRow db 83 5 (.slice (some ⟨g,0,none⟩) (j+1) c) (j+1) (xs++cs)):CoS w W6 db mt ma (.slice (some ⟨g,0,none⟩) (j+1) c) (j+1) (xs++cs) l:=by
  have hge:=h.ge
  have lo1:∀k,v.ownBlock=some k→db≤k:=row_lo h.ow
  have hgg:db≤g:=by
    rcases hv with e|e
    · exact lo1 g e.symm
    · have e:g=(X.alloc ob).heap.size:=Option.some.inj e
      have:=h.bx.lt
      simp at e
      omega
  have f:∀k,k<X.heap.size→k<db→W6.heap[k]?=X.heap[k]?:=fun k hk hd=>st.block k hk (fun e=>by
    rcases e with (e|e)|e
    · have:=lo1 k e;omega
    · omega
    · omega)
  refine ⟨bel_own h.bl st (fun k e=>?_),B,(f _ h.t2.lt (by omega)).trans h.t2,h.ge,h.m1.same (f mt h.m1.lt (by omega)),h.m2.same (f ma h.m2.lt (by omega)),ho,?_⟩
  · rcases e with (e|e)|e
    · have:=lo1 k e;omega
    · omega
    · omega
  · rw[List.take_succ_eq_append_getElem hj]
    exact RowG.snoc h.row hc hn
theorem CoS.dc {A:Option Addr} {cap:Nat} (h:CoS w X db mt ma (.slice A l.length cap) l.length xs l):Dc X db l A cap mt ma (fun _=>none):=by
  have hge:=h.ge
  have hr:=h.row
  rw[List.take_length] at hr
  refine ⟨h.bx,?_,⟨by omega,by omega,h.m2.lt⟩,h.m1,0,h.m2,by omega⟩
  refine (hr.to fun cs a x=>x.to (P':=im (only ma) X) fun b hb=>⟨⟨Nat.lt_of_lt_of_le hb h.bl.size,fun e=>by have e:b=ma:=e;have hb:b<w.heap.size:=hb;omega⟩,h.bl.block b hb⟩).sl h.ow fun g hg=>⟨(h.ow.lt g hg).2,fun e=>by have e:g=ma:=e;have:=(h.ow.lt g hg).1;omega⟩
theorem CoS.finA (h:CoS w X db mt ma v j xs l) (hg:(X.alloc ob).grownBy W5 v.ownBlock) (hv:(Value.slice (some ⟨g,0,none⟩) (j+1) c).ownBlock=v.ownBlock∨(Value.slice (some ⟨g,0,none⟩) (j+1) c).ownBlock=some (X.alloc ob).heap.size) (hj:j<l.length) {cs:List Value} (hn:NdR w (lo w) cs l[j]) (hc:cs.length=5)
    (B5:Hs W5 db 105 #[v,.map (some mt),.map (some ma)]) (hgd:db≠g) (st:Stp (·=g) W5 W6) (ho:W6.ownsRow db 83 5 (.slice (some ⟨g,0,none⟩) (j+1) c) (j+1) (xs++cs)):CoS w (W6.setCell ⟨db,0,none⟩ (.slice (some ⟨g,0,none⟩) (j+1) c)) db mt ma (.slice (some ⟨g,0,none⟩) (j+1) c) (j+1) (xs++cs) l:=
  have B6:=hs_stp B5 st hgd
  h.fin hv hj hn hc (stp_or (stp_or (stp_app hg) st) (stp_cell W6 db 0 _)) (hs_put B6) (own_set ho B6 (by decide))
theorem CoS.finB (h:CoS w X db mt ma v j xs l) (hg:(X.alloc ob).grownBy W5 v.ownBlock) (hv:(Value.slice (some ⟨g,0,none⟩) (j+1) c).ownBlock=v.ownBlock∨(Value.slice (some ⟨g,0,none⟩) (j+1) c).ownBlock=some (X.alloc ob).heap.size) (hj:j<l.length) {cs:List Value} (hn:NdR w (lo w) cs l[j]) (hc:cs.length=5)
    (B5:Hs W5 db 105 #[v,.map (some mt),.map (some ma)]) (hgd:db≠g) (st:Stp (·=g) (W5.setCell ⟨db,0,none⟩ (.slice (some ⟨g,0,none⟩) (j+1) c)) W6) (ho:W6.ownsRow db 83 5 (.slice (some ⟨g,0,none⟩) (j+1) c) (j+1) (xs++cs)):CoS w W6 db mt ma (.slice (some ⟨g,0,none⟩) (j+1) c) (j+1) (xs++cs) l:=
  have s:=stp_or (stp_or (stp_app hg) (stp_cell W5 db 0 _)) st
  h.fin hv hj hn hc ⟨s.os,s.tape,s.output,s.size,fun k hk hno=>s.block k hk (fun e=>hno (by rcases e with (e|e)|e;exact .inl (.inl e);exact .inr e;exact .inl (.inr e)))⟩ (hs_stp (hs_put B5) st hgd) ho
end
theorem ret_ctt {fn:Func} {p u v:Tmp} {T:TypeId} (h:fn.results=#[.cell p T,.tmp u,.tmp v]) (tmps:Array Value) (w:À) (g:Nat) (cs:Array Value) {fs:Array Field} (hp:tmps.getD p undef=.pointer (some ⟨g,0,none⟩)) (hg:Hs w g T cs) (hu:prog.underlying T=some (.struct fs)) (hi:(prog.info? T).map (·.size)=some cs.size):(results fn tmps).run prog w=.ok (.tuple #[.agg cs,tmps.getD u undef,tmps.getD v undef]) w:=by
  have:=run_loadVar_row (P:=prog) w g T T cs (0,0) _ hg hu rfl hi
  have hp2:tmps[p]?.getD undef=.pointer (some ⟨g,0,none⟩):=by rw[←hp];simp
  simp only[results,h]
  simp[Sem.run_bind,Result.andThen,hp2,asAddr,this]
theorem row_base {w:À} {b b' e size n:Nat} {v:Value} {xs:List Value} (h:w.ownsRow b e size v n xs) (hb:b'≤b):w.ownsRow b' e size v n xs:=by
  refine ⟨h.1,?_⟩
  rcases h.2 with h0|⟨g,cap,cur,h1,h2,h3⟩
  · exact .inl h0
  · exact .inr ⟨g,cap,cur,h1,Nat.le_trans hb h2,h3⟩
abbrev fnv (f db:Nat):Value:=.func (.func f) #[.pointer (some ⟨db,0,none⟩)] #[]
theorem decls_any (n:Nat) (l:List Nd) (hl:l=kidsT n) (hn:n≤30) (hr:rightB (.mk 1 e0 0 0 l)=true) (cs:List Value) (w:À) (hc:NdR w (lo w) cs (.mk 1 e0 0 0 l)):Calls prog 26 #[.agg cs.toArray] w fun e w'=>∃vE vA xs,e=.returned (.tuple #[.agg (pg4 vE vA),.int .i64 0,.int .i64 0])∧Below w.heap.size w w'∧w'.ownsRow w.heap.size 48 5 vE n xs∧EfR xs (nmL n)∧w'.ownsRow w.heap.size 125 7 vA 1 (ac7 sMain).toList:=by
  have hmm:=@run_makeMap prog
  obtain⟨A,cap,rfl,hk⟩:=nd_ex hc
  obtain⟨io,hio,hiz,his,hib⟩:=info_parts info_83
  have HIO:=Lib.hid (And.intro hio (And.intro hiz (And.intro his hib)))
  clear hio hiz his hib
  obtain⟨W1,hW1⟩:∃q,Hid (q=(w.alloc (.cells (cl 1 e0 0 0 A l.length cap).toArray 83)).alloc (.cells z4 30)):=⟨_,rfl⟩
  have B1:Hid (Below w.heap.size w W1):=by show Below _ _ _;rw[hW1.out];exact belA (belA (belR _) _) _
  have Y1:=Lib.hid (hs2 w (cl 1 e0 0 0 A l.length cap).toArray z4 83 30).1
  have X1:=Lib.hid (hs2 w (cl 1 e0 0 0 A l.length cap).toArray z4 83 30).2
  rw[←hW1.out] at Y1 X1
  have HR:=Lib.hid hr
  have HC:=Lib.hid hc
  have HK:=Lib.hid hk.1
  have lm:l.length≤9223372036854775807:=hk.1.len.2
  have HL:=Lib.hid hl
  have HNN:=Lib.hid hn
  obtain⟨y0,y1,y2,y3,y4⟩:=cf5 Y1.out
  clear hl hn hr hc hk
  go_in
  go_upto_region 1 with fail
  rw[←hW1.out]
  clear hW1
  go_wp2_with (refine lr5 Y1 ?_)
  refine (tright_any _ _ _ (NdR.to HC.out (sub_lo B1.out))).mono ?_
  rintro _ W2 ⟨rfl,hb2⟩
  rw[HR.out]
  have B2:=Lib.hid (bel B1.out hb2)
  have Y2:=Lib.hid (hs_bel Y1.out hb2)
  have X2:=Lib.hid (hs_bel X1.out hb2)
  clear hb2 y0 y1 y2 y3 y4
  obtain⟨y0,y1,y2,y3,y4⟩:=cf5 Y2.out
  go_upto_region 4 with fail
  obtain⟨W3,mt,ma,db,hW3⟩:∃q mt ma db,Hid (q=((W2.alloc (.map #[] 0)).alloc (.map #[] 0)).alloc (.cells #[.slice none 0 0,.map (some mt),.map (some ma)] 105)∧mt=W2.heap.size∧ma=W2.heap.size+1∧db=W2.heap.size+1+1):=⟨_,_,_,_,rfl,rfl,rfl,rfl⟩
  rw[←hW3.out.2.2.2,←hW3.out.2.2.1,←hW3.out.2.1,←hW3.out.1]
  have B3:Hid (Below W2.heap.size W2 W3):=by show Below _ _ _;rw[hW3.out.1];exact belA (belA (belA (belR _) _) _) _
  have HS:Hid (CoS w W3 db mt ma (.slice none 0 0) 0 [] l):=by
    refine ⟨bel B2.out B3.out,?_,hs_bel X2.out B3.out,?_,?_,?_,World.ownsRow_nil _ _ _ _,RowG.nil _⟩
    · rw[hW3.out.1,hW3.out.2.2.2]
      have:=Hs.new ((W2.alloc (.map #[] 0)).alloc (.map #[] 0)) 105 #[.slice none 0 0,.map (some mt),.map (some ma)]
      simpa using this
    · have:=X2.out.lt
      have:=hW3.out.2.1
      have:=hW3.out.2.2.1
      have:=hW3.out.2.2.2
      omega
    · rw[hW3.out.1]
      have h:=MapIs.made prog 9 Lit.string W2
      have h:=MapIs.below (MapIs.below h (belA (belR _) (.map #[] 0)) h.lt) (belA (belR _) (.cells #[.slice none 0 0,.map (some mt),.map (some ma)] 105)) (by simp;omega)
      have g:∀q,q=W2.heap.size→SM (((W2.alloc (.map #[] 0)).alloc (.map #[] 0)).alloc (.cells #[.slice none 0 0,.map (some mt),.map (some ma)] 105)) q 0 (fun _=>none):=fun q e=>by subst e;exact h
      exact g mt hW3.out.2.1
    · rw[hW3.out.1]
      have h:=MapIs.made prog 9 Lit.string (W2.alloc (.map #[] 0))
      have h:=MapIs.below h (belA (belR _) (.cells #[.slice none 0 0,.map (some mt),.map (some ma)] 105)) h.lt
      have g:∀q,q=W2.heap.size+1→SM (((W2.alloc (.map #[] 0)).alloc (.map #[] 0)).alloc (.cells #[.slice none 0 0,.map (some mt),.map (some ma)] 105)) q 0 (fun _=>none):=fun q e=>by subst e;simpa using h
      exact g ma hW3.out.2.2.1
  have Y3:=Lib.hid (hs_bel Y2.out B3.out)
  clear hW3 B3 y0 y1 y2 y3 y4
  obtain⟨y0,y1,y2,y3,y4⟩:=cf5 Y3.out
  go_wp2_with fail
  clear y0 y1 y2 y3 y4
  go_loopw [29] (fun i wr=>∃ (j:Nat) (v:Value) (xs:List Value),j≤l.length∧i=.int .i64 j∧Hid (CoS w wr db mt ma v j xs l)) (fun i _=>l.length-(intOf i).toNat)
  case atStart=>exact ⟨0,_,_,by omega,rfl,HS⟩
  case round=>
    clear HS
    obtain⟨j,v,xs,hj,rfl,HS⟩:=hrel
    obtain⟨W0,rfl⟩:∃W0:World,W0=wr:=⟨_,rfl⟩
    have HLN:Hid (j≤31):=by have:l.length=n+1:=(by rw[HL.out];simp[kidsT]);have:=HNN.out;exact Lib.hid (by omega)
    by_cases hlt:j<l.length
    · have u1:decide ((j:Int)<(l.length:Int))=true:=decide_eq_true (by omega)
      have j0:(0:Int)≤(j:Int):=by omega
      have j1:(j:Int)<(l.length:Int):=by omega
      have HKK:∃k s p a,Hid (k=4∨k=6)∧l[j]=.mk k s 0 p a:=by
        rcases j with _|i
        · exact⟨_,_,_,_,Lib.hid (.inr rfl),kidA HL.out hlt⟩
        · exact⟨_,_,_,_,Lib.hid (.inl rfl),kidB HL.out hlt⟩
      obtain⟨k,s,p,a,hk46,hk⟩:=HKK
      obtain⟨b,off,D2,d2,rfl,_,hn1,_,_,f0,f1,f2,f3,f4⟩:=nds_ex HK.out hlt hk
      have e0:=belC HS.out.bl f0
      have e1:=belC HS.out.bl f1
      have e2:=belC HS.out.bl f2
      have e3:=belC HS.out.bl f3
      have e4:=belC HS.out.bl f4
      clear f0 f1 f2 f3 f4
      rw[←hk] at hn1
      obtain⟨W2,hW2,B5,Y5,y0,y1,y2,y3,y4⟩:=nb5 W0 k s 0 p D2 a.length d2
      have HN1:=Lib.hid hn1
      have HS5:=Lib.hid (HS.out.blw B5.out)
      clear hn1 hk
      go_upto_region 7 with fail
      rw[←hW2.out]
      clear hW2 e0 e1 e2 e3 e4
      go_wp2_with (first|(refine lr5 Y5 ?_)|(go_at_call 39;refine (isdecl_any k s 0 p D2 a.length d2 _ hk46.out).mono ?_;rintro _ W6 ⟨rfl,hb6⟩))
      obtain⟨vA,vc,rfl⟩:=row_form HS.out.ow
      have HS6:=Lib.hid (HS5.out.blw hb6)
      have Y6:=Lib.hid (hs_bel Y5.out hb6)
      clear hb6 y0 y1 y2 y3 y4 HS5 Y5
      have hbx:=Lib.hid HS.out.bx.lt
      refine tkB (fun X=>Hs X W0.heap.size 83 (cl k s 0 p D2 a.length d2).toArray) (hs_bel Y6.out (belDr W6)) (fun HX=>?_)
      have HS7:=Lib.hid (HS6.out.blw (belDr W6))
      obtain⟨X0,hX0⟩:∃q,q=W6.drew:=⟨_,rfl⟩
      rw[←hX0] at HX HS7 ⊢
      clear hX0
      have HB7:=Lib.hid HS7.out.bx
      have HT7:=Lib.hid HX
      refine tkQ 0 ?_
      refine tkQ 1 ?_
      refine tkQ 2 ?_
      refine tkQ 4 ?_ (hy:=fun w hS=>ld24 (.tmp 7) rfl _ rfl _ rfl hS)
      refine tkE2 3 6 (fun K hK=>?_) (fun K hK=>?_)
      · have q0:=HB7.out.c 0
        go_simp
        refine tkR hK HX (fun HX=>?_)
        clear hK K q0
        refine tkQ 5 ?_
        refine tkE 6 (fun K hK=>?_)
        go_simp
        refine tkR hK (hs_al HX _) (fun HX=>?_)
        clear hK K
        refine tkE 7 (fun K hK=>?_)
        rw[if_pos (by rfl)]
        refine app_wp (.tmp 38) (.tmp 41) 81 rfl db 83 io _ 5 64 underlying81 HIO.out.1 HIO.out.2.1 HIO.out.2.2.1 HIO.out.2.2.2 rfl (by decide) (.slice vA j vc) j xs rfl (row_al HS7.out.ow _) ⟨X0.heap.size,0,none⟩ 1 1 (cl 0 ⟨#[]⟩ 0 0 none 0 0) rfl rfl (World.news_of_block (Hs.new _ _ _)) (by intro u hu;simp at hu;repeat (first|(subst hu;rfl)|(rcases hu with rfl|hu;rfl))) (by have:=HLN.out;unfold maxLen;omega) (by have:=HLN.out;omega) (sz_al (Nat.le_of_lt HB7.out.lt) _) ?_
        intro vv X5 hown hgrow hnil hvb
        obtain⟨gg,cc,rfl⟩:=row_some hown (by omega)
        have HO5:=Lib.hid hown
        have HG5:=Lib.hid hgrow
        have HV5:=Lib.hid hvb
        have HB5:=Lib.hid (hs_stp HB7.out (stp_app hgrow) (row_typ HS7.out.ow HB7.out (by decide)))
        have HT5:=Lib.hid (hs_stp HT7.out (stp_app hgrow) (fun e=>by have:=(HS.out.ow.lt _ e).2;omega))
        have NE:Hid (db≠gg):=Lib.hid (fun e=>row_typ hown HB5.out (by decide) (by rw[e];rfl))
        have NT:Hid (W0.heap.size≠gg):=Lib.hid (fun e=>by
          subst e
          rcases hvb with e|e
          · have:=(HS.out.ow.lt W0.heap.size e.symm).2;omega
          · have e:W0.heap.size=(X0.alloc _).heap.size:=Option.some.inj e
            have:=HT7.out.lt
            simp at e
            omega)
        have NB:Hid (W0.heap.size≠db):=Lib.hid (by have:=HS.out.bx.lt;omega)
        clear hown hgrow hnil hvb
        refine tkR hK HT5.out (fun HX=>?_)
        clear hK K
        have b0:(0:Int)≤(j:Int):=by omega
        have b1:(j:Int)<(j:Int)+1:=by omega
        refine tkQ 8 ?_
        refine tkQ 10 ?_
        refine tkQ 11 ?_
        clear b0 b1
        refine tkE2 9 12 (fun K hK=>?_) (fun K hK=>?_)
        · rw[if_pos (by rfl)]
          refine put_wp 83 _ _ rfl (cl k s 0 p D2 a.length d2).toArray rfl rfl rfl HO5.out (HS7.out.ow.1) rfl (by simp[Value.oneCell']) Δ ?_
          intro X6 hown st
          have HO6:=Lib.hid hown
          have HB6:=Lib.hid (hs_stp HB5.out st NE.out)
          have HP:=Lib.hid (HS7.out.finA HG5.out HV5.out hlt HN1.out rfl HB5.out NE.out st hown)
          refine tkR hK (hs_stp HX st NT.out) (fun HX=>?_)
          clear hK K hown st
          refine tkE 12 (fun K hK=>?_)
          have f4:=HB6.out.free 0
          have c4:=HB6.out.c 0
          go_simp
          refine tkR hK (hs_oth HX NB.out) (fun HX=>?_)
          clear hK K f4 c4
          refine tkD ?_
          go_wp2_with fail
          exact ⟨⟨j+1,_,_,by omega,by go_num,HP⟩,by simp[intOf];omega⟩
        · have f4:=HB5.out.free 0
          have c4:=HB5.out.c 0
          go_simp
          have HO6:=Lib.hid (own_set (i:=0) (u:=.slice (some ⟨gg,0,none⟩) (j+1) cc) HO5.out HB5.out (by decide))
          refine tkR hK (hs_oth HX NB.out) (fun HX=>?_)
          clear hK K f4 c4
          refine tkE 9 (fun K hK=>?_)
          rw[if_pos (by rfl)]
          refine put_wp 83 _ _ rfl (cl k s 0 p D2 a.length d2).toArray rfl rfl rfl HO6.out (HS7.out.ow.1) rfl (by simp[Value.oneCell']) Δ ?_
          intro X6 hown st
          have HP:=Lib.hid (HS7.out.finB HG5.out HV5.out hlt HN1.out rfl HB5.out NE.out st hown)
          refine tkR hK (hs_stp HX st NT.out) (fun HX=>?_)
          clear hK K hown st
          refine tkD ?_
          go_wp2_with fail
          exact ⟨⟨j+1,_,_,by omega,by go_num,HP⟩,by simp[intOf];omega⟩
      · go_simp
        refine tkR hK (hs_al HX _) (fun HX=>?_)
        clear hK K
        refine tkE 3 (fun K hK=>?_)
        have q0:=(hs_al HB7.out (.cells #[.int .i64 0,.string ⟨#[]⟩,.int .i64 0,.int .i64 0,.slice none 0 0] 83)).c 0
        go_simp
        refine tkR hK HX (fun HX=>?_)
        clear hK K q0
        refine tkQ 5 ?_
        refine tkE 7 (fun K hK=>?_)
        rw[if_pos (by rfl)]
        refine app_wp (.tmp 38) (.tmp 41) 81 rfl db 83 io _ 5 64 underlying81 HIO.out.1 HIO.out.2.1 HIO.out.2.2.1 HIO.out.2.2.2 rfl (by decide) (.slice vA j vc) j xs rfl (row_al HS7.out.ow _) ⟨X0.heap.size,0,none⟩ 1 1 (cl 0 ⟨#[]⟩ 0 0 none 0 0) rfl rfl (World.news_of_block (Hs.new _ _ _)) (by intro u hu;simp at hu;repeat (first|(subst hu;rfl)|(rcases hu with rfl|hu;rfl))) (by have:=HLN.out;unfold maxLen;omega) (by have:=HLN.out;omega) (sz_al (Nat.le_of_lt HB7.out.lt) _) ?_
        intro vv X5 hown hgrow hnil hvb
        obtain⟨gg,cc,rfl⟩:=row_some hown (by omega)
        have HO5:=Lib.hid hown
        have HG5:=Lib.hid hgrow
        have HV5:=Lib.hid hvb
        have HB5:=Lib.hid (hs_stp HB7.out (stp_app hgrow) (row_typ HS7.out.ow HB7.out (by decide)))
        have HT5:=Lib.hid (hs_stp HT7.out (stp_app hgrow) (fun e=>by have:=(HS.out.ow.lt _ e).2;omega))
        have NE:Hid (db≠gg):=Lib.hid (fun e=>row_typ hown HB5.out (by decide) (by rw[e];rfl))
        have NT:Hid (W0.heap.size≠gg):=Lib.hid (fun e=>by
          subst e
          rcases hvb with e|e
          · have:=(HS.out.ow.lt W0.heap.size e.symm).2;omega
          · have e:W0.heap.size=(X0.alloc _).heap.size:=Option.some.inj e
            have:=HT7.out.lt
            simp at e
            omega)
        have NB:Hid (W0.heap.size≠db):=Lib.hid (by have:=HS.out.bx.lt;omega)
        clear hown hgrow hnil hvb
        refine tkR hK HT5.out (fun HX=>?_)
        clear hK K
        have b0:(0:Int)≤(j:Int):=by omega
        have b1:(j:Int)<(j:Int)+1:=by omega
        refine tkQ 8 ?_
        refine tkQ 10 ?_
        refine tkQ 11 ?_
        clear b0 b1
        refine tkE2 9 12 (fun K hK=>?_) (fun K hK=>?_)
        · rw[if_pos (by rfl)]
          refine put_wp 83 _ _ rfl (cl k s 0 p D2 a.length d2).toArray rfl rfl rfl HO5.out (HS7.out.ow.1) rfl (by simp[Value.oneCell']) Δ ?_
          intro X6 hown st
          have HO6:=Lib.hid hown
          have HB6:=Lib.hid (hs_stp HB5.out st NE.out)
          have HP:=Lib.hid (HS7.out.finA HG5.out HV5.out hlt HN1.out rfl HB5.out NE.out st hown)
          refine tkR hK (hs_stp HX st NT.out) (fun HX=>?_)
          clear hK K hown st
          refine tkE 12 (fun K hK=>?_)
          have f4:=HB6.out.free 0
          have c4:=HB6.out.c 0
          go_simp
          refine tkR hK (hs_oth HX NB.out) (fun HX=>?_)
          clear hK K f4 c4
          refine tkD ?_
          go_wp2_with fail
          exact ⟨⟨j+1,_,_,by omega,by go_num,HP⟩,by simp[intOf];omega⟩
        · have f4:=HB5.out.free 0
          have c4:=HB5.out.c 0
          go_simp
          have HO6:=Lib.hid (own_set (i:=0) (u:=.slice (some ⟨gg,0,none⟩) (j+1) cc) HO5.out HB5.out (by decide))
          refine tkR hK (hs_oth HX NB.out) (fun HX=>?_)
          clear hK K f4 c4
          refine tkE 9 (fun K hK=>?_)
          rw[if_pos (by rfl)]
          refine put_wp 83 _ _ rfl (cl k s 0 p D2 a.length d2).toArray rfl rfl rfl HO6.out (HS7.out.ow.1) rfl (by simp[Value.oneCell']) Δ ?_
          intro X6 hown st
          have HP:=Lib.hid (HS7.out.finB HG5.out HV5.out hlt HN1.out rfl HB5.out NE.out st hown)
          refine tkR hK (hs_stp HX st NT.out) (fun HX=>?_)
          clear hK K hown st
          refine tkD ?_
          go_wp2_with fail
          exact ⟨⟨j+1,_,_,by omega,by go_num,HP⟩,by simp[intOf];omega⟩
    · have u1:decide ((j:Int)<(l.length:Int))=false:=decide_eq_false (by omega)
      obtain rfl:j=l.length:=by omega
      obtain⟨vA,vc,rfl⟩:=row_form HS.out.ow
      have D:Hid (Dc W0 db l vA vc mt ma (fun _=>none)):=HS.out.dc
      have T2:=Lib.hid HS.out.t2
      have BL:=Lib.hid HS.out.bl
      have GE:Hid (w.heap.size+1<ma):=Lib.hid (by have:=HS.out.ge;omega)
      have HSM:=HS
      clear HS HLN
      have M:=Lib.hid (HSM.out.m2)
      go_upto_region 11 with fail
      obtain⟨W4,hW4⟩:∃q,Hid (q=W0.alloc (.cells #[fnv 40 db,fnv 41 db,fnv 42 db,fnv 43 db,fnv 44 db,fnv 45 db] 106)):=⟨_,rfl⟩
      have hb:Below W0.heap.size W0 W4:=by rw[hW4.out];exact belA (belR _) _
      have HC:Hid (Hs W4 W0.heap.size 106 #[fnv 40 db,fnv 41 db,fnv 42 db,fnv 43 db,fnv 44 db,fnv 45 db]):=by show Hs _ _ _ _;rw[hW4.out];exact Hs.new _ _ _
      rw[←hW4.out]
      have D4:Hid (Dc W4 db l vA vc mt ma (if 0=0 then fun _=>none else gMain)):=Lib.hid (D.out.bl hb)
      have M4:Hid (0=0→∃m,SM W4 ma m (fun _=>none)∧m≤100):=fun _=>⟨0,M.out.below hb M.out.lt,by omega⟩
      have T4:=Lib.hid (hs_bel T2.out hb)
      have BL4:=Lib.hid (bel BL.out hb)
      obtain⟨bC,hbC⟩:∃q,Hid (q=W0.heap.size):=⟨_,rfl⟩
      have NC:Hid (bC≠ma):=Lib.hid (by rw[hbC.out];have:=M.out.lt;omega)
      rw[←hbC.out] at HC ⊢
      clear hW4 hb hbC D M T2 BL
      go_wp2_with fail
      go_loopw [62] (fun i wr=>∃ (k:Nat),k≤6∧i=.int .i64 k∧Hid (Dc wr db l vA vc mt ma (if k=0 then fun _=>none else gMain))∧Hid (k=0→∃m,SM wr ma m (fun _=>none)∧m≤100)∧Hid (Hs wr (w.heap.size+1) 30 z4)∧Hid (Hs wr bC 106 #[fnv 40 db,fnv 41 db,fnv 42 db,fnv 43 db,fnv 44 db,fnv 45 db])∧Hid (Below w.heap.size w wr)) (fun i _=>6-(intOf i).toNat)
      case atStart=>exact ⟨0,by omega,rfl,D4,Lib.hid (fun _=>M4.out trivial),T4,HC,BL4⟩
      case round=>
        clear D4 M4 T4 HC BL4
        obtain⟨k,hk,rfl,D4,M4,T4,HC,BL4⟩:=hrel
        obtain⟨W5,rfl⟩:∃q:World,q=wr:=⟨_,rfl⟩
        rcases (by omega:k=0∨k=1∨k=2∨k=3∨k=4∨k=5∨k=6) with rfl|rfl|rfl|rfl|rfl|rfl|rfl
        · have c0:=HC.out.c 0
          go_wp2_with (go_at_call 40;refine (twice_any HL.out HNN.out D4.out (M4.out rfl)).mono ?_;rintro _ W6 ⟨rfl,st,hm⟩;have ST:=Lib.hid st;have HM:=Lib.hid hm;clear st hm c0)
          obtain⟨m,hm1,hm2⟩:=HM.out
          have D6:=D4.out.st ST.out hm1 hm2
          have hb:=belA (belR W6) (.cells z2 109)
          exact ⟨⟨1,by omega,rfl,Lib.hid (D6.bl hb),Lib.hid (fun e=>absurd e (by decide)),Lib.hid (hs_bel (hs_stp T4.out ST.out (fun e=>by have e:w.heap.size+1=ma:=e;have:=GE.out;omega)) hb),Lib.hid (hs_bel (hs_stp HC.out ST.out NC.out) hb),Lib.hid (bel (bel_own BL4.out ST.out (fun q e=>by have e:q=ma:=e;have:=GE.out;omega)) hb)⟩,by simp[intOf]⟩
        · have c0:=HC.out.c 1
          go_wp2_with (go_at_call 41;refine (names_any HL.out D4.out).mono ?_;rintro _ W6 ⟨rfl,st⟩;have ST:=Lib.hid st;clear st c0)
          have hb:=bel ST.out (belA (belR W6) (.cells z2 109))
          exact ⟨⟨2,by omega,rfl,Lib.hid (D4.out.bl hb),Lib.hid (fun e=>absurd e (by decide)),Lib.hid (hs_bel T4.out hb),Lib.hid (hs_bel HC.out hb),Lib.hid (bel BL4.out hb)⟩,by simp[intOf]⟩
        · have c0:=HC.out.c 2
          go_wp2_with (go_at_call 42;refine (stored_any HL.out D4.out).mono ?_;rintro _ W6 ⟨rfl,st⟩;have ST:=Lib.hid st;clear st c0)
          have hb:=bel ST.out (belA (belR W6) (.cells z2 109))
          exact ⟨⟨3,by omega,rfl,Lib.hid (D4.out.bl hb),Lib.hid (fun e=>absurd e (by decide)),Lib.hid (hs_bel T4.out hb),Lib.hid (hs_bel HC.out hb),Lib.hid (bel BL4.out hb)⟩,by simp[intOf]⟩
        · have c0:=HC.out.c 3
          go_wp2_with (go_at_call 43;refine (ranges_any HL.out D4.out).mono ?_;rintro _ W6 ⟨rfl,st⟩;have ST:=Lib.hid st;clear st c0)
          have hb:=bel ST.out (belA (belR W6) (.cells z2 109))
          exact ⟨⟨4,by omega,rfl,Lib.hid (D4.out.bl hb),Lib.hid (fun e=>absurd e (by decide)),Lib.hid (hs_bel T4.out hb),Lib.hid (hs_bel HC.out hb),Lib.hid (bel BL4.out hb)⟩,by simp[intOf]⟩
        · have c0:=HC.out.c 4
          go_wp2_with (go_at_call 44;refine (loops_any HL.out HNN.out D4.out).mono ?_;rintro _ W6 ⟨rfl,st⟩;have ST:=Lib.hid st;clear st c0)
          have hb:=bel ST.out (belA (belR W6) (.cells z2 109))
          exact ⟨⟨5,by omega,rfl,Lib.hid (D4.out.bl hb),Lib.hid (fun e=>absurd e (by decide)),Lib.hid (hs_bel T4.out hb),Lib.hid (hs_bel HC.out hb),Lib.hid (bel BL4.out hb)⟩,by simp[intOf]⟩
        · have c0:=HC.out.c 5
          go_wp2_with (go_at_call 45;refine (root_any HL.out D4.out rfl).mono ?_;rintro _ W6 ⟨rfl,st⟩;have ST:=Lib.hid st;clear st c0)
          have hb:=bel ST.out (belA (belR W6) (.cells z2 109))
          exact ⟨⟨6,by omega,rfl,Lib.hid (D4.out.bl hb),Lib.hid (fun e=>absurd e (by decide)),Lib.hid (hs_bel T4.out hb),Lib.hid (hs_bel HC.out hb),Lib.hid (bel BL4.out hb)⟩,by simp[intOf]⟩
        · go_wp2_with (first|(refine wpList_store_row rfl 30 _ _ rfl (w.heap.size+1) (pg4 (.slice EA n ec) (.slice AA 1 ac)) rfl rfl 30 _ T6.out Δ rfl (by simp[Value.oneCell']) ?_)|(go_at_call 46;refine (program_any HL.out HNN.out D4.out).mono ?_;rintro _ W6 ⟨vE,vB,xs2,rfl,hb,h1,h2,h3⟩;obtain⟨EA,ec,rfl⟩:=row_form h1;obtain⟨AA,ac,rfl⟩:=row_form h3;have SZ:=Lib.hid BL4.out.size;have T6:=Lib.hid (hs_bel T4.out hb);have HB6:=Lib.hid (bel BL4.out hb);have R1:=Lib.hid h1;have R2:=Lib.hid h2;have R3:=Lib.hid h3;clear hb h1 h2 h3))
          have O:=setRow_heap _ _ _ (pg4 (.slice EA n ec) (.slice AA 1 ac)) _ _ T6.out
          have st:Stp (·=w.heap.size+1) W6 (W6.setRow (w.heap.size+1) (pg4 (.slice EA n ec) (.slice AA 1 ac))):=⟨rfl,rfl,rfl,by simp,fun q hq hn=>setRow_other _ _ _ _ hn⟩
          refine bodyPost_ret (ret_ctt rfl _ _ (w.heap.size+1) _ rfl O underlying30 Δ) rfl ⟨_,_,xs2,rfl,bel_row HB6.out (Nat.le_succ _) _,row_base (row_stp R1.out st (fun g e x=>?_)) SZ.out,R2.out,row_base (row_stp R3.out st (fun g e x=>?_)) SZ.out⟩
          · exact row_typ R1.out T6.out (by decide) (x ▸ e)
          · exact row_typ R3.out T6.out (by decide) (x ▸ e)
end Go.Proofs.YtbmknjfgjphfbaaGreatDoor
