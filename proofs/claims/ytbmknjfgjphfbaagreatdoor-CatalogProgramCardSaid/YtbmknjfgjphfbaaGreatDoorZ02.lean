import Derived.Test.YtbmknjfgjphfbaaGreatDoorZ01
set_option linter.all false
namespace Go.Proofs.YtbmknjfgjphfbaaGreatDoor
open Proofs.Tryz RowKit Maps WideMaps ChangeMaps
set_option maxRecDepth 100000
set_option maxHeartbeats 8000000
section
structure Cx where
 pb:Nat
 L:List Tk
 e:Int
 mb:Nat
 A:Option Addr
 cap:Nat
 B:Nat
def levF (s:List UInt8):Option Value:=(levP s).map fun n=>.int .i64 (n:Int)
structure PW (c:Cx) (w:À) (r:List Tk) (h:Bool):Prop where
 box:Hs w c.pb 148 #[.slice c.A c.L.length c.cap,.int .i64 ((c.L.length-r.length:Nat):Int),.int .i64 c.e,.bool h,.map (some c.mb)]
 tok:SlR w (fun b=>b<c.B∧b≠c.pb) 4 TkR (.slice c.A c.L.length c.cap) c.L
 mn:c.mb≠c.pb
 lo:c.pb<c.B∧c.mb<c.B∧c.B≤w.heap.size
 lev:∃n,MapIs prog 9 Lit.string w c.mb n levF
 suf:r <:+ c.L
 e:i64 c.e
theorem PW.stp' {c:Cx} {w w':À} {r r':List Tk} {h h':Bool} (k:PW c w r h) (hz:w.heap.size≤w'.heap.size) (hb:∀b,b<c.B→b≠c.pb→w'.heap[b]?=w.heap[b]?) (b:Hs w' c.pb 148 #[.slice c.A c.L.length c.cap,.int .i64 ((c.L.length-r'.length:Nat):Int),.int .i64 c.e,.bool h',.map (some c.mb)]) (hs:r' <:+ r):PW c w' r' h':=by
 obtain⟨n,hm⟩:=k.lev
 exact⟨b,SlR.to' k.tok (fun b h=>⟨h,hb b h.1 h.2⟩) fun _ _ x=>x,k.mn,⟨k.lo.1,k.lo.2.1,Nat.le_trans k.lo.2.2 hz⟩,⟨n,hm.same (hb _ k.lo.2.1 k.mn)⟩,hs.trans k.suf,k.e⟩
theorem PW.stp {c:Cx} {w w':À} {r r':List Tk} {h h':Bool} (k:PW c w r h) (s:Stp (only c.pb) w w') (b:Hs w' c.pb 148 #[.slice c.A c.L.length c.cap,.int .i64 ((c.L.length-r'.length:Nat):Int),.int .i64 c.e,.bool h',.map (some c.mb)]) (hs:r' <:+ r):PW c w' r' h':=
 k.stp' s.size (fun b h1 h2=>s.block b (Nat.lt_of_lt_of_le h1 k.lo.2.2) h2) b hs
theorem PW.grow {c:Cx} {w w':À} {r:List Tk} {h:Bool} {ob:Obj} {row:Option Nat} (k:PW c w r h) (g:(w.alloc ob).grownBy w' row) (hr:∀b,row=some b→c.B≤b):PW c w' r h:=by
 have hb:∀b,b<c.B→w'.heap[b]?=w.heap[b]?:=fun b hb=>by
  have h1:=Nat.lt_of_lt_of_le hb k.lo.2.2
  exact (g.block b (by simp;omega) (fun e=>by have:=hr b e.symm;omega)).trans (Below.heap_alloc _ _ _ h1)
 exact k.stp' (Nat.le_trans (by simp) g.size) (fun b h _=>hb b h) ((hb _ k.lo.1).trans k.box) (List.suffix_refl _)
theorem PW.bel {c:Cx} {w w':À} {r:List Tk} {h:Bool} (k:PW c w r h) (s:Below w.heap.size w w'):PW c w' r h:=k.stp (Stp.of_below s) (hs_bel k.box s) (List.suffix_refl _)
theorem PW.at {c:Cx} {w:À} {t:Tk} {r:List Tk} {h:Bool} (k:PW c w (t::r) h):∃g off,c.A=some ⟨g,off,none⟩∧c.L.length-(t::r).length<c.L.length∧(i64 t.kind∧(0≤t.n∧t.n≤9007199254740992)∧i64 t.pos∧t.text.size≤maxLen) ∧
 w.cell? ⟨g,off+(c.L.length-(t::r).length)*4,none⟩=some (.int .i64 t.kind)∧w.cell? ⟨g,off+(c.L.length-(t::r).length)*4+1,none⟩=some (.string t.text)∧w.cell? ⟨g,off+(c.L.length-(t::r).length)*4+2,none⟩=some (.int .i64 t.n)∧w.cell? ⟨g,off+(c.L.length-(t::r).length)*4+3,none⟩=some (.int .i64 t.pos):=by
 obtain⟨p,hp⟩:=k.suf
 have hl:c.L.length-(t::r).length=p.length:=by rw[←hp];simp
 have hi:p.length<c.L.length:=by rw[←hp];simp
 obtain⟨g,off,cs,hA,hg,⟨rfl,h1,h2,h3,h4⟩,_,hc⟩:=SlR.at k.tok hi
 have e:c.L[p.length]=t:=by simp[←hp]
 rw[e] at hc h1 h2 h3 h4
 rw[hl]
 exact⟨g,off,hA,hi,⟨h1,h2,h3,h4⟩,hc 0 _ rfl,hc 1 _ rfl,hc 2 _ rfl,hc 3 _ rfl⟩
theorem bel_row {w w':À} (h:Below w.heap.size w w') {g:Nat} (hg:w.heap.size≤g) (cs:Array Value):Below w.heap.size w (w'.setRow g cs):=
 ⟨h.os,h.tape,h.output,by simp;exact h.size,fun k hk=>(setRow_other _ _ _ _ ω).trans (h.block k hk)⟩
section
variable {c:Cx} {w:À} {r:List Tk} {h:Bool}
theorem PW.len (k:PW c w r h):r.length≤c.L.length∧c.L.length≤maxLen:=⟨suf_len k.suf,k.tok.len.2⟩
theorem done_any (k:PW c w r h):Calls prog 93 #[.pointer (some ⟨c.pb,0,none⟩)] w fun e w'=>e=.returned (.bool r.isEmpty)∧Below w.heap.size w w':=by
 have c0:w.cell? ⟨c.pb,0,none⟩=some (.slice c.A c.L.length c.cap):=k.box.cell 0
 have c1:w.cell? ⟨c.pb,1,none⟩=some (.int .i64 ((c.L.length-r.length:Nat):Int)):=k.box.cell 1
 obtain⟨l1,l2⟩:=k.len
 have q:(((c.L.length-r.length:Nat):Int)==(c.L.length:Int))=r.isEmpty:=by
  cases r with
  | nil=>simp
  | cons t r=>simp at l1 ⊢;omega
 have Q:=η q
 clear k q l1 l2
 go_in
 go_wp2_with fail
 go_quiet (fail)
 go_wp2
 go_ret
 exact⟨by show Ending.returned (.bool (_==_))=_;rw[Q.o],below_dwN _ (belR _)⟩
theorem PW.nil (k:PW c w [] h):w.cell? ⟨c.pb,2,none⟩=some (.int .i64 c.e):=k.box.cell 2
theorem peek_any (k:PW c w r h):Calls prog 180 #[.pointer (some ⟨c.pb,0,none⟩)] w fun e w'=>e=.returned (.agg #[.int .i64 (kd r),.string (tx r),.int .i64 (nm r),.int .i64 (offP c.e r)])∧Below w.heap.size w w':=by
 obtain⟨l1,l2⟩:=k.len
 obtain⟨W0,HW⟩:∃W0,Hid (W0=w.alloc (.cells #[.int .i64 0,.string ⟨#[]⟩,.int .i64 0,.int .i64 0] 198)):=⟨_,rfl⟩
 have B0:Below w.heap.size w W0:=by rw[HW.o];exact belA (belR _) _
 have Z:Hid (Hs W0 w.heap.size 198 #[.int .i64 0,.string ⟨#[]⟩,.int .i64 0,.int .i64 0]):=by show Hs _ _ _ _;rw[HW.o];exact Hs.new _ _ _
 obtain⟨K,HB⟩:=zd2 (k.bel B0) B0
 clear B0 l1 l2
 cases r with
 | nil =>
  clear k
  go_in
  go_upto_region 1 with fail
  rw[←HW.o]
  go_wp2_with fail
  refine (done_any K.o).mono ?_
  rintro _ W1 ⟨rfl,b⟩
  have c2:=(K.o.bel b).nil
  obtain⟨z,B⟩:=zd2 (hs_bel Z.o b) (bel HB.o b)
  have O:=setRow_heap _ _ _ #[.int .i64 0,.string ⟨#[]⟩,.int .i64 0,.int .i64 c.e] _ _ z.o
  clear b
  go_wp2_with (refine wpList_store_row rfl 198 _ _ rfl w.heap.size #[.int .i64 0,.string ⟨#[]⟩,.int .i64 0,.int .i64 c.e] rfl rfl 198 _ z.o Δ rfl (by simp[Value.oneCell']) ?_)
  exact bodyPost_ret (results_cell_row results180 _ _ w.heap.size 198 _ _ _ rfl O underlying198 rfl Δ) rfl ⟨rfl,bel_row B.o (Nat.le_refl _) _⟩
 | cons t r =>
  obtain⟨g,off,hA,hlt,_,t0,t1,t2,t3⟩:=K.o.at
  obtain⟨i,hi⟩:∃i,i=c.L.length-(t::r).length:=⟨_,rfl⟩
  rw[←hi] at hlt t0 t1 t2 t3
  have T:=η (show W0.cell? ⟨g,off+i*4,none⟩=some (.int .i64 t.kind)∧W0.cell? ⟨g,off+i*4+1,none⟩=some (.string t.text)∧W0.cell? ⟨g,off+i*4+2,none⟩=some (.int .i64 t.n)∧W0.cell? ⟨g,off+i*4+3,none⟩=some (.int .i64 t.pos) from⟨t0,t1,t2,t3⟩)
  have C1:Hid (W0.cell? ⟨c.pb,1,none⟩=some (.int .i64 (i:Int))):=by show _=_;rw[hi];exact K.o.box.cell 1
  have C0:Hid (W0.cell? ⟨c.pb,0,none⟩=some (.slice (some ⟨g,off,none⟩) c.L.length c.cap)):=by show _=_;rw[←hA];exact K.o.box.cell 0
  have u0:(0:Int)≤(i:Int):=by omega
  have u1:(i:Int)<(c.L.length:Int):=by omega
  clear k t0 t1 t2 t3 hi hA
  go_in
  go_upto_region 1 with fail
  rw[←HW.o]
  go_wp2_with fail
  refine (done_any K.o).mono ?_
  rintro _ W1 ⟨rfl,b⟩
  have c0:=belC b C0.o
  have c1:=belC b C1.o
  have t0:=belC b T.o.1
  have t1:=belC b T.o.2.1
  have t2:=belC b T.o.2.2.1
  have t3:=belC b T.o.2.2.2
  obtain⟨z,B⟩:=zd2 (hs_bel Z.o b) (bel HB.o b)
  clear b
  go_wp2_with fail
  refine wp_region_still_tail 10 Δ Δ ?_
  obtain⟨W2,hW2⟩:∃W2,W2=W1.drew:=⟨_,rfl⟩
  change wpStill _ _ (World.drew _) (fun a'=>wpList _ _ _ _ a' (World.drew _)) _ _
  have c0:W2.cell? ⟨c.pb,0,none⟩=some (.slice (some ⟨g,off,none⟩) c.L.length c.cap):=by rw[hW2];exact c0
  have c1:W2.cell? ⟨c.pb,1,none⟩=some (.int .i64 (i:Int)):=by rw[hW2];exact c1
  have t0:W2.cell? ⟨g,off+i*4,none⟩=some (.int .i64 t.kind):=by rw[hW2];exact t0
  have t1:W2.cell? ⟨g,off+i*4+1,none⟩=some (.string t.text):=by rw[hW2];exact t1
  have t2:W2.cell? ⟨g,off+i*4+2,none⟩=some (.int .i64 t.n):=by rw[hW2];exact t2
  have t3:W2.cell? ⟨g,off+i*4+3,none⟩=some (.int .i64 t.pos):=by rw[hW2];exact t3
  have z2:Hid (Hs W2 w.heap.size 198 #[.int .i64 0,.string ⟨#[]⟩,.int .i64 0,.int .i64 0]):=by rw[hW2];exact z
  have B2:Hid (Below w.heap.size w W2):=by rw[hW2];exact B.o.drew
  have O:=setRow_heap _ _ _ #[.int .i64 t.kind,.string t.text,.int .i64 t.n,.int .i64 t.pos] _ _ z2.o
  rw[←hW2]
  clear hW2
  simp only[List.take_succ_cons,List.take_zero,List.drop_succ_cons,List.drop_zero]
  repeat still_step
  refine wpStill_nil ?_
  go_wp2_with (refine wpList_store_row rfl 198 _ _ rfl w.heap.size #[.int .i64 t.kind,.string t.text,.int .i64 t.n,.int .i64 t.pos] rfl rfl 198 _ z2.o Δ rfl (by simp[Value.oneCell']) ?_)
  exact bodyPost_ret (results_cell_row results180 _ _ w.heap.size 198 _ _ _ rfl O underlying198 rfl Δ) rfl ⟨rfl,bel_row B2.o (Nat.le_refl _) _⟩
theorem offset_any (k:PW c w r h):Calls prog 131 #[.pointer (some ⟨c.pb,0,none⟩)] w fun e w'=>e=.returned (.int .i64 (offP c.e r))∧Below w.heap.size w w':=by
 go_in
 go_wp2_with fail
 refine (peek_any k).mono ?_
 rintro _ W1 ⟨rfl,b⟩
 have hf:∀W:À,(Instr.field 198 (.agg #[.int .i64 (kd r),.string (tx r),.int .i64 (nm r),.int .i64 (offP c.e r)]) 3).run prog W=.ok (.int .i64 (offP c.e r)) W:=fun _=>by rfl
 go_wp2
 go_ret
 exact⟨rfl,b⟩
theorem fail_any (k:PW c w r h):Calls prog 148 #[.pointer (some ⟨c.pb,0,none⟩)] w fun e w'=>e=.panicked [{ v:=.iface 140 (.int .i64 (offP c.e r)),recovered:=false }]∧Below w.heap.size w w':=by
 go_in
 go_wp2_with fail
 refine (offset_any k).mono ?_
 rintro _ W1 ⟨rfl,b⟩
 go_wp2_with fail
 exact⟨rfl,rfl,b⟩
theorem word_any (k:PW c w r h):Calls prog 130 #[.pointer (some ⟨c.pb,0,none⟩)] w fun e w'=>e=.returned (.string (wrd r))∧Below w.heap.size w w':=by
 go_in
 go_wp2_with fail
 refine (peek_any k).mono ?_
 rintro _ W1 ⟨rfl,b⟩
 have HB:=η b
 clear b
 have E:Ending.returned (.string (wrd r))=Ending.returned (.string (if kd r=1∨kd r=4 then tx r else e0)):=rfl
 have HE:=η E
 clear E
 by_cases h1:kd r=1
 · have t1:(kd r==1)=true:=by simpa using h1
   have F:=η (if_pos (.inl h1):(if kd r=1∨kd r=4 then tx r else e0)=tx r)
   clear h1
   go_wp2
   go_ret
   exact⟨by rw[HE.o,F.o];rfl,belA HB.o _⟩
 · have t1:(kd r==1)=false:=by simpa using h1
   by_cases h4:kd r=4
   · have t4:(kd r==4)=true:=by simpa using h4
     have F:=η (if_pos (.inr h4):(if kd r=1∨kd r=4 then tx r else e0)=tx r)
     clear h1 h4
     go_wp2
     go_ret
     exact⟨by rw[HE.o,F.o];rfl,belA HB.o _⟩
   · have t4:(kd r==4)=false:=by simpa using h4
     have F:=η (if_neg ω:(if kd r=1∨kd r=4 then tx r else e0)=e0)
     clear h1 h4
     go_wp2
     go_ret
     exact⟨by rw[HE.o,F.o];rfl,belA HB.o _⟩
theorem PW.skip (k:PW c w r h) (hr:r≠[]):PW c (w.setCell ⟨c.pb,1,none⟩ (.int .i64 ((c.L.length-r.tail.length:Nat):Int))) r.tail h∧Stp (only c.pb) w (w.setCell ⟨c.pb,1,none⟩ (.int .i64 ((c.L.length-r.tail.length:Nat):Int)))∧wrap64 (((c.L.length-r.length:Nat):Int)+1)=((c.L.length-r.tail.length:Nat):Int):=by
 have s:Stp (only c.pb) w (w.setCell ⟨c.pb,1,none⟩ (.int .i64 ((c.L.length-r.tail.length:Nat):Int))):=⟨rfl,rfl,rfl,by simp[World.setCell],fun q _ hq=>Below.heap_setCell _ _ _ _ (fun e=>hq e)⟩
 refine⟨k.stp s (hs_put k.box) (List.tail_suffix r),s,?_⟩
 obtain⟨l1,l2⟩:=k.len
 have:0<r.length:=List.length_pos_iff.2 hr
 have e:r.tail.length=r.length-1:=List.length_tail
 unfold maxLen at l2
 rw[e]
 unfold wrap64
 omega
theorem ne_of_wl {s:List UInt8} (h0:s≠[]) (hs:(wl r==s)=true):r≠[]:=by
 rintro rfl
 exact h0 ((beq_iff_eq.1 hs).symm.trans rfl)
theorem accept_yes (k:PW c w r h) {s:Ê} (hs:(wl r==s.data.toList)=true) (h0:s.data.toList≠[]):Calls prog 132 #[.pointer (some ⟨c.pb,0,none⟩),.string s] w fun e w'=>e=.returned (.bool true)∧Stp (only c.pb) w w'∧PW c w' r.tail h:=by
 have hne:=ne_of_wl h0 hs
 have q:((wrd r).toList==s.toList)=true:=by rw[ByteArray.toList_eq,ByteArray.toList_eq];exact hs
 clear hs h0
 go_in
 go_wp2_with fail
 refine (word_any k).mono ?_
 rintro _ W1 ⟨rfl,b⟩
 have K:=η (k.bel b);have P:=η (K.o.skip hne)
 have c1:W1.cell? ⟨c.pb,1,none⟩=some (.int .i64 ((c.L.length-r.length:Nat):Int)):=K.o.box.cell 1
 have f1:W1.frozen? ⟨c.pb,1,none⟩=false:=K.o.box.free 1
 have HB:=η b
 clear b
 go_wp2
 rw[P.o.2.2]
 go_ret
 exact⟨rfl,(Stp.of_below HB.o).trans P.o.2.1,P.o.1⟩
theorem accept_no (k:PW c w r h) {s:Ê} (hs:(wl r==s.data.toList)=false):Calls prog 132 #[.pointer (some ⟨c.pb,0,none⟩),.string s] w fun e w'=>e=.returned (.bool false)∧Stp (only c.pb) w w'∧PW c w' r h:=by
 have q:((wrd r).toList==s.toList)=false:=by rw[ByteArray.toList_eq,ByteArray.toList_eq];exact hs
 clear hs
 go_in
 go_wp2_with fail
 refine (word_any k).mono ?_
 rintro _ W1 ⟨rfl,b⟩
 obtain⟨K,HB⟩:=zd2 (k.bel b) b
 clear b
 go_wp2
 go_ret
 exact⟨rfl,Stp.of_below HB.o,K.o⟩
theorem expect_yes (k:PW c w r h) {s:Ê} (hs:(wl r==s.data.toList)=true) (h0:s.data.toList≠[]):Calls prog 134 #[.pointer (some ⟨c.pb,0,none⟩),.string s] w fun e w'=>e=.returned (.tuple #[])∧Stp (only c.pb) w w'∧PW c w' r.tail h:=by
 go_in
 go_wp2_with fail
 refine (accept_yes k hs h0).mono ?_
 rintro _ W1 ⟨rfl,b,K⟩
 obtain⟨HB,HK⟩:=zd2 b K
 clear b K
 go_wp2
 go_end0
 exact⟨rfl,HB.o,HK.o⟩
theorem expect_no (k:PW c w r h) {s:Ê} (hs:(wl r==s.data.toList)=false):Calls prog 134 #[.pointer (some ⟨c.pb,0,none⟩),.string s] w fun e w'=>e=.panicked [{ v:=.iface 140 (.int .i64 (offP c.e r)),recovered:=false }]∧Stp (only c.pb) w w':=by
 go_in
 go_wp2_with fail
 refine (accept_no k hs).mono ?_
 rintro _ W1 ⟨rfl,b,K⟩
 obtain⟨HB,HK⟩:=zd2 b K
 clear b K
 go_wp2_with fail
 refine (fail_any HK.o).mono ?_
 rintro _ W2 ⟨rfl,b2⟩
 exact⟨rfl,rfl,stpB HB.o b2⟩
def Ent (F:FuncId):Prop:=∀(a:Array Value) (W:À),(callFunc F a).run prog W=.ok (.enter F a) W
def PredSaid (F:FuncId) (p:List UInt8→Bool):Prop:=Ent F∧∀(s:Ê) (w:À),s.size≤maxLen→Calls prog F #[.string s] w fun e w'=>e=.returned (.bool (p s.data.toList))∧w=w'
theorem PW.tx (k:PW c w r h):(Proofs.YtbmknjfgjphfbaaGreatDoor.tx r).size≤maxLen∧(wrd r).size≤maxLen∧i64 (kd r)∧i64 (nm r)∧i64 (offP c.e r):=by
 cases r with
 | nil=>exact⟨by show e0.size≤_;decide,by show e0.size≤_;decide,by show i64 0;unfold i64;omega,by show i64 0;unfold i64;omega,k.e⟩
 | cons t r =>
  obtain⟨g,off,_,_,⟨h1,h2,h3,h4⟩,_⟩:=k.at
  exact⟨h4,by unfold wrd;split;exact h4;show e0.size≤_;decide,h1,by show i64 t.n;unfold i64;omega,h3⟩
theorem PW.nb (k:PW c w r h):0≤nm r∧nm r≤9007199254740992:=by
 cases r with
 | nil=>exact⟨Int.le_refl _,by show (0:Int)≤_;omega⟩
 | cons t r =>
  obtain⟨g,off,_,_,⟨_,h2,_⟩,_⟩:=k.at
  exact h2
theorem name_yes (k:PW c w r h) {F:FuncId} {p:List UInt8→Bool} (hF:PredSaid F p) (hs:p (wl r)=true) (h0:p []=false):Calls prog 133 #[.pointer (some ⟨c.pb,0,none⟩),.func (.func F) #[] #[]] w fun e w'=>e=.returned (.string (wrd r))∧Stp (only c.pb) w w'∧PW c w' r.tail h:=by
 have hne:r≠[]:=by rintro rfl;rw[show wl []=[] from rfl,h0] at hs;cases hs
 have hcf:=hF.1
 unfold Ent at hcf
 obtain⟨HS,HF⟩:=zd2 hs hF
 clear hs h0 hF
 go_in
 go_wp2_with fail
 refine (word_any k).mono ?_
 rintro _ W1 ⟨rfl,b⟩
 have K:=η (k.bel b);have P:=η (K.o.skip hne)
 have c1:W1.cell? ⟨c.pb,1,none⟩=some (.int .i64 ((c.L.length-r.length:Nat):Int)):=K.o.box.cell 1
 have f1:W1.frozen? ⟨c.pb,1,none⟩=false:=K.o.box.free 1
 have HB:=η b
 clear b
 go_wp2_with fail
 refine (HF.o.2 _ _ K.o.tx.2.1).mono ?_
 rw[show p (wrd r).data.toList=true from HS.o]
 rintro _ _ ⟨rfl,rfl⟩
 go_wp2
 rw[P.o.2.2]
 go_ret
 exact⟨rfl,(Stp.of_below HB.o).trans P.o.2.1,P.o.1⟩
theorem name_no (k:PW c w r h) {F:FuncId} {p:List UInt8→Bool} (hF:PredSaid F p) (hs:p (wl r)=false):Calls prog 133 #[.pointer (some ⟨c.pb,0,none⟩),.func (.func F) #[] #[]] w fun e w'=>e=.panicked [{ v:=.iface 140 (.int .i64 (offP c.e r)),recovered:=false }]∧Stp (only c.pb) w w':=by
 have hcf:=hF.1
 unfold Ent at hcf
 obtain⟨HS,HF⟩:=zd2 hs hF
 clear hs hF
 go_in
 go_wp2_with fail
 refine (word_any k).mono ?_
 rintro _ W1 ⟨rfl,b⟩
 obtain⟨K,HB⟩:=zd2 (k.bel b) b
 clear b
 go_wp2_with fail
 refine (HF.o.2 _ _ K.o.tx.2.1).mono ?_
 rw[show p (wrd r).data.toList=false from HS.o]
 rintro _ _ ⟨rfl,rfl⟩
 go_wp2_with fail
 refine (fail_any K.o).mono ?_
 rintro _ W2 ⟨rfl,b2⟩
 exact⟨rfl,rfl,stpB (Stp.of_below HB.o) b2⟩
theorem integer_yes (k:PW c w r h) (hs:kd r=2):Calls prog 135 #[.pointer (some ⟨c.pb,0,none⟩)] w fun e w'=>e=.returned (.int .i64 (nm r))∧Stp (only c.pb) w w'∧PW c w' r.tail h:=by
 have hne:r≠[]:=by rintro rfl;cases hs
 have q:(kd r==2)=true:=by simpa using hs
 clear hs
 go_in
 go_wp2_with fail
 refine (peek_any k).mono ?_
 rintro _ W1 ⟨rfl,b⟩
 obtain⟨W2,hW2⟩:∃W2,Hid (W2=W1.alloc (.cells #[.int .i64 (kd r),.string (tx r),.int .i64 (nm r),.int .i64 (offP c.e r)] 198)):=⟨_,rfl⟩
 have B2:Below w.heap.size w W2:=by rw[hW2.o];exact belA b _
 have K:=η (k.bel B2);have P:=η (K.o.skip hne)
 have z:Hs W2 W1.heap.size 198 #[.int .i64 (kd r),.string (tx r),.int .i64 (nm r),.int .i64 (offP c.e r)]:=by rw[hW2.o];exact Hs.new _ _ _
 have c1:W2.cell? ⟨c.pb,1,none⟩=some (.int .i64 ((c.L.length-r.length:Nat):Int)):=K.o.box.cell 1
 have f1:W2.frozen? ⟨c.pb,1,none⟩=false:=K.o.box.free 1
 have z0:=z.c 0
 have z2:=z.c 2
 have hne:W1.heap.size≠c.pb:=by have:=k.box.lt;have:=b.size;omega
 have HB:=η B2
 clear b B2 z
 go_upto_region 2 with fail
 rw[←hW2.o]
 go_wp2
 rw[P.o.2.2]
 go_ret
 exact⟨rfl,(Stp.of_below HB.o).trans P.o.2.1,P.o.1⟩
theorem integer_no (k:PW c w r h) (hs:¬kd r=2):Calls prog 135 #[.pointer (some ⟨c.pb,0,none⟩)] w fun e w'=>e=.panicked [{ v:=.iface 140 (.int .i64 (offP c.e r)),recovered:=false }]∧Stp (only c.pb) w w':=by
 have q:(kd r==2)=false:=by simpa using hs
 clear hs
 go_in
 go_wp2_with fail
 refine (peek_any k).mono ?_
 rintro _ W1 ⟨rfl,b⟩
 go_wp2_with fail
 refine (fail_any ((k.bel b).bel (belA (belR _) _))).mono ?_
 rintro _ W2 ⟨rfl,b2⟩
 exact⟨rfl,rfl,Stp.of_below (bel (belA b _) b2)⟩
end
end
theorem all_bad {α:Type} (f:α→Bool) (l:List α) (k:Nat) (h:k<l.length) (hf:f l[k]=false):l.all f=false:=by
 rw[List.all_eq_false];exact⟨l[k],List.getElem_mem h,by simp[hf]⟩
theorem all_good {α:Type} (f:α→Bool) (l:List α) (h:∀k (h:k<l.length),f l[k]=true):l.all f=true:=by
 rw[List.all_eq_true];intro x hx
 obtain⟨i,hi,rfl⟩:=List.getElem_of_mem hx
 exact h i hi
theorem word_cons {s:Ê} (h:0<s.size):∃t,s.data.toList=s[0]::t:=by
 have e:0<s.data.toList.length:=by simpa using h
 match hs:s.data.toList with
 | []=>rw[hs] at e;simp at e
 | c::t =>
  refine⟨t,?_⟩
  have:s[0]=s.data.toList[0]'e:=rfl
  rw[this];simp[hs]
theorem word_first {s:Ê} {a b:Nat} (h:0<s.size) (hb:¬(a≤s[0].toNat∧s[0].toNat≤b)):wordP s.data.toList a b=false:=by
 obtain⟨t,e⟩:=word_cons h
 rw[e];unfold wordP
 simp only[Bool.and_eq_false_iff,decide_eq_false_iff_not]
 left;omega
theorem word_bad {s:Ê} {a b k:Nat} (h:k<s.size) (hb:nameC s[k]=false):wordP s.data.toList a b=false:=by
 obtain⟨t,e⟩:=word_cons (s:=s) ω
 have:s.data.toList.all nameC=false:=all_bad nameC _ k (by simpa using h) hb
 unfold wordP;rw[this];rw[e];simp
theorem word_good {s:Ê} {a b:Nat} (h:0<s.size) (h1:a≤s[0].toNat) (h2:s[0].toNat≤b) (hb:∀k (h:k<s.size),nameC s[k]=true):wordP s.data.toList a b=true:=by
 obtain⟨t,e⟩:=word_cons h
 have:s.data.toList.all nameC=true:=all_good nameC _ fun k hk=>hb k (by simpa using hk)
 unfold wordP;rw[this,e];simp[h1,h2]
theorem isWord_mid (s:Ê) (a b:Nat) (h:0<s.size) (hm:s.size≤9223372036854775807) (w:À) (hlo:a≤s[0].toNat) (hhi:s[0].toNat≤b) :
 Calls prog 153 #[.string s,.int .u8 a,.int .u8 b] w fun e w'=>e=.returned (.bool (wordP s.data.toList a b))∧w=w':=by
 have hd3:decide ((s[0].toNat:Int)<(a:Int))=false:=decide_eq_false ω
 have hd4:decide ((b:Int)<(s[0].toNat:Int))=false:=decide_eq_false ω
 have hd5:decide (s[0].toNat<a)=false:=decide_eq_false ω
 have hd6:decide (b<s[0].toNat)=false:=decide_eq_false ω
 have e1:¬s.toList=[]:=by rw[ByteArray.toList_eq];obtain⟨t,e⟩:=word_cons h;rw[e];simp
 have e2:(s.toList==[])=false:=by simpa using e1
 have e3:s.toList.isEmpty=false:=by simpa using e1
 obtain⟨HLO,HHI,H⟩:=zd3 hlo hhi h
 clear hlo hhi
 go_in
 go_upto_region 4 with fail
 go_loopw [25] (fun i wr=>∃k:Nat,k≤s.size∧i=.int .i64 k∧Hid (∀j (h:j<s.size),j<k→nameC s[j]=true)∧wr=w) (fun i _=>s.size-(intOf i).toNat)
 case atStart=>exact⟨0,by omega,rfl,fun j _ hj=>by omega,rfl⟩
 case round =>
  obtain⟨k,hk,rfl,hall,rfl⟩:=hrel
  by_cases hlt:k<s.size
  · have hk1:decide ((k:Int)<s.size)=true:=decide_eq_true ω
    have fin:Hid (nameC s[k]=true→∀j (h:j<s.size),j<k+1→nameC s[j]=true):=fun hx j h hj=>by
     by_cases e:j=k
     · subst e;exact hx
     · exact hall.o j h ω
    have bad:Hid (nameC s[k]=false→wordP s.data.toList a b=false):=fun hx=>word_bad hlt hx
    have hnc:nameC s[k]=((decide (97≤s[k].toNat)&&decide (s[k].toNat≤122))||(decide (65≤s[k].toNat)&&decide (s[k].toNat≤90))||(decide (48≤s[k].toNat)&&decide (s[k].toNat≤57))||(s[k].toNat==95)):=rfl
    have HNC:=η hnc
    clear hnc
    have hcl:(s[k].toNat<48)∨(48≤s[k].toNat∧s[k].toNat≤57)∨(58≤s[k].toNat∧s[k].toNat≤64)∨(65≤s[k].toNat∧s[k].toNat≤90)∨(91≤s[k].toNat∧s[k].toNat≤96∧s[k].toNat≠95)∨(s[k].toNat=95)∨(97≤s[k].toNat∧s[k].toNat≤122)∨(123≤s[k].toNat):=by omega
    rcases hcl with hcl|hcl|hcl|hcl|hcl|hcl|hcl|hcl
    all_goals
     first|(have q0:((s[k].toNat:Int)==95)=true:=by simp;omega)|(have q0:((s[k].toNat:Int)==95)=false:=by simp;omega)
     first|(have q1:decide ((97:Int)≤s[k].toNat)=true:=decide_eq_true ω)|(have q1:decide ((97:Int)≤s[k].toNat)=false:=decide_eq_false ω)
     first|(have q2:decide ((s[k].toNat:Int)≤122)=true:=decide_eq_true ω)|(have q2:decide ((s[k].toNat:Int)≤122)=false:=decide_eq_false ω)
     first|(have q3:decide ((65:Int)≤s[k].toNat)=true:=decide_eq_true ω)|(have q3:decide ((65:Int)≤s[k].toNat)=false:=decide_eq_false ω)
     first|(have q4:decide ((s[k].toNat:Int)≤90)=true:=decide_eq_true ω)|(have q4:decide ((s[k].toNat:Int)≤90)=false:=decide_eq_false ω)
     first|(have q5:decide ((48:Int)≤s[k].toNat)=true:=decide_eq_true ω)|(have q5:decide ((48:Int)≤s[k].toNat)=false:=decide_eq_false ω)
     first|(have q6:decide ((s[k].toNat:Int)≤57)=true:=decide_eq_true ω)|(have q6:decide ((s[k].toNat:Int)≤57)=false:=decide_eq_false ω)
     first
     | (have HN:Hid (nameC s[k]=true):=by
         show nameC s[k]=true
         rw[HNC.o];simp;omega
        clear hcl
        go_wp2_with fail
        go_roundw
        case rel=>exact⟨k+1,by omega,by go_num,fin.o HN.o,trivial⟩
        case measure=>simp[intOf];omega)
     | (have HN:Hid (nameC s[k]=false):=by
         show nameC s[k]=false
         rw[HNC.o];simp;omega
        clear hcl
        go_wp2
        go_ret
        exact⟨by rw[bad.o HN.o];rfl,rfl⟩)
  · obtain rfl:k=s.size:=by omega
    have hk1:decide ((s.size:Int)<s.size)=false:=decide_eq_false ω
    have hyes:=η (word_good H.o HLO.o HHI.o fun j h=>hall.o j h h)
    go_wp2
    go_ret
    exact⟨by rw[hyes.o];rfl,rfl⟩
theorem isWord_any (s:Ê) (a b:Nat) (w:À) (hm:s.size≤maxLen) :
 Calls prog 153 #[.string s,.int .u8 a,.int .u8 b] w fun e w'=>e=.returned (.bool (wordP s.data.toList a b))∧w=w':=by
 unfold maxLen at hm
 by_cases h:0<s.size
 · by_cases h1:a≤s[0].toNat
   · by_cases h2:s[0].toNat≤b
     · exact isWord_mid s a b h hm w h1 h2
     · have HV:=η (word_first (a:=a) (b:=b) h (fun x=>h2 x.2))
       have hd3:decide ((s[0].toNat:Int)<(a:Int))=false:=decide_eq_false ω
       have hd4:decide ((b:Int)<(s[0].toNat:Int))=true:=decide_eq_true ω
       have hd5:decide (s[0].toNat<a)=false:=decide_eq_false ω
       have hd6:decide (b<s[0].toNat)=true:=decide_eq_true ω
       have e1:¬s.toList=[]:=by rw[ByteArray.toList_eq];obtain⟨t,e⟩:=word_cons h;rw[e];simp
       have e2:(s.toList==[])=false:=by simpa using e1
       have e3:s.toList.isEmpty=false:=by simpa using e1
       go_in
       go_wp2
       go_ret
       exact⟨by rw[HV.o];rfl,rfl⟩
   · have HV:=η (word_first (a:=a) (b:=b) h (fun x=>h1 x.1))
     have hd3:decide ((s[0].toNat:Int)<(a:Int))=true:=decide_eq_true ω
     have hd5:decide (s[0].toNat<a)=true:=decide_eq_true ω
     have e1:¬s.toList=[]:=by rw[ByteArray.toList_eq];obtain⟨t,e⟩:=word_cons h;rw[e];simp
     have e2:(s.toList==[])=false:=by simpa using e1
     have e3:s.toList.isEmpty=false:=by simpa using e1
     go_in
     go_wp2
     go_ret
     exact⟨by rw[HV.o];rfl,rfl⟩
 · have e0:s.data.toList=[]:=by
    have:s.data.toList.length=0:=by have:s.data.size=0:=by (have:s.size=s.data.size:=rfl);omega
                                    simpa using this
    exact List.length_eq_zero_iff.1 this
   have HV:Hid (wordP s.data.toList a b=false):=by show wordP _ _ _=_;rw[e0];rfl
   have e1:s.toList=[]:=by rw[ByteArray.toList_eq];exact e0
   have e2:(s.toList==[])=true:=by simpa using e1
   have e3:s.toList.isEmpty=true:=by simpa using e1
   clear e0
   go_in
   go_wp2
   go_ret
   exact⟨by rw[HV.o];rfl,rfl⟩
theorem isReserved_any (s:Ê) (w:À):Calls prog 155 #[.string s] w fun e w'=>e=.returned (.bool (resB s.data.toList))∧w=w':=by
 have HV:Hid (resB s.data.toList=resWords.contains s.toList):=by show _=_;rw[ByteArray.toList_eq];rfl
 go_in
 go_wp2_with fail
 all_goals
  go_ret
  refine⟨?_,rfl⟩
  rw[HV.o]
  simp_all [resWords]
theorem isUpper_any (s:Ê) (w:À) (hs:s.size≤maxLen):Calls prog 100 #[.string s] w fun e w'=>e=.returned (.bool (uppB s.data.toList))∧w=w':=by
 have HS:=η hs
 clear hs
 go_in
 go_wp2_with (go_at_call 153;refine (isWord_any s 65 90 _ HS.o).mono ?_;rintro e w' ⟨rfl,rfl⟩)
 go_ret
 exact⟨rfl,rfl⟩
theorem isLower_any (s:Ê) (w:À) (hs:s.size≤maxLen):Calls prog 104 #[.string s] w fun e w'=>e=.returned (.bool (lowB s.data.toList))∧w=w':=by
 have HS:=η hs
 have HV:Hid (lowB s.data.toList=(wordP s.data.toList 97 122&&!resB s.data.toList)):=rfl
 clear hs
 cases h1:wordP s.data.toList 97 122<;>cases h2:resB s.data.toList
 all_goals
  obtain⟨H1,H2⟩:=zd2 h1 h2
  clear h1 h2
  go_in
  go_wp2_with (first|(go_at_call 153;refine (isWord_any s 97 122 _ HS.o).mono ?_;rw[H1.o];rintro e w' ⟨rfl,rfl⟩)|(go_at_call 155;refine (isReserved_any s _).mono ?_;rw[H2.o];rintro e w' ⟨rfl,rfl⟩))
  go_ret
  exact⟨by rw[HV.o,H1.o];try rw[H2.o]
           try rfl,rfl⟩
theorem isBasic_any (s:Ê) (w:À):Calls prog 188 #[.string s] w fun e w'=>e=.returned (.bool (basB s.data.toList))∧w=w':=by
 have HV:Hid (basB s.data.toList=(s.toList==[105,110,116]||s.toList==[98,111,111,108]||s.toList==[116,101,120,116]||s.toList==[117,110,105,116])):=by show _=_;rw[ByteArray.toList_eq];rfl
 cases h1:(s.toList==[105,110,116])<;>cases h2:(s.toList==[98,111,111,108])<;>cases h3:(s.toList==[116,101,120,116])<;>cases h4:(s.toList==[117,110,105,116])
 all_goals
  have H:=η (And.intro h1 (And.intro h2 (And.intro h3 h4)))
  go_in
  go_wp2
  go_ret
  exact⟨by rw[HV.o,H.o.1,H.o.2.1,H.o.2.2.1,H.o.2.2.2];rfl,rfl⟩
theorem isMessage_any (s:Ê) (w:À) (hs:s.size≤maxLen):Calls prog 111 #[.string s] w fun e w'=>e=.returned (.bool (msgB s.data.toList))∧w=w':=by
 have HS:=η hs
 have HV:Hid (msgB s.data.toList=((s.toList==[105,110,105,116])||uppB s.data.toList)):=by show _=_;rw[ByteArray.toList_eq];rfl
 clear hs
 cases h1:(s.toList==[105,110,105,116])<;>cases h2:uppB s.data.toList
 all_goals
  obtain⟨H2,H1⟩:=zd2 h2 h1
  clear h2
  go_in
  go_wp2_with (go_at_call 100;refine (isUpper_any s _ HS.o).mono ?_;rw[H2.o];rintro e w' ⟨rfl,rfl⟩)
  go_ret
  exact⟨by rw[HV.o,H1.o];try rw[H2.o]
           try rfl,rfl⟩
theorem isBinding_any (s:Ê) (w:À) (hs:s.size≤maxLen):Calls prog 212 #[.string s] w fun e w'=>e=.returned (.bool (bndB s.data.toList))∧w=w':=by
 have HS:=η hs
 have HV:Hid (bndB s.data.toList=((s.toList==[95])||lowB s.data.toList)):=by show _=_;rw[ByteArray.toList_eq];rfl
 clear hs
 cases h1:(s.toList==[95])<;>cases h2:lowB s.data.toList
 all_goals
  obtain⟨H2,H1⟩:=zd2 h2 h1
  clear h2
  go_in
  go_wp2_with (go_at_call 104;refine (isLower_any s _ HS.o).mono ?_;rw[H2.o];rintro e w' ⟨rfl,rfl⟩)
  go_ret
  exact⟨by rw[HV.o,H1.o];try rw[H2.o]
           try rfl,rfl⟩
theorem isPattern_any (s:Ê) (w:À) (hs:s.size≤maxLen):Calls prog 211 #[.string s] w fun e w'=>e=.returned (.bool (patB s.data.toList))∧w=w':=by
 have HS:=η hs
 have HV:Hid (patB s.data.toList=((s.toList==[95])||uppB s.data.toList)):=by show _=_;rw[ByteArray.toList_eq];rfl
 clear hs
 cases h1:(s.toList==[95])<;>cases h2:uppB s.data.toList
 all_goals
  obtain⟨H2,H1⟩:=zd2 h2 h1
  clear h2
  go_in
  go_wp2_with (go_at_call 100;refine (isUpper_any s _ HS.o).mono ?_;rw[H2.o];rintro e w' ⟨rfl,rfl⟩)
  go_ret
  exact⟨by rw[HV.o,H1.o];try rw[H2.o]
           try rfl,rfl⟩
theorem isTypeName_any (s:Ê) (w:À) (hs:s.size≤maxLen):Calls prog 156 #[.string s] w fun e w'=>e=.returned (.bool (typB s.data.toList))∧w=w':=by
 have HS:=η hs
 have HV:Hid (typB s.data.toList=(basB s.data.toList||uppB s.data.toList)):=rfl
 clear hs
 cases h1:basB s.data.toList<;>cases h2:uppB s.data.toList
 all_goals
  obtain⟨H2,H1⟩:=zd2 h2 h1
  clear h1 h2
  go_in
  go_wp2_with (first|(go_at_call 188;refine (isBasic_any s _).mono ?_;rw[H1.o];rintro e w' ⟨rfl,rfl⟩)|(go_at_call 100;refine (isUpper_any s _ HS.o).mono ?_;rw[H2.o];rintro e w' ⟨rfl,rfl⟩))
  go_ret
  exact⟨by rw[HV.o,H1.o];try rw[H2.o]
           try rfl,rfl⟩
theorem p_lowB:PredSaid 104 lowB:=⟨fun _ _=>by kernel_rfl,fun s w h=>isLower_any s w h⟩
theorem p_uppB:PredSaid 100 uppB:=⟨fun _ _=>by kernel_rfl,fun s w h=>isUpper_any s w h⟩
theorem p_msgB:PredSaid 111 msgB:=⟨fun _ _=>by kernel_rfl,fun s w h=>isMessage_any s w h⟩
theorem p_bndB:PredSaid 212 bndB:=⟨fun _ _=>by kernel_rfl,fun s w h=>isBinding_any s w h⟩
theorem p_patB:PredSaid 211 patB:=⟨fun _ _=>by kernel_rfl,fun s w h=>isPattern_any s w h⟩
theorem p_typB:PredSaid 156 typB:=⟨fun _ _=>by kernel_rfl,fun s w h=>isTypeName_any s w h⟩
end Go.Proofs.YtbmknjfgjphfbaaGreatDoor
