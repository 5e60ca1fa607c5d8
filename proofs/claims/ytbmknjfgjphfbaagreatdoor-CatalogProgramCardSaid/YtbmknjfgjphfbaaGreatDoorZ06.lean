import Derived.Maps.AppendAt
import Derived.Test.YtbmknjfgjphfbaaGreatDoorZ05
set_option linter.all false
namespace Go.Proofs.YtbmknjfgjphfbaaGreatDoor
set_option maxRecDepth 100000
set_option maxHeartbeats 8000000
section
open Proofs.Tryz RowKit
def waitB (md:Region.Mode) (ops:Array Oper) (z i:Nat):Bool:=match nthO ops.toList z with
 | some o=>o.after.any fun e=>Region.binds md e&&e.on==i
 | none=>false
section
variable {P:Program} {md:Region.Mode} {ops:Array Oper} {Q:Exit→Act→À→Prop} {S:À→Prop} {z:Nat}
def wpT (P:Program) (md:Region.Mode) (ops:Array Oper) (Q:Exit→Act→À→Prop) (S:À→Prop) (z:Nat):Nat→Array Bool→Act→À→Prop
 | 0,listed,a,w=>Region.ready md ops listed=[]∧Q .normal a w
 | fuel+1,listed,a,w =>
  (Region.ready md ops listed=[]→Q .normal a w) ∧
  ∀i∈Region.ready md ops listed,wpOp P ops Q i (fun a' w'=>(i≠z→S w')∧wpT P md ops Q S z fuel (listed.setIfInBounds i true) a' w') a w
theorem wpAny_of_T:∀(fuel:Nat) (listed:Array Bool) (a:Act) (w:À),wpT P md ops Q S z fuel listed a w→wpAny P md ops Q fuel listed a w
 | 0,_,_,_,h=>h
 | fuel+1,_,_,_,h=>⟨h.1,fun i hi=>wpOp_mono (fun a' w' h'=>wpAny_of_T fuel _ a' w' h'.2) (h.2 i hi)⟩
theorem waitB_spec {i:Nat} (h:waitB md ops z i=true):∃o,ops[z]?=some o∧∃e∈o.after,Region.binds md e=true∧e.on=i:=by
 unfold waitB at h
 split at h
 · rename_i o ho
   refine⟨o,nthO_eq ho,?_⟩
   rw[Array.any_eq_true] at h
   obtain⟨j,hj,he⟩:=h
   simp only[Bool.and_eq_true,beq_iff_eq] at he
   exact⟨_,Array.getElem_mem hj,he.1,he.2⟩
 · cases h
theorem wpT_first {i:Nat} {oi:Oper} {v:Value} (hi:ops[i]?=some oi) (hz:waitB md ops z i=true) (hsel:∀(j:Nat) (o:Oper) cs b,ops[j]?=some o→o.op≠.select cs b)
 (hQ:∀c a w,Q (.panic c) (a.put oi.dst v) w→Q (.panic c) a w) :
 ∀(fuel:Nat) (listed:Array Bool) (a:Act) (w:À),
  (∀j oj,ops[j]?=some oj→j≠i→listed.getD j true=false→(∀e∈oj.after,Region.binds md e=true→e.on≠i)→oi.apart ops oj=true) →
  i∈Region.ready md ops listed→YieldsIf P ops S oi v a→S w →
  wpT P md ops Q S z fuel (listed.setIfInBounds i true) (a.put oi.dst v) w→wpT P md ops Q S z (fuel+1) listed a w:=by
 intro fuel
 induction fuel with
 | zero =>
  intro listed a w _ hr hy hS H
  refine⟨fun h=>(by rw[h] at hr;cases hr),fun j hj=>?_⟩
  by_cases hji:j=i
  · subst hji;exact hy.wpOp hi hS ⟨fun _=>hS,H⟩
  · have:=ready_mono hj hji
    rw[H.1] at this
    cases this
 | succ fuel ih =>
  intro listed a w hfree hr hy hS H
  refine⟨fun h=>(by rw[h] at hr;cases hr),fun j hj=>?_⟩
  by_cases hji:j=i
  · subst hji;exact hy.wpOp hi hS ⟨fun _=>hS,H⟩
  · have h1:=H.2 j (ready_mono hj hji)
    obtain⟨hjun,oj,hoj,hall⟩:=mem_ready.1 hj
    have hnot:∀e∈oj.after,Region.binds md e=true→e.on≠i:=fun e he hb heq=>by
     have h1:=hall e he hb
     have h0:=(mem_ready.1 hr).1
     rw[heq] at h1
     rcases Nat.lt_or_ge i listed.size with h'|h'
     · simp[h'] at h0 h1;rw[h0] at h1;cases h1
     · simp[Array.getElem?_eq_none h'] at h1
    have hjz:j≠z:=fun e=>by
     obtain⟨o,ho,x,hx,hb,he⟩:=waitB_spec hz
     rw[e,ho] at hoj
     cases hoj
     exact hnot x hx hb he
    have h2:=wpOp_putIf hoj (hfree j oj hoj hji hjun hnot) (fun cs b=>hsel i oi cs b hi) (fun cs b=>hsel j oj cs b hoj) hQ hy h1
    have hfree':∀k ok,ops[k]?=some ok→k≠i→(listed.setIfInBounds j true).getD k true=false →
     (∀e∈ok.after,Region.binds md e=true→e.on≠i)→oi.apart ops ok=true:=fun k ok hk hki hun hno=>by
     refine hfree k ok hk hki ?_ hno
     by_cases hjk:j=k
     · subst hjk;exact hjun
     · rw[getD_set_ne true hjk] at hun;exact hun
    refine wpOp_mono (fun a' w' h3=>⟨h3.2.1,ih (listed.setIfInBounds j true) a' w' hfree' (ready_mono hr (Ne.symm hji)) h3.1 (h3.2.1 hjz) ?_⟩) h2
    rw[Array.setIfInBounds_comm _ _ hji]
    exact h3.2.2
variable {fuel:Nat} {listed:Array Bool} {a a':Act} {w:À} {dst:Option Nat} {op:Op} {ty:Nat} {pos:String} {after:Array Edge} {g:Option (Nat×Bool)} {v:Value}
theorem ttB (S:À→Prop) (z:Nat) {id:Nat} (hS:S w.drew) (h:S w.drew→wpT P .any ops Q S z ops.size (Array.replicate ops.size false) a w.drew) (hm:P.follows .mixedOrders=true:=by kernel_rfl):(Code.region id ops true).wp P Q a w:=
 wp_region_any hm (wpAny_of_T _ _ _ _ (h hS))
theorem ttQ (i:Nat) (h:wpT P md ops Q S z fuel (listed.setIfInBounds i true) a' w)
 (hr:(Region.ready md ops listed).contains i=true:=by kernel_rfl)
 (hi:nthO ops.toList i=some { dst:=dst,op:=op,type:=ty,pos:=pos,after:=after,guard:=g }:=by exact rfl)
 (hs:Region.noSelect ops=true:=by kernel_rfl) (hf:Region.free md ops listed i=true:=by kernel_rfl)
 (hz:waitB md ops z i=true:=by kernel_rfl)
 (hw:Region.wanted { dst:=dst,op:=op,type:=ty,pos:=pos,after:=after,guard:=g } (yielded ops a.tmps)=true:=by rfl)
 (hy:∀w,S w→(execOp a.eval { dst:=dst,op:=op,type:=ty,pos:=pos,after:=after,guard:=g }).run P w=.ok (.value v) w:=by intro w hSw;go_simp;first|done|with_reducible rfl)
 (hS:S w:=by assumption) (hQ:∀c a w,Q (.panic c) (a.put dst v) w→Q (.panic c) a w:=by exact fun _ _ _ h=>h)
 (ha:a.put dst v=a':=by first|(simp only[Act.put,List.setIfInBounds_toArray,List.set_cons_zero,List.set_cons_succ];rfl)|rfl):wpT P md ops Q S z (fuel+1) listed a w:=
 wpT_first (nthO_eq hi) hz (Region.noSelect_spec hs) hQ fuel listed a w (Region.free_spec (nthO_eq hi) hf) (by simpa using hr) (.inl ⟨hw,hy⟩) hS (by rw[ha];exact h)
theorem ttE (i:Nat) (h:∀K':Act→À→Prop,Shut (∀a w,(i≠z→S w)→((i≠z→S w)→wpT P md ops Q S z fuel (listed.setIfInBounds i true) a w)→K' a w)→if Region.wanted { dst:=dst,op:=op,type:=ty,pos:=pos,after:=after,guard:=g } (yielded ops a.tmps)=true then Oper.wp P { dst:=dst,op:=op,type:=ty,pos:=pos,after:=after,guard:=g } a w K' Q else K' (a.put dst undef) w)
 (hi:nthO ops.toList i=some { dst:=dst,op:=op,type:=ty,pos:=pos,after:=after,guard:=g }:=by exact rfl)
 (hr:Region.ready md ops listed=[i]:=by kernel_rfl):wpT P md ops Q S z (fuel+1) listed a w:=
 ⟨fun h0=>(by rw[hr] at h0;cases h0),fun j hj=>by
  rw[hr] at hj
  have hj:j=i:=by simpa using hj
  subst hj
  exact wpOp_step (nthO_eq hi) fun K' hK=>h K' (fun a w hS hW=>hK a w ⟨hS,hW hS⟩)⟩
theorem ttR {i:Nat} {K:Act→World→Prop} (hK:Shut (∀a w,(i≠z→S w)→((i≠z→S w)→wpT P md ops Q S z fuel (listed.setIfInBounds i true) a w)→K a w)) (hS:i≠z→S w) (h:(i≠z→S w)→wpT P md ops Q S z fuel (listed.setIfInBounds i true) a' w)
 (ha:a=a':=by first|(simp only[Act.put,List.setIfInBounds_toArray,List.set_cons_zero,List.set_cons_succ];rfl)|rfl):K a w:=
 hK.out _ _ hS (fun hw=>by rw[ha];exact h hw)
theorem ttD (h:Q .normal a w) (hr:Region.ready md ops listed=[]:=by kernel_rfl):wpT P md ops Q S z fuel listed a w:=by
 cases fuel with
 | zero=>exact⟨hr,h⟩
 | succ n=>exact⟨fun _=>h,by rw[hr];simp⟩
theorem ld24 {o:Oper} {ev:Operand→Value} (x:Operand) (ho:o.op=.load 83 x) (g:Nat) (hx:ev x=.pointer (some ⟨g,0,none⟩)) (cs:Array Value) (hz:cs.size=5) {w:À} (hg:Hs w g 83 cs):(execOp ev o).run prog w=.ok (.value (.agg cs)) w:=by
 unfold execOp
 simp only[ho,hx,Instr.loadAt,Instr.sureAddr,Sem.run_bind,Sem.run_pure,Result.andThen_ok,run_loadVar_row w g 83 83 cs (0,0) _ hg underlying83 rfl (by rw[hz];kernel_rfl)]
theorem app_wp {K:Act→À→Prop} {o:Oper} {a:Act} {w:À} (s x:Operand) (t:TypeId)
 (ho:o.op=.call { callee:=.builtin .append,args:=#[s,x],argTypes:=#[t,t] })
 (base:Nat) (e:TypeId) (i:TypeInfo) (z:Value) (size bytes:Nat) (ht:P.underlying t=some (.slice e)) (hi:P.info? e=some i) (hz:i.zero=some z)
 (hsize:i.size=size) (hby:i.bytes=bytes) (hzs:z.cells.size=size) (hsz:0<size)
 (v:Value) (n:Nat) (xs:List Value) (hs:a.eval s=v) (hown:w.ownsRow base e size v n xs)
 (ad:Addr) (m c:Nat) (news:List Value) (hx:a.eval x=.slice (some ad) m c) (hl:news.length=m*size) (hnews:∀j u,news[j]?=some u→w.cell? (ad.add j)=some u) (h1:∀u∈news,u.oneCell'=true)
 (h63:n+m≤maxLen) (hbytes:(n+m)*bytes≤140737488355328) (hbase:base≤w.heap.size)
 (h:∀v' w',w'.ownsRow base e size v' (n+m) (xs++news)→w.grownBy w' v.ownBlock→(v'=.slice none 0 0↔v=.slice none 0 0∧m=0)→(v'.ownBlock=v.ownBlock∨v'.ownBlock=some w.heap.size)→K (a.put o.dst v') w') :
 Oper.wp P o a w K Q:=by
 obtain⟨v',w',hr,h2,h3,h4,h5⟩:=run_append_own_at (P:=P) w base t o.type e i z size bytes ht hi hz hsize hby hzs hsz v n xs hown ad m c news hl hnews h1 h63 hbytes hbase
 unfold Oper.wp execOp
 simp only[ho,resolve,invoke,builtin,Sem.run_bind,Sem.run_pure,Result.andThen_ok,List.map_toArray,List.map_cons,List.map_nil,hs,hx,hr]
 exact h v' w' h2 h3 h4 h5
end
end
section
open Proofs.Tryz RowKit Maps WideMaps ChangeMaps
theorem arm_said (c:Cx) (h:Bool) {m:M Nd} (HE:Said 181 #[.pointer (some ⟨c.pb,0,none⟩)] c h NdV m) {n:Nat} (hn:n≤1000000000):Said 206 #[.pointer (some ⟨c.pb,0,none⟩)] c h NdV (armP c.e m n):=fun w r k hne=>by
 have HX:=η HE
 clear HE
 have PS:=η (pattern_said c h hn 39 (by unfold i64;omega))
 obtain⟨W0,HW,A⟩:=Sw.s1 k
 obtain⟨R,hR⟩:∃R,R=(armP c.e m n) r:=⟨_,rfl⟩
 rw[←hR] at hne ⊢
 obtain⟨io,hio,hiz,his,hib⟩:=info_parts info_83
 have HIO:=η (And.intro hio (And.intro hiz (And.intro his hib)))
 clear hio hiz his hib
 obtain⟨HN,HR⟩:=zd2 hne hR
 clear hR hne k
 go_in
 go_upto_region 1 with fail
 rw[←HW.o]
 clear HW
 go_wp2_with fail
 cases a1:patP c.e 39 n r with
 | out=>exact absurd (HR.o.trans (bd_out a1)) HN.o
 | bad q =>
  refine (Said.bad PS.o A.o.pw a1).mono ?_
  rintro _ W1 ⟨rfl,s⟩
  exact⟨rfl,Sw.bd A s (HR.o.trans (bd_bad a1))⟩
 | ok x q =>
  have H1:=η (HR.o.trans (bd_ok a1))
  have Z0:=η A.o.lo.2.2.2
  refine (Said.ok PS.o A.o.pw a1).mono ?_
  rintro _ W1 ⟨_,rfl,⟨k1,s1,p1,l1,A1,c1,rfl,rfl,hb,hl,hrow⟩,s,p⟩
  obtain⟨HB,HL,RZ⟩:=zd3 hb hl (RowX.lt hrow)
  replace A:=Sw.nk A s p (K2:=RowE (·=W1.heap.size) W0.heap.size (.slice A1 l1.length c1) l1) (fun X y=>RowX.to (RowE.e hrow (fun g e=>by rw[e];exact Nat.le_refl _)) y Z0.o)
  have Z1:=η A.o.lo.2.2.2
  replace A:=Sw.al A (cl k1 s1 0 p1 A1 l1.length c1).toArray
  clear s p hrow hb hl HR a1
  go_wp2_with fail
  cases a3:(wl q==[61,62]) with
  | false =>
   refine (expect_no A.o.pw (s:=⟨#[61,62]⟩) a3).mono ?_
   rintro _ W2 ⟨rfl,s⟩
   exact⟨rfl,Sw.bd A s (H1.o.trans (bd_bad (exp_f a3)))⟩
  | true =>
  have H2:=η (H1.o.trans (bd_ok (exp_t a3)))
  refine (expect_yes A.o.pw (s:=⟨#[61,62]⟩) a3 π).mono ?_
  rintro _ W2 ⟨rfl,s,p⟩
  replace A:=Sw.n A s p
  clear s p H1 a3
  go_upto_region 3 with fail
  have RL:=η (RowX.lt (Sw.now A).1.2)
  have HS:=η (Sw.now A).2
  have D0:=η (Stp.of_below (own:=only c.pb) (belDr W2))
  replace A:=Sw.bel A (belDr W2)
  refine ttB (fun X=>X.cell? ⟨W1.heap.size,4,none⟩=some (.slice A1 l1.length c1)) 7 ((Sw.now A).2.c 4) (fun hHeld=>?_)
  refine ttQ 0 ?_
  refine ttQ 1 ?_
  refine ttQ 2 ?_
  refine ttE 3 (fun K hK=>?_)
  go_simp
  cases a2:m (q.tail) with
  | out=>exact absurd (H2.o.trans (bd_out a2)) HN.o
  | bad q2 =>
   refine (Said.bad HX.o A.o.pw a2).mono ?_
   rintro _ W3 ⟨rfl,s⟩
   exact⟨rfl,Sw.bd A s (H2.o.trans (bd_bad a2))⟩
  | ok y q2 =>
   obtain⟨H3,RD⟩:=zd2 (H2.o.trans (bd_ok a2)) (RowX.lt (Sw.now A).1.2)
   have HZ2:=η (Sw.now A).2.lt
   refine (Said.ok HX.o A.o.pw a2).mono ?_
   rintro _ W3 ⟨_,rfl,⟨k2,s2,n2,p2,D2,l2,c2,rfl,hnd⟩,s,p⟩
   replace A:=Sw.nd A s p hnd
   clear s p hnd a2 H2
   refine ttR hK (fun _=>(Sw.now A).1.2.c 4) (fun hHeld=>?_)
   clear hK K
   refine ttE 4 (fun K hK=>?_)
   go_simp
   obtain⟨_,_,xs,ho,hr⟩:=(Sw.now A).1.1.2
   obtain⟨HO,HRW⟩:=zd2 ho hr
   have HD:=η (Sw.now A).2
   have HB2:=η (Sw.now A).1.2
   clear ho hr
   have hal:(W3.alloc (.cells (cl k2 s2 n2 p2 D2 l2 c2).toArray 83)).cell? ⟨W1.heap.size,4,none⟩=some (.slice A1 l1.length c1):=celA (HB2.o.c 4) _
   refine ttR hK (fun _=>hal) (fun hHeld=>?_)
   clear hK K hal
   refine ttE 5 (fun K hK=>?_)
   rw[if_pos (by rfl)]
   refine app_wp (.tmp 9) (.tmp 12) 81 rfl W0.heap.size 83 io _ 5 64 underlying81 HIO.o.1 HIO.o.2.1 HIO.o.2.2.1 HIO.o.2.2.2 rfl π (.slice A1 l1.length c1) l1.length xs rfl (row_al HO.o _) ⟨W3.heap.size,0,none⟩ 1 1 (cl k2 s2 n2 p2 D2 l2 c2) rfl rfl (World.news_of_block (Hs.new _ _ _)) (by intro u hu;simp at hu;repeat (first|(subst hu;rfl)|(rcases hu with rfl|hu;rfl))) (by have:=HL.o;unfold maxLen;omega) (by have:=HL.o;omega) (sz_al ((RowX.lt (Sw.now A).1.1.2).1) _) ?_
   intro vv W5 hown hgrow hnil hvb
   obtain⟨A6,c6,rfl⟩:=row_form hown
   have hgn:∀g,(Value.slice A1 l1.length c1).ownBlock=some g→g<W1.heap.size:=fun g e=>(RZ.o.2 g e).2
   have hb5:Hs W5 W1.heap.size 83 (cl k1 s1 0 p1 A1 l1.length c1).toArray:=(hgrow.block W1.heap.size (by have:=HB2.o.lt;simp;omega) (fun e=>by have:=hgn _ e.symm;omega)).trans (hs_al HB2.o _)
   have HB5:=η hb5
   replace A:=Sw.push A hgrow hvb hown (by simp) HRW.o HD.o rfl RD.o Z0.o (fun b e=>by have:=e;have:=HB2.o.lt;have:=HZ2.o;omega) (fun g e x=>by have:=hgn g e;omega)
   clear hown hgrow hnil hvb hgn
   refine ttR hK (fun _=>hb5.c 4) (fun hHeld=>?_)
   clear hK K hb5
   have hH:=hHeld π
   refine ttQ 6 ?_
   refine ttE 7 (fun K hK=>?_)
   have f4:=HB5.o.free 4
   go_simp
   have hs:=hs_put (i:=4) (v:=.slice A6 (l1.length+1) c6) HB5.o
   have hr2:=RowE.set (i:=4) (u:=.slice A6 (l1.length+1) c6) (Sw.now A) (show W1.heap.size=W1.heap.size from rfl)
   replace A:=Sw.setg (g:=W1.heap.size) (i:=4) (v:=.slice A6 (l1.length+1) c6) A Z1.o (K2:=fun X=>Hs X W1.heap.size 83 (cl k1 s1 0 p1 A6 (l1.length+1) c6).toArray∧RowE (·=W1.heap.size) W0.heap.size (.slice A6 (l1.length+1) c6) (l1++[y]) X) (fun X x=>⟨hs_agr hs x Z1.o,RowX.to hr2 x Z0.o⟩)
   refine ttR hK (fun e=>absurd rfl e) (fun _=>?_)
   clear hK K hs hr2 f4 hH hHeld
   refine ttD ?_
   obtain⟨W6,hW6⟩:∃W6,Hid (W6=W5.setCell ⟨W1.heap.size,4,none⟩ (.slice A6 (l1.length+1) c6)):=⟨_,rfl⟩
   rw[←hW6.o] at A ⊢
   clear hW6
   have O:=setRow_heap _ _ _ (cl k1 s1 0 p1 A6 (l1.length+1) c6).toArray _ _ (A.o.bx rfl)
   have E:=Sw.e A (k:=k1) (s:=s1) (n:=0) (p:=p1) (D:=A6) (l:=l1.length+1) (cap:=c6) (a:=.mk k1 s1 0 p1 (l1++[y])) fun X hx k=>NdR.of ⟨HB.o.1,by unfold i64;omega,HB.o.2.1⟩ HB.o.2.2 (RowX.nds k.2 (by have:=Z0.o;omega))
   go_wp2_with (first|(refine wpList_load_row rfl 83 _ rfl W1.heap.size rfl 83 _ _ _ (Sw.now A).1 underlying83 rfl Δ ?_)|(refine wpList_store_row rfl 83 _ _ rfl w.heap.size (cl k1 s1 0 p1 A6 (l1.length+1) c6).toArray rfl rfl 83 _ (A.o.bx rfl) Δ rfl (by simp[Value.oneCell']) ?_))
   exact bodyPost_ret (results_cell_row results206 _ _ w.heap.size 83 _ _ _ rfl O underlying83 rfl Δ) rfl (by rw[H3.o];exact E.o)
theorem sarm_said (c:Cx) (h:Bool) {m:M Nd} (HE:Said 182 #[.pointer (some ⟨c.pb,0,none⟩)] c h NdV m) {n:Nat} (hn:n≤1000000000):Said 229 #[.pointer (some ⟨c.pb,0,none⟩)] c h NdV (patP c.e 54 n >>= fun a=>m >>= fun b=>pure (addK [b] a)):=fun w r k hne=>by
 have HX:=η HE
 clear HE
 have PS:=η (pattern_said c h hn 54 (by unfold i64;omega))
 obtain⟨W0,HW,A⟩:=Sw.s1 k
 obtain⟨R,hR⟩:∃R,R=(patP c.e 54 n >>= fun a=>m >>= fun b=>pure (addK [b] a)) r:=⟨_,rfl⟩
 rw[←hR] at hne ⊢
 obtain⟨io,hio,hiz,his,hib⟩:=info_parts info_83
 have HIO:=η (And.intro hio (And.intro hiz (And.intro his hib)))
 clear hio hiz his hib
 obtain⟨HN,HR⟩:=zd2 hne hR
 clear hR hne k
 go_in
 go_upto_region 1 with fail
 rw[←HW.o]
 clear HW
 go_wp2_with fail
 cases a1:patP c.e 54 n r with
 | out=>exact absurd (HR.o.trans (bd_out a1)) HN.o
 | bad q =>
  refine (Said.bad PS.o A.o.pw a1).mono ?_
  rintro _ W1 ⟨rfl,s⟩
  exact⟨rfl,Sw.bd A s (HR.o.trans (bd_bad a1))⟩
 | ok x q =>
  have H1:=η (HR.o.trans (bd_ok a1))
  have Z0:=η A.o.lo.2.2.2
  refine (Said.ok PS.o A.o.pw a1).mono ?_
  rintro _ W1 ⟨_,rfl,⟨k1,s1,p1,l1,A1,c1,rfl,rfl,hb,hl,hrow⟩,s,p⟩
  obtain⟨HB,HL,RZ⟩:=zd3 hb hl (RowX.lt hrow)
  replace A:=Sw.nk A s p (K2:=RowE (·=W1.heap.size) W0.heap.size (.slice A1 l1.length c1) l1) (fun X y=>RowX.to (RowE.e hrow (fun g e=>by rw[e];exact Nat.le_refl _)) y Z0.o)
  have Z1:=η A.o.lo.2.2.2
  replace A:=Sw.al A (cl k1 s1 0 p1 A1 l1.length c1).toArray
  clear s p hrow hb hl HR a1
  obtain⟨W2,hW2⟩:∃W2,Hid (W2=W1.alloc (.cells (cl k1 s1 0 p1 A1 l1.length c1).toArray 83)):=⟨_,rfl⟩
  rw[←hW2.o] at A
  go_upto_region 2 with fail
  rw[←hW2.o]
  clear hW2
  have RL:=η (RowX.lt (Sw.now A).1.2)
  have HS:=η (Sw.now A).2
  have D0:=η (Stp.of_below (own:=only c.pb) (belDr W2))
  replace A:=Sw.bel A (belDr W2)
  refine ttB (fun X=>X.cell? ⟨W1.heap.size,4,none⟩=some (.slice A1 l1.length c1)) 7 ((Sw.now A).2.c 4) (fun hHeld=>?_)
  refine ttQ 0 ?_
  refine ttQ 1 ?_
  refine ttQ 2 ?_
  refine ttE 3 (fun K hK=>?_)
  go_simp
  cases a2:m (q) with
  | out=>exact absurd (H1.o.trans (bd_out a2)) HN.o
  | bad q2 =>
   refine (Said.bad HX.o A.o.pw a2).mono ?_
   rintro _ W3 ⟨rfl,s⟩
   exact⟨rfl,Sw.bd A s (H1.o.trans (bd_bad a2))⟩
  | ok y q2 =>
   obtain⟨H3,RD⟩:=zd2 (H1.o.trans (bd_ok a2)) (RowX.lt (Sw.now A).1.2)
   have HZ2:=η (Sw.now A).2.lt
   refine (Said.ok HX.o A.o.pw a2).mono ?_
   rintro _ W3 ⟨_,rfl,⟨k2,s2,n2,p2,D2,l2,c2,rfl,hnd⟩,s,p⟩
   replace A:=Sw.nd A s p hnd
   clear s p hnd a2 H1
   refine ttR hK (fun _=>(Sw.now A).1.2.c 4) (fun hHeld=>?_)
   clear hK K
   refine ttE 4 (fun K hK=>?_)
   go_simp
   obtain⟨_,_,xs,ho,hr⟩:=(Sw.now A).1.1.2
   obtain⟨HO,HRW⟩:=zd2 ho hr
   have HD:=η (Sw.now A).2
   have HB2:=η (Sw.now A).1.2
   clear ho hr
   have hal:(W3.alloc (.cells (cl k2 s2 n2 p2 D2 l2 c2).toArray 83)).cell? ⟨W1.heap.size,4,none⟩=some (.slice A1 l1.length c1):=celA (HB2.o.c 4) _
   refine ttR hK (fun _=>hal) (fun hHeld=>?_)
   clear hK K hal
   refine ttE 5 (fun K hK=>?_)
   rw[if_pos (by rfl)]
   refine app_wp (.tmp 7) (.tmp 10) 81 rfl W0.heap.size 83 io _ 5 64 underlying81 HIO.o.1 HIO.o.2.1 HIO.o.2.2.1 HIO.o.2.2.2 rfl π (.slice A1 l1.length c1) l1.length xs rfl (row_al HO.o _) ⟨W3.heap.size,0,none⟩ 1 1 (cl k2 s2 n2 p2 D2 l2 c2) rfl rfl (World.news_of_block (Hs.new _ _ _)) (by intro u hu;simp at hu;repeat (first|(subst hu;rfl)|(rcases hu with rfl|hu;rfl))) (by have:=HL.o;unfold maxLen;omega) (by have:=HL.o;omega) (sz_al ((RowX.lt (Sw.now A).1.1.2).1) _) ?_
   intro vv W5 hown hgrow hnil hvb
   obtain⟨A6,c6,rfl⟩:=row_form hown
   have hgn:∀g,(Value.slice A1 l1.length c1).ownBlock=some g→g<W1.heap.size:=fun g e=>(RZ.o.2 g e).2
   have hb5:Hs W5 W1.heap.size 83 (cl k1 s1 0 p1 A1 l1.length c1).toArray:=(hgrow.block W1.heap.size (by have:=HB2.o.lt;simp;omega) (fun e=>by have:=hgn _ e.symm;omega)).trans (hs_al HB2.o _)
   have HB5:=η hb5
   replace A:=Sw.push A hgrow hvb hown (by simp) HRW.o HD.o rfl RD.o Z0.o (fun b e=>by have:=e;have:=HB2.o.lt;have:=HZ2.o;omega) (fun g e x=>by have:=hgn g e;omega)
   clear hown hgrow hnil hvb hgn
   refine ttR hK (fun _=>hb5.c 4) (fun hHeld=>?_)
   clear hK K hb5
   have hH:=hHeld π
   refine ttQ 6 ?_
   refine ttE 7 (fun K hK=>?_)
   have f4:=HB5.o.free 4
   go_simp
   have hs:=hs_put (i:=4) (v:=.slice A6 (l1.length+1) c6) HB5.o
   have hr2:=RowE.set (i:=4) (u:=.slice A6 (l1.length+1) c6) (Sw.now A) (show W1.heap.size=W1.heap.size from rfl)
   replace A:=Sw.setg (g:=W1.heap.size) (i:=4) (v:=.slice A6 (l1.length+1) c6) A Z1.o (K2:=fun X=>Hs X W1.heap.size 83 (cl k1 s1 0 p1 A6 (l1.length+1) c6).toArray∧RowE (·=W1.heap.size) W0.heap.size (.slice A6 (l1.length+1) c6) (l1++[y]) X) (fun X x=>⟨hs_agr hs x Z1.o,RowX.to hr2 x Z0.o⟩)
   refine ttR hK (fun e=>absurd rfl e) (fun _=>?_)
   clear hK K hs hr2 f4 hH hHeld
   refine ttD ?_
   obtain⟨W6,hW6⟩:∃W6,Hid (W6=W5.setCell ⟨W1.heap.size,4,none⟩ (.slice A6 (l1.length+1) c6)):=⟨_,rfl⟩
   rw[←hW6.o] at A ⊢
   clear hW6
   have O:=setRow_heap _ _ _ (cl k1 s1 0 p1 A6 (l1.length+1) c6).toArray _ _ (A.o.bx rfl)
   have E:=Sw.e A (k:=k1) (s:=s1) (n:=0) (p:=p1) (D:=A6) (l:=l1.length+1) (cap:=c6) (a:=.mk k1 s1 0 p1 (l1++[y])) fun X hx k=>NdR.of ⟨HB.o.1,by unfold i64;omega,HB.o.2.1⟩ HB.o.2.2 (RowX.nds k.2 (by have:=Z0.o;omega))
   go_wp2_with (first|(refine wpList_load_row rfl 83 _ rfl W1.heap.size rfl 83 _ _ _ (Sw.now A).1 underlying83 rfl Δ ?_)|(refine wpList_store_row rfl 83 _ _ rfl w.heap.size (cl k1 s1 0 p1 A6 (l1.length+1) c6).toArray rfl rfl 83 _ (A.o.bx rfl) Δ rfl (by simp[Value.oneCell']) ?_))
   exact bodyPost_ret (results_cell_row results229 _ _ w.heap.size 83 _ _ _ rfl O underlying83 rfl Δ) rfl (by rw[H3.o];exact E.o)
end
section
open Proofs.Tryz RowKit Maps WideMaps ChangeMaps
theorem RowG.app {R:List Value→Nd→Prop} {xs:List Value} {l:List Nd} (h:RowG 5 R xs l):∀{ys:List Value} {l2:List Nd},RowG 5 R ys l2→RowG 5 R (xs++ys) (l++l2):=by
 intro ys l2 h2
 refine⟨by simp[h.1,h2.1,Nat.add_mul],fun i hi=>?_⟩
 by_cases hl:i<l.length
 · rw[List.getElem_append_left hl]
   have:=h.2 i hl
   have e:((xs++ys).drop (i*5)).take 5=(xs.drop (i*5)).take 5:=by
    rw[List.drop_append_of_le_length (by rw[h.1];omega),List.take_append_of_le_length (by simp[h.1];omega)]
   rw[e];exact this
 · rw[List.getElem_append_right ω]
   have hi2:i-l.length<l2.length:=by simp at hi;omega
   have:=h2.2 (i-l.length) hi2
   have e:(xs++ys).drop (i*5)=ys.drop ((i-l.length)*5):=by
    rw[List.drop_append,List.drop_of_length_le (by rw[h.1];omega),List.nil_append]
    congr 1;rw[h.1];omega
   rw[e];exact this
theorem nd_one {w:À} {P:Nat→Prop} {cs:List Value} {t:Nd} (h:NdR w P cs t):cs.length=5∧∀u∈cs,u.oneCell'=true:=by
 obtain⟨k,s,n,p,a,A,cap,rfl,_⟩:=nd_form h
 exact⟨rfl,by intro u hu;simp at hu;rcases hu with rfl|rfl|rfl|rfl|rfl<;>rfl⟩
theorem row_one {w:À} {P:Nat→Prop} {xs:List Value} {l:List Nd} (h:RowG 5 (NdR w P) xs l):∀u∈xs,u.oneCell'=true:=by
 intro u hu
 obtain⟨j,hj,rfl⟩:=List.getElem_of_mem hu
 have hj5:j/5<l.length:=by rw[h.1] at hj;omega
 have h1:=nd_one (h.2 (j/5) hj5)
 refine h1.2 _ ?_
 have e:((xs.drop (j/5*5)).take 5)[j%5]?=some xs[j]:=by
  rw[List.getElem?_take,if_pos (Nat.mod_lt _ ω),List.getElem?_drop,show j/5*5+j%5=j by omega]
  exact List.getElem?_eq_getElem hj
 exact List.mem_of_getElem? e
theorem run_append_nil (A:Option Addr) (n cap:Nat) (h:n≤cap) (ty:TypeId) (w:À):(Builtin.append_ #[81,81] ty #[.slice A n cap,.slice none 0 0]).run prog w=.ok (.slice A n cap) w:=by
 have hq:(prog.info? 83).map (·.size)=some 5:=by kernel_rfl
 cases hi:prog.info? 83 with
 | none=>rw[hi] at hq;cases hq
 | some i =>
  cases A with
  | none=>simp[Builtin.append_,Sem.run_bind,run_underlying underlying81,sizeOf,typeInfo,hi,Builtin.lenOf,Builtin.firstCells,Result.andThen,h]
  | some a=>simp[Builtin.append_,Sem.run_bind,run_underlying underlying81,sizeOf,typeInfo,hi,Builtin.lenOf,Builtin.firstCells,Result.andThen,h,storeCells]
section
variable {ops:Array Oper} {rest:List Oper} {o:Oper} {a:Act} {Q:Exit→Act→À→Prop} {w:À}
theorem wpList_app_nil (hgd:o.guard=none) (s x:Operand) (ho:o.op=.call { callee:=.builtin .append,args:=#[s,x],argTypes:=#[81,81] }) (A:Option Addr) (n cap:Nat) (hs:a.eval s=.slice A n cap) (hx:a.eval x=.slice none 0 0) (hn:n≤cap) (h:wpList prog ops Q rest (a.put o.dst (.slice A n cap)) w):wpList prog ops Q (o::rest) a w:=by
 refine wpList_plain hgd fun K hK=>?_
 unfold Oper.wp execOp
 simp only[ho,resolve,invoke,builtin,Sem.run_bind,Sem.run_pure,Result.andThen_ok,List.map_toArray,List.map_cons,List.map_nil,hs,hx,run_append_nil A n cap hn]
 exact hK _ _ h
theorem app_nil_wp {K:Act→À→Prop} (s x:Operand) (ho:o.op=.call { callee:=.builtin .append,args:=#[s,x],argTypes:=#[81,81] }) (A:Option Addr) (n cap:Nat) (hs:a.eval s=.slice A n cap) (hx:a.eval x=.slice none 0 0) (hn:n≤cap) (h:K (a.put o.dst (.slice A n cap)) w):Oper.wp prog o a w K Q:=by
 unfold Oper.wp execOp
 simp only[ho,resolve,invoke,builtin,Sem.run_bind,Sem.run_pure,Result.andThen_ok,List.map_toArray,List.map_cons,List.map_nil,hs,hx,run_append_nil A n cap hn]
 exact h
end
section
variable {c:Cx} {w W W':À} {n0:Nat} {q q':List Tk} {h h':Bool} {K K2:À→Prop}
theorem RowX.cap {E:Nat→Prop} {n:Nat} {A:Option Addr} {m cap:Nat} {l:List Nd} {X:À} (h:RowE E n (.slice A m cap) l X):m=l.length∧m≤cap:=by
 obtain⟨_,_,xs,ho,_⟩:=h
 rcases ho.2 with ⟨e,h0⟩|⟨g,cp,cur,e,hb,hh,hnc,hcm,hcs,hct⟩
 · injection e with e1 e2 e3;omega
 · injection e with e1 e2 e3;omega
theorem Sw.one {m:Nat} {cs:List Value} {a:Nd} (A:Hid (Sw c w n0 W q h K)) (hnd:NdR W (nw m W) cs a) (hm:n0≤m) (hmw:m≤W.heap.size):Hid (Sw c w n0 (W.alloc (.cells cs.toArray 83)) q h (fun X=>K X∧RowX m (.slice (some ⟨W.heap.size,0,none⟩) 1 1) [a] X)):=by
 have hc:=(nd_one hnd).1
 have hR:RowX m (.slice (some ⟨W.heap.size,0,none⟩) 1 1) [a] (W.alloc (.cells cs.toArray 83)):=by
  refine⟨by simp;omega,fun _ _ h=>h.elim,cs,?_,?_⟩
  · have:=own_one (w:=W) (base:=m) hmw cs.toArray (by simpa using hc)
    simpa using this
  · have:=RowG.snoc (Q:=NdR (W.alloc (.cells cs.toArray 83)) (fun b=>nb m (.slice (some ⟨W.heap.size,0,none⟩) 1 1) (W.alloc (.cells cs.toArray 83)) b∧¬NoE b)) (size:=5) (xs:=[]) (l:=[]) (a:=a) (RowG.nil _) hc (hnd.to fun b hb=>⟨⟨⟨hb.1,by have:=hb.2;simp;omega,fun e=>by injection e with e;have:=hb.2;simp at e;omega⟩,fun h=>h.elim⟩,Below.heap_alloc _ _ _ hb.2⟩)
    simpa using this
 exact Sw.nk A (Stp.of_below (belA (belR _) _)) (A.o.pw.bel (belA (belR _) _)) fun X x=>RowX.to hR x hm
theorem Sw.pushs {n n2 N:Nat} {v v2 v5:Value} {l l2:List Nd} {xs ys:List Value} {W5:À} (A:Hid (Sw c w n0 W q h K)) (hg:W.grownBy W5 v.ownBlock) (hvb:v5.ownBlock=v.ownBlock∨v5.ownBlock=some W.heap.size) (hown':W5.ownsRow n 83 5 v5 N (xs++ys)) (hN:N=l.length+l2.length) (hr:RowG 5 (NdR W (fun b=>nb n v W b∧¬NoE b)) xs l) (hr2:RowG 5 (NdR W (fun b=>nb n2 v2 W b∧¬NoE b)) ys l2) (hm:n≤n2∧∀g,v.ownBlock=some g→n≤g∧g<n2) (hn:n0≤n) (hnw:n2≤W.heap.size):Hid (Sw c w n0 W5 q h (RowX n v5 (l++l2))):=by
 have hown:W5.ownsRow n 83 5 v5 (l.length+l2.length) (xs++ys):=hN▸hown'
 have hl:=A.o.lo
 have hz:=hg.size
 have hv:∀g,v.ownBlock=some g→n≤g:=fun g e=>(hm.2 g e).1
 have hb:∀b,b<W.heap.size→v.ownBlock≠some b→W5.heap[b]?=W.heap[b]?:=fun b h1 h2=>hg.block b h1 (fun e=>h2 e.symm)
 have R5:RowX n v5 (l++l2) W5:=by
  refine⟨?_,fun _ _ h=>h.elim,xs++ys,by rw[List.length_append];exact hown,?_⟩
  · have:=hm.1;omega
  · refine RowG.app (hr.to fun cs a x=>x.to fun b h1=>⟨⟨⟨h1.1.1,Nat.lt_of_lt_of_le h1.1.2.1 hz,fun e=>?_⟩,h1.2⟩,hb b h1.1.2.1 h1.1.2.2⟩) (hr2.to fun cs a x=>x.to fun b h1=>⟨⟨⟨Nat.le_trans hm.1 h1.1.1,Nat.lt_of_lt_of_le h1.1.2.1 hz,fun e=>?_⟩,h1.2⟩,hb b h1.1.2.1 (fun e=>by have:=(hm.2 b e).2;have:=h1.1.1;omega)⟩)
    · rcases hvb with e2|e2
      · have:=(hm.2 b (e2.symm.trans e)).2;have:=h1.1.1;omega
      · rw[e] at e2;injection e2 with e2;have:=h1.1.2.1;omega
    · rcases hvb with e2|e2
      · exact h1.1.2.2 (e2.symm.trans e)
      · rw[e] at e2;injection e2 with e2;have:=h1.1.2.1;omega
 have st:Stp (only c.pb) w W5:=⟨hg.os.trans A.o.st.os,hg.tape.trans A.o.st.tape,hg.output.trans A.o.st.output,Nat.le_trans A.o.st.size hz,fun k hk hn2=>(hb k (Nat.lt_of_lt_of_le hk A.o.st.size) (fun e=>by have:=hv k e;omega)).trans (A.o.st.block k hk hn2)⟩
 refine⟨A.o.pw.stp' hz (fun b h1 h2=>hb b ω (fun e=>by have:=hv b e;omega)) ((hb _ ω (fun e=>by have:=hv _ e;omega)).trans A.o.pw.box) (List.suffix_refl _),st,⟨hl.1,hl.2.1,hl.2.2.1,by omega⟩,fun e=>?_,fun X x=>RowX.to R5 x hn⟩
 have hb2:=A.o.bx e
 exact (hb w.heap.size hb2.lt (fun e2=>by have:=hv _ e2;omega)).trans hb2
end
end
section
open Proofs.Tryz RowKit
open Go.RowKit Go.Maps Go.WideMaps Go.ChangeMaps
class Con {α:Type} (m:M α):Prop where
 h:∀ts a r,m ts=.ok a r→r <:+ ts∧r.length<ts.length
section
variable {α β:Type} {r q:List Tk}
theorem con_tl {ts r:List Tk} (hn:ts≠[]) (h:r <:+ ts.tail):r <:+ ts∧r.length<ts.length:=by
 refine⟨h.trans (List.tail_suffix ts),?_⟩
 have h1:=suf_len h
 have h2:0<ts.length:=List.length_pos_iff.2 hn
 have h3:ts.tail.length=ts.length-1:=List.length_tail
 omega
instance:Con (failP:M α):=⟨fun ts _ _ h=>(by cases h)⟩
instance:Con (outP:M α):=⟨fun ts _ _ h=>(by cases h)⟩
instance (c:UInt8) (w:List UInt8):Con (expect (c::w)):=⟨fun ts a r h=>by
 unfold expect at h
 split at h
 · rename_i hh;cases h;exact con_tl (ne_of_wl (s:=c::w) (by simp) hh) (List.suffix_refl _)
 · cases h⟩
instance (p:List UInt8→Bool) [hp:NEp p]:Con (name p):=⟨fun ts a r h=>by
 unfold name at h
 split at h
 · rename_i hh
   cases h
   refine con_tl (fun e=>?_) (List.suffix_refl _)
   subst e
   rw[show p (wl [])=false from hp.h] at hh;cases hh
 · cases h⟩
theorem Con.bd_ {m:M α} {f:α→M β} (hm:Con m) (hf:∀a,Suf (f a)):Con (m >>= f):=⟨fun ts b r h=>by
 have h:(m ts).bd f=.ok b r:=h
 cases hx:m ts with
 | out=>rw[hx] at h;cases h
 | bad q=>rw[hx] at h;cases h
 | ok a q =>
  rw[hx] at h
  have h1:=hm.h ts a q hx
  have h2:=((hf a).h q).1 b r h
  exact⟨h2.trans h1.1,Nat.lt_of_le_of_lt (suf_len h2) h1.2⟩⟩
instance (m:M α) (f:α→M β) [hm:Con m] [hf:∀a,Suf (f a)]:Con (m >>= f):=Con.bd_ hm hf
theorem nxt_t {m:M α} (h:r≠[]):nextP m r=m r.tail:=by
 cases r with
 | nil=>exact absurd rfl h
 | cons t l=>rfl
instance (m:M α) [hm:Suf m]:Con (nextP m):=⟨fun ts a r h=>by
 cases ts with
 | nil=>cases h
 | cons t l=>exact con_tl (by simp) ((hm.h l).1 a r h)⟩
instance (c:UInt8) (w:List UInt8) (y n:M α) [hy:Suf y] [hn:Con n]:Con (acc (c::w) y n):=⟨fun ts a r h=>by
 have h:(if wl ts==c::w then y ts.tail else n ts)=.ok a r:=h
 split at h
 · rename_i hh;exact con_tl (ne_of_wl (s:=c::w) (by simp) hh) ((hy.h _).1 a r h)
 · exact hn.h ts a r h⟩
instance {c:Prop} [Decidable c] (a b:M α) [ha:Con a] [hb:Con b]:Con (if c then a else b):=by split<;>assumption
instance (f:List Tk→M α) [hf:∀t,Con (f t)]:Con (look f):=⟨fun ts a r h=>(hf ts).h ts a r h⟩
theorem low_ne' (h:lowB (wl r)=true):r≠[]:=by
 rintro rfl;cases h
theorem kd_ne' {k:Int} (h:kd r=k) (hk:k≠0):r≠[]:=by
 rintro rfl;exact hk h.symm
end
theorem kids_P {X:À} {P:Nat→Prop} {g:Nat} {cs:Array Value} (hn:P g) (hg:Hs X g 83 cs) (css:List (List Value)) (l:List Nd) (hc:cs.toList=css.flatten) (hl:css.length=l.length) (h5:∀x∈css,x.length=5) (hm:l.length≤maxLen) (hr:∀i (h1:i<css.length) (h2:i<l.length),NdR X P css[i] l[i]) :
 NdsR X P (.slice (some ⟨g,0,none⟩) l.length l.length) l:=by
 refine⟨_,_,fun i=>css.getD i [],rfl,⟨hm,Nat.le_refl _⟩,fun _=>⟨g,0,rfl,hn,fun i hi=>?_⟩,fun i hi=>?_⟩
 · have e:css.getD i []=css[i]' ω:=by simp[List.getD_eq_getElem?_getD,hl,hi]
   show (css.getD i []).length=5∧∀(j:Nat) (u:Value),(css.getD i [])[j]?=some u→_
   rw[e]
   refine⟨h5 _ (List.getElem_mem _),fun j u hu=>?_⟩
   have hj:j<5:=by
    have h1:=(List.getElem?_eq_some_iff.1 hu).1
    rw[h5 _ (List.getElem_mem _)] at h1;exact h1
   rw[Hs.cell hg]
   have:cs.toList[0+i*5+j]?=some u:=by
    rw[hc]
    clear e hr hc hg
    have key:∀(css:List (List Value)) (i:Nat) (h:i<css.length),(∀x∈css,x.length=5)→j<5→css.flatten[i*5+j]?=(css[i])[j]?:=by
     intro css
     induction css with
     | nil=>intro i h;simp at h
     | cons x xs ih =>
      intro i h hx hj
      cases i with
      | zero=>simp only[List.flatten_cons,Nat.zero_mul,Nat.zero_add,List.getElem_cons_zero];rw[List.getElem?_append_left (by rw[hx x (by simp)];exact hj)]
      | succ i =>
       simp only[List.flatten_cons,List.getElem_cons_succ]
       rw[List.getElem?_append_right (by rw[hx x (by simp)];omega),hx x (by simp),show (i+1)*5+j-5=i*5+j by omega]
       exact ih i (by simpa using h) (fun y hy=>hx y (by simp[hy])) hj
    rw[Nat.zero_add,key css i ω h5 hj];exact hu
   rw[←this];simp
 · have e:css.getD i []=css[i]' ω:=by simp[List.getD_eq_getElem?_getD,hl,hi]
   show NdR X P (css.getD i []) l[i]
   rw[e];exact hr i ω hi
theorem kidP1 {X:À} {P:Nat→Prop} {g:Nat} {c1:List Value} {a:Nd} (hn:P g) (hg:Hs X g 83 c1.toArray) (h1:NdR X P c1 a) (l1:c1.length=5):NdsR X P (.slice (some ⟨g,0,none⟩) 1 1) [a]:=
 kids_P hn hg [c1] [a] (by simp) rfl (by simp[l1]) (by simp[maxLen]) (fun i x y=>by match i,x with|0,_=>exact h1)
theorem kidP2 {X:À} {P:Nat→Prop} {g:Nat} {c1 c2:List Value} {a b:Nd} (hn:P g) (hg:Hs X g 83 (c1++c2).toArray) (h1:NdR X P c1 a) (h2:NdR X P c2 b) (l1:c1.length=5) (l2:c2.length=5):NdsR X P (.slice (some ⟨g,0,none⟩) 2 2) [a,b]:=
 kids_P hn hg [c1,c2] [a,b] (by simp) rfl (by simp[l1,l2]) (by simp[maxLen]) (fun i x y=>by match i,x with|0,_=>exact h1|1,_=>exact h2)
def ndx (n g:Nat) (X:À) (b:Nat):Prop:=nw n X b∧b≠g
def BoxT (n g:Nat) (cs:List Value) (a:Nd) (X:À):Prop:=n≤g∧Hs X g 83 cs.toArray∧NdR X (ndx n g X) cs a
section
variable {c:Cx} {w W W' X Y:À} {n0 n m g:Nat} {q q':List Tk} {h h':Bool} {K K2:À→Prop} {cs:List Value} {a:Nd}
theorem agr_ndx (x:Agr m X Y) (hm:m≤n):Sub (ndx n g X) (ndx n g Y) X Y:=fun b hb=>⟨⟨⟨hb.1.1,Nat.lt_of_lt_of_le hb.1.2 x.z⟩,hb.2⟩,x.b b (Nat.le_trans hm hb.1.1) hb.1.2⟩
theorem BoxT.to (h:BoxT n g cs a X) (x:Agr m X Y) (hm:m≤n):BoxT n g cs a Y:=
 ⟨h.1,hs_agr h.2.1 x (Nat.le_trans hm h.1),h.2.2.to (agr_ndx x hm)⟩
theorem BoxT.nd (h:BoxT n g cs a X):NdR X (nw n X) cs a:=h.2.2.to fun b hb=>⟨hb.1,rfl⟩
theorem Sw.box (A:Hid (Sw c w n0 W q h K)) (hr:NdR W (nw m W) cs a) (hm:n0≤m):Hid (Sw c w n0 (W.alloc (.cells cs.toArray 83)) q h (BoxT n0 W.heap.size cs a)):=by
 have hl:=A.o.lo
 have A2:=Sw.al A cs.toArray
 have hb:BoxT n0 W.heap.size cs a (W.alloc (.cells cs.toArray 83)):=⟨hl.2.2.2,Hs.new _ _ _,hr.to fun b hb=>⟨⟨⟨Nat.le_trans hm hb.1,by have:=hb.2;simp;omega⟩,fun e=>by have:=hb.2;omega⟩,Below.heap_alloc _ _ _ hb.2⟩⟩
 exact⟨A2.o.pw,A2.o.st,A2.o.lo,A2.o.bx,fun X x=>hb.to x (Nat.le_refl _)⟩
theorem Sw.alt (A:Hid (Sw c w n0 W q h K)) (t:TypeId) (cs:Array Value):Hid (Sw c w n0 (W.alloc (.cells cs t)) q h (fun X=>K X∧Hs X W.heap.size t cs)):=
 Sw.nk A (Stp.of_below (belA (belR _) _)) (A.o.pw.bel (belA (belR _) _)) fun X x=>(x.b _ A.o.lo.2.2.2 (by simp)).trans (Hs.new W t cs)
theorem Sw.setrow {rs:Array Value} (A:Hid (Sw c w n0 W q h K)) (hg:n0≤g) (hk:∀X,Agr n0 (W.setRow g rs) X→K2 X):Hid (Sw c w n0 (W.setRow g rs) q h K2):=by
 have hl:=A.o.lo
 have hb:∀b,b≠g→(W.setRow g rs).heap[b]?=W.heap[b]?:=fun b hb=>setRow_other _ _ _ _ hb
 have hz:(W.setRow g rs).heap.size=W.heap.size:=by simp
 exact⟨A.o.pw.stp' (by rw[hz];exact Nat.le_refl _) (fun b h1 h2=>hb b ω) ((hb _ ω).trans A.o.pw.box) (List.suffix_refl _),stp_row A.o.st ω _,⟨hl.1,hl.2.1,hl.2.2.1,by rw[hz];exact hl.2.2.2⟩,fun e=>(hb _ ω).trans (A.o.bx e),hk⟩
theorem NdR.ndx (h:NdR X (nw m X) cs a) (hn:n≤m) (hg:g<m):NdR X (Proofs.YtbmknjfgjphfbaaGreatDoor.ndx n g X) cs a:=h.to fun b hb=>⟨⟨⟨Nat.le_trans hn hb.1,hb.2⟩,fun e=>by have:=hb.1;omega⟩,rfl⟩
theorem RowE.nds {v:Value} {l:List Nd} {E:Nat→Prop} (h:RowE E m v l X) (hn:n≤m) (hg:E g):NdsR X (Proofs.YtbmknjfgjphfbaaGreatDoor.ndx n g X) v l:=by
 obtain⟨_,he,xs,ho,hr⟩:=h
 exact (hr.to fun cs a y=>y.to (P':=Proofs.YtbmknjfgjphfbaaGreatDoor.ndx n g X) fun b hb=>⟨⟨⟨Nat.le_trans hn hb.1.1,hb.1.2.1⟩,fun e=>hb.2 (e▸hg)⟩,rfl⟩).sl ho fun k hk=>by have:=ho.lt k hk;exact⟨⟨Nat.le_trans hn this.1,this.2⟩,fun e=>he k hk (e▸hg)⟩
end
theorem Sw.hd {c:Cx} {w W W':À} {n0:Nat} {q:List Tk} {h:Bool} {K:À→Prop} (A:Hid (Sw c w n0 W q h K)) (v:Bool) (hW:Hid (W'=W.setCell ⟨c.pb,3,none⟩ (.bool v))):Hid (Sw c w n0 W' q v K):=by
 have:=A.o.pw.hd v
 rw[hW.o]
 exact Sw.n A this.2 this.1
theorem Sw.sk {c:Cx} {w W W':À} {n0:Nat} {q:List Tk} {h:Bool} {K:À→Prop} (A:Hid (Sw c w n0 W q h K)) (hq:q≠[]) (hW:Hid (W'=W.setCell ⟨c.pb,1,none⟩ (.int .i64 ((c.L.length-q.tail.length:Nat):Int)))):Hid (Sw c w n0 W' q.tail h K):=by
 have:=A.o.pw.skip hq
 rw[hW.o]
 exact Sw.n A this.2.1 this.1
end
end Go.Proofs.YtbmknjfgjphfbaaGreatDoor
