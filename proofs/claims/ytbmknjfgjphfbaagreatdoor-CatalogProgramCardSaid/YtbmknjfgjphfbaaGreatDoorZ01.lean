import Derived.Maps.OwnSet
import Derived.Maps.OwnOps
import Derived.StringKeys
import Derived.Test.YtbmknjfgjphfbaaGreatDoorZ00
set_option linter.all false
namespace Go.Proofs.YtbmknjfgjphfbaaGreatDoor
set_option maxRecDepth 100000
set_option maxHeartbeats 8000000
section
open Proofs.Tryz RowKit Maps WideMaps ChangeMaps
def heldV (v:Value):Option (DataW Value×List MemPlace):=some (.held v,[])
def MapIs {α:Type} (P:Program) (K:TypeId) (kl:α→Lit) (w:À) (b n:Nat) (f:α→Option Value):Prop:=
 ∃D:DataW Value,w.ownsMap P K heldV b n D∧Maps.size D=n∧∀s:α,Maps.has D (kl s)=(f s).isSome∧∀v,f s=some v→∀z,D.atKey (kl s) z=.held v
theorem ownsMap_exact {P:Program} {k:TypeId} {R:Value→Option (DataW Value×List MemPlace)} {w:À} {b n:Nat} {D:DataW Value} (h:w.ownsMap P k R b n D):w.ownsMap P k R b (Maps.size D) D:=by
 obtain⟨es,clock,hb,F,hs,rfl⟩:=h
 exact⟨es,clock,hb,F,by simp[Maps.size,length_sorted],rfl⟩
structure KeyOf {α:Type} (P:Program) (K:TypeId) (kl:α→Lit):Prop where
 keyed:Keyed P K
 apart:∀a b,kl a=kl b→a=b
section
variable {α:Type} {P:Program} {K:TypeId} {kl:α→Lit} {w w':À} {b n:Nat} {f:α→Option Value}
theorem MapIs.made (P:Program) (K:TypeId) (kl:α→Lit) (w:À):MapIs P K kl (w.alloc (.map #[] 0)) w.heap.size 0 (fun _=>none):=
 ⟨.map [],World.ownsMap_made w P K heldV,rfl,fun s=>⟨rfl,fun v h=>by cases h⟩⟩
theorem MapIs.lt (h:MapIs P K kl w b n f):b<w.heap.size:=by obtain⟨D,h,_⟩:=h;exact h.lt
theorem MapIs.same (h:MapIs P K kl w b n f) (hb:w'.heap[b]?=w.heap[b]?):MapIs P K kl w' b n f:=by
 obtain⟨D,⟨es,clock,h1,r1⟩,r⟩:=h
 exact⟨D,⟨es,clock,hb.trans h1,r1⟩,r⟩
theorem MapIs.to {Q Q':Nat→Prop} (h:MapIs P K kl w b n f) (hb:Sub Q Q' w w') (hB:Q b):MapIs P K kl w' b n f:=h.same (hb b hB).2
theorem MapIs.below {B:Nat} (h:MapIs P K kl w b n f) (hb:Below B w w') (hB:b<B):MapIs P K kl w' b n f:=h.same (hb.block b hB)
theorem MapIs.alloc (h:MapIs P K kl w b n f) (o:Obj):MapIs P K kl (w.alloc o) b n f:=by
 obtain⟨D,h,r⟩:=h;exact⟨D,h.alloc o,r⟩
theorem MapIs.setCell (h:MapIs P K kl w b n f) {a:Addr} (ha:b≠a.block) (u:Value):MapIs P K kl (w.setCell a u) b n f:=by
 obtain⟨D,h,r⟩:=h;exact⟨D,h.setCell ha u,r⟩
theorem MapIs.congr {g:α→Option Value} (h:MapIs P K kl w b n f) (e:∀s,f s=g s):MapIs P K kl w b n g:=by
 obtain rfl:f=g:=funext e
 exact h
theorem MapIs.look (h:MapIs P K kl w b n f) (hK:KeyOf P K kl) {t e:TypeId} (ht:P.underlying t=some (.map K e)) {z:Value} (hz:(zeroValue e).run P w=.ok z w) {key:Value} {s:α} (hs:keyOf P K key=some (kl s)) :
 (Instr.lookup t (.map (some b)) key false).run P w=.ok ((f s).getD z) w:=by
 obtain⟨D,h,_,hf⟩:=h
 obtain⟨v,ps,hrun,hv⟩:=h.lookup hK.keyed ht hz (zd:=.held z) (zp:=[]) rfl hs
 rw[hrun]
 obtain⟨h1,h2⟩:=hf s
 have hv':(DataW.held v:DataW Value)=D.atKey (kl s) (.held z):=by
  unfold heldV at hv
  injection hv with hv
  exact congrArg Prod.fst hv
 cases hc:f s with
 | none =>
  rw[hc] at h1
  rw[atKey_of_not_has h1] at hv'
  injection hv' with hv'
  rw[hv'];rfl
 | some u =>
  rw[h2 u hc] at hv'
  injection hv' with hv'
  rw[hv'];rfl
theorem MapIs.lookOk (h:MapIs P K kl w b n f) (hK:KeyOf P K kl) {t e:TypeId} (ht:P.underlying t=some (.map K e)) {z:Value} (hz:(zeroValue e).run P w=.ok z w) {key:Value} {s:α} (hs:keyOf P K key=some (kl s)) :
 (Instr.lookup t (.map (some b)) key true).run P w=.ok (.tuple #[(f s).getD z,.bool (f s).isSome]) w:=by
 obtain⟨D,h,_,hf⟩:=h
 obtain⟨v,ps,hrun,hv⟩:=h.look_ok hK.keyed ht hz (zd:=.held z) (zp:=[]) rfl hs
 obtain⟨h1,h2⟩:=hf s
 rw[hrun,h1]
 have hv':(DataW.held v:DataW Value)=D.atKey (kl s) (.held z):=by
  unfold heldV at hv
  injection hv with hv
  exact congrArg Prod.fst hv
 cases hc:f s with
 | none =>
  rw[hc] at h1
  rw[atKey_of_not_has h1] at hv'
  injection hv' with hv'
  rw[hv'];rfl
 | some u =>
  rw[h2 u hc] at hv'
  injection hv' with hv'
  rw[hv'];rfl
def upd [DecidableEq α] (f:α→Option Value) (s:α) (v:Option Value):α→Option Value:=fun t=>if t=s then v else f t
theorem MapIs.put [DecidableEq α] (h:MapIs P K kl w b n f) (hK:KeyOf P K kl) {t e:TypeId} (ht:P.underlying t=some (.map K e)) (hn:n<maxLen) {key:Value} {s:α} (hs:keyOf P K key=some (kl s)) (v:Value) :
 ∃w',(Instr.mapUpdate t (.map (some b)) key v).run P w=.ok () w'∧MapIs P K kl w' b (if (f s).isSome then n else n+1) (upd f s (some v))∧w.grownBy w' (some b):=by
 obtain⟨D,h,hsz,hf⟩:=h
 obtain⟨w',hrun,h',hg⟩:=h.update hK.keyed ht hn hs (val:=v) (d:=.held v) (ps:=[]) rfl
 have hsz':Maps.size (D.put (kl s) (.held v))=if (f s).isSome then n else n+1:=by
  rw[size_put (h.tidy hK.keyed),(hf s).1,hsz]
 refine⟨w',hrun,⟨_,?_,hsz',fun x=>?_⟩,hg⟩
 · rw[←hsz'];exact ownsMap_exact h'
 · have hkl:=hK.keyed.key hs
   unfold upd
   by_cases hx:x=s
   · subst hx
     rw[if_pos rfl]
     exact⟨has_put_same h.isMap hkl _,fun u hu z=>by injection hu with hu;subst hu;exact atKey_put_same h.isMap hkl _ _⟩
   · rw[if_neg hx]
     have hne:(kl x)≠kl s:=fun e=>hx (hK.apart _ _ e)
     exact⟨(has_put_other hne _).trans (hf x).1,fun u hu z=>(atKey_put_other hne _ _).trans ((hf x).2 u hu z)⟩
theorem MapIs.drop [DecidableEq α] (h:MapIs P K kl w b n f) (hK:KeyOf P K kl) {t e:TypeId} (ht:P.underlying t=some (.map K e)) {key:Value} {s:α} (hs:keyOf P K key=some (kl s)) (ty:TypeId) :
 ∃w' n',(Builtin.delete_ #[t,K] ty #[.map (some b),key]).run P w=.ok (.tuple #[]) w'∧n'+(if (f s).isSome then 1 else 0)=n∧MapIs P K kl w' b n' (upd f s none)∧w.grownBy w' (some b):=by
 obtain⟨D,h,hsz,hf⟩:=h
 obtain⟨w',hrun,h',hg⟩:=h.drop hK.keyed ht hs ty
 refine⟨w',_,hrun,?_,⟨_,ownsMap_exact h',rfl,fun x=>?_⟩,hg.grown⟩
 · have:=size_del (h.tidy hK.keyed) (k:=kl s);rw[(hf s).1,hsz] at this;exact this
 · unfold upd
   by_cases hx:x=s
   · subst hx
     rw[if_pos rfl]
     exact⟨has_del_same,fun u hu=>by cases hu⟩
   · rw[if_neg hx]
     have hne:(kl x)≠kl s:=fun e=>hx (hK.apart _ _ e)
     exact⟨(has_del_other hne).trans (hf x).1,fun u hu z=>(atKey_del_other hne _).trans ((hf x).2 u hu z)⟩
theorem MapIs.len (h:MapIs P K kl w b n f) {t e:TypeId} (ht:P.underlying t=some (.map K e)) (ty:TypeId):(Builtin.len_ #[t] ty #[.map (some b)]).run P w=.ok (.int .i64 (n:Int)) w:=by
 obtain⟨D,h,hsz,_⟩:=h
 rw[h.len ht ty,hsz]
end
theorem keyStr {P:Program} {K:TypeId} (hK:P.underlying K=some .string):KeyOf P K Lit.string:=⟨string_keyed hK,fun _ _ e=>by injection e⟩
section
variable {α:Type} [DecidableEq α] {P:Program} {K:TypeId} {kl:α→Lit} (w:À) {ops:Array Oper} {rest:List Oper} {o:Oper} {a:Act} {Q:Exit→Act→À→Prop}
theorem wpList_put_is (hg:o.guard=none) (m x v:Operand) (t:TypeId) (hop:o.op=Op.mapUpdate t m x v∨o.op=Op.insert t m x v)
 (e:TypeId) (hK:KeyOf P K kl) (ht:P.underlying t=some (.map K e)) (b n:Nat) (f:α→Option Value)
 (hm:a.eval m=.map (some b)) (his:MapIs P K kl w b n f) (hn:n<maxLen) (s:α) (key val:Value) (hx:a.eval x=key) (hv:a.eval v=val) (hs:keyOf P K key=some (kl s))
 (hk:∀w',MapIs P K kl w' b (if (f s).isSome then n else n+1) (upd f s (some val))→w.grownBy w' (some b)→wpList P ops Q rest (a.put o.dst undef) w') :
 wpList P ops Q (o::rest) a w:=by
 refine wpList_plain hg fun K' hK'=>?_
 obtain⟨w',hrun,r1,r2⟩:=his.put hK ht hn hs val
 unfold Oper.wp
 rcases hop with hop|hop
 all_goals
  simp[execOp,hop,hm,hx,hv,hrun,Result.andThen]
  exact hK' _ _ (hk w' r1 r2)
end
end
section
open Proofs.Tryz RowKit
def Re.fine {α:Type} (s:Bool) (ts:List Tk):Re α→Prop
 | .out=>False
 | .bad r=>r <:+ ts
 | .ok _ r=>r <:+ ts∧(s=true→r.length<ts.length)
def G {α:Type} (s:Bool) (L:Nat) (m:M α) (ts:List Tk):Prop:=ts.length≤L→(m ts).fine s ts
def GA {α:Type} (s:Bool) (L:Nat) (m:M α):Prop:=∀ts,G s L m ts
theorem Re.fine.weak {α:Type} {s:Bool} {ts:List Tk} {x:Re α} (h:x.fine s ts):x.fine false ts:=by
 cases x with
 | out=>exact h
 | bad r=>exact h
 | ok a r=>exact⟨h.1,fun h=>by cases h⟩
theorem suf_len {α:Type} {a b:List α} (h:a <:+ b):a.length≤b.length:=h.length_le
theorem GA.mono {α:Type} {s:Bool} {L L':Nat} {m:M α} (h:GA s L m) (hl:L'≤L):GA s L' m:=fun ts ht=>h ts ω
theorem GA.weak {α:Type} {s:Bool} {L:Nat} {m:M α} (h:GA s L m):GA false L m:=fun ts ht=>(h ts ht).weak
theorem G.bd1 {α β:Type} {s:Bool} {L:Nat} {m:M α} {f:α→M β} {ts:List Tk} (hm:G true L m ts) (hf:0<L→∀a,GA false (L-1) (f a)):G s L (m >>= f) ts:=by
 intro ht
 show ((m ts).bd f).fine s ts
 have h:=hm ht
 cases hx:m ts with
 | out=>rw[hx] at h;exact h
 | bad r=>rw[hx] at h;exact h
 | ok a r =>
  rw[hx] at h
  have h2:=hf (by have:=h.2 rfl;omega) a r (by have:=h.2 rfl;omega)
  show (f a r).fine s ts
  cases hy:f a r with
  | out=>rw[hy] at h2;exact h2
  | bad q=>rw[hy] at h2;exact List.IsSuffix.trans h2 h.1
  | ok b q=>rw[hy] at h2;exact⟨List.IsSuffix.trans h2.1 h.1,fun _=>by have:=h.2 rfl;have:=suf_len h2.1;omega⟩
theorem G.bd0 {α β:Type} {s:Bool} {L:Nat} {m:M α} {f:α→M β} {ts:List Tk} (hm:G false L m ts) (hf:∀a,GA s L (f a)):G s L (m >>= f) ts:=by
 intro ht
 show ((m ts).bd f).fine s ts
 have h:=hm ht
 cases hx:m ts with
 | out=>rw[hx] at h;exact h
 | bad r=>rw[hx] at h;exact h
 | ok a r =>
  rw[hx] at h
  have h2:=hf a r (by have:=suf_len h.1;omega)
  show (f a r).fine s ts
  cases hy:f a r with
  | out=>rw[hy] at h2;exact h2
  | bad q=>rw[hy] at h2;exact List.IsSuffix.trans h2 h.1
  | ok b q=>rw[hy] at h2;exact⟨List.IsSuffix.trans h2.1 h.1,fun hs=>by have:=h2.2 hs;have:=suf_len h.1;omega⟩
theorem wl_ne {ts:List Tk} {w:List UInt8} (hw:w≠[]) (h:(wl ts==w)=true):ts≠[]:=by
 rintro rfl
 have:wl []=w:=by simpa using h
 exact hw (this.symm.trans rfl)
theorem tail_suf {ts:List Tk} (h:ts≠[]):ts.tail <:+ ts∧ts.tail.length<ts.length:=by
 cases ts with
 | nil=>exact absurd rfl h
 | cons t r=>exact⟨List.suffix_cons t r,by simp⟩
theorem G.next {α:Type} {s:Bool} {L:Nat} {m:M α} {ts:List Tk} (hn:ts≠[]) (hm:0<L→GA false (L-1) m):G s L (nextP m) ts:=by
 intro ht
 cases ts with
 | nil=>exact absurd rfl hn
 | cons t r =>
  have h:=hm (by simp at ht;omega) r (by simp at ht;omega)
  show (m r).fine s (t::r)
  cases hx:m r with
  | out=>rw[hx] at h;exact h
  | bad q=>rw[hx] at h;exact List.IsSuffix.trans h (List.suffix_cons t r)
  | ok x q=>rw[hx] at h;exact⟨List.IsSuffix.trans h.1 (List.suffix_cons t r),fun _=>by have:=suf_len h.1;simp;omega⟩
theorem G.acc {α:Type} {s:Bool} {L:Nat} {w:List UInt8} {y n:M α} {ts:List Tk} (hy:0<L→GA false (L-1) y) (hn:G s L n ts) (hw:w≠[]:=by decide):G s L (acc w y n) ts:=by
 intro ht
 show (if wl ts==w then y ts.tail else n ts).fine s ts
 by_cases h:(wl ts==w)=true
 · rw[if_pos h]
   have hn:=wl_ne hw h
   have:=G.next (s:=s) (m:=y) hn hy ht
   cases ts with
   | nil=>exact absurd rfl hn
   | cons t r=>exact this
 · rw[if_neg h];exact hn ht
theorem G.expect {s:Bool} {L:Nat} {w:List UInt8} {ts:List Tk} (hw:w≠[]:=by decide):G s L (expect w) ts:=by
 intro ht
 unfold Proofs.YtbmknjfgjphfbaaGreatDoor.expect
 by_cases h:(wl ts==w)=true
 · rw[if_pos h];exact⟨(tail_suf (wl_ne hw h)).1,fun _=>(tail_suf (wl_ne hw h)).2⟩
 · rw[if_neg h];exact List.suffix_refl _
theorem G.name {s:Bool} {L:Nat} {p:List UInt8→Bool} {ts:List Tk} (hp:p []=false:=by rfl):G s L (name p) ts:=by
 intro ht
 unfold Proofs.YtbmknjfgjphfbaaGreatDoor.name
 by_cases h:p (wl ts)=true
 · rw[if_pos h]
   have:ts≠[]:=by rintro rfl;rw[show wl []=[] from rfl,hp] at h;cases h
   exact⟨(tail_suf this).1,fun _=>(tail_suf this).2⟩
 · rw[if_neg h];exact List.suffix_refl _
theorem G.int {s:Bool} {L:Nat} {ts:List Tk}:G s L intP ts:=by
 intro ht
 unfold intP
 cases ts with
 | nil=>exact List.suffix_refl _
 | cons t r =>
  show (if t.kind=2 then Re.ok t.n r else Re.bad (t::r)).fine s (t::r)
  by_cases h:t.kind=2
  · rw[if_pos h];exact⟨List.suffix_cons t r,fun _=>by simp⟩
  · rw[if_neg h];exact List.suffix_refl _
theorem G.pure {α:Type} {L:Nat} {a:α} {ts:List Tk}:G false L (pure a:M α) ts:=fun _=>⟨List.suffix_refl _,fun h=>by cases h⟩
theorem G.fail {α:Type} {s:Bool} {L:Nat} {ts:List Tk}:G s L (failP:M α) ts:=fun _=>List.suffix_refl _
theorem G.look {α:Type} {s:Bool} {L:Nat} {f:List Tk→M α} {ts:List Tk} (h:G s L (f ts) ts):G s L (look f) ts:=h
theorem G.ite {α:Type} {s:Bool} {L:Nat} {c:Prop} [Decidable c] {a b:M α} {ts:List Tk} (ha:c→G s L a ts) (hb:¬c→G s L b ts):G s L (if c then a else b) ts:=by
 by_cases h:c
 · rw[if_pos h];exact ha h
 · rw[if_neg h];exact hb h
theorem tail_G {m:M Nd}:∀(n L:Nat),L<n→GA true (L-1) m→GA false L (tailP m n)
 | 0,L,h,hm=>absurd h ω
 | n+1,L,h,hm=>by
  intro ts
  unfold tailP
  exact G.acc (fun _ _=>G.bd1 (hm _) fun _ _ _=>G.bd0 (tail_G n _ ω (hm.mono ω) _) fun _ _=>G.pure) G.pure
theorem items_G {m:M Nd} {s:Bool} {w:List UInt8} (n L:Nat) (h:L≤n) (hm:GA true L m) (ts:List Tk) (hw:w≠[]:=by decide):G s L (itemsP w m n) ts:=by
 unfold itemsP
 exact G.bd1 (hm _) fun _ _ _=>G.bd0 (tail_G n _ ω (hm.mono ω) _) fun _ _=>G.bd0 (G.expect hw) fun _ _=>G.pure
theorem list_G {m:M Nd} {s:Bool} {w:List UInt8} (n L:Nat) (h:L≤n) (hm:GA true L m) (ts:List Tk) (hw:w≠[]:=by decide):G s L (listP w m n) ts:=by
 unfold listP
 exact G.acc (fun _ _=>G.pure) (items_G n L h hm _ hw) hw
theorem until_G {m:M Nd} {s:Bool} {w:List UInt8} (hw:w≠[]:=by decide):∀(n L:Nat),L<n→GA true L m→GA s L (untilP w m n)
 | 0,L,h,hm=>absurd h ω
 | n+1,L,h,hm=>by
  intro ts
  unfold untilP
  exact G.acc (fun _ _=>G.pure) (G.bd1 (hm _) fun _ _ _=>G.bd0 (until_G hw n _ ω (hm.mono ω) _) fun _ _=>G.pure) hw
section
variable (e:Int)
theorem typ_G:∀(n L:Nat) (s:Bool),L<n→GA s L (typP e n)
 | 0,L,s,h=>absurd h ω
 | n+1,L,s,h=>by
  have ih:∀(L:Nat) (s:Bool),L<n→GA s L (typP e n):=fun L s h=>typ_G n L s h
  intro ts
  unfold typP
  refine G.look (G.acc (fun h0 _=>?_) (G.acc (fun h0 _=>?_) (G.acc (fun h0 _=>?_) ?_)))
  · exact G.bd0 (ih _ _ ω _) fun _ _=>G.bd0 G.expect fun _ _=>G.pure
  · exact G.bd0 G.name fun _ _=>G.pure
  · exact G.bd0 G.expect fun _ _=>G.bd0 (list_G _ _ ω (ih _ _ ω) _) fun _ _=>G.bd0 G.expect fun _ _=>G.bd0 (ih _ _ ω _) fun _ _=>G.pure
  · exact G.bd1 G.name fun _ _ _=>G.pure
theorem field_G (n L:Nat) (s:Bool) (h:L≤n):GA s L (fieldP e n):=by
 intro ts
 unfold fieldP
 exact G.look (G.bd1 G.name fun h0 _ _=>G.bd0 G.expect fun _ _=>G.bd0 (typ_G e _ _ _ ω _) fun _ _=>G.pure)
theorem fields_G (n L:Nat) (s:Bool) (h:L≤n):GA s L (fieldsP e n):=by
 intro ts
 unfold fieldsP
 exact G.bd1 G.expect fun h0 _ _=>list_G _ _ ω (field_G e _ _ _ ω) _
theorem bind_G (L:Nat) (s:Bool):GA s L (bindP e):=by
 intro ts
 unfold bindP
 exact G.look (G.bd1 G.name fun _ _ _=>G.pure)
theorem pat_G (k:Int) (n L:Nat) (s:Bool) (h:L≤n):GA s L (patP e k n):=by
 intro ts
 unfold patP
 exact G.look (G.bd1 G.name fun h0 _ _=>G.ite (fun _=>G.pure) fun _=>G.acc (fun _ _=>G.bd0 (items_G _ _ ω (bind_G e _ _) _) fun _ _=>G.pure) G.pure)
theorem ctor_G (n L:Nat) (s:Bool) (h:L≤n):GA s L (ctorP e n):=by
 intro ts
 unfold ctorP
 exact G.look (G.bd1 G.name fun h0 _ _=>G.acc (fun _ _=>G.bd0 (items_G _ _ ω (typ_G e _ _ _ ω) _) fun _ _=>G.pure) G.pure)
theorem args_G {m:M Nd} (n L:Nat) (s:Bool) (h:L≤n) (hm:0<L→GA true (L-1) m):GA s L (argsP m n):=by
 intro ts
 unfold argsP
 exact G.bd1 G.expect fun h0 _ _=>list_G _ _ ω (hm h0) _
theorem set_G {m:M Nd} (L:Nat) (s:Bool) (hm:0<L→GA false (L-1) m):GA s L (setP e m):=by
 intro ts
 unfold setP
 exact G.look (G.bd1 G.name fun h0 _ _=>G.bd1 G.expect fun h1 _ _=>G.bd0 (((hm h0).mono ω) _) fun _ _=>G.pure)
theorem arm_G {m:M Nd} (n L:Nat) (s:Bool) (h:L≤n) (hm:0<L→GA false (L-1) m):GA s L (armP e m n):=by
 intro ts
 unfold armP
 exact G.bd1 (pat_G e _ _ _ _ h _) fun h0 _ _=>G.bd1 G.expect fun h1 _ _=>G.bd0 (((hm h0).mono ω) _) fun _ _=>G.pure
theorem function_G {m:M Nd} (n L:Nat) (s:Bool) (h:L≤n) (hm:0<L→GA false (L-1) m):GA s L (functionP e m n):=by
 intro ts
 unfold functionP
 exact G.bd1 (fields_G e _ _ _ h _) fun h0 _ _=>G.bd1 G.expect fun h1 _ _=>G.bd1 (typ_G e _ _ _ ω _) fun h2 _ _=>G.bd1 G.expect fun h3 _ _=>G.bd0 (((hm h0).mono ω) _) fun _ _=>G.pure
theorem lev_ne {ts:List Tk} {lv:Nat} (h:levP (wl ts)=some lv):ts≠[]:=by
 rintro rfl
 rw[show levP (wl [])=none from by decide] at h;cases h
theorem low_ne {ts:List Tk} (h:lowB (wl ts)=true):ts≠[]:=by
 rintro rfl
 rw[show lowB (wl [])=false from by decide] at h;cases h
theorem bin_G (lv:Nat) {m:M Nd} (at_:Int):∀(n L:Nat) (a:Nd),L<n→(0<L→GA true (L-1) m)→GA false L (binP lv m at_ n a)
 | 0,L,a,h,hm=>absurd h ω
 | n+1,L,a,h,hm=>by
  intro ts
  unfold binP
  refine G.look (G.ite (fun hl=>G.next (lev_ne hl) fun h0 _=>G.bd1 (hm h0 _) fun h1 _ _=>G.ite (fun _=>G.pure) (fun _=>?_)) (fun _=>G.pure))
  exact bin_G lv at_ n _ _ ω (fun _=>(hm h0).mono ω) _
theorem tails_G {m:M Nd} (at_:Int):∀(n L:Nat) (a:Nd),L<n→(0<L→GA true (L-1) m)→GA false L (tailsP e m at_ n a)
 | 0,L,a,h,hm=>absurd h ω
 | n+1,L,a,h,hm=>by
  intro ts
  unfold tailsP
  refine G.look (G.ite (fun _=>?_) (fun _=>G.acc (fun h0 _=>?_) (G.acc (fun h0 _=>?_) G.pure)))
  · exact G.bd1 (args_G _ _ _ ω hm _) fun h0 _=>tails_G at_ n _ _ ω (fun _=>(hm h0).mono ω)
  · exact G.bd1 G.name fun h1 _=>tails_G at_ n _ _ ω (fun _=>(hm h0).mono ω)
  · exact G.bd1 G.expect fun h1 _ _=>G.bd1 (items_G (s:=true) _ _ ω (set_G e _ _ fun _=>((hm h0).mono ω).weak) _) fun h2 _=>tails_G at_ n _ _ ω (fun _=>(hm h0).mono ω)
theorem kd_ne {ts:List Tk} (h:kd ts≠0):ts≠[]:=by
 rintro rfl;exact h rfl
theorem cons_G {x:M Nd} (n L:Nat) (s:Ê) (p:Int) (hn:L≤n) (hx:0<L→GA true (L-1) x):GA false L (consP x n s p):=by
 intro ts
 unfold consP
 exact G.acc (fun h1 _=>G.bd0 (items_G _ _ ω ((hx h1).mono ω) _) fun _ _=>G.pure) G.pure
theorem prim_G {x:M Nd} (n L:Nat) (h:Bool) (s:Bool) (hn:L≤n) (hx:0<L→GA true (L-1) x):GA s L (primP e x n h):=by
 intro ts
 unfold primP
 refine G.look ?_
 refine G.ite (fun hk=>G.next (kd_ne (by rw[hk];decide)) fun _ _=>G.pure) (fun _=>G.ite (fun hk=>G.next (kd_ne (by rw[hk];decide)) fun _ _=>G.pure) (fun _=>?_))
 · refine G.acc (fun _ _=>G.pure) (G.acc (fun _ _=>G.pure) (G.acc (fun _ _=>G.pure) (G.acc (fun h0 _=>?_) (G.acc (fun h0 _=>?_) (G.ite (fun hl=>G.next (low_ne hl) fun _ _=>G.pure) (fun _=>G.bd1 G.name fun h0 _ _=>G.ite (fun _=>cons_G _ _ _ _ ω (fun _=>(hx h0).mono ω) _) (fun _=>G.acc (fun h1 _=>?_) (cons_G _ _ _ _ ω (fun _=>(hx h0).mono ω) _))))))))
   · exact G.bd0 (list_G _ _ ω (hx h0) _) fun _ _=>G.pure
   · exact G.acc (fun _ _=>G.pure) (G.bd0 ((hx h0).weak _) fun _ _=>G.bd0 G.expect fun _ _=>G.pure)
   · exact G.bd0 (list_G _ _ ω (set_G e _ _ fun _=>((hx h0).mono ω).weak) _) fun _ _=>G.pure
theorem both_G:∀(n:Nat),(∀(L:Nat) (h s:Bool),20*L+15≤n→GA s L (exprP e n h))∧(∀(L:Nat) (h s:Bool) (lv:Nat),1≤lv→lv≤8→20*L+14≤n+lv→GA s L (operP e n h lv))
 | 0=>⟨fun L h s hl=>absurd hl ω,fun L h s lv h1 h8 hl=>absurd hl ω⟩
 | n+1=>by
  have ih:=both_G n
  have iE:∀(L:Nat) (h s:Bool),20*L+15≤n→GA s L (exprP e n h):=ih.1
  have iO:∀(L:Nat) (h s:Bool) (lv:Nat),1≤lv→lv≤8→20*L+14≤n+lv→GA s L (operP e n h lv):=ih.2
  constructor
  · intro L h s hl ts
    unfold exprP
    refine G.look (G.acc (fun h0 _=>?_) (G.acc (fun h0 _=>?_) (G.acc (fun h0 _=>?_) (G.acc (fun h0 _=>?_) (iO _ _ _ _ ω ω ω _)))))
    · exact G.bd0 G.name fun _ _=>G.bd0 G.expect fun _ _=>G.bd0 (iE _ _ _ ω _) fun _ _=>G.bd0 G.expect fun _ _=>G.bd0 (iE _ _ _ ω _) fun _ _=>G.pure
    · exact G.bd0 (iE _ _ _ ω _) fun _ _=>G.bd0 G.expect fun _ _=>G.bd0 (iE _ _ _ ω _) fun _ _=>G.bd0 G.expect fun _ _=>G.bd0 (iE _ _ _ ω _) fun _ _=>G.pure
    · exact G.bd0 (iE _ _ _ ω _) fun _ _=>G.bd0 G.expect fun _ _=>G.bd0 (items_G _ _ ω (arm_G e _ _ _ ω fun _=>iE _ _ _ ω) _) fun _ _=>G.pure
    · exact G.bd0 (function_G e _ _ _ ω (fun _=>iE _ _ _ ω) _) fun _ _=>G.pure
  · intro L h s lv h1 h8 hl ts
    unfold operP
    refine G.look (G.ite (fun h3=>?_) (fun h3=>G.ite (fun h8=>?_) (fun h8=>?_)))
    · exact G.acc (fun h0 _=>G.bd0 (iO _ _ _ _ ω ω ω _) fun _ _=>G.pure) (iO _ _ _ _ ω ω ω _)
    · exact G.acc (fun h0 _=>G.bd0 (iO _ _ _ _ ω ω ω _) fun _ _=>G.pure) (G.bd1 (prim_G e _ _ _ _ ω (fun _=>iE _ _ _ ω) _) fun h0 _=>tails_G e _ _ _ _ ω (fun _=>iE _ _ _ ω))
    · exact G.bd1 (iO _ _ _ _ ω ω ω _) fun h0 _=>bin_G _ _ _ _ _ ω (fun _=>iO _ _ _ _ ω ω ω)
theorem expr_G (n L:Nat) (h s:Bool) (hl:20*L+15≤n):GA s L (exprP e n h):=(both_G e n).1 L h s hl
theorem send_G (n L:Nat) (s:Bool) (hl:20*L≤n):GA s L (sendP e n):=by
 intro ts
 unfold sendP
 exact G.look (G.bd1 G.expect fun h0 _ _=>G.bd0 (expr_G e _ _ _ _ ω _) fun _ _=>G.bd0 G.name fun _ _=>G.bd0 (args_G _ _ _ ω (fun _=>expr_G e _ _ _ _ ω) _) fun _ _=>G.pure)
theorem spawn_G (n L:Nat) (s:Bool) (at_:Int) (b:Nd) (hl:20*L≤n):GA s L (spawnP e n at_ b):=by
 intro ts
 unfold spawnP
 exact G.bd1 G.expect fun h0 _ _=>G.bd0 G.name fun _ _=>G.bd0 (args_G _ _ _ ω (fun _=>expr_G e _ _ _ _ ω) _) fun _ _=>G.acc (fun _ _=>G.bd0 (expr_G e _ _ _ _ ω _) fun _ _=>G.pure) G.pure
theorem let_G (n L:Nat) (s:Bool) (hl:20*L≤n):GA s L (letP e n):=by
 intro ts
 unfold letP
 exact G.look (G.bd1 G.expect fun h0 _ _=>G.look (G.bd0 G.name fun _ _=>G.bd0 G.expect fun _ _=>G.look (G.ite (fun _=>spawn_G e _ _ _ _ _ ω _) (fun _=>G.bd0 (expr_G e _ _ _ _ ω _) fun _ _=>G.pure))))
theorem do_G (n L:Nat) (s:Bool) (hl:20*L≤n):GA s L (doP e n):=by
 intro ts
 unfold doP
 exact G.look (G.bd1 G.expect fun h0 _ _=>G.bd0 G.name fun _ _=>G.bd0 (args_G _ _ _ ω (fun _=>expr_G e _ _ _ _ ω) _) fun _ _=>G.bd0 G.expect fun _ _=>G.look (G.bd0 G.name fun _ _=>G.pure))
theorem block_G {m:M Nd} (n L:Nat) (s:Bool) (hl:L≤n) (hm:0<L→GA true (L-1) m):GA s L (blockP e m n):=by
 intro ts
 unfold blockP
 exact G.look (G.bd1 G.expect fun h0 _ _=>G.bd0 (until_G π _ _ ω (hm h0) _) fun _ _=>G.pure)
theorem branch_G {m:M Nd} (n L:Nat) (s:Bool) (hl:20*L≤n) (hm:0<L→GA true (L-1) m):GA s L (branchP e m n):=by
 intro ts
 unfold branchP
 exact G.look (G.bd1 G.expect fun h0 _ _=>G.bd0 (expr_G e _ _ _ _ ω _) fun _ _=>G.bd0 (block_G e _ _ _ ω (fun _=>(hm h0).mono ω) _) fun _ _=>G.acc (fun _ _=>G.bd0 (block_G e _ _ _ ω (fun _=>(hm h0).mono ω) _) fun _ _=>G.pure) G.pure)
theorem sarm_G {m:M Nd} (n L:Nat) (s:Bool) (hl:L≤n) (hm:0<L→GA true (L-1) m):GA s L (sarmP e m n):=by
 intro ts
 unfold sarmP
 exact G.bd1 (pat_G e _ _ _ _ hl _) fun h0 _ _=>G.bd0 (block_G e _ _ _ ω (fun _=>(hm h0).mono ω) _) fun _ _=>G.pure
theorem cases_G {m:M Nd} (n L:Nat) (s:Bool) (hl:20*L≤n) (hm:0<L→GA true (L-1) m):GA s L (casesP e m n):=by
 intro ts
 unfold casesP
 exact G.look (G.bd1 G.expect fun h0 _ _=>G.bd0 (expr_G e _ _ _ _ ω _) fun _ _=>G.bd0 G.expect fun _ _=>G.bd0 (sarm_G e _ _ _ ω (fun _=>(hm h0).mono ω) _) fun _ _=>G.bd0 (until_G π _ _ ω (sarm_G e _ _ _ ω (fun _=>(hm h0).mono ω)) _) fun _ _=>G.pure)
theorem stmt_G:∀(n L:Nat) (s:Bool),20*L<n→GA s L (stmtP e n)
 | 0,L,s,hl=>absurd hl ω
 | n+1,L,s,hl=>by
  have ih:∀(L:Nat) (s:Bool),20*L<n→GA s L (stmtP e n):=fun L s=>stmt_G n L s
  intro ts
  unfold stmtP
  refine G.look (G.ite (fun _=>?_) fun _=>G.ite (fun _=>?_) fun _=>G.ite (fun _=>?_) fun _=>G.ite (fun _=>?_) fun _=>G.ite (fun hw=>?_) fun _=>G.ite (fun _=>?_) fun _=>G.ite (fun hw=>?_) fun _=>G.ite (fun _=>?_) fun _=>G.ite (fun hw=>?_) fun _=>G.ite (fun hw=>?_) fun _=>?_)
  · exact let_G e _ _ _ ω _
  · exact spawn_G e _ _ _ _ _ ω _
  · exact branch_G e _ _ _ ω (fun _=>ih _ _ ω) _
  · exact cases_G e _ _ _ ω (fun _=>ih _ _ ω) _
  · exact G.next (wl_ne π hw) fun h0 _=>G.bd0 G.name fun _ _=>G.bd0 G.expect fun _ _=>G.bd0 (expr_G e _ _ _ _ ω _) fun _ _=>G.bd0 (block_G e _ _ _ ω (fun _=>ih _ _ ω) _) fun _ _=>G.pure
  · exact send_G e _ _ _ ω _
  · exact G.next (wl_ne π hw) fun h0 _=>G.bd0 (expr_G e _ _ _ _ ω _) fun _ _=>G.bd0 (send_G e _ _ _ ω _) fun _ _=>G.pure
  · exact do_G e _ _ _ ω _
  · exact G.next (wl_ne π hw) fun h0 _=>G.pure
  · exact G.next (wl_ne π hw) fun h0 _=>G.bd0 (expr_G e _ _ _ _ ω _) fun _ _=>G.pure
  · exact G.bd1 G.name fun h0 _ _=>G.bd1 G.expect fun h1 _ _=>G.bd0 (expr_G e _ _ _ _ ω _) fun _ _=>G.pure
theorem member_G (n L:Nat) (s:Bool) (hl:20*L<n):GA s L (memberP e n):=by
 intro ts
 unfold memberP
 refine G.look (G.acc (fun h0 _=>?_) ?_)
 · exact G.bd0 G.name fun _ _=>G.bd1 G.expect fun h1 _ _=>G.bd0 (typ_G e _ _ _ ω _) fun _ _=>G.bd0 G.expect fun _ _=>G.bd0 (expr_G e _ _ _ _ ω _) fun _ _=>G.pure
 · exact G.bd1 G.expect fun h0 _ _=>G.bd0 G.name fun _ _=>G.bd0 (fields_G e _ _ _ ω _) fun _ _=>G.bd0 (block_G e _ _ _ ω (fun _=>stmt_G e _ _ _ ω) _) fun _ _=>G.pure
theorem policy_G (L:Nat):GA false L policyP:=by
 intro ts
 unfold policyP
 exact G.acc (fun _ _=>G.pure) (G.acc (fun _ _=>G.bd0 G.int fun _ _=>G.pure) G.pure)
theorem decl_G (n L:Nat) (s:Bool) (hl:20*L<n):GA s L (declP e n):=by
 intro ts
 unfold declP
 refine G.look (G.acc (fun h0 _=>?_) (G.acc (fun h0 _=>?_) (G.acc (fun h0 _=>?_) (G.acc (fun h0 _=>?_) (G.acc (fun h0 _=>?_) G.fail)))))
 · exact G.bd0 G.name fun _ _=>G.bd0 G.expect fun _ _=>G.bd0 (list_G _ _ ω (field_G e _ _ _ ω) _) fun _ _=>G.pure
 · exact G.bd0 G.name fun _ _=>G.bd0 G.expect fun _ _=>G.bd0 (items_G _ _ ω (ctor_G e _ _ _ ω) _) fun _ _=>G.pure
 · exact G.bd0 G.name fun _ _=>G.bd0 (fields_G e _ _ _ ω _) fun _ _=>G.bd0 G.expect fun _ _=>G.bd0 (typ_G e _ _ _ ω _) fun _ _=>G.pure
 · exact G.bd0 G.name fun _ _=>G.bd0 (function_G e _ _ _ ω (fun _=>expr_G e _ _ _ _ ω) _) fun _ _=>G.pure
 · exact G.bd0 G.name fun _ _=>G.bd0 (fields_G e _ _ _ ω _) fun _ _=>G.bd0 (policy_G _ _) fun _ _=>G.bd0 G.expect fun _ _=>G.bd0 (until_G π _ _ ω (member_G e _ _ _ ω) _) fun _ _=>G.pure
theorem convType_G (at_:Int) (n L:Nat) (s:Bool) (hl:20*L≤n):GA s L (convTypeP e at_ n):=by
 intro ts
 unfold convTypeP
 refine G.bd1 G.name fun h0 _ _=>G.acc (fun _ _=>G.look (G.bd0 G.name fun _ _=>?_)) ?_
 · exact G.bd1 (fields_G e _ _ _ ω _) fun h1 _ _=>G.bd0 G.expect fun _ _=>G.bd0 (expr_G e _ _ _ _ ω _) fun _ _=>G.pure
 · exact G.bd1 (fields_G e _ _ _ ω _) fun h1 _ _=>G.bd0 G.expect fun _ _=>G.bd0 (expr_G e _ _ _ _ ω _) fun _ _=>G.pure
theorem change_G (n L:Nat) (s:Bool) (hl:20*L≤n):GA s L (changeP e n):=by
 intro ts
 unfold changeP
 refine G.look (G.acc (fun h0 _=>?_) (G.acc (fun h0 _=>?_) (G.bd1 G.expect fun h0 _ _=>G.acc (fun _ _=>?_) (G.acc (fun _ _=>?_) ?_))))
 · exact G.bd0 G.name fun _ _=>G.bd0 G.expect fun _ _=>G.bd0 G.int fun _ _=>G.pure
 · exact G.bd0 G.name fun _ _=>G.pure
 · exact convType_G e _ _ _ _ ω _
 · exact G.bd0 G.name fun _ _=>G.bd0 (fields_G e _ _ _ ω _) fun _ _=>G.bd0 G.expect fun _ _=>G.bd0 (list_G _ _ ω (set_G e _ _ fun _=>expr_G e _ _ _ _ ω) _) fun _ _=>G.pure
 · exact G.bd0 G.expect fun _ _=>G.bd0 G.name fun _ _=>G.bd0 G.expect fun _ _=>G.look (G.bd0 G.name fun _ _=>G.bd0 (fields_G e _ _ _ ω _) fun _ _=>G.bd0 G.expect fun _ _=>G.look (G.bd0 G.name fun _ _=>G.bd0 (args_G _ _ _ ω (fun _=>expr_G e _ _ _ _ ω) _) fun _ _=>G.pure))
theorem one_G (patch:Bool) (n L:Nat) (s:Bool) (hl:20*L<n):GA s L (oneP e patch n):=by
 intro ts
 unfold oneP
 exact G.look (G.ite (fun _=>change_G e _ _ _ ω _) (fun _=>decl_G e _ _ _ ω _))
theorem prog_G (patch:Bool) (n:Nat):∀(k L:Nat),L<k→20*L<n→GA false L (progP e patch n k)
 | 0,L,h,hl=>absurd h ω
 | k+1,L,h,hl=>by
  intro ts ht
  unfold progP
  cases ts with
  | nil=>exact⟨List.suffix_refl _,fun h=>by cases h⟩
  | cons t r =>
   exact G.bd1 (one_G e patch n L _ hl _) (fun _ _ _=>G.bd0 (prog_G patch n k _ ω ω _) fun _ _=>G.pure) ht
end
end
end Go.Proofs.YtbmknjfgjphfbaaGreatDoor
