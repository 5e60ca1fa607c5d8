import Derived.Deep.AppendLies
import Derived.Test.YtbmknjfgjphfbaaGreatDoorZ02
set_option linter.all false
namespace Go.Proofs.YtbmknjfgjphfbaaGreatDoor
set_option maxRecDepth 100000
set_option maxHeartbeats 8000000
section
open Proofs.Tryz RowKit
set_option synthInstance.maxSize 4000
set_option synthInstance.maxHeartbeats 400000
class Suf {α:Type} (m:M α):Prop where
 h:∀ts,(∀a r,m ts=.ok a r→r <:+ ts)∧(∀r,m ts=.bad r→r <:+ ts)
class NE {α:Type} (m:M α):Prop where
 h:∀a r,m []≠.ok a r
class NEp (p:List UInt8→Bool):Prop where
 h:p []=false
section inst
variable {α β:Type}
instance:Suf (failP:M α):=⟨fun ts=>⟨fun _ _ h=>(by cases h),fun _ h=>(by cases h;exact List.suffix_refl _)⟩⟩
instance:Suf (outP:M α):=⟨fun ts=>⟨fun _ _ h=>(by cases h),fun _ h=>(by cases h)⟩⟩
instance (a:α):Suf (pure a:M α):=⟨fun ts=>⟨fun _ _ h=>(by cases h;exact List.suffix_refl _),fun _ h=>(by cases h)⟩⟩
theorem Suf.bd_ {m:M α} {f:α→M β} (hm:Suf m) (hf:∀a,Suf (f a)):Suf (m >>= f):=⟨fun ts=>by
 show (∀a r,(m ts).bd f=.ok a r→_)∧(∀r,(m ts).bd f=.bad r→_)
 cases hx:m ts with
 | out=>exact⟨fun _ _ h=>(by cases h),fun _ h=>(by cases h)⟩
 | bad q=>exact⟨fun _ _ h=>(by cases h),fun _ h=>(by cases h;exact (hm.h ts).2 _ hx)⟩
 | ok a q=>exact⟨fun b r h=>(((hf a).h q).1 b r h).trans ((hm.h ts).1 _ _ hx),fun r h=>(((hf a).h q).2 r h).trans ((hm.h ts).1 _ _ hx)⟩⟩
instance (m:M α) (f:α→M β) [hm:Suf m] [hf:∀a,Suf (f a)]:Suf (m >>= f):=Suf.bd_ hm hf
theorem Suf.tl_ {m:M α} (hm:Suf m) (ts:List Tk):(∀a r,m ts.tail=.ok a r→r <:+ ts)∧(∀r,m ts.tail=.bad r→r <:+ ts):=⟨fun a r h=>((hm.h ts.tail).1 a r h).trans (List.tail_suffix ts),fun r h=>((hm.h ts.tail).2 r h).trans (List.tail_suffix ts)⟩
theorem Suf.next_ {m:M α} (hm:Suf m):Suf (nextP m):=⟨fun ts=>by
 cases ts with
 | nil=>exact⟨fun _ _ h=>(by cases h),fun _ h=>(by cases h)⟩
 | cons t r=>exact Suf.tl_ hm (t::r)⟩
instance (m:M α) [hm:Suf m]:Suf (nextP m):=Suf.next_ hm
theorem Suf.ite_ {c:Prop} [Decidable c] {a b:M α} (ha:Suf a) (hb:Suf b):Suf (if c then a else b):=by split<;>assumption
instance {c:Prop} [Decidable c] (a b:M α) [ha:Suf a] [hb:Suf b]:Suf (if c then a else b):=Suf.ite_ ha hb
instance (w:List UInt8) (y n:M α) [hy:Suf y] [hn:Suf n]:Suf (acc w y n):=⟨fun ts=>by
 show (∀a r,(if wl ts==w then y ts.tail else n ts)=.ok a r→_)∧(∀r,(if wl ts==w then y ts.tail else n ts)=.bad r→_)
 split
 · exact Suf.tl_ hy ts
 · exact hn.h ts⟩
instance (w:List UInt8):Suf (expect w):=⟨fun ts=>by
 unfold expect
 split
 · exact⟨fun _ _ h=>(by cases h;exact List.tail_suffix ts),fun _ h=>(by cases h)⟩
 · exact⟨fun _ _ h=>(by cases h),fun _ h=>(by cases h;exact List.suffix_refl _)⟩⟩
instance (p:List UInt8→Bool):Suf (name p):=⟨fun ts=>by
 unfold name
 split
 · exact⟨fun _ _ h=>(by cases h;exact List.tail_suffix ts),fun _ h=>(by cases h)⟩
 · exact⟨fun _ _ h=>(by cases h),fun _ h=>(by cases h;exact List.suffix_refl _)⟩⟩
instance:Suf intP:=⟨fun ts=>by
 unfold intP
 cases ts with
 | nil=>exact⟨fun _ _ h=>(by cases h),fun _ h=>(by cases h;exact List.suffix_refl _)⟩
 | cons t r =>
  show (∀a q,(if t.kind=2 then Re.ok t.n r else Re.bad (t::r))=.ok a q→_)∧(∀q,(if t.kind=2 then Re.ok t.n r else Re.bad (t::r))=.bad q→_)
  split
  · exact⟨fun _ _ h=>(by cases h;exact List.suffix_cons t r),fun _ h=>(by cases h)⟩
  · exact⟨fun _ _ h=>(by cases h),fun _ h=>(by cases h;exact List.suffix_refl _)⟩⟩
theorem Suf.look_ {f:List Tk→M α} (hf:∀t,Suf (f t)):Suf (look f):=⟨fun ts=>(hf ts).h ts⟩
instance (f:List Tk→M α) [hf:∀t,Suf (f t)]:Suf (look f):=Suf.look_ hf
instance:NE (failP:M α):=⟨fun _ _ h=>(by cases h)⟩
instance:NE (outP:M α):=⟨fun _ _ h=>(by cases h)⟩
theorem NE.bd_ {m:M α} {f:α→M β} (hm:NE m):NE (m >>= f):=⟨fun a r h=>by
 have h:(m []).bd f=.ok a r:=h
 cases hx:m [] with
 | out=>rw[hx] at h;cases h
 | bad q=>rw[hx] at h;cases h
 | ok b q=>exact hm.h _ _ hx⟩
instance (m:M α) (f:α→M β) [hm:NE m]:NE (m >>= f):=NE.bd_ hm
instance (c:UInt8) (w:List UInt8) (y n:M α) [hn:NE n]:NE (acc (c::w) y n):=⟨fun a r h=>hn.h a r (by
 have e:(wl []==c::w)=false:=rfl
 have h:(if wl []==c::w then y [].tail else n [])=.ok a r:=h
 rw[e] at h;exact h)⟩
instance (c:UInt8) (w:List UInt8):NE (expect (c::w)):=⟨fun a r h=>(by cases h)⟩
instance (p:List UInt8→Bool) [hp:NEp p]:NE (name p):=⟨fun a r h=>by
 have h:(if p (wl []) then Re.ok (wrd []) ([]:List Tk).tail else Re.bad [])=.ok a r:=h
 rw[show p (wl [])=false from hp.h] at h;cases h⟩
instance (m:M α):NE (nextP m):=⟨fun a r h=>by cases h⟩
instance:NE intP:=⟨fun a r h=>(by cases h)⟩
instance {c:Prop} [Decidable c] (a b:M α) [ha:NE a] [hb:NE b]:NE (if c then a else b):=by split<;>assumption
instance (f:List Tk→M α) [hf:NE (f [])]:NE (look f):=⟨fun a r h=>hf.h a r h⟩
instance:NEp lowB:=⟨by rfl⟩
instance:NEp uppB:=⟨by rfl⟩
instance:NEp msgB:=⟨by rfl⟩
instance:NEp bndB:=⟨by rfl⟩
instance:NEp patB:=⟨by rfl⟩
instance:NEp typB:=⟨by rfl⟩
end inst
theorem tail_suf_ {m:M Nd} [Suf m]:∀n,Suf (tailP m n)
 | 0=>by unfold tailP;infer_instance
 | n+1=>by have:=tail_suf_ (m:=m) n;unfold tailP;infer_instance
instance {m:M Nd} [Suf m] (n:Nat):Suf (tailP m n):=tail_suf_ n
instance {m:M Nd} [Suf m] (w:List UInt8) (n:Nat):Suf (itemsP w m n):=by unfold itemsP;infer_instance
instance {m:M Nd} [Suf m] (w:List UInt8) (n:Nat):Suf (listP w m n):=by unfold listP;infer_instance
theorem until_suf_ {m:M Nd} [Suf m] (w:List UInt8):∀n,Suf (untilP w m n)
 | 0=>by unfold untilP;infer_instance
 | n+1=>by have:=until_suf_ (m:=m) w n;unfold untilP;infer_instance
instance {m:M Nd} [Suf m] (w:List UInt8) (n:Nat):Suf (untilP w m n):=until_suf_ w n
section
variable (e:Int)
theorem typ_suf_:∀n,Suf (typP e n)
 | 0=>by unfold typP;infer_instance
 | n+1=>by have:=typ_suf_ n;unfold typP;infer_instance
instance (n:Nat):Suf (typP e n):=typ_suf_ e n
instance (n:Nat):Suf (fieldP e n):=by unfold fieldP;infer_instance
instance (n:Nat):Suf (fieldsP e n):=by unfold fieldsP;infer_instance
instance:Suf (bindP e):=by unfold bindP;infer_instance
instance (k:Int) (n:Nat):Suf (patP e k n):=by unfold patP;infer_instance
instance (n:Nat):Suf (ctorP e n):=by unfold ctorP;infer_instance
theorem bin_suf_ (lv:Nat) {m:M Nd} [Suf m] (p:Int):∀n a,Suf (binP lv m p n a)
 | 0,a=>by unfold binP;infer_instance
 | n+1,a=>by have:=bin_suf_ lv (m:=m) p n;unfold binP;infer_instance
instance (lv:Nat) {m:M Nd} [Suf m] (p:Int) (n:Nat) (a:Nd):Suf (binP lv m p n a):=bin_suf_ lv p n a
instance {m:M Nd} [Suf m] (n:Nat):Suf (argsP m n):=by unfold argsP;infer_instance
instance {m:M Nd} [Suf m]:Suf (setP e m):=by unfold setP;infer_instance
instance {m:M Nd} [Suf m] (n:Nat):Suf (armP e m n):=by unfold armP;infer_instance
theorem tails_suf_ {m:M Nd} [Suf m] (p:Int):∀n a,Suf (tailsP e m p n a)
 | 0,a=>by unfold tailsP;infer_instance
 | n+1,a=>by have:=tails_suf_ (m:=m) p n;unfold tailsP;infer_instance
instance {m:M Nd} [Suf m] (p:Int) (n:Nat) (a:Nd):Suf (tailsP e m p n a):=tails_suf_ e p n a
instance {m:M Nd} [Suf m] (n:Nat):Suf (functionP e m n):=by unfold functionP;infer_instance
instance {m:M Nd} [Suf m] (n:Nat) (s:Ê) (p:Int):Suf (consP m n s p):=by unfold consP;infer_instance
instance {m:M Nd} [Suf m] (n:Nat) (h:Bool):Suf (primP e m n h):=by
 unfold primP
 infer_instance
theorem both_suf_:∀n,(∀h,Suf (exprP e n h))∧(∀h lv,Suf (operP e n h lv))
 | 0=>⟨fun h=>by unfold exprP;infer_instance,fun h lv=>by unfold operP;infer_instance⟩
 | n+1=>by
  have h1:=(both_suf_ n).1
  have h2:=(both_suf_ n).2
  exact⟨fun h=>by unfold exprP;infer_instance,fun h lv=>by unfold operP;infer_instance⟩
instance (n:Nat) (h:Bool):Suf (exprP e n h):=(both_suf_ e n).1 h
instance (n:Nat) (h:Bool) (lv:Nat):Suf (operP e n h lv):=(both_suf_ e n).2 h lv
instance (n:Nat):Suf (sendP e n):=by unfold sendP;infer_instance
instance (n:Nat) (p:Int) (b:Nd):Suf (spawnP e n p b):=by unfold spawnP;infer_instance
instance (n:Nat):Suf (letP e n):=by unfold letP;infer_instance
instance (n:Nat):Suf (doP e n):=by unfold doP;infer_instance
instance {m:M Nd} [Suf m] (n:Nat):Suf (blockP e m n):=by unfold blockP;infer_instance
instance {m:M Nd} [Suf m] (n:Nat):Suf (branchP e m n):=by unfold branchP;infer_instance
instance {m:M Nd} [Suf m] (n:Nat):Suf (sarmP e m n):=by unfold sarmP;infer_instance
instance {m:M Nd} [Suf m] (n:Nat):Suf (casesP e m n):=by unfold casesP;infer_instance
theorem stmt_suf_:∀n,Suf (stmtP e n)
 | 0=>by unfold stmtP;infer_instance
 | n+1=>by have:=stmt_suf_ n;unfold stmtP;infer_instance
instance (n:Nat):Suf (stmtP e n):=stmt_suf_ e n
instance (n:Nat):Suf (memberP e n):=by unfold memberP;infer_instance
instance:Suf policyP:=by unfold policyP;infer_instance
instance (n:Nat):Suf (declP e n):=by unfold declP;infer_instance
instance (p:Int) (n:Nat):Suf (convTypeP e p n):=by unfold convTypeP;infer_instance
instance (n:Nat):Suf (changeP e n):=by unfold changeP;infer_instance
instance (patch:Bool) (n:Nat):Suf (oneP e patch n):=by unfold oneP;infer_instance
theorem prog_suf (patch:Bool) (n:Nat):∀k,Suf (progP e patch n k)
 | 0=>by unfold progP;infer_instance
 | k+1=>⟨fun ts=>by
  have:=prog_suf patch n k
  unfold progP
  cases ts with
  | nil=>exact⟨fun _ _ h=>(by cases h;exact List.suffix_refl _),fun _ h=>(by cases h)⟩
  | cons t r=>exact (inferInstance:Suf (oneP e patch n >>= fun a=>progP e patch n k >>= fun l=>pure (a::l):M (List Nd))).h (t::r)⟩
instance (patch:Bool) (n k:Nat):Suf (progP e patch n k):=prog_suf e patch n k
theorem typ_ne:∀n,NE (typP e n)
 | 0=>by unfold typP;infer_instance
 | n+1=>by unfold typP;infer_instance
instance (n:Nat):NE (typP e n):=typ_ne e n
instance (n:Nat):NE (fieldP e n):=by unfold fieldP;infer_instance
instance (n:Nat):NE (fieldsP e n):=by unfold fieldsP;infer_instance
instance:NE (bindP e):=by unfold bindP;infer_instance
instance (k:Int) (n:Nat):NE (patP e k n):=by unfold patP;infer_instance
instance (n:Nat):NE (ctorP e n):=by unfold ctorP;infer_instance
instance {m:M Nd} (n:Nat):NE (argsP m n):=by unfold argsP;infer_instance
instance {m:M Nd}:NE (setP e m):=by unfold setP;infer_instance
instance {m:M Nd} (n:Nat):NE (armP e m n):=by unfold armP;infer_instance
instance {m:M Nd} (n:Nat):NE (functionP e m n):=by unfold functionP;infer_instance
instance {m:M Nd} [NE m] (w:List UInt8) (n:Nat):NE (itemsP w m n):=by unfold itemsP;infer_instance
instance {m:M Nd} [NE m] (c:UInt8) (w:List UInt8) (n:Nat):NE (listP (c::w) m n):=by unfold listP;infer_instance
instance {m:M Nd} (n:Nat) (h:Bool):NE (primP e m n h):=by
 unfold primP
 infer_instance
theorem both_ne:∀n,(∀h,NE (exprP e n h))∧(∀h lv,NE (operP e n h lv))
 | 0=>⟨fun h=>by unfold exprP;infer_instance,fun h lv=>by unfold operP;infer_instance⟩
 | n+1=>by
  have h1:=(both_ne n).1
  have h2:=(both_ne n).2
  exact⟨fun h=>by unfold exprP;infer_instance,fun h lv=>by unfold operP;infer_instance⟩
instance (n:Nat) (h:Bool):NE (exprP e n h):=(both_ne e n).1 h
instance (n:Nat) (h:Bool) (lv:Nat):NE (operP e n h lv):=(both_ne e n).2 h lv
instance (n:Nat):NE (sendP e n):=by unfold sendP;infer_instance
instance (n:Nat) (p:Int) (b:Nd):NE (spawnP e n p b):=by unfold spawnP;infer_instance
instance (n:Nat):NE (letP e n):=by unfold letP;infer_instance
instance (n:Nat):NE (doP e n):=by unfold doP;infer_instance
instance {m:M Nd} (n:Nat):NE (blockP e m n):=by unfold blockP;infer_instance
instance {m:M Nd} (n:Nat):NE (branchP e m n):=by unfold branchP;infer_instance
instance {m:M Nd} (n:Nat):NE (sarmP e m n):=by unfold sarmP;infer_instance
instance {m:M Nd} (n:Nat):NE (casesP e m n):=by unfold casesP;infer_instance
theorem stmt_ne:∀n,NE (stmtP e n)
 | 0=>by unfold stmtP;infer_instance
 | n+1=>by unfold stmtP;infer_instance
instance (n:Nat):NE (stmtP e n):=stmt_ne e n
instance (n:Nat):NE (memberP e n):=by unfold memberP;infer_instance
instance (n:Nat):NE (declP e n):=by unfold declP;infer_instance
instance (p:Int) (n:Nat):NE (convTypeP e p n):=by unfold convTypeP;infer_instance
instance (n:Nat):NE (changeP e n):=by unfold changeP;infer_instance
instance (patch:Bool) (n:Nat):NE (oneP e patch n):=by unfold oneP;infer_instance
end
end
section
open Proofs.Tryz RowKit Maps WideMaps ChangeMaps
def Res {α:Type} (Rv:À→À→Value→α→Prop) (c:Cx) (w:À) (h:Bool) (x:Re α) (en:Ending) (w':À):Prop:=
 match x with
 | .out=>True
 | .bad q=>en=.panicked [{ v:=.iface 140 (.int .i64 (offP c.e q)),recovered:=false }]∧Stp (only c.pb) w w'
 | .ok a q=>∃v,en=.returned v∧Rv w w' v a∧Stp (only c.pb) w w'∧PW c w' q h
def Said {α:Type} (F:FuncId) (args:Array Value) (c:Cx) (h:Bool) (Rv:À→À→Value→α→Prop) (m:M α):Prop:=
 ∀w r,PW c w r h→m r≠.out→Calls prog F args w (Res Rv c w h (m r))
theorem Said.ok {α:Type} {F:FuncId} {args:Array Value} {c:Cx} {h:Bool} {Rv:À→À→Value→α→Prop} {m:M α} (H:Said F args c h Rv m) {w:À} {r q:List Tk} {a:α} (k:PW c w r h) (e:m r=.ok a q) :
 Calls prog F args w fun en w'=>∃v,en=.returned v∧Rv w w' v a∧Stp (only c.pb) w w'∧PW c w' q h:=by
 have:=H w r k (by rw[e];exact fun x=>by cases x)
 rw[e] at this;exact this
theorem Said.bad {α:Type} {F:FuncId} {args:Array Value} {c:Cx} {h:Bool} {Rv:À→À→Value→α→Prop} {m:M α} (H:Said F args c h Rv m) {w:À} {r q:List Tk} (k:PW c w r h) (e:m r=.bad q) :
 Calls prog F args w fun en w'=>en=.panicked [{ v:=.iface 140 (.int .i64 (offP c.e q)),recovered:=false }]∧Stp (only c.pb) w w':=by
 have:=H w r k (by rw[e];exact fun x=>by cases x)
 rw[e] at this;exact this
def InV (_ _:À) (v:Value) (n:Int):Prop:=v=.int .i64 n∧i64 n
def NdV (w w':À) (v:Value) (a:Nd):Prop:=∃k s n p A l cap,v=.agg #[.int .i64 k,.string s,.int .i64 n,.int .i64 p,.slice A l cap]∧NdR w' (nw w.heap.size w') [.int .i64 k,.string s,.int .i64 n,.int .i64 p,.slice A l cap] a
def RowV (b:Nat) (w w':À) (v:Value) (l:List Nd):Prop:=l.length≤b∧∃xs,w'.ownsRow w.heap.size 83 5 v l.length xs∧RowG 5 (NdR w' (nb w.heap.size v w')) xs l
section
variable {α β:Type} {m:M α} {f:α→M β} {r q:List Tk}
theorem bd_ok {a:α} (h:m r=.ok a q):(m >>= f) r=f a q:=by show (m r).bd f=_;rw[h];rfl
theorem bd_bad (h:m r=.bad q):(m >>= f) r=.bad q:=by show (m r).bd f=_;rw[h];rfl
theorem bd_out (h:m r=.out):(m >>= f) r=.out:=by show (m r).bd f=_;rw[h];rfl
theorem acc_t {s:List UInt8} {y n:M α} (h:(wl r==s)=true):acc s y n r=y r.tail:=if_pos h
theorem acc_f {s:List UInt8} {y n:M α} (h:(wl r==s)=false):acc s y n r=n r:=if_neg (by rw[h];simp)
theorem ite_t {cc:Prop} [Decidable cc] {a b:M α} (h:cc):(if cc then a else b) r=a r:=by rw[if_pos h]
theorem ite_f {cc:Prop} [Decidable cc] {a b:M α} (h:¬cc):(if cc then a else b) r=b r:=by rw[if_neg h]
theorem exp_t {s:List UInt8} (h:(wl r==s)=true):expect s r=.ok () r.tail:=if_pos h
theorem exp_f {s:List UInt8} (h:(wl r==s)=false):expect s r=.bad r:=if_neg (by rw[h];simp)
theorem nam_t {p:List UInt8→Bool} (h:p (wl r)=true):name p r=.ok (wrd r) r.tail:=if_pos h
theorem nam_f {p:List UInt8→Bool} (h:p (wl r)=false):name p r=.bad r:=if_neg (by rw[h];simp)
theorem int_t (h:kd r=2):intP r=.ok (nm r) r.tail:=if_pos h
theorem int_f (h:¬kd r=2):intP r=.bad r:=if_neg h
end
section
variable {c:Cx} {h:Bool}
end
theorem node_any (k:Int) (s:Ê) (n p:Int) (A:Option Addr) (l cap:Nat) (w:À):Calls prog 97 #[.int .i64 k,.string s,.int .i64 n,.int .i64 p,.slice A l cap] w fun e w'=>e=.returned (.agg #[.int .i64 k,.string s,.int .i64 n,.int .i64 p,.slice A l cap])∧Below w.heap.size w w':=by
 go_in
 go_wp2
 exact bodyPost_ret (results_cell_row results97 _ _ w.heap.size 83 _ _ _ rfl (Hs.new w 83 #[.int .i64 k,.string s,.int .i64 n,.int .i64 p,.slice A l cap]) underlying83 rfl Δ) rfl ⟨rfl,ζ1⟩
end
section
open Proofs.Tryz RowKit Maps WideMaps ChangeMaps
theorem info_83:(prog.info? 83).map (fun i=>(i.zero,i.size,i.bytes))=some (some (.agg #[.int .i64 0,.string ⟨#[]⟩,.int .i64 0,.int .i64 0,.slice none 0 0]),5,64):=by kernel_rfl
theorem PW.hd {c:Cx} {w:À} {r:List Tk} {h:Bool} (k:PW c w r h) (h':Bool):PW c (w.setCell ⟨c.pb,3,none⟩ (.bool h')) r h'∧Stp (only c.pb) w (w.setCell ⟨c.pb,3,none⟩ (.bool h')):=by
 have s:Stp (only c.pb) w (w.setCell ⟨c.pb,3,none⟩ (.bool h')):=⟨rfl,rfl,rfl,by simp[World.setCell],fun q _ hq=>Below.heap_setCell _ _ _ _ (fun e=>hq e)⟩
 exact⟨k.stp s (hs_put k.box) (List.suffix_refl _),s⟩
theorem own_one {w:À} {base:Nat} (hb:base≤w.heap.size) (cs:Array Value) (hc:cs.size=5):(w.alloc (.cells cs 83)).ownsRow base 83 5 (.slice (some ⟨w.heap.size,0,none⟩) 1 1) 1 cs.toList:=
 ⟨by simp[hc],.inr ⟨w.heap.size,1,cs,rfl,hb,Hs.new _ _ _,Nat.le_refl _,by decide,by simp[hc],List.take_of_length_le (by simp[hc])⟩⟩
def leftN (c:Cx) (w:À):Nat:=match w.cell? ⟨c.pb,1,none⟩ with
 | some (.int _ k)=>c.L.length-k.toNat
 | _=>0
theorem PW.left {c:Cx} {w:À} {r:List Tk} {h:Bool} (k:PW c w r h):leftN c w=r.length:=by
 have c1:w.cell? ⟨c.pb,1,none⟩=some (.int .i64 ((c.L.length-r.length:Nat):Int)):=k.box.cell 1
 unfold leftN
 rw[c1]
 have:=k.len
 simp;omega
structure ItS (c:Cx) (w:À) (m:M Nd) (s:List UInt8) (n:Nat) (R:Re (List Nd)) (v:Value) (wr:À) (l:List Nd) (q:List Tk) (n':Nat) (xs:List Value):Prop where
 own:wr.ownsRow w.heap.size 83 5 v l.length xs
 row:RowG 5 (NdR wr (nb w.heap.size v wr)) xs l
 stp:Stp (only c.pb) w wr
 pw:PW c wr q false
 len:l.length+n'≤n+1
 res:R=(tailP m n' q).bd fun t=>(expect s >>= fun _=>pure (l++t):M (List Nd))
theorem tail_succ (m:M Nd) (n:Nat):tailP m (n+1)=acc [44] (m >>= fun a=>tailP m n >>= fun l=>pure (a::l)) (pure []):=rfl
theorem items_said {F:FuncId} {c:Cx} {h:Bool} {m:M Nd} {s:Ê} {n:Nat} (hE:Ent F) (hS:Suf m) (HI:Said F #[.pointer (some ⟨c.pb,0,none⟩)] c false NdV m) (h0:s.data.toList≠[]) (hn:n≤1000000000) :
 Said 142 #[.pointer (some ⟨c.pb,0,none⟩),.string s,.func (.func F) #[.pointer (some ⟨c.pb,0,none⟩)] #[]] c h (RowV (n+1)) (itemsP s.data.toList m n):=by
 intro w r k hne
 have hcf:=hE
 unfold Ent at hcf
 obtain⟨io,hio,hiz,his,hib⟩:=info_parts info_83
 have HIO:=η (And.intro hio (And.intro hiz (And.intro his hib)))
 obtain⟨K1,S1⟩:=k.hd false
 have c3:w.cell? ⟨c.pb,3,none⟩=some (.bool h):=k.box.cell 3
 have f3:w.frozen? ⟨c.pb,3,none⟩=false:=k.box.free 3
 obtain⟨W1,hW1⟩:∃W1,W1=w.setCell ⟨c.pb,3,none⟩ (.bool false):=⟨_,rfl⟩
 rw[←hW1] at K1 S1
 obtain⟨HW1,HK1,HS1,HHI,H0⟩:=zd5 hW1 K1 S1 HI h0
 have HPB:=η k.box.lt
 have HBW:=η k.lo.2.2
 obtain⟨R,hR⟩:∃R,R=itemsP s.data.toList m n r:=⟨_,rfl⟩
 rw[←hR] at hne ⊢
 clear k hio hiz his hib K1 S1 HI h0
 cases hm:m r with
 | out=>rw[hR] at hne;exact absurd (bd_out hm) hne
 | bad q =>
  have HM:=η hm
  have HR:Hid (R=.bad q):=hR.trans (bd_bad hm)
  clear hm hR hne hW1
  rw[HR.o]
  go_in
  go_upto_region 3 with fail
  rw[←HW1.o]
  go_wp2_with fail
  refine (HHI.o.bad HK1.o HM.o).mono ?_
  rintro _ W2 ⟨rfl,s2⟩
  exact⟨rfl,rfl,HS1.o.trans s2⟩
 | ok a q =>
  have HM:=η hm
  have HR:Hid (R=(tailP m n q).bd fun t=>(expect s.data.toList >>= fun _=>pure ([a]++t):M (List Nd))):=hR.trans (bd_ok hm)
  have HNE:=η hne
  clear hm hR hne hW1
  go_in
  go_upto_region 3 with fail
  rw[←HW1.o]
  go_wp2_with fail
  refine (HHI.o.ok HK1.o HM.o).mono ?_
  rintro _ W2 ⟨_,rfl,⟨k1,s1,n1,p1,A1,l1,q1,rfl,hnd⟩,s2,k2⟩
  obtain⟨HS2,HK2,HND⟩:=zd3 (HS1.o.trans s2) k2 hnd
  have hsz1:w.heap.size≤W1.heap.size:=HS1.o.size
  have hsz2:w.heap.size≤W2.heap.size:=HS2.o.size
  have HSZ:=η (And.intro hsz1 hsz2)
  clear s2 k2 hnd hsz1 hsz2
  obtain⟨W3,hW3⟩:∃W3,Hid (W3=W2.alloc (.cells #[.int .i64 k1,.string s1,.int .i64 n1,.int .i64 p1,.slice A1 l1 q1] 83)):=⟨_,rfl⟩
  have HIT:Hid (ItS c w m s.data.toList n R (.slice (some ⟨W2.heap.size,0,none⟩) 1 1) W3 [a] q n [.int .i64 k1,.string s1,.int .i64 n1,.int .i64 p1,.slice A1 l1 q1]):=by
   refine⟨?_,?_,?_,?_,by simp;omega,HR.o⟩
   · rw[hW3.o];exact own_one HSZ.o.2 _ rfl
   · have:=RowG.snoc (Q:=NdR W3 (nb w.heap.size (.slice (some ⟨W2.heap.size,0,none⟩) 1 1) W3)) (size:=5) (xs:=[]) (l:=[]) (a:=a) (RowG.nil _) rfl (HND.o.to (P':=nb w.heap.size (.slice (some ⟨W2.heap.size,0,none⟩) 1 1) W3) (w':=W3) (fun b hb=>⟨⟨Nat.le_trans HSZ.o.1 hb.1,by rw[hW3.o];have:=hb.2;simp;omega,fun e=>by injection e with e;have:=hb.2;simp at e;omega⟩,by rw[hW3.o];exact Below.heap_alloc _ _ _ hb.2⟩))
     exact this
   · rw[hW3.o];exact stpA HS2.o _
   · rw[hW3.o];exact HK2.o.bel (belA (belR _) _)
  go_wp2_with fail
  rw[←hW3.o]
  clear hW3 HR HM HND HS2 HK2 HK1 HS1 HW1 HSZ
  go_loopw [8] (fun v wr=>∃l q n' xs,Hid (ItS c w m s.data.toList n R v wr l q n' xs)) (fun _ wr=>leftN c wr)
  case atStart=>exact⟨_,_,_,_,HIT⟩
  case round =>
   obtain⟨l,q,n',xs,HI2⟩:=hrel
   have hv:=HI2.o.own
   obtain⟨Ar,cr,rfl⟩:=row_form hv
   clear hv
   cases hn':n' with
   | zero=>exact absurd (HI2.o.res.trans (by rw[hn'];rfl)) HNE.o
   | succ n2 =>
   subst hn'
   cases hw:(wl q==[44]) with
   | false =>
    have HWL:=η hw
    have HR2:Hid (R=(expect s.data.toList >>= fun _=>pure l:M (List Nd)) q):=HI2.o.res.trans (by
     rw[tail_succ,acc_f hw];show (expect s.data.toList q).bd _=_;simp only[List.append_nil];rfl)
    clear hw
    go_wp2_with fail
    refine (accept_no HI2.o.pw (s:=⟨#[44]⟩) HWL.o).mono ?_
    rintro _ W4 ⟨rfl,s4,k4⟩
    obtain⟨HS4,HK4⟩:=zd2 s4 k4
    clear s4 k4
    go_wp2_with fail
    cases hs:(wl q==s.data.toList) with
    | false =>
     have HS:=η hs
     have HR3:Hid (R=.bad q):=HR2.o.trans (bd_bad (exp_f hs))
     refine (expect_no HK4.o HS.o).mono ?_
     rintro _ W5 ⟨rfl,s5⟩
     refine⟨rfl,?_⟩
     show Res _ c w h R _ _
     rw[HR3.o]
     exact⟨rfl,(HI2.o.stp.trans HS4.o).trans s5⟩
    | true =>
     have HS:=η hs
     have HR3:Hid (R=.ok l q.tail):=HR2.o.trans (bd_ok (exp_t hs))
     clear hs
     refine (expect_yes HK4.o HS.o H0.o).mono ?_
     rintro _ W5 ⟨rfl,s5,k5⟩
     obtain⟨HS5,HK5⟩:=zd2 (HS4.o.trans s5) k5
     have f3:W5.frozen? ⟨c.pb,3,none⟩=false:=k5.box.free 3
     have c3:W5.cell? ⟨c.pb,3,none⟩=some (.bool false):=k5.box.cell 3
     obtain⟨K6,S6⟩:=k5.hd h
     obtain⟨HK6,HS6⟩:=zd2 K6 S6
     clear s5 k5 K6 S6
     go_wp2
     go_ret
     show Res _ c w h R _ _
     rw[HR3.o]
     have hsx:=(HS5.o.trans HS6.o)
     have hns:∀g,(Value.slice Ar l.length cr).ownBlock=some g→¬only c.pb g:=fun g hg e=>by have:=(HI2.o.own.lt g hg).1;have:=HPB.o;unfold only at e;omega
     refine⟨_,rfl,⟨by have:=HI2.o.len;omega,xs,row_stp HI2.o.own hsx hns,HI2.o.row.to fun cs a x=>x.to fun b hb=>⟨⟨hb.1,Nat.lt_of_lt_of_le hb.2.1 hsx.size,hb.2.2⟩,hsx.block b hb.2.1 (fun e=>by have:=hb.1;have:=HPB.o;unfold only at e;omega)⟩⟩,HI2.o.stp.trans hsx,HK6.o⟩
   | true =>
    have HWL:=η hw
    obtain⟨R1,hR1⟩:∃R1,R1=m q.tail:=⟨_,rfl⟩
    have HR2:Hid (R=(m q.tail).bd fun a=>fun r=>(tailP m n2 r).bd fun t=>(expect s.data.toList >>= fun _=>pure (l++(a::t)):M (List Nd))):=HI2.o.res.trans (by
     rw[tail_succ,acc_t hw]
     show ((m q.tail).bd fun a=>fun r=>(tailP m n2 r).bd fun t=>M.ret (a::t)).bd _=_
     cases m q.tail with
     | out=>rfl
     | bad r=>rfl
     | ok a r =>
      show ((tailP m n2 r).bd fun t=>M.ret (a::t)).bd _=(tailP m n2 r).bd _
      cases tailP m n2 r<;>rfl)
    clear hw hR1
    go_wp2_with fail
    refine (accept_yes HI2.o.pw (s:=⟨#[44]⟩) HWL.o π).mono ?_
    rintro _ W4 ⟨rfl,s4,k4⟩
    obtain⟨HS4,HK4⟩:=zd2 s4 k4
    clear s4 k4
    cases hm:m q.tail with
    | out=>exact absurd (HR2.o.trans (by rw[hm];rfl)) HNE.o
    | bad q2 =>
     have HM:=η hm
     have HR3:Hid (R=.bad q2):=HR2.o.trans (by rw[hm];rfl)
     clear hm
     go_wp2_with fail
     refine (HHI.o.bad HK4.o HM.o).mono ?_
     rintro _ W5 ⟨rfl,s5⟩
     refine⟨rfl,?_⟩
     show Res _ c w h R _ _
     rw[HR3.o]
     exact⟨rfl,(HI2.o.stp.trans HS4.o).trans s5⟩
    | ok b q2 =>
     have HM:=η hm
     have HR3:Hid (R=(tailP m n2 q2).bd fun t=>(expect s.data.toList >>= fun _=>pure ((l++[b])++t):M (List Nd))):=HR2.o.trans (by rw[hm];simp only[List.append_assoc];rfl)
     clear hm
     go_wp2_with fail
     refine (HHI.o.ok HK4.o HM.o).mono ?_
     rintro _ W5 ⟨_,rfl,⟨k5,s5,n5,p5,A5,l5,q5,rfl,hnd⟩,st5,kk5⟩
     obtain⟨HS5,HK5⟩:=zd2 (HS4.o.trans st5) kk5
     have hns:∀g,(Value.slice Ar l.length cr).ownBlock=some g→¬only c.pb g:=fun g hg e=>by have:=(HI2.o.own.lt g hg).1;have:=HPB.o;unfold only at e;omega
     have hvl:∀g,(Value.slice Ar l.length cr).ownBlock=some g→g<W4.heap.size:=fun g hg=>Nat.lt_of_lt_of_le (HI2.o.own.lt g hg).2 HS4.o.size
     have hvb:∀g,(Value.slice Ar l.length cr).ownBlock=some g→w.heap.size≤g:=fun g hg=>(HI2.o.own.lt g hg).1
     have hw4:w.heap.size≤W4.heap.size:=Nat.le_trans HI2.o.stp.size HS4.o.size
     have HO5:=η (row_stp HI2.o.own HS5.o hns)
     have HRW:=η (RowG.snoc (HI2.o.row.to fun cs a x=>x.to (P':=nb w.heap.size (.slice Ar l.length cr) W5) (w':=W5) fun b hb=>⟨⟨hb.1,Nat.lt_of_lt_of_le hb.2.1 HS5.o.size,hb.2.2⟩,HS5.o.block b hb.2.1 (fun e=>by have:=hb.1;have:=HPB.o;unfold only at e;omega)⟩) rfl (hnd.to (sub_nw_nb hvl hw4)))
     obtain⟨HVB,HW5⟩:=zd2 hvb (Nat.le_trans hw4 st5.size)
     have HLN:=η HI2.o.len
     clear st5 kk5 hns hvl hvb hw4 hnd
     go_wp2_with (first|(at_builtin;refine wpList_append_own_at _ rfl (.tmp 21) (.tmp 24) 81 rfl w.heap.size 83 io _ 5 64 underlying81 HIO.o.1 HIO.o.2.1 HIO.o.2.2.1 HIO.o.2.2.2 rfl π (.slice Ar l.length cr) l.length xs rfl (row_al HO5.o _) ⟨W5.heap.size,0,none⟩ 1 1 _ rfl rfl (World.news_of_block (Hs.new _ _ _)) (by intro u hu;simp at hu;repeat (first|(subst hu;rfl)|(rcases hu with rfl|hu;rfl))) (by have:=HLN.o;unfold maxLen;omega) (by have:=HLN.o;omega) (sz_al HW5.o _) ?_;intro vv w6 hown6 hgrow6 hnil6 hvb6;obtain⟨A6,c6,rfl⟩:=row_form hown6))
     have hvp:=sub_push (base:=w.heap.size) hgrow6 hvb6
     have K6:=HK5.o.grow hgrow6 (fun b e=>Nat.le_trans HBW.o (HVB.o b e))
     refine⟨⟨l++[b],q2,n2,xs++[.int .i64 k5,.string s5,.int .i64 n5,.int .i64 p5,.slice A5 l5 q5],?_⟩,?_⟩
     · refine⟨?_,HRW.o.to fun cs a x=>x.to hvp,stp_push (HI2.o.stp.trans HS5.o) hgrow6 HVB.o,K6,?_,HR3.o⟩
       · rw[List.length_append];exact hown6
       · have:=HLN.o;rw[List.length_append];simp;omega
     · rw[K6.left,HI2.o.pw.left]
       have h1:=suf_len ((hS.h q.tail).1 _ _ HM.o)
       have h2:=ne_of_wl (s:=[44]) π HWL.o
       have h3:0<q.length:=List.length_pos_iff.2 h2
       have h4:q.tail.length=q.length-1:=List.length_tail
       omega
end
end Go.Proofs.YtbmknjfgjphfbaaGreatDoor
