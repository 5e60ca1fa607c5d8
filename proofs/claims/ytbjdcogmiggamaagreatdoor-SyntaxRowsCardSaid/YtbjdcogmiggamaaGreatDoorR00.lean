import Derived.Test.YtbjdcogmiggamaaGreatDoorZ34
import Derived.Test.YtbjdcogmiggamaaGreatDoorZ24
import Derived.Test.YtbjdcogmiggamaaGreatDoorZ33
import Derived.Test.YtbjdcogmiggamaaGreatDoorZ15
import Derived.Test.YtbjdcogmiggamaaGreatDoorZ23
import Derived.Test.YtbjdcogmiggamaaGreatDoorZ22
import Derived.Lib.ItoaLen
import Derived.Deep.RegionLaw
set_option linter.all false
namespace Go.Proofs.YtbjdcogmiggamaaGreatDoor
set_option maxRecDepth 100000
set_option maxHeartbeats 8000000
end Go.Proofs.YtbjdcogmiggamaaGreatDoor
/- what the base lacks -/
namespace Go.Proofs.YtbjdcogmiggamaaGreatDoor
section
theorem prog_nat {φ:Int→Int} {e e':Int} (he:e'=φ e) (patch:Bool) {n n':Nat} (hn:n≤n'):∀(k k':Nat) (ts:List Tk),k≤k'→(match progP e patch n k ts with
 | .out=>True
 | .bad r=>progP e' patch n' k' (ts.map (mvT φ))=.bad (r.map (mvT φ))
 | .ok l r=>progP e' patch n' k' (ts.map (mvT φ))=.ok (mvL φ l) (r.map (mvT φ)))
 | 0,k',ts,_=>trivial
 | k+1,0,ts,h=>absurd h ω
 | k+1,k'+1,ts,h=>by
  cases ts with
  | nil=>exact rfl
  | cons t r =>
   have i1:EqP φ e e':=⟨he⟩
   have i2:Le n n':=⟨hn⟩
   have i3:Al φ [] [] true:=⟨.inl ⟨rfl,.inl ⟨rfl,rfl⟩⟩⟩
   have hs:=(inferInstance:Sim φ [] [] true (oneP e patch n) (oneP e' patch n')).h (t::r)
   simp only[List.append_nil] at hs
   rw[prog_cons,List.map_cons,prog_cons,←List.map_cons]
   cases hx:oneP e patch n (t::r) with
   | out=>trivial
   | bad q=>rw[hs.2 trivial q hx];rfl
   | ok a q =>
    rw[hs.1 a q hx]
    have ih:=prog_nat he patch hn k k' q ω
    show match (progP e patch n k q).bd (fun l=>M.ret (a::l)) with|.out=>True|.bad r=>(progP e' patch n' k' (q.map (mvT φ))).bd (fun l=>M.ret (Mv.mv φ a::l))=_|.ok l r=>(progP e' patch n' k' (q.map (mvT φ))).bd (fun l=>M.ret (Mv.mv φ a::l))=_
    cases hy:progP e patch n k q with
    | out=>trivial
    | bad q2=>rw[hy] at ih;rw[ih];rfl
    | ok l q2=>rw[hy] at ih;rw[ih];rfl
theorem prog_rows {φ:Int→Int} {e e':Int} (he:e'=φ e) {vs:List Tk} {t:Tk} {v:List Tk} (hv:vs=t::v) (hk:t.kind=1) (hd:declW t.text.data.toList=true) (patch:Bool) {n n':Nat} (hn:n≤n'):∀(k k':Nat) (xs:List Tk) (l:List Nd) (r:List Tk),k≤k'→progP e patch n k xs=.ok l r→progP e' patch n' (k'+l.length) (xs.map (mvT φ)++vs)=(progP e' patch n' k' vs).bd fun q=>M.ret (mvL φ l++q)
 | 0,k',xs,l,r,_,h=>(by cases h)
 | k+1,k',xs,l,r,h,hp=>by
  cases xs with
  | nil =>
   cases hp
   show progP e' patch n' k' vs=_
   cases progP e' patch n' k' vs<;>rfl
  | cons t1 r1 =>
   have i1:EqP φ e e':=⟨he⟩
   have i2:Le n n':=⟨hn⟩
   have i3:Al φ [] vs false:=⟨.inr ⟨rfl,rfl,t,v,hv,hk,hd⟩⟩
   have hs:=(inferInstance:Sim φ [] vs false (oneP e patch n) (oneP e' patch n')).h (t1::r1)
   simp only[List.append_nil] at hs
   rw[prog_cons] at hp
   cases hx:oneP e patch n (t1::r1) with
   | out=>rw[hx] at hp;cases hp
   | bad q=>rw[hx] at hp;cases hp
   | ok a q =>
    rw[hx] at hp
    have hp:(progP e patch n k q).bd (fun l=>M.ret (a::l))=.ok l r:=hp
    cases hy:progP e patch n k q with
    | out=>rw[hy] at hp;cases hp
    | bad q2=>rw[hy] at hp;cases hp
    | ok l2 q2 =>
     rw[hy] at hp
     injection hp with h1 h2
     have ih:=prog_rows he hv hk hd patch hn k k' q l2 q2 ω hy
     rw[←h1]
     rw[show k'+(a::l2).length=(k'+l2.length)+1 from by simp;omega,List.map_cons,List.cons_append,prog_cons,←List.cons_append,←List.map_cons,hs.1 a q hx]
     show (progP e' patch n' (k'+l2.length) (q.map (mvT φ)++vs)).bd _=_
     rw[ih]
     cases progP e' patch n' k' vs<;>rfl
end
end Go.Proofs.YtbjdcogmiggamaaGreatDoor
namespace Go.Proofs.YtbjdcogmiggamaaGreatDoor
section
open Proofs.Tryz RowKit Maps WideMaps ChangeMaps
theorem numP_range {l:List UInt8} {lo hi n:Int} (h:numP l lo hi=some n):lo≤n∧n≤hi:=by
 have fin:∀(neg:Bool) (m:Int),finN neg m lo hi=some n→lo≤n∧n≤hi:=by
  intro neg m h
  unfold finN at h
  generalize (if neg=true then m else -m)=k at h
  by_cases h1:neg=false∧m=-9223372036854775808
  · rw[if_pos h1] at h;cases h
  · rw[if_neg h1] at h
    by_cases h2:k<lo∨hi<k
    · rw[if_pos h2] at h;cases h
    · rw[if_neg h2] at h;injection h with h;omega
 unfold numP at h
 split at h
 · split at h
   · cases h
   · obtain⟨m,_,hm⟩:=Option.bind_eq_some_iff.1 h
     exact fin _ _ hm
 · split at h
   · cases h
   · obtain⟨m,_,hm⟩:=Option.bind_eq_some_iff.1 h
     exact fin _ _ hm
end
section
open Proofs.Tryz RowKit Maps WideMaps ChangeMaps
theorem blank_cases {c:UInt8} (h:blankC c=true):c=9∨c=10∨c=13∨c=32:=by
 unfold blankC at h
 simp only[Bool.or_eq_true,beq_iff_eq] at h
 rcases h with ((h|h)|h)|h
 · exact .inl (UInt8.toNat_inj.1 h)
 · exact .inr (.inl (UInt8.toNat_inj.1 h))
 · exact .inr (.inr (.inl (UInt8.toNat_inj.1 h)))
 · exact .inr (.inr (.inr (UInt8.toNat_inj.1 h)))
theorem let_name {c:UInt8} (h:letC c=true):nameC c=true:=by unfold nameC;unfold letC at h;rw[h];rfl
theorem dig_name {c:UInt8} (h:digC c=true):nameC c=true:=by
 unfold digC at h;unfold nameC
 simp only[Bool.and_eq_true,Bool.or_eq_true] at h ⊢
 exact .inl (.inr h)
end
section
open Proofs.Tryz RowKit Maps WideMaps ChangeMaps
theorem skip_nl (u:List UInt8):∀(b:Bool) (l:List UInt8),skipL b (l++10::u)=if skipL b l=[] then skipL false u else skipL b l++10::u
 | true,[]=>by rw[show skipL true []=[] from by rw[skipL],if_pos rfl,List.nil_append,skipL];rw[if_pos π]
 | false,[]=>by rw[show skipL false []=[] from by rw[skipL],if_pos rfl,List.nil_append,skipL];rw[if_pos π]
 | true,c::l=>by
  rw[List.cons_append,skipL,skipL]
  split
  · exact skip_nl u false l
  · exact skip_nl u true l
 | false,c::l=>by
  have e:(l++10::u).head?=some 47↔l.head?=some 47:=by
   cases l with
   | nil=>simp
   | cons x l=>simp
  rw[List.cons_append,skipL,skipL]
  by_cases h1:blankC c=true
  · rw[if_pos h1,if_pos h1];exact skip_nl u false l
  · rw[if_neg h1,if_neg h1]
    by_cases h2:c.toNat=47∧l.head?=some 47
    · rw[if_pos ⟨h2.1,e.2 h2.2⟩,if_pos h2];exact skip_nl u true l
    · rw[if_neg (fun h=>h2 ⟨h.1,e.1 h.2⟩),if_neg h2,if_neg (by simp)];rfl
theorem while_nl {p:UInt8→Bool} {c:UInt8} (hc:p c=false) (u:List UInt8):∀l:List UInt8,(l++c::u).takeWhile p=l.takeWhile p∧(l++c::u).dropWhile p=l.dropWhile p++c::u
 | []=>by simp[List.takeWhile_cons,List.dropWhile_cons,hc]
 | x::l=>by
  obtain⟨h1,h2⟩:=while_nl hc u l
  rw[List.cons_append,List.takeWhile_cons,List.takeWhile_cons,List.dropWhile_cons,List.dropWhile_cons,h1,h2]
  cases p x<;>exact⟨rfl,rfl⟩
theorem text_nl (u:List UInt8) (l:List UInt8):∀a b q,textL a l=.ok (b,q)→textL a (l++10::u)=.ok (b,q++10::u):=by
 induction hn:l.length using Nat.strongRecOn generalizing l with
 | _ n ih =>
  intro a b q h
  cases l with
  | nil=>rw[textL_nil] at h;cases h
  | cons c r =>
   rw[List.cons_append,textL_cons]
   rw[textL_cons] at h
   split at h
   · cases h
   · rename_i h1
     rw[if_neg h1]
     split at h
     · rename_i h2
       rw[if_pos h2]
       split at h
       · cases h
       · rename_i h3
         rw[if_neg h3]
         injection h with h;injection h with e1 e2
         subst e1 e2;rfl
     · rename_i h2
       rw[if_neg h2]
       split at h
       · rename_i h3
         rw[if_pos h3]
         cases r with
         | nil=>cases h
         | cons d r2 =>
          rw[textE_cons] at h
          rw[List.cons_append,textE_cons]
          cases hu:unesc d with
          | none=>rw[hu] at h;cases h
          | some x =>
           rw[hu] at h
           exact ih r2.length (by simp at hn;omega) r2 rfl _ _ _ h
       · rename_i h3
         rw[if_neg h3]
         exact ih r.length (by simp at hn;omega) r rfl _ _ _ h
theorem mark_nl:∀m:UInt8,markB [m,10]=false:=by
 intro m
 unfold markB markWords
 simp
theorem tok_nl {p:Int} {l q u:List UInt8} {t:Tk} (h:tokL p l=.ok (t,q)):tokL p (l++10::u)=.ok (t,q++10::u):=by
 cases l with
 | nil=>cases h
 | cons c r =>
  have hw:=while_nl (p:=nameC) (c:=10) π u (c::r)
  rw[List.cons_append] at hw ⊢
  unfold tokL at h ⊢
  simp only at h ⊢
  rw[hw.1,hw.2]
  by_cases h1:letC c=true
  · rw[if_pos h1] at h ⊢
    injection h with h;injection h with e1 e2
    subst e1 e2;rfl
  · rw[if_neg h1] at h ⊢
    by_cases h2:digC c=true
    · rw[if_pos h2] at h ⊢
      cases hi:intL ((c::r).takeWhile nameC) with
      | error x=>rw[hi] at h;cases h
      | ok n =>
       rw[hi] at h
       injection h with h;injection h with e1 e2
       subst e1 e2;rfl
    · rw[if_neg h2] at h ⊢
      by_cases h3:c.toNat=34
      · rw[if_pos h3] at h ⊢
        cases ht:textL [] r with
        | error x=>rw[ht] at h;cases h
        | ok z =>
         obtain⟨a,q2⟩:=z
         rw[ht] at h
         injection h with h;injection h with e1 e2
         rw[text_nl u r _ _ _ ht]
         subst e1 e2;rfl
      · rw[if_neg h3] at h ⊢
        cases r with
        | nil =>
         rw[if_neg (by simp)] at h
         rw[if_neg (by rintro ⟨_,h5⟩;rw[show ((c::([]++10::u)).take 2)=[c,10] from rfl,mark_nl] at h5;cases h5)]
         show (if markB [c]=true then _ else _)=_
         change (if markB [c]=true then _ else _)=_ at h
         split at h
         · rename_i h5
           rw[if_pos h5]
           injection h with h;injection h with e1 e2
           subst e1 e2;rfl
         · cases h
        | cons d r2 =>
         show (if 2≤(c::d::(r2++10::u)).length∧markB [c,d]=true then _ else if markB [c]=true then _ else _)=_
         change (if 2≤(c::d::r2).length∧markB [c,d]=true then _ else if markB [c]=true then _ else _)=_ at h
         split at h
         · rename_i h5
           rw[if_pos ⟨by simp,h5.2⟩]
           injection h with h;injection h with e1 e2
           subst e1 e2;rfl
         · rename_i h5
           rw[if_neg (fun h6=>h5 ⟨by simp,h6.2⟩)]
           split at h
           · rename_i h7
             rw[if_pos h7]
             injection h with h;injection h with e1 e2
             subst e1 e2;rfl
           · cases h
theorem tok_pos {p:Int} {l q:List UInt8} {t:Tk} (h:tokL p l=.ok (t,q)):t.pos=p:=by
 unfold tokL at h
 split at h
 · cases h
 · split at h
   · injection h with h;injection h with e1 e2;subst e1;rfl
   · split at h
     · split at h
       · cases h
       · injection h with h;injection h with e1 e2;subst e1;rfl
     · split at h
       · split at h
         · cases h
         · injection h with h;injection h with e1 e2;subst e1;rfl
       · split at h
         · injection h with h;injection h with e1 e2;subst e1;rfl
         · split at h
           · injection h with h;injection h with e1 e2;subst e1;rfl
           · cases h
theorem tok_mv {p p':Int} {l:List UInt8}:tokL p' l=match tokL p l with|.error x=>.error x|.ok (t,q)=>.ok ({ t with pos:=p' },q):=by
 unfold tokL
 split
 · rfl
 · split
   · rfl
   · split
     · split<;>rfl
     · split
       · split<;>rfl
       · split
         · rfl
         · split<;>rfl
def LexR.add (ts:List Tk):LexR→LexR
 | .err x p=>.err x p
 | .ok us=>.ok (ts++us)
theorem scanL_step {N n:Nat} {l:List UInt8} {c:UInt8} {r q:List UInt8} {t:Tk} (hs:skipL false l=c::r) (ht:tokL ((N:Int)-((c::r).length:Int)) (c::r)=.ok (t,q)):scanL N (n+1) l=(scanL N n q).add [t]:=by
 rw[scanL,hs]
 show (match tokL ((N:Int)-((c::r).length:Int)) (c::r) with|.error x=>_|.ok (t,q)=>_)=_
 rw[ht]
 show (match scanL N n q with|.err x p=>LexR.err x p|.ok ts=>.ok (t::ts))=_
 cases scanL N n q<;>rfl
theorem LexR.add_add (a b:List Tk) (x:LexR):(x.add b).add a=x.add (a++b):=by
 cases x with
 | err=>rfl
 | ok u=>show LexR.ok _=.ok _;rw[List.append_assoc]
theorem scan_inv {N n:Nat} {l:List UInt8} {ts:List Tk} (h:scanL N (n+1) l=.ok ts):(skipL false l=[]∧ts=[])∨∃c r t q us,skipL false l=c::r∧tokL ((N:Int)-((c::r).length:Int)) (c::r)=.ok (t,q)∧scanL N n q=.ok us∧ts=t::us:=by
 rw[scanL] at h
 split at h
 · rename_i hs
   injection h with h
   exact .inl ⟨hs,h.symm⟩
 · rename_i c r hs
   right
   split at h
   · cases h
   · rename_i t q ht
     split at h
     · cases h
     · rename_i us hu
       injection h with h
       exact⟨c,r,t,q,us,hs,ht,hu,h.symm⟩
theorem scan_rows (N':Nat) (u:List UInt8):∀(n n':Nat) (N:Nat) (l:List UInt8) (ts:List Tk),scanL N n l=.ok ts→N'=N+1+u.length→n'=n+u.length+1→l.length<n →
 ∃m,u.length<m∧scanL N' n' (l++10::u)=(scanL N' m u).add ts
 | 0,n',N,l,ts,h,_,_,hl=>absurd hl (Nat.not_lt_zero _)
 | n+1,n',N,l,ts,h,hN,hn,hl=>by
  obtain⟨n'',rfl⟩:∃k,n'=k+1:=⟨n'-1,by omega⟩
  have hs:=skip_nl u false l
  rcases scan_inv h with ⟨h0,rfl⟩|⟨c,r,t,q,us,h0,ht,hq,rfl⟩
  · rw[if_pos h0] at hs
    refine⟨n''+1,by omega,?_⟩
    have e:∀m,scanL N' (m+1) (l++10::u)=scanL N' (m+1) u:=fun m=>by rw[scanL,scanL,hs]
    rw[e]
    cases scanL N' (n''+1) u<;>rfl
  · rw[h0,if_neg (by simp)] at hs
    have h1:=skip_le false l
    rw[h0] at h1
    have h2:=tok_less ht
    have ht2:=tok_nl (u:=u) ht
    obtain⟨m,hm,e⟩:=scan_rows N' u n n'' N q us hq hN ω ω
    refine⟨m,hm,?_⟩
    rw[scanL_step (c:=c) (r:=r++10::u) (t:=t) (q:=q++10::u) hs ?_,e,LexR.add_add]
    · rfl
    · rw[List.cons_append] at ht2
      rw[←ht2]
      congr 1
      simp only[List.length_cons,List.length_append]
      omega
theorem scanL_cons {N n:Nat} {l:List UInt8} {c:UInt8} {r:List UInt8} (hs:skipL false l=c::r):scanL N (n+1) l=match tokL ((N:Int)-((c::r).length:Int)) (c::r) with
 | .error x=>LexR.err x ((N:Int)-((c::r).length:Int))
 | .ok (t,q)=>match scanL N n q with
  | .err x p=>.err x p
  | .ok ts=>.ok (t::ts):=by
 rw[scanL,hs]
 rfl
theorem scanL_nil {N n:Nat} {l:List UInt8} (hs:skipL false l=[]):scanL N (n+1) l=.ok []:=by
 rw[scanL,hs]
theorem scan_fuel {N:Nat}:∀(n m:Nat) (l:List UInt8),l.length<n→l.length<m→scanL N n l=scanL N m l
 | 0,_,l,h,_=>absurd h (Nat.not_lt_zero _)
 | _+1,0,l,_,h=>absurd h (Nat.not_lt_zero _)
 | n+1,m+1,l,h,k=>by
  have h1:=skip_le false l
  cases hs:skipL false l with
  | nil=>rw[scanL_nil hs,scanL_nil hs]
  | cons c r =>
   rw[hs] at h1
   rw[scanL_cons hs,scanL_cons hs]
   cases ht:tokL ((N:Int)-((c::r).length:Int)) (c::r) with
   | error x=>rfl
   | ok z =>
    obtain⟨t,q⟩:=z
    have h2:=tok_less ht
    show (match scanL N n q with|.err x p=>LexR.err x p|.ok ts=>.ok (t::ts))=_
    rw[scan_fuel n m q ω ω]
theorem scan_mv {N d:Nat}:∀(n:Nat) (l:List UInt8),l.length<n→scanL (N+d) n l=match scanL N n l with|.err x p=>.err x (p+d)|.ok ts=>.ok (ts.map fun t=>{ t with pos:=t.pos+d })
 | 0,l,h=>absurd h (Nat.not_lt_zero _)
 | n+1,l,h=>by
  have h1:=skip_le false l
  cases hs:skipL false l with
  | nil=>rw[scanL_nil hs,scanL_nil hs];rfl
  | cons c r =>
   rw[hs] at h1
   rw[scanL_cons hs,scanL_cons hs]
   show (match tokL (((N+d:Nat):Int)-((c::r).length:Int)) (c::r) with|.error x=>LexR.err x _|.ok (t,q)=>_)=_
   rw[tok_mv (p:=(N:Int)-((c::r).length:Int)) (p':=((N+d:Nat):Int)-((c::r).length:Int))]
   cases ht:tokL ((N:Int)-((c::r).length:Int)) (c::r) with
   | error x =>
    show LexR.err x _=LexR.err x _
    congr 1;omega
   | ok z =>
    obtain⟨t,q⟩:=z
    have hp:=tok_pos ht
    have h2:=tok_less ht
    show (match scanL (N+d) n q with|.err x p=>LexR.err x p|.ok ts=>.ok (Tk.mk t.kind t.text t.n (((N+d:Nat):Int)-((c::r).length:Int))::ts))=_
    rw[scan_mv n q ω]
    show _=(match (match scanL N n q with|.err x p=>LexR.err x p|.ok ts=>.ok (t::ts)) with|.err x p=>LexR.err x (p+d)|.ok ts=>LexR.ok (ts.map fun (t:Tk)=>Tk.mk t.kind t.text t.n (t.pos+d)))
    cases hq:scanL N n q with
    | err x p=>rfl
    | ok us =>
     show LexR.ok _=LexR.ok _
     rw[List.map_cons]
     congr 2
     rw[hp]
     simp only[Tk.mk.injEq,true_and]
     omega
end
section
open Proofs.Tryz RowKit Maps WideMaps ChangeMaps
def Cl (c c':UInt8):Prop:=c=c'∨(digC c=true∧digC c'=true)
theorem Cl.name {c c':UInt8} (h:Cl c c'):nameC c=nameC c':=by
 rcases h with rfl|⟨h1,h2⟩
 · rfl
 · rw[dig_name h1,dig_name h2]
theorem dig_facts {c:UInt8} (h:digC c=true):blankC c=false∧c.toNat≠47∧c.toNat≠10:=by
 unfold digC at h
 simp only[Bool.and_eq_true,decide_eq_true_eq] at h
 exact⟨by cases hb:blankC c with|false=>rfl|true=>rcases blank_cases hb with rfl|rfl|rfl|rfl<;>simp at h,by omega,by omega⟩
theorem Cl.h47 {c c':UInt8} (h:Cl c c'):c=47↔c'=47:=by
 rcases h with rfl|⟨h1,h2⟩
 · exact Iff.rfl
 · have a:=(dig_facts h1).2.1
   have b:=(dig_facts h2).2.1
   exact⟨fun e=>by subst e;exact absurd rfl a,fun e=>by subst e;exact absurd rfl b⟩
section
variable {c c':UInt8} {u u':List UInt8}
end
end
section
open Proofs.Tryz RowKit Maps WideMaps ChangeMaps
theorem int_good {l:List UInt8} {n:Int} (h:intL l=.ok n):0≤n∧n≤9007199254740992:=by
 unfold intL at h
 split at h
 · cases h
 · split at h
   · cases h
   · split at h
     · cases h
     · rename_i hn
       injection h with h
       subst h
       exact numP_range hn
theorem tok_good {p:Int} {l q:List UInt8} {t:Tk} (h:tokL p l=.ok (t,q)):tokB t=true:=by
 have hs:∀l:List UInt8,(str l).data.toList=l:=fun l=>by unfold str;simp
 unfold tokL at h
 split at h
 · cases h
 · rename_i c r
   split at h
   · rename_i hc
     injection h with h;injection h with e1 e2
     subst e1
     unfold tokB
     simp only[if_true]
     rw[hs,List.takeWhile_cons,if_pos (let_name hc)]
     unfold nameB
     simp only[hc,Bool.true_and,List.all_cons,let_name hc,beq_self_eq_true,Bool.and_true]
     exact List.all_takeWhile
   · split at h
     · split at h
       · cases h
       · rename_i hi
         injection h with h;injection h with e1 e2
         subst e1
         have:=int_good hi
         unfold tokB
         simp[e0,this]
     · split at h
       · split at h
         · cases h
         · rename_i a q2 ht
           injection h with h;injection h with e1 e2
           subst e1
           have:=text_len _ _ _ _ ht
           have e:(str a).size=a.length:=by unfold str;simp[ByteArray.size]
           unfold tokB
           simp only
           rw[if_neg π,if_neg π,if_pos π,e,decide_eq_true this];rfl
       · split at h
         · rename_i hm
           injection h with h;injection h with e1 e2
           subst e1
           have:=hm.2
           unfold tokB
           simp only
           rw[if_neg π,if_neg π,if_neg π,if_pos π,hs,this];rfl
         · split at h
           · rename_i hm
             injection h with h;injection h with e1 e2
             subst e1
             unfold tokB
             simp only
             rw[if_neg π,if_neg π,if_neg π,if_pos π,hs,hm];rfl
           · cases h
theorem scan_good {N:Nat}:∀(n:Nat) (l:List UInt8) (ts:List Tk),scanL N n l=.ok ts→∀t∈ts,tokB t=true
 | 0,l,ts,h=>by cases h
 | n+1,l,ts,h=>by
  rcases scan_inv h with ⟨_,rfl⟩|⟨c,r,t,q,us,h0,ht,hq,rfl⟩
  · intro t h;cases h
  · intro x hx
    rcases List.mem_cons.1 hx with rfl|hx
    · exact tok_good ht
    · exact scan_good n q us hq x hx
end
section
open Proofs.Tryz RowKit Maps WideMaps ChangeMaps
mutual
theorem smN_mv (φ:Int→Int):∀a:Nd,smN a (a.mv φ)=true
 | .mk k s n p l=>by rw[Nd.mv,smN,smL_mv φ l];simp
theorem smL_mv (φ:Int→Int):∀l:List Nd,smL l (mvL φ l)=true
 | []=>by rw[mvL,smL]
 | a::l=>by rw[mvL,smL,smN_mv φ a,smL_mv φ l];rfl
end
theorem smL_app:∀a b c d:List Nd,smL a b=true→smL c d=true→smL (a++c) (b++d)=true
 | [],[],c,d,_,h=>h
 | x::a,y::b,c,d,h,k=>by
  rw[smL,Bool.and_eq_true] at h
  rw[List.cons_append,List.cons_append,smL,h.1,smL_app a b c d h.2 k];rfl
 | [],_::_,_,_,h,_=>absurd h (by rw[smL_len _ _ (by simp)];simp)
 | _::_,[],_,_,h,_=>absurd h (by rw[smL_len _ _ (by simp)];simp)
mutual
theorem deep_mv (φ:Int→Int):∀(d:Nat) (a:Nd),deepP d (a.mv φ)=(deepP d a).map φ
 | d,.mk k s n p l=>by
  rw[Nd.mv,deepP,deepP]
  split
  · rfl
  · exact deepL_mv φ (d+1) l
theorem deepL_mv (φ:Int→Int):∀(d:Nat) (l:List Nd),deepL d (mvL φ l)=(deepL d l).map φ
 | d,[]=>by rw[mvL,deepL];rfl
 | d,x::l=>by
  rw[mvL,deepL,deepL,deep_mv φ d x,deepL_mv φ d l]
  cases deepP d x<;>rfl
end
theorem deepL_app (d:Nat):∀a b:List Nd,deepL d a=none→deepL d (a++b)=deepL d b
 | [],b,_=>rfl
 | x::a,b,h=>by
  rw[deepL] at h
  rw[List.cons_append,deepL]
  cases hx:deepP d x with
  | some q=>rw[hx] at h;cases h
  | none=>rw[hx] at h;exact deepL_app d a b h
mutual
theorem mv_id:∀a:Nd,a.mv (fun p=>p)=a
 | .mk k s n p l=>by rw[Nd.mv,mvL_id l]
theorem mvL_id:∀l:List Nd,mvL (fun p=>p) l=l
 | []=>by rw[mvL]
 | a::l=>by rw[mvL,mv_id a,mvL_id l]
end
theorem mapT_id (l:List Tk):l.map (mvT (fun p=>p))=l:=by
 conv=>rhs;rw[←List.map_id l]
 rfl
theorem off_mv {φ:Int→Int} {e e':Int} (h:e'=φ e) (r:List Tk):offP e' (r.map (mvT φ))=φ (offP e r):=by
 cases r with
 | nil=>exact h
 | cons t r=>rfl
theorem scan_lt {N:Nat}:∀(n:Nat) (l:List UInt8) (ts:List Tk),scanL N n l=.ok ts→∀t∈ts,t.pos<N
 | 0,l,ts,h=>by rw[scanL] at h;cases h
 | n+1,l,ts,h=>by
  rcases scan_inv h with ⟨_,rfl⟩|⟨c,r,t,q,us,_,ht,hq,rfl⟩
  · intro t ht;cases ht
  · intro x hx
    rcases List.mem_cons.1 hx with rfl|hx
    · rw[tok_pos ht];simp only[List.length_cons];omega
    · exact scan_lt n q us hq x hx
theorem one_first {e:Int} {n:Nat} {t:Tk} {r:List Tk} (ht:tokB t=true) (h:¬(t.kind=1∧declW t.text.data.toList=true)):oneP e true n (t::r)=.bad (t::r):=by
 have hw:declW (wl (t::r))=false:=by
  cases hd:declW (wl (t::r)) with
  | false=>rfl
  | true =>
   exfalso
   unfold wl wrd at hd
   by_cases h1:t.kind=1
   · rw[if_pos (show kd (t::r)=1∨kd (t::r)=4 from .inl h1)] at hd
     exact h ⟨h1,hd⟩
   · by_cases h4:t.kind=4
     · rw[if_pos (show kd (t::r)=1∨kd (t::r)=4 from .inr h4)] at hd
       have hd:declW t.text.data.toList=true:=hd
       unfold tokB at ht
       rw[if_neg h1,if_neg ω,if_neg ω,if_pos h4,Bool.and_eq_true] at ht
       have hm:=ht.1
       simp only[declW,declWords,List.contains_cons,Bool.or_eq_true,beq_iff_eq] at hd
       rcases hd with hd|hd|hd|hd|hd|hd|hd|hd|hd<;>first|(rw[hd] at hm;revert hm;decide)|(simp at hd)
     · rw[if_neg (show ¬(kd (t::r)=1∨kd (t::r)=4) from fun h=>h.elim h1 h4)] at hd
       revert hd;decide
 have n1:∀w,declW w=true→(wl (t::r)==w)=false:=fun w hd=>by
  cases hq:wl (t::r)==w with
  | false=>rfl
  | true=>rw[beq_iff_eq] at hq;rw[hq,hd] at hw;cases hw
 have hc:chgB (wl (t::r))=false:=by
  unfold chgB
  rw[n1 _ π,n1 _ π,n1 _ π];rfl
 rw[one_eq,hc]
 show (acc _ _ (acc _ _ (acc _ _ (acc _ _ (acc _ _ failP))))) (t::r)=_
 rw[acc_f (n1 _ π),acc_f (n1 _ π),acc_f (n1 _ π),acc_f (n1 _ π),acc_f (n1 _ π)];rfl
theorem runP_form {l:List UInt8} {a:Nd} (h:runP true l=.ok a):∃ts q r,scanP l=.ok ts∧progP (l.length:Int) true (20*ts.length+1) (ts.length+1) ts=.ok q r∧deepL 1 q=none∧a=.mk 1 e0 0 0 q:=by
 cases hs:scanP l with
 | err x p=>rw[run_err hs] at h;cases h
 | ok ts =>
  rw[run_ok hs] at h
  cases hp:progP (l.length:Int) true (20*ts.length+1) (ts.length+1) ts with
  | out=>exact absurd hp prog_in
  | bad r=>rw[hp] at h;cases h
  | ok q r =>
   rw[hp] at h
   cases hd:deepP 0 (.mk 1 e0 0 0 q) with
   | some p=>rw[fin_deep hd] at h;cases h
   | none =>
    rw[fin_ok hd] at h
    injection h with h
    refine⟨ts,q,r,rfl,hp,?_,h.symm⟩
    rw[deepP,if_neg ω] at hd
    exact hd
theorem scanP_of {l:List UInt8} (h:l.length≤32768):scanP l=scanL l.length (l.length+1) l:=by unfold scanP;rw[if_neg ω]
theorem deep_top (q:List Nd):deepP 0 (.mk 1 e0 0 0 q)=deepL 1 q:=by rw[deepP,if_neg ω]
theorem prog_more {e:Int} {ts:List Tk} {k:Nat} (h:ts.length+1≤k):progP e true (20*ts.length+1) k ts=progP e true (20*ts.length+1) (ts.length+1) ts:=by
 have h1:=prog_nat (φ:=fun p=>p) (e:=e) (e':=e) rfl true (Nat.le_refl (20*ts.length+1)) (ts.length+1) k ts h
 cases hp:progP e true (20*ts.length+1) (ts.length+1) ts with
 | out=>exact absurd hp prog_in
 | bad r=>simp only[hp,mapT_id] at h1;exact h1
 | ok l r=>simp only[hp,mapT_id,mvL_id] at h1;exact h1
theorem rows_law (l m:List UInt8) (hl:l.length≤1500) (hm:m.length≤1500) (a:Nd) (ha:runP true l=.ok a) :
 (∃y q,runP true m=.err y q∧y≠0∧((∃t ts,scanP m=.ok (t::ts)∧t.pos=q)∨runP true (l++10::m)=.err y (q+l.length+1))) ∨
 ∃b c,runP true m=.ok b∧runP true (l++10::m)=.ok c∧smN (.mk (ndK a) (ndS a) (ndN a) (ndP a) (ndL a++ndL b)) c=true:=by
 obtain⟨ts,la,ra,hs,hp,hd,rfl⟩:=runP_form ha
 have hlen:(l++10::m).length=l.length+1+m.length:=by simp;omega
 rw[scanP_of ω] at hs
 obtain⟨f,hf,hw⟩:=scan_rows (l.length+1+m.length) m (l.length+1) ((l++10::m).length+1) l.length l ts hs rfl ω (Nat.lt_succ_self _)
 have hmv:=scan_mv (N:=m.length) (d:=l.length+1) f m hf
 rw[show m.length+(l.length+1)=l.length+1+m.length from by omega,scan_fuel (N:=l.length+1+m.length) f (m.length+1) m hf (Nat.lt_succ_self _),scan_fuel (N:=m.length) f (m.length+1) m hf (Nat.lt_succ_self _)] at hmv
 have hW:scanP (l++10::m)=(scanL (l.length+1+m.length) f m).add ts:=by
  rw[scanP_of ω]
  exact (congrArg (fun N=>scanL N ((l++10::m).length+1) (l++10::m)) hlen).trans hw
 rw[scan_fuel (N:=l.length+1+m.length) f (m.length+1) m hf (Nat.lt_succ_self _)] at hW
 have hM:scanP m=scanL m.length (m.length+1) m:=scanP_of ω
 cases hsm:scanL m.length (m.length+1) m with
 | err y q =>
  left
  rw[hsm] at hM hmv
  have hmv:scanL (l.length+1+m.length) (m.length+1) m=.err y (q+((l.length+1:Nat):Int)):=hmv
  rw[hmv] at hW
  refine⟨y,q,run_err hM,scanP_errs hM,.inr ?_⟩
  rw[run_err (x:=y) (p:=q+((l.length+1:Nat):Int)) hW]
  congr 1;omega
 | ok us =>
  rw[hsm] at hM hmv
  let φ:Int→Int:=fun p=>if p=(l.length:Int) then ((l.length+1+m.length:Nat):Int) else p
  let ψ:Int→Int:=fun p=>p+((l.length+1:Nat):Int)
  have hmv:scanL (l.length+1+m.length) (m.length+1) m=.ok (us.map (mvT ψ)):=hmv
  rw[hmv] at hW
  have hW:scanP (l++10::m)=.ok (ts++us.map (mvT ψ)):=hW
  have hts:ts.map (mvT φ)=ts:=by
   conv=>rhs;rw[←List.map_id ts]
   apply List.map_congr_left
   intro x hx
   have:=scan_lt _ _ _ hs x hx
   show Tk.mk _ _ _ (if x.pos=(l.length:Int) then _ else x.pos)=x
   rw[if_neg ω]
  have hR:=run_ok (patch:=true) hM
  have hRW:=run_ok (patch:=true) hW
  rw[hlen] at hRW
  have e1:((l.length+1+m.length:Nat):Int)=φ (l.length:Int):=by show _=if _ then _ else _;rw[if_pos rfl]
  have e2:((l.length+1+m.length:Nat):Int)=ψ (m.length:Int):=by show _=(m.length:Int)+_;omega
  have lW:(ts++us.map (mvT ψ)).length=ts.length+us.length:=by simp
  have inM:=prog_in (e:=(m.length:Int)) (patch:=true) (ts:=us)
  have nat:=prog_nat (φ:=ψ) e2 true (show 20*us.length+1≤20*(ts.length+us.length)+1 by omega) (us.length+1) (ts.length+us.length+1) us ω
  have whole:progP ((l.length+1+m.length:Nat):Int) true (20*(ts.length+us.length)+1) (ts.length+us.length+1) (ts++us.map (mvT ψ))=progP ((l.length+1+m.length:Nat):Int) true (20*(ts.length+us.length)+1) (ts.length+us.length+1+la.length) (ts++us.map (mvT ψ)):=by
   have h:=prog_more (e:=((l.length+1+m.length:Nat):Int)) (ts:=ts++us.map (mvT ψ)) (k:=ts.length+us.length+1+la.length) (by rw[lW];omega)
   rw[lW] at h
   exact h.symm
  cases us with
  | nil =>
   right
   have hR:runP true m=.ok (.mk 1 e0 0 0 []):=hR.trans (fin_ok (r:=[]) π)
   have h:=prog_nat (φ:=φ) e1 true (show 20*ts.length+1≤20*(ts.length+0)+1 by omega) (ts.length+1) (ts.length+0+1) ts ω
   rw[hp,hts] at h
   have hRW:runP true (l++10::m)=finQ _ (progP ((l.length+1+m.length:Nat):Int) true (20*(ts++[]).length+1) ((ts++[]).length+1) (ts++[])):=hRW
   rw[List.append_nil] at hRW
   have h:progP ((l.length+1+m.length:Nat):Int) true (20*ts.length+1) (ts.length+1) ts=.ok (mvL φ la) (ra.map (mvT φ)):=h
   rw[h,fin_ok (by rw[deep_top,deepL_mv,hd];rfl)] at hRW
   refine⟨_,_,hR,hRW,?_⟩
   show smN (.mk 1 e0 0 0 (la++[])) _=true
   rw[List.append_nil,smN,smL_mv];simp
  | cons t us =>
   by_cases hdw:t.kind=1∧declW t.text.data.toList=true
   · have rows:=prog_rows (φ:=φ) (e:=(l.length:Int)) e1 (vs:=(t::us).map (mvT ψ)) (t:=mvT ψ t) (v:=us.map (mvT ψ)) rfl hdw.1 hdw.2 true (show 20*ts.length+1≤20*(ts.length+(t::us).length)+1 by omega) (ts.length+1) (ts.length+(t::us).length+1) ts la ra ω hp
     rw[hts,←whole] at rows
     rw[lW,rows] at hRW
     cases hpm:progP (m.length:Int) true (20*(t::us).length+1) ((t::us).length+1) (t::us) with
     | out=>exact absurd hpm inM
     | bad r =>
      left
      rw[hpm] at nat hR
      have nat:progP _ true (20*(ts.length+(t::us).length)+1) (ts.length+(t::us).length+1) ((t::us).map (mvT ψ))=.bad (r.map (mvT ψ)):=nat
      rw[nat] at hRW
      refine⟨2,offP (m.length:Int) r,hR,by decide,.inr ?_⟩
      rw[hRW]
      show RunR.err 2 (offP _ (r.map (mvT ψ)))=_
      rw[off_mv e2]
      congr 1;show offP _ r+_=_;omega
     | ok lb r =>
      rw[hpm] at nat hR
      have nat:progP _ true (20*(ts.length+(t::us).length)+1) (ts.length+(t::us).length+1) ((t::us).map (mvT ψ))=.ok (mvL ψ lb) (r.map (mvT ψ)):=nat
      rw[nat] at hRW
      have hRW:runP true (l++10::m)=finQ _ (.ok (mvL φ la++mvL ψ lb) (r.map (mvT ψ))):=hRW
      have hdm:deepP 0 (.mk 1 e0 0 0 (mvL φ la++mvL ψ lb))=(deepL 1 lb).map ψ:=by
       rw[deep_top,deepL_app 1 _ _ (by rw[deepL_mv,hd];rfl),deepL_mv]
      cases hdb:deepL 1 lb with
      | some p =>
       left
       rw[hdb] at hdm
       rw[fin_deep (p:=ψ p) hdm] at hRW
       refine⟨10,p,hR.trans (fin_deep (by rw[deep_top];exact hdb)),by decide,.inr ?_⟩
       rw[hRW]
       congr 1;show p+_=_;omega
      | none =>
       right
       rw[hdb] at hdm
       rw[fin_ok hdm] at hRW
       refine⟨_,_,hR.trans (fin_ok (by rw[deep_top];exact hdb)),hRW,?_⟩
       show smN (.mk 1 e0 0 0 (la++lb)) _=true
       rw[smN,smL_app _ _ _ _ (smL_mv φ la) (smL_mv ψ lb)];simp
   · left
     have hb:=one_first (e:=(m.length:Int)) (n:=20*(t::us).length+1) (r:=us) (scan_good _ _ _ hsm t (List.mem_cons_self ..)) hdw
     have hpm:progP (m.length:Int) true (20*(t::us).length+1) ((t::us).length+1) (t::us)=.bad (t::us):=by
      rw[prog_cons,hb];rfl
     rw[hpm] at hR
     exact⟨2,t.pos,hR,by decide,.inl ⟨t,us,hM,rfl⟩⟩
end
section
open Proofs.Tryz RowKit Maps WideMaps ChangeMaps
theorem scan_low {N:Nat}:∀(n:Nat) (l:List UInt8) (ts:List Tk),scanL N n l=.ok ts→∀t∈ts,(N:Int)-l.length≤t.pos
 | 0,l,ts,h=>by rw[scanL] at h;cases h
 | n+1,l,ts,h=>by
  rcases scan_inv h with ⟨_,rfl⟩|⟨c,r,t,q,us,h0,ht,hq,rfl⟩
  · intro t ht;cases ht
  · have h1:=skip_le false l
    rw[h0] at h1
    have h2:=tok_less ht
    intro x hx
    rcases List.mem_cons.1 hx with rfl|hx
    · rw[tok_pos ht];simp only[List.length_cons] at h1 ⊢;omega
    · have:=scan_low n q us hq x hx;omega
end
section
open Proofs.Tryz RowKit Maps WideMaps ChangeMaps
theorem runP_errs {b:Bool} {l:List UInt8} {x p:Int} (h:runP b l=.err x p):x≠0:=by
 cases hs:scanP l with
 | err y q=>rw[run_err hs] at h;injection h with h1 h2;rw[←h1];exact scanP_errs hs
 | ok ts =>
  rw[run_ok hs] at h
  cases hp:progP (l.length:Int) b (20*ts.length+1) (ts.length+1) ts with
  | out=>exact absurd hp prog_in
  | bad r=>rw[hp] at h;injection h with h1 h2;rw[←h1];decide
  | ok q r =>
   rw[hp] at h
   cases hd:deepP 0 (.mk 1 e0 0 0 q) with
   | some p=>rw[fin_deep hd] at h;injection h with h1 h2;rw[←h1];decide
   | none=>rw[fin_ok hd] at h;cases h
def ScU (w:À) (R:LexR) (e:Ending) (w':À):Prop:=
 ∃A cap ts x p,e=.returned (.tuple #[.slice A (ts:List Tk).length cap,.int .i64 x,.int .i64 p])∧Below w.heap.size w w'∧SlR w' (lo w') 4 TkR (.slice A ts.length cap) ts∧((R=.err x p∧x≠0∧ts=[])∨(R=.ok ts∧x=0))
theorem scan_uni (s:Ê) (w:À) (hs:s.size≤maxLen):Calls prog 22 #[.string s] w (ScU w (scanP s.data.toList)):=by
 refine (scan_any s w hs).mono fun e w' h=>?_
 cases hR:scanP s.data.toList with
 | err x p =>
  rw[hR] at h
  obtain⟨he,hb⟩:=h
  exact⟨none,0,[],x,p,he,hb,SlR.nil,.inl ⟨rfl,scanP_errs hR,rfl⟩⟩
 | ok ts =>
  rw[hR] at h
  obtain⟨A,cap,he,hb,hn⟩:=h
  exact⟨A,cap,ts,0,0,he,hb,hn.to' (fun b hb=>⟨hb.2,rfl⟩) (fun _ _ x=>x),.inr ⟨rfl,rfl⟩⟩
theorem scan_num {N:Nat}:∀(n:Nat) (l:List UInt8) (ts:List Tk),scanL N n l=.ok ts→ts.length≤l.length
 | 0,l,ts,h=>by rw[scanL] at h;cases h
 | n+1,l,ts,h=>by
  rcases scan_inv h with ⟨_,rfl⟩|⟨c,r,t,q,us,h0,ht,hq,rfl⟩
  · exact Nat.zero_le _
  · have h1:=skip_le false l
    rw[h0] at h1
    have h2:=tok_less ht
    have:=scan_num n q us hq
    simp only[List.length_cons] at h2 h1 ⊢;omega
theorem prog_num (e:Int) (b:Bool) (n:Nat):∀(k:Nat) (ts:List Tk) (l:List Nd) (r:List Tk),progP e b n k ts=.ok l r→l.length≤k
 | 0,ts,l,r,h=>by cases h
 | k+1,[],l,r,h=>by
  rw[prog_nil] at h
  injection h with h _
  rw[←h];exact Nat.zero_le _
 | k+1,t::ts,l,r,h=>by
  rw[prog_cons] at h
  cases hx:oneP e b n (t::ts) with
  | out=>rw[hx] at h;cases h
  | bad q=>rw[hx] at h;cases h
  | ok a q =>
   rw[hx] at h
   have h:(progP e b n k q).bd (fun l=>M.ret (a::l))=.ok l r:=h
   cases hy:progP e b n k q with
   | out=>rw[hy] at h;cases h
   | bad q2=>rw[hy] at h;cases h
   | ok l2 q2 =>
    rw[hy] at h
    injection h with h _
    have:=prog_num e b n k q l2 q2 hy
    rw[←h,List.length_cons];omega
theorem run_num {l:List UInt8} {k n p:Int} {s:Ê} {q:List Nd} (h:runP true l=.ok (.mk k s n p q)) (hl:l.length≤32768):q.length≤l.length+1:=by
 obtain⟨ts,q',r,hs,hp,_,e⟩:=runP_form h
 injection e with _ _ _ _ e
 subst e
 rw[scanP_of hl] at hs
 have h1:=prog_num _ _ _ _ _ _ _ hp
 have h2:=scan_num _ _ _ hs
 omega
theorem scan_epos {N:Nat}:∀(n:Nat) (l:List UInt8) (x p:Int),l.length≤N→scanL N n l=.err x p→0≤p∧p≤N
 | 0,l,x,p,_,h=>by rw[scanL] at h;injection h with _ h;omega
 | n+1,l,x,p,hN,h=>by
  have h1:=skip_le false l
  cases hs:skipL false l with
  | nil=>rw[scanL_nil hs] at h;cases h
  | cons c r =>
   rw[hs] at h1
   rw[scanL_cons hs] at h
   cases ht:tokL ((N:Int)-((c::r).length:Int)) (c::r) with
   | error y =>
    rw[ht] at h
    injection h with _ h
    simp only[List.length_cons] at h h1;omega
   | ok z =>
    obtain⟨t,q⟩:=z
    have h2:=tok_less ht
    rw[ht] at h
    have h:(match scanL N n q with|.err x p=>LexR.err x p|.ok ts=>.ok (t::ts))=.err x p:=h
    cases hq:scanL N n q with
    | err y z =>
     rw[hq] at h
     injection h with e1 e2
     subst e1 e2
     exact scan_epos n q _ _ ω hq
    | ok ts=>rw[hq] at h;cases h
theorem run_pos {l:List UInt8} {x p:Int} (hl:l.length≤32768) (h:runP true l=.err x p):0≤p∧p≤l.length:=by
 cases hs0:scanP l with
 | err y q =>
  rw[run_err hs0] at h
  injection h with h1 h2
  subst h1 h2
  rw[scanP_of hl] at hs0
  exact scan_epos _ _ _ _ (Nat.le_refl _) hs0
 | ok ts =>
  have hs:=hs0
  rw[scanP_of hl] at hs
  have hlt:=scan_lt _ _ _ hs
  have hlow:∀t∈ts,0≤t.pos:=fun t ht=>by have:=scan_low _ _ _ hs t ht;omega
  have r1:=run_ok (patch:=true) hs0
  rw[h] at r1
  have nat2:=prog_nat (φ:=fun p=>if p=(l.length:Int)∨∃t∈ts,t.pos=p then p else p+1) (e:=(l.length:Int)) (e':=(l.length:Int)) (by rw[if_pos (.inl rfl)]) true (Nat.le_refl (20*ts.length+1)) (ts.length+1) (ts.length+1) ts (Nat.le_refl _)
  have mid:ts.map (mvT (fun p=>if p=(l.length:Int)∨∃t∈ts,t.pos=p then p else p+1))=ts:=by
   conv=>rhs;rw[←List.map_id ts]
   apply List.map_congr_left
   intro x hx
   show Tk.mk _ _ _ (if x.pos=(l.length:Int)∨∃t∈ts,t.pos=x.pos then _ else _)=x
   rw[if_pos (.inr ⟨x,hx,rfl⟩)]
  rw[mid] at nat2
  cases hp:progP (l.length:Int) true (20*ts.length+1) (ts.length+1) ts with
  | out=>exact absurd hp prog_in
  | bad r =>
   rw[hp] at r1
   have r1:RunR.err x p=.err 2 (offP (l.length:Int) r):=r1
   injection r1 with _ r1
   cases r with
   | nil=>have r1:p=(l.length:Int):=r1;omega
   | cons t r =>
    have r1:p=t.pos:=r1
    have hm:t∈ts:=(((prog_suf (l.length:Int) true (20*ts.length+1) (ts.length+1)).h ts).2 _ hp).subset (List.mem_cons_self ..)
    have:=hlt t hm;have:=hlow t hm;omega
  | ok q r =>
   rw[hp] at r1 nat2
   have nat2:Re.ok q r=.ok (mvL _ q) (r.map _):=nat2
   injection nat2 with n1 _
   cases hd:deepL 1 q with
   | none=>rw[fin_ok (by rw[deep_top];exact hd)] at r1;cases r1
   | some p' =>
    rw[fin_deep (by rw[deep_top];exact hd)] at r1
    injection r1 with _ r1
    subst r1
    have n2:=deepL_mv (fun p=>if p=(l.length:Int)∨∃t∈ts,t.pos=p then p else p+1) 1 q
    rw[←n1,hd] at n2
    have n2:some p=some (if p=(l.length:Int)∨∃t∈ts,t.pos=p then p else p+1):=n2
    injection n2 with n2
    by_cases hc:p=(l.length:Int)∨∃t∈ts,t.pos=p
    · rcases hc with hc|⟨t,ht,hc⟩
      · omega
      · have:=hlt t ht;have:=hlow t ht;omega
    · rw[if_neg hc] at n2;omega
end
section
open Proofs.Tryz RowKit Maps WideMaps ChangeMaps
theorem flat_len {size:Nat}:∀{css:List (List Value)},(∀c∈css,c.length=size)→css.flatten.length=css.length*size
 | [],_=>by simp
 | c::css,h=>by rw[List.flatten_cons,List.length_append,flat_len (fun x hx=>h x (List.mem_cons_of_mem _ hx)),h c List.mem_cons_self,List.length_cons,Nat.succ_mul];omega
theorem flat_cut {size:Nat}:∀(css:List (List Value)),(∀c∈css,c.length=size)→∀i (h:i<css.length),(css.flatten.drop (i*size)).take size=css[i]
 | [],_,i,h=>by simp at h
 | c::css,hl,0,_=>by
  have hc:=hl c List.mem_cons_self
  rw[Nat.zero_mul,List.drop_zero,List.flatten_cons,List.take_append_of_le_length ω,List.take_of_length_le ω];rfl
 | c::css,hl,i+1,h=>by
  have hc:=hl c List.mem_cons_self
  have e:(i+1)*size=size+i*size:=by rw[Nat.succ_mul];omega
  have h2:=flat_cut css (fun x hx=>hl x (List.mem_cons_of_mem _ hx)) i (by simpa using h)
  have e2:(c++css.flatten).drop (size+i*size)=css.flatten.drop (i*size):=by
   rw[←List.drop_drop]
   congr 1
   rw[←hc,List.drop_left]
  rw[List.flatten_cons,e,e2]
  exact h2
theorem SlR.row {α:Type} {R:List Value→α→Prop} {w:À} {P:Nat→Prop} {size n cap:Nat} {A:Option Addr} {l:List α} (h:SlR w P size R (.slice A n cap) l) (h0:0<l.length):∃g off xs,A=some ⟨g,off,none⟩∧P g∧RowG size R xs l∧∀j u,xs[j]?=some u→w.cell? ⟨g,off+j,none⟩=some u:=by
 obtain⟨A',cap',css,e,hl,hr,hk⟩:=h
 injection e with e1 e2 e3
 subst e1
 obtain⟨g,off,hA,hP,hc⟩:=hr h0
 have hcl:∀c∈(List.range l.length).map css,c.length=size:=fun c hm=>by
  obtain⟨i,hi,rfl⟩:=List.mem_map.1 hm
  exact (hc i (List.mem_range.1 hi)).1
 refine⟨g,off,((List.range l.length).map css).flatten,hA,hP,⟨by rw[flat_len hcl];simp,fun i hi=>?_⟩,fun j u hu=>?_⟩
 · rw[flat_cut _ hcl i (by simpa using hi)];simpa using hk i hi
 · have hj:j<l.length*size:=by have:=(List.getElem?_eq_some_iff.1 hu).1;rw[flat_len hcl] at this;simpa using this
   have hs:0<size:=by
    rcases Nat.eq_zero_or_pos size with e|e
    · rw[e] at hj;simp at hj
    · exact e
   have hq:j/size<l.length:=by rw[Nat.div_lt_iff_lt_mul hs];exact hj
   have hjm:j/size*size+j%size=j:=by rw[Nat.mul_comm];exact Nat.div_add_mod j size
   have h1:=flat_cut _ hcl (j/size) (by simpa using hq)
   have h2:(css (j/size))[j%size]?=some u:=by
    have h3:(((List.range l.length).map css)[j/size]'(by simpa using hq))=css (j/size):=by simp
    rw[h3] at h1
    rw[←h1,List.getElem?_take,if_pos (Nat.mod_lt _ hs),List.getElem?_drop,hjm];exact hu
   have:=(hc (j/size) hq).2 (j%size) u h2
   rw[Nat.add_assoc,hjm] at this;exact this
theorem RowG.ones {α:Type} {R:List Value→α→Prop} {size:Nat} {xs:List Value} {l:List α} (h:RowG size R xs l) (hs:0<size) (h1:∀cs a,R cs a→∀u∈cs,u.oneCell'=true):∀u∈xs,u.oneCell'=true:=by
 intro u hu
 obtain⟨j,hj,rfl⟩:=List.mem_iff_getElem.1 hu
 have hj':j<l.length*size:=by rw[←h.1];exact hj
 have hq:j/size<l.length:=by rw[Nat.div_lt_iff_lt_mul hs];exact hj'
 have hjm:j/size*size+j%size=j:=by rw[Nat.mul_comm];exact Nat.div_add_mod j size
 refine h1 _ _ (h.2 _ hq) _ (List.mem_iff_getElem?.2 ⟨j%size,?_⟩)
 rw[List.getElem?_take,if_pos (Nat.mod_lt _ hs),List.getElem?_drop,hjm,List.getElem?_eq_getElem hj]
theorem nd_ones {w:À} {P:Nat→Prop} {cs:List Value} {t:Nd} (h:NdR w P cs t):∀u∈cs,u.oneCell'=true:=by
 obtain⟨k,s,n,p,a,A,cap,rfl,_⟩:=nd_form h
 intro u hu
 simp only[List.mem_cons,List.not_mem_nil,or_false] at hu
 rcases hu with rfl|rfl|rfl|rfl|rfl<;>rfl
theorem cell_plus {W:À} {g off:Nat} {xs:List Value} (h:∀j u,xs[j]?=some u→W.cell? ⟨g,off+j,none⟩=some u):∀j u,xs[j]?=some u→W.cell? ((⟨g,off,none⟩:Addr).add j)=some u:=fun j u hu=>by
 have:=h j u hu
 by_cases e:j=0
 · subst e;simpa[Addr.add] using this
 · simpa[Addr.add,e] using this
theorem run_app_none {w:À} (base t ty e:Nat) (i:TypeInfo) (size c:Nat) (ht:prog.underlying t=some (.slice e)) (hi:prog.info? e=some i)
 (v:Value) (n:Nat) (xs:List Value) (hown:w.ownsRow base e size v n xs):(Builtin.append_ #[t,t] ty #[v,.slice none 0 c]).run prog w=.ok v w:=by
 rcases hown.2 with ⟨rfl,rfl⟩|⟨g,cap,cur,rfl,_,_,hnc,_⟩
 · simp[Builtin.append_,run_underlying ht,sizeOf,typeInfo,hi,Builtin.lenOf,Builtin.firstCells]
 · simp[Builtin.append_,run_underlying ht,sizeOf,typeInfo,hi,Builtin.lenOf,Builtin.firstCells,hnc,storeCells]
theorem app_sl_wp {K:Act→À→Prop} {Q:Exit→Act→À→Prop} {P:Nat→Prop} {o:Oper} {a:Act} {w:À} (s x:Operand) (ho:o.op=.call { callee:=.builtin .append,args:=#[s,x],argTypes:=#[22,22] }) (base:Nat) (v:Value) (n:Nat) (xs:List Value) (hs:a.eval s=v) (hown:w.ownsRow base 24 5 v n xs)
 (A:Option Addr) (m cap:Nat) (l:List Nd) (hx:a.eval x=.slice A m cap) (hsl:NdsR w P (.slice A m cap) l) (hn:n≤1000000) (hm:l.length≤1000000) (hbase:base≤w.heap.size)
 (hk:∀v' w' ys,RowG 5 (NdR w P) ys l→w'.ownsRow base 24 5 v' (n+l.length) (xs++ys)→w.grownBy w' v.ownBlock→(v'.ownBlock=v.ownBlock∨v'.ownBlock=some w.heap.size)→K (a.put o.dst v') w'):Oper.wp prog o a w K Q:=by
 obtain⟨io,hio,hiz,his,hib⟩:=info_parts info_24
 obtain rfl:=hsl.len.1
 by_cases h0:0<l.length
 · obtain⟨g2,off,ys,rfl,-,hr,hc⟩:=hsl.row h0
   refine app_wp s x 22 ho base 24 io _ 5 64 underlying22 hio hiz his hib rfl π v n xs hs hown ⟨g2,off,none⟩ l.length cap ys hx hr.1 (cell_plus hc) (hr.ones π (fun _ _ h=>nd_ones h)) (by unfold maxLen;omega) ω hbase ?_
   intro v' w' h1 h2 _ h4
   exact hk v' w' ys hr h1 h2 h4
 · have hl:l=[]:=List.eq_nil_of_length_eq_zero ω
   subst hl
   cases A with
   | none =>
    have hrun:=run_app_none (w:=w) base 22 o.type 24 io 5 cap underlying22 hio v n xs hown
    unfold Oper.wp execOp
    have hx:a.eval x=.slice none 0 cap:=hx
    simp only[ho,resolve,invoke,builtin,Sem.run_bind,Sem.run_pure,Result.andThen_ok,List.map_toArray,List.map_cons,List.map_nil,hs,hx,hrun]
    exact hk v w [] (RowG.nil _) (by simpa using hown) (World.grownBy.refl _ _) (.inl rfl)
   | some ad =>
    refine app_wp s x 22 ho base 24 io _ 5 64 underlying22 hio hiz his hib rfl π v n xs hs hown ad 0 cap [] hx (by simp) (by simp) (by simp) (by unfold maxLen;omega) ω hbase ?_
    intro v' w' h1 h2 _ h4
    exact hk v' w' [] (RowG.nil _) h1 h2 h4
theorem step_app_sl {E:Prop} {ops:Array Oper} {K:Act→À→Prop} {Q:Exit→Act→À→Prop} {P:Nat→Prop} {o:Oper} {a:Act} {w:À} (hg:o.guard=none) (s x:Operand) (ho:o.op=.call { callee:=.builtin .append,args:=#[s,x],argTypes:=#[22,22] }) (base:Nat) (v:Value) (n:Nat) (xs:List Value) (hs:a.eval s=v) (hown:w.ownsRow base 24 5 v n xs)
 (A:Option Addr) (m cap:Nat) (l:List Nd) (hx:a.eval x=.slice A m cap) (hsl:NdsR w P (.slice A m cap) l) (hn:n≤1000000) (hm:l.length≤1000000) (hbase:base≤w.heap.size)
 (hk:∀v' w' ys,RowG 5 (NdR w P) ys l→w'.ownsRow base 24 5 v' (n+l.length) (xs++ys)→w.grownBy w' v.ownBlock→(v'.ownBlock=v.ownBlock∨v'.ownBlock=some w.heap.size)→K (a.put o.dst v') w') :
 if Region.wanted o (yielded ops a.tmps)=true then Oper.wp prog o a w K Q else E:=by
 rw[if_pos (by simp[Region.wanted,hg])]
 exact app_sl_wp s x ho base v n xs hs hown A m cap l hx hsl hn hm hbase hk
theorem own_nil (w:À):(w.alloc (.cells #[] 24)).ownsRow w.heap.size 24 5 (.slice (some ⟨w.heap.size,0,none⟩) 0 0) 0 []:=
 ⟨rfl,.inr ⟨w.heap.size,0,#[],rfl,Nat.le_refl _,heap_alloc_new w _,Nat.le_refl _,by unfold maxLen;omega,rfl,rfl⟩⟩
end
section
open Proofs.Tryz RowKit Maps WideMaps ChangeMaps
theorem cat_data (s t:Ê):((s++⟨#[10]⟩)++t).data.toList=s.data.toList++10::t.data.toList:=by
 simp[ByteArray.data_append]
def RunW (w:À) (R:RunR) (e:Ending) (w':À):Prop:=
 ∃k s n p A c ks x q,e=.returned (.tuple #[.agg (cl k s n p A (ks:List Nd).length c).toArray,.int .i64 x,.int .i64 q])∧Below w.heap.size w w'∧NdR w' (nw w.heap.size w') (cl k s n p A ks.length c) (.mk k s n p ks)∧((R=.err x q∧x≠0)∨(R=.ok (.mk k s n p ks)∧x=0))
theorem run_own {b:Bool} {f:FuncId} {s:Ê} {w:À} (h:Calls prog f #[.string s] w (RunV w (runP b s.data.toList))):Calls prog f #[.string s] w (RunW w (runP b s.data.toList)):=by
 refine h.mono fun e w' h=>?_
 cases hR:runP b s.data.toList with
 | err x p =>
  rw[hR] at h
  obtain⟨he,hb⟩:=h
  exact⟨0,e0,0,0,none,0,[],x,p,he,hb,NdR.of ⟨by unfold i64;decide,by unfold i64;decide,by unfold i64;decide⟩ π SlR.nil,.inl ⟨rfl,runP_errs hR⟩⟩
 | ok n =>
  rw[hR] at h
  obtain⟨k,s,m,p,D,l,c,he,hb,hn⟩:=h
  obtain⟨k0,s0,n0,p0,ks,A,cap,ec,rfl,_⟩:=nd_form hn
  rw[ec] at hn he
  exact⟨k0,s0,n0,p0,A,cap,ks,0,0,he,hb,hn,.inr ⟨rfl,rfl⟩⟩
def I2 (g:Nat) (w:À):Nat→Prop:=im (fun b=>b=g) w
theorem I2.sub {g:Nat} {w w':À} (h:Below w.heap.size w w'):Sub (I2 g w) (I2 g w') w w':=(Stp.of_below h).sub
theorem I2.lt {g b:Nat} {w':À} (hg:g=w'.heap.size):Sub (nw b w') (I2 g w') w' w':=fun k hk=>⟨⟨hk.2,fun e=>by have:=hk.2;omega⟩,rfl⟩
theorem I2.ge {g b:Nat} {w':À} (hg:g<b):Sub (nw b w') (I2 g w') w' w':=fun k hk=>⟨⟨hk.2,fun e=>by have:=hk.1;omega⟩,rfl⟩
theorem I2.keep {g:Nat} {X V V':À} (h:Below X.heap.size X V) (h':Below X.heap.size X V'):Sub (I2 g X) (I2 g X) V V':=fun b hb=>⟨hb,(h'.block b hb.1).trans (h.block b hb.1).symm⟩
theorem stp_set {V:À} {g i:Nat} {v:Value}:Stp (fun b=>b=g) V (V.setCell ⟨g,i,none⟩ v):=
 ⟨by simp[World.setCell],by simp[World.setCell],by simp[World.setCell],by simp,fun k hk ho=>Below.heap_setCell _ _ _ _ (fun e=>ho e)⟩
theorem rows_set {X N V2 V3:À} {g2 g4:Nat} {k2 n2 p2 k4 n4 p4:Int} {s2 s4:Ê} {A2 A4:Option Addr} {c2 c4:Nat} {ks ls cs:List Nd} {A:Option Addr} {c:Nat} {ys zs:List Value}
 (H2:Hid (Hs X g2 24 (cl k2 s2 n2 p2 A2 ks.length c2).toArray)) (H4:Hid (Hs X g4 24 (cl k4 s4 n4 p4 A4 cs.length c4).toArray)) (h24:Hid (g4≠g2))
 (K2:Hid (NdR X (I2 g2 X) (cl k2 s2 n2 p2 A2 ks.length c2) (.mk k2 s2 n2 p2 ks))) (K4:Hid (NdR X (I2 g2 X) (cl k4 s4 n4 p4 A4 cs.length c4) (.mk k4 s4 n4 p4 cs)))
 (bN:Below X.heap.size X N) (bV2:Below X.heap.size X V2) (bV3:Below X.heap.size X V3)
 (h1:RowG 5 (NdR N (I2 g2 X)) ys ks) (j1:RowG 5 (NdR V2 (I2 g2 X)) zs ls) (j2:V3.ownsRow X.heap.size 24 5 (.slice A (ks.length+ls.length) c) (ks.length+ls.length) (ys++zs)) :
 Hid (Hs (V3.setCell ⟨g2,4,none⟩ (.slice A (ks.length+ls.length) c)) g2 24 (cl k2 s2 n2 p2 A (ks.length+ls.length) c).toArray)∧Hid (Hs (V3.setCell ⟨g2,4,none⟩ (.slice A (ks.length+ls.length) c)) g4 24 (cl k4 s4 n4 p4 A4 cs.length c4).toArray) ∧
  Hid (NdR (V3.setCell ⟨g2,4,none⟩ (.slice A (ks.length+ls.length) c)) (lo (V3.setCell ⟨g2,4,none⟩ (.slice A (ks.length+ls.length) c))) (cl k2 s2 n2 p2 A (ks.length+ls.length) c) (.mk k2 s2 n2 p2 (ks++ls)))∧Hid (NdR (V3.setCell ⟨g2,4,none⟩ (.slice A (ks.length+ls.length) c)) (lo (V3.setCell ⟨g2,4,none⟩ (.slice A (ks.length+ls.length) c))) (cl k4 s4 n4 p4 A4 cs.length c4) (.mk k4 s4 n4 p4 cs)):=by
 have hlt:g2<X.heap.size:=H2.o.lt
 have hsz:X.heap.size≤(V3.setCell ⟨g2,4,none⟩ (.slice A (ks.length+ls.length) c)).heap.size:=by simp;exact bV3.size
 have blk:∀b,I2 g2 X b→(V3.setCell ⟨g2,4,none⟩ (.slice A (ks.length+ls.length) c)).heap[b]?=X.heap[b]?:=fun b hb=>(Below.heap_setCell _ _ _ _ (fun e=>hb.2 e)).trans (bV3.block b hb.1)
 have sub:∀{V:À},Below X.heap.size X V→Sub (I2 g2 X) (lo (V3.setCell ⟨g2,4,none⟩ (.slice A (ks.length+ls.length) c))) V (V3.setCell ⟨g2,4,none⟩ (.slice A (ks.length+ls.length) c)):=fun bV b hb=>⟨Nat.lt_of_lt_of_le hb.1 hsz,(blk b hb).trans (bV.block b hb.1).symm⟩
 have hown:=row_stp j2 (stp_set (V:=V3) (g:=g2) (i:=4) (v:=.slice A (ks.length+ls.length) c)) (fun b hb e=>by have:=(j2.lt b hb).1;omega)
 have hk:NdsR (V3.setCell ⟨g2,4,none⟩ (.slice A (ks.length+ls.length) c)) (lo (V3.setCell ⟨g2,4,none⟩ (.slice A (ks.length+ls.length) c))) (.slice A (ks.length+ls.length) c) (ks++ls):=by
  refine RowG.sl (e:=24) (base:=X.heap.size) (xs:=ys++zs) (RowG.app (h1.to fun _ _ x=>x.to (sub bN)) (j1.to fun _ _ x=>x.to (sub bV2))) (by rw[List.length_append];exact hown) (fun g hg=>?_)
  exact (hown.lt g hg).2
 obtain⟨k0,s0,n0,p0,a0,A0,cap0,ec,et,hi,hs,_⟩:=nd_form K2.o
 injection et with e1 e2 e3 e4 e5
 subst e1 e2 e3 e4 e5
 refine⟨?_,?_,?_,?_⟩
 · have:=Hs.put (hs_bel H2.o bV3) 4 (.slice A (ks.length+ls.length) c)
   exact this
 · exact hs_oth (hs_bel H4.o bV3) h24.o
 · exact NdR.of hi hs hk
 · exact K4.o.to (sub (Below.refl _ _))
set_option maxRecDepth 100000 in
set_option maxHeartbeats 8000000 in
theorem rows_walk (s t:ByteArray) (w:World) (hs:s.size≤maxLen) (hr:t.size≤maxLen) (ht:Tab w):Calls Tryz.prog 6 #[.string s,.string t] w (EqSaid true w):=by
 have HT:=Lib.hid ht
 have HS:=Lib.hid hs
 have HR:=Lib.hid hr
 clear ht hs hr
 go_enter Tryz.func6,Tryz.ntmps6
 by_cases hl:1500<s.size
 · have u0:decide ((1500:Int)<(s.size:Int))=true:=decide_eq_true (by omega)
   go_wp2_with fail
   refine (small_any w HT.out).mono ?_
   rintro _ X1 ⟨rfl,hb1⟩
   have HB:=Lib.hid hb1
   clear hb1
   go_wp2_with fail
   go_ret
   exact⟨rfl,HB.out⟩
 have u0:decide ((1500:Int)<(s.size:Int))=false:=decide_eq_false (by omega)
 by_cases hl2:1500<t.size
 · have u1:decide ((1500:Int)<(t.size:Int))=true:=decide_eq_true (by omega)
   go_wp2_with fail
   refine (small_any w HT.out).mono ?_
   rintro _ X1 ⟨rfl,hb1⟩
   have HB:=Lib.hid hb1
   clear hb1
   go_wp2_with fail
   go_ret
   exact⟨rfl,HB.out⟩
 have u1:decide ((1500:Int)<(t.size:Int))=false:=decide_eq_false (by omega)
 go_wp2_with fail
 refine (small_any w HT.out).mono ?_
 rintro _ X1 ⟨rfl,hb1⟩
 have HB:=Lib.hid hb1
 clear hb1
 go_wp2_with fail
 refine (run_own (patch_any s X1 HS.out)).mono ?_
 rintro _ X2 ⟨k2,s2,n2,p2,A2,c2,ks,x2,q2,rfl,hb2,hn2,hr2⟩
 obtain⟨Y2,hY2,by2,HX2,-,-,-,-,-⟩:=nb5 X2 k2 s2 n2 p2 A2 ks.length c2
 obtain⟨g2,hg2⟩:∃q,q=X2.heap.size:=⟨_,rfl⟩
 have hz2:Y2.heap.size=g2+1:=by rw[hY2.out,hg2];simp
 have HN2:Hid (NdR Y2 (I2 g2 Y2) (cl k2 s2 n2 p2 A2 ks.length c2) (.mk k2 s2 n2 p2 ks)):=NdR.to (hn2.to (I2.lt hg2)) (I2.sub by2.out)
 have R2:=Lib.hid hr2
 replace HB:=Lib.hid (bel HB.out hb2)
 have hgw:w.heap.size≤g2:=by rw[hg2];exact HB.out.size
 replace HB:=Lib.hid (bel HB.out by2.out)
 rw[←hg2] at HX2
 have GW:=Lib.hid hgw
 have Z2:=Lib.hid hz2
 clear hb2 hn2 hr2 by2 hgw hz2
 go_upto_region 5 with (fail)
 rw[←hY2.out,←hg2]
 clear hY2 hg2
 go_wp2_with fail
 refine (run_own (patch_any t Y2 HR.out)).mono ?_
 rintro _ X3 ⟨k3,s3,n3,p3,A3,c3,ls,x3,q3,rfl,hb3,hn3,hr3⟩
 obtain⟨Y3,hY3,by3,HX3,-,-,-,-,-⟩:=nb5 X3 k3 s3 n3 p3 A3 ls.length c3
 have HN3:Hid (NdR Y3 (I2 g2 Y3) (cl k3 s3 n3 p3 A3 ls.length c3) (.mk k3 s3 n3 p3 ls)):=NdR.to (hn3.to (I2.ge (by have:=Z2.out;omega))) (I2.sub by3.out)
 have R3:=Lib.hid hr3
 have B3:=Lib.hid (bel hb3 by3.out)
 replace HB:=Lib.hid (bel HB.out B3.out)
 replace HX2:=Lib.hid (hs_bel HX2.out B3.out)
 replace HN2:=Lib.hid (NdR.to HN2.out (I2.sub B3.out))
 obtain⟨g3,hg3⟩:∃q,q=X3.heap.size:=⟨_,rfl⟩
 have N3:Hid (g3≠g2):=by show _≠_;have:=Z2.out;have:=hb3.size;omega
 rw[←hg3] at HX3
 clear hb3 hn3 hr3 by3
 have m1:¬9223372036854775807<s.size+1:=by omega
 have m2:¬9223372036854775807<s.size+1+t.size:=by omega
 go_upto_region 6 with (fail)
 rw[←hY3.out,←hg3]
 clear hY3 hg3
 go_wp2_with fail
 obtain⟨U,hU⟩:∃q,q=s++{ data:=#[10] }++t:=⟨_,rfl⟩
 rw[←hU]
 have UD:Hid (U.data.toList=s.data.toList++10::t.data.toList):=by
  show _=_
  rw[hU];exact cat_data s t
 have HU:Hid (U.size≤maxLen):=by
  show U.size≤9223372036854775807
  rw[hU,ByteArray.size_append,ByteArray.size_append]
  show s.size+1+t.size≤9223372036854775807
  omega
 clear hU
 refine (run_own (patch_any U Y3 HU.out)).mono ?_
 rintro _ X4 ⟨k4,s4,n4,p4,A4,c4,cs,x4,q4,rfl,hb4,hn4,hr4⟩
 obtain⟨Y4,hY4,by4,HX4,-,-,-,-,-⟩:=nb5 X4 k4 s4 n4 p4 A4 cs.length c4
 have hy3:g2<Y3.heap.size:=HX2.out.lt
 have HN4:Hid (NdR Y4 (I2 g2 Y4) (cl k4 s4 n4 p4 A4 cs.length c4) (.mk k4 s4 n4 p4 cs)):=NdR.to (hn4.to (I2.ge hy3)) (I2.sub by4.out)
 have R4:=Lib.hid hr4
 have B4:=Lib.hid (bel hb4 by4.out)
 replace HB:=Lib.hid (bel HB.out B4.out)
 replace HX2:=Lib.hid (hs_bel HX2.out B4.out)
 replace HN2:=Lib.hid (NdR.to HN2.out (I2.sub B4.out))
 replace HX3:=Lib.hid (hs_bel HX3.out B4.out)
 replace HN3:=Lib.hid (NdR.to HN3.out (I2.sub B4.out))
 obtain⟨g4,hg4⟩:∃q,q=X4.heap.size:=⟨_,rfl⟩
 have N4:Hid (g4≠g2):=by show _≠_;have:=hb4.size;omega
 rw[←hg4] at HX4
 clear hb4 hn4 hr4 by4 B4 B3 m1 m2 hy3
 go_upto_region 7 with (fail)
 rw[←hY4.out,←hg4]
 clear hY4 hg4
 by_cases hx2:x2=0
 · subst hx2
   have hra:runP true s.data.toList=.ok (.mk k2 s2 n2 p2 ks):=by
    rcases R2.out with ⟨_,h⟩|⟨h,_⟩
    · exact absurd rfl h
    · exact h
   have sl:s.data.toList.length=s.size:=by simp
   have tl:t.data.toList.length=t.size:=by simp
   have law:=rows_law s.data.toList t.data.toList (by omega) (by omega) _ hra
   have hkn:=run_num hra (by omega)
   rw[sl] at hkn
   rw[←UD.out,sl] at law
   have LAW:=Lib.hid law
   have KN:Hid (ks.length≤1501):=by show _≤_;omega
   clear law hra sl hkn
   go_wp2_with fail
   refine (scan_uni t Y4 HR.out).mono ?_
   rintro _ X5 ⟨A,cap,ts,x5,q5,rfl,hb5,hn5,hr5⟩
   have HT5:=Lib.hid hn5
   have R5:=Lib.hid hr5
   replace HB:=Lib.hid (bel HB.out hb5)
   replace HX2:=Lib.hid (hs_bel HX2.out hb5)
   replace HN2:=Lib.hid (NdR.to HN2.out (I2.sub hb5))
   replace HX3:=Lib.hid (hs_bel HX3.out hb5)
   replace HN3:=Lib.hid (NdR.to HN3.out (I2.sub hb5))
   replace HX4:=Lib.hid (hs_bel HX4.out hb5)
   replace HN4:=Lib.hid (NdR.to HN4.out (I2.sub hb5))
   clear hb5 hn5 hr5
   by_cases hx3:x3=0
   · subst hx3
     have hrb:runP true t.data.toList=.ok (.mk k3 s3 n3 p3 ls):=by
      rcases R3.out with ⟨_,h⟩|⟨h,_⟩
      · exact absurd rfl h
      · exact h
     have hln:=run_num hrb (by omega)
     have LN:Hid (ls.length≤1501):=by show _≤_;omega
     have ALL:x4=0∧smN (.mk k2 s2 n2 p2 (ks++ls)) (.mk k4 s4 n4 p4 cs)=true:=by
      rcases LAW.out with ⟨y,q,h1,h2,_⟩|⟨b,c,h1,h2,h3⟩
      · rw[hrb] at h1;cases h1
      · rw[hrb] at h1;injection h1 with h1
        subst h1
        rcases R4.out with ⟨h,_⟩|⟨h,h4⟩
        · rw[h2] at h;cases h
        · rw[h2] at h;injection h with h;subst h;exact⟨h4,h3⟩
     obtain⟨rfl,hsm⟩:=ALL
     have SM:=Lib.hid hsm
     clear hrb hln hsm R2 R3 R4 R5 LAW tl HT5
     go_upto_region 12 with (fail)
     have LK:=nd_kids HN2.out
     have LL:=nd_kids HN3.out
     have bN:Below X5.heap.size X5 (X5.alloc (.cells #[] 24)).drew:=(belA (belR _) _).drew
     have LK0:Hid (NdsR (X5.alloc (.cells #[] 24)).drew (I2 g2 X5) (.slice A2 ks.length c2) ks):=NdsR.to LK (I2.keep (Below.refl _ _) bN)
     have LL0:Hid (∀V,Below X5.heap.size X5 V→NdsR V (I2 g2 X5) (.slice A3 ls.length c3) ls):=fun V bV=>NdsR.to LL (I2.keep (Below.refl _ _) bV)
     have BN:=Lib.hid bN
     have HO1:Hid ((X5.alloc (.cells #[] 24)).drew.ownsRow X5.heap.size 24 5 (.slice (some ⟨X5.heap.size,0,none⟩) 0 0) 0 []):=own_nil X5
     have a24:X5.cell? ⟨g2,4,none⟩=some (.slice A2 ks.length c2):=HX2.out.c 4
     have b24:(X5.alloc (.cells #[] 24)).cell? ⟨g2,4,none⟩=some (.slice A2 ks.length c2):=(hs_bel HX2.out (belA (belR _) _)).c 4
     have a34:X5.cell? ⟨g3,4,none⟩=some (.slice A3 ls.length c3):=HX3.out.c 4
     have b34:(X5.alloc (.cells #[] 24)).cell? ⟨g3,4,none⟩=some (.slice A3 ls.length c3):=(hs_bel HX3.out (belA (belR _) _)).c 4
     clear LK LL bN
     go_region_law (first|(refine step_app_sl rfl (.tmp 88) (.tmp 90) rfl X5.heap.size (.slice (some ⟨X5.heap.size,0,none⟩) 0 0) 0 [] rfl HO1.out A2 ks.length c2 ks rfl LK0.out (by omega) (by have:=KN.out;omega) (by simp) ?_;intro v1 V2 ys h1 h2 h3 h4;rw[Nat.zero_add,List.nil_append] at h2;have BV2:=Lib.hid (BN.out.grown h3 (by simp) (fun k hk=>by have hk:some X5.heap.size=some k:=hk;injection hk with hk;omega));have d34:V2.cell? ⟨g3,4,none⟩=some (.slice A3 ls.length c3):=(hs_bel HX3.out BV2.out).c 4)|(refine step_app_sl rfl (.tmp 91) (.tmp 93) rfl X5.heap.size v1 ks.length ys rfl h2 A3 ls.length c3 ls rfl (LL0.out _ BV2.out) (by have:=KN.out;omega) (by have:=LN.out;omega) BV2.out.size ?_;intro v2 V3 zs j1 j2 j3 j4;obtain⟨A9,c9,rfl⟩:=row_form j2;have BV3:=Lib.hid (BV2.out.grown j3 BV2.out.size (fun k hk=>(h2.lt k hk).1));have f24:V3.cell? ⟨g2,4,none⟩=some (.slice A2 ks.length c2):=(hs_bel HX2.out BV3.out).c 4;have z24:V3.frozen? ⟨g2,4,none⟩=false:=(hs_bel HX2.out BV3.out).free 4))
     all_goals
      obtain⟨HV2,HV4,NV2,NV4⟩:=rows_set HX2 HX4 N4 HN2 HN4 BN.out BV2.out BV3.out h1 j1 j2
      have BW:=Lib.hid ((bel HB.out BV3.out).setCell (p:=⟨g2,4,none⟩) GW.out (.slice A9 (ks.length+ls.length) c9))
      clear h1 h2 h3 h4 j1 j2 j3 j4 f24 z24 d34 a24 b24 a34 b34 LK0 LL0 HO1 BN
      obtain⟨V9,hV9⟩:∃q,Hid (q=V3.setCell ⟨g2,4,none⟩ (.slice A9 (ks.length+ls.length) c9)):=⟨_,Lib.hid rfl⟩
      rw[←hV9.out] at HV2 HV4 NV2 NV4 BW ⊢
      clear hV9
      obtain⟨r0,r1,r2,r3,r4⟩:=cf5 HV2.out
      obtain⟨t0,t1,t2,t3,t4⟩:=cf5 HV4.out
      go_wp2_with fail
      refine (saidEq (same_any (SizeOf.sizeOf (Nd.mk k2 s2 n2 p2 (ks++ls))+1) (.mk k2 s2 n2 p2 (ks++ls)) (.mk k4 s4 n4 p4 cs) _ _ V9 (Nat.lt_succ_self _) NV2.out NV4.out) SM.out).mono ?_
      rintro _ W9 ⟨rfl,h9⟩
      have B9:=Lib.hid (bel BW.out h9)
      clear h9
      go_wp2_with fail
      go_ret
      exact⟨rfl,B9.out⟩
   · have e3:(x3 != (0:Int))=true:=by simpa using hx3
     have hR:runP true t.data.toList=.err x3 q3:=by
      rcases R3.out with ⟨h,_⟩|⟨_,h⟩
      · exact h
      · exact absurd h hx3
     have hfin:Hid ((∃t0 ts',ts=t0::ts'∧t0.pos=q3)∨(x4=x3∧q4=q3+(s.size:Int)+1)):=by
      rcases LAW.out with ⟨y,q,h1,h2,h3⟩|⟨b,c,h1,_,_⟩
      · rw[hR] at h1;injection h1 with h1 h1'
        subst h1 h1'
        rcases h3 with ⟨t0,ts',h3,h4⟩|h3
        · left
          rcases R5.out with ⟨h,_⟩|⟨h,_⟩
          · rw[h3] at h;cases h
          · rw[h3] at h;injection h with h;exact⟨t0,ts',h.symm,h4⟩
        · right
          rcases R4.out with ⟨h,_⟩|⟨h,_⟩
          · rw[h3] at h;injection h with h h';exact⟨h.symm,h'.symm⟩
          · rw[h3] at h;cases h
      · rw[hR] at h1;cases h1
     have lm:ts.length≤9223372036854775807:=HT5.out.len.2
     have hq3:=run_pos (by omega) hR
     rw[tl] at hq3
     have hw1:wrap64 (q3+(s.size:Int))=q3+(s.size:Int):=by unfold wrap64;omega
     have hw2:wrap64 (q3+(s.size:Int)+1)=q3+(s.size:Int)+1:=by unfold wrap64;omega
     have hw3:IntKind.i64.wrap (q3+(s.size:Int))=q3+(s.size:Int):=by rw[IntKind.wrap_i64];omega
     have hw4:IntKind.i64.wrap (q3+(s.size:Int)+1)=q3+(s.size:Int)+1:=by rw[IntKind.wrap_i64];omega
     clear hR LAW R5 R4 R3 R2 HX2 HX3 HX4 HN2 HN3 HN4 tl hq3
     cases ts with
     | nil =>
      obtain⟨rfl,rfl⟩:x4=x3∧q4=q3+(s.size:Int)+1:=by
       rcases hfin.out with ⟨t0,ts',h,_⟩|h
       · cases h
       · exact h
      clear hfin
      go_wp2_with fail
      go_ret
      exact⟨rfl,HB.out⟩
     | cons t0 ts' =>
      obtain⟨g,off,cs5,rfl,_,hr,_,hc⟩:=SlR.at HT5.out (i:=0) (by simp)
      obtain⟨rfl,-⟩:=hr
      have t3:X5.cell? ⟨g,off+3,none⟩=some (.int .i64 t0.pos):=by have:=hc 3 _ rfl;simpa using this
      have v1:decide ((0:Int)<((t0::ts').length:Int))=true:=decide_eq_true (by simp)
      obtain⟨nn,hnn⟩:∃q,q=(t0::ts').length:=⟨_,rfl⟩
      rw[←hnn] at v1 lm ⊢
      have v2:(0:Int)<(nn:Int):=of_decide_eq_true v1
      by_cases hp:t0.pos=q3
      · have v3:(t0.pos==q3)=true:=by simpa using hp
        clear hfin hc HT5 hnn hp
        go_wp2_with fail
        go_ret
        exact⟨rfl,HB.out⟩
      · have v3:(t0.pos==q3)=false:=by simpa using hp
        obtain⟨rfl,rfl⟩:x4=x3∧q4=q3+(s.size:Int)+1:=by
         rcases hfin.out with ⟨t1,ts1,h,h1⟩|h
         · injection h with h _
           rw[←h] at h1
           exact absurd h1 hp
         · exact h
        clear hfin hc HT5 hnn hp
        go_wp2_with fail
        go_ret
        exact⟨rfl,HB.out⟩
 · have e2:(x2 != (0:Int))=true:=by simpa using hx2
   go_wp2_with fail
   go_ret
   exact⟨rfl,HB.out⟩
end
end Go.Proofs.YtbjdcogmiggamaaGreatDoor
