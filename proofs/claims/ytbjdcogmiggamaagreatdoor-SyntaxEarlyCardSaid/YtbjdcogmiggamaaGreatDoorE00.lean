import Derived.Test.YtbjdcogmiggamaaGreatDoorZ34
import Derived.Test.YtbjdcogmiggamaaGreatDoorZ24
import Derived.Test.YtbjdcogmiggamaaGreatDoorZ33
import Derived.Test.YtbjdcogmiggamaaGreatDoorZ15
import Derived.Test.YtbjdcogmiggamaaGreatDoorZ23
import Derived.Test.YtbjdcogmiggamaaGreatDoorZ22
import Derived.Lib.ItoaLen
set_option linter.all false
namespace Go.Proofs.YtbjdcogmiggamaaGreatDoor
set_option maxRecDepth 100000
set_option maxHeartbeats 8000000
end Go.Proofs.YtbjdcogmiggamaaGreatDoor
/- what the base lacks -/
namespace Go.Proofs.YtbjdcogmiggamaaGreatDoor
section
theorem prog_nat {φ:Int→Int} {e e':Int} (he:e'=φ e) (patch:Bool) {n n':Nat} (hn:n≤n'):∀(k k':Nat) (ts:List Tk),k≤k'→(match progP e patch n k ts with
 | .out=>True
 | .bad r=>progP e' patch n' k' (ts.map (mvT φ))=.bad (r.map (mvT φ))
 | .ok l r=>progP e' patch n' k' (ts.map (mvT φ))=.ok (mvL φ l) (r.map (mvT φ)))
 | 0,k',ts,_=>trivial
 | k+1,0,ts,h=>absurd h ω
 | k+1,k'+1,ts,h=>by
  cases ts with
  | nil=>exact rfl
  | cons t r =>
   have i1:EqP φ e e':=⟨he⟩
   have i2:Le n n':=⟨hn⟩
   have i3:Al φ [] [] true:=⟨.inl ⟨rfl,.inl ⟨rfl,rfl⟩⟩⟩
   have hs:=(inferInstance:Sim φ [] [] true (oneP e patch n) (oneP e' patch n')).h (t::r)
   simp only[List.append_nil] at hs
   rw[prog_cons,List.map_cons,prog_cons,←List.map_cons]
   cases hx:oneP e patch n (t::r) with
   | out=>trivial
   | bad q=>rw[hs.2 trivial q hx];rfl
   | ok a q =>
    rw[hs.1 a q hx]
    have ih:=prog_nat he patch hn k k' q ω
    show match (progP e patch n k q).bd (fun l=>M.ret (a::l)) with|.out=>True|.bad r=>(progP e' patch n' k' (q.map (mvT φ))).bd (fun l=>M.ret (Mv.mv φ a::l))=_|.ok l r=>(progP e' patch n' k' (q.map (mvT φ))).bd (fun l=>M.ret (Mv.mv φ a::l))=_
    cases hy:progP e patch n k q with
    | out=>trivial
    | bad q2=>rw[hy] at ih;rw[ih];rfl
    | ok l q2=>rw[hy] at ih;rw[ih];rfl
theorem prog_early {e e':Int} {us vs:List Tk} {t:Tk} {u v:List Tk} (hu:us=t::u) (hv:vs=t::v) (hl:∀x∈us,x.pos≠e) (hm:∀x∈vs,x.pos≠e) (patch:Bool) {n n':Nat} (hn:n≤n'):∀(k k':Nat) (xs:List Tk),k≤k'→(∀x∈xs,x.pos≠e)→progP e patch n k (xs++us)=.bad us→progP e' patch n' k' (xs++vs)=.bad vs
 | 0,k',xs,_,_,h=>(by cases h)
 | k+1,0,xs,h,_,_=>absurd h ω
 | k+1,k'+1,xs,h,hx,hp=>by
  let φ:Int→Int:=fun p=>if p=e then e' else p
  have f1:∀l:List Tk,(∀x∈l,x.pos≠e)→l.map (mvT φ)=l:=fun l hl=>by
   conv=>rhs;rw[←List.map_id l]
   apply List.map_congr_left
   intro x hx
   show Tk.mk _ _ _ (if x.pos=e then e' else x.pos)=x
   rw[if_neg (hl x hx)]
  have f2:mvT φ t=t:=by
   show Tk.mk _ _ _ (if t.pos=e then e' else t.pos)=t
   rw[if_neg (hl t (by rw[hu];exact List.mem_cons_self))]
  have i1:EqP φ e e':=⟨by show e'=if e=e then e' else e;rw[if_pos rfl]⟩
  have i2:Le n n':=⟨hn⟩
  have i3:Al φ us vs true:=⟨.inl ⟨rfl,.inr ⟨t,u,v,hu,by rw[f2,hv]⟩⟩⟩
  have hs:=(inferInstance:Sim φ us vs true (oneP e patch n) (oneP e' patch n')).h xs
  rw[f1 xs hx] at hs
  obtain⟨t1,r1,hc⟩:∃t1 r1,xs++us=t1::r1:=by
   cases xs with
   | nil=>exact⟨t,u,hu⟩
   | cons a l=>exact⟨a,l++us,rfl⟩
  obtain⟨t2,r2,hd⟩:∃t1 r1,xs++vs=t1::r1:=by
   cases xs with
   | nil=>exact⟨t,v,hv⟩
   | cons a l=>exact⟨a,l++vs,rfl⟩
  rw[hc,prog_cons,←hc] at hp
  rw[hd,prog_cons,←hd]
  cases hy:oneP e patch n (xs++us) with
  | out=>rw[hy] at hp;cases hp
  | bad q =>
   rw[hy] at hp
   injection hp with hp
   rw[hs.2 rfl [] (by rw[hy,hp];rfl)];rfl
  | ok a q =>
   rw[hy] at hp
   have hp:(progP e patch n k q).bd (fun l=>M.ret (a::l))=.bad us:=hp
   cases hz:progP e patch n k q with
   | out=>rw[hz] at hp;cases hp
   | ok l w=>rw[hz] at hp;cases hp
   | bad w =>
    rw[hz] at hp
    injection hp with hp
    subst hp
    obtain⟨r1,rfl⟩:=suf_app (us:=w) (r:=[]) ((((prog_suf e patch n k).h q).2 _ hz))
    have hsub:∀x∈r1,x.pos≠e:=fun x hm=>by
     have:=(inferInstance:Suf (oneP e patch n)).h (xs++w) |>.1 _ _ hy
     obtain⟨z,hz⟩:=this
     have e1:z++r1=xs:=(List.append_left_inj w).1 (by rw[←hz,List.append_assoc])
     exact hx x (by rw[←e1];exact List.mem_append_right _ hm)
    have:=hs.1 a r1 hy
    rw[f1 r1 hsub] at this
    rw[this]
    show (progP e' patch n' k' (r1++vs)).bd _=_
    rw[prog_early hu hv hl hm patch hn k k' r1 ω hsub hz];rfl
end
end Go.Proofs.YtbjdcogmiggamaaGreatDoor
namespace Go.Proofs.YtbjdcogmiggamaaGreatDoor
section
open Proofs.Tryz RowKit Maps WideMaps ChangeMaps
theorem tdiv_le (d:Int) (h:0≤d) (h':d≤9):(-9223372036854775808+d).tdiv 10≤-922337203685477579:=by
 have:d=0∨d=1∨d=2∨d=3∨d=4∨d=5∨d=6∨d=7∨d=8∨d=9:=by omega
 rcases this with rfl|rfl|rfl|rfl|rfl|rfl|rfl|rfl|rfl|rfl<;>decide
theorem accN_append (a b:List UInt8):∀n,accN (a++b) n=(accN a n).bind (accN b):=by
 induction a with
 | nil=>intro n;rfl
 | cons c cs ih =>
  intro n
  simp only[List.cons_append,accN]
  split
  · rfl
  · split
    · rfl
    · exact ih _
theorem digit_nat (d:Nat) (h:d<10):(UInt8.ofNat (48+d)).toNat=48+d:=by
 simp;omega
theorem accN_dig (d:Nat) (h:d<10) (n:Int) (hn:-922337203685477579≤n):accN [UInt8.ofNat (48+d)] n=some (n*10-d):=by
 simp only[accN,digit_nat d h]
 rw[if_neg ω,if_neg (by have:=tdiv_le (((48+d:Nat):Int)-48) ω ω;omega)]
 congr 1;omega
theorem accN_dec (u:Nat) (h:u≤9223372036854775790):accN (Lib.decDigits u) 0=some (-(u:Int)):=by
 induction u using Nat.strongRecOn with
 | _ u ih =>
  rw[Lib.decDigits]
  split
  · rename_i hu
    rw[accN_dig u hu 0 ω];congr 1;omega
  · rename_i hu
    rw[accN_append,ih (u/10) ω ω]
    simp only[Option.bind_some]
    rw[accN_dig (u%10) ω _ ω]
    congr 1;omega
theorem dec_ne (u:Nat):Lib.decDigits u≠[]:=by
 rw[Lib.decDigits];split<;>simp
theorem dec_dig (u:Nat):∀c∈Lib.decDigits u,48≤c.toNat∧c.toNat≤57:=by
 induction u using Nat.strongRecOn with
 | _ u ih =>
  rw[Lib.decDigits]
  split
  · rename_i hu
    intro c hc
    rw[List.mem_singleton] at hc
    subst hc
    rw[digit_nat u hu];omega
  · rename_i hu
    intro c hc
    rw[List.mem_append,List.mem_singleton] at hc
    rcases hc with hc|rfl
    · exact ih _ ω c hc
    · rw[digit_nat _ ω];omega
theorem dec_head (u:Nat) (h:0<u):(Lib.decDigits u).head?≠some 48:=by
 induction u using Nat.strongRecOn with
 | _ u ih =>
  rw[Lib.decDigits]
  split
  · rename_i hu
    intro he
    simp only[List.head?_cons,Option.some.injEq] at he
    have:=congrArg UInt8.toNat he
    rw[digit_nat u hu] at this
    simp at this;omega
  · rename_i hu
    have hne:=dec_ne (u/10)
    rw[List.head?_append]
    cases hh:(Lib.decDigits (u/10)).head? with
    | none=>exact absurd (List.head?_eq_none_iff.1 hh) hne
    | some c =>
     have:=ih (u/10) ω ω
     rw[hh] at this
     simpa using this
theorem numP_dec (u:Nat) (hi:Int) (h:(u:Int)≤hi) (hu:u≤9223372036854775790):numP (Lib.decDigits u) 0 hi=some (u:Int):=by
 have hne:=dec_ne u
 have hd:=dec_dig u
 have h45:(Lib.decDigits u).head?≠some 45:=by
  intro he
  have:=hd 45 (List.mem_of_mem_head? he)
  simp at this
 unfold numP
 rw[if_neg h45,if_neg,accN_dec u hu]
 · simp only[Option.bind_some,finN]
   rw[if_neg ω]
   simp;omega
 · rintro (he|⟨he,h2⟩)
   · exact hne he
   · rcases Nat.eq_zero_or_pos u with rfl|hp
     · exact h2 (by rw[Lib.decDigits];simp)
     · exact dec_head u hp he
theorem numP_itoa (n hi:Int) (h0:0≤n) (h:n≤hi) (hu:n≤9223372036854775790):numP (Lib.itoa n) 0 hi=some n:=by
 obtain⟨u,rfl⟩:=Int.eq_ofNat_of_zero_le h0
 unfold Lib.itoa
 rw[if_neg ω,Int.toNat_natCast]
 exact numP_dec u hi h ω
theorem numP_range {l:List UInt8} {lo hi n:Int} (h:numP l lo hi=some n):lo≤n∧n≤hi:=by
 have fin:∀(neg:Bool) (m:Int),finN neg m lo hi=some n→lo≤n∧n≤hi:=by
  intro neg m h
  unfold finN at h
  generalize (if neg=true then m else -m)=k at h
  by_cases h1:neg=false∧m=-9223372036854775808
  · rw[if_pos h1] at h;cases h
  · rw[if_neg h1] at h
    by_cases h2:k<lo∨hi<k
    · rw[if_pos h2] at h;cases h
    · rw[if_neg h2] at h;injection h with h;omega
 unfold numP at h
 split at h
 · split at h
   · cases h
   · obtain⟨m,_,hm⟩:=Option.bind_eq_some_iff.1 h
     exact fin _ _ hm
 · split at h
   · cases h
   · obtain⟨m,_,hm⟩:=Option.bind_eq_some_iff.1 h
     exact fin _ _ hm
end
section
open Proofs.Tryz RowKit Maps WideMaps ChangeMaps
def SepB (r:List UInt8):Prop:=∀c q,r=c::q→blankC c=true
theorem blank_cases {c:UInt8} (h:blankC c=true):c=9∨c=10∨c=13∨c=32:=by
 unfold blankC at h
 simp only[Bool.or_eq_true,beq_iff_eq] at h
 rcases h with ((h|h)|h)|h
 · exact .inl (UInt8.toNat_inj.1 h)
 · exact .inr (.inl (UInt8.toNat_inj.1 h))
 · exact .inr (.inr (.inl (UInt8.toNat_inj.1 h)))
 · exact .inr (.inr (.inr (UInt8.toNat_inj.1 h)))
theorem blank_name {c:UInt8} (h:blankC c=true):nameC c=false:=by
 rcases blank_cases h with rfl|rfl|rfl|rfl<;>decide
theorem while_app {p:UInt8→Bool} {x r:List UInt8} (h:x.all p=true) (hr:∀c q,r=c::q→p c=false):(x++r).takeWhile p=x∧(x++r).dropWhile p=r:=by
 induction x with
 | nil =>
  cases r with
  | nil=>exact⟨rfl,rfl⟩
  | cons c q =>
   have:=hr c q rfl
   simp[List.takeWhile_cons,List.dropWhile_cons,this]
 | cons c x ih =>
  simp only[List.all_cons,Bool.and_eq_true] at h
  obtain⟨h1,h2⟩:=ih h.2
  simp[List.takeWhile_cons,List.dropWhile_cons,h.1,h1,h2]
theorem let_name {c:UInt8} (h:letC c=true):nameC c=true:=by unfold nameC;unfold letC at h;rw[h];rfl
theorem dig_name {c:UInt8} (h:digC c=true):nameC c=true:=by
 unfold digC at h;unfold nameC
 simp only[Bool.and_eq_true,Bool.or_eq_true] at h ⊢
 exact .inl (.inr h)
theorem dig_let {c:UInt8} (h:digC c=true):letC c=false:=by
 unfold digC at h;unfold letC
 simp only[Bool.and_eq_true,decide_eq_true_eq] at h
 rw[Bool.eq_false_iff]
 simp only[ne_eq,Bool.or_eq_true,Bool.and_eq_true,decide_eq_true_eq]
 omega
theorem tok_name {p:Int} {x r:List UInt8} (h:nameB x=true) (hr:SepB r):tokL p (x++r)=.ok (⟨1,str x,0,p⟩,r):=by
 cases x with
 | nil=>cases h
 | cons c x =>
  simp only[nameB,Bool.and_eq_true] at h
  obtain⟨h1,h2⟩:=while_app h.2 (fun c q e=>blank_name (hr c q e))
  show (if letC c=true then _ else _)=_
  rw[if_pos h.1]
  rw[h1,h2]
theorem itoa_dig (n:Int) (h:0≤n):(Lib.itoa n).all digC=true:=by
 rw[List.all_eq_true]
 unfold Lib.itoa
 rw[if_neg ω]
 intro c hc
 have:=dec_dig _ c hc
 unfold digC
 simp;omega
theorem itoa_int (n:Int) (h:0≤n) (h2:n≤9007199254740992):intL (Lib.itoa n)=.ok n:=by
 have hd:=itoa_dig n h
 have hn:=numP_itoa n 9007199254740992 h h2 ω
 unfold intL
 rw[if_neg (by rw[hd];decide),hn,if_neg]
 rintro ⟨he,h3⟩
 unfold Lib.itoa at he h3
 rw[if_neg ω] at he h3
 rcases Nat.eq_zero_or_pos n.toNat with e|hp
 · rw[e] at h3;exact h3 (by rw[Lib.decDigits];simp)
 · exact dec_head _ hp he
theorem tok_int {p:Int} {n:Int} {r:List UInt8} (h:0≤n) (h2:n≤9007199254740992) (hr:SepB r):tokL p (Lib.itoa n++r)=.ok (⟨2,e0,n,p⟩,r):=by
 have hi:=itoa_int n h h2
 have hd:=itoa_dig n h
 have ha:(Lib.itoa n).all nameC=true:=by
  rw[List.all_eq_true] at hd ⊢
  exact fun c hc=>dig_name (hd c hc)
 obtain⟨h1,h3⟩:=while_app ha (fun c q e=>blank_name (hr c q e))
 have hne:Lib.itoa n≠[]:=by unfold Lib.itoa;rw[if_neg ω];exact dec_ne _
 cases hx:Lib.itoa n with
 | nil=>exact absurd hx hne
 | cons c x =>
  rw[hx] at h1 h3 hd hi
  simp only[List.all_cons,Bool.and_eq_true] at hd
  show (if letC c=true then _ else _)=_
  rw[if_neg (by rw[dig_let hd.1];decide),if_pos hd.1]
  rw[h1,h3,hi]
theorem text_back (x:List UInt8):∀(a r:List UInt8),textL a (x.flatMap quoteC++34::r)=if 4096<(a++x).length then .error 15 else .ok (a++x,r):=by
 induction x with
 | nil =>
  intro a r
  rw[List.flatMap_nil,List.nil_append,List.append_nil,textL_cons,if_neg π,if_pos π]
 | cons c x ih =>
  intro a r
  have e:a++c::x=(a++[c])++x:=by simp
  rw[List.flatMap_cons,List.append_assoc,e]
  unfold quoteC
  by_cases h1:c.toNat=10
  · obtain rfl:c=10:=UInt8.toNat_inj.1 h1
    rw[if_pos π]
    show textL a (92::110::(x.flatMap quoteC++34::r))=_
    rw[textL_cons,if_neg π,if_neg π,if_pos π]
    exact ih (a++[10]) r
  · rw[if_neg h1]
    by_cases h2:c.toNat=9
    · obtain rfl:c=9:=UInt8.toNat_inj.1 h2
      rw[if_pos π]
      show textL a (92::116::(x.flatMap quoteC++34::r))=_
      rw[textL_cons,if_neg π,if_neg π,if_pos π]
      exact ih (a++[9]) r
    · rw[if_neg h2]
      by_cases h3:c.toNat=34∨c.toNat=92
      · rw[if_pos h3]
        show textL a (92::c::(x.flatMap quoteC++34::r))=_
        rw[textL_cons,if_neg π,if_neg π,if_pos π]
        have hu:unesc c=some c:=by
         rcases h3 with h3|h3
         · obtain rfl:c=34:=UInt8.toNat_inj.1 h3
           rfl
         · obtain rfl:c=92:=UInt8.toNat_inj.1 h3
           rfl
        show (match unesc c with|none=>Except.error 2|some x_1=>textL (a++[x_1]) (x.flatMap quoteC++34::r))=_
        rw[hu]
        exact ih (a++[c]) r
      · rw[if_neg h3]
        show textL a (c::(x.flatMap quoteC++34::r))=_
        rw[textL_cons,if_neg h1,if_neg (fun e=>h3 (.inl e)),if_neg (fun e=>h3 (.inr e))]
        exact ih (a++[c]) r
theorem tok_text {p:Int} {x r:List UInt8} (h:x.length≤4096):tokL p (quoteL x++r)=.ok (⟨3,str x,0,p⟩,r):=by
 have e:quoteL x++r=34::(x.flatMap quoteC++34::r):=by unfold quoteL;simp
 rw[e]
 unfold tokL
 simp only
 rw[if_neg π,if_neg π,if_pos π,text_back,if_neg (by simpa using h)]
 rfl
theorem tok_mrk {p:Int} {x r:List UInt8} (h:markB x=true) (hr:SepB r):tokL p (x++r)=.ok (⟨4,str x,0,p⟩,r):=by
 have hc:∀(y:List UInt8),y.length=1→(∀c,blankC c=true→markB (y++[c])=false)→(∀c,y.head?=some c→letC c=false∧digC c=false∧c.toNat≠34)→markB y=true→tokL p (y++r)=.ok (⟨4,str y,0,p⟩,r):=by
  intro y hy hb hl hm
  match y,hy with
  | [m],_ =>
   obtain⟨l1,l2,l3⟩:=hl m rfl
   show (if letC m=true then _ else if digC m=true then _ else if m.toNat=34 then _ else if 2≤(m::r).length∧markB ((m::r).take 2)=true then _ else if markB ((m::r).take 1)=true then _ else _)=_
   rw[if_neg (by rw[l1];decide),if_neg (by rw[l2];decide),if_neg l3,if_neg,if_pos]
   · rfl
   · exact hm
   · rintro ⟨h1,h2⟩
     cases r with
     | nil=>simp at h1
     | cons c q =>
      have:=hb c (hr c q rfl)
      rw[show (m::c::q).take 2=[m]++[c] from rfl,this] at h2
      cases h2
 have hd:∀(y:List UInt8),y.length=2→(∀c,y.head?=some c→letC c=false∧digC c=false∧c.toNat≠34)→markB y=true→tokL p (y++r)=.ok (⟨4,str y,0,p⟩,r):=by
  intro y hy hl hm
  match y,hy with
  | [m,m2],_ =>
   obtain⟨l1,l2,l3⟩:=hl m rfl
   show (if letC m=true then _ else if digC m=true then _ else if m.toNat=34 then _ else if 2≤(m::m2::r).length∧markB ((m::m2::r).take 2)=true then _ else _)=_
   rw[if_neg (by rw[l1];decide),if_neg (by rw[l2];decide),if_neg l3,if_pos ⟨by simp,hm⟩]
   rfl
 have hm:=h
 unfold markB markWords at h
 simp only[List.contains_cons,List.contains_nil,Bool.or_eq_true,beq_iff_eq,Bool.or_false] at h
 rcases h with rfl|rfl|rfl|rfl|rfl|rfl|rfl|rfl|rfl|rfl|rfl|rfl|rfl|rfl|rfl|rfl|rfl|rfl|rfl|rfl|rfl|rfl|rfl|rfl|rfl|rfl|rfl
 all_goals first
  | exact hc _ rfl (fun c hb=>by rcases blank_cases hb with rfl|rfl|rfl|rfl<;>decide) (fun c e=>by cases e;decide) hm
  | exact hd _ rfl (fun c e=>by cases e;decide) hm
theorem str_list (s:Ê):str s.data.toList=s:=by unfold str;simp
theorem tok_back (t:Tk) (h:tokB t=true) (p:Int) (r:List UInt8) (hr:SepB r):tokL p (wTk t++r)=.ok ({ t with pos:=p },r):=by
 obtain⟨k,s,n,q⟩:=t
 unfold tokB at h
 unfold wTk
 simp only at h ⊢
 by_cases h1:k=1
 · subst h1
   rw[if_pos rfl,Bool.and_eq_true,beq_iff_eq] at h
   rw[if_neg π,if_neg π,tok_name h.1 hr,str_list,h.2]
 · rw[if_neg h1] at h
   by_cases h2:k=2
   · subst h2
     rw[if_pos rfl,Bool.and_eq_true,Bool.and_eq_true,beq_iff_eq,decide_eq_true_eq,decide_eq_true_eq] at h
     obtain⟨⟨h3,h4⟩,h5⟩:=h
     have es:s=e0:=by rw[←str_list s,h3];rfl
     rw[if_pos rfl,tok_int h4 h5 hr,es]
   · rw[if_neg h2] at h
     by_cases h3:k=3
     · subst h3
       rw[if_pos rfl,Bool.and_eq_true,beq_iff_eq,decide_eq_true_eq] at h
       rw[if_neg h2,if_pos rfl,tok_text (by have:=h.1;simpa using this),str_list,h.2]
     · rw[if_neg h3] at h
       by_cases h4:k=4
       · subst h4
         rw[if_pos rfl,Bool.and_eq_true,beq_iff_eq] at h
         rw[if_neg h2,if_neg h3,tok_mrk h.1 hr,str_list,h.2]
       · rw[if_neg h4] at h;cases h
theorem skip_back (t:Tk) (h:tokB t=true) (r:List UInt8) (hr:SepB r):skipL false (wTk t++r)=wTk t++r∧wTk t≠[]:=by
 have key:∀(c:UInt8) (x:List UInt8),blankC c=false→(c.toNat=47→(x++r).head?≠some 47)→skipL false ((c::x)++r)=(c::x)++r:=by
  intro c x h1 h2
  rw[List.cons_append,skipL,if_neg (by rw[h1];decide),if_neg (fun e=>h2 e.1 e.2)]
 have k1:∀x:List UInt8,nameB x=true→skipL false (x++r)=x++r∧x≠[]:=by
  intro x hx
  cases x with
  | nil=>cases hx
  | cons c x =>
   simp only[nameB,Bool.and_eq_true] at hx
   have hl:=hx.1
   unfold letC at hl
   simp only[Bool.or_eq_true,Bool.and_eq_true,decide_eq_true_eq] at hl
   exact⟨key c x (by cases hb:blankC c with|false=>rfl|true=>rcases blank_cases hb with rfl|rfl|rfl|rfl<;>simp at hl) (fun e=>by omega),by simp⟩
 have k2:∀n:Int,0≤n→skipL false (Lib.itoa n++r)=Lib.itoa n++r∧Lib.itoa n≠[]:=by
  intro n hn
  have hd:=itoa_dig n hn
  have hne:Lib.itoa n≠[]:=by unfold Lib.itoa;rw[if_neg ω];exact dec_ne _
  cases hx:Lib.itoa n with
  | nil=>exact absurd hx hne
  | cons c x =>
   rw[hx] at hd
   simp only[List.all_cons,Bool.and_eq_true] at hd
   have hl:=hd.1
   unfold digC at hl
   simp only[Bool.and_eq_true,decide_eq_true_eq] at hl
   exact⟨key c x (by cases hb:blankC c with|false=>rfl|true=>rcases blank_cases hb with rfl|rfl|rfl|rfl<;>simp at hl) (fun e=>by omega),by simp⟩
 have k3:∀x:List UInt8,skipL false (quoteL x++r)=quoteL x++r∧quoteL x≠[]:=by
  intro x
  unfold quoteL
  exact⟨key 34 _ π (fun e=>by simp at e),by simp⟩
 have k4:∀x:List UInt8,markB x=true→skipL false (x++r)=x++r∧x≠[]:=by
  intro x hx
  have hs:∀c q,r=c::q→c.toNat≠47:=fun c q e=>by rcases blank_cases (hr c q e) with rfl|rfl|rfl|rfl<;>decide
  unfold markB markWords at hx
  simp only[List.contains_cons,List.contains_nil,Bool.or_eq_true,beq_iff_eq,Bool.or_false] at hx
  have h47:r.head?≠some 47:=by
   cases r with
   | nil=>simp
   | cons c q=>intro e;injection e with e;subst e;exact hs 47 q rfl π
  rcases hx with rfl|rfl|rfl|rfl|rfl|rfl|rfl|rfl|rfl|rfl|rfl|rfl|rfl|rfl|rfl|rfl|rfl|rfl|rfl|rfl|rfl|rfl|rfl|rfl|rfl|rfl|rfl
  all_goals exact⟨key _ _ π (fun e=>by first|exact h47|(simp at e)),by simp⟩
 obtain⟨k,s,n,q⟩:=t
 unfold tokB at h
 unfold wTk
 simp only at h ⊢
 by_cases h1:k=1
 · subst h1
   rw[if_pos rfl,Bool.and_eq_true] at h
   rw[if_neg π,if_neg π]
   exact k1 _ h.1
 · rw[if_neg h1] at h
   by_cases h2:k=2
   · subst h2
     rw[if_pos rfl,Bool.and_eq_true,Bool.and_eq_true,decide_eq_true_eq] at h
     rw[if_pos rfl]
     exact k2 _ h.1.2
   · rw[if_neg h2] at h
     by_cases h3:k=3
     · subst h3
       rw[if_neg h2,if_pos rfl]
       exact k3 _
     · rw[if_neg h3] at h
       by_cases h4:k=4
       · subst h4
         rw[if_pos rfl,Bool.and_eq_true] at h
         rw[if_neg h2,if_neg h3]
         exact k4 _ h.1
       · rw[if_neg h4] at h;cases h
end
section
open Proofs.Tryz RowKit Maps WideMaps ChangeMaps
theorem tok_pos {p:Int} {l q:List UInt8} {t:Tk} (h:tokL p l=.ok (t,q)):t.pos=p:=by
 unfold tokL at h
 split at h
 · cases h
 · split at h
   · injection h with h;injection h with e1 e2;subst e1;rfl
   · split at h
     · split at h
       · cases h
       · injection h with h;injection h with e1 e2;subst e1;rfl
     · split at h
       · split at h
         · cases h
         · injection h with h;injection h with e1 e2;subst e1;rfl
       · split at h
         · injection h with h;injection h with e1 e2;subst e1;rfl
         · split at h
           · injection h with h;injection h with e1 e2;subst e1;rfl
           · cases h
def LexR.add (ts:List Tk):LexR→LexR
 | .err x p=>.err x p
 | .ok us=>.ok (ts++us)
theorem scanL_step {N n:Nat} {l:List UInt8} {c:UInt8} {r q:List UInt8} {t:Tk} (hs:skipL false l=c::r) (ht:tokL ((N:Int)-((c::r).length:Int)) (c::r)=.ok (t,q)):scanL N (n+1) l=(scanL N n q).add [t]:=by
 rw[scanL,hs]
 show (match tokL ((N:Int)-((c::r).length:Int)) (c::r) with|.error x=>_|.ok (t,q)=>_)=_
 rw[ht]
 show (match scanL N n q with|.err x p=>LexR.err x p|.ok ts=>.ok (t::ts))=_
 cases scanL N n q<;>rfl
theorem LexR.add_add (a b:List Tk) (x:LexR):(x.add b).add a=x.add (a++b):=by
 cases x with
 | err=>rfl
 | ok u=>show LexR.ok _=.ok _;rw[List.append_assoc]
theorem scan_inv {N n:Nat} {l:List UInt8} {ts:List Tk} (h:scanL N (n+1) l=.ok ts):(skipL false l=[]∧ts=[])∨∃c r t q us,skipL false l=c::r∧tokL ((N:Int)-((c::r).length:Int)) (c::r)=.ok (t,q)∧scanL N n q=.ok us∧ts=t::us:=by
 rw[scanL] at h
 split at h
 · rename_i hs
   injection h with h
   exact .inl ⟨hs,h.symm⟩
 · rename_i c r hs
   right
   split at h
   · cases h
   · rename_i t q ht
     split at h
     · cases h
     · rename_i us hu
       injection h with h
       exact⟨c,r,t,q,us,hs,ht,hu,h.symm⟩
theorem scanL_cons {N n:Nat} {l:List UInt8} {c:UInt8} {r:List UInt8} (hs:skipL false l=c::r):scanL N (n+1) l=match tokL ((N:Int)-((c::r).length:Int)) (c::r) with
 | .error x=>LexR.err x ((N:Int)-((c::r).length:Int))
 | .ok (t,q)=>match scanL N n q with
  | .err x p=>.err x p
  | .ok ts=>.ok (t::ts):=by
 rw[scanL,hs]
 rfl
theorem scanL_nil {N n:Nat} {l:List UInt8} (hs:skipL false l=[]):scanL N (n+1) l=.ok []:=by
 rw[scanL,hs]
theorem scan_fuel {N:Nat}:∀(n m:Nat) (l:List UInt8),l.length<n→l.length<m→scanL N n l=scanL N m l
 | 0,_,l,h,_=>absurd h (Nat.not_lt_zero _)
 | _+1,0,l,_,h=>absurd h (Nat.not_lt_zero _)
 | n+1,m+1,l,h,k=>by
  have h1:=skip_le false l
  cases hs:skipL false l with
  | nil=>rw[scanL_nil hs,scanL_nil hs]
  | cons c r =>
   rw[hs] at h1
   rw[scanL_cons hs,scanL_cons hs]
   cases ht:tokL ((N:Int)-((c::r).length:Int)) (c::r) with
   | error x=>rfl
   | ok z =>
    obtain⟨t,q⟩:=z
    have h2:=tok_less ht
    show (match scanL N n q with|.err x p=>LexR.err x p|.ok ts=>.ok (t::ts))=_
    rw[scan_fuel n m q ω ω]
end
section
open Proofs.Tryz RowKit Maps WideMaps ChangeMaps
theorem skip_suf:∀(b:Bool) (l:List UInt8),skipL b l <:+ l
 | b,[]=>by cases b<;>(rw[skipL];exact List.suffix_refl _)
 | true,x::l=>by
  rw[skipL]
  split
  · exact (skip_suf _ l).trans (List.suffix_cons _ _)
  · exact (skip_suf _ l).trans (List.suffix_cons _ _)
 | false,x::l=>by
  rw[skipL]
  split
  · exact (skip_suf _ l).trans (List.suffix_cons _ _)
  · split
    · exact (skip_suf _ l).trans (List.suffix_cons _ _)
    · exact List.suffix_refl _
theorem skip_idem:∀(b:Bool) (l q:List UInt8),skipL b l=q→skipL false q=q
 | b,[],q,h=>by cases b<;>(rw[skipL] at h;subst h;rfl)
 | true,x::l,q,h=>by
  rw[skipL] at h
  split at h
  · exact skip_idem _ l q h
  · exact skip_idem _ l q h
 | false,x::l,q,h=>by
  rw[skipL] at h
  split at h
  · exact skip_idem _ l q h
  · rename_i h1
    split at h
    · exact skip_idem _ l q h
    · rename_i h2
      rw[←h,skipL,if_neg h1,if_neg h2]
theorem text_suf (l:List UInt8):∀a b q,textL a l=.ok (b,q)→q <:+ l:=by
 induction hn:l.length using Nat.strongRecOn generalizing l with
 | _ n ih =>
  intro a b q h
  cases l with
  | nil=>rw[textL_nil] at h;cases h
  | cons c r =>
   rw[textL_cons] at h
   split at h
   · cases h
   · split at h
     · split at h
       · cases h
       · injection h with h;injection h with e1 e2
         rw[←e2];exact List.suffix_cons _ _
     · split at h
       · cases r with
         | nil=>cases h
         | cons d r2 =>
          rw[textE_cons] at h
          cases hu:unesc d with
          | none=>rw[hu] at h;cases h
          | some x =>
           rw[hu] at h
           exact (ih r2.length (by simp at hn;omega) r2 rfl _ _ _ h).trans ((List.suffix_cons _ _).trans (List.suffix_cons _ _))
       · exact (ih r.length (by simp at hn;omega) r rfl _ _ _ h).trans (List.suffix_cons _ _)
theorem tok_suf {p:Int} {l q:List UInt8} {t:Tk} (h:tokL p l=.ok (t,q)):q <:+ l:=by
 unfold tokL at h
 split at h
 · cases h
 · split at h
   · injection h with h;injection h with e1 e2;rw[←e2];exact List.dropWhile_suffix _
   · split at h
     · split at h
       · cases h
       · injection h with h;injection h with e1 e2;rw[←e2];exact List.dropWhile_suffix _
     · split at h
       · split at h
         · cases h
         · rename_i ht
           injection h with h;injection h with e1 e2;rw[←e2];exact (text_suf _ _ _ _ ht).trans (List.suffix_cons _ _)
       · split at h
         · injection h with h;injection h with e1 e2;rw[←e2];exact List.drop_suffix _ _
         · split at h
           · injection h with h;injection h with e1 e2;rw[←e2];exact List.drop_suffix _ _
           · cases h
def Cl (c c':UInt8):Prop:=c=c'∨(digC c=true∧digC c'=true)
theorem Cl.name {c c':UInt8} (h:Cl c c'):nameC c=nameC c':=by
 rcases h with rfl|⟨h1,h2⟩
 · rfl
 · rw[dig_name h1,dig_name h2]
theorem dig_facts {c:UInt8} (h:digC c=true):blankC c=false∧c.toNat≠47∧c.toNat≠10:=by
 unfold digC at h
 simp only[Bool.and_eq_true,decide_eq_true_eq] at h
 exact⟨by cases hb:blankC c with|false=>rfl|true=>rcases blank_cases hb with rfl|rfl|rfl|rfl<;>simp at h,by omega,by omega⟩
theorem Cl.h47 {c c':UInt8} (h:Cl c c'):c=47↔c'=47:=by
 rcases h with rfl|⟨h1,h2⟩
 · exact Iff.rfl
 · have a:=(dig_facts h1).2.1
   have b:=(dig_facts h2).2.1
   exact⟨fun e=>by subst e;exact absurd rfl a,fun e=>by subst e;exact absurd rfl b⟩
theorem Cl.mark {c c':UInt8} (h:Cl c c') (x:UInt8):markB [x,c]=markB [x,c']:=by
 rcases h with rfl|⟨h1,h2⟩
 · rfl
 · have key:∀c:UInt8,digC c=true→markB [x,c]=false:=by
    intro c hc
    unfold digC at hc
    simp only[Bool.and_eq_true,decide_eq_true_eq] at hc
    have e:∀m:UInt8,(m.toNat<48∨57<m.toNat)→(c==m)=false:=fun m hm=>beq_eq_false_iff_ne.2 (fun e=>by subst e;omega)
    unfold markB markWords
    simp[e 61 π,e 43 π,e 62 π,e 45 π]
    and_intros<;>(intro _ e;subst e;simp at hc)
   rw[key c h1,key c' h2]
section
variable {c c':UInt8} {u u':List UInt8}
theorem skip_pre (hcl:Cl c c') (h0:skipL false (c'::u')=c'::u'):∀(b:Bool) (a:List UInt8),u.length<(skipL b (a++c::u)).length→∃d,skipL b (a++c::u)=d++c::u∧skipL b (a++c'::u')=d++c'::u'
 | b,[]=>fun h=>by
  rw[List.nil_append] at h
  cases b with
  | true =>
   rw[skipL] at h
   split at h
   · have:=skip_le false u;omega
   · have:=skip_le true u;omega
  | false =>
   rw[List.nil_append,List.nil_append]
   refine⟨[],?_,h0⟩
   rw[skipL] at h ⊢
   split at h
   · have:=skip_le false u;omega
   · rename_i h1
     rw[if_neg h1]
     split at h
     · have:=skip_le true u;omega
     · rename_i h2
       rw[if_neg h2];rfl
 | true,x::a=>fun h=>by
  rw[List.cons_append,skipL] at h
  rw[List.cons_append,List.cons_append,skipL,skipL]
  split at h
  · rename_i h1
    rw[if_pos h1,if_pos h1]
    exact skip_pre hcl h0 false a h
  · rename_i h1
    rw[if_neg h1,if_neg h1]
    exact skip_pre hcl h0 true a h
 | false,x::a=>fun h=>by
  have e:(a++c::u).head?=some 47↔(a++c'::u').head?=some 47:=by
   cases a with
   | nil=>simpa using hcl.h47
   | cons y a=>simp
  rw[List.cons_append,skipL] at h
  rw[List.cons_append,List.cons_append,skipL,skipL]
  split at h
  · rename_i h1
    rw[if_pos h1,if_pos h1]
    exact skip_pre hcl h0 false a h
  · rename_i h1
    rw[if_neg h1,if_neg h1]
    split at h
    · rename_i h2
      rw[if_pos h2,if_pos ⟨h2.1,e.1 h2.2⟩]
      exact skip_pre hcl h0 true a h
    · rename_i h2
      rw[if_neg h2,if_neg (fun k=>h2 ⟨k.1,e.2 k.2⟩)]
      exact⟨x::a,rfl,rfl⟩
theorem while_pre {p:UInt8→Bool} (hp:p c=p c'):∀a:List UInt8,u.length<((a++c::u).dropWhile p).length→(a++c::u).takeWhile p=(a++c'::u').takeWhile p∧∃d,(a++c::u).dropWhile p=d++c::u∧(a++c'::u').dropWhile p=d++c'::u'
 | []=>fun h=>by
  rw[List.nil_append,List.nil_append,List.takeWhile_cons,List.takeWhile_cons,List.dropWhile_cons,List.dropWhile_cons]
  rw[List.nil_append,List.dropWhile_cons] at h
  cases hc:p c with
  | true =>
   rw[hc,if_pos rfl] at h
   have:=(List.dropWhile_suffix (l:=u) p).length_le
   omega
  | false=>rw[←hp,hc];exact⟨rfl,[],rfl,rfl⟩
 | x::a=>fun h=>by
  rw[List.cons_append,List.dropWhile_cons] at h
  rw[List.cons_append,List.cons_append,List.takeWhile_cons,List.takeWhile_cons,List.dropWhile_cons,List.dropWhile_cons]
  cases hx:p x with
  | true =>
   rw[hx,if_pos rfl] at h
   obtain⟨h1,d,h2,h3⟩:=while_pre hp a h
   exact⟨by rw[if_pos rfl,if_pos rfl,h1],d,by rw[if_pos rfl,h2],by rw[if_pos rfl,h3]⟩
  | false=>exact⟨rfl,x::a,rfl,rfl⟩
theorem text_pre (a:List UInt8):∀b s q,textL b (a++c::u)=.ok (s,q)→u.length<q.length→∃d,q=d++c::u∧textL b (a++c'::u')=.ok (s,d++c'::u'):=by
 induction hn:a.length using Nat.strongRecOn generalizing a with
 | _ n ih =>
  intro b s q h hq
  cases a with
  | nil =>
   have:=text_less _ _ _ _ h
   simp at this;omega
  | cons x a =>
   rw[List.cons_append,textL_cons] at h
   rw[List.cons_append,textL_cons]
   split at h
   · cases h
   · rename_i h1
     rw[if_neg h1]
     split at h
     · rename_i h2
       rw[if_pos h2]
       split at h
       · cases h
       · rename_i h3
         rw[if_neg h3]
         injection h with h;injection h with e1 e2
         subst e1 e2
         exact⟨a,rfl,rfl⟩
     · rename_i h2
       rw[if_neg h2]
       split at h
       · rename_i h3
         rw[if_pos h3]
         cases a with
         | nil =>
          rw[List.nil_append,textE_cons] at h
          cases hu:unesc c with
          | none=>rw[hu] at h;cases h
          | some y =>
           rw[hu] at h
           have:=text_less _ _ _ _ h
           omega
         | cons d a2 =>
          rw[List.cons_append,textE_cons] at h
          rw[List.cons_append,textE_cons]
          cases hu:unesc d with
          | none=>rw[hu] at h;cases h
          | some y =>
           rw[hu] at h
           exact ih a2.length (by simp at hn;omega) a2 rfl _ _ _ h hq
       · rename_i h3
         rw[if_neg h3]
         exact ih a.length (by simp at hn;omega) a rfl _ _ _ h hq
theorem tok_pre (hcl:Cl c c') {p:Int} {a q:List UInt8} {t:Tk} (h:tokL p (a++c::u)=.ok (t,q)) (hq:u.length<q.length):∃d,q=d++c::u∧tokL p (a++c'::u')=.ok (t,d++c'::u'):=by
 cases a with
 | nil =>
  have:=tok_less h
  simp at this;omega
 | cons x a =>
  rw[List.cons_append] at h ⊢
  unfold tokL at h ⊢
  simp only at h ⊢
  by_cases h1:letC x=true
  · rw[if_pos h1] at h ⊢
    injection h with h;injection h with e1 e2
    obtain⟨k1,d,k2,k3⟩:=while_pre (p:=nameC) (c:=c) (c':=c') (u:=u) (u':=u') hcl.name (x::a) (by rw[List.cons_append,e2];exact hq)
    rw[List.cons_append,List.cons_append] at k1
    rw[List.cons_append] at k2 k3
    exact⟨d,by rw[←e2];exact k2,by rw[←e1,k1,k3]⟩
  · rw[if_neg h1] at h ⊢
    by_cases h2:digC x=true
    · rw[if_pos h2] at h ⊢
      cases hi:intL ((x::(a++c::u)).takeWhile nameC) with
      | error y=>rw[hi] at h;cases h
      | ok n =>
       rw[hi] at h
       injection h with h;injection h with e1 e2
       obtain⟨k1,d,k2,k3⟩:=while_pre (p:=nameC) (c:=c) (c':=c') (u:=u) (u':=u') hcl.name (x::a) (by rw[List.cons_append,e2];exact hq)
       rw[List.cons_append,List.cons_append] at k1
       rw[List.cons_append] at k2 k3
       exact⟨d,by rw[←e2];exact k2,by rw[←k1,hi,←e1,k3]⟩
    · rw[if_neg h2] at h ⊢
      by_cases h3:x.toNat=34
      · rw[if_pos h3] at h ⊢
        cases ht:textL [] (a++c::u) with
        | error y=>rw[ht] at h;cases h
        | ok z =>
         obtain⟨s,q2⟩:=z
         rw[ht] at h
         injection h with h;injection h with e1 e2
         subst e2
         obtain⟨d,k1,k2⟩:=text_pre (c':=c') (u':=u') a _ _ _ ht hq
         exact⟨d,k1,by rw[k2,←e1]⟩
      · rw[if_neg h3] at h ⊢
        cases a with
        | nil =>
         change (if 2≤(x::c::u).length∧markB [x,c]=true then _ else if markB [x]=true then _ else _)=_ at h
         show ∃d,_∧(if 2≤(x::c'::u').length∧markB [x,c']=true then _ else if markB [x]=true then _ else _)=_
         split at h
         · injection h with h;injection h with e1 e2
           subst e2
           simp at hq
         · rename_i h5
           rw[if_neg (fun k=>h5 ⟨by simp,by rw[hcl.mark];exact k.2⟩)]
           split at h
           · rename_i h6
             rw[if_pos h6]
             injection h with h;injection h with e1 e2
             subst e1 e2
             exact⟨[],rfl,rfl⟩
           · cases h
        | cons y a =>
         change (if 2≤(x::y::(a++c::u)).length∧markB [x,y]=true then _ else if markB [x]=true then _ else _)=_ at h
         show ∃d,_∧(if 2≤(x::y::(a++c'::u')).length∧markB [x,y]=true then _ else if markB [x]=true then _ else _)=_
         split at h
         · rename_i h5
           rw[if_pos ⟨by simp,h5.2⟩]
           injection h with h;injection h with e1 e2
           subst e1 e2
           exact⟨a,rfl,rfl⟩
         · rename_i h5
           rw[if_neg (fun k=>h5 ⟨by simp,k.2⟩)]
           split at h
           · rename_i h6
             rw[if_pos h6]
             injection h with h;injection h with e1 e2
             subst e1 e2
             exact⟨y::a,rfl,rfl⟩
           · cases h
end
theorem scan_pre {N:Nat} {t:Tk}:∀(ts1:List Tk) (n:Nat) (l:List UInt8) (ts2:List Tk),scanL N n l=.ok (ts1++t::ts2)→l.length<n →
 ∃pre c u q,l=pre++c::u∧skipL false (c::u)=c::u∧tokL ((N:Int)-((c::u).length:Int)) (c::u)=.ok (t,q) ∧
  ∀(c':UInt8) (u':List UInt8) (N' n':Nat),Cl c c'→skipL false (c'::u')=c'::u'→N'+u.length=N+u'.length→(pre++c'::u').length<n'→scanL N' n' (pre++c'::u')=(scanL N' n' (c'::u')).add ts1
 | ts1,0,l,ts2,h,hl=>absurd hl (Nat.not_lt_zero _)
 | ts1,n+1,l,ts2,h,hl=>by
  rcases scan_inv h with ⟨_,e⟩|⟨c,r,t1,q,us,h0,ht,hq,e⟩
  · exact absurd e (by simp)
  · have h1:=skip_le false l
    rw[h0] at h1
    have h2:=tok_less ht
    have hsk:skipL false (c::r)=c::r:=skip_idem _ _ _ h0
    obtain⟨pre0,epre⟩:∃pre,l=pre++c::r:=by
     obtain⟨pre,e⟩:=skip_suf false l
     rw[h0] at e
     exact⟨pre,e.symm⟩
    cases ts1 with
    | nil =>
     rw[List.nil_append] at e
     injection e with e1 e2
     subst e1
     refine⟨pre0,c,r,q,epre,hsk,ht,fun c' u' N' n' hcl hs' hN hn'=>?_⟩
     obtain⟨d,k1,k2⟩:=skip_pre hcl hs' (u:=r) false pre0 (by rw[←epre,h0];simp)
     rw[←epre,h0] at k1
     have hd:d=[]:=by
      have:=congrArg List.length k1
      simp at this
      exact this
     subst hd
     obtain⟨m,rfl⟩:∃m,n'=m+1:=⟨n'-1,by omega⟩
     have e2:scanL N' (m+1) (pre0++c'::u')=scanL N' (m+1) (c'::u'):=by
      rw[scanL,scanL,k2,List.nil_append,hs']
     rw[e2]
     cases scanL N' (m+1) (c'::u')<;>rfl
    | cons t0 ts1 =>
     rw[List.cons_append] at e
     injection e with e1 e2
     subst e1
     rw[←e2] at hq
     obtain⟨pre,c1,u,q1,eq1,hs1,ht1,hall⟩:=scan_pre ts1 n q ts2 hq ω
     obtain⟨z,ez⟩:=tok_suf ht
     rw[eq1] at ez
     have ez2:c::r=(z++pre)++c1::u:=by rw[←ez,List.append_assoc]
     refine⟨pre0++(z++pre),c1,u,q1,by rw[epre,ez2];simp only[List.append_assoc],hs1,ht1,fun c' u' N' n' hcl hs' hN hn'=>?_⟩
     have ht':=ht
     rw[ez2] at ht'
     obtain⟨d,k1,k2⟩:=tok_pre (u':=u') hcl ht' (by rw[eq1];simp;omega)
     rw[eq1] at k1
     have hd:pre=d:=List.append_cancel_right k1
     subst hd
     have h0':=h0
     rw[epre,ez2,←List.append_assoc] at h0'
     obtain⟨d2,k3,k4⟩:=skip_pre hcl hs' (u:=u) false (pre0++(z++pre)) (by rw[h0'];simp;omega)
     rw[h0'] at k3
     have hd:z++pre=d2:=List.append_cancel_right k3
     subst hd
     obtain⟨m,rfl⟩:∃m,n'=m+1:=⟨n'-1,by omega⟩
     have lz:0<z.length:=by
      have:=congrArg List.length ez
      have h3:=h2
      rw[eq1] at h3
      simp at this h3
      omega
     cases hz:(z++pre)++c'::u' with
     | nil=>simp at hz
     | cons y ys =>
      rw[hz] at k4 k2
      rw[scanL_step (c:=y) (r:=ys) (t:=t0) (q:=pre++c'::u') k4,hall c' u' N' m hcl hs' hN ?_,LexR.add_add]
      · rw[scan_fuel m (m+1) (c'::u')]
        · rfl
        · simp at hn' ⊢;omega
        · simp at hn' ⊢;omega
      · simp at hn' ⊢;omega
      · rw[←k2]
        congr 1
        have l1:=congrArg List.length hz
        have l2:=congrArg List.length ez2
        simp at l1 l2 ⊢
        omega
end
section
open Proofs.Tryz RowKit Maps WideMaps ChangeMaps
def Gap (g:List UInt8):Prop:=(∀r,skipL false (g++r)=skipL false r)∧∃c q,g=c::q∧blankC c=true
theorem Gap.sep {g:List UInt8} (h:Gap g) (r:List UInt8):SepB (g++r):=by
 obtain⟨c,q,rfl,hc⟩:=h.2
 intro c' q' e
 injection e with e1 e2
 rw[←e1];exact hc
theorem int_good {l:List UInt8} {n:Int} (h:intL l=.ok n):0≤n∧n≤9007199254740992:=by
 unfold intL at h
 split at h
 · cases h
 · split at h
   · cases h
   · split at h
     · cases h
     · rename_i hn
       injection h with h
       subst h
       exact numP_range hn
theorem tok_good {p:Int} {l q:List UInt8} {t:Tk} (h:tokL p l=.ok (t,q)):tokB t=true:=by
 have hs:∀l:List UInt8,(str l).data.toList=l:=fun l=>by unfold str;simp
 unfold tokL at h
 split at h
 · cases h
 · rename_i c r
   split at h
   · rename_i hc
     injection h with h;injection h with e1 e2
     subst e1
     unfold tokB
     simp only[if_true]
     rw[hs,List.takeWhile_cons,if_pos (let_name hc)]
     unfold nameB
     simp only[hc,Bool.true_and,List.all_cons,let_name hc,beq_self_eq_true,Bool.and_true]
     exact List.all_takeWhile
   · split at h
     · split at h
       · cases h
       · rename_i hi
         injection h with h;injection h with e1 e2
         subst e1
         have:=int_good hi
         unfold tokB
         simp[e0,this]
     · split at h
       · split at h
         · cases h
         · rename_i a q2 ht
           injection h with h;injection h with e1 e2
           subst e1
           have:=text_len _ _ _ _ ht
           have e:(str a).size=a.length:=by unfold str;simp[ByteArray.size]
           unfold tokB
           simp only
           rw[if_neg π,if_neg π,if_pos π,e,decide_eq_true this];rfl
       · split at h
         · rename_i hm
           injection h with h;injection h with e1 e2
           subst e1
           have:=hm.2
           unfold tokB
           simp only
           rw[if_neg π,if_neg π,if_neg π,if_pos π,hs,this];rfl
         · split at h
           · rename_i hm
             injection h with h;injection h with e1 e2
             subst e1
             unfold tokB
             simp only
             rw[if_neg π,if_neg π,if_neg π,if_pos π,hs,hm];rfl
           · cases h
theorem scan_good {N:Nat}:∀(n:Nat) (l:List UInt8) (ts:List Tk),scanL N n l=.ok ts→∀t∈ts,tokB t=true
 | 0,l,ts,h=>by cases h
 | n+1,l,ts,h=>by
  rcases scan_inv h with ⟨_,rfl⟩|⟨c,r,t,q,us,h0,ht,hq,rfl⟩
  · intro t h;cases h
  · intro x hx
    rcases List.mem_cons.1 hx with rfl|hx
    · exact tok_good ht
    · exact scan_good n q us hq x hx
end
section
open Proofs.Tryz RowKit Maps WideMaps ChangeMaps
mutual
theorem mv_id:∀a:Nd,a.mv (fun p=>p)=a
 | .mk k s n p l=>by rw[Nd.mv,mvL_id l]
theorem mvL_id:∀l:List Nd,mvL (fun p=>p) l=l
 | []=>by rw[mvL]
 | a::l=>by rw[mvL,mv_id a,mvL_id l]
end
theorem mapT_id (l:List Tk):l.map (mvT (fun p=>p))=l:=by
 conv=>rhs;rw[←List.map_id l]
 rfl
theorem scan_lt {N:Nat}:∀(n:Nat) (l:List UInt8) (ts:List Tk),scanL N n l=.ok ts→∀t∈ts,t.pos<N
 | 0,l,ts,h=>by rw[scanL] at h;cases h
 | n+1,l,ts,h=>by
  rcases scan_inv h with ⟨_,rfl⟩|⟨c,r,t,q,us,_,ht,hq,rfl⟩
  · intro t ht;cases ht
  · intro x hx
    rcases List.mem_cons.1 hx with rfl|hx
    · rw[tok_pos ht];simp only[List.length_cons];omega
    · exact scan_lt n q us hq x hx
theorem scanP_of {l:List UInt8} (h:l.length≤32768):scanP l=scanL l.length (l.length+1) l:=by unfold scanP;rw[if_neg ω]
end
section
open Proofs.Tryz RowKit Maps WideMaps ChangeMaps
theorem runP_errs {b:Bool} {l:List UInt8} {x p:Int} (h:runP b l=.err x p):x≠0:=by
 cases hs:scanP l with
 | err y q=>rw[run_err hs] at h;injection h with h1 h2;rw[←h1];exact scanP_errs hs
 | ok ts =>
  rw[run_ok hs] at h
  cases hp:progP (l.length:Int) b (20*ts.length+1) (ts.length+1) ts with
  | out=>exact absurd hp prog_in
  | bad r=>rw[hp] at h;injection h with h1 h2;rw[←h1];decide
  | ok q r =>
   rw[hp] at h
   cases hd:deepP 0 (.mk 1 e0 0 0 q) with
   | some p=>rw[fin_deep hd] at h;injection h with h1 h2;rw[←h1];decide
   | none=>rw[fin_ok hd] at h;cases h
def RunU (w:À) (R:RunR) (e:Ending) (w':À):Prop:=
 ∃k s n p D l c a x q,e=.returned (.tuple #[.agg (cl k s n p D l c).toArray,.int .i64 x,.int .i64 q])∧Below w.heap.size w w'∧NdR w' (lo w') (cl k s n p D l c) a∧((R=.err x q∧x≠0∧a=.mk 0 e0 0 0 [])∨(R=.ok a∧x=0))
theorem run_uni {b:Bool} {f:FuncId} {s:Ê} {w:À} (h:Calls prog f #[.string s] w (RunV w (runP b s.data.toList))):Calls prog f #[.string s] w (RunU w (runP b s.data.toList)):=by
 refine h.mono fun e w' h=>?_
 cases hR:runP b s.data.toList with
 | err x p =>
  rw[hR] at h
  obtain⟨he,hb⟩:=h
  exact⟨0,e0,0,0,none,0,0,.mk 0 e0 0 0 [],x,p,he,hb,NdR.of ⟨by unfold i64;decide,by unfold i64;decide,by unfold i64;decide⟩ π SlR.nil,.inl ⟨rfl,runP_errs hR,rfl⟩⟩
 | ok n =>
  rw[hR] at h
  obtain⟨k,s,m,p,D,l,c,he,hb,hn⟩:=h
  exact⟨k,s,m,p,D,l,c,n,0,0,he,hb,hn.to fun b hb=>⟨hb.2,rfl⟩,.inr ⟨rfl,rfl⟩⟩
def ScU (w:À) (R:LexR) (e:Ending) (w':À):Prop:=
 ∃A cap ts x p,e=.returned (.tuple #[.slice A (ts:List Tk).length cap,.int .i64 x,.int .i64 p])∧Below w.heap.size w w'∧SlR w' (lo w') 4 TkR (.slice A ts.length cap) ts∧((R=.err x p∧x≠0∧ts=[])∨(R=.ok ts∧x=0))
theorem scan_uni (s:Ê) (w:À) (hs:s.size≤maxLen):Calls prog 22 #[.string s] w (ScU w (scanP s.data.toList)):=by
 refine (scan_any s w hs).mono fun e w' h=>?_
 cases hR:scanP s.data.toList with
 | err x p =>
  rw[hR] at h
  obtain⟨he,hb⟩:=h
  exact⟨none,0,[],x,p,he,hb,SlR.nil,.inl ⟨rfl,scanP_errs hR,rfl⟩⟩
 | ok ts =>
  rw[hR] at h
  obtain⟨A,cap,he,hb,hn⟩:=h
  exact⟨A,cap,ts,0,0,he,hb,hn.to' (fun b hb=>⟨hb.2,rfl⟩) (fun _ _ x=>x),.inr ⟨rfl,rfl⟩⟩
end
section
open Proofs.Tryz RowKit Maps WideMaps ChangeMaps
theorem scan_low {N:Nat}:∀(n:Nat) (l:List UInt8) (ts:List Tk),scanL N n l=.ok ts→∀t∈ts,(N:Int)-l.length≤t.pos
 | 0,l,ts,h=>by rw[scanL] at h;cases h
 | n+1,l,ts,h=>by
  rcases scan_inv h with ⟨_,rfl⟩|⟨c,r,t,q,us,h0,ht,hq,rfl⟩
  · intro t ht;cases ht
  · have h1:=skip_le false l
    rw[h0] at h1
    have h2:=tok_less ht
    intro x hx
    rcases List.mem_cons.1 hx with rfl|hx
    · rw[tok_pos ht];simp only[List.length_cons] at h1 ⊢;omega
    · have:=scan_low n q us hq x hx;omega
theorem scan_inc {N:Nat}:∀(n:Nat) (l:List UInt8) (ts:List Tk),scanL N n l=.ok ts→ts.Pairwise (fun a b=>a.pos<b.pos)
 | 0,l,ts,h=>by rw[scanL] at h;cases h
 | n+1,l,ts,h=>by
  rcases scan_inv h with ⟨_,rfl⟩|⟨c,r,t,q,us,h0,ht,hq,rfl⟩
  · exact List.Pairwise.nil
  · have h2:=tok_less ht
    refine List.Pairwise.cons (fun x hx=>?_) (scan_inc n q us hq)
    have:=scan_low n q us hq x hx
    rw[tok_pos ht];omega
theorem pos_inj {ts:List Tk} (h:ts.Pairwise (fun a b=>a.pos<b.pos)) {x y:Tk} (hx:x∈ts) (hy:y∈ts) (e:x.pos=y.pos):x=y:=by
 induction h with
 | nil=>cases hx
 | cons h1 _ ih =>
  rcases List.mem_cons.1 hx with ex|kx<;>rcases List.mem_cons.1 hy with ey|ky
  · rw[ex,ey]
  · have:=h1 _ ky;rw[←ex] at this;omega
  · have:=h1 _ kx;rw[←ey] at this;omega
  · exact ih kx ky
theorem tok_cl {p:Int} {c:UInt8} {u q:List UInt8} {t:Tk} (h:tokL p (c::u)=.ok (t,q)):∃c' w,wTk t=c'::w∧Cl c c':=by
 unfold tokL at h
 simp only at h
 split at h
 · rename_i hc
   injection h with h;injection h with e1 e2
   subst e1
   refine⟨c,u.takeWhile nameC,?_,.inl rfl⟩
   unfold wTk str
   rw[if_neg (by simp),if_neg (by simp),List.takeWhile_cons,if_pos (let_name hc)]
 · split at h
   · rename_i hc
     split at h
     · cases h
     · rename_i n hn
       injection h with h;injection h with e1 e2
       subst e1
       have hg:=int_good hn
       have hd:=itoa_dig n hg.1
       unfold wTk
       rw[if_pos rfl]
       cases hi:Lib.itoa n with
       | nil =>
        exfalso
        have:=(skip_back ⟨2,e0,n,0⟩ (by unfold tokB;simp[hg.1,hg.2];rfl) [] (fun c q e=>by cases e)).2
        unfold wTk at this
        rw[if_pos rfl] at this
        exact this hi
       | cons d ds =>
        rw[hi] at hd
        simp only[List.all_cons,Bool.and_eq_true] at hd
        exact⟨d,ds,rfl,.inr ⟨hc,hd.1⟩⟩
   · split at h
     · rename_i hc
       have hc:c=34:=by
        have:c.toNat=(34:UInt8).toNat:=hc
        exact UInt8.toNat_inj.1 this
       split at h
       · cases h
       · injection h with h;injection h with e1 e2
         subst e1 hc
         exact⟨34,_,rfl,.inl rfl⟩
     · split at h
       · rename_i hc
         injection h with h;injection h with e1 e2
         subst e1
         refine⟨c,u.take 1,?_,.inl rfl⟩
         unfold wTk str
         rw[if_neg (by simp),if_neg (by simp)]
         simp
       · split at h
         · injection h with h;injection h with e1 e2
           subst e1
           refine⟨c,[],?_,.inl rfl⟩
           unfold wTk str
           rw[if_neg (by simp),if_neg (by simp)]
           simp
         · cases h
theorem prog_fuel {e:Int} {ts:List Tk} {n k:Nat} (hn:20*ts.length+1≤n) (hk:ts.length+1≤k):progP e true n k ts=progP e true (20*ts.length+1) (ts.length+1) ts:=by
 have h1:=prog_nat (φ:=fun p=>p) (e:=e) (e':=e) rfl true hn (ts.length+1) k ts hk
 cases hp:progP e true (20*ts.length+1) (ts.length+1) ts with
 | out=>exact absurd hp prog_in
 | bad r=>simp only[hp,mapT_id] at h1;exact h1
 | ok l r=>simp only[hp,mapT_id,mvL_id] at h1;exact h1
theorem early_law (l rest:List UInt8) (hl:l.length≤2000) (hr:rest.length≤1000) (ts:List Tk) (hs:scanP l=.ok ts) (p:Int) (ha:runP true l=.err 2 p) :
 0≤p∧p≤l.length∧(∀t∈ts,t.pos=p→∀us,scanP (l.take p.toNat++(wTk t++10::rest))=.ok us→runP true (l.take p.toNat++(wTk t++10::rest))=.err 2 p)∧((∀t∈ts,t.pos≠p)→p=l.length):=by
 have hs0:=hs
 rw[scanP_of ω] at hs
 have hrun:=run_ok (patch:=true) hs0
 rw[ha] at hrun
 cases hp:progP (l.length:Int) true (20*ts.length+1) (ts.length+1) ts with
 | out=>exact absurd hp prog_in
 | ok q r =>
  rw[hp] at hrun
  cases hd:deepP 0 (.mk 1 e0 0 0 q) with
  | none=>rw[fin_ok hd] at hrun;cases hrun
  | some x=>rw[fin_deep hd] at hrun;injection hrun with h1 h2;cases h1
 | bad r =>
  rw[hp] at hrun
  have hrun:RunR.err 2 p=.err 2 (offP (l.length:Int) r):=hrun
  injection hrun with _ hpos
  obtain⟨xs,hxs⟩:=((prog_suf (l.length:Int) true (20*ts.length+1) (ts.length+1)).h ts).2 _ hp
  cases r with
  | nil =>
   have hpos:p=(l.length:Int):=hpos
   refine⟨by omega,by omega,fun t ht e=>?_,fun _=>hpos⟩
   have:=scan_lt _ _ _ hs t ht
   omega
  | cons t us =>
   have hpos:p=t.pos:=hpos
   have htm:t∈ts:=by rw[←hxs];simp
   have hinc:=scan_inc _ _ _ hs
   have hlt:=scan_lt _ _ _ hs t htm
   have hlow:=scan_low _ _ _ hs t htm
   refine⟨by omega,by omega,fun t' ht' e=>?_,fun h=>absurd hpos.symm (h t htm)⟩
   have ht2:t'=t:=pos_inj hinc ht' htm ω
   subst ht2
   rw[←hxs] at hs
   obtain⟨pre,c,u,q,el,hsk,htk,hall⟩:=scan_pre xs _ _ us hs (Nat.lt_succ_self _)
   have htp:=tok_pos htk
   have hgood:=tok_good htk
   have hll:=congrArg List.length el
   simp only[List.length_append,List.length_cons] at hll htp
   have hpre:p.toNat=pre.length:=by omega
   have htake:l.take p.toNat=pre:=by rw[hpre,el];simp
   rw[htake]
   obtain⟨c',w,hw,hcl⟩:=tok_cl htk
   have sep:SepB (10::rest):=fun c q e=>by injection e with e1 _;rw[←e1];decide
   obtain⟨sk2,_⟩:=skip_back t' hgood (10::rest) sep
   rw[hw] at sk2 ⊢
   intro vs hvs
   have hlen:(pre++(c'::w++10::rest)).length=pre.length+(w.length+1+(rest.length+1)):=by simp;omega
   have hv2:=hvs
   unfold scanP at hv2
   split at hv2
   · cases hv2
   have e1:=hall c' (w++10::rest) (pre++(c'::w++10::rest)).length ((pre++(c'::w++10::rest)).length+1) hcl sk2 (by rw[hlen];simp;omega) (Nat.lt_succ_self _)
   have e2:scanL (pre++(c'::w++10::rest)).length ((pre++(c'::w++10::rest)).length+1) (pre++(c'::w++10::rest))=(scanL (pre++(c'::w++10::rest)).length ((pre++(c'::w++10::rest)).length+1) (c'::w++10::rest)).add xs:=e1
   rw[e2] at hv2
   have tb:=tok_back t' hgood (((pre++(c'::w++10::rest)).length:Int)-((c'::(w++10::rest)).length:Int)) (10::rest) sep
   rw[hw] at tb
   have st:=scanL_step (N:=(pre++(c'::w++10::rest)).length) (n:=(pre++(c'::w++10::rest)).length) (l:=c'::w++10::rest) (c:=c') (r:=w++10::rest) sk2 tb
   rw[st] at hv2
   have epos:({ t' with pos:=(((pre++(c'::w++10::rest)).length:Int)-((c'::(w++10::rest)).length:Int)) }:Tk)=t':=by
    have:(((pre++(c'::w++10::rest)).length:Int)-((c'::(w++10::rest)).length:Int))=t'.pos:=by
     rw[hlen];simp only[List.length_cons,List.length_append];omega
    rw[this]
   rw[epos] at hv2
   cases hrest:scanL (pre++(c'::w++10::rest)).length (pre++(c'::w++10::rest)).length (10::rest) with
   | err x y=>rw[hrest] at hv2;cases hv2
   | ok vr =>
    rw[hrest] at hv2
    injection hv2 with hv2
    have hv2:vs=xs++t'::vr:=hv2.symm
    rw[run_ok hvs]
    -- a number that is no offset
    obtain⟨E,hE⟩:∃E:Int,E=100000:=⟨_,rfl⟩
    have hvs2:scanL (pre++(c'::w++10::rest)).length ((pre++(c'::w++10::rest)).length+1) (pre++(c'::w++10::rest))=.ok vs:=by
     have h:=hvs
     unfold scanP at h
     split at h
     · cases h
     · exact h
    rename_i hsz
    have b1:∀x∈ts,x.pos≠E:=fun x hx=>by have:=scan_lt _ _ _ (by rw[←hxs];exact hs:scanL l.length (l.length+1) l=.ok ts) x hx;omega
    have b2:∀x∈vs,x.pos≠E:=fun x hx=>by have:=scan_lt _ _ _ hvs2 x hx;omega
    have hp1:=prog_nat (φ:=fun x=>if x=(l.length:Int) then E else x) (e:=(l.length:Int)) (e':=E) (by rw[if_pos rfl]) true (Nat.le_refl (20*ts.length+1)) (ts.length+1) (ts.length+1) ts (Nat.le_refl _)
    have mid:∀q:List Tk,(∀x∈q,x∈ts)→q.map (mvT (fun x=>if x=(l.length:Int) then E else x))=q:=fun q hq=>by
     conv=>rhs;rw[←List.map_id q]
     apply List.map_congr_left
     intro x hx
     have:=scan_lt _ _ _ (by rw[←hxs];exact hs:scanL l.length (l.length+1) l=.ok ts) x (hq x hx)
     show Tk.mk _ _ _ (if x.pos=(l.length:Int) then _ else x.pos)=x
     rw[if_neg ω]
    rw[hp,mid ts (fun x h=>h)] at hp1
    have hp1:progP E true (20*ts.length+1) (ts.length+1) ts=.bad ((t'::us).map (mvT (fun x=>if x=(l.length:Int) then E else x))):=hp1
    rw[mid (t'::us) (fun x h=>by rw[←hxs];exact List.mem_append_right _ h),←hxs] at hp1
    have hE2:=prog_early (e:=E) (e':=E) (us:=t'::us) (vs:=t'::vr) rfl rfl (fun x h=>b1 x (by rw[←hxs];exact List.mem_append_right _ h)) (fun x h=>b2 x (by rw[hv2];exact List.mem_append_right _ h)) true (n:=20*(xs++t'::us).length+1) (n':=20*((xs++t'::us).length+vs.length)+1) ω ((xs++t'::us).length+1) ((xs++t'::us).length+vs.length+1) xs ω (fun x h=>b1 x (by rw[←hxs];exact List.mem_append_left _ h)) hp1
    rw[←hv2,prog_fuel ω ω] at hE2
    have hp2:=prog_nat (φ:=fun x=>if x=E then ((pre++(c'::w++10::rest)).length:Int) else x) (e:=E) (e':=((pre++(c'::w++10::rest)).length:Int)) (by rw[if_pos rfl]) true (Nat.le_refl (20*vs.length+1)) (vs.length+1) (vs.length+1) vs (Nat.le_refl _)
    have mid2:∀q:List Tk,(∀x∈q,x∈vs)→q.map (mvT (fun x=>if x=E then ((pre++(c'::w++10::rest)).length:Int) else x))=q:=fun q hq=>by
     conv=>rhs;rw[←List.map_id q]
     apply List.map_congr_left
     intro x hx
     show Tk.mk _ _ _ (if x.pos=E then _ else x.pos)=x
     rw[if_neg (b2 x (hq x hx))]
    rw[hE2,mid2 vs (fun x h=>h)] at hp2
    have hp2:progP _ true (20*vs.length+1) (vs.length+1) vs=.bad ((t'::vr).map (mvT (fun x=>if x=E then ((pre++(c'::w++10::rest)).length:Int) else x))):=hp2
    rw[mid2 (t'::vr) (fun x h=>by rw[hv2];exact List.mem_append_right _ h)] at hp2
    rw[hp2,hpos]
    rfl
theorem tok_len {p:Int} {l q:List UInt8} {t:Tk} (h:tokL p l=.ok (t,q)):t.kind=1→t.text.size≤l.length:=by
 unfold tokL at h
 cases l with
 | nil=>cases h
 | cons c r =>
  simp only at h
  split at h
  · injection h with h;injection h with e1 e2
    subst e1
    intro _
    show (str _).size≤_
    simp only[str,ByteArray.size,List.size_toArray]
    exact (List.takeWhile_sublist _).length_le
  · split at h
    · split at h
      · cases h
      · injection h with h;injection h with e1 e2
        subst e1
        intro e;cases e
    · split at h
      · split at h
        · cases h
        · injection h with h;injection h with e1 e2
          subst e1
          intro e;cases e
      · split at h
        · injection h with h;injection h with e1 e2
          subst e1
          intro e;cases e
        · split at h
          · injection h with h;injection h with e1 e2
            subst e1
            intro e;cases e
          · cases h
theorem scan_txt {N:Nat}:∀(n:Nat) (l:List UInt8) (ts:List Tk),scanL N n l=.ok ts→∀t∈ts,t.kind=1→t.text.size≤l.length
 | 0,l,ts,h=>by rw[scanL] at h;cases h
 | n+1,l,ts,h=>by
  rcases scan_inv h with ⟨_,rfl⟩|⟨c,r,t,q,us,h0,ht,hq,rfl⟩
  · intro t ht;cases ht
  · have h1:=skip_le false l
    rw[h0] at h1
    have h2:=tok_less ht
    intro x hx hk
    rcases List.mem_cons.1 hx with rfl|hx
    · exact Nat.le_trans (tok_len ht hk) h1
    · have:=scan_txt n q us hq x hx hk;omega
theorem quoteC_le (c:UInt8):(quoteC c).length≤2:=by unfold quoteC;split<;>(try split)<;>(try split)<;>simp
theorem quote_len:∀l:List UInt8,(l.flatMap quoteC).length≤2*l.length
 | []=>by simp
 | c::l=>by
  have h1:=quoteC_le c
  have h2:=quote_len l
  rw[List.flatMap_cons,List.length_append,List.length_cons];omega
theorem wTk_len {t:Tk} (h:tokB t=true) {N:Nat} (hn:t.kind=1→t.text.size≤N):(wTk t).length≤N+8194:=by
 unfold tokB at h
 unfold wTk
 split at h
 · rename_i hk
   rw[if_neg ω,if_neg ω]
   have:=hn hk
   have e:t.text.data.toList.length=t.text.size:=by simp
   omega
 · split at h
   · rename_i hk
     rw[if_pos hk]
     simp only[Bool.and_eq_true,decide_eq_true_eq] at h
     have:=Lib.itoa_length_le t.n ω ω
     omega
   · split at h
     · rename_i hk
       rw[if_neg ω,if_pos hk]
       simp only[Bool.and_eq_true,decide_eq_true_eq] at h
       have e:t.text.data.toList.length=t.text.size:=by simp
       have:=quote_len t.text.data.toList
       unfold quoteL
       simp only[List.length_cons,List.length_append,List.length_nil]
       omega
     · split at h
       · rename_i hk
         rw[if_neg ω,if_neg ω]
         simp only[Bool.and_eq_true] at h
         have hm:=h.1
         unfold markB at hm
         have:∀x∈markWords,x.length≤2:=by decide
         have:=this _ (List.contains_iff_mem.1 hm)
         omega
       · cases h
theorem one_tk {ts:List Tk} {j:Nat} (h:j<ts.length):(ts.take (j+1)).drop j=[ts[j]]:=by
 rw[List.drop_take,show j+1-j=1 from by omega,List.drop_eq_getElem_cons h,List.take_succ_cons,List.take_zero]
theorem wTks_one (t:Tk) (h:tokB t=true):writeL [t]=wTk t:=by
 unfold writeL
 rw[List.all_cons,h];rfl
end
end Go.Proofs.YtbjdcogmiggamaaGreatDoor
