import Derived.Test.YtbjdcogmiggamaaGreatDoorZ34
import Derived.Test.YtbjdcogmiggamaaGreatDoorZ24
import Derived.Test.YtbjdcogmiggamaaGreatDoorZ33
import Derived.Test.YtbjdcogmiggamaaGreatDoorZ15
import Derived.Test.YtbjdcogmiggamaaGreatDoorZ23
import Derived.Test.YtbjdcogmiggamaaGreatDoorZ22
import Derived.Lib.ItoaLen
set_option linter.all false
namespace Go.Proofs.YtbjdcogmiggamaaGreatDoor
set_option maxRecDepth 100000
set_option maxHeartbeats 8000000
end Go.Proofs.YtbjdcogmiggamaaGreatDoor
/- what the base lacks -/
namespace Go.Proofs.YtbjdcogmiggamaaGreatDoor
section
theorem prog_nat {φ:Int→Int} {e e':Int} (he:e'=φ e) (patch:Bool) {n n':Nat} (hn:n≤n'):∀(k k':Nat) (ts:List Tk),k≤k'→(match progP e patch n k ts with
 | .out=>True
 | .bad r=>progP e' patch n' k' (ts.map (mvT φ))=.bad (r.map (mvT φ))
 | .ok l r=>progP e' patch n' k' (ts.map (mvT φ))=.ok (mvL φ l) (r.map (mvT φ)))
 | 0,k',ts,_=>trivial
 | k+1,0,ts,h=>absurd h ω
 | k+1,k'+1,ts,h=>by
  cases ts with
  | nil=>exact rfl
  | cons t r =>
   have i1:EqP φ e e':=⟨he⟩
   have i2:Le n n':=⟨hn⟩
   have i3:Al φ [] [] true:=⟨.inl ⟨rfl,.inl ⟨rfl,rfl⟩⟩⟩
   have hs:=(inferInstance:Sim φ [] [] true (oneP e patch n) (oneP e' patch n')).h (t::r)
   simp only[List.append_nil] at hs
   rw[prog_cons,List.map_cons,prog_cons,←List.map_cons]
   cases hx:oneP e patch n (t::r) with
   | out=>trivial
   | bad q=>rw[hs.2 trivial q hx];rfl
   | ok a q =>
    rw[hs.1 a q hx]
    have ih:=prog_nat he patch hn k k' q ω
    show match (progP e patch n k q).bd (fun l=>M.ret (a::l)) with|.out=>True|.bad r=>(progP e' patch n' k' (q.map (mvT φ))).bd (fun l=>M.ret (Mv.mv φ a::l))=_|.ok l r=>(progP e' patch n' k' (q.map (mvT φ))).bd (fun l=>M.ret (Mv.mv φ a::l))=_
    cases hy:progP e patch n k q with
    | out=>trivial
    | bad q2=>rw[hy] at ih;rw[ih];rfl
    | ok l q2=>rw[hy] at ih;rw[ih];rfl
end
end Go.Proofs.YtbjdcogmiggamaaGreatDoor
namespace Go.Proofs.YtbjdcogmiggamaaGreatDoor
section
open Proofs.Tryz RowKit Maps WideMaps ChangeMaps
theorem tdiv_le (d:Int) (h:0≤d) (h':d≤9):(-9223372036854775808+d).tdiv 10≤-922337203685477579:=by
 have:d=0∨d=1∨d=2∨d=3∨d=4∨d=5∨d=6∨d=7∨d=8∨d=9:=by omega
 rcases this with rfl|rfl|rfl|rfl|rfl|rfl|rfl|rfl|rfl|rfl<;>decide
theorem accN_append (a b:List UInt8):∀n,accN (a++b) n=(accN a n).bind (accN b):=by
 induction a with
 | nil=>intro n;rfl
 | cons c cs ih =>
  intro n
  simp only[List.cons_append,accN]
  split
  · rfl
  · split
    · rfl
    · exact ih _
theorem digit_nat (d:Nat) (h:d<10):(UInt8.ofNat (48+d)).toNat=48+d:=by
 simp;omega
theorem accN_dig (d:Nat) (h:d<10) (n:Int) (hn:-922337203685477579≤n):accN [UInt8.ofNat (48+d)] n=some (n*10-d):=by
 simp only[accN,digit_nat d h]
 rw[if_neg ω,if_neg (by have:=tdiv_le (((48+d:Nat):Int)-48) ω ω;omega)]
 congr 1;omega
theorem accN_dec (u:Nat) (h:u≤9223372036854775790):accN (Lib.decDigits u) 0=some (-(u:Int)):=by
 induction u using Nat.strongRecOn with
 | _ u ih =>
  rw[Lib.decDigits]
  split
  · rename_i hu
    rw[accN_dig u hu 0 ω];congr 1;omega
  · rename_i hu
    rw[accN_append,ih (u/10) ω ω]
    simp only[Option.bind_some]
    rw[accN_dig (u%10) ω _ ω]
    congr 1;omega
theorem dec_ne (u:Nat):Lib.decDigits u≠[]:=by
 rw[Lib.decDigits];split<;>simp
theorem dec_dig (u:Nat):∀c∈Lib.decDigits u,48≤c.toNat∧c.toNat≤57:=by
 induction u using Nat.strongRecOn with
 | _ u ih =>
  rw[Lib.decDigits]
  split
  · rename_i hu
    intro c hc
    rw[List.mem_singleton] at hc
    subst hc
    rw[digit_nat u hu];omega
  · rename_i hu
    intro c hc
    rw[List.mem_append,List.mem_singleton] at hc
    rcases hc with hc|rfl
    · exact ih _ ω c hc
    · rw[digit_nat _ ω];omega
theorem dec_head (u:Nat) (h:0<u):(Lib.decDigits u).head?≠some 48:=by
 induction u using Nat.strongRecOn with
 | _ u ih =>
  rw[Lib.decDigits]
  split
  · rename_i hu
    intro he
    simp only[List.head?_cons,Option.some.injEq] at he
    have:=congrArg UInt8.toNat he
    rw[digit_nat u hu] at this
    simp at this;omega
  · rename_i hu
    have hne:=dec_ne (u/10)
    rw[List.head?_append]
    cases hh:(Lib.decDigits (u/10)).head? with
    | none=>exact absurd (List.head?_eq_none_iff.1 hh) hne
    | some c =>
     have:=ih (u/10) ω ω
     rw[hh] at this
     simpa using this
theorem numP_dec (u:Nat) (hi:Int) (h:(u:Int)≤hi) (hu:u≤9223372036854775790):numP (Lib.decDigits u) 0 hi=some (u:Int):=by
 have hne:=dec_ne u
 have hd:=dec_dig u
 have h45:(Lib.decDigits u).head?≠some 45:=by
  intro he
  have:=hd 45 (List.mem_of_mem_head? he)
  simp at this
 unfold numP
 rw[if_neg h45,if_neg,accN_dec u hu]
 · simp only[Option.bind_some,finN]
   rw[if_neg ω]
   simp;omega
 · rintro (he|⟨he,h2⟩)
   · exact hne he
   · rcases Nat.eq_zero_or_pos u with rfl|hp
     · exact h2 (by rw[Lib.decDigits];simp)
     · exact dec_head u hp he
theorem numP_itoa (n hi:Int) (h0:0≤n) (h:n≤hi) (hu:n≤9223372036854775790):numP (Lib.itoa n) 0 hi=some n:=by
 obtain⟨u,rfl⟩:=Int.eq_ofNat_of_zero_le h0
 unfold Lib.itoa
 rw[if_neg ω,Int.toNat_natCast]
 exact numP_dec u hi h ω
theorem numP_range {l:List UInt8} {lo hi n:Int} (h:numP l lo hi=some n):lo≤n∧n≤hi:=by
 have fin:∀(neg:Bool) (m:Int),finN neg m lo hi=some n→lo≤n∧n≤hi:=by
  intro neg m h
  unfold finN at h
  generalize (if neg=true then m else -m)=k at h
  by_cases h1:neg=false∧m=-9223372036854775808
  · rw[if_pos h1] at h;cases h
  · rw[if_neg h1] at h
    by_cases h2:k<lo∨hi<k
    · rw[if_pos h2] at h;cases h
    · rw[if_neg h2] at h;injection h with h;omega
 unfold numP at h
 split at h
 · split at h
   · cases h
   · obtain⟨m,_,hm⟩:=Option.bind_eq_some_iff.1 h
     exact fin _ _ hm
 · split at h
   · cases h
   · obtain⟨m,_,hm⟩:=Option.bind_eq_some_iff.1 h
     exact fin _ _ hm
end
section
open Proofs.Tryz RowKit Maps WideMaps ChangeMaps
def SepB (r:List UInt8):Prop:=∀c q,r=c::q→blankC c=true
theorem blank_cases {c:UInt8} (h:blankC c=true):c=9∨c=10∨c=13∨c=32:=by
 unfold blankC at h
 simp only[Bool.or_eq_true,beq_iff_eq] at h
 rcases h with ((h|h)|h)|h
 · exact .inl (UInt8.toNat_inj.1 h)
 · exact .inr (.inl (UInt8.toNat_inj.1 h))
 · exact .inr (.inr (.inl (UInt8.toNat_inj.1 h)))
 · exact .inr (.inr (.inr (UInt8.toNat_inj.1 h)))
theorem blank_name {c:UInt8} (h:blankC c=true):nameC c=false:=by
 rcases blank_cases h with rfl|rfl|rfl|rfl<;>decide
theorem while_app {p:UInt8→Bool} {x r:List UInt8} (h:x.all p=true) (hr:∀c q,r=c::q→p c=false):(x++r).takeWhile p=x∧(x++r).dropWhile p=r:=by
 induction x with
 | nil =>
  cases r with
  | nil=>exact⟨rfl,rfl⟩
  | cons c q =>
   have:=hr c q rfl
   simp[List.takeWhile_cons,List.dropWhile_cons,this]
 | cons c x ih =>
  simp only[List.all_cons,Bool.and_eq_true] at h
  obtain⟨h1,h2⟩:=ih h.2
  simp[List.takeWhile_cons,List.dropWhile_cons,h.1,h1,h2]
theorem let_name {c:UInt8} (h:letC c=true):nameC c=true:=by unfold nameC;unfold letC at h;rw[h];rfl
theorem dig_name {c:UInt8} (h:digC c=true):nameC c=true:=by
 unfold digC at h;unfold nameC
 simp only[Bool.and_eq_true,Bool.or_eq_true] at h ⊢
 exact .inl (.inr h)
theorem dig_let {c:UInt8} (h:digC c=true):letC c=false:=by
 unfold digC at h;unfold letC
 simp only[Bool.and_eq_true,decide_eq_true_eq] at h
 rw[Bool.eq_false_iff]
 simp only[ne_eq,Bool.or_eq_true,Bool.and_eq_true,decide_eq_true_eq]
 omega
theorem tok_name {p:Int} {x r:List UInt8} (h:nameB x=true) (hr:SepB r):tokL p (x++r)=.ok (⟨1,str x,0,p⟩,r):=by
 cases x with
 | nil=>cases h
 | cons c x =>
  simp only[nameB,Bool.and_eq_true] at h
  obtain⟨h1,h2⟩:=while_app h.2 (fun c q e=>blank_name (hr c q e))
  show (if letC c=true then _ else _)=_
  rw[if_pos h.1]
  rw[h1,h2]
theorem itoa_dig (n:Int) (h:0≤n):(Lib.itoa n).all digC=true:=by
 rw[List.all_eq_true]
 unfold Lib.itoa
 rw[if_neg ω]
 intro c hc
 have:=dec_dig _ c hc
 unfold digC
 simp;omega
theorem itoa_int (n:Int) (h:0≤n) (h2:n≤9007199254740992):intL (Lib.itoa n)=.ok n:=by
 have hd:=itoa_dig n h
 have hn:=numP_itoa n 9007199254740992 h h2 ω
 unfold intL
 rw[if_neg (by rw[hd];decide),hn,if_neg]
 rintro ⟨he,h3⟩
 unfold Lib.itoa at he h3
 rw[if_neg ω] at he h3
 rcases Nat.eq_zero_or_pos n.toNat with e|hp
 · rw[e] at h3;exact h3 (by rw[Lib.decDigits];simp)
 · exact dec_head _ hp he
theorem tok_int {p:Int} {n:Int} {r:List UInt8} (h:0≤n) (h2:n≤9007199254740992) (hr:SepB r):tokL p (Lib.itoa n++r)=.ok (⟨2,e0,n,p⟩,r):=by
 have hi:=itoa_int n h h2
 have hd:=itoa_dig n h
 have ha:(Lib.itoa n).all nameC=true:=by
  rw[List.all_eq_true] at hd ⊢
  exact fun c hc=>dig_name (hd c hc)
 obtain⟨h1,h3⟩:=while_app ha (fun c q e=>blank_name (hr c q e))
 have hne:Lib.itoa n≠[]:=by unfold Lib.itoa;rw[if_neg ω];exact dec_ne _
 cases hx:Lib.itoa n with
 | nil=>exact absurd hx hne
 | cons c x =>
  rw[hx] at h1 h3 hd hi
  simp only[List.all_cons,Bool.and_eq_true] at hd
  show (if letC c=true then _ else _)=_
  rw[if_neg (by rw[dig_let hd.1];decide),if_pos hd.1]
  rw[h1,h3,hi]
theorem text_back (x:List UInt8):∀(a r:List UInt8),textL a (x.flatMap quoteC++34::r)=if 4096<(a++x).length then .error 15 else .ok (a++x,r):=by
 induction x with
 | nil =>
  intro a r
  rw[List.flatMap_nil,List.nil_append,List.append_nil,textL_cons,if_neg π,if_pos π]
 | cons c x ih =>
  intro a r
  have e:a++c::x=(a++[c])++x:=by simp
  rw[List.flatMap_cons,List.append_assoc,e]
  unfold quoteC
  by_cases h1:c.toNat=10
  · obtain rfl:c=10:=UInt8.toNat_inj.1 h1
    rw[if_pos π]
    show textL a (92::110::(x.flatMap quoteC++34::r))=_
    rw[textL_cons,if_neg π,if_neg π,if_pos π]
    exact ih (a++[10]) r
  · rw[if_neg h1]
    by_cases h2:c.toNat=9
    · obtain rfl:c=9:=UInt8.toNat_inj.1 h2
      rw[if_pos π]
      show textL a (92::116::(x.flatMap quoteC++34::r))=_
      rw[textL_cons,if_neg π,if_neg π,if_pos π]
      exact ih (a++[9]) r
    · rw[if_neg h2]
      by_cases h3:c.toNat=34∨c.toNat=92
      · rw[if_pos h3]
        show textL a (92::c::(x.flatMap quoteC++34::r))=_
        rw[textL_cons,if_neg π,if_neg π,if_pos π]
        have hu:unesc c=some c:=by
         rcases h3 with h3|h3
         · obtain rfl:c=34:=UInt8.toNat_inj.1 h3
           rfl
         · obtain rfl:c=92:=UInt8.toNat_inj.1 h3
           rfl
        show (match unesc c with|none=>Except.error 2|some x_1=>textL (a++[x_1]) (x.flatMap quoteC++34::r))=_
        rw[hu]
        exact ih (a++[c]) r
      · rw[if_neg h3]
        show textL a (c::(x.flatMap quoteC++34::r))=_
        rw[textL_cons,if_neg h1,if_neg (fun e=>h3 (.inl e)),if_neg (fun e=>h3 (.inr e))]
        exact ih (a++[c]) r
theorem tok_text {p:Int} {x r:List UInt8} (h:x.length≤4096):tokL p (quoteL x++r)=.ok (⟨3,str x,0,p⟩,r):=by
 have e:quoteL x++r=34::(x.flatMap quoteC++34::r):=by unfold quoteL;simp
 rw[e]
 unfold tokL
 simp only
 rw[if_neg π,if_neg π,if_pos π,text_back,if_neg (by simpa using h)]
 rfl
theorem tok_mrk {p:Int} {x r:List UInt8} (h:markB x=true) (hr:SepB r):tokL p (x++r)=.ok (⟨4,str x,0,p⟩,r):=by
 have hc:∀(y:List UInt8),y.length=1→(∀c,blankC c=true→markB (y++[c])=false)→(∀c,y.head?=some c→letC c=false∧digC c=false∧c.toNat≠34)→markB y=true→tokL p (y++r)=.ok (⟨4,str y,0,p⟩,r):=by
  intro y hy hb hl hm
  match y,hy with
  | [m],_ =>
   obtain⟨l1,l2,l3⟩:=hl m rfl
   show (if letC m=true then _ else if digC m=true then _ else if m.toNat=34 then _ else if 2≤(m::r).length∧markB ((m::r).take 2)=true then _ else if markB ((m::r).take 1)=true then _ else _)=_
   rw[if_neg (by rw[l1];decide),if_neg (by rw[l2];decide),if_neg l3,if_neg,if_pos]
   · rfl
   · exact hm
   · rintro ⟨h1,h2⟩
     cases r with
     | nil=>simp at h1
     | cons c q =>
      have:=hb c (hr c q rfl)
      rw[show (m::c::q).take 2=[m]++[c] from rfl,this] at h2
      cases h2
 have hd:∀(y:List UInt8),y.length=2→(∀c,y.head?=some c→letC c=false∧digC c=false∧c.toNat≠34)→markB y=true→tokL p (y++r)=.ok (⟨4,str y,0,p⟩,r):=by
  intro y hy hl hm
  match y,hy with
  | [m,m2],_ =>
   obtain⟨l1,l2,l3⟩:=hl m rfl
   show (if letC m=true then _ else if digC m=true then _ else if m.toNat=34 then _ else if 2≤(m::m2::r).length∧markB ((m::m2::r).take 2)=true then _ else _)=_
   rw[if_neg (by rw[l1];decide),if_neg (by rw[l2];decide),if_neg l3,if_pos ⟨by simp,hm⟩]
   rfl
 have hm:=h
 unfold markB markWords at h
 simp only[List.contains_cons,List.contains_nil,Bool.or_eq_true,beq_iff_eq,Bool.or_false] at h
 rcases h with rfl|rfl|rfl|rfl|rfl|rfl|rfl|rfl|rfl|rfl|rfl|rfl|rfl|rfl|rfl|rfl|rfl|rfl|rfl|rfl|rfl|rfl|rfl|rfl|rfl|rfl|rfl
 all_goals first
  | exact hc _ rfl (fun c hb=>by rcases blank_cases hb with rfl|rfl|rfl|rfl<;>decide) (fun c e=>by cases e;decide) hm
  | exact hd _ rfl (fun c e=>by cases e;decide) hm
theorem str_list (s:Ê):str s.data.toList=s:=by unfold str;simp
theorem tok_back (t:Tk) (h:tokB t=true) (p:Int) (r:List UInt8) (hr:SepB r):tokL p (wTk t++r)=.ok ({ t with pos:=p },r):=by
 obtain⟨k,s,n,q⟩:=t
 unfold tokB at h
 unfold wTk
 simp only at h ⊢
 by_cases h1:k=1
 · subst h1
   rw[if_pos rfl,Bool.and_eq_true,beq_iff_eq] at h
   rw[if_neg π,if_neg π,tok_name h.1 hr,str_list,h.2]
 · rw[if_neg h1] at h
   by_cases h2:k=2
   · subst h2
     rw[if_pos rfl,Bool.and_eq_true,Bool.and_eq_true,beq_iff_eq,decide_eq_true_eq,decide_eq_true_eq] at h
     obtain⟨⟨h3,h4⟩,h5⟩:=h
     have es:s=e0:=by rw[←str_list s,h3];rfl
     rw[if_pos rfl,tok_int h4 h5 hr,es]
   · rw[if_neg h2] at h
     by_cases h3:k=3
     · subst h3
       rw[if_pos rfl,Bool.and_eq_true,beq_iff_eq,decide_eq_true_eq] at h
       rw[if_neg h2,if_pos rfl,tok_text (by have:=h.1;simpa using this),str_list,h.2]
     · rw[if_neg h3] at h
       by_cases h4:k=4
       · subst h4
         rw[if_pos rfl,Bool.and_eq_true,beq_iff_eq] at h
         rw[if_neg h2,if_neg h3,tok_mrk h.1 hr,str_list,h.2]
       · rw[if_neg h4] at h;cases h
theorem skip_back (t:Tk) (h:tokB t=true) (r:List UInt8) (hr:SepB r):skipL false (wTk t++r)=wTk t++r∧wTk t≠[]:=by
 have key:∀(c:UInt8) (x:List UInt8),blankC c=false→(c.toNat=47→(x++r).head?≠some 47)→skipL false ((c::x)++r)=(c::x)++r:=by
  intro c x h1 h2
  rw[List.cons_append,skipL,if_neg (by rw[h1];decide),if_neg (fun e=>h2 e.1 e.2)]
 have k1:∀x:List UInt8,nameB x=true→skipL false (x++r)=x++r∧x≠[]:=by
  intro x hx
  cases x with
  | nil=>cases hx
  | cons c x =>
   simp only[nameB,Bool.and_eq_true] at hx
   have hl:=hx.1
   unfold letC at hl
   simp only[Bool.or_eq_true,Bool.and_eq_true,decide_eq_true_eq] at hl
   exact⟨key c x (by cases hb:blankC c with|false=>rfl|true=>rcases blank_cases hb with rfl|rfl|rfl|rfl<;>simp at hl) (fun e=>by omega),by simp⟩
 have k2:∀n:Int,0≤n→skipL false (Lib.itoa n++r)=Lib.itoa n++r∧Lib.itoa n≠[]:=by
  intro n hn
  have hd:=itoa_dig n hn
  have hne:Lib.itoa n≠[]:=by unfold Lib.itoa;rw[if_neg ω];exact dec_ne _
  cases hx:Lib.itoa n with
  | nil=>exact absurd hx hne
  | cons c x =>
   rw[hx] at hd
   simp only[List.all_cons,Bool.and_eq_true] at hd
   have hl:=hd.1
   unfold digC at hl
   simp only[Bool.and_eq_true,decide_eq_true_eq] at hl
   exact⟨key c x (by cases hb:blankC c with|false=>rfl|true=>rcases blank_cases hb with rfl|rfl|rfl|rfl<;>simp at hl) (fun e=>by omega),by simp⟩
 have k3:∀x:List UInt8,skipL false (quoteL x++r)=quoteL x++r∧quoteL x≠[]:=by
  intro x
  unfold quoteL
  exact⟨key 34 _ π (fun e=>by simp at e),by simp⟩
 have k4:∀x:List UInt8,markB x=true→skipL false (x++r)=x++r∧x≠[]:=by
  intro x hx
  have hs:∀c q,r=c::q→c.toNat≠47:=fun c q e=>by rcases blank_cases (hr c q e) with rfl|rfl|rfl|rfl<;>decide
  unfold markB markWords at hx
  simp only[List.contains_cons,List.contains_nil,Bool.or_eq_true,beq_iff_eq,Bool.or_false] at hx
  have h47:r.head?≠some 47:=by
   cases r with
   | nil=>simp
   | cons c q=>intro e;injection e with e;subst e;exact hs 47 q rfl π
  rcases hx with rfl|rfl|rfl|rfl|rfl|rfl|rfl|rfl|rfl|rfl|rfl|rfl|rfl|rfl|rfl|rfl|rfl|rfl|rfl|rfl|rfl|rfl|rfl|rfl|rfl|rfl|rfl
  all_goals exact⟨key _ _ π (fun e=>by first|exact h47|(simp at e)),by simp⟩
 obtain⟨k,s,n,q⟩:=t
 unfold tokB at h
 unfold wTk
 simp only at h ⊢
 by_cases h1:k=1
 · subst h1
   rw[if_pos rfl,Bool.and_eq_true] at h
   rw[if_neg π,if_neg π]
   exact k1 _ h.1
 · rw[if_neg h1] at h
   by_cases h2:k=2
   · subst h2
     rw[if_pos rfl,Bool.and_eq_true,Bool.and_eq_true,decide_eq_true_eq] at h
     rw[if_pos rfl]
     exact k2 _ h.1.2
   · rw[if_neg h2] at h
     by_cases h3:k=3
     · subst h3
       rw[if_neg h2,if_pos rfl]
       exact k3 _
     · rw[if_neg h3] at h
       by_cases h4:k=4
       · subst h4
         rw[if_pos rfl,Bool.and_eq_true] at h
         rw[if_neg h2,if_neg h3]
         exact k4 _ h.1
       · rw[if_neg h4] at h;cases h
end
section
open Proofs.Tryz RowKit Maps WideMaps ChangeMaps
theorem tok_pos {p:Int} {l q:List UInt8} {t:Tk} (h:tokL p l=.ok (t,q)):t.pos=p:=by
 unfold tokL at h
 split at h
 · cases h
 · split at h
   · injection h with h;injection h with e1 e2;subst e1;rfl
   · split at h
     · split at h
       · cases h
       · injection h with h;injection h with e1 e2;subst e1;rfl
     · split at h
       · split at h
         · cases h
         · injection h with h;injection h with e1 e2;subst e1;rfl
       · split at h
         · injection h with h;injection h with e1 e2;subst e1;rfl
         · split at h
           · injection h with h;injection h with e1 e2;subst e1;rfl
           · cases h
def LexR.add (ts:List Tk):LexR→LexR
 | .err x p=>.err x p
 | .ok us=>.ok (ts++us)
theorem scanL_step {N n:Nat} {l:List UInt8} {c:UInt8} {r q:List UInt8} {t:Tk} (hs:skipL false l=c::r) (ht:tokL ((N:Int)-((c::r).length:Int)) (c::r)=.ok (t,q)):scanL N (n+1) l=(scanL N n q).add [t]:=by
 rw[scanL,hs]
 show (match tokL ((N:Int)-((c::r).length:Int)) (c::r) with|.error x=>_|.ok (t,q)=>_)=_
 rw[ht]
 show (match scanL N n q with|.err x p=>LexR.err x p|.ok ts=>.ok (t::ts))=_
 cases scanL N n q<;>rfl
theorem scan_inv {N n:Nat} {l:List UInt8} {ts:List Tk} (h:scanL N (n+1) l=.ok ts):(skipL false l=[]∧ts=[])∨∃c r t q us,skipL false l=c::r∧tokL ((N:Int)-((c::r).length:Int)) (c::r)=.ok (t,q)∧scanL N n q=.ok us∧ts=t::us:=by
 rw[scanL] at h
 split at h
 · rename_i hs
   injection h with h
   exact .inl ⟨hs,h.symm⟩
 · rename_i c r hs
   right
   split at h
   · cases h
   · rename_i t q ht
     split at h
     · cases h
     · rename_i us hu
       injection h with h
       exact⟨c,r,t,q,us,hs,ht,hu,h.symm⟩
end
section
open Proofs.Tryz RowKit Maps WideMaps ChangeMaps
def Cl (c c':UInt8):Prop:=c=c'∨(digC c=true∧digC c'=true)
theorem Cl.name {c c':UInt8} (h:Cl c c'):nameC c=nameC c':=by
 rcases h with rfl|⟨h1,h2⟩
 · rfl
 · rw[dig_name h1,dig_name h2]
theorem dig_facts {c:UInt8} (h:digC c=true):blankC c=false∧c.toNat≠47∧c.toNat≠10:=by
 unfold digC at h
 simp only[Bool.and_eq_true,decide_eq_true_eq] at h
 exact⟨by cases hb:blankC c with|false=>rfl|true=>rcases blank_cases hb with rfl|rfl|rfl|rfl<;>simp at h,by omega,by omega⟩
theorem Cl.h47 {c c':UInt8} (h:Cl c c'):c=47↔c'=47:=by
 rcases h with rfl|⟨h1,h2⟩
 · exact Iff.rfl
 · have a:=(dig_facts h1).2.1
   have b:=(dig_facts h2).2.1
   exact⟨fun e=>by subst e;exact absurd rfl a,fun e=>by subst e;exact absurd rfl b⟩
section
variable {c c':UInt8} {u u':List UInt8}
end
end
section
open Proofs.Tryz RowKit Maps WideMaps ChangeMaps
def Gap (g:List UInt8):Prop:=(∀r,skipL false (g++r)=skipL false r)∧∃c q,g=c::q∧blankC c=true
theorem gap_sp:Gap [32]:=⟨fun r=>by show skipL false (32::r)=_;rw[skipL,if_pos π],32,[],rfl,by decide⟩
theorem gap_nl2:Gap [10,10]:=⟨fun r=>by show skipL false (10::10::r)=_;rw[skipL,if_pos π,skipL,if_pos π],10,[10],rfl,by decide⟩
theorem gap_trn:Gap [9,13,10]:=⟨fun r=>by show skipL false (9::13::10::r)=_;rw[skipL,if_pos π,skipL,if_pos π,skipL,if_pos π],9,[13,10],rfl,by decide⟩
theorem gap_com:Gap [32,47,47,32,123,32,41,32,34,10]:=⟨fun r=>by
 show skipL false (32::47::47::32::123::32::41::32::34::10::r)=_
 rw[skipL,if_pos π,skipL,if_neg π,if_pos ⟨by decide,rfl⟩]
 iterate 7 rw[skipL,if_neg π]
 rw[skipL,if_pos π],32,[47,47,32,123,32,41,32,34,10],rfl,by decide⟩
theorem Gap.sep {g:List UInt8} (h:Gap g) (r:List UInt8):SepB (g++r):=by
 obtain⟨c,q,rfl,hc⟩:=h.2
 intro c' q' e
 injection e with e1 e2
 rw[←e1];exact hc
def posG (g:List UInt8):Int→List Tk→List Tk
 | _,[]=>[]
 | o,t::r=>{ t with pos:=o }::posG g (o+(wTk t).length+g.length) r
def gapW (g:List UInt8) (ts:List Tk):List UInt8:=ts.flatMap fun t=>wTk t++g
theorem scan_gap {g:List UInt8} (hg:Gap g) {N:Nat}:∀(ts:List Tk) (n:Nat) (l:List UInt8),(∀t∈ts,tokB t=true)→skipL false l=skipL false (gapW g ts)→ts.length<n→scanL N n l=.ok (posG g ((N:Int)-(gapW g ts).length) ts)
 | [],0,l,_,_,hn=>absurd hn (Nat.not_lt_zero _)
 | [],n+1,l,_,hs,_=>by rw[scanL,hs];rfl
 | t::ts,0,l,_,_,hn=>absurd hn (Nat.not_lt_zero _)
 | t::ts,n+1,l,ht,hs,hn=>by
  have h1:=ht t (List.mem_cons_self ..)
  have e:gapW g (t::ts)=wTk t++(g++gapW g ts):=by unfold gapW;rw[List.flatMap_cons,List.append_assoc]
  obtain⟨h2,hne⟩:=skip_back t h1 (g++gapW g ts) (hg.sep _)
  rw[e,h2] at hs
  cases hw:wTk t++(g++gapW g ts) with
  | nil=>exact absurd (List.append_eq_nil_iff.1 hw).1 hne
  | cons c r =>
   rw[hw] at hs
   have htk:=tok_back t h1 ((N:Int)-((c::r).length:Int)) _ (hg.sep (gapW g ts))
   rw[hw] at htk
   rw[scanL_step hs htk,scan_gap hg ts n _ (fun x hx=>ht x (List.mem_cons_of_mem _ hx)) (hg.1 _) (by simp at hn;omega)]
   have hl:=congrArg List.length hw
   simp only[List.length_append] at hl
   have e3:(N:Int)-((gapW g ts).length:Int)=((N:Int)-((c::r).length:Int))+((wTk t).length:Int)+(g.length:Int):=by omega
   rw[e,hw,e3]
   rfl
theorem int_good {l:List UInt8} {n:Int} (h:intL l=.ok n):0≤n∧n≤9007199254740992:=by
 unfold intL at h
 split at h
 · cases h
 · split at h
   · cases h
   · split at h
     · cases h
     · rename_i hn
       injection h with h
       subst h
       exact numP_range hn
theorem tok_good {p:Int} {l q:List UInt8} {t:Tk} (h:tokL p l=.ok (t,q)):tokB t=true:=by
 have hs:∀l:List UInt8,(str l).data.toList=l:=fun l=>by unfold str;simp
 unfold tokL at h
 split at h
 · cases h
 · rename_i c r
   split at h
   · rename_i hc
     injection h with h;injection h with e1 e2
     subst e1
     unfold tokB
     simp only[if_true]
     rw[hs,List.takeWhile_cons,if_pos (let_name hc)]
     unfold nameB
     simp only[hc,Bool.true_and,List.all_cons,let_name hc,beq_self_eq_true,Bool.and_true]
     exact List.all_takeWhile
   · split at h
     · split at h
       · cases h
       · rename_i hi
         injection h with h;injection h with e1 e2
         subst e1
         have:=int_good hi
         unfold tokB
         simp[e0,this]
     · split at h
       · split at h
         · cases h
         · rename_i a q2 ht
           injection h with h;injection h with e1 e2
           subst e1
           have:=text_len _ _ _ _ ht
           have e:(str a).size=a.length:=by unfold str;simp[ByteArray.size]
           unfold tokB
           simp only
           rw[if_neg π,if_neg π,if_pos π,e,decide_eq_true this];rfl
       · split at h
         · rename_i hm
           injection h with h;injection h with e1 e2
           subst e1
           have:=hm.2
           unfold tokB
           simp only
           rw[if_neg π,if_neg π,if_neg π,if_pos π,hs,this];rfl
         · split at h
           · rename_i hm
             injection h with h;injection h with e1 e2
             subst e1
             unfold tokB
             simp only
             rw[if_neg π,if_neg π,if_neg π,if_pos π,hs,hm];rfl
           · cases h
theorem scan_good {N:Nat}:∀(n:Nat) (l:List UInt8) (ts:List Tk),scanL N n l=.ok ts→∀t∈ts,tokB t=true
 | 0,l,ts,h=>by cases h
 | n+1,l,ts,h=>by
  rcases scan_inv h with ⟨_,rfl⟩|⟨c,r,t,q,us,h0,ht,hq,rfl⟩
  · intro t h;cases h
  · intro x hx
    rcases List.mem_cons.1 hx with rfl|hx
    · exact tok_good ht
    · exact scan_good n q us hq x hx
end
section
open Proofs.Tryz RowKit Maps WideMaps ChangeMaps
mutual
theorem smN_mv (φ:Int→Int):∀a:Nd,smN a (a.mv φ)=true
 | .mk k s n p l=>by rw[Nd.mv,smN,smL_mv φ l];simp
theorem smL_mv (φ:Int→Int):∀l:List Nd,smL l (mvL φ l)=true
 | []=>by rw[mvL,smL]
 | a::l=>by rw[mvL,smL,smN_mv φ a,smL_mv φ l];rfl
end
mutual
theorem deep_mv (φ:Int→Int):∀(d:Nat) (a:Nd),deepP d (a.mv φ)=(deepP d a).map φ
 | d,.mk k s n p l=>by
  rw[Nd.mv,deepP,deepP]
  split
  · rfl
  · exact deepL_mv φ (d+1) l
theorem deepL_mv (φ:Int→Int):∀(d:Nat) (l:List Nd),deepL d (mvL φ l)=(deepL d l).map φ
 | d,[]=>by rw[mvL,deepL];rfl
 | d,x::l=>by
  rw[mvL,deepL,deepL,deep_mv φ d x,deepL_mv φ d l]
  cases deepP d x<;>rfl
end
theorem off_mv {φ:Int→Int} {e e':Int} (h:e'=φ e) (r:List Tk):offP e' (r.map (mvT φ))=φ (offP e r):=by
 cases r with
 | nil=>exact h
 | cons t r=>rfl
theorem scan_lt {N:Nat}:∀(n:Nat) (l:List UInt8) (ts:List Tk),scanL N n l=.ok ts→∀t∈ts,t.pos<N
 | 0,l,ts,h=>by rw[scanL] at h;cases h
 | n+1,l,ts,h=>by
  rcases scan_inv h with ⟨_,rfl⟩|⟨c,r,t,q,us,_,ht,hq,rfl⟩
  · intro t ht;cases ht
  · intro x hx
    rcases List.mem_cons.1 hx with rfl|hx
    · rw[tok_pos ht];simp only[List.length_cons];omega
    · exact scan_lt n q us hq x hx
theorem scanP_of {l:List UInt8} (h:l.length≤32768):scanP l=scanL l.length (l.length+1) l:=by unfold scanP;rw[if_neg ω]
theorem deep_top (q:List Nd):deepP 0 (.mk 1 e0 0 0 q)=deepL 1 q:=by rw[deepP,if_neg ω]
end
section
open Proofs.Tryz RowKit Maps WideMaps ChangeMaps
theorem runP_errs {b:Bool} {l:List UInt8} {x p:Int} (h:runP b l=.err x p):x≠0:=by
 cases hs:scanP l with
 | err y q=>rw[run_err hs] at h;injection h with h1 h2;rw[←h1];exact scanP_errs hs
 | ok ts =>
  rw[run_ok hs] at h
  cases hp:progP (l.length:Int) b (20*ts.length+1) (ts.length+1) ts with
  | out=>exact absurd hp prog_in
  | bad r=>rw[hp] at h;injection h with h1 h2;rw[←h1];decide
  | ok q r =>
   rw[hp] at h
   cases hd:deepP 0 (.mk 1 e0 0 0 q) with
   | some p=>rw[fin_deep hd] at h;injection h with h1 h2;rw[←h1];decide
   | none=>rw[fin_ok hd] at h;cases h
def RunU (w:À) (R:RunR) (e:Ending) (w':À):Prop:=
 ∃k s n p D l c a x q,e=.returned (.tuple #[.agg (cl k s n p D l c).toArray,.int .i64 x,.int .i64 q])∧Below w.heap.size w w'∧NdR w' (lo w') (cl k s n p D l c) a∧((R=.err x q∧x≠0∧a=.mk 0 e0 0 0 [])∨(R=.ok a∧x=0))
theorem run_uni {b:Bool} {f:FuncId} {s:Ê} {w:À} (h:Calls prog f #[.string s] w (RunV w (runP b s.data.toList))):Calls prog f #[.string s] w (RunU w (runP b s.data.toList)):=by
 refine h.mono fun e w' h=>?_
 cases hR:runP b s.data.toList with
 | err x p =>
  rw[hR] at h
  obtain⟨he,hb⟩:=h
  exact⟨0,e0,0,0,none,0,0,.mk 0 e0 0 0 [],x,p,he,hb,NdR.of ⟨by unfold i64;decide,by unfold i64;decide,by unfold i64;decide⟩ π SlR.nil,.inl ⟨rfl,runP_errs hR,rfl⟩⟩
 | ok n =>
  rw[hR] at h
  obtain⟨k,s,m,p,D,l,c,he,hb,hn⟩:=h
  exact⟨k,s,m,p,D,l,c,n,0,0,he,hb,hn.to fun b hb=>⟨hb.2,rfl⟩,.inr ⟨rfl,rfl⟩⟩
def ScU (w:À) (R:LexR) (e:Ending) (w':À):Prop:=
 ∃A cap ts x p,e=.returned (.tuple #[.slice A (ts:List Tk).length cap,.int .i64 x,.int .i64 p])∧Below w.heap.size w w'∧SlR w' (lo w') 4 TkR (.slice A ts.length cap) ts∧((R=.err x p∧x≠0∧ts=[])∨(R=.ok ts∧x=0))
theorem scan_uni (s:Ê) (w:À) (hs:s.size≤maxLen):Calls prog 22 #[.string s] w (ScU w (scanP s.data.toList)):=by
 refine (scan_any s w hs).mono fun e w' h=>?_
 cases hR:scanP s.data.toList with
 | err x p =>
  rw[hR] at h
  obtain⟨he,hb⟩:=h
  exact⟨none,0,[],x,p,he,hb,SlR.nil,.inl ⟨rfl,scanP_errs hR,rfl⟩⟩
 | ok ts =>
  rw[hR] at h
  obtain⟨A,cap,he,hb,hn⟩:=h
  exact⟨A,cap,ts,0,0,he,hb,hn.to' (fun b hb=>⟨hb.2,rfl⟩) (fun _ _ x=>x),.inr ⟨rfl,rfl⟩⟩
end
section
open Proofs.Tryz RowKit Maps WideMaps ChangeMaps
theorem scan_low {N:Nat}:∀(n:Nat) (l:List UInt8) (ts:List Tk),scanL N n l=.ok ts→∀t∈ts,(N:Int)-l.length≤t.pos
 | 0,l,ts,h=>by rw[scanL] at h;cases h
 | n+1,l,ts,h=>by
  rcases scan_inv h with ⟨_,rfl⟩|⟨c,r,t,q,us,h0,ht,hq,rfl⟩
  · intro t ht;cases ht
  · have h1:=skip_le false l
    rw[h0] at h1
    have h2:=tok_less ht
    intro x hx
    rcases List.mem_cons.1 hx with rfl|hx
    · rw[tok_pos ht];simp only[List.length_cons] at h1 ⊢;omega
    · have:=scan_low n q us hq x hx;omega
theorem scan_inc {N:Nat}:∀(n:Nat) (l:List UInt8) (ts:List Tk),scanL N n l=.ok ts→ts.Pairwise (fun a b=>a.pos<b.pos)
 | 0,l,ts,h=>by rw[scanL] at h;cases h
 | n+1,l,ts,h=>by
  rcases scan_inv h with ⟨_,rfl⟩|⟨c,r,t,q,us,h0,ht,hq,rfl⟩
  · exact List.Pairwise.nil
  · have h2:=tok_less ht
    refine List.Pairwise.cons (fun x hx=>?_) (scan_inc n q us hq)
    have:=scan_low n q us hq x hx
    rw[tok_pos ht];omega
theorem tok_len {p:Int} {l q:List UInt8} {t:Tk} (h:tokL p l=.ok (t,q)):t.kind=1→t.text.size≤l.length:=by
 unfold tokL at h
 cases l with
 | nil=>cases h
 | cons c r =>
  simp only at h
  split at h
  · injection h with h;injection h with e1 e2
    subst e1
    intro _
    show (str _).size≤_
    simp only[str,ByteArray.size,List.size_toArray]
    exact (List.takeWhile_sublist _).length_le
  · split at h
    · split at h
      · cases h
      · injection h with h;injection h with e1 e2
        subst e1
        intro e;cases e
    · split at h
      · split at h
        · cases h
        · injection h with h;injection h with e1 e2
          subst e1
          intro e;cases e
      · split at h
        · injection h with h;injection h with e1 e2
          subst e1
          intro e;cases e
        · split at h
          · injection h with h;injection h with e1 e2
            subst e1
            intro e;cases e
          · cases h
theorem scan_txt {N:Nat}:∀(n:Nat) (l:List UInt8) (ts:List Tk),scanL N n l=.ok ts→∀t∈ts,t.kind=1→t.text.size≤l.length
 | 0,l,ts,h=>by rw[scanL] at h;cases h
 | n+1,l,ts,h=>by
  rcases scan_inv h with ⟨_,rfl⟩|⟨c,r,t,q,us,h0,ht,hq,rfl⟩
  · intro t ht;cases ht
  · have h1:=skip_le false l
    rw[h0] at h1
    have h2:=tok_less ht
    intro x hx hk
    rcases List.mem_cons.1 hx with rfl|hx
    · exact Nat.le_trans (tok_len ht hk) h1
    · have:=scan_txt n q us hq x hx hk;omega
theorem quoteC_le (c:UInt8):(quoteC c).length≤2:=by unfold quoteC;split<;>(try split)<;>(try split)<;>simp
theorem quote_len:∀l:List UInt8,(l.flatMap quoteC).length≤2*l.length
 | []=>by simp
 | c::l=>by
  have h1:=quoteC_le c
  have h2:=quote_len l
  rw[List.flatMap_cons,List.length_append,List.length_cons];omega
theorem wTk_len {t:Tk} (h:tokB t=true) {N:Nat} (hn:t.kind=1→t.text.size≤N):(wTk t).length≤N+8194:=by
 unfold tokB at h
 unfold wTk
 split at h
 · rename_i hk
   rw[if_neg ω,if_neg ω]
   have:=hn hk
   have e:t.text.data.toList.length=t.text.size:=by simp
   omega
 · split at h
   · rename_i hk
     rw[if_pos hk]
     simp only[Bool.and_eq_true,decide_eq_true_eq] at h
     have:=Lib.itoa_length_le t.n ω ω
     omega
   · split at h
     · rename_i hk
       rw[if_neg ω,if_pos hk]
       simp only[Bool.and_eq_true,decide_eq_true_eq] at h
       have e:t.text.data.toList.length=t.text.size:=by simp
       have:=quote_len t.text.data.toList
       unfold quoteL
       simp only[List.length_cons,List.length_append,List.length_nil]
       omega
     · split at h
       · rename_i hk
         rw[if_neg ω,if_neg ω]
         simp only[Bool.and_eq_true] at h
         have hm:=h.1
         unfold markB at hm
         have:∀x∈markWords,x.length≤2:=by decide
         have:=this _ (List.contains_iff_mem.1 hm)
         omega
       · cases h
theorem one_tk {ts:List Tk} {j:Nat} (h:j<ts.length):(ts.take (j+1)).drop j=[ts[j]]:=by
 rw[List.drop_take,show j+1-j=1 from by omega,List.drop_eq_getElem_cons h,List.take_succ_cons,List.take_zero]
theorem wTks_one (t:Tk) (h:tokB t=true):writeL [t]=wTk t:=by
 unfold writeL
 rw[List.all_cons,h];rfl
end
section
open Proofs.Tryz RowKit Maps WideMaps ChangeMaps
theorem posG_len (g:List UInt8):∀(o:Int) (ts:List Tk),(posG g o ts).length=ts.length
 | _,[]=>rfl
 | o,t::r=>by rw[posG,List.length_cons,posG_len g _ r,List.length_cons]
theorem posG_at (g:List UInt8):∀(o:Int) (ts:List Tk) (i:Nat) (h:i<ts.length) (h':i<(posG g o ts).length),(posG g o ts)[i]={ ts[i] with pos:=o+((gapW g (ts.take i)).length:Int) }
 | o,t::r,0,h,h'=>by
  show ({ t with pos:=o }:Tk)={ t with pos:=o+((gapW g []).length:Int) }
  rw[show ((gapW g []).length:Int)=0 from rfl,Int.add_zero]
 | o,t::r,i+1,h,h'=>by
  have h2:i<r.length:=by simpa using h
  have ih:=posG_at g (o+(wTk t).length+g.length) r i h2 (by rw[posG_len];exact h2)
  show (posG g (o+(wTk t).length+g.length) r)[i]'_=({ r[i] with pos:=o+((gapW g (t::r.take i)).length:Int) }:Tk)
  rw[ih]
  have e:((gapW g (t::r.take i)).length:Int)=(wTk t).length+g.length+(gapW g (r.take i)).length:=by
   unfold gapW
   rw[List.flatMap_cons,List.length_append,List.length_append];omega
  rw[e]
  simp only[Tk.mk.injEq,true_and];omega
def gapF (g:List UInt8) (ts:List Tk) (p:Int):Int:=((g.length+(gapW g (ts.take (ts.findIdx (fun t=>t.pos==p)))).length:Nat):Int)
theorem gapF_at {g:List UInt8} {ts:List Tk} (h:ts.Pairwise (fun a b=>a.pos<b.pos)) {i:Nat} (hi:i<ts.length):gapF g ts ts[i].pos=((g.length+(gapW g (ts.take i)).length:Nat):Int):=by
 unfold gapF
 rw[(List.findIdx_eq hi).2 ⟨by simp,fun j hj=>by
  have:=List.pairwise_iff_getElem.1 h j i ω hi hj
  simp only[beq_eq_false_iff_ne];omega⟩]
theorem gapF_no {g:List UInt8} {ts:List Tk} {p:Int} (h:∀t∈ts,t.pos≠p):gapF g ts p=((g++gapW g ts).length:Int):=by
 unfold gapF
 rw[List.findIdx_eq_length.2 (fun t ht=>by simp only[beq_eq_false_iff_ne];exact h t ht),List.take_length,List.length_append]
theorem gap_map {g:List UInt8} {ts:List Tk} (h:ts.Pairwise (fun a b=>a.pos<b.pos)):ts.map (mvT (gapF g ts))=posG g (g.length:Int) ts:=by
 apply List.ext_getElem
 · rw[List.length_map,posG_len]
 · intro i h1 h2
   rw[List.length_map] at h1
   rw[List.getElem_map,posG_at g _ ts i h1]
   show Tk.mk _ _ _ (gapF g ts ts[i].pos)=Tk.mk _ _ _ _
   rw[gapF_at h h1]
   congr 1
theorem blanks_law (l g:List UInt8) (hg:Gap g) (hl:l.length≤2000) (ts:List Tk) (hs:scanP l=.ok ts) (hT:(g++gapW g ts).length≤32768) :
 (∃a b,runP true l=.ok a∧runP true (g++gapW g ts)=.ok b∧smN a b=true) ∨
 ∃x p q,runP true l=.err x p∧runP true (g++gapW g ts)=.err x q∧x≠0∧((∀t∈ts,t.pos≠p)→p=l.length∧q=((g++gapW g ts).length:Int))∧∀(i:Nat) (h:i<ts.length),ts[i].pos=p→q=((g.length+(gapW g (ts.take i)).length:Nat):Int):=by
 have hs0:=hs
 rw[scanP_of ω] at hs
 have hinc:=scan_inc _ _ _ hs
 have hlt:=scan_lt _ _ _ hs
 have hgood:=scan_good _ _ _ hs
 have hlen:∀ts:List Tk,(∀t∈ts,tokB t=true)→ts.length≤(gapW g ts).length:=fun ts=>by
  induction ts with
  | nil=>intro _;exact Nat.zero_le _
  | cons t r ih =>
   intro h
   have h1:=ih (fun x hx=>h x (List.mem_cons_of_mem _ hx))
   have h2:=(skip_back t (h t (List.mem_cons_self ..)) [] (fun c q e=>by cases e)).2
   have h3:0<(wTk t).length:=List.length_pos_iff.2 h2
   unfold gapW at h1 ⊢
   rw[List.flatMap_cons,List.length_append,List.length_append,List.length_cons]
   omega
 have hTs:scanP (g++gapW g ts)=.ok (posG g (g.length:Int) ts):=by
  rw[scanP_of hT,scan_gap hg ts _ _ hgood (hg.1 _) (by have:=hlen ts hgood;rw[List.length_append];omega)]
  congr 2
  rw[List.length_append];omega
 have e2:((g++gapW g ts).length:Int)=gapF g ts (l.length:Int):=(gapF_no (fun t ht=>by have:=hlt t ht;omega)).symm
 have r1:=run_ok (patch:=true) hs0
 have r2:=run_ok (patch:=true) hTs
 rw[posG_len,←gap_map hinc] at r2
 have nat:=prog_nat (φ:=gapF g ts) e2 true (Nat.le_refl (20*ts.length+1)) (ts.length+1) (ts.length+1) ts (Nat.le_refl _)
 -- offsets are those of tokens, or the end
 have nat2:=prog_nat (φ:=fun p=>if p=(l.length:Int)∨∃t∈ts,t.pos=p then p else p+1) (e:=(l.length:Int)) (e':=(l.length:Int)) (by rw[if_pos (.inl rfl)]) true (Nat.le_refl (20*ts.length+1)) (ts.length+1) (ts.length+1) ts (Nat.le_refl _)
 have mid:ts.map (mvT (fun p=>if p=(l.length:Int)∨∃t∈ts,t.pos=p then p else p+1))=ts:=by
  conv=>rhs;rw[←List.map_id ts]
  apply List.map_congr_left
  intro x hx
  show Tk.mk _ _ _ (if x.pos=(l.length:Int)∨∃t∈ts,t.pos=x.pos then _ else _)=x
  rw[if_pos (.inr ⟨x,hx,rfl⟩)]
 rw[mid] at nat2
 have last:∀(x p:Int),(p=(l.length:Int)∨∃t∈ts,t.pos=p)→x≠0→runP true l=.err x p→runP true (g++gapW g ts)=.err x (gapF g ts p)→∃x p q,runP true l=.err x p∧runP true (g++gapW g ts)=.err x q∧x≠0∧((∀t∈ts,t.pos≠p)→p=l.length∧q=((g++gapW g ts).length:Int))∧∀(i:Nat) (h:i<ts.length),ts[i].pos=p→q=((g.length+(gapW g (ts.take i)).length:Nat):Int):=fun x p hp hx h1 h2 =>
  ⟨x,p,_,h1,h2,hx,fun h=>by
   rcases hp with hp|⟨t,ht,e⟩
   · exact⟨hp,gapF_no h⟩
   · exact absurd e (h t ht),fun i hi e=>by rw[←e];exact gapF_at hinc hi⟩
 cases hp:progP (l.length:Int) true (20*ts.length+1) (ts.length+1) ts with
 | out=>exact absurd hp prog_in
 | bad r =>
  right
  rw[hp] at nat r1
  have nat:progP _ true (20*ts.length+1) (ts.length+1) (ts.map (mvT (gapF g ts)))=.bad (r.map (mvT (gapF g ts))):=nat
  rw[nat] at r2
  refine last 2 (offP (l.length:Int) r) ?_ π r1 (r2.trans ?_)
  · cases r with
    | nil=>exact .inl rfl
    | cons t r=>exact .inr ⟨t,(((prog_suf (l.length:Int) true (20*ts.length+1) (ts.length+1)).h ts).2 _ hp).subset (List.mem_cons_self ..),rfl⟩
  · show RunR.err 2 (offP _ (r.map (mvT (gapF g ts))))=_
    rw[off_mv e2]
 | ok q r =>
  rw[hp] at nat r1 nat2
  have nat:progP _ true (20*ts.length+1) (ts.length+1) (ts.map (mvT (gapF g ts)))=.ok (mvL (gapF g ts) q) (r.map (mvT (gapF g ts))):=nat
  rw[nat] at r2
  cases hd:deepL 1 q with
  | none =>
   left
   rw[fin_ok (by rw[deep_top];exact hd)] at r1
   rw[fin_ok (by rw[deep_top,deepL_mv,hd];rfl)] at r2
   refine⟨_,_,r1,r2,?_⟩
   rw[smN,smL_mv];simp
  | some p =>
   right
   have nat2:Re.ok q r=.ok (mvL _ q) (r.map _):=nat2
   injection nat2 with n1 _
   have n2:=deepL_mv (fun p=>if p=(l.length:Int)∨∃t∈ts,t.pos=p then p else p+1) 1 q
   rw[←n1,hd] at n2
   have n2:some p=some (if p=(l.length:Int)∨∃t∈ts,t.pos=p then p else p+1):=n2
   injection n2 with n2
   refine last 10 p ?_ π (r1.trans (fin_deep (by rw[deep_top];exact hd))) (r2.trans (fin_deep (by rw[deep_top,deepL_mv,hd];rfl)))
   by_cases hc:p=(l.length:Int)∨∃t∈ts,t.pos=p
   · exact hc
   · rw[if_neg hc] at n2;omega
end
section
open Proofs.Tryz RowKit Maps WideMaps ChangeMaps
section
variable {e:Int}
end
end
section
open Proofs.Tryz RowKit Maps WideMaps ChangeMaps
theorem str_app (a b:List UInt8):str a++str b=str (a++b):=by
 apply ByteArray.ext
 rw[ByteArray.data_append]
 simp[str]
theorem str_size (a:List UInt8):(str a).size=a.length:=by simp[str,ByteArray.size]
theorem str_data (a:List UInt8):(str a).data.toList=a:=by simp[str]
end
section
open Proofs.Tryz RowKit Maps WideMaps ChangeMaps
theorem and3 (b:Int):∃m:Nat,m<4∧bits .and .i64 b 3=(m:Int):=by
 have h:bits .and .i64 b 3=IntKind.i64.wrap ((BitVec.ofInt 64 b &&& BitVec.ofInt 64 3).toNat:Int):=rfl
 have h3:(BitVec.ofInt 64 b &&& BitVec.ofInt 64 3).toNat≤3:=by
  rw[BitVec.toNat_and]
  exact Nat.and_le_right
 refine⟨(BitVec.ofInt 64 b &&& BitVec.ofInt 64 3).toNat,by omega,?_⟩
 rw[h,IntKind.wrap_i64]
 omega
def gpS (g:List UInt8) (ts:List Tk) (j:Nat):Ê:=str (g++gapW g (ts.take j))
theorem gapW_snoc (g:List UInt8) {ts:List Tk} {j:Nat} (h:j<ts.length):gapW g (ts.take (j+1))=gapW g (ts.take j)++(wTk ts[j]++g):=by
 rw[List.take_succ_eq_append_getElem h]
 unfold gapW
 rw[List.flatMap_append,List.flatMap_cons,List.flatMap_nil,List.append_nil]
theorem gpS_next {g:Ê} {ts:List Tk} {j:Nat} (h:j<ts.length):(gpS g.data.toList ts j++⟨(wTk ts[j]).toArray⟩)++g=gpS g.data.toList ts (j+1):=by
 have e:g=str g.data.toList:=by simp[str]
 conv=>lhs;rw[e]
 show (gpS _ ts j++str (wTk ts[j]))++str _=_
 rw[str_data]
 unfold gpS
 rw[str_app,str_app,gapW_snoc _ h]
 simp only[List.append_assoc]
theorem gpS_size (g:List UInt8) (ts:List Tk) (j:Nat):(gpS g ts j).size=g.length+(gapW g (ts.take j)).length:=by
 unfold gpS;rw[str_size,List.length_append]
theorem gap_le {g:List UInt8} {ts:List Tk} {N:Nat} (h:∀t∈ts,(wTk t).length≤N):(gapW g ts).length≤ts.length*(N+g.length):=by
 induction ts with
 | nil=>simp[gapW]
 | cons t r ih =>
  have h1:=ih (fun x hx=>h x (List.mem_cons_of_mem _ hx))
  have h2:=h t (List.mem_cons_self ..)
  unfold gapW at h1 ⊢
  rw[List.flatMap_cons,List.length_append,List.length_append,List.length_cons,Nat.add_mul]
  omega
theorem scan_num {N:Nat}:∀(n:Nat) (l:List UInt8) (ts:List Tk),scanL N n l=.ok ts→ts.length≤l.length
 | 0,l,ts,h=>by rw[scanL] at h;cases h
 | n+1,l,ts,h=>by
  rcases scan_inv h with ⟨_,rfl⟩|⟨c,r,t,q,us,h0,ht,hq,rfl⟩
  · exact Nat.zero_le _
  · have h1:=skip_le false l
    rw[h0] at h1
    have h2:=tok_less ht
    have:=scan_num n q us hq
    simp only[List.length_cons] at h2 h1 ⊢;omega
theorem info_3:(prog.info? 3).map (fun i=>(i.zero,i.size,i.bytes))=some (some (.int .i64 0),1,8):=by kernel_rfl
set_option maxRecDepth 100000 in
set_option maxHeartbeats 8000000 in
theorem blanks_walk (s:ByteArray) (b:Int) (w:World) (hs:s.size≤maxLen) (hb:i64 b) (ht:Tab w):Calls Tryz.prog 5 #[.string s,.int .i64 b] w (EqSaid true w):=by
 have HT:=Lib.hid ht
 have HS:=Lib.hid hs
 have HI:=Lib.hid hb
 clear ht hs hb
 go_enter Tryz.func5,Tryz.ntmps5
 by_cases hl:2000<s.size
 · have u0:decide ((2000:Int)<(s.size:Int))=true:=decide_eq_true (by omega)
   go_wp2_with fail
   refine (small_any w HT.out).mono ?_
   rintro _ X1 ⟨rfl,hb1⟩
   have HB:=Lib.hid hb1
   clear hb1
   go_wp2_with fail
   go_ret
   exact⟨rfl,HB.out⟩
 have u0:decide ((2000:Int)<(s.size:Int))=false:=decide_eq_false (by omega)
 go_wp2_with fail
 refine (small_any w HT.out).mono ?_
 rintro _ X1 ⟨rfl,hb1⟩
 have HB:=Lib.hid hb1
 clear hb1
 go_upto_region 5 with (fail)
 obtain⟨Y1,hY1⟩:∃q,Hid (q=X1.alloc (.cells #[.string ⟨#[32]⟩,.string ⟨#[9,13,10]⟩,.string ⟨#[32,47,47,32,123,32,41,32,34,10]⟩,.string ⟨#[10,10]⟩] 9)):=⟨_,Lib.hid rfl⟩
 have by1:Below X1.heap.size X1 Y1:=by rw[hY1.out];exact belA (belR _) _
 have HX:Hs Y1 X1.heap.size 9 #[.string ⟨#[32]⟩,.string ⟨#[9,13,10]⟩,.string ⟨#[32,47,47,32,123,32,41,32,34,10]⟩,.string ⟨#[10,10]⟩]:=by rw[hY1.out];exact Hs.new _ _ _
 have c0:Y1.cell? ⟨X1.heap.size,0,none⟩=some (.string ⟨#[32]⟩):=HX.c 0
 have c1:Y1.cell? ⟨X1.heap.size,1,none⟩=some (.string ⟨#[9,13,10]⟩):=HX.c 1
 have c2:Y1.cell? ⟨X1.heap.size,2,none⟩=some (.string ⟨#[32,47,47,32,123,32,41,32,34,10]⟩):=HX.c 2
 have c3:Y1.cell? ⟨X1.heap.size,3,none⟩=some (.string ⟨#[10,10]⟩):=HX.c 3
 replace HB:=Lib.hid (bel HB.out by1)
 rw[←hY1.out]
 clear hY1 by1 HX
 obtain⟨m,hm4,hm⟩:=and3 b
 obtain⟨gp,hgp,hG,hgs⟩:∃gp:ByteArray,Y1.cell? ⟨X1.heap.size,m,none⟩=some (.string gp)∧Gap gp.data.toList∧gp.size≤10:=by
  have hc:m=0∨m=1∨m=2∨m=3:=by omega
  rcases hc with rfl|rfl|rfl|rfl
  · exact⟨_,c0,gap_sp,by decide⟩
  · exact⟨_,c1,gap_trn,by decide⟩
  · exact⟨_,c2,gap_com,by decide⟩
  · exact⟨_,c3,gap_nl2,by decide⟩
 have HG:=Lib.hid hG
 have HGS:=Lib.hid hgs
 have j0:(0:Int)≤(m:Int):=by omega
 have j1:(m:Int)<4:=by omega
 clear c0 c1 c2 c3 hG hgs
 go_wp2_with fail
 refine (scan_uni s Y1 HS.out).mono ?_
 rintro _ X2 ⟨A,cap,ts,x1,p1,rfl,hb2,hn1,hr1⟩
 replace HB:=Lib.hid (bel HB.out hb2)
 have HT2:=Lib.hid hn1
 have R1:=Lib.hid hr1
 clear hb2 hn1 hr1 hgp hm hm4 j0 j1
 by_cases hx1:x1=0
 · have hok:scanP s.data.toList=.ok ts:=by
    rcases R1.out with ⟨_,h,_⟩|⟨h,_⟩
    · exact absurd hx1 h
    · exact h
   subst hx1
   have sl:s.data.toList.length=s.size:=by simp
   have hoks:=hok
   rw[scanP_of (by omega)] at hoks
   have lm:ts.length≤9223372036854775807:=HT2.out.len.2
   have hgood:=scan_good _ _ _ hoks
   have hnum:=scan_num _ _ _ hoks
   have hwl:∀t∈ts,(wTk t).length≤10194:=fun t ht=>by
    have:=wTk_len (hgood t ht) (scan_txt _ _ _ hoks t ht);omega
   have gl:gp.data.toList.length=gp.size:=by simp
   have hn2:ts.length≤2000:=by omega
   have SZ:Hid (∀j,j≤ts.length→(gpS gp.data.toList ts j).size≤20500000):=fun j hj=>by
    have h1:=gap_le (g:=gp.data.toList) (ts:=ts.take j) (fun t ht=>hwl t (List.mem_of_mem_take ht))
    rw[gpS_size,gl]
    have h2:(ts.take j).length≤2000:=by rw[List.length_take];omega
    have h3:=HGS.out
    have h4:(ts.take j).length*(10194+gp.data.toList.length)≤2000*10204:=Nat.mul_le_mul h2 (by omega)
    omega
   have OK:=Lib.hid hok
   have GOOD:=Lib.hid hgood
   have WL:=Lib.hid hwl
   obtain⟨io,hio,hiz,his,hib⟩:=info_parts info_3
   have HIO:=Lib.hid (And.intro hio (And.intro hiz (And.intro his hib)))
   have hsz0:gpS gp.data.toList ts 0=gp:=by unfold gpS gapW;simp[str]
   have GP0:=Lib.hid hsz0
   clear hok hoks hgood hwl hio hiz his hib hnum R1 sl gl hsz0
   go_wp2_with fail
   go_loopw [11,12,13] (fun t v i wr=>∃(j:Nat) (xs:List Value),j≤ts.length∧i=.int .i64 j∧t=.string (gpS gp.data.toList ts j)∧Hid (wr.ownsRow X2.heap.size 3 1 v j xs)∧Hid (∀k,k<j→xs[k]?=some (.int .i64 ((gpS gp.data.toList ts k).size:Int)))∧Hid (xs.length=j)∧Hid (Below X2.heap.size X2 wr)) (fun t v i _=>ts.length-(intOf i).toNat)
   case atStart=>exact⟨0,[],by omega,rfl,by rw[GP0.out],⟨rfl,.inl ⟨rfl,rfl⟩⟩,Lib.hid (fun k h=>absurd h (by omega)),Lib.hid rfl,Below.refl _ _⟩
   case round =>
    obtain⟨j,xs,hj,rfl,rfl,HO,HX,HXL,HW⟩:=hrel
    by_cases hlt:j<ts.length
    · have v1:decide ((j:Int)<(ts.length:Int))=true:=decide_eq_true (by omega)
      obtain⟨Ar,cr,rfl⟩:=row_form HO.out
      obtain⟨g,off,cs,rfl,hg,hr,_,hc⟩:=SlR.at HT2.out hlt
      have lc:ts.length≤cap:=HT2.out.cap
      have hszj:=SZ.out j (by omega)
      have hwr:IntKind.i64.wrap ((j:Int)+1)=(j:Int)+1:=by rw[IntKind.wrap_i64];omega
      have hw64:wrap64 ((j:Int)+1)=(j:Int)+1:=by unfold wrap64;omega
      have b1:(0:Int)≤(j:Int)+1:=by omega
      have b2:(j:Int)+1≤(cap:Int):=by omega
      have b3:((j:Int)+1).toNat=j+1:=by omega
      have b4:(cap=j)=False:=by simp;omega
      clear hc hg hr
      go_wp2_with (at_builtin;refine wpList_append_own_at _ rfl (.tmp 48) (.tmp 51) 39 rfl (X2.heap.size) 3 io _ 1 8 Tryz.underlying39 HIO.out.1 HIO.out.2.1 HIO.out.2.2.1 HIO.out.2.2.2 rfl (by decide) (.slice Ar j cr) j xs rfl (row_al HO.out _) ⟨wr.heap.size,0,none⟩ 1 1 [.int .i64 ((gpS gp.data.toList ts j).size:Int)] rfl rfl (cell_one_new _ _ _) (by intro u hu;simp at hu;subst hu;rfl) (by unfold maxLen;omega) (by omega) (by have:=HW.out.size;simp;omega) ?_;intro vv W5 hown hgrow hnil hvb)
      have BW5:Hid (Below X2.heap.size X2 W5):=((HW.out.alloc (by have:=HW.out.size;omega) _).grown hgrow (by have:=HW.out.size;simp;omega) (fun k hk=>(HO.out.lt k hk).1))
      have hgood:tokB ts[j]=true:=GOOD.out _ (List.getElem_mem hlt)
      have HL1:Hid (SlR W5 (lo W5) 4 TkW (.slice (some ⟨g,off+j*4,none⟩) 1 (cap-j)) [ts[j]]):=by
       have h1:=SlR.from (SlR.upto HT2.out (j+1) (by omega)) j (by simp;omega)
       rw[one_tk hlt] at h1
       have h2:fromA (some ⟨g,off,none⟩) cap j 4=some ⟨g,off+j*4,none⟩:=by unfold fromA;rw[if_neg (by omega)];simp[Addr.add]
       rw[h2] at h1
       exact h1.to' (sub_lo BW5.out) (fun _ _ x=>⟨x.1,x.2.2.2.2⟩)
      have hw1:=WL.out _ (List.getElem_mem hlt)
      have hszn:=SZ.out (j+1) (by omega)
      have n1:¬9223372036854775807<(gpS gp.data.toList ts j).size+(wTk ts[j]).length:=by omega
      have n2:¬9223372036854775807<(gpS gp.data.toList ts j).size+(wTk ts[j]).length+gp.size:=by have:=HGS.out;omega
      have HX2:Hid (∀k,k<j+1→(xs++[Value.int .i64 ((gpS gp.data.toList ts j).size:Int)])[k]?=some (.int .i64 ((gpS gp.data.toList ts k).size:Int))):=fun k hk=>by
       by_cases e:k=j
       · subst e;rw[List.getElem?_append_right (by rw[HXL.out];omega),HXL.out];simp
       · rw[List.getElem?_append_left (by rw[HXL.out];omega)];exact HX.out k (by omega)
      have HXL2:Hid ((xs++[Value.int .i64 ((gpS gp.data.toList ts j).size:Int)]).length=j+1):=by show _=_;rw[List.length_append,HXL.out];rfl
      have HOW:=Lib.hid hown
      clear hown hgrow hnil hvb hwr hw64 b1 b2 b3 b4 lc
      refine (write_any [ts[j]] _ _ W5 HL1.out (HT.out.keep (bel HB.out (BW5.out.mono (Nat.le_refl _)))) (by rw[show wTks [ts[j]]=wTk ts[j] from rfl];omega)).mono ?_
      rintro _ W6 ⟨rfl,hb6⟩
      rw[wTks_one _ hgood]
      have BW6:=Lib.hid (bel BW5.out hb6)
      have HOW6:=Lib.hid (row_stp HOW.out (Stp.of_below (own:=fun _=>False) hb6) (fun _ _ e=>e))
      clear hb6 hgood HL1
      go_wp2_with fail
      exact⟨⟨j+1,_,by omega,by go_num,by rw[gpS_next hlt],HOW6.out,HX2.out,HXL2.out,BW6.out⟩,by simp[intOf];omega⟩
    · obtain rfl:j=ts.length:=by omega
      have v1:decide ((ts.length:Int)<(ts.length:Int))=false:=decide_eq_false (by omega)
      obtain⟨Ar,cr,rfl⟩:=row_form HO.out
      obtain⟨W0,rfl⟩:∃W0:World,W0=wr:=⟨_,rfl⟩
      have AT:Hid (∀k,k<ts.length→∃ga,Ar=some ⟨ga,0,none⟩∧ga<W0.heap.size∧W0.cell? ⟨ga,k,none⟩=some (.int .i64 ((gpS gp.data.toList ts k).size:Int))):=fun k hk=>by
       rcases HO.out.2 with ⟨e,h0⟩|⟨ga,cp,cur,e,_⟩
       · omega
       · injection e with e1 e2 e3
         refine⟨ga,e1,(HO.out.lt ga (by rw[e1];rfl)).2,?_⟩
         have h:=HO.out.cells (g:=ga) (by rw[e1];rfl) k _ (HX.out k hk)
         by_cases hk0:k=0
         · subst hk0;simpa[Addr.add] using h
         · simpa[Addr.add,hk0] using h
      have TD:Hid ((gpS gp.data.toList ts ts.length).data.toList=gp.data.toList++gapW gp.data.toList ts):=by
       show _=_
       unfold gpS;rw[str_data,List.take_length]
      have TS:=SZ.out ts.length (Nat.le_refl _)
      have PS:Hid (∀k,k<ts.length→((gpS gp.data.toList ts k).size:Int)=((gp.data.toList.length+(gapW gp.data.toList (ts.take k)).length:Nat):Int)):=fun k _=>by rw[gpS_size]
      obtain⟨T,hT⟩:∃q,q=gpS gp.data.toList ts ts.length:=⟨_,rfl⟩
      rw[←hT] at TD TS ⊢
      replace HB:=Lib.hid (bel HB.out HW.out)
      replace HT2:=Lib.hid (HT2.out.to' (sub_lo HW.out) (fun _ _ x=>x))
      clear HO HX HXL HW hT
      by_cases hbig:32768<T.size
      · have u3:decide ((32768:Int)<(T.size:Int))=true:=decide_eq_true (by omega)
        go_wp2_with fail
        go_ret
        exact⟨rfl,HB.out⟩
      · have u3:decide ((32768:Int)<(T.size:Int))=false:=decide_eq_false (by omega)
        have tl:T.data.toList.length=T.size:=by simp
        have sl:s.data.toList.length=s.size:=by simp
        have law:=blanks_law s.data.toList gp.data.toList HG.out (by omega) ts OK.out (by rw[←TD.out];omega)
        rw[←TD.out,tl,sl] at law
        have LAW:=Lib.hid law
        have TM:T.size≤maxLen:=by unfold maxLen;omega
        have HTM:=Lib.hid TM
        clear law tl sl TM
        go_wp2_with fail
        refine (run_uni (patch_any s W0 HS.out)).mono ?_
        rintro _ X3 ⟨k3,s3,n3,p3,D3,l3,c3,a3,x3,q3,rfl,hb3,hn3,hr3⟩
        obtain⟨Y3,hY3,by3,HX3,-,-,-,-,-⟩:=nb5 X3 k3 s3 n3 p3 D3 l3 c3
        have HN3:=Lib.hid (NdR.to hn3 (sub_lo by3.out))
        have R3:=Lib.hid hr3
        have B3:=Lib.hid (bel hb3 by3.out)
        obtain⟨g3,hg3⟩:∃q,q=X3.heap.size:=⟨_,rfl⟩
        rw[←hg3] at HX3
        clear hb3 hn3 hr3 by3
        go_upto_region 19 with (fail)
        rw[←hY3.out,←hg3]
        clear hY3 hg3
        go_wp2_with fail
        refine (run_uni (patch_any T Y3 HTM.out)).mono ?_
        rintro _ X4 ⟨k4,s4,n4,p4,D4,l4,c4,a4,x4,q4,rfl,hb4,hn4,hr4⟩
        obtain⟨Y4,hY4,by4,HX4,-,-,-,-,-⟩:=nb5 X4 k4 s4 n4 p4 D4 l4 c4
        have HN4:=Lib.hid (NdR.to hn4 (sub_lo by4.out))
        have R4:=Lib.hid hr4
        have B34:=Lib.hid (bel hb4 by4.out)
        have B4:=Lib.hid (bel B3.out B34.out)
        replace HX3:=Lib.hid (hs_bel HX3.out B34.out)
        replace HN3:=Lib.hid (NdR.to HN3.out (sub_lo B34.out))
        obtain⟨g4,hg4⟩:∃q,q=X4.heap.size:=⟨_,rfl⟩
        rw[←hg4] at HX4
        clear hb4 hn4 hr4 by4 B3 B34
        go_upto_region 20 with (fail)
        rw[←hY4.out,←hg4]
        clear hY4 hg4
        have ALL:Hid (x3=x4∧smN a3 a4=true∧(x3=0∨(x3≠0∧((∀t∈ts,t.pos≠q3)→q3=s.size∧q4=(T.size:Int))∧∀(i:Nat) (h:i<ts.length),ts[i].pos=q3→q4=((gp.data.toList.length+(gapW gp.data.toList (ts.take i)).length:Nat):Int)))):=by
         rcases LAW.out with ⟨a,b,e1,e2,e3⟩|⟨x,p,q,e1,e2,hx,e4,e5⟩
         · rcases R3.out with ⟨h,_⟩|⟨h,h3⟩
           · rw[e1] at h;cases h
           · rw[e1] at h;injection h with h
             rcases R4.out with ⟨k,_⟩|⟨k,k3⟩
             · rw[e2] at k;cases k
             · rw[e2] at k;injection k with k
               exact⟨h3.trans k3.symm,by rw[←h,←k];exact e3,.inl h3⟩
         · rcases R3.out with ⟨h,_,h3⟩|⟨h,h3⟩
           · rw[e1] at h;injection h with h1 h2
             rcases R4.out with ⟨k,_,k3⟩|⟨k,k3⟩
             · rw[e2] at k;injection k with k1 k2
               refine⟨h1.symm.trans k1,by rw[h3,k3];rfl,.inr ⟨by rw[←h1];exact hx,?_,?_⟩⟩
               · rw[←h2,←k2];exact e4
               · rw[←h2,←k2];exact e5
             · rw[e2] at k;cases k
           · rw[e1] at h;cases h
        obtain⟨hxx,hsm,hor⟩:=ALL.out
        subst hxx
        have SM:=Lib.hid hsm
        have OR:=Lib.hid hor
        clear R3 R4 LAW ALL hsm hor
        obtain⟨r0,r1,r2,r3,r4⟩:=cf5 HX3.out
        obtain⟨t0,t1,t2,t3,t4⟩:=cf5 HX4.out
        go_wp2_with fail
        refine (saidEq (same_any (SizeOf.sizeOf a3+1) a3 a4 _ _ Y4 (Nat.lt_succ_self _) HN3.out HN4.out) SM.out).mono ?_
        rintro _ W5 ⟨rfl,hb5⟩
        have B5:=Lib.hid (bel B4.out hb5)
        clear hb5 B4 HX3 HX4 HN3 HN4 SM
        by_cases hx3:x3=0
        · subst hx3
          go_wp2_with fail
          go_ret
          exact⟨rfl,bel HB.out B5.out⟩
        · have e3:(x3==(0:Int))=false:=by simpa using hx3
          have L2:Hid (((∀t∈ts,t.pos≠q3)→q3=s.size∧q4=(T.size:Int))∧∀(i:Nat) (h:i<ts.length),ts[i].pos=q3→q4=((gp.data.toList.length+(gapW gp.data.toList (ts.take i)).length:Nat):Int)):=by
           rcases OR.out with h|h
           · exact absurd h hx3
           · exact h.2
          clear OR
          go_wp2_with fail
          go_loopw [20] (fun i wr=>∃(j:Nat),j≤ts.length∧i=.int .i64 j∧Hid (∀k (h:k<ts.length),k<j→ts[k].pos≠q3)∧Hid (wr=W5)) (fun i _=>ts.length-(intOf i).toNat)
          case atStart=>exact⟨0,by omega,rfl,Lib.hid (fun k _ h=>absurd h (by omega)),Lib.hid rfl⟩
          case round =>
           obtain⟨j,hj,rfl,HQ,HW⟩:=hrel
           obtain rfl:W5=wr:=HW.out.symm
           clear HW
           by_cases hlt2:j<ts.length
           · have v2:decide ((j:Int)<(ts.length:Int))=true:=decide_eq_true (by omega)
             obtain⟨g,off,cs,rfl,hg,hr,_,hc⟩:=SlR.at (HT2.out.to' (sub_lo B5.out) (fun _ _ x=>x)) hlt2
             obtain⟨rfl,-⟩:=hr
             have t3:=hc 3 _ rfl
             have j0:(0:Int)≤(j:Int):=by omega
             have j1:(j:Int)<(ts.length:Int):=by omega
             clear hc hg
             by_cases hp:ts[j].pos=q3
             · have v3:(ts[j].pos==q3)=true:=by simpa using hp
               obtain⟨ga,rfl,hga,hgc⟩:=AT.out j hlt2
               have c9:W5.cell? ⟨ga,j,none⟩=some (.int .i64 ((gpS gp.data.toList ts j).size:Int)):=(B5.out.cell (p:=⟨ga,j,none⟩) hga).trans hgc
               have hq:(q4==((gpS gp.data.toList ts j).size:Int))=true:=beq_iff_eq.2 ((L2.out.2 j hlt2 hp).trans (PS.out j hlt2).symm)
               clear hga hgc
               go_wp2_with fail
               go_ret
               exact⟨rfl,bel HB.out B5.out⟩
             · have v3:(ts[j].pos==q3)=false:=by simpa using hp
               have HQ2:Hid (∀k (h:k<ts.length),k<j+1→ts[k].pos≠q3):=fun k h hk=>by
                by_cases e:k=j
                · subst e;exact hp
                · exact HQ.out k h (by omega)
               go_wp2_with fail
               exact⟨⟨j+1,by omega,by go_num,HQ2,Lib.hid trivial⟩,by simp[intOf];omega⟩
           · obtain rfl:j=ts.length:=by omega
             have v2:decide ((ts.length:Int)<(ts.length:Int))=false:=decide_eq_false (by omega)
             obtain⟨h1,h2⟩:=L2.out.1 (fun t ht=>by
              obtain⟨k,hk,rfl⟩:=List.mem_iff_getElem.1 ht
              exact HQ.out k hk hk)
             have w1:(q3==(s.size:Int))=true:=beq_iff_eq.2 h1
             have w2:(q4==(T.size:Int))=true:=beq_iff_eq.2 h2
             clear h1 h2
             go_wp2_with fail
             go_ret
             exact⟨rfl,bel HB.out B5.out⟩
 · have e1:(x1 != (0:Int))=true:=by simpa using hx1
   go_wp2_with fail
   go_ret
   exact⟨rfl,HB.out⟩
end
end Go.Proofs.YtbjdcogmiggamaaGreatDoor
