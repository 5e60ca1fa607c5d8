import Derived.Test.YtbjdcogmiggamaaGreatDoorZ34
import Derived.Test.YtbjdcogmiggamaaGreatDoorZ24
import Derived.Test.YtbjdcogmiggamaaGreatDoorZ33
import Derived.Test.YtbjdcogmiggamaaGreatDoorZ15
import Derived.Test.YtbjdcogmiggamaaGreatDoorZ23
import Derived.Test.YtbjdcogmiggamaaGreatDoorZ22
set_option linter.all false
namespace Go.Proofs.YtbjdcogmiggamaaGreatDoor
set_option maxRecDepth 100000
set_option maxHeartbeats 8000000
end Go.Proofs.YtbjdcogmiggamaaGreatDoor
/- what the base lacks -/
namespace Go.Proofs.YtbjdcogmiggamaaGreatDoor
end Go.Proofs.YtbjdcogmiggamaaGreatDoor
namespace Go.Proofs.YtbjdcogmiggamaaGreatDoor
section
open Proofs.Tryz RowKit Maps WideMaps ChangeMaps
end
section
open Proofs.Tryz RowKit Maps WideMaps ChangeMaps
theorem blank_cases {c:UInt8} (h:blankC c=true):c=9∨c=10∨c=13∨c=32:=by
 unfold blankC at h
 simp only[Bool.or_eq_true,beq_iff_eq] at h
 rcases h with ((h|h)|h)|h
 · exact .inl (UInt8.toNat_inj.1 h)
 · exact .inr (.inl (UInt8.toNat_inj.1 h))
 · exact .inr (.inr (.inl (UInt8.toNat_inj.1 h)))
 · exact .inr (.inr (.inr (UInt8.toNat_inj.1 h)))
theorem while_app {p:UInt8→Bool} {x r:List UInt8} (h:x.all p=true) (hr:∀c q,r=c::q→p c=false):(x++r).takeWhile p=x∧(x++r).dropWhile p=r:=by
 induction x with
 | nil =>
  cases r with
  | nil=>exact⟨rfl,rfl⟩
  | cons c q =>
   have:=hr c q rfl
   simp[List.takeWhile_cons,List.dropWhile_cons,this]
 | cons c x ih =>
  simp only[List.all_cons,Bool.and_eq_true] at h
  obtain⟨h1,h2⟩:=ih h.2
  simp[List.takeWhile_cons,List.dropWhile_cons,h.1,h1,h2]
theorem dig_name {c:UInt8} (h:digC c=true):nameC c=true:=by
 unfold digC at h;unfold nameC
 simp only[Bool.and_eq_true,Bool.or_eq_true] at h ⊢
 exact .inl (.inr h)
end
section
open Proofs.Tryz RowKit Maps WideMaps ChangeMaps
def LexR.add (ts:List Tk):LexR→LexR
 | .err x p=>.err x p
 | .ok us=>.ok (ts++us)
theorem scanL_step {N n:Nat} {l:List UInt8} {c:UInt8} {r q:List UInt8} {t:Tk} (hs:skipL false l=c::r) (ht:tokL ((N:Int)-((c::r).length:Int)) (c::r)=.ok (t,q)):scanL N (n+1) l=(scanL N n q).add [t]:=by
 rw[scanL,hs]
 show (match tokL ((N:Int)-((c::r).length:Int)) (c::r) with|.error x=>_|.ok (t,q)=>_)=_
 rw[ht]
 show (match scanL N n q with|.err x p=>LexR.err x p|.ok ts=>.ok (t::ts))=_
 cases scanL N n q<;>rfl
theorem LexR.add_add (a b:List Tk) (x:LexR):(x.add b).add a=x.add (a++b):=by
 cases x with
 | err=>rfl
 | ok u=>show LexR.ok _=.ok _;rw[List.append_assoc]
theorem scanL_cons {N n:Nat} {l:List UInt8} {c:UInt8} {r:List UInt8} (hs:skipL false l=c::r):scanL N (n+1) l=match tokL ((N:Int)-((c::r).length:Int)) (c::r) with
 | .error x=>LexR.err x ((N:Int)-((c::r).length:Int))
 | .ok (t,q)=>match scanL N n q with
  | .err x p=>.err x p
  | .ok ts=>.ok (t::ts):=by
 rw[scanL,hs]
 rfl
theorem scanL_nil {N n:Nat} {l:List UInt8} (hs:skipL false l=[]):scanL N (n+1) l=.ok []:=by
 rw[scanL,hs]
theorem scan_fuel {N:Nat}:∀(n m:Nat) (l:List UInt8),l.length<n→l.length<m→scanL N n l=scanL N m l
 | 0,_,l,h,_=>absurd h (Nat.not_lt_zero _)
 | _+1,0,l,_,h=>absurd h (Nat.not_lt_zero _)
 | n+1,m+1,l,h,k=>by
  have h1:=skip_le false l
  cases hs:skipL false l with
  | nil=>rw[scanL_nil hs,scanL_nil hs]
  | cons c r =>
   rw[hs] at h1
   rw[scanL_cons hs,scanL_cons hs]
   cases ht:tokL ((N:Int)-((c::r).length:Int)) (c::r) with
   | error x=>rfl
   | ok z =>
    obtain⟨t,q⟩:=z
    have h2:=tok_less ht
    show (match scanL N n q with|.err x p=>LexR.err x p|.ok ts=>.ok (t::ts))=_
    rw[scan_fuel n m q ω ω]
end
section
open Proofs.Tryz RowKit Maps WideMaps ChangeMaps
def Cl (c c':UInt8):Prop:=c=c'∨(digC c=true∧digC c'=true)
theorem Cl.name {c c':UInt8} (h:Cl c c'):nameC c=nameC c':=by
 rcases h with rfl|⟨h1,h2⟩
 · rfl
 · rw[dig_name h1,dig_name h2]
theorem dig_facts {c:UInt8} (h:digC c=true):blankC c=false∧c.toNat≠47∧c.toNat≠10:=by
 unfold digC at h
 simp only[Bool.and_eq_true,decide_eq_true_eq] at h
 exact⟨by cases hb:blankC c with|false=>rfl|true=>rcases blank_cases hb with rfl|rfl|rfl|rfl<;>simp at h,by omega,by omega⟩
theorem Cl.h47 {c c':UInt8} (h:Cl c c'):c=47↔c'=47:=by
 rcases h with rfl|⟨h1,h2⟩
 · exact Iff.rfl
 · have a:=(dig_facts h1).2.1
   have b:=(dig_facts h2).2.1
   exact⟨fun e=>by subst e;exact absurd rfl a,fun e=>by subst e;exact absurd rfl b⟩
section
variable {c c':UInt8} {u u':List UInt8}
end
end
section
open Proofs.Tryz RowKit Maps WideMaps ChangeMaps
end
section
open Proofs.Tryz RowKit Maps WideMaps ChangeMaps
theorem scanP_of {l:List UInt8} (h:l.length≤32768):scanP l=scanL l.length (l.length+1) l:=by unfold scanP;rw[if_neg ω]
end
section
open Proofs.Tryz RowKit Maps WideMaps ChangeMaps
def stopB (r:List Tk):Bool:=wl r==[]||wl r==[41]||wl r==[93]
theorem stop_no {r:List Tk} (h:stopB r=true) {w:List UInt8} (hw:(w==[])=false∧(w==[41])=false∧(w==[93])=false):(wl r==w)=false:=by
 unfold stopB at h
 simp only[Bool.or_eq_true,beq_iff_eq] at h
 cases hq:wl r==w with
 | false=>rfl
 | true =>
  rw[beq_iff_eq] at hq
  rw[hq] at h
  obtain⟨a,b,c⟩:=hw
  rcases h with (h|h)|h<;>subst h
  · revert a;decide
  · revert b;decide
  · revert c;decide
theorem stop_lev {r:List Tk} (h:stopB r=true):levP (wl r)=none:=by
 unfold stopB at h
 simp only[Bool.or_eq_true,beq_iff_eq] at h
 rcases h with (h|h)|h<;>rw[h]<;>decide
section
variable {e:Int}
theorem bin_stop {lv:Nat} {m:M Nd} {p:Int} {n:Nat} {a:Nd} {r:List Tk} (h:stopB r=true):binP lv m p (n+1) a r=.ok a r:=by
 unfold binP
 show (if levP (wl r)=some lv then _ else _:M Nd) r=_
 rw[if_neg (by rw[stop_lev h];simp)];rfl
theorem tails_stop {m:M Nd} {p:Int} {n:Nat} {a:Nd} {r:List Tk} (h:stopB r=true):tailsP e m p (n+1) a r=.ok a r:=by
 unfold tailsP
 show (if wl r==[40] then _ else acc _ _ (acc _ _ _):M Nd) r=_
 rw[if_neg (by rw[stop_no h π];simp),acc_f (stop_no h π),acc_f (stop_no h π)];rfl
def primW (r:List Tk):Bool:=!(wl r==[108,101,116])&&!(wl r==[105,102])&&!(wl r==[109,97,116,99,104])&&!(wl r==[102,117,110])&&!(wl r==[110,111,116])&&!(wl r==[45])
theorem oper_bin {n lv:Nat} {h:Bool} {ts r:List Tk} {a:Nd} (h3:lv≠3) (h8:lv≠8) (hm:operP e (n+1) h (lv+1) ts=.ok a r) (hr:stopB r=true):operP e (n+2) h lv ts=.ok a r:=by
 rw[operP]
 simp only[look]
 rw[if_neg h3,if_neg h8,bd_ok hm]
 exact bin_stop hr
theorem prim_expr {n:Nat} {h:Bool} {ts r:List Tk} {a:Nd} (hw:primW ts=true) (hp:primP e (exprP e (n+1) false) (n+1) h ts=.ok a r) (hr:stopB r=true):exprP e (n+10) h ts=.ok a r:=by
 unfold primW at hw
 simp only[Bool.and_eq_true,Bool.not_eq_true'] at hw
 obtain⟨⟨⟨⟨⟨w1,w2⟩,w3⟩,w4⟩,w5⟩,w6⟩:=hw
 have o8:operP e (n+2) h 8 ts=.ok a r:=by
  rw[operP]
  simp only[look]
  rw[if_pos trivial,if_neg π,acc_f w6,bd_ok hp]
  exact tails_stop hr
 have o7:=oper_bin (lv:=7) π π o8 hr
 have o6:=oper_bin (lv:=6) π π o7 hr
 have o5:=oper_bin (lv:=5) π π o6 hr
 have o4:=oper_bin (lv:=4) π π o5 hr
 have o3:operP e (n+7) h 3 ts=.ok a r:=by
  rw[operP]
  simp only[look]
  rw[if_pos trivial,acc_f w5]
  exact o4
 have o2:=oper_bin (lv:=2) π π o3 hr
 have o1:=oper_bin (lv:=1) π π o2 hr
 rw[exprP]
 show (acc _ _ (acc _ _ (acc _ _ (acc _ _ _)))) ts=_
 rw[acc_f w1,acc_f w2,acc_f w3,acc_f w4]
 exact o1
def nest:Nat→Int→Nd
 | 0,o=>.mk 20 e0 1 o []
 | k+1,o=>.mk 26 e0 0 o [nest k (o+1)]
def mrk (c:UInt8) (o:Int):Tk:=⟨4,str [c],0,o⟩
inductive Nst:Nat→Nat→Int→List Tk→List Tk→Prop where
 | one (o:Int) (r:List Tk):Nst 0 0 o (⟨2,e0,1,o⟩::r) r
 | list {k:Nat} {o q:Int} {ts r:List Tk} (h:Nst 0 k (o+1) ts (mrk 93 q::r)):Nst 0 (k+1) o (mrk 91 o::ts) r
 | par {p k:Nat} {o o' q:Int} {ts r:List Tk} (h:Nst p k o ts (mrk 41 q::r)):Nst (p+1) k o (mrk 40 o'::ts) r
theorem Nst.head {p k:Nat} {o:Int} {ts r:List Tk} (h:Nst p k o ts r):primW ts=true∧(wl ts==[93])=false∧(wl ts==[41])=false:=by
 cases h with
 | one=>exact⟨rfl,rfl,rfl⟩
 | list=>exact⟨rfl,rfl,rfl⟩
 | par=>exact⟨rfl,rfl,rfl⟩
theorem nst_expr {p k:Nat} {o:Int} {ts r:List Tk} (h:Nst p k o ts r):∀N,11+9*(p+k)≤N→stopB r=true→exprP e N false ts=.ok (nest k o) r:=by
 induction h with
 | one o r =>
  intro N hN hr
  obtain⟨n,rfl⟩:∃n,N=n+10:=⟨N-10,by omega⟩
  exact prim_expr rfl rfl hr
 | @list k o q ts r h ih =>
  intro N hN hr
  obtain⟨n,rfl⟩:∃n,N=n+10:=⟨N-10,by omega⟩
  have hx:=ih (n+1) ω rfl
  refine prim_expr rfl ?_ hr
  show (listP [93] (exprP e (n+1) false) (n+1) >>= fun l=>pure (Nd.mk 26 e0 0 o l):M Nd) ts=_
  have hl:listP [93] (exprP e (n+1) false) (n+1) ts=.ok [nest k (o+1)] r:=by
   unfold listP
   rw[acc_f h.head.2.1]
   unfold itemsP
   rw[bd_ok hx]
   have ht:tailP (exprP e (n+1) false) (n+1) (mrk 93 q::r)=.ok [] (mrk 93 q::r):=by
    unfold tailP
    rw[acc_f rfl];rfl
   rw[bd_ok ht,bd_ok (exp_t rfl)];rfl
  rw[bd_ok hl];rfl
 | @par p k o o' q ts r h ih =>
  intro N hN hr
  obtain⟨n,rfl⟩:∃n,N=n+10:=⟨N-10,by omega⟩
  have hx:=ih (n+1) ω rfl
  refine prim_expr rfl ?_ hr
  show (acc [41] (pure (Nd.mk 23 e0 0 o' [])) (exprP e (n+1) false >>= fun a=>expect [41] >>= fun _=>pure a):M Nd) ts=_
  rw[acc_f h.head.2.2,bd_ok hx,bd_ok (exp_t rfl)];rfl
end
def deepT (k:Nat) (o:Int):Nd:=.mk 1 e0 0 0 [.mk 5 (str [102]) 0 0 [.mk 12 (str [105,110,116]) 0 9 [],nest k o]]
def headT:List Tk:=[⟨1,str [102,117,110],0,0⟩,⟨1,str [102],0,4⟩,mrk 40 5,mrk 41 6,mrk 58 7,⟨1,str [105,110,116],0,9⟩,mrk 61 13]
theorem prog_deep {e:Int} {p k n j:Nat} {o:Int} {ts:List Tk} (h:Nst p k o ts []) (hn:11+9*(p+k)≤n):progP e false n (j+2) (headT++ts)=.ok [.mk 5 (str [102]) 0 0 [.mk 12 (str [105,110,116]) 0 9 [],nest k o]] []:=by
 obtain⟨n,rfl⟩:∃m,n=m+1:=⟨n-1,by omega⟩
 have hx:=nst_expr (e:=e) h (n+1) hn rfl
 have hf:functionP e (exprP e (n+1) false) (n+1) (headT.drop 2++ts)=.ok [.mk 12 (str [105,110,116]) 0 9 [],nest k o] []:=by
  unfold functionP
  have h1:fieldsP e (n+1) (headT.drop 2++ts)=.ok [] (headT.drop 4++ts):=by
   unfold fieldsP
   rw[bd_ok (exp_t rfl)]
   unfold listP
   rw[acc_t rfl];rfl
  rw[bd_ok h1,bd_ok (exp_t rfl)]
  have h2:typP e (n+1) ((headT.drop 4++ts).tail)=.ok (.mk 12 (str [105,110,116]) 0 9 []) (headT.drop 6++ts):=by
   rw[typP]
   show (acc _ _ (acc _ _ (acc _ _ _))) _=_
   rw[acc_f rfl,acc_f rfl,acc_f rfl,bd_ok (nam_t rfl)];rfl
  rw[bd_ok h2,bd_ok (exp_t rfl)]
  rw[show (headT.drop 6++ts).tail=ts from rfl,bd_ok hx];rfl
 have hd:declP e (n+1) (headT++ts)=.ok (.mk 5 (str [102]) 0 0 [.mk 12 (str [105,110,116]) 0 9 [],nest k o]) []:=by
  unfold declP
  simp only[look]
  rw[acc_f rfl,acc_f rfl,acc_f rfl,acc_t rfl,bd_ok (nam_t rfl)]
  rw[show ((headT++ts).tail).tail=headT.drop 2++ts from rfl,bd_ok hf];rfl
 show (oneP e false (n+1) (headT++ts)).bd _=_
 rw[one_eq,if_neg (by simp),hd];rfl
theorem deep_nest:∀(k d:Nat) (o:Int),d≤41→deepP d (nest k o)=if 40<d+k then some (o+(41-(d:Int))) else none
 | 0,d,o,h=>by
  rw[nest,deepP]
  by_cases hd:40<d
  · rw[if_pos hd,if_pos ω];congr 1;omega
  · rw[if_neg hd,if_neg ω];rfl
 | k+1,d,o,h=>by
  rw[nest,deepP]
  by_cases hd:40<d
  · rw[if_pos hd,if_pos ω];congr 1;omega
  · rw[if_neg hd,deepL,deep_nest k (d+1) (o+1) ω]
    by_cases hk:40<d+1+k
    · rw[if_pos hk,if_pos ω]
      show some _=some _
      congr 1;omega
    · rw[if_neg hk,if_neg ω];rfl
theorem deep_whole (k:Nat) (o:Int):deepP 0 (deepT k o)=if 38<k then some (o+39) else none:=by
 have h:deepP 0 (deepT k o)=(match deepP 2 (nest k o) with|some q=>some q|none=>none):=by
  unfold deepT
  simp[deepP,deepL]
  cases deepP 2 (nest k o)<;>rfl
 rw[h,deep_nest k 2 o π]
 by_cases hk:38<k
 · rw[if_pos hk,if_pos ω]
   show some _=some _
   congr 1
 · rw[if_neg hk,if_neg ω]
def mkC (c:UInt8):Bool:=c==40||c==41||c==91||c==93
theorem mkC_cases {c:UInt8} (h:mkC c=true):c=40∨c=41∨c=91∨c=93:=by
 unfold mkC at h
 simp only[Bool.or_eq_true,beq_iff_eq] at h
 rcases h with ((h|h)|h)|h<;>simp[h]
def tlC (r:List UInt8):Bool:=match r with|[]=>true|c::_=>mkC c||c==49
theorem scan_mk {N n:Nat} {c:UInt8} {r:List UInt8} (hc:mkC c=true) (hr:tlC r=true):scanL N (n+1) (c::r)=(scanL N n r).add [mrk c ((N:Int)-((c::r).length:Int))]:=by
 have hs:skipL false (c::r)=c::r:=by
  rcases mkC_cases hc with rfl|rfl|rfl|rfl<;>(rw[skipL,if_neg π,if_neg (by intro h;exact absurd h.1 π)])
 refine scanL_step hs ?_
 unfold tokL
 have h2:∀d,(mkC d||d==49)=true→markB [c,d]=false:=by
  intro d hd
  rw[Bool.or_eq_true,beq_iff_eq] at hd
  rcases hd with hd|rfl
  · rcases mkC_cases hc with rfl|rfl|rfl|rfl<;>rcases mkC_cases hd with rfl|rfl|rfl|rfl<;>decide
  · rcases mkC_cases hc with rfl|rfl|rfl|rfl<;>decide
 have f1:letC c=false:=by rcases mkC_cases hc with rfl|rfl|rfl|rfl<;>decide
 have f2:digC c=false:=by rcases mkC_cases hc with rfl|rfl|rfl|rfl<;>decide
 have f3:¬(c.toNat=34):=by rcases mkC_cases hc with rfl|rfl|rfl|rfl<;>decide
 have f4:markB [c]=true:=by rcases mkC_cases hc with rfl|rfl|rfl|rfl<;>decide
 have f5:¬(2≤(c::r).length∧markB ((c::r).take 2)=true):=by
  cases r with
  | nil=>simp
  | cons d r=>intro h;have:=h.2;rw[show (c::d::r).take 2=[c,d] from rfl,h2 d hr] at this;cases this
 simp only[f1,f2,f3,if_false,Bool.false_eq_true]
 rw[if_neg f5,show (c::r).take 1=[c] from rfl,if_pos f4];rfl
theorem scan_one {N n:Nat} {r:List UInt8} (hr:∀c q,r=c::q→mkC c=true):scanL N (n+1) (49::r)=(scanL N n r).add [⟨2,e0,1,(N:Int)-((49::r).length:Int)⟩]:=by
 have hs:skipL false (49::r)=49::r:=by rw[skipL,if_neg π,if_neg (by intro h;exact absurd h.1 π)]
 refine scanL_step hs ?_
 have h:=while_app (p:=nameC) (x:=[49]) (r:=r) π (fun c q e=>by rcases mkC_cases (hr c q e) with rfl|rfl|rfl|rfl<;>decide)
 unfold tokL
 have h1:(49::r).takeWhile nameC=[49]:=h.1
 have h2:(49::r).dropWhile nameC=r:=h.2
 simp only[show letC 49=false from by decide,show digC 49=true from by decide,Bool.false_eq_true,if_false,if_true,h1,h2]
 rw[show intL [49]=.ok 1 from by rw[intL,if_neg π,if_neg π,show numP [49] 0 9007199254740992=some 1 from by decide]]
def clo (k p:Nat):List UInt8:=List.replicate k 93++List.replicate p 41
theorem clo_tl (k p:Nat):∀c q,clo k p=c::q→mkC c=true:=by
 intro c q h
 unfold clo at h
 cases k with
 | zero =>
  cases p with
  | zero=>cases h
  | succ p=>rw[List.replicate_zero,List.nil_append,List.replicate_succ] at h;injection h with h _;subst h;decide
 | succ k=>rw[List.replicate_succ,List.cons_append] at h;injection h with h _;subst h;decide
theorem tl_of {r:List UInt8} (h:∀c q,r=c::q→mkC c=true):tlC r=true:=by
 cases r with
 | nil=>rfl
 | cons c q=>show (mkC c||c==49)=true;rw[h c q rfl];rfl
theorem scan_clo (N:Nat):∀(k p n:Nat),k+p<n→∃ts,scanL N n (clo k p)=.ok ts∧ts.length=k+p∧(∃a b,ts=a++b∧a.length=k∧(∀t∈a,∃q,t=mrk 93 q)∧∀t∈b,∃q,t=mrk 41 q)
 | 0,0,n+1,_=>⟨[],by rw[scanL_nil (by rfl)],rfl,[],[],rfl,rfl,by simp,by simp⟩
 | 0,p+1,n+1,h=>by
  obtain⟨ts,h1,h2,a,b,h3,h4,h5,h6⟩:=scan_clo N 0 p n ω
  have e:clo 0 (p+1)=41::clo 0 p:=by unfold clo;simp[List.replicate_succ]
  obtain rfl:a=[]:=List.length_eq_zero_iff.1 h4
  refine⟨mrk 41 _::ts,by rw[e,scan_mk π (tl_of (clo_tl 0 p)),h1];rfl,by simp[h2],[],mrk 41 _::ts,rfl,rfl,by simp,fun t ht=>?_⟩
  rcases List.mem_cons.1 ht with rfl|ht
  · exact⟨_,rfl⟩
  · exact h6 t (by rw[h3] at ht;exact ht)
 | k+1,p,n+1,h=>by
  obtain⟨ts,h1,h2,a,b,h3,h4,h5,h6⟩:=scan_clo N k p n ω
  have e:clo (k+1) p=93::clo k p:=by unfold clo;rw[List.replicate_succ,List.cons_append]
  refine⟨mrk 93 _::ts,by rw[e,scan_mk π (tl_of (clo_tl k p)),h1];rfl,by simp[h2];omega,mrk 93 _::a,b,by rw[h3];rfl,by simp[h4],fun t ht=>?_,h6⟩
  rcases List.mem_cons.1 ht with rfl|ht
  · exact⟨_,rfl⟩
  · exact h5 t ht
theorem nst_lists:∀(k:Nat) (o:Int) (a r:List Tk),a.length=k→(∀t∈a,∃q,t=mrk 93 q)→Nst 0 k o ((List.range k).map (fun i=>mrk 91 (o+(i:Nat)))++⟨2,e0,1,o+k⟩::(a++r)) r
 | 0,o,a,r,h,_=>by
  obtain rfl:a=[]:=List.length_eq_zero_iff.1 h
  have:=Nst.one o r
  simpa using this
 | k+1,o,a,r,h,ha=>by
  obtain⟨a',t,rfl⟩:∃a' t,a=a'++[t]:=⟨a.dropLast,a.getLast (by intro e;rw[e] at h;cases h),(List.dropLast_concat_getLast _).symm⟩
  obtain⟨q,rfl⟩:=ha t (by simp)
  have ih:=nst_lists k (o+1) a' (mrk 93 q::r) (by simp at h;exact h) (fun x hx=>ha x (by simp[hx]))
  have:=Nst.list ih
  rw[List.range_succ_eq_map,List.map_cons,List.map_map]
  have e1:(List.range k).map ((fun i:Nat=>mrk 91 (o+(i:Nat)))∘Nat.succ)=(List.range k).map (fun i:Nat=>mrk 91 (o+1+(i:Nat))):=by
   apply List.map_congr_left
   intro i _
   show mrk 91 _=mrk 91 _
   congr 1;push_cast;omega
  rw[e1]
  simp only[Int.natCast_zero,Int.add_zero,List.cons_append,List.append_assoc,List.nil_append] at this ⊢
  rw[show o+((k+1:Nat):Int)=o+1+(k:Int) from by omega]
  exact this
theorem nst_pars {k:Nat} {o:Int}:∀(p:Nat) (P b ts r:List Tk),P.length=p→b.length=p→(∀t∈P,∃q,t=mrk 40 q)→(∀t∈b,∃q,t=mrk 41 q)→Nst 0 k o ts (b++r)→Nst p k o (P++ts) r
 | 0,P,b,ts,r,hP,hb,_,_,h=>by
  obtain rfl:P=[]:=List.length_eq_zero_iff.1 hP
  obtain rfl:b=[]:=List.length_eq_zero_iff.1 hb
  exact h
 | p+1,P,b,ts,r,hP,hb,h1,h2,h=>by
  obtain⟨b',t,rfl⟩:∃b' t,b=b'++[t]:=⟨b.dropLast,b.getLast (by intro e;rw[e] at hb;cases hb),(List.dropLast_concat_getLast _).symm⟩
  obtain⟨q,rfl⟩:=h2 t (by simp)
  cases P with
  | nil=>cases hP
  | cons x P =>
   obtain⟨q',rfl⟩:=h1 x (by simp)
   exact Nst.par (nst_pars p P b' ts (mrk 41 q::r) (by simpa using hP) (by simpa using hb) (fun t ht=>h1 t (by simp[ht])) (fun t ht=>h2 t (by simp[ht])) (by simpa using h))
theorem scan_opn (N:Nat) (c:UInt8) (hc:mkC c=true):∀(k n:Nat) (x:List UInt8),tlC x=true→scanL N (n+k) (List.replicate k c++x)=(scanL N n x).add ((List.range k).map fun i=>mrk c ((N:Int)-((k+x.length:Nat):Int)+(i:Nat)))
 | 0,n,x,_=>by
  show scanL N n x=(scanL N n x).add []
  cases scanL N n x<;>rfl
 | k+1,n,x,hx=>by
  have ht:tlC (List.replicate k c++x)=true:=by
   cases k with
   | zero=>exact hx
   | succ k=>rw[List.replicate_succ,List.cons_append];show (mkC c||c==49)=true;rw[hc];rfl
  rw[List.replicate_succ,List.cons_append,show n+(k+1)=(n+k)+1 from rfl,scan_mk hc ht,scan_opn N c hc k n x hx,LexR.add_add,List.range_succ_eq_map,List.map_cons,List.map_map]
  congr 1
  rw[List.singleton_append]
  congr 1
  · congr 1
    simp only[List.length_cons,List.length_append,List.length_replicate]
    push_cast;omega
  · apply List.map_congr_left
    intro i _
    show mrk c _=mrk c _
    congr 1;push_cast;omega
def headB:List UInt8:=[102,117,110,32,102,40,41,58,32,105,110,116,32,61,32]
theorem scan_blank {N n:Nat} (x:List UInt8):scanL N (n+1) (32::x)=scanL N (n+1) x:=by
 rw[scanL,scanL,skipL,if_pos π]
theorem scan_head {N n:Nat} {x:List UInt8} (hx:N=15+x.length):scanL N (n+8) (headB++x)=(scanL N (n+1) x).add headT:=by
 have st:∀(m:Nat) (c:UInt8) (r q:List UInt8) (t:Tk),blankC c=false→c.toNat≠47→tokL ((N:Int)-((c::r).length:Int)) (c::r)=.ok (t,q)→scanL N (m+1) (c::r)=(scanL N m q).add [t]:=fun m c r q t h1 h2 h3=>scanL_step (by rw[skipL,if_neg (by rw[h1];simp),if_neg (fun h=>h2 h.1)]) h3
 have e0:(N:Int)-((headB++x).length:Int)=0:=by simp[headB];omega
 have l1:tokL ((N:Int)-((headB++x).length:Int)) (headB++x)=.ok (⟨1,str [102,117,110],0,0⟩,headB.drop 3++x):=by rw[e0];rfl
 have e1:(N:Int)-((headB.drop 4++x).length:Int)=4:=by simp[headB];omega
 have l2:tokL ((N:Int)-((headB.drop 4++x).length:Int)) (headB.drop 4++x)=.ok (⟨1,str [102],0,4⟩,headB.drop 5++x):=by rw[e1];rfl
 have e2:(N:Int)-((headB.drop 5++x).length:Int)=5:=by simp[headB];omega
 have l3:tokL ((N:Int)-((headB.drop 5++x).length:Int)) (headB.drop 5++x)=.ok (mrk 40 5,headB.drop 6++x):=by rw[e2];rfl
 have e3:(N:Int)-((headB.drop 6++x).length:Int)=6:=by simp[headB];omega
 have l4:tokL ((N:Int)-((headB.drop 6++x).length:Int)) (headB.drop 6++x)=.ok (mrk 41 6,headB.drop 7++x):=by rw[e3];rfl
 have e4:(N:Int)-((headB.drop 7++x).length:Int)=7:=by simp[headB];omega
 have l5:tokL ((N:Int)-((headB.drop 7++x).length:Int)) (headB.drop 7++x)=.ok (mrk 58 7,headB.drop 8++x):=by rw[e4];rfl
 have e5:(N:Int)-((headB.drop 9++x).length:Int)=9:=by simp[headB];omega
 have l6:tokL ((N:Int)-((headB.drop 9++x).length:Int)) (headB.drop 9++x)=.ok (⟨1,str [105,110,116],0,9⟩,headB.drop 12++x):=by rw[e5];rfl
 have e6:(N:Int)-((headB.drop 13++x).length:Int)=13:=by simp[headB];omega
 have l7:tokL ((N:Int)-((headB.drop 13++x).length:Int)) (headB.drop 13++x)=.ok (mrk 61 13,headB.drop 14++x):=by rw[e6];rfl
 have s1:=st (n+7) _ _ _ _ π π l1
 have s2:=st (n+6) _ _ _ _ π π l2
 have s3:=st (n+5) _ _ _ _ π π l3
 have s4:=st (n+4) _ _ _ _ π π l4
 have s5:=st (n+3) _ _ _ _ π π l5
 have s6:=st (n+2) _ _ _ _ π π l6
 have s7:=st (n+1) _ _ _ _ π π l7
 have b1:scanL N (n+7) (headB.drop 3++x)=scanL N (n+7) (headB.drop 4++x):=scan_blank _
 have b2:scanL N (n+3) (headB.drop 8++x)=scanL N (n+3) (headB.drop 9++x):=scan_blank _
 have b3:scanL N (n+2) (headB.drop 12++x)=scanL N (n+2) (headB.drop 13++x):=scan_blank _
 have b4:scanL N (n+1) (headB.drop 14++x)=scanL N (n+1) x:=scan_blank _
 refine s1.trans ?_
 rw[b1]
 refine (congrArg (LexR.add _) s2).trans ?_
 refine (congrArg (fun z=>LexR.add _ (LexR.add _ z)) s3).trans ?_
 refine (congrArg (fun z=>LexR.add _ (LexR.add _ (LexR.add _ z))) s4).trans ?_
 refine (congrArg (fun z=>LexR.add _ (LexR.add _ (LexR.add _ (LexR.add _ z)))) (s5.trans (congrArg (LexR.add _) b2))).trans ?_
 refine (congrArg (fun z=>LexR.add _ (LexR.add _ (LexR.add _ (LexR.add _ (LexR.add _ z))))) (s6.trans (congrArg (LexR.add _) b3))).trans ?_
 refine (congrArg (fun z=>LexR.add _ (LexR.add _ (LexR.add _ (LexR.add _ (LexR.add _ (LexR.add _ z)))))) (s7.trans (congrArg (LexR.add _) b4))).trans ?_
 cases scanL N (n+1) x<;>rfl
def deepSrc (k p:Nat):List UInt8:=headB++(List.replicate p 40++(List.replicate k 91++49::clo k p))
theorem deep_len (k p:Nat):(deepSrc k p).length=16+2*k+2*p:=by
 unfold deepSrc clo headB;simp;omega
theorem deep_law (k p:Nat) (hk:k≤100) (hp:p≤100):runP false (deepSrc k p)=if 38<k then .err 10 (15+(p:Int)+39) else .ok (deepT k (15+(p:Int))):=by
 have hlen:=deep_len k p
 obtain⟨ts,h1,h2,a,b,rfl,h4,h5,h6⟩:=scan_clo (deepSrc k p).length k p (k+p+20) ω
 have lclo:(clo k p).length=k+p:=by unfold clo;simp
 have hb:b.length=p:=by rw[List.length_append] at h2;omega
 have s0:=scan_one (N:=(deepSrc k p).length) (n:=k+p+20) (clo_tl k p)
 have s1:=scan_opn (deepSrc k p).length 91 π k (k+p+21) (49::clo k p) rfl
 have t1:tlC (List.replicate k 91++49::clo k p)=true:=by
  cases k with
  | zero=>rfl
  | succ k=>rfl
 have s2:=scan_opn (deepSrc k p).length 40 π p (k+p+21+k) (List.replicate k 91++49::clo k p) t1
 have s3:=scan_head (N:=(deepSrc k p).length) (n:=k+p+20+k+p) (x:=List.replicate p 40++(List.replicate k 91++49::clo k p)) (by rw[hlen];simp[lclo];omega)
 have hs:scanP (deepSrc k p)=.ok (headT++((List.range p).map (fun i=>mrk 40 (15+(i:Nat)))++((List.range k).map (fun i=>mrk 91 (15+(p:Int)+(i:Nat)))++⟨2,e0,1,15+(p:Int)+k⟩::(a++b)))):=by
  rw[scanP_of ω,hlen,←hlen]
  rw[show scanL (deepSrc k p).length ((deepSrc k p).length+1) (deepSrc k p)=scanL (deepSrc k p).length (k+p+20+k+p+8) (deepSrc k p) from scan_fuel _ _ _ (Nat.lt_succ_self _) (by rw[hlen];omega)]
  show scanL (deepSrc k p).length _ (headB++_)=_
  rw[s3]
  rw[show k+p+20+k+p+1=k+p+21+k+p from by omega,s2,s1,s0,h1]
  simp only[LexR.add]
  congr 3
  · apply List.map_congr_left
    intro i _
    show mrk 40 _=mrk 40 _
    congr 1
    rw[hlen];simp[lclo];omega
  · congr 1
    · apply List.map_congr_left
      intro i _
      show mrk 91 _=mrk 91 _
      congr 1
      rw[hlen];simp[lclo];omega
    · rw[hlen];simp[lclo];omega
 have hN:=nst_pars p ((List.range p).map (fun i=>mrk 40 (15+(i:Nat)))) b _ [] (by simp) hb (fun t ht=>by obtain⟨i,_,rfl⟩:=List.mem_map.1 ht;exact⟨_,rfl⟩) h6 (by rw[List.append_nil];exact nst_lists k (15+(p:Int)) a b h4 h5)
 rw[run_ok hs]
 generalize htk:(List.range p).map (fun i:Nat=>mrk 40 (15+(i:Nat)))++((List.range k).map (fun i:Nat=>mrk 91 (15+(p:Int)+(i:Nat)))++⟨2,e0,1,15+(p:Int)+k⟩::(a++b))=tk at hN
 have ltk:tk.length=2*p+2*k+1:=by rw[←htk];simp;omega
 have lh:(headT++tk).length=2*p+2*k+8:=by rw[List.length_append,ltk];simp[headT];omega
 rw[lh,show 2*p+2*k+8+1=(2*p+2*k+7)+2 from rfl,prog_deep hN ω]
 have hd:=deep_whole k (15+(p:Int))
 by_cases h38:38<k
 · rw[if_pos h38] at hd ⊢
   exact fin_deep hd
 · rw[if_neg h38] at hd ⊢
   exact fin_ok hd
theorem nest_exp:∀(k m:Nat) (o:Int),k<m→shp m .exp (nest k o)=true
 | 0,m+1,o,_=>by rw[shp,shpB];rfl
 | k+1,m+1,o,h=>by
  have ih:=nest_exp k m (o+1) ω
  rw[shp,shpB]
  show (bareB (nest (k+1) o)&&([nest k (o+1)]:List Nd).all (shp m .exp))=true
  rw[List.all_cons,ih];rfl
 | _,0,_,h=>absurd h ω
theorem deep_right {k:Nat} (o:Int) (h:k≤38):rightB (deepT k o)=true:=by
 have h1:=nest_exp k 39 o ω
 have h2:shp 39 .typ (.mk 12 (str [105,110,116]) 0 9 [])=true:=by decide
 have h3:shp 40 .dcl (.mk 5 (str [102]) 0 0 [.mk 12 (str [105,110,116]) 0 9 [],nest k o])=true:=by
  show (namB .low (.mk 5 (str [102]) 0 0 [.mk 12 (str [105,110,116]) 0 9 [],nest k o])&&endB (shp 39) [.mk 12 (str [105,110,116]) 0 9 [],nest k o] .fld [.typ,.exp])=true
  rw[show namB .low (.mk 5 (str [102]) 0 0 [.mk 12 (str [105,110,116]) 0 9 [],nest k o])=true from rfl,Bool.true_and]
  unfold endB
  show (true&&(true&&(shp 39 .typ (.mk 12 (str [105,110,116]) 0 9 [])&&(shp 39 .exp (nest k o)&&true))))=true
  rw[h1,h2];rfl
 show (true&&true&&((shp 40 .dcl (.mk 5 (str [102]) 0 0 [.mk 12 (str [105,110,116]) 0 9 [],nest k o])||_)&&true))=true
 rw[h3];rfl
end
section
open Proofs.Tryz RowKit Maps WideMaps ChangeMaps
theorem str_app (a b:List UInt8):str a++str b=str (a++b):=by
 apply ByteArray.ext
 rw[ByteArray.data_append]
 simp[str]
theorem str_size (a:List UInt8):(str a).size=a.length:=by simp[str,ByteArray.size]
theorem str_data (a:List UInt8):(str a).data.toList=a:=by simp[str]
def dS (k p:Nat):Ê:=str (headB++(List.replicate p 40++List.replicate k 91))
def dT (k p:Nat):Ê:=str (clo k p)
theorem dS_p (p:Nat):dS 0 p++⟨#[40]⟩=dS 0 (p+1):=by
 show dS 0 p++str [40]=_
 unfold dS;rw[str_app,List.replicate_succ'];simp
theorem dS_k (k p:Nat):dS k p++⟨#[91]⟩=dS (k+1) p:=by
 show dS k p++str [91]=_
 unfold dS;rw[str_app,List.replicate_succ' (n:=k)];simp
theorem dT_p (p:Nat):dT 0 p++⟨#[41]⟩=dT 0 (p+1):=by
 show dT 0 p++str [41]=_
 unfold dT clo;rw[str_app,List.replicate_succ' (n:=p)];simp
theorem dT_k (k p:Nat):(⟨#[93]⟩:Ê)++dT k p=dT (k+1) p:=by
 show str [93]++dT k p=_
 unfold dT clo;rw[str_app,List.replicate_succ (n:=k)];simp
theorem dS_size (k p:Nat):(dS k p).size=15+k+p:=by unfold dS;rw[str_size];simp[headB];omega
theorem dT_size (k p:Nat):(dT k p).size=k+p:=by unfold dT clo;rw[str_size];simp
theorem dW (k p:Nat):((dS k p++⟨#[49]⟩)++dT k p).data.toList=deepSrc k p:=by
 show ((dS k p++str [49])++dT k p).data.toList=_
 unfold dS dT deepSrc
 rw[str_app,str_app,str_data];simp
theorem deep_walk (x y:Int) (w:À) (hx:i64 x) (hy:i64 y) (ht:Tab w):Calls prog 9 #[.int .i64 x,.int .i64 y] w (EqSaid true w):=by
 have HT:=η ht
 clear ht
 go_in
 obtain⟨c1,h1⟩:∃q,decide (x<0)=q:=⟨_,rfl⟩
 obtain⟨c2,h2⟩:∃q,decide (100<x)=q:=⟨_,rfl⟩
 obtain⟨c3,h3⟩:∃q,decide (y<0)=q:=⟨_,rfl⟩
 obtain⟨c4,h4⟩:∃q,decide (100<y)=q:=⟨_,rfl⟩
 cases hc:(c1||c2||c3||c4) with
 | true =>
  have HC:=η hc
  clear hc
  go_wp2_with fail
  refine (small_any w HT.o).mono ?_
  rintro _ X1 ⟨rfl,hb1⟩
  have HB:=η hb1
  clear hb1
  cases c1<;>cases c2<;>cases c3<;>cases c4<;>first|(exfalso;exact absurd HC.o π)|(go_wp2;go_ret;exact⟨rfl,HB.o⟩)
 | false =>
  simp only[Bool.or_eq_false_iff] at hc
  obtain⟨⟨⟨rfl,rfl⟩,rfl⟩,rfl⟩:=hc
  obtain⟨k,rfl⟩:∃k:Nat,x=(k:Int):=⟨x.toNat,by have:=of_decide_eq_false h1;omega⟩
  obtain⟨p,rfl⟩:∃p:Nat,y=(p:Int):=⟨y.toNat,by have:=of_decide_eq_false h3;omega⟩
  have hk:k≤100:=by have:=of_decide_eq_false h2;omega
  have hp:p≤100:=by have:=of_decide_eq_false h4;omega
  go_wp2_with fail
  refine (small_any w HT.o).mono ?_
  rintro _ X1 ⟨rfl,hb1⟩
  have HB:=η hb1
  clear hb1 hx hy
  go_wp2_with fail
  go_loopw [6,7,8] (fun s t i wr=>∃(j:Nat),j≤p∧i=.int .i64 j∧s=.string (dS 0 j)∧t=.string (dT 0 j)∧Hid (wr=X1)) (fun s t i _=>p-(intOf i).toNat)
  case atStart=>exact⟨0,by omega,rfl,rfl,rfl,η rfl⟩
  case round =>
   obtain⟨j,hj,rfl,rfl,rfl,HW⟩:=hrel
   by_cases hlt:j<p
   · have u1:decide ((j:Int)<(p:Int))=true:=decide_eq_true ω
     have s1:=dS_size 0 j
     have s2:=dT_size 0 j
     go_wp2_with fail
     exact⟨⟨j+1,by omega,by go_num,by rw[dS_p],by rw[dT_p],HW⟩,by simp[intOf];omega⟩
   · obtain rfl:j=p:=by omega
     have u1:decide ((j:Int)<(j:Int))=false:=decide_eq_false ω
     have s1:=dS_size 0 j
     obtain rfl:X1=wr:=HW.o.symm
     clear HW
     go_wp2_with fail
     go_loopw [6,7,10] (fun s t i wr=>∃(m:Nat),m≤k∧i=.int .i64 m∧s=.string (dS m j)∧t=.string (dT m j)∧Hid (wr=X1)) (fun s t i _=>k-(intOf i).toNat)
     case atStart=>exact⟨0,by omega,rfl,rfl,rfl,η rfl⟩
     case round =>
      obtain⟨m,hm,rfl,rfl,rfl,HW⟩:=hrel
      by_cases hlt2:m<k
      · have u2:decide ((m:Int)<(k:Int))=true:=decide_eq_true ω
        have s3:=dS_size m j
        have s4:=dT_size m j
        go_wp2_with fail
        exact⟨⟨m+1,by omega,by go_num,by rw[dS_k],by rw[dT_k],HW⟩,by simp[intOf];omega⟩
      · obtain rfl:m=k:=by omega
        have u2:decide ((m:Int)<(m:Int))=false:=decide_eq_false ω
        have s3:=dS_size m j
        have s4:=dT_size m j
        obtain rfl:X1=wr:=HW.o.symm
        clear HW
        have PC:Hid (Calls prog 24 #[.string ((dS m j++⟨#[49]⟩)++dT m j)] X1 (RunV X1 (if 38<m then .err 10 (15+(j:Int)+39) else .ok (deepT m (15+(j:Int)))))):=by
         have h:=parse_any ((dS m j++⟨#[49]⟩)++dT m j) X1 (by
          have e:(dS m j++⟨#[49]⟩++dT m j).size=16+2*m+2*j:=by
           rw[ByteArray.size_append,ByteArray.size_append,s3,s4]
           show 15+m+j+1+(m+j)=_
           omega
          rw[e];unfold maxLen;omega)
         rw[dW,deep_law m j ω ω] at h
         exact h
        have kk:m≤100:=hk
        go_wp2_with fail
        by_cases h38:38<m
        · have u3:decide ((38:Int)<(m:Int))=true:=decide_eq_true ω
          rw[if_pos h38] at PC
          refine PC.o.mono ?_
          rintro _ X2 ⟨rfl,hb2⟩
          obtain⟨Y2,hY2⟩:∃q,Hid (q=X2.alloc (.cells zero5 24)):=⟨_,η rfl⟩
          have by2:Below X1.heap.size X1 Y2:=by rw[hY2.o];exact bel hb2 (belA (belR _) _)
          have HX:Hs Y2 X2.heap.size 24 zero5:=by rw[hY2.o];exact Hs.new _ _ _
          have c0:Y2.cell? ⟨X2.heap.size,0,none⟩=some (.int .i64 0):=HX.c 0
          replace HB:=η (bel HB.o by2)
          clear hb2 by2 HX PC
          go_upto_region 18 with fail
          rw[←hY2.o]
          clear hY2
          go_wp2
          go_ret
          exact⟨rfl,HB.o⟩
        · have u3:decide ((38:Int)<(m:Int))=false:=decide_eq_false ω
          rw[if_neg h38] at PC
          refine PC.o.mono ?_
          rintro _ X2 ⟨k1,sn,n1,p1,D,l',c,rfl,hb2,hn⟩
          have hn2:NdR X2 (lo X2) (cl k1 sn n1 p1 D l' c) (deepT m (15+(j:Int))):=hn.to fun b hb=>⟨hb.2,rfl⟩
          obtain⟨Y2,hY2,by2,HX,a0,a1,a2,a3,a4⟩:=nb5 X2 k1 sn n1 p1 D l' c
          have HN:=η (NdR.to hn2 (sub_lo by2.o))
          replace HB:=η (bel HB.o (bel hb2 by2.o))
          have HR:Hid (rightB (deepT m (15+(j:Int)))=true):=deep_right _ ω
          clear hb2 by2 hn hn2 PC
          go_upto_region 18 with fail
          rw[←hY2.o]
          clear hY2
          go_wp2_with fail
          refine (saidEq (tright_any _ _ Y2 HN.o) HR.o).mono ?_
          rintro _ X3 ⟨rfl,hb3⟩
          replace HB:=η (bel HB.o hb3)
          clear hb3
          go_wp2
          go_ret
          exact⟨rfl,HB.o⟩
end
end Go.Proofs.YtbjdcogmiggamaaGreatDoor
