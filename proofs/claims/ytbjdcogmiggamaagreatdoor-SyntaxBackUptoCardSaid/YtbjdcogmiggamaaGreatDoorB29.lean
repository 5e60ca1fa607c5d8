import Derived.Test.YtbjdcogmiggamaaGreatDoorB28
set_option linter.all false
namespace Go.Proofs.YtbjdcogmiggamaaGreatDoor
open Proofs.Tryz RowKit Maps WideMaps ChangeMaps
set_option maxRecDepth 100000
set_option maxHeartbeats 8000000
section
section
variable {p:Int} {s:Ê} {x y z:Nd} {l:List Nd}
theorem bare0 {k:Int}:bareB (.mk k e0 0 p l)=true:=rfl
theorem nam0 {k:Int} {q:Wp} (h:q.b s.data.toList=true):namB q (.mk k s 0 p l)=true:=by
 unfold namB
 rw[Bool.and_eq_true];exact⟨h,rfl⟩
theorem all_in {s:Sh} (h:∀x∈l,shI s x=true):l.all (shI s)=true:=List.all_eq_true.2 h
theorem s1 {a:Sh} (h:shI a x=true):serB shI [x] [a]=true:=by rw[serB,h];rfl
theorem s2 {a b:Sh} (h:shI a x=true) (k:shI b y=true):serB shI [x,y] [a,b]=true:=by rw[serB,h,serB,k];rfl
theorem s3 {a b c:Sh} (h:shI a x=true) (k:shI b y=true) (j:shI c z=true):serB shI [x,y,z] [a,b,c]=true:=by rw[serB,h,serB,k,serB,j];rfl
theorem tt {a b:Bool} (h:a=true) (k:b=true):(a&&b)=true:=by rw[h,k];rfl
theorem bt {k:Int} {b:Bool} (h:b=true):(bareB (.mk k e0 0 p l)&&b)=true:=tt bare0 h
theorem in12 (h:typB s.data.toList=true):shI .typ (.mk 12 s 0 p [])=true:=shI_in (tt (nam0 (q:=.typ) h) rfl)
theorem in13 (h:shI .typ x=true):shI .typ (.mk 13 e0 0 p [x])=true:=shI_in (show (bareB (.mk 13 e0 0 p [x])&&serB shI [x] [.typ])=true from bt (s1 h))
theorem in14 (h:uppB s.data.toList=true):shI .typ (.mk 14 s 0 p [])=true:=shI_in (tt (nam0 (q:=.upp) h) rfl)
theorem in15 (h:∀x∈l,shI .typ x=true) (k:shI .typ x=true):shI .typ (.mk 15 e0 0 p (l++[x]))=true:=shI_in (tt (tt bare0 (by show decide (0<(l++[x]).length)=true;simp)) (all_in (by
 intro y hy
 rcases List.mem_append.1 hy with hy|hy
 · exact h y hy
 · rw[List.mem_singleton.1 hy];exact k)))
theorem in7 (h:lowB s.data.toList=true) (k:shI .typ x=true):shI .fld (.mk 7 s 0 p [x])=true:=shI_in (tt (tt rfl (nam0 (q:=.low) h)) (s1 k))
theorem in40 (h:bndB s.data.toList=true):shI (.leaf 40 .bnd) (.mk 40 s 0 p [])=true:=shI_in (tt (tt rfl (nam0 (q:=.bnd) h)) rfl)
theorem in8 (h:uppB s.data.toList=true) (k:∀x∈l,shI .typ x=true):shI .ctor (.mk 8 s 0 p l)=true:=shI_in (tt (tt rfl (nam0 (q:=.upp) h)) (all_in k))
theorem in28 (h:lowB s.data.toList=true) (k:shI .exp x=true):shI .set (.mk 28 s 0 p [x])=true:=shI_in (tt (tt rfl (nam0 (q:=.low) h)) (s1 k))
theorem in20 {n:Int} (h:0≤n∧n≤9007199254740992):shI .exp (.mk 20 e0 n p [])=true:=shI_in (by
 show ((ByteArray.data e0).toList==[]&&decide (0≤n)&&decide (n≤9007199254740992))=true
 rw[decide_eq_true h.1,decide_eq_true h.2];rfl)
theorem in21 (h:s.size≤4096):shI .exp (.mk 21 s 0 p [])=true:=shI_in (by
 show ((0:Int)==0&&decide (s.size≤4096))=true
 rw[decide_eq_true h];rfl)
theorem in22 {n:Int} (h:n=0∨n=1):shI .exp (.mk 22 e0 n p [])=true:=shI_in (by rcases h with rfl|rfl<;>rfl)
theorem in23:shI .exp (.mk 23 e0 0 p [])=true:=shI_in rfl
theorem in25:shI .exp (.mk 25 e0 0 p [])=true:=shI_in rfl
theorem in24 (h:lowB s.data.toList=true):shI .exp (.mk 24 s 0 p [])=true:=shI_in (nam0 (k:=24) (l:=[]) (p:=p) (q:=.low) h)
theorem in26 (h:∀x∈l,shI .exp x=true):shI .exp (.mk 26 e0 0 p l)=true:=shI_in (show (bareB (.mk 26 e0 0 p l)&&l.all (shI .exp))=true from bt (all_in h))
theorem in27 (k:uppB s.data.toList=true) (h:∀x∈l,shI .set x=true):shI .exp (.mk 27 s 0 p l)=true:=shI_in (tt (nam0 (q:=.upp) k) (all_in h))
theorem in29 (k:uppB s.data.toList=true) (h:∀x∈l,shI .exp x=true):shI .exp (.mk 29 s 0 p l)=true:=shI_in (tt (nam0 (q:=.upp) k) (all_in h))
theorem in30 (k:lowB s.data.toList=true) (h:shI .exp x=true):shI .exp (.mk 30 s 0 p [x])=true:=shI_in (tt (nam0 (q:=.low) k) (s1 h))
theorem in31 (h:shI .exp x=true) (k:l≠[]∧∀x∈l,shI .set x=true):shI .exp (.mk 31 e0 0 p (x::l))=true:=shI_in (tt (tt bare0 (decide_eq_true (by have:=List.length_pos_iff.2 k.1;show 1<l.length+1;omega))) (tt h (all_in k.2)))
theorem in32 (h:shI .exp x=true) (k:∀x∈l,shI .exp x=true):shI .exp (.mk 32 e0 0 p (x::l))=true:=shI_in (show (bareB (.mk 32 e0 0 p (x::l))&&begB shI .exp .exp (x::l))=true from bt (tt h (all_in k)))
theorem in33 (h:shI .exp x=true):shI .exp (.mk 33 e0 0 p [x])=true:=shI_in (show (bareB (.mk 33 e0 0 p [x])&&serB shI [x] [.exp])=true from bt (s1 h))
theorem in34 (h:shI .exp x=true):shI .exp (.mk 34 e0 0 p [x])=true:=shI_in (show (bareB (.mk 34 e0 0 p [x])&&serB shI [x] [.exp])=true from bt (s1 h))
theorem in35 {m:Nat} (k:levP s.data.toList=some m) (h:shI .exp x=true) (j:shI .exp y=true):shI .exp (.mk 35 s 0 p [x,y])=true:=shI_in (tt (tt (by show (levP s.data.toList).isSome=true;rw[k];rfl) rfl) (s2 h j))
theorem in36 (h:shI .exp x=true) (j:shI .exp y=true) (k:shI .exp z=true):shI .exp (.mk 36 e0 0 p [x,y,z])=true:=shI_in (show (bareB (.mk 36 e0 0 p [x,y,z])&&serB shI [x,y,z] [.exp,.exp,.exp])=true from bt (s3 h j k))
theorem in37 (k:lowB s.data.toList=true) (h:shI .exp x=true) (j:shI .exp y=true):shI .exp (.mk 37 s 0 p [x,y])=true:=shI_in (tt (nam0 (q:=.low) k) (s2 h j))
theorem in38 (h:shI .exp x=true) (k:l≠[]∧∀x∈l,shI .arm x=true):shI .exp (.mk 38 e0 0 p (x::l))=true:=shI_in (tt (tt bare0 (decide_eq_true (by have:=List.length_pos_iff.2 k.1;show 1<l.length+1;omega))) (tt h (all_in k.2)))
def FunL (l:List Nd):Prop:=∃i x y,l=i++[x,y]∧(∀z∈i,shI .fld z=true)∧shI .typ x=true∧shI .exp y=true
theorem in41 (h:FunL l):shI .exp (.mk 41 e0 0 p l)=true:=by
 obtain⟨i,x,y,rfl,h1,h2,h3⟩:=h
 exact shI_in (show (bareB (.mk 41 e0 0 p (i++[x,y]))&&endB shI (i++[x,y]) .fld [.typ,.exp])=true from bt (end2_in h1 h2 h3))
def PatN (k:Int) (a:Nd):Prop:=∃s p l,a=.mk k s 0 p l∧patB s.data.toList=true∧(∀x∈l,shI (.leaf 40 .bnd) x=true)∧(s.data.toList=[95]→l=[])
theorem in_cas {k:Int} {a:Nd} {b:Sh} (h:PatN k a) (j:shI b x=true):ndK (addK [x] a)=k∧casB shI (addK [x] a) b=true:=by
 obtain⟨s,p,l,rfl,h1,h2,h3⟩:=h
 refine⟨rfl,?_⟩
 unfold casB
 rw[if_neg]
 · exact tt (nam0 (q:=.pat) h1) (end1_in h2 j)
 · rintro ⟨c1,c2⟩
   have c1:s.data.toList=[95]:=c1
   rw[h3 c1] at c2
   exact c2 rfl
theorem in39 {a:Nd} (h:PatN 39 a) (j:shI .exp x=true):shI .arm (addK [x] a)=true:=by
 obtain⟨h1,h2⟩:=in_cas h j
 exact shI_in (tt (by rw[h1];rfl) h2)
end
section
variable {α:Type} {P:α→Prop}
theorem Rt.ite {c:Prop} [Decidable c] {a b:M α} (h:c→Rt a P) (k:¬c→Rt b P):Rt (if c then a else b) P:=by
 by_cases q:c
 · rw[if_pos q];exact h q
 · rw[if_neg q];exact k q
end
section
variable (e:Int)
abbrev XR (s:Sh) (m:M Nd):Prop:=Rt m fun x=>shI s x=true
theorem typ_rt:∀n:Nat,XR .typ (typP e n)
 | 0=>Rt.o
 | n+1=>by
  have I:=typ_rt n
  unfold typP
  exact Rt.look fun t0 _=>Rt.acc (I.bd fun x hx=>Rt.exp.bd fun _ _=>Rt.ret (in13 hx)) (Rt.acc (Rt.name.bd fun s hs=>Rt.ret (in14 hs)) (Rt.acc (Rt.exp.bd fun _ _=>(Rt.list I n).bd fun l hl=>Rt.exp.bd fun _ _=>I.bd fun x hx=>Rt.ret (in15 hl hx)) (Rt.name.bd fun s hs=>Rt.ret (in12 hs))))
theorem fld_rt (n:Nat):XR .fld (fieldP e n):=Rt.look fun t0 _=>Rt.name.bd fun s hs=>Rt.exp.bd fun _ _=>(typ_rt e n).bd fun x hx=>Rt.ret (in7 hs hx)
theorem flds_rt (n:Nat):Rt (fieldsP e n) fun l=>∀x∈l,shI .fld x=true:=Rt.exp.bd fun _ _=>Rt.list (fld_rt e n) n
theorem bnd_rt:XR (.leaf 40 .bnd) (bindP e):=Rt.look fun t0 _=>Rt.name.bd fun s hs=>Rt.ret (in40 hs)
theorem pat_rt (k:Int) (n:Nat):Rt (patP e k n) (PatN k):=Rt.look fun t0 _=>Rt.name.bd fun s hs=>Rt.ite (fun _=>Rt.ret ⟨s,_,[],rfl,hs,fun x hx=>(by cases hx),fun _=>rfl⟩) fun c=>Rt.acc ((Rt.items (bnd_rt e) n).bd fun l hl=>Rt.ret ⟨s,_,l,rfl,hs,hl.2,fun h=>absurd (beq_iff_eq.2 h) c⟩) (Rt.ret ⟨s,_,[],rfl,hs,fun x hx=>(by cases hx),fun _=>rfl⟩)
theorem ctor_rt (n:Nat):XR .ctor (ctorP e n):=Rt.look fun t0 _=>Rt.name.bd fun s hs=>Rt.acc ((Rt.items (typ_rt e n) n).bd fun l hl=>Rt.ret (in8 hs hl.2)) (Rt.ret (in8 hs fun x hx=>by cases hx))
section
variable {m:M Nd} (h:XR .exp m)
include h
theorem bin_rt (lv:Nat) (p:Int):∀(n:Nat) (a:Nd),shI .exp a=true→XR .exp (binP lv m p n a)
 | 0,_,_=>Rt.o
 | n+1,a,ha=>by
  unfold binP
  exact Rt.look fun t0 _=>Rt.ite (fun c=>Rt.next (h.bd fun b hb=>Rt.ite (fun _=>Rt.ret (in35 c ha hb)) fun _=>bin_rt lv p n _ (in35 c ha hb))) fun _=>Rt.ret ha
theorem args_rt (n:Nat):Rt (argsP m n) fun l=>∀x∈l,shI .exp x=true:=Rt.exp.bd fun _ _=>Rt.list h n
theorem set_rt:XR .set (setP e m):=Rt.look fun t0 _=>Rt.name.bd fun s hs=>Rt.exp.bd fun _ _=>h.bd fun x hx=>Rt.ret (in28 hs hx)
theorem arm_rt (n:Nat):XR .arm (armP e m n):=(pat_rt e 39 n).bd fun a ha=>Rt.exp.bd fun _ _=>h.bd fun x hx=>Rt.ret (in39 ha hx)
theorem tails_rt (p:Int):∀(n:Nat) (a:Nd),shI .exp a=true→XR .exp (tailsP e m p n a)
 | 0,_,_=>Rt.o
 | n+1,a,ha=>by
  unfold tailsP
  exact Rt.look fun t0 _=>Rt.ite (fun c=>(args_rt h n).bd fun l hl=>tails_rt p n _ (in32 ha hl)) fun _=>Rt.acc (Rt.name.bd fun s hs=>tails_rt p n _ (in30 hs ha)) (Rt.acc (Rt.exp.bd fun _ _=>(Rt.items (set_rt e h) n).bd fun l hl=>tails_rt p n _ (in31 ha hl)) (Rt.ret ha))
theorem fun_rt (n:Nat):Rt (functionP e m n) FunL:=(flds_rt e n).bd fun l hl=>Rt.exp.bd fun _ _=>(typ_rt e n).bd fun t ht=>Rt.exp.bd fun _ _=>h.bd fun x hx=>Rt.ret ⟨l,t,x,rfl,hl,ht,hx⟩
theorem cons_rt (n:Nat) {s:Ê} (hs:uppB s.data.toList=true) (p:Int):XR .exp (consP m n s p):=Rt.acc ((Rt.items h n).bd fun l hl=>Rt.ret (in29 hs hl.2)) (Rt.ret (in29 hs fun x hx=>by cases hx))
theorem prim_rt (n:Nat) (hh:Bool):XR .exp (primP e m n hh):=Rt.look fun t0 g=>Rt.ite (fun c=>Rt.next (Rt.ret (in20 (good_int g c)))) fun _=>Rt.ite (fun c=>Rt.next (Rt.ret (in21 (good_str g c)))) fun _=>Rt.acc (Rt.ret (in22 (.inr rfl))) (Rt.acc (Rt.ret (in22 (.inl rfl))) (Rt.acc (Rt.ret in25) (Rt.acc ((Rt.list h n).bd fun l hl=>Rt.ret (in26 hl)) (Rt.acc (Rt.acc (Rt.ret in23) (h.bd fun a ha=>Rt.exp.bd fun _ _=>Rt.ret ha)) (Rt.ite (fun c=>Rt.next (Rt.ret (in24 c))) fun _=>Rt.name.bd fun s hs=>Rt.ite (fun _=>cons_rt h n hs _) fun _=>Rt.acc ((Rt.list (set_rt e h) n).bd fun l hl=>Rt.ret (in27 hs hl)) (cons_rt h n hs _))))))
end
theorem expr_rt:∀n:Nat,(∀h,XR .exp (exprP e n h))∧∀h lv,XR .exp (operP e n h lv)
 | 0=>⟨fun h=>by unfold exprP;exact Rt.o,fun h lv=>by unfold operP;exact Rt.o⟩
 | n+1=>by
  obtain⟨E,O⟩:=expr_rt n
  constructor
  · intro h
    unfold exprP
    exact Rt.look fun t0 _=>Rt.acc (Rt.name.bd fun s hs=>Rt.exp.bd fun _ _=>(E h).bd fun a ha=>Rt.exp.bd fun _ _=>(E h).bd fun b hb=>Rt.ret (in37 hs ha hb)) (Rt.acc ((E h).bd fun a ha=>Rt.exp.bd fun _ _=>(E h).bd fun b hb=>Rt.exp.bd fun _ _=>(E h).bd fun c hc=>Rt.ret (in36 ha hb hc)) (Rt.acc ((E true).bd fun a ha=>Rt.exp.bd fun _ _=>(Rt.items (arm_rt e (E false) n) n).bd fun l hl=>Rt.ret (in38 ha hl)) (Rt.acc ((fun_rt e (E h) n).bd fun l hl=>Rt.ret (in41 hl)) (O h 1))))
  · intro h lv
    unfold operP
    exact Rt.look fun t0 _=>Rt.ite (fun _=>Rt.acc ((O h 3).bd fun a ha=>Rt.ret (in34 ha)) (O h 4)) fun _=>Rt.ite (fun _=>Rt.acc ((O h 8).bd fun a ha=>Rt.ret (in33 ha)) ((prim_rt e (E false) n h).bd fun a ha=>tails_rt e (E false) _ n a ha)) fun _=>(O h (lv+1)).bd fun a ha=>bin_rt (O h (lv+1)) lv _ n a ha
end
end
section
theorem shI_ex {s:Sh} {n:Nd} (h:shI s n=true):∃k,shp (k+1) s n=true:=by
 unfold shI at h
 cases e:SizeOf.sizeOf n with
 | zero=>rw[e] at h;cases h
 | succ k=>rw[e] at h;exact⟨k,h⟩
theorem fld_k {x:Nd} (h:shI .fld x=true):ndK x=7:=by
 obtain⟨k,h⟩:=shI_ex h
 exact (fld_of h).1
theorem set_k {x:Nd} (h:shI .set x=true):ndK x≠7:=by
 obtain⟨k,h⟩:=shI_ex h
 have h:(ndK x==28&&namB .low x&&serB (shp k) (ndL x) [.exp])=true:=h
 rw[Bool.and_eq_true,Bool.and_eq_true,beq_iff_eq] at h
 omega
theorem mem_k {x:Nd} (h:shI .mem x=true):ndK x≠7:=by
 obtain⟨k,h⟩:=shI_ex h
 have h:(if ndK x=9 then namB .low x&&serB (shp k) (ndL x) [.typ,.exp] else ndK x==10&&namB .upp x&&endB (shp k) (ndL x) .fld [.blk])=true:=h
 by_cases e:ndK x=9
 · omega
 · rw[if_neg e,Bool.and_eq_true,Bool.and_eq_true,beq_iff_eq] at h;omega
theorem lead_2 {l q:List Nd} {a:Sh} (hk:∀x,shI a x=true→ndK x≠7) (h:∀x∈l,shI .fld x=true) (k:∀x∈q,shI a x=true):((l++q).take (leadB (l++q))).all (shI .fld)=true∧((l++q).drop (leadB (l++q))).all (shI a)=true:=by
 rw[lead_in (fun x hx=>fld_k (h x hx)) (fun x hx=>hk x (k x hx)),List.take_left' rfl,List.drop_left' rfl]
 exact⟨all_in h,all_in k⟩
section
variable {p:Int} {s:Ê} {x y z:Nd} {l q:List Nd}
theorem in50 (h:lowB s.data.toList=true) (k:shI .exp x=true):shI .stm (.mk 50 s 0 p [x])=true:=shI_in (tt (nam0 (q:=.low) h) (s1 k))
theorem in51 (h:lowB s.data.toList=true) (k:shI .exp x=true):shI .stm (.mk 51 s 0 p [x])=true:=shI_in (tt (nam0 (q:=.low) h) (s1 k))
theorem in52 (h:shI .exp x=true) (k:shI .blk y=true):shI .stm (.mk 52 e0 0 p [x,y])=true:=shI_in (show (bareB (.mk 52 e0 0 p [x,y])&&(serB shI [x,y] [.exp,.blk]||serB shI [x,y] [.exp,.blk,.blk]))=true from bt (by rw[s2 h k];rfl))
theorem in52b (h:shI .exp x=true) (k:shI .blk y=true) (j:shI .blk z=true):shI .stm (.mk 52 e0 0 p [x,y,z])=true:=shI_in (show (bareB (.mk 52 e0 0 p [x,y,z])&&(serB shI [x,y,z] [.exp,.blk]||serB shI [x,y,z] [.exp,.blk,.blk]))=true from bt (by rw[s3 h k j,Bool.or_true]))
theorem in53 (h:shI .exp x=true) (k:shI .sarm y=true) (j:∀z∈l,shI .sarm z=true):shI .stm (.mk 53 e0 0 p (x::y::l))=true:=shI_in (show (bareB (.mk 53 e0 0 p (x::y::l))&&decide (1<(x::y::l).length)&&begB shI .exp .sarm (x::y::l))=true from tt (bt (decide_eq_true (by show 1<l.length+1+1;omega))) (tt h (all_in (List.forall_mem_cons.2 ⟨k,j⟩))))
theorem in55 (h:lowB s.data.toList=true) (k:shI .exp x=true) (j:shI .blk y=true):shI .stm (.mk 55 s 0 p [x,y])=true:=shI_in (tt (nam0 (q:=.low) h) (s2 k j))
theorem in56 (h:uppB s.data.toList=true) (k:shI .exp x=true) (j:∀z∈l,shI .exp z=true):shI .snd (.mk 56 s 0 p (x::l))=true∧shI .stm (.mk 56 s 0 p (x::l))=true:=⟨shI_in (tt (tt rfl (nam0 (q:=.upp) h)) (tt k (all_in j))),shI_in (tt (nam0 (q:=.upp) h) (tt k (all_in j)))⟩
theorem in57 (h:shI .exp x=true) (k:shI .snd y=true):shI .stm (.mk 57 e0 0 p [x,y])=true:=shI_in (show (bareB (.mk 57 e0 0 p [x,y])&&serB shI [x,y] [.exp,.snd])=true from bt (s2 h k))
theorem in58 (h:uppB s.data.toList=true) (k:shI (.leaf 40 .bnd) x=true) (j:∀z∈l,shI .exp z=true):shI .stm (.mk 58 s 0 p (x::l))=true:=shI_in (show (if (0:Int)=1∧(x::l).length<2 then false else uppB s.data.toList&&((0:Int)==0||(0:Int)==1)&&begB shI (.leaf 40 .bnd) .exp (x::l))=true from by
 rw[if_neg ω]
 exact tt (tt h rfl) (tt k (all_in j)))
theorem in58b (h:uppB s.data.toList=true) (k:shI (.leaf 40 .bnd) x=true) (j:∀z∈l,shI .exp z=true) (i:shI .exp y=true):shI .stm (.mk 58 s 1 p (x::(l++[y])))=true:=shI_in (show (if (1:Int)=1∧(x::(l++[y])).length<2 then false else uppB s.data.toList&&((1:Int)==0||(1:Int)==1)&&begB shI (.leaf 40 .bnd) .exp (x::(l++[y])))=true from by
 rw[if_neg (by simp)]
 exact tt (tt h rfl) (tt k (all_in fun z hz=>by
  rcases List.mem_append.1 hz with hz|hz
  · exact j z hz
  · rw[List.mem_singleton.1 hz];exact i)))
theorem in75u (h:uppB s.data.toList=true):shI (.leaf 75 .upp) (.mk 75 s 0 p [])=true:=shI_in (tt (tt rfl (nam0 (q:=.upp) h)) rfl)
theorem in59 (h:lowB s.data.toList=true) (j:∀z∈l,shI .exp z=true) (k:shI (.leaf 75 .upp) x=true):shI .stm (.mk 59 s 0 p (l++[x]))=true:=shI_in (tt (nam0 (q:=.low) h) (end1_in j k))
theorem in60:shI .stm (.mk 60 e0 0 p [])=true:=shI_in rfl
theorem in61 (h:shI .exp x=true):shI .stm (.mk 61 e0 0 p [x])=true:=shI_in (show (bareB (.mk 61 e0 0 p [x])&&serB shI [x] [.exp])=true from bt (s1 h))
theorem in11 (h:∀x∈l,shI .stm x=true):shI .blk (.mk 11 e0 0 p l)=true:=shI_in (show ((11:Int)==11&&bareB (.mk 11 e0 0 p l)&&l.all (shI .stm))=true from tt (tt rfl bare0) (all_in h))
theorem in54 {a:Nd} (h:PatN 54 a) (j:shI .blk x=true):shI .sarm (addK [x] a)=true:=by
 obtain⟨h1,h2⟩:=in_cas h j
 exact shI_in (tt (by rw[h1];rfl) h2)
theorem in9 (h:lowB s.data.toList=true) (k:shI .typ x=true) (j:shI .exp y=true):shI .mem (.mk 9 s 0 p [x,y])=true:=shI_in (tt (nam0 (q:=.low) h) (s2 k j))
theorem in10 (h:uppB s.data.toList=true) (k:∀x∈l,shI .fld x=true) (j:shI .blk y=true):shI .mem (.mk 10 s 0 p (l++[y]))=true:=shI_in (tt (tt rfl (nam0 (q:=.upp) h)) (end1_in k j))
theorem in2 (h:uppB s.data.toList=true) (k:∀x∈l,shI .fld x=true):shI .dcl (.mk 2 s 0 p l)=true:=shI_in (tt (nam0 (q:=.upp) h) (all_in k))
theorem in3 (h:uppB s.data.toList=true) (k:l≠[]∧∀x∈l,shI .ctor x=true):shI .dcl (.mk 3 s 0 p l)=true:=shI_in (tt (tt (nam0 (q:=.upp) h) (decide_eq_true (List.length_pos_iff.2 k.1))) (all_in k.2))
theorem in4 (h:lowB s.data.toList=true) (k:∀x∈l,shI .fld x=true) (j:shI .typ y=true):shI .dcl (.mk 4 s 0 p (l++[y]))=true:=shI_in (tt (nam0 (q:=.low) h) (end1_in k j))
theorem in5 (h:lowB s.data.toList=true) (k:FunL l):shI .dcl (.mk 5 s 0 p l)=true:=by
 obtain⟨i,x,y,rfl,h1,h2,h3⟩:=k
 exact shI_in (tt (nam0 (q:=.low) h) (end2_in h1 h2 h3))
theorem in6 {n:Int} (h:uppB s.data.toList=true) (hn:-1≤n∧n≤9007199254740993) (k:∀x∈l,shI .fld x=true) (j:∀x∈q,shI .mem x=true):shI .dcl (.mk 6 s n p (l++q))=true:=by
 obtain⟨h1,h2⟩:=lead_2 (a:=.mem) (fun x=>mem_k) k j
 exact shI_in (tt (tt (tt (tt h (decide_eq_true hn.1)) (decide_eq_true hn.2)) h1) h2)
theorem in24u (h:uppB s.data.toList=true):shI (.leaf 24 .upp) (.mk 24 s 0 p [])=true:=shI_in (tt (tt rfl (nam0 (q:=.upp) h)) rfl)
theorem in24m (h:msgB s.data.toList=true):shI (.leaf 24 .msg) (.mk 24 s 0 p [])=true:=shI_in (tt (tt rfl (nam0 (q:=.msg) h)) rfl)
theorem in75 (h:msgB s.data.toList=true) (k:∀x∈l,shI .exp x=true):shI .ans (.mk 75 s 0 p l)=true:=shI_in (tt (tt rfl (nam0 (q:=.msg) h)) (all_in k))
theorem in70 (h:uppB s.data.toList=true) (k:∀x∈l,shI .fld x=true) (j:shI .exp y=true):shI .chg (.mk 70 s 0 p (l++[y]))=true:=shI_in (show (if uppB s.data.toList=false∨((0:Int)≠0∧(0:Int)≠1) then false else if (0:Int)=1 then hdB shI .upp (l++[y])&&endB shI (l++[y]).tail .fld [.exp] else endB shI (l++[y]) .fld [.exp])=true from by
 rw[if_neg (by rw[h];simp),if_neg ω]
 exact end1_in k j)
theorem in70b (h:uppB s.data.toList=true) (i:shI (.leaf 24 .upp) x=true) (k:∀x∈l,shI .fld x=true) (j:shI .exp y=true):shI .chg (.mk 70 s 1 p (x::(l++[y])))=true:=shI_in (show (if uppB s.data.toList=false∨((1:Int)≠0∧(1:Int)≠1) then false else if (1:Int)=1 then hdB shI .upp (x::(l++[y]))&&endB shI (x::(l++[y])).tail .fld [.exp] else endB shI (x::(l++[y])) .fld [.exp])=true from by
 rw[if_neg (by rw[h];simp),if_pos rfl]
 exact tt i (end1_in k j))
theorem in71 (h:uppB s.data.toList=true) (k:∀x∈l,shI .fld x=true) (j:∀x∈q,shI .set x=true):shI .chg (.mk 71 s 0 p (l++q))=true:=by
 obtain⟨h1,h2⟩:=lead_2 (a:=.set) (fun x=>set_k) k j
 exact shI_in (tt (tt (nam0 (q:=.upp) h) h1) h2)
theorem in72 (h:uppB s.data.toList=true) (i:shI (.leaf 24 .msg) x=true) (k:∀x∈l,shI .fld x=true) (j:shI .ans y=true):shI .chg (.mk 72 s 0 p (x::(l++[y])))=true:=shI_in (tt (tt (nam0 (q:=.upp) h) (show hdB shI .msg (x::(l++[y]))=true from i)) (show endB shI (l++[y]) .fld [.ans]=true from end1_in k j))
theorem in73 {n:Int} (h:uppB s.data.toList=true) (hn:0≤n∧n≤9007199254740992):shI .chg (.mk 73 s n p [])=true:=shI_in (tt (tt (tt h (decide_eq_true hn.1)) (decide_eq_true hn.2)) rfl)
theorem in74 (h:uppB s.data.toList=true):shI .chg (.mk 74 s 0 p [])=true:=shI_in (tt (nam0 (q:=.upp) h) rfl)
end
section
variable (e:Int)
theorem exp_rt (n:Nat) (h:Bool):XR .exp (exprP e n h):=(expr_rt e n).1 h
theorem snd_rt (n:Nat):Rt (sendP e n) fun x=>shI .snd x=true∧shI .stm x=true:=Rt.look fun t0 _=>Rt.exp.bd fun _ _=>(exp_rt e n false).bd fun a ha=>Rt.name.bd fun s hs=>(args_rt (exp_rt e n false) n).bd fun l hl=>Rt.ret (in56 hs ha hl)
theorem spw_rt (n:Nat) (p:Int) {b:Nd} (hb:shI (.leaf 40 .bnd) b=true):XR .stm (spawnP e n p b):=Rt.exp.bd fun _ _=>Rt.name.bd fun s hs=>(args_rt (exp_rt e n false) n).bd fun l hl=>Rt.acc ((exp_rt e n false).bd fun x hx=>Rt.ret (in58b hs hb hl hx)) (Rt.ret (in58 hs hb hl))
theorem bnd_low {s:Ê} (h:lowB s.data.toList=true):bndB s.data.toList=true:=by unfold bndB;rw[h,Bool.or_true]
theorem let_rt (n:Nat):XR .stm (letP e n):=Rt.look fun t0 _=>Rt.exp.bd fun _ _=>Rt.look fun t1 _=>Rt.name.bd fun s hs=>Rt.exp.bd fun _ _=>Rt.look fun t2 _=>Rt.ite (fun _=>spw_rt e n _ (in40 (bnd_low hs))) fun _=>(exp_rt e n false).bd fun x hx=>Rt.ret (in50 hs hx)
theorem do_rt (n:Nat):XR .stm (doP e n):=Rt.look fun t0 _=>Rt.exp.bd fun _ _=>Rt.name.bd fun s hs=>(args_rt (exp_rt e n false) n).bd fun l hl=>Rt.exp.bd fun _ _=>Rt.look fun t1 _=>Rt.name.bd fun u hu=>Rt.ret (in59 hs hl (in75u hu))
section
variable {m:M Nd} (h:XR .stm m)
include h
theorem blk_rt (n:Nat):XR .blk (blockP e m n):=Rt.look fun t0 _=>Rt.exp.bd fun _ _=>(Rt.until h n).bd fun l hl=>Rt.ret (in11 hl)
theorem brn_rt (n:Nat):XR .stm (branchP e m n):=Rt.look fun t0 _=>Rt.exp.bd fun _ _=>(exp_rt e n true).bd fun a ha=>(blk_rt e h n).bd fun b hb=>Rt.acc ((blk_rt e h n).bd fun c hc=>Rt.ret (in52b ha hb hc)) (Rt.ret (in52 ha hb))
theorem sarm_rt (n:Nat):XR .sarm (sarmP e m n):=(pat_rt e 54 n).bd fun a ha=>(blk_rt e h n).bd fun b hb=>Rt.ret (in54 ha hb)
theorem cas_rt (n:Nat):XR .stm (casesP e m n):=Rt.look fun t0 _=>Rt.exp.bd fun _ _=>(exp_rt e n true).bd fun a ha=>Rt.exp.bd fun _ _=>(sarm_rt e h n).bd fun b hb=>(Rt.until (sarm_rt e h n) n).bd fun l hl=>Rt.ret (in53 ha hb hl)
end
theorem stm_rt:∀n:Nat,XR .stm (stmtP e n)
 | 0=>Rt.o
 | n+1=>by
  have I:=stm_rt n
  unfold stmtP
  refine Rt.look fun t0 _=>?_
  refine Rt.ite (fun _=>let_rt e n) fun _=>Rt.ite (fun _=>spw_rt e n _ (in40 π)) fun _=>Rt.ite (fun _=>brn_rt e I n) fun _=>Rt.ite (fun _=>cas_rt e I n) fun _=>?_
  refine Rt.ite (fun _=>Rt.next (Rt.name.bd fun s hs=>Rt.exp.bd fun _ _=>(exp_rt e n true).bd fun a ha=>(blk_rt e I n).bd fun b hb=>Rt.ret (in55 hs ha hb))) fun _=>?_
  refine Rt.ite (fun _=>(snd_rt e n).mono fun x hx=>hx.2) fun _=>Rt.ite (fun _=>Rt.next ((exp_rt e n false).bd fun a ha=>(snd_rt e n).bd fun b hb=>Rt.ret (in57 ha hb.1))) fun _=>?_
  exact Rt.ite (fun _=>do_rt e n) fun _=>Rt.ite (fun _=>Rt.next (Rt.ret in60)) fun _=>Rt.ite (fun _=>Rt.next ((exp_rt e n false).bd fun a ha=>Rt.ret (in61 ha))) fun _=>Rt.name.bd fun s hs=>Rt.exp.bd fun _ _=>(exp_rt e n false).bd fun a ha=>Rt.ret (in51 hs ha)
theorem mem_rt (n:Nat):XR .mem (memberP e n):=Rt.look fun t0 _=>Rt.acc (Rt.name.bd fun s hs=>Rt.exp.bd fun _ _=>(typ_rt e n).bd fun t ht=>Rt.exp.bd fun _ _=>(exp_rt e n false).bd fun x hx=>Rt.ret (in9 hs ht hx)) (Rt.exp.bd fun _ _=>Rt.name.bd fun s hs=>(flds_rt e n).bd fun l hl=>(blk_rt e (stm_rt e n) n).bd fun b hb=>Rt.ret (in10 hs hl hb))
theorem pol_rt:Rt policyP fun n=>-1≤n∧n≤9007199254740993:=Rt.acc (Rt.ret π) (Rt.acc (Rt.int.bd fun k hk=>Rt.ret ω) (Rt.ret π))
theorem fail_rt {α:Type} {P:α→Prop}:Rt (failP:M α) P:=fun ts _ a r h=>by cases h
theorem dcl_rt (n:Nat):XR .dcl (declP e n):=by
 unfold declP
 refine Rt.look fun t0 _=>?_
 refine Rt.acc (Rt.name.bd fun s hs=>Rt.exp.bd fun _ _=>(Rt.list (fld_rt e n) n).bd fun l hl=>Rt.ret (in2 hs hl)) ?_
 refine Rt.acc (Rt.name.bd fun s hs=>Rt.exp.bd fun _ _=>(Rt.items (ctor_rt e n) n).bd fun l hl=>Rt.ret (in3 hs hl)) ?_
 refine Rt.acc (Rt.name.bd fun s hs=>(flds_rt e n).bd fun l hl=>Rt.exp.bd fun _ _=>(typ_rt e n).bd fun t ht=>Rt.ret (in4 hs hl ht)) ?_
 refine Rt.acc (Rt.name.bd fun s hs=>(fun_rt e (exp_rt e n false) n).bd fun l hl=>Rt.ret (in5 hs hl)) ?_
 exact Rt.acc (Rt.name.bd fun s hs=>(flds_rt e n).bd fun l hl=>pol_rt.bd fun k hk=>Rt.exp.bd fun _ _=>(Rt.until (mem_rt e n) n).bd fun q hq=>Rt.ret (in6 hs hk hl hq)) fail_rt
theorem cvt_rt (p:Int) (n:Nat):XR .chg (convTypeP e p n):=Rt.name.bd fun s hs=>Rt.acc (Rt.look fun t1 _=>Rt.name.bd fun u hu=>(flds_rt e n).bd fun l hl=>Rt.exp.bd fun _ _=>(exp_rt e n false).bd fun x hx=>Rt.ret (in70b hs (in24u hu) hl hx)) ((flds_rt e n).bd fun l hl=>Rt.exp.bd fun _ _=>(exp_rt e n false).bd fun x hx=>Rt.ret (in70 hs hl hx))
theorem chg_rt (n:Nat):XR .chg (changeP e n):=by
 unfold changeP
 refine Rt.look fun t0 _=>?_
 refine Rt.acc (Rt.name.bd fun s hs=>Rt.exp.bd fun _ _=>Rt.int.bd fun k hk=>Rt.ret (in73 hs hk)) ?_
 refine Rt.acc (Rt.name.bd fun s hs=>Rt.ret (in74 hs)) ?_
 refine Rt.exp.bd fun _ _=>Rt.acc (cvt_rt e _ n) ?_
 refine Rt.acc (Rt.name.bd fun s hs=>(flds_rt e n).bd fun l hl=>Rt.exp.bd fun _ _=>(Rt.list (set_rt e (exp_rt e n false)) n).bd fun q hq=>Rt.ret (in71 hs hl hq)) ?_
 exact Rt.exp.bd fun _ _=>Rt.name.bd fun s hs=>Rt.exp.bd fun _ _=>Rt.look fun t1 _=>Rt.name.bd fun u hu=>(flds_rt e n).bd fun l hl=>Rt.exp.bd fun _ _=>Rt.look fun t2 _=>Rt.name.bd fun v hv=>(args_rt (exp_rt e n false) n).bd fun q hq=>Rt.ret (in72 hs (in24m hu) hl (in75 hv hq))
theorem one_rt (b:Bool) (n:Nat):Rt (oneP e b n) fun x=>shI .dcl x=true∨shI .chg x=true:=Rt.look fun t0 _=>Rt.ite (fun _=>(chg_rt e n).mono fun x hx=>.inr hx) fun _=>(dcl_rt e n).mono fun x hx=>.inl hx
theorem prog_rt (b:Bool) (n:Nat):∀k:Nat,Rt (progP e b n k) fun l=>∀x∈l,shI .dcl x=true∨shI .chg x=true
 | 0=>Rt.o
 | k+1=>fun ts ht a r h=>by
  cases ts with
  | nil =>
   have h:Re.ok [] []=Re.ok a r:=h
   injection h with h1 h2
   rw[←h1,←h2]
   exact⟨fun x hx=>(by cases hx),fun x hx=>(by cases hx)⟩
  | cons t q =>
   have H:Rt (do let a ←oneP e b n;let l ←progP e b n k;pure (a::l):M (List Nd)) fun l=>∀x∈l,shI .dcl x=true∨shI .chg x=true:=(one_rt e b n).bd fun x hx=>(prog_rt b n k).bd fun l hl=>Rt.ret (List.forall_mem_cons.2 ⟨hx,hl⟩)
   exact H (t::q) ht a r h
end
theorem run_right {l:List UInt8} {m:Nd} (h:runP true l=.ok m):rightB m=true:=by
 unfold runP at h
 cases hs:scanP l with
 | err x p=>rw[hs] at h;cases h
 | ok ts =>
  have hg:∀t∈ts,tokB t=true:=by
   unfold scanP at hs
   by_cases hl:32768<l.length
   · rw[if_pos hl] at hs;cases hs
   · rw[if_neg hl] at hs;exact scan_good _ _ _ hs
  rw[hs] at h
  have h:(match progP (l.length:Int) true (20*ts.length+1) (ts.length+1) ts with
   | .out=>RunR.err 0 0
   | .bad r=>.err 2 (offP (l.length:Int) r)
   | .ok q _=>match deepP 0 (.mk 1 e0 0 0 q) with
    | some p=>.err 10 p
    | none=>.ok (.mk 1 e0 0 0 q))=.ok m:=h
  cases hp:progP (l.length:Int) true (20*ts.length+1) (ts.length+1) ts with
  | out=>rw[hp] at h;cases h
  | bad r=>rw[hp] at h;cases h
  | ok q r =>
   rw[hp] at h
   have h:(match deepP 0 (.mk 1 e0 0 0 q) with
    | some p=>RunR.err 10 p
    | none=>.ok (.mk 1 e0 0 0 q))=.ok m:=h
   cases hd:deepP 0 (.mk 1 e0 0 0 q) with
   | some p=>rw[hd] at h;cases h
   | none =>
    rw[hd] at h
    injection h with h
    rw[←h]
    rw[deep_top] at hd
    have hq:=(prog_rt (l.length:Int) true _ _ ts hg q r hp).1
    unfold rightB
    refine tt (tt rfl rfl) (List.all_eq_true.2 fun x hx=>?_)
    have d:=deepL_mem hd hx
    rw[Bool.or_eq_true]
    rcases hq x hx with c|c
    · exact .inl (shp_cut _ _ _ _ c d)
    · exact .inr (shp_cut _ _ _ _ c d)
theorem run_round {l:List UInt8} {m:Nd} (h:runP true l=.ok m) (hl:(writeL (toksP m)).length≤32768):rightB m=true∧∃c,runP true (writeL (toksP m))=.ok c∧smN m c=true∧rightB c=true∧toksP c=toksP m:=by
 have hr:=run_right h
 obtain⟨c,h1,h2,_⟩:=run_back hr hl
 exact⟨hr,c,h1,sm_zo _ _ h2.symm,run_right h1,by rw[←zo_toks c,h2,zo_toks]⟩
end
theorem str_eq {s:Ê} {l:List UInt8}:(s.toList==l)=(s.data.toList==l):=by rw[ByteArray.toList_eq]
theorem bare_any (t:Nd) (cs:List Value) (w:À) (h:NdR w (lo w) cs t):Calls prog 27 #[.agg cs.toArray] w (EqSaid (bareB t) w):=by
 obtain⟨k,s,n,p,a,A,cap,rfl,rfl,_,_,ha⟩:=nd_form h
 obtain⟨tot,HV⟩:∃q,Hid (q=bareB (.mk k s n p a)):=⟨_,rfl⟩
 rw[←HV.o]
 obtain⟨W1,hW1⟩:∃q,Hid (q=w.alloc (.cells (cl k s n p A a.length cap).toArray 24)):=⟨_,rfl⟩
 have B1:Hid (Below w.heap.size w W1):=by show Below _ _ _;rw[hW1.o];exact belA (belR _) _
 have X1:Hid (Hs W1 w.heap.size 24 (cl k s n p A a.length cap).toArray):=by show Hs _ _ _ _;rw[hW1.o];exact Hs.new _ _ _
 have x1:W1.cell? ⟨w.heap.size,1,none⟩=some (.string s):=X1.o.c 1
 have x2:W1.cell? ⟨w.heap.size,2,none⟩=some (.int .i64 n):=X1.o.c 2
 clear h ha
 go_in
 go_upto_region 1 with fail
 rw[←hW1.o]
 clear hW1
 obtain⟨q1,h1⟩:∃q,(s.toList==[])=q:=⟨_,rfl⟩
 obtain⟨q2,h2⟩:∃q,(n==0)=q:=⟨_,rfl⟩
 have HQ:Hid (tot=(q1&&q2)):=by
  show _=_
  rw[HV.o,←h1,←h2,str_eq];rfl
 cases q1<;>(go_wp2;go_ret;exact⟨by rw[HQ.o];rfl,B1.o⟩)
theorem named_any {F:FuncId} {p:List UInt8→Bool} (hF:PredSaid F p) (t:Nd) (cs:List Value) (w:À) (h:NdR w (lo w) cs t):Calls prog 49 #[.agg cs.toArray,.func (.func F) #[] #[]] w (EqSaid (p (ndT t)&&ndN t==0) w):=by
 obtain⟨k,s,n,ps,a,A,cap,rfl,rfl,_,hs,ha⟩:=nd_form h
 obtain⟨tot,HV⟩:∃q,Hid (q=(p (ndT (.mk k s n ps a))&&ndN (.mk k s n ps a)==0)):=⟨_,rfl⟩
 rw[←HV.o]
 obtain⟨W1,hW1⟩:∃q,Hid (q=w.alloc (.cells (cl k s n ps A a.length cap).toArray 24)):=⟨_,rfl⟩
 have B1:Hid (Below w.heap.size w W1):=by show Below _ _ _;rw[hW1.o];exact belA (belR _) _
 have X1:Hid (Hs W1 w.heap.size 24 (cl k s n ps A a.length cap).toArray):=by show Hs _ _ _ _;rw[hW1.o];exact Hs.new _ _ _
 have x1:W1.cell? ⟨w.heap.size,1,none⟩=some (.string s):=X1.o.c 1
 have x2:W1.cell? ⟨w.heap.size,2,none⟩=some (.int .i64 n):=X1.o.c 2
 have hcf:=hF.1
 unfold Ent at hcf
 have HF:=η (hF.2 s W1 hs)
 clear h ha hF hs
 go_in
 go_upto_region 1 with fail
 rw[←hW1.o]
 clear hW1
 obtain⟨q1,h1⟩:∃q,p s.data.toList=q:=⟨_,rfl⟩
 obtain⟨q2,h2⟩:∃q,(n==0)=q:=⟨_,rfl⟩
 have HQ:Hid (tot=(q1&&q2)):=by
  show _=_
  rw[HV.o,←h1,←h2];rfl
 have H1:=η h1
 clear h1
 cases q1<;>(go_wp2_with fail;refine HF.o.mono ?_;rw[H1.o];rintro _ _ ⟨rfl,rfl⟩;go_wp2;go_ret;exact⟨by rw[HQ.o];rfl,B1.o⟩)
structure FvS (k:Nat) (F:FuncId) (c:Array Value) (g:Nd→Bool) (w:À):Prop where
 e:Ent F
 c:∀(X:À) (cs:List Value) (t:Nd) (d:Nat),Below w.heap.size w X→d+k=41→NdR X (lo X) cs t→Calls prog F (#[.agg cs.toArray,.int .i64 (d:Int)]++c) X (EqSaid (g t) X)
theorem FvS.bel {k:Nat} {F:FuncId} {c:Array Value} {g:Nd→Bool} {w w':À} (h:FvS k F c g w) (hb:Below w.heap.size w w'):FvS k F c g w':=⟨h.e,fun X cs t d hX=>h.c X cs t d (Proofs.YtbjdcogmiggamaaGreatDoor.bel hb hX)⟩
theorem all_at {g:Nd→Bool} {l:List Nd} {j:Nat} (h:j<l.length):(l.drop j).all g=(g l[j]&&(l.drop (j+1)).all g):=by
 rw[List.drop_eq_getElem_cons h,List.all_cons]
theorem all_any {k:Nat} {F:FuncId} {c:Array Value} {g:Nd→Bool} (l:List Nd) (A:Option Addr) (cap d:Nat) (w:À) (hd:d+k=41) (hl:NdsR w (lo w) (.slice A l.length cap) l) (hF:FvS k F c g w) :
 Calls prog 51 #[.slice A l.length cap,.int .i64 (d:Int),.func (.func F) #[] c] w (EqSaid (l.all g) w):=by
 have lm:l.length≤9223372036854775807:=hl.len.2
 obtain⟨HL,HD,HF⟩:=zd3 hl hd hF
 have hcf:=hF.e
 unfold Ent at hcf
 obtain⟨tot,HV⟩:∃q,Hid (q=l.all g):=⟨_,rfl⟩
 rw[←HV.o]
 clear hl hd hF
 go_in
 go_wp2_with fail
 go_loopw [11] (fun i wr=>∃(j:Nat),j≤l.length∧i=.int .i64 j∧Hid (tot=(l.drop j).all g)∧Hid (Below w.heap.size w wr)) (fun i _=>l.length-(intOf i).toNat)
 case atStart=>exact⟨0,by omega,rfl,HV.o,Below.refl _ _⟩
 case round =>
  obtain⟨j,hj,rfl,HQ,HB⟩:=hrel
  by_cases hlt:j<l.length
  · have u1:decide ((j:Int)<(l.length:Int))=true:=decide_eq_true ω
    have HAT:=η (HQ.o.trans (all_at hlt))
    obtain⟨b,off,k1,s1,m1,p1,D1,l1,c1,rfl,hg,hr1,e0,e1,e2,e3,e4⟩:=nds_at (NdsR.to HL.o (sub_lo HB.o)) hlt
    have HR:=η hr1
    have j0:(0:Int)≤(j:Int):=by omega
    have j1:(j:Int)<(l.length:Int):=by omega
    obtain⟨W2,hW2⟩:∃q,Hid (q=wr.alloc (.cells (cl k1 s1 m1 p1 D1 l1 c1).toArray 24)):=⟨_,rfl⟩
    have B2:Hid (Below wr.heap.size wr W2):=by show Below _ _ _;rw[hW2.o];exact belA (belR _) _
    have BX2:Hid (Hs W2 wr.heap.size 24 (cl k1 s1 m1 p1 D1 l1 c1).toArray):=by show Hs _ _ _ _;rw[hW2.o];exact Hs.new _ _ _
    have HC:=η (HF.o.c W2 _ _ d (bel HB.o B2.o) HD.o (HR.o.to (sub_lo B2.o)))
    clear hr1 hg HQ
    go_upto_region 4 with fail
    rw[←hW2.o]
    clear hW2 e0 e1 e2 e3 e4
    cases hq:g l[j] with
    | false =>
     have HD2:=η (HAT.o.trans (by rw[hq,Bool.false_and]))
     go_wp2_with (refine lr5 BX2 ?_)
     refine HC.o.mono ?_
     rw[hq]
     rintro _ w3 ⟨rfl,hb3⟩
     have B3:=η (bel (bel HB.o B2.o) hb3)
     clear hb3
     go_wp2
     go_ret
     exact⟨by rw[HD2.o];rfl,B3.o⟩
    | true =>
     have HD2:=η (HAT.o.trans (by rw[hq,Bool.true_and]))
     go_wp2_with (refine lr5 BX2 ?_)
     refine HC.o.mono ?_
     rw[hq]
     rintro _ w3 ⟨rfl,hb3⟩
     have B3:=η (bel (bel HB.o B2.o) hb3)
     clear hb3
     go_wp2_with fail
     exact⟨⟨j+1,by omega,by go_num,HD2.o,B3.o⟩,by simp[intOf];omega⟩
  · have u1:decide ((j:Int)<(l.length:Int))=false:=decide_eq_false ω
    have HE:Hid (tot=true):=by show _=_;rw[HQ.o,List.drop_eq_nil_of_le ω,List.all_nil]
    go_wp2
    go_ret
    exact⟨by rw[HE.o];rfl,HB.o⟩
structure Fx where
 F:FuncId
 c:Array Value
 g:Nd→Bool
def Fx.v (x:Fx):Value:=.func (.func x.F) #[] x.c
def serG:List Nd→List Fx→Bool
 | [],[]=>true
 | x::l,s::q=>s.g x&&serG l q
 | _,_=>false
theorem serG_len:∀(a:List Nd) (b:List Fx),a.length≠b.length→serG a b=false
 | [],[],h=>absurd rfl h
 | [],_::_,_=>rfl
 | _::_,[],_=>rfl
 | x::a,y::b,h=>by rw[serG,serG_len a b (fun e=>h (by simp[e])),Bool.and_false]
theorem serG_at {a:List Nd} {b:List Fx} {j:Nat} (h:j<a.length) (k:j<b.length):serG (a.drop j) (b.drop j)=(b[j].g a[j]&&serG (a.drop (j+1)) (b.drop (j+1))):=by
 rw[List.drop_eq_getElem_cons h,List.drop_eq_getElem_cons k,serG]
abbrev FxR (w:À) (P:Nat→Prop) (v:Value) (q:List Fx):Prop:=SlR w P 1 (fun cs x=>cs=[x.v]) v q
theorem fxs_at {w:À} {P:Nat→Prop} {A:Option Addr} {n cap:Nat} {q:List Fx} (h:FxR w P (.slice A n cap) q) {i:Nat} (hi:i<q.length):∃g off,A=some ⟨g,off,none⟩∧P g∧w.cell? ⟨g,off+i,none⟩=some (.func (.func q[i].F) #[] q[i].c):=by
 obtain⟨g,off,cs,hA,hg,hr,_,hc⟩:=SlR.at h hi
 subst hr
 have:=hc 0 _ rfl
 rw[Nat.mul_one] at this
 exact⟨g,off,hA,hg,this⟩
theorem series_any {k:Nat} (q:List Fx) (l:List Nd) (A B:Option Addr) (cap cb d:Nat) (w:À) (hd:d+k=41) (hl:NdsR w (lo w) (.slice A l.length cap) l) (hq:FxR w (lo w) (.slice B q.length cb) q) (hF:∀i (h:i<q.length),FvS k q[i].F q[i].c q[i].g w) :
 Calls prog 90 #[.slice A l.length cap,.int .i64 (d:Int),.slice B q.length cb] w (EqSaid (serG l q) w):=by
 have lm:l.length≤9223372036854775807:=hl.len.2
 have ln:q.length≤9223372036854775807:=hq.len.2
 obtain⟨HL,HR0,HD,HF⟩:=zd4 hl hq hd hF
 obtain⟨tot,HV⟩:∃z,Hid (z=serG l q):=⟨_,rfl⟩
 rw[←HV.o]
 clear hl hd hF hq
 by_cases hlen:l.length=q.length
 · have u5:((l.length:Int) != (q.length:Int))=false:=by simp;omega
   have HE:=η hlen
   clear hlen
   go_in
   go_wp2_with fail
   go_loopw [16] (fun i wr=>∃(j:Nat),j≤q.length∧i=.int .i64 j∧Hid (tot=serG (l.drop j) (q.drop j))∧Hid (Below w.heap.size w wr)) (fun i _=>q.length-(intOf i).toNat)
   case atStart=>exact⟨0,by omega,rfl,HV.o,Below.refl _ _⟩
   case round =>
    obtain⟨j,hj,rfl,HQ,HB⟩:=hrel
    by_cases hlt:j<q.length
    · have hlb:j<l.length:=by have:=HE.o;omega
      have u1:decide ((j:Int)<(q.length:Int))=true:=decide_eq_true ω
      have HAT:=η (HQ.o.trans (serG_at hlb hlt))
      obtain⟨b,off,k1,s1,m1,p1,D1,l1,c1,rfl,hg,hr1,e0,e1,e2,e3,e4⟩:=nds_at (NdsR.to HL.o (sub_lo HB.o)) hlb
      obtain⟨b2,off2,rfl,hg2,f0⟩:=fxs_at (SlR.to' HR0.o (sub_lo HB.o) fun _ _ x=>x) hlt
      have HR:=η hr1
      have j0:(0:Int)≤(j:Int):=by omega
      have j1:(j:Int)<(q.length:Int):=by omega
      have j2:(j:Int)<(l.length:Int):=by omega
      have hcf:=(HF.o j hlt).e
      unfold Ent at hcf
      have HC:=η ((HF.o j hlt).c wr _ _ d HB.o HD.o HR.o)
      generalize hFq:q[j].F=Fq at hcf f0 HC
      generalize hcq:q[j].c=cq at f0 HC
      clear hr1 hg hg2 HQ hFq hcq
      cases hq:q[j].g l[j] with
      | false =>
       have HD2:=η (HAT.o.trans (by rw[hq,Bool.false_and]))
       go_wp2_with fail
       refine HC.o.mono ?_
       rw[hq]
       rintro _ w3 ⟨rfl,hb3⟩
       have B3:=η (bel HB.o hb3)
       clear hb3
       go_wp2
       go_ret
       exact⟨by rw[HD2.o];rfl,B3.o⟩
      | true =>
       have HD2:=η (HAT.o.trans (by rw[hq,Bool.true_and]))
       go_wp2_with fail
       refine HC.o.mono ?_
       rw[hq]
       rintro _ w3 ⟨rfl,hb3⟩
       have B3:=η (bel HB.o hb3)
       clear hb3
       go_wp2_with fail
       exact⟨⟨j+1,by omega,by go_num,HD2.o,B3.o⟩,by simp[intOf];omega⟩
    · have u1:decide ((j:Int)<(q.length:Int))=false:=decide_eq_false ω
      have HX:Hid (tot=true):=by show _=_;rw[HQ.o,List.drop_eq_nil_of_le (by have:=HE.o;omega),List.drop_eq_nil_of_le ω];rfl
      go_wp2
      go_ret
      exact⟨by rw[HX.o];rfl,HB.o⟩
 · have u5:((l.length:Int) != (q.length:Int))=true:=by simp;omega
   have HX:Hid (tot=false):=HV.o.trans (serG_len _ _ hlen)
   clear hlen
   go_in
   go_wp2
   go_ret
   exact⟨by rw[HX.o];rfl,Below.refl _ _⟩
end Go.Proofs.YtbjdcogmiggamaaGreatDoor
