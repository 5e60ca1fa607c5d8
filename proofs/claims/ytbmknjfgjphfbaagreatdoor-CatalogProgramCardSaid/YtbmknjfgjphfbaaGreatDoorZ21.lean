import Derived.WalkMore
import Derived.Scope
import Derived.Recover
import Derived.Test.YtbmknjfgjphfbaaGreatDoorZ20
set_option linter.all false
namespace Go.Proofs.YtbmknjfgjphfbaaGreatDoor
open Proofs.Tryz RowKit Maps WideMaps ChangeMaps
set_option maxRecDepth 100000
set_option maxHeartbeats 8000000
section
theorem ba_ext {a b:Ê} (h:a.data.toList=b.data.toList):a=b:=by
 cases a;cases b;congr 1;exact Array.toList_inj.1 h
theorem word_list {s:Ê} {i:Nat} (h:i≤s.size):(s.extract i (wordE s i)).data.toList=(dr s i).takeWhile nameC:=by
 have h1:=(List.takeWhile_sublist nameC (l:=dr s i)).length_le
 have h2:=dr_len h
 have h3:wordE s i=i+((dr s i).takeWhile nameC).length:=rfl
 rw[ext_list s i _ ω ω,h3,Nat.add_sub_cancel_left]
 exact (List.prefix_iff_eq_take.1 (List.takeWhile_prefix nameC)).symm
theorem dr_add (s:Ê) (i k:Nat):dr s (i+k)=(dr s i).drop k:=by unfold dr;rw[List.drop_drop]
theorem word_drop {s:Ê} {i:Nat}:dr s (wordE s i)=(dr s i).dropWhile nameC:=by
 unfold wordE
 rw[dr_add]
 conv=>lhs;rw[←List.takeWhile_append_dropWhile (p:=nameC) (l:=dr s i)]
 rw[List.takeWhile_append_dropWhile]
 have:=List.takeWhile_append_dropWhile (p:=nameC) (l:=dr s i)
 conv=>lhs;rhs;rw[←this]
 rw[List.drop_left]
theorem ext_str {t:Ê} {l:List UInt8} (h:t.data.toList=l):t=str l:=ba_ext (by rw[h];rfl)
theorem tk_is {k n p:Int} {t:Ê} (hk:i64 k) (hn:0≤n∧n≤9007199254740992) (hp:i64 p) (ht:t.size≤maxLen):TkR (tkc k t n p).toList ⟨k,t,n,p⟩:=⟨rfl,hk,hn,hp,ht⟩
theorem num_bd {l:List UInt8} {n:Int} (h:intL l=.ok n):0≤n∧n≤9007199254740992:=by
 unfold intL at h
 split at h
 · cases h
 · split at h
   · cases h
   · cases hn:numP l 0 9007199254740992 with
     | none=>rw[hn] at h;cases h
     | some m =>
      rw[hn] at h
      injection h with h
      subst h
      have key:∀neg k,finN neg k 0 9007199254740992=some m→0≤m∧m≤9007199254740992:=fun neg k hk=>by
       unfold finN at hk
       by_cases h1:neg=false∧k=-9223372036854775808
       · rw[if_pos h1] at hk;cases hk
       · rw[if_neg h1] at hk
         by_cases h2:(if neg then k else -k)<0∨9007199254740992<(if neg then k else -k)
         · rw[if_pos h2] at hk;cases hk
         · rw[if_neg h2] at hk
           injection hk with hk
           rw[←hk]
           exact⟨Int.not_lt.1 fun h=>h2 (.inl h),Int.not_lt.1 fun h=>h2 (.inr h)⟩
      unfold numP at hn
      split at hn
      · split at hn
        · cases hn
        · cases ha:accN l.tail 0 with
          | none=>rw[ha] at hn;cases hn
          | some k=>rw[ha] at hn;exact key _ _ hn
      · split at hn
        · cases hn
        · cases ha:accN l 0 with
          | none=>rw[ha] at hn;cases hn
          | some k=>rw[ha] at hn;exact key _ _ hn
def catR (ts:List Tk):LexR→LexR
 | .err x p=>.err x p
 | .ok l=>.ok (ts++l)
theorem scan_nil {N n j j':Nat} {s:Ê} (h:dr s j'=skipL false (dr s j)) (h0:dr s j'=[]):scanL N (n+1) (dr s j)=.ok []:=by
 rw[scanL,←h,h0]
theorem scan_err {n j j':Nat} {s:Ê} {x:Int} {c:UInt8} {r:List UInt8} (h:dr s j'=skipL false (dr s j)) (hj:j'≤s.size) (hc:dr s j'=c::r) (ht:tokL (j':Int) (c::r)=.error x):scanL s.size (n+1) (dr s j)=.err x (j':Int):=by
 have hl:((s.size:Int)-((c::r).length:Int))=(j':Int):=by rw[←hc,dr_len hj];omega
 rw[scanL,←h,hc]
 show (match tokL ((s.size:Int)-((c::r).length:Int)) (c::r) with|.error x=>LexR.err x _|.ok (t,q)=>_)=_
 rw[hl,ht]
theorem scan_ok {n j j':Nat} {s:Ê} {t:Tk} {q:List UInt8} {c:UInt8} {r:List UInt8} (h:dr s j'=skipL false (dr s j)) (hj:j'≤s.size) (hc:dr s j'=c::r) (ht:tokL (j':Int) (c::r)=.ok (t,q)):scanL s.size (n+1) (dr s j)=catR [t] (scanL s.size n q):=by
 have hl:((s.size:Int)-((c::r).length:Int))=(j':Int):=by rw[←hc,dr_len hj];omega
 rw[scanL,←h,hc]
 show (match tokL ((s.size:Int)-((c::r).length:Int)) (c::r) with|.error x=>LexR.err x _|.ok (t,q)=>_)=_
 rw[hl,ht]
 show (match scanL s.size n q with|.err x p=>_|.ok ts=>_)=_
 cases scanL s.size n q<;>rfl
theorem catR_cat (a b:List Tk) (x:LexR):catR a (catR b x)=catR (a++b) x:=by
 cases x with
 | err=>rfl
 | ok l=>show LexR.ok _=LexR.ok _;rw[List.append_assoc]
structure Sk (w:À) (s:Ê) (wr:À) (v:Value) (ts:List Tk) (j:Nat):Prop where
 sn:Sn wr w.heap.size s j
 bel:Below w.heap.size w wr
 row:∃xs,wr.ownsRow (w.heap.size+1) 198 4 v ts.length xs∧RowG 4 TkR xs ts
theorem stp_below {w wr w':À} (h:Below w.heap.size w wr) (k:Stp (only w.heap.size) wr w'):Below w.heap.size w w':=
 ⟨k.os.trans h.os,k.tape.trans h.tape,k.output.trans h.output,Nat.le_trans h.size k.size,fun b hb=>(k.block b (Nat.lt_of_lt_of_le hb h.size) (fun e=>by have e:b=w.heap.size:=e;omega)).trans (h.block b hb)⟩
section
variable {w wr w':À} {s:Ê} {v:Value} {ts:List Tk} {j j':Nat}
theorem Sk.stp (k:Sk w s wr v ts j) (h:Stp (only w.heap.size) wr w') (hs:Sn w' w.heap.size s j'):Sk w s w' v ts j':=by
 obtain⟨xs,ho,hr⟩:=k.row
 exact⟨hs,stp_below k.bel h,xs,row_stp ho h (fun b e x=>by have x:b=w.heap.size:=x;have:=(ho.lt b e).1;omega),hr⟩
theorem Sk.belw (k:Sk w s wr v ts j) (h:Below wr.heap.size wr w'):Sk w s w' v ts j:=k.stp (Stp.of_below h) (k.sn.bel h)
theorem Sk.box (k:Sk w s wr v ts j) {g:Nat} (hg:w.heap.size+1≤g) (hv:∀b,v.ownBlock=some b→b≠g) (hb:∀b,b≠g→w'.heap[b]?=wr.heap[b]?) (hz:w'.heap.size=wr.heap.size) (h3:w'.os=wr.os∧w'.tape=wr.tape∧w'.output=wr.output):Sk w s w' v ts j:=by
 obtain⟨xs,ho,hr⟩:=k.row
 refine⟨⟨(hb _ ω).trans k.sn.box,k.sn.le,k.sn.sz⟩,⟨h3.1.trans k.bel.os,h3.2.1.trans k.bel.tape,h3.2.2.trans k.bel.output,by rw[hz];exact k.bel.size,fun b h=>(hb b ω).trans (k.bel.block b h)⟩,xs,⟨ho.1,?_⟩,hr⟩
 rcases ho.2 with hn|⟨g2,cap,cur,rfl,h1,hgg,rest⟩
 · exact .inl hn
 · exact .inr ⟨g2,cap,cur,rfl,h1,(hb g2 (hv g2 rfl)).trans hgg,rest⟩
end
theorem info_198:(prog.info? 198).map (fun i=>(i.zero,i.size,i.bytes))=some (some (.agg #[.int .i64 0,.string ⟨#[]⟩,.int .i64 0,.int .i64 0]),4,40):=by kernel_rfl
def ScV (w:À) (R:LexR) (e:Ending) (w':À):Prop:=
 match R with
 | .err x p=>e=.returned (.tuple #[.slice none 0 0,.int .i64 x,.int .i64 p])∧Below w.heap.size w w'
 | .ok ts=>∃A cap,e=.returned (.tuple #[.slice A ts.length cap,.int .i64 0,.int .i64 0])∧Below w.heap.size w w'∧SlR w' (nw w.heap.size w') 4 TkR (.slice A ts.length cap) ts
theorem int_errs {l:List UInt8} {x:Int} (h:intL l=.error x):x=2∨x=6:=by
 unfold intL at h
 split at h
 · injection h with h;exact .inl h.symm
 · split at h
   · injection h with h;exact .inl h.symm
   · split at h
     · injection h with h;exact .inr h.symm
     · cases h
theorem text_errs:∀(l a:List UInt8) (x:Int),textL a l=.error x→x=2∨x=15:=by
 intro l
 induction hl:l.length using Nat.strongRecOn generalizing l with
 | _ n ih =>
  intro a x h
  cases l with
  | nil=>rw[textL_nil] at h;injection h with h;exact .inl h.symm
  | cons c r =>
   rw[textL_cons] at h
   split at h
   · injection h with h;exact .inl h.symm
   · split at h
     · split at h
       · injection h with h;exact .inr h.symm
       · cases h
     · split at h
       · cases r with
         | nil=>injection h with h;exact .inl h.symm
         | cons d r2 =>
          rw[textE_cons] at h
          cases hu:unesc d with
          | none=>rw[hu] at h;injection h with h;exact .inl h.symm
          | some y=>rw[hu] at h;exact ih r2.length (by rw[←hl];simp;omega) r2 rfl _ _ h
       · exact ih r.length (by rw[←hl];simp) r rfl _ _ h
theorem text_len:∀(l a b q:List UInt8),textL a l=.ok (b,q)→b.length≤4096:=by
 intro l
 induction hl:l.length using Nat.strongRecOn generalizing l with
 | _ n ih =>
  intro a b q h
  cases l with
  | nil=>rw[textL_nil] at h;cases h
  | cons c r =>
   rw[textL_cons] at h
   split at h
   · cases h
   · split at h
     · split at h
       · cases h
       · injection h with h;injection h with h1 h2;subst h1;omega
     · split at h
       · cases r with
         | nil=>cases h
         | cons d r2 =>
          rw[textE_cons] at h
          cases hu:unesc d with
          | none=>rw[hu] at h;cases h
          | some y=>rw[hu] at h;exact ih r2.length (by rw[←hl];simp;omega) r2 rfl _ _ _ h
       · exact ih r.length (by rw[←hl];simp) r rfl _ _ _ h
theorem mark_len {l:List UInt8} {n:Nat} (h:markN l=some n):1≤n:=by
 unfold markN at h
 split at h
 · injection h with h;omega
 · split at h
   · injection h with h;omega
   · cases h
theorem tok_mark (l:List UInt8) (at_:Int):(if 2≤l.length∧markB (l.take 2)=true then Except.ok ((⟨4,str (l.take 2),0,at_⟩:Tk),l.drop 2) else if markB (l.take 1)=true then .ok (⟨4,str (l.take 1),0,at_⟩,l.drop 1) else .error (2:Int))=match markN l with|none=>.error 2|some n=>.ok (⟨4,str (l.take n),0,at_⟩,l.drop n):=by
 unfold markN
 split
 · rfl
 · split<;>rfl
theorem sk_push {w W5 w7:À} {s:Ê} {Ar A6:Option Addr} {cr c6:Nat} {ts:List Tk} {t:Tk} {j:Nat} {ob:Obj} {xs cs:List Value} (k:Sk w s W5 (.slice Ar ts.length cr) ts j) (hg:(W5.alloc ob).grownBy w7 (Value.slice Ar ts.length cr).ownBlock) (hown:w7.ownsRow (w.heap.size+1) 198 4 (.slice A6 (ts.length+1) c6) (ts++[t]).length (xs++cs)) (hr:RowG 4 TkR xs ts) (ht:TkR cs t):Sk w s w7 (.slice A6 (ts.length+1) c6) (ts++[t]) j:=by
 obtain⟨xs0,ho,_⟩:=k.row
 have hv:∀b,(Value.slice Ar ts.length cr).ownBlock=some b→w.heap.size+1≤b:=fun b e=>(ho.lt b e).1
 have hz:=hg.size
 have hb:∀b,b≤w.heap.size→b<W5.heap.size→w7.heap[b]?=W5.heap[b]?:=fun b h1 h2=>(hg.block b (by simp;omega) (fun e=>by have:=hv b e.symm;omega)).trans (Below.heap_alloc _ _ _ h2)
 have hc:cs.length=4:=by rw[ht.1];rfl
 refine⟨⟨(hb _ (Nat.le_refl _) k.sn.box.lt).trans k.sn.box,k.sn.le,k.sn.sz⟩,⟨hg.os.trans k.bel.os,hg.tape.trans k.bel.tape,hg.output.trans k.bel.output,by have:=k.bel.size;simp at hz;omega,fun b h=>(hb b ω (Nat.lt_of_lt_of_le h k.bel.size)).trans (k.bel.block b h)⟩,_,hown,hr.snoc hc ht⟩
set_option maxHeartbeats 16000000 in
theorem scan_any (s:Ê) (w:À) (hs:s.size≤maxLen):Calls prog 55 #[.string s] w (ScV w (scanP s.data.toList)):=by
 have hm:s.size≤9223372036854775807:=hs
 have hlen:s.data.toList.length=s.size:=by simp
 by_cases hbig:32768<s.size
 · have u0:decide ((32768:Int)<(s.size:Int))=true:=decide_eq_true ω
   have HV:Hid (scanP s.data.toList=.err 15 0):=by show _=_;unfold scanP;rw[hlen,if_pos hbig]
   clear hbig hlen
   go_in
   go_wp2_with fail
   go_step3
   go_wp2_with fail
   rw[Exit.noGoto_ret]
   go_ret3
   unfold ScV;rw[HV.o]
   exact⟨rfl,belR _⟩
 · have u0:decide ((32768:Int)<(s.size:Int))=false:=decide_eq_false ω
   obtain⟨R,hR⟩:∃R,R=scanP s.data.toList:=⟨_,rfl⟩
   have HR:Hid (R=catR [] (scanL s.size (s.size+1) (dr s 0))):=by
    show _=_;rw[hR];unfold scanP;rw[hlen,if_neg hbig];show scanL _ _ _=catR [] (scanL _ _ _);unfold dr;rw[List.drop_zero];cases scanL s.size (s.size+1) s.data.toList<;>rfl
   rw[←hR]
   obtain⟨io,hio,hiz,his,hib⟩:=info_parts info_198
   have HIO:=η (And.intro hio (And.intro hiz (And.intro his hib)))
   clear hio hiz his hib hR hlen
   obtain⟨W0,HW⟩:∃W0,Hid (W0=w.alloc (.cells #[.string s,.int .i64 0] 196)):=⟨_,rfl⟩
   have HK0:Hid (Sk w s W0 (.slice none 0 0) [] 0):=by show Sk _ _ _ _ _ _;rw[HW.o];exact⟨⟨Hs.new _ _ _,Nat.zero_le _,by omega⟩,belA (belR _) _,[],⟨rfl,.inl ⟨rfl,rfl⟩⟩,RowG.nil _⟩
   clear hbig
   go_in
   go_wp2_with fail
   go_step3
   go_wp2_with fail
   rw[←HW.o]
   clear HW
   go_step3
   go_wp2_with fail
   go_loopw [6] (fun v wr=>∃(ts:List Tk) (j n:Nat),Hid (Sk w s wr v ts j)∧Hid ((dr s j).length<n∧ts.length+n≤s.size+1∧R=catR ts (scanL s.size n (dr s j)))) (fun _ wr=>s.size-snAt w.heap.size wr)
   case atStart=>exact⟨[],0,s.size+1,HK0,⟨by rw[dr_len (Nat.zero_le _)];omega,by simp,HR.o⟩⟩
   case round =>
    clear HK0 HR
    obtain⟨ts,j,n,HK,HE⟩:=hrel
    obtain⟨_,hro,_⟩:=HK.o.row
    obtain⟨Ar,cr,rfl⟩:=row_form hro
    clear hro
    cases hn:n with
    | zero=>exact absurd HE.o.1 (by rw[hn];exact Nat.not_lt_zero _)
    | succ n =>
    subst hn
    have HSZ:=η HK.o.sn.sz
    have HA0:=η HK.o.sn.at
    have HTL:Hid (ts.length≤32768):=(by have h1:=HE.o.2.1;have h2:=HSZ.o;show _≤_;omega)
    go_wp2_with fail
    refine (skip_any HK.o.sn).mono ?_
    rintro _ w1 ⟨rfl,st1,j1,sn1,hd1,hj1⟩
    obtain⟨K1,HD,HJ⟩:=zd3 (HK.o.stp st1 sn1) hd1 hj1
    clear st1 sn1 hd1 hj1
    have c1:w1.cell? ⟨w.heap.size,1,none⟩=some (.int .i64 (j1:Int)):=K1.o.sn.box.cell 1
    obtain⟨W2,HW2⟩:∃W2,Hid (W2=w1.alloc (.cells (tkc 0 ⟨#[]⟩ 0 0) 198)):=⟨_,rfl⟩
    have K2:Hid (Sk w s W2 (.slice Ar ts.length cr) ts j1):=by show Sk _ _ _ _ _ _;rw[HW2.o];exact K1.o.belw (belA (belR _) _)
    have Z2:Hid (Hs W2 w1.heap.size 198 (tkc 0 ⟨#[]⟩ 0 0)):=by show Hs _ _ _ _;rw[HW2.o];exact Hs.new _ _ _
    have NG:Hid (w.heap.size+1≤w1.heap.size∧∀b,(Value.slice Ar ts.length cr).ownBlock=some b→b<w1.heap.size):=⟨K1.o.sn.box.lt,fun b e=>by obtain⟨_,ho,_⟩:=K1.o.row;exact (ho.lt b e).2⟩
    go_upto_region 8 with fail
    rw[←HW2.o]
    clear c1 HW2
    have hle:=K1.o.sn.le
    by_cases hlt:j1<s.size
    · have qe:((j1:Int)==(s.size:Int))=false:=by simp;omega
      have k0:(0:Int)≤(j1:Int):=by omega
      have k1:(j1:Int)<(s.size:Int):=by omega
      have HC:=η (dr_at hlt)
      have E1:Hid (∀x:Int,tokL (j1:Int) (s[j1]::dr s (j1+1))=.error x→R=.err x (j1:Int)):=fun x hx=>HE.o.2.2.trans (by rw[scan_err HD.o hle HC.o hx];rfl)
      have E2:Hid (∀(t:Tk) (q:List UInt8),tokL (j1:Int) (s[j1]::dr s (j1+1))=.ok (t,q)→R=catR (ts++[t]) (scanL s.size n q)):=fun t q hx=>HE.o.2.2.trans (by rw[scan_ok HD.o hle HC.o hx,catR_cat])
      have HLN:Hid ((dr s j1).length≤n):=by have h1:=HE.o.1;have h2:=HJ.o;have h3:=HK.o.sn.le;rw[dr_len h3] at h1;show _≤_;rw[dr_len hle];omega
      have HLT:Hid (j1+1≤s.size∧True):=⟨hlt,trivial⟩
      cases hlet:letC s[j1] with
      | true =>
       have HL:=η hlet
       clear hlet
       have HJ3:Hid (j1<wordE s j1):=by show _<_;unfold wordE;rw[HC.o,List.takeWhile_cons_of_pos (by rw[name_or,HL.o];rfl)];simp
       go_wp2_with fail
       refine (letter_any _ _).mono ?_
       rw[HL.o]
       rintro _ w9 ⟨rfl,hw⟩
       rw[←hw]
       clear hw w9
       go_wp2_with fail
       refine (sname_any K2.o.sn).mono ?_
       rintro _ W3 ⟨rfl,st,sn3⟩
       obtain⟨j3,hj3⟩:∃j3,j3=wordE s j1:=⟨_,rfl⟩
       rw[←hj3] at sn3 HJ3
       have TX:Hid (s.extract j1 (wordE s j1)=str ((s[j1]::dr s (j1+1)).takeWhile nameC)):=by rw[←HC.o];exact ext_str (word_list hle)
       have QX:Hid (dr s j3=(s[j1]::dr s (j1+1)).dropWhile nameC):=by show _=_;rw[←HC.o,hj3];exact word_drop
       rw[TX.o]
       have TZ:Hid ((str ((s[j1]::dr s (j1+1)).takeWhile nameC)).size≤maxLen):=by show _≤_;rw[←TX.o];unfold maxLen;have:=HSZ.o;simp;omega
       obtain⟨K3,Z3⟩:=zd2 (K2.o.stp st sn3) (hs_stp Z2.o st (fun e=>by have:=NG.o.1;have e:w1.heap.size=w.heap.size:=e;omega))
       clear st sn3 hj3
       have O3:=setRow_heap _ _ _ (tkc 1 (str ((s[j1]::dr s (j1+1)).takeWhile nameC)) 0 0) _ _ Z3.o
       have KR:=η (K3.o.box (w':=W3.setRow w1.heap.size (tkc 1 (str ((s[j1]::dr s (j1+1)).takeWhile nameC)) 0 0)) (g:=w1.heap.size) NG.o.1 (fun b e x=>by have:=NG.o.2 b e;omega) (fun b hb=>setRow_other _ _ _ _ hb) (by simp) ⟨rfl,rfl,rfl⟩)
       have ZR:Hid (Hs (W3.setRow w1.heap.size (tkc 1 (str ((s[j1]::dr s (j1+1)).takeWhile nameC)) 0 0)) w1.heap.size 198 (tkc 1 (str ((s[j1]::dr s (j1+1)).takeWhile nameC)) 0 0)):=O3
       clear O3
       go_upto_region 17 with (refine wpList_store_row rfl 198 _ _ rfl w1.heap.size (tkc 1 (str ((s[j1]::dr s (j1+1)).takeWhile nameC)) 0 0) rfl rfl 198 _ Z3.o Δ rfl (by simp[Value.oneCell']) ?_)
       generalize W3.setRow w1.heap.size (tkc 1 (str ((s[j1]::dr s (j1+1)).takeWhile nameC)) 0 0)=W4 at KR ZR ⊢
       have f3:W4.frozen? ⟨w1.heap.size,3,none⟩=false:=ZR.o.free 3
       have z3:W4.cell? ⟨w1.heap.size,3,none⟩=some (.int .i64 0):=ZR.o.cell 3
       obtain⟨W5,HW5⟩:∃W5,Hid (W5=W4.setCell ⟨w1.heap.size,3,none⟩ (.int .i64 (j1:Int))):=⟨_,rfl⟩
       have K5:Hid (Sk w s W5 (.slice Ar ts.length cr) ts j3):=by show Sk _ _ _ _ _ _;rw[HW5.o];exact KR.o.box (g:=w1.heap.size) NG.o.1 (fun b e x=>by have:=NG.o.2 b e;omega) (fun b hb=>Below.heap_setCell _ _ _ _ hb) (by simp[World.setCell]) ⟨rfl,rfl,rfl⟩
       have Z5:Hid (Hs W5 w1.heap.size 198 (tkc 1 (str ((s[j1]::dr s (j1+1)).takeWhile nameC)) 0 (j1:Int))):=by show Hs _ _ _ _;rw[HW5.o];exact hs_put ZR.o
       go_upto_region 20 with fail
       rw[←HW5.o]
       clear f3 z3 HW5 KR ZR
       obtain⟨xs,ho,hrw⟩:=K5.o.row
       obtain⟨HO,HRW⟩:=zd2 ho hrw
       clear ho hrw
       go_wp2_with (first|(refine wpList_load_row rfl 198 _ rfl w1.heap.size rfl 198 _ _ _ Z5.o underlying198 rfl Δ ?_)|(at_builtin;refine wpList_append_own_at _ rfl (.tmp 57) (.tmp 59) 142 rfl (w.heap.size+1) 198 io _ 4 40 underlying142 HIO.o.1 HIO.o.2.1 HIO.o.2.2.1 HIO.o.2.2.2 rfl π (.slice Ar ts.length cr) ts.length xs rfl (row_al HO.o _) ⟨W5.heap.size,0,none⟩ 1 1 (tkc 1 (str ((s[j1]::dr s (j1+1)).takeWhile nameC)) 0 (j1:Int)).toList rfl rfl (World.news_of_block (Hs.new _ _ _)) (by intro u hu;simp at hu;repeat (first|(subst hu;rfl)|(rcases hu with rfl|hu;rfl))) (by have:=HTL.o;unfold maxLen;omega) (by have:=HTL.o;omega) (sz_al (K5.o.sn.box.lt) _) ?_;intro vv w7 hown hgrow hnil hvb;obtain⟨A6,c6,rfl⟩:=row_form hown))
       have K7:Hid (Sk w s w7 (.slice A6 (ts.length+1) c6) (ts++[⟨1,(str ((s[j1]::dr s (j1+1)).takeWhile nameC)),0,(j1:Int)⟩]) j3):=sk_push K5.o hgrow (by rw[List.length_append];exact hown) HRW.o (tk_is (by unfold i64;omega) (⟨by omega,by omega⟩) (by have:=HLT.o.1;have:=HSZ.o;unfold i64;omega) (TZ.o))
       clear hown hgrow hnil hvb
       exact⟨⟨ts++[⟨1,(str ((s[j1]::dr s (j1+1)).takeWhile nameC)),0,(j1:Int)⟩],j3,n,K7,⟨by have h1:=HLN.o;have h2:=HJ3.o;have h3:=K7.o.sn.le;rw[dr_len hle] at h1;rw[dr_len h3];omega,by have:=HE.o.2.1;rw[List.length_append];simp;omega,by rw[E2.o _ _ (by rw[tokL,if_pos HL.o])];rw[QX.o]⟩⟩,by have h1:=K7.o.sn.at;have h2:=HA0.o;have h3:=K7.o.sn.le;have h4:=HJ3.o;have h5:=HJ.o;omega⟩
      | false =>
       have HL:=η hlet
       clear hlet
       cases hdig:digC s[j1] with
       | true =>
        have HG:=η hdig
        clear hdig
        have HJ3:Hid (j1<wordE s j1):=by show _<_;unfold wordE;rw[HC.o,List.takeWhile_cons_of_pos (by rw[name_or,HG.o];simp)];simp
        have HX:Hid ((s.extract j1 (wordE s j1)).data.toList=(s[j1]::dr s (j1+1)).takeWhile nameC):=by show _=_;rw[←HC.o];exact word_list hle
        obtain⟨ul,hul⟩:∃ul:List UInt8,Hid (ul=(s[j1]::dr s (j1+1)).takeWhile nameC):=⟨(s[j1]::dr s (j1+1)).takeWhile nameC,η rfl⟩
        have QX:Hid (dr s (wordE s j1)=(s[j1]::dr s (j1+1)).dropWhile nameC):=by show _=_;rw[←HC.o];exact word_drop
        have TK0:Hid (tokL (j1:Int) (s[j1]::dr s (j1+1))=match intL ul with|.error x=>.error x|.ok n=>.ok (⟨2,e0,n,(j1:Int)⟩,dr s (wordE s j1))):=by show _=_;rw[tokL,if_neg (by rw[HL.o];simp),if_pos HG.o,QX.o,hul.o];rfl
        go_wp2_with fail
        refine (letter_any _ _).mono ?_
        rw[HL.o]
        rintro _ w9 ⟨rfl,hw⟩
        rw[←hw]
        clear hw w9
        go_wp2_with fail
        refine (digit_any _ _).mono ?_
        rw[HG.o]
        rintro _ w9 ⟨rfl,hw⟩
        rw[←hw]
        clear hw w9
        go_wp2_with fail
        refine (sint_any K2.o.sn HJ3.o).mono ?_
        rw[HX.o,←hul.o]
        rintro _ W3 ⟨rfl,st,sn3⟩
        obtain⟨j3,hj3⟩:∃j3,j3=wordE s j1:=⟨_,rfl⟩
        rw[←hj3] at sn3 HJ3 TK0
        obtain⟨K3,Z3⟩:=zd2 (K2.o.stp st sn3) (hs_stp Z2.o st (fun e=>by have:=NG.o.1;have e:w1.heap.size=w.heap.size:=e;omega))
        clear st sn3 hj3 HX QX hul
        cases hi:intL ul with
        | error x =>
         have hx:x=2∨x=6:=int_errs hi
         have HI:=η (TK0.o.trans (by rw[hi]))
         rw[show lexV (intT ul)=.tuple #[.agg (tkc 0 ⟨#[]⟩ 0 0),.int .i64 x] by unfold intT;rw[hi];rfl]
         have qx:(x != 0)=true:=by rcases hx with rfl|rfl<;>rfl
         have qx2:(x==0)=false:=by rcases hx with rfl|rfl<;>rfl
         clear hi hx
         obtain⟨HV,BB⟩:=zd2 (E1.o x (HI.o)) (K3.o.bel)
         have KR:=η (K3.o.box (w':=W3.setRow w1.heap.size (tkc 0 ⟨#[]⟩ 0 0)) (g:=w1.heap.size) NG.o.1 (fun b e x=>by have:=NG.o.2 b e;omega) (fun b hb=>setRow_other _ _ _ _ hb) (by simp) ⟨rfl,rfl,rfl⟩)
         go_wp2_with (refine wpList_store_row rfl 198 _ _ rfl w1.heap.size (tkc 0 ⟨#[]⟩ 0 0) rfl rfl 198 _ Z3.o Δ rfl (by simp[Value.oneCell']) ?_)
         first|rw[Exit.noGoto_ret]|skip
         go_ret3
         unfold ScV;rw[HV.o]
         exact⟨rfl,KR.o.bel⟩
        | ok m =>
         obtain⟨HI,HMB⟩:=zd2 (TK0.o.trans (by rw[hi])) (num_bd hi)
         rw[show lexV (intT ul)=.tuple #[.agg (tkc 2 ⟨#[]⟩ m 0),.int .i64 0] by unfold intT;rw[hi];rfl]
         clear hi
         have O3:=setRow_heap _ _ _ (tkc 2 ⟨#[]⟩ m 0) _ _ Z3.o
         have KR:=η (K3.o.box (w':=W3.setRow w1.heap.size (tkc 2 ⟨#[]⟩ m 0)) (g:=w1.heap.size) NG.o.1 (fun b e x=>by have:=NG.o.2 b e;omega) (fun b hb=>setRow_other _ _ _ _ hb) (by simp) ⟨rfl,rfl,rfl⟩)
         have ZR:Hid (Hs (W3.setRow w1.heap.size (tkc 2 ⟨#[]⟩ m 0)) w1.heap.size 198 (tkc 2 ⟨#[]⟩ m 0)):=O3
         clear O3
         go_upto_region 17 with (refine wpList_store_row rfl 198 _ _ rfl w1.heap.size (tkc 2 ⟨#[]⟩ m 0) rfl rfl 198 _ Z3.o Δ rfl (by simp[Value.oneCell']) ?_)
         generalize W3.setRow w1.heap.size (tkc 2 ⟨#[]⟩ m 0)=W4 at KR ZR ⊢
         have f3:W4.frozen? ⟨w1.heap.size,3,none⟩=false:=ZR.o.free 3
         have z3:W4.cell? ⟨w1.heap.size,3,none⟩=some (.int .i64 0):=ZR.o.cell 3
         obtain⟨W5,HW5⟩:∃W5,Hid (W5=W4.setCell ⟨w1.heap.size,3,none⟩ (.int .i64 (j1:Int))):=⟨_,rfl⟩
         have K5:Hid (Sk w s W5 (.slice Ar ts.length cr) ts j3):=by show Sk _ _ _ _ _ _;rw[HW5.o];exact KR.o.box (g:=w1.heap.size) NG.o.1 (fun b e x=>by have:=NG.o.2 b e;omega) (fun b hb=>Below.heap_setCell _ _ _ _ hb) (by simp[World.setCell]) ⟨rfl,rfl,rfl⟩
         have Z5:Hid (Hs W5 w1.heap.size 198 (tkc 2 ⟨#[]⟩ m (j1:Int))):=by show Hs _ _ _ _;rw[HW5.o];exact hs_put ZR.o
         go_upto_region 20 with fail
         rw[←HW5.o]
         clear f3 z3 HW5 KR ZR
         obtain⟨xs,ho,hrw⟩:=K5.o.row
         obtain⟨HO,HRW⟩:=zd2 ho hrw
         clear ho hrw
         go_wp2_with (first|(refine wpList_load_row rfl 198 _ rfl w1.heap.size rfl 198 _ _ _ Z5.o underlying198 rfl Δ ?_)|(at_builtin;refine wpList_append_own_at _ rfl (.tmp 57) (.tmp 59) 142 rfl (w.heap.size+1) 198 io _ 4 40 underlying142 HIO.o.1 HIO.o.2.1 HIO.o.2.2.1 HIO.o.2.2.2 rfl π (.slice Ar ts.length cr) ts.length xs rfl (row_al HO.o _) ⟨W5.heap.size,0,none⟩ 1 1 (tkc 2 ⟨#[]⟩ m (j1:Int)).toList rfl rfl (World.news_of_block (Hs.new _ _ _)) (by intro u hu;simp at hu;repeat (first|(subst hu;rfl)|(rcases hu with rfl|hu;rfl))) (by have:=HTL.o;unfold maxLen;omega) (by have:=HTL.o;omega) (sz_al (K5.o.sn.box.lt) _) ?_;intro vv w7 hown hgrow hnil hvb;obtain⟨A6,c6,rfl⟩:=row_form hown))
         have K7:Hid (Sk w s w7 (.slice A6 (ts.length+1) c6) (ts++[⟨2,⟨#[]⟩,m,(j1:Int)⟩]) j3):=sk_push K5.o hgrow (by rw[List.length_append];exact hown) HRW.o (tk_is (by unfold i64;omega) (HMB.o) (by have:=HLT.o.1;have:=HSZ.o;unfold i64;omega) ((by show (⟨#[]⟩:Ê).size≤_;decide)))
         clear hown hgrow hnil hvb
         exact⟨⟨ts++[⟨2,⟨#[]⟩,m,(j1:Int)⟩],j3,n,K7,⟨by have h1:=HLN.o;have h2:=HJ3.o;have h3:=K7.o.sn.le;rw[dr_len hle] at h1;rw[dr_len h3];omega,by have:=HE.o.2.1;rw[List.length_append];simp;omega,by rw[E2.o _ _ (HI.o)];rfl⟩⟩,by have h1:=K7.o.sn.at;have h2:=HA0.o;have h3:=K7.o.sn.le;have h4:=HJ3.o;have h5:=HJ.o;omega⟩
       | false =>
        have HG:=η hdig
        clear hdig
        by_cases h34:s[j1].toNat=34
        case pos =>
         have q34:((s[j1].toNat:Int)==34)=true:=by simp;omega
         have TK0:Hid (tokL (j1:Int) (s[j1]::dr s (j1+1))=match textL [] (dr s (j1+1)) with|.error x=>.error x|.ok (a,q)=>.ok (⟨3,str a,0,(j1:Int)⟩,q)):=by show _=_;rw[tokL,if_neg (by rw[HL.o];simp),if_neg (by rw[HG.o];simp),if_pos h34];rfl
         clear h34
         go_wp2_with fail
         refine (letter_any _ _).mono ?_
         rw[HL.o]
         rintro _ w9 ⟨rfl,hw⟩
         rw[←hw]
         clear hw w9
         go_wp2_with fail
         refine (digit_any _ _).mono ?_
         rw[HG.o]
         rintro _ w9 ⟨rfl,hw⟩
         rw[←hw]
         clear hw w9
         go_wp2_with fail
         refine (stext_any K2.o.sn hlt).mono ?_
         cases ht:textL [] (dr s (j1+1)) with
         | error x =>
          have hx:x=2∨x=15:=text_errs _ _ _ ht
          have HI:=η (TK0.o.trans (by rw[ht]))
          rintro _ W3 ⟨rfl,st,j3,sn3⟩
          obtain⟨K3,Z3⟩:=zd2 (K2.o.stp st sn3) (hs_stp Z2.o st (fun e=>by have:=NG.o.1;have e:w1.heap.size=w.heap.size:=e;omega))
          clear st sn3
          rw[show lexV (.error x)=.tuple #[.agg (tkc 0 ⟨#[]⟩ 0 0),.int .i64 x] from rfl]
          have qx:(x != 0)=true:=by rcases hx with rfl|rfl<;>rfl
          have qx2:(x==0)=false:=by rcases hx with rfl|rfl<;>rfl
          clear ht hx
          obtain⟨HV,BB⟩:=zd2 (E1.o x (HI.o)) (K3.o.bel)
          have KR:=η (K3.o.box (w':=W3.setRow w1.heap.size (tkc 0 ⟨#[]⟩ 0 0)) (g:=w1.heap.size) NG.o.1 (fun b e x=>by have:=NG.o.2 b e;omega) (fun b hb=>setRow_other _ _ _ _ hb) (by simp) ⟨rfl,rfl,rfl⟩)
          go_wp2_with (refine wpList_store_row rfl 198 _ _ rfl w1.heap.size (tkc 0 ⟨#[]⟩ 0 0) rfl rfl 198 _ Z3.o Δ rfl (by simp[Value.oneCell']) ?_)
          first|rw[Exit.noGoto_ret]|skip
          go_ret3
          unfold ScV;rw[HV.o]
          exact⟨rfl,KR.o.bel⟩
         | ok aq =>
          obtain⟨al,q⟩:=aq
          have HI:=η (TK0.o.trans (by rw[ht]))
          have TZ:Hid ((str al).size≤maxLen):=by show _≤_;have:=text_len _ _ _ _ ht;unfold str maxLen;show al.toArray.size≤_;simp;omega
          rintro _ W3 ⟨rfl,st,j3,sn3,hq,hj3⟩
          obtain⟨K3,Z3,QX,HJ3⟩:=zd4 (K2.o.stp st sn3) (hs_stp Z2.o st (fun e=>by have:=NG.o.1;have e:w1.heap.size=w.heap.size:=e;omega)) hq hj3
          clear st sn3 ht hq hj3
          rw[show lexV (.ok ⟨3,str al,0,0⟩)=.tuple #[.agg (tkc 3 (str al) 0 0),.int .i64 0] from rfl]
          have O3:=setRow_heap _ _ _ (tkc 3 (str al) 0 0) _ _ Z3.o
          have KR:=η (K3.o.box (w':=W3.setRow w1.heap.size (tkc 3 (str al) 0 0)) (g:=w1.heap.size) NG.o.1 (fun b e x=>by have:=NG.o.2 b e;omega) (fun b hb=>setRow_other _ _ _ _ hb) (by simp) ⟨rfl,rfl,rfl⟩)
          have ZR:Hid (Hs (W3.setRow w1.heap.size (tkc 3 (str al) 0 0)) w1.heap.size 198 (tkc 3 (str al) 0 0)):=O3
          clear O3
          go_upto_region 17 with (refine wpList_store_row rfl 198 _ _ rfl w1.heap.size (tkc 3 (str al) 0 0) rfl rfl 198 _ Z3.o Δ rfl (by simp[Value.oneCell']) ?_)
          generalize W3.setRow w1.heap.size (tkc 3 (str al) 0 0)=W4 at KR ZR ⊢
          have f3:W4.frozen? ⟨w1.heap.size,3,none⟩=false:=ZR.o.free 3
          have z3:W4.cell? ⟨w1.heap.size,3,none⟩=some (.int .i64 0):=ZR.o.cell 3
          obtain⟨W5,HW5⟩:∃W5,Hid (W5=W4.setCell ⟨w1.heap.size,3,none⟩ (.int .i64 (j1:Int))):=⟨_,rfl⟩
          have K5:Hid (Sk w s W5 (.slice Ar ts.length cr) ts j3):=by show Sk _ _ _ _ _ _;rw[HW5.o];exact KR.o.box (g:=w1.heap.size) NG.o.1 (fun b e x=>by have:=NG.o.2 b e;omega) (fun b hb=>Below.heap_setCell _ _ _ _ hb) (by simp[World.setCell]) ⟨rfl,rfl,rfl⟩
          have Z5:Hid (Hs W5 w1.heap.size 198 (tkc 3 (str al) 0 (j1:Int))):=by show Hs _ _ _ _;rw[HW5.o];exact hs_put ZR.o
          go_upto_region 20 with fail
          rw[←HW5.o]
          clear f3 z3 HW5 KR ZR
          obtain⟨xs,ho,hrw⟩:=K5.o.row
          obtain⟨HO,HRW⟩:=zd2 ho hrw
          clear ho hrw
          go_wp2_with (first|(refine wpList_load_row rfl 198 _ rfl w1.heap.size rfl 198 _ _ _ Z5.o underlying198 rfl Δ ?_)|(at_builtin;refine wpList_append_own_at _ rfl (.tmp 57) (.tmp 59) 142 rfl (w.heap.size+1) 198 io _ 4 40 underlying142 HIO.o.1 HIO.o.2.1 HIO.o.2.2.1 HIO.o.2.2.2 rfl π (.slice Ar ts.length cr) ts.length xs rfl (row_al HO.o _) ⟨W5.heap.size,0,none⟩ 1 1 (tkc 3 (str al) 0 (j1:Int)).toList rfl rfl (World.news_of_block (Hs.new _ _ _)) (by intro u hu;simp at hu;repeat (first|(subst hu;rfl)|(rcases hu with rfl|hu;rfl))) (by have:=HTL.o;unfold maxLen;omega) (by have:=HTL.o;omega) (sz_al (K5.o.sn.box.lt) _) ?_;intro vv w7 hown hgrow hnil hvb;obtain⟨A6,c6,rfl⟩:=row_form hown))
          have K7:Hid (Sk w s w7 (.slice A6 (ts.length+1) c6) (ts++[⟨3,(str al),0,(j1:Int)⟩]) j3):=sk_push K5.o hgrow (by rw[List.length_append];exact hown) HRW.o (tk_is (by unfold i64;omega) (⟨by omega,by omega⟩) (by have:=HLT.o.1;have:=HSZ.o;unfold i64;omega) (TZ.o))
          clear hown hgrow hnil hvb
          exact⟨⟨ts++[⟨3,(str al),0,(j1:Int)⟩],j3,n,K7,⟨by have h1:=HLN.o;have h2:=HJ3.o;have h3:=K7.o.sn.le;rw[dr_len hle] at h1;rw[dr_len h3];omega,by have:=HE.o.2.1;rw[List.length_append];simp;omega,by rw[E2.o _ _ (HI.o)];rw[QX.o]⟩⟩,by have h1:=K7.o.sn.at;have h2:=HA0.o;have h3:=K7.o.sn.le;have h4:=HJ3.o;have h5:=HJ.o;omega⟩
        case neg =>
         have q34:((s[j1].toNat:Int)==34)=false:=by simp;omega
         have TK0:Hid (tokL (j1:Int) (s[j1]::dr s (j1+1))=match markN (dr s j1) with|none=>.error 2|some n=>.ok (⟨4,str ((dr s j1).take n),0,(j1:Int)⟩,(dr s j1).drop n)):=by show _=_;rw[tokL,if_neg (by rw[HL.o];simp),if_neg (by rw[HG.o];simp),if_neg h34,←HC.o];exact tok_mark _ _
         clear h34
         go_wp2_with fail
         refine (letter_any _ _).mono ?_
         rw[HL.o]
         rintro _ w9 ⟨rfl,hw⟩
         rw[←hw]
         clear hw w9
         go_wp2_with fail
         refine (digit_any _ _).mono ?_
         rw[HG.o]
         rintro _ w9 ⟨rfl,hw⟩
         rw[←hw]
         clear hw w9
         go_wp2_with fail
         refine (smark_any K2.o.sn hlt).mono ?_
         unfold MkS
         cases hk:markN (dr s j1) with
         | none =>
          have HI:=η (TK0.o.trans (by rw[hk]))
          rintro _ W3 ⟨rfl,st,sn3⟩
          obtain⟨K3,Z3⟩:=zd2 (K2.o.stp st sn3) (hs_stp Z2.o st (fun e=>by have:=NG.o.1;have e:w1.heap.size=w.heap.size:=e;omega))
          clear st sn3 hk
          rw[show lexV (.error 2)=.tuple #[.agg (tkc 0 ⟨#[]⟩ 0 0),.int .i64 2] from rfl]
          obtain⟨HV,BB⟩:=zd2 (E1.o 2 (HI.o)) (K3.o.bel)
          have KR:=η (K3.o.box (w':=W3.setRow w1.heap.size (tkc 0 ⟨#[]⟩ 0 0)) (g:=w1.heap.size) NG.o.1 (fun b e x=>by have:=NG.o.2 b e;omega) (fun b hb=>setRow_other _ _ _ _ hb) (by simp) ⟨rfl,rfl,rfl⟩)
          go_wp2_with (refine wpList_store_row rfl 198 _ _ rfl w1.heap.size (tkc 0 ⟨#[]⟩ 0 0) rfl rfl 198 _ Z3.o Δ rfl (by simp[Value.oneCell']) ?_)
          first|rw[Exit.noGoto_ret]|skip
          go_ret3
          unfold ScV;rw[HV.o]
          exact⟨rfl,KR.o.bel⟩
         | some m =>
          obtain⟨HI,HM1⟩:=zd2 (TK0.o.trans (by rw[hk])) (mark_len hk)
          rintro _ W3 ⟨rfl,st,sn3⟩
          have TX:Hid (s.extract j1 (j1+m)=str ((dr s j1).take m)):=ext_str (ext_take sn3.le)
          rw[TX.o]
          have TZ:Hid ((str ((dr s j1).take m)).size≤maxLen):=by show _≤_;rw[←TX.o];unfold maxLen;have:=HSZ.o;simp;omega
          obtain⟨j3,hj3⟩:∃j3,j3=j1+m:=⟨_,rfl⟩
          rw[←hj3] at sn3
          have QX:Hid (dr s j3=(dr s j1).drop m):=by show _=_;rw[hj3];exact dr_add _ _ _
          have HJ3:Hid (j1<j3):=by have:=HM1.o;show _<_;omega
          obtain⟨K3,Z3⟩:=zd2 (K2.o.stp st sn3) (hs_stp Z2.o st (fun e=>by have:=NG.o.1;have e:w1.heap.size=w.heap.size:=e;omega))
          clear st sn3 hk hj3
          rw[show lexV (.ok ⟨4,str ((dr s j1).take m),0,0⟩)=.tuple #[.agg (tkc 4 (str ((dr s j1).take m)) 0 0),.int .i64 0] from rfl]
          have O3:=setRow_heap _ _ _ (tkc 4 (str ((dr s j1).take m)) 0 0) _ _ Z3.o
          have KR:=η (K3.o.box (w':=W3.setRow w1.heap.size (tkc 4 (str ((dr s j1).take m)) 0 0)) (g:=w1.heap.size) NG.o.1 (fun b e x=>by have:=NG.o.2 b e;omega) (fun b hb=>setRow_other _ _ _ _ hb) (by simp) ⟨rfl,rfl,rfl⟩)
          have ZR:Hid (Hs (W3.setRow w1.heap.size (tkc 4 (str ((dr s j1).take m)) 0 0)) w1.heap.size 198 (tkc 4 (str ((dr s j1).take m)) 0 0)):=O3
          clear O3
          go_upto_region 17 with (refine wpList_store_row rfl 198 _ _ rfl w1.heap.size (tkc 4 (str ((dr s j1).take m)) 0 0) rfl rfl 198 _ Z3.o Δ rfl (by simp[Value.oneCell']) ?_)
          generalize W3.setRow w1.heap.size (tkc 4 (str ((dr s j1).take m)) 0 0)=W4 at KR ZR ⊢
          have f3:W4.frozen? ⟨w1.heap.size,3,none⟩=false:=ZR.o.free 3
          have z3:W4.cell? ⟨w1.heap.size,3,none⟩=some (.int .i64 0):=ZR.o.cell 3
          obtain⟨W5,HW5⟩:∃W5,Hid (W5=W4.setCell ⟨w1.heap.size,3,none⟩ (.int .i64 (j1:Int))):=⟨_,rfl⟩
          have K5:Hid (Sk w s W5 (.slice Ar ts.length cr) ts j3):=by show Sk _ _ _ _ _ _;rw[HW5.o];exact KR.o.box (g:=w1.heap.size) NG.o.1 (fun b e x=>by have:=NG.o.2 b e;omega) (fun b hb=>Below.heap_setCell _ _ _ _ hb) (by simp[World.setCell]) ⟨rfl,rfl,rfl⟩
          have Z5:Hid (Hs W5 w1.heap.size 198 (tkc 4 (str ((dr s j1).take m)) 0 (j1:Int))):=by show Hs _ _ _ _;rw[HW5.o];exact hs_put ZR.o
          go_upto_region 20 with fail
          rw[←HW5.o]
          clear f3 z3 HW5 KR ZR
          obtain⟨xs,ho,hrw⟩:=K5.o.row
          obtain⟨HO,HRW⟩:=zd2 ho hrw
          clear ho hrw
          go_wp2_with (first|(refine wpList_load_row rfl 198 _ rfl w1.heap.size rfl 198 _ _ _ Z5.o underlying198 rfl Δ ?_)|(at_builtin;refine wpList_append_own_at _ rfl (.tmp 57) (.tmp 59) 142 rfl (w.heap.size+1) 198 io _ 4 40 underlying142 HIO.o.1 HIO.o.2.1 HIO.o.2.2.1 HIO.o.2.2.2 rfl π (.slice Ar ts.length cr) ts.length xs rfl (row_al HO.o _) ⟨W5.heap.size,0,none⟩ 1 1 (tkc 4 (str ((dr s j1).take m)) 0 (j1:Int)).toList rfl rfl (World.news_of_block (Hs.new _ _ _)) (by intro u hu;simp at hu;repeat (first|(subst hu;rfl)|(rcases hu with rfl|hu;rfl))) (by have:=HTL.o;unfold maxLen;omega) (by have:=HTL.o;omega) (sz_al (K5.o.sn.box.lt) _) ?_;intro vv w7 hown hgrow hnil hvb;obtain⟨A6,c6,rfl⟩:=row_form hown))
          have K7:Hid (Sk w s w7 (.slice A6 (ts.length+1) c6) (ts++[⟨4,(str ((dr s j1).take m)),0,(j1:Int)⟩]) j3):=sk_push K5.o hgrow (by rw[List.length_append];exact hown) HRW.o (tk_is (by unfold i64;omega) (⟨by omega,by omega⟩) (by have:=HLT.o.1;have:=HSZ.o;unfold i64;omega) (TZ.o))
          clear hown hgrow hnil hvb
          exact⟨⟨ts++[⟨4,(str ((dr s j1).take m)),0,(j1:Int)⟩],j3,n,K7,⟨by have h1:=HLN.o;have h2:=HJ3.o;have h3:=K7.o.sn.le;rw[dr_len hle] at h1;rw[dr_len h3];omega,by have:=HE.o.2.1;rw[List.length_append];simp;omega,by rw[E2.o _ _ (HI.o)];rw[QX.o]⟩⟩,by have h1:=K7.o.sn.at;have h2:=HA0.o;have h3:=K7.o.sn.le;have h4:=HJ3.o;have h5:=HJ.o;omega⟩
    · have hj:j1=s.size:=by omega
      have qe:((j1:Int)==(s.size:Int))=true:=by simp;omega
      have HV:Hid (R=.ok ts):=HE.o.2.2.trans (by rw[scan_nil HD.o (by rw[hj,dr_end])];show LexR.ok (ts++[])=_;rw[List.append_nil])
      have HSL:Hid (SlR W2 (nw w.heap.size W2) 4 TkR (.slice Ar ts.length cr) ts):=by obtain⟨xs,ho,hr⟩:=K2.o.row;exact hr.sl ho (fun g hg=>by have:=ho.lt g hg;exact⟨by omega,this.2⟩)
      have BB:=η K2.o.bel
      clear hj
      go_wp2_with fail
      first|rw[Exit.noGoto_ret]|skip
      go_ret3
      unfold ScV;rw[HV.o]
      exact⟨Ar,cr,rfl,BB.o,HSL.o⟩
end
theorem catch_idle (a b d:Nat) (w:À) :
 CallsD prog 54 #[.pointer (some ⟨a,0,none⟩),.pointer (some ⟨b,0,none⟩),.pointer (some ⟨d,0,none⟩)] .returning w fun e u' w'=>e=.returned (.tuple #[])∧u'=.returning∧w'=w:=by
 refine callsD_of_wpS func54 rfl fun c₀ cs hu=>?_
 apply wpS_seq
 apply wpS_region
 simp[wpOpsS,go_sem,recoverD,hu,ntmps54,Exit.thenS]
 refine wpS_of_wp ?_
 go_wp2_with fail
 cases c₀
 simp_all [bodyPostS,results,results54]
def fellW (a b d:Nat) (at_:Int) (w:À):À:=(((w.setRow a zero5).setCell ⟨b,0,none⟩ (.int .i64 2)).setCell ⟨d,0,none⟩ (.int .i64 0)).setCell ⟨d,0,none⟩ (.int .i64 at_)
theorem catch_fell (a b d:Nat) (at_ x y:Int) (w:À) (ha:Hs w a 83 zero5) (hb:Hs w b 31 #[.int .i64 x]) (hd:Hs w d 3 #[.int .i64 y]) (hab:a≠b∧a≠d∧b≠d) :
 CallsD prog 54 #[.pointer (some ⟨a,0,none⟩),.pointer (some ⟨b,0,none⟩),.pointer (some ⟨d,0,none⟩)] (.panicking [{ v:=.iface 140 (.int .i64 at_),recovered:=false }]) w fun e u' w'=>e=.returned (.tuple #[])∧u'=.panicking [{ v:=.iface 140 (.int .i64 at_),recovered:=true }]∧w'=fellW a b d at_ w:=by
 have A:=η ha
 have HW:∃W1,Hid (W1=w.setRow a zero5):=⟨_,rfl⟩
 obtain⟨W1,HW⟩:=HW
 have B:=η (show Hs W1 b 31 #[.int .i64 x] by rw[HW.o];exact (setRow_other _ _ _ _ (Ne.symm hab.1)).trans hb)
 have D:=η (show Hs W1 d 3 #[.int .i64 y] by rw[HW.o];exact (setRow_other _ _ _ _ (Ne.symm hab.2.1)).trans hd)
 obtain⟨W2,HW2⟩:∃W2,Hid (W2=W1.setCell ⟨b,0,none⟩ (.int .i64 2)):=⟨_,rfl⟩
 obtain⟨D2,NE⟩:=zd2 (show Hs W2 d 3 #[.int .i64 y] by rw[HW2.o];exact hs_oth D.o (Ne.symm hab.2.2)) hab
 clear ha hb hd hab
 have hta:∀W,(Instr.typeAssert (.iface 140 (.int .i64 at_)) 20 140 true).run prog W=.ok (.tuple #[.int .i64 at_,.bool true]) W:=fun W=>by kernel_rfl
 refine callsD_of_wpS func54 rfl fun c₀ cs hu=>?_
 apply wpS_seq
 apply wpS_region
 simp[wpOpsS,go_sem,recoverD,hu,ntmps54,Exit.thenS]
 refine wpS_of_wp ?_
 have b0:W1.cell? ⟨b,0,none⟩=some (.int .i64 x):=B.o.cell 0
 have bf:W1.frozen? ⟨b,0,none⟩=false:=B.o.free 0
 have d0:W1.cell? ⟨d,0,none⟩=some (.int .i64 y):=D.o.cell 0
 have df:W1.frozen? ⟨d,0,none⟩=false:=D.o.free 0
 have n1:=NE.o.2.2
 have n2:=NE.o.2.2.symm
 rw[show ((#[.pointer (some ⟨a,0,none⟩),.pointer (some ⟨b,0,none⟩),.pointer (some ⟨d,0,none⟩)]:Array Value)++((Array.replicate 14 undef).setIfInBounds 3 (.iface 140 (.int .i64 at_))).setIfInBounds 0 (.iface 140 (.int .i64 at_)))=#[.pointer (some ⟨a,0,none⟩),.pointer (some ⟨b,0,none⟩),.pointer (some ⟨d,0,none⟩),.iface 140 (.int .i64 at_),undef,undef,.iface 140 (.int .i64 at_),undef,undef,undef,undef,undef,undef,undef,undef,undef,undef] from rfl]
 go_upto_region 2 with fail
 go_wp2_with (refine wpList_store_row rfl 83 _ _ rfl a zero5 rfl rfl 83 _ A.o Δ rfl (by simp[Value.oneCell']) ?_;rw[←HW.o])
 unfold fellW
 rw[←HW.o]
 simp[bodyPostS,results,results54]
end Go.Proofs.YtbmknjfgjphfbaaGreatDoor
