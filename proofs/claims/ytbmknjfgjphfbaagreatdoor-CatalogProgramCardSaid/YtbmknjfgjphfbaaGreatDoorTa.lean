import Derived.Test.YtbmknjfgjphfbaaGreatDoorZ24
namespace Go.Proofs.YtbmknjfgjphfbaaGreatDoor
set_option maxRecDepth 100000
/-- the name of effect i -/
def nmE (i : Nat) : List UInt8 := [101, UInt8.ofNat (97 + i / 26 % 26), UInt8.ofNat (97 + i % 26)]
def lnE (i : Nat) : List UInt8 := [101, 102, 102, 101, 99, 116, 32] ++ nmE i ++ [40, 120, 58, 32, 105, 110, 116, 41, 58, 32, 98, 111, 111, 108, 10]
def hdE : List UInt8 := [97, 99, 116, 111, 114, 32, 77, 97, 105, 110, 40, 41, 32, 123, 32, 125, 10]
/-- the source of n effects -/
def srcP (n : Nat) : List UInt8 := hdE ++ (List.range n).flatMap lnE
def tyI : Int → Nd := fun p => .mk 12 (str [105, 110, 116]) 0 p []
def tyB : Int → Nd := fun p => .mk 12 (str [98, 111, 111, 108]) 0 p []
def fdX : Int → Int → Nd := fun p q => .mk 7 (str [120]) 0 p [tyI q]
def effT (i : Nat) : Nd := .mk 4 (str (nmE i)) 0 (17 + 25 * (i : Int)) [fdX (17 + 25 * (i : Int) + 11) (17 + 25 * (i : Int) + 14), tyB (17 + 25 * (i : Int) + 20)]
def manT : Nd := .mk 6 (str [77, 97, 105, 110]) 0 0 []
def kidsT (n : Nat) : List Nd := manT :: (List.range n).map effT
def treP (n : Nat) : Nd := .mk 1 e0 0 0 (kidsT n)
end Go.Proofs.YtbmknjfgjphfbaaGreatDoor
set_option linter.all false
namespace Go.Proofs.YtbmknjfgjphfbaaGreatDoor
open Proofs.Tryz RowKit Maps WideMaps ChangeMaps
set_option maxRecDepth 100000
set_option maxHeartbeats 8000000
theorem isdecl_any (k0:Int) (s:Ê) (n p:Int) (A:Option Addr) (l cap:Nat) (w:À) (hk:k0=4∨k0=6):Calls prog 39 #[.agg (cl k0 s n p A l cap).toArray] w (EqSaid true w):=by
  rcases hk with rfl|rfl <;>
  · go_in
    go_wp2
    go_ret
    exact ⟨rfl,belA (belR _) _⟩
def ldK (k:Int) (l:List Nd):Nat:=(l.takeWhile fun n=>ndK n==k).length
theorem ldK_at {k:Int} {l:List Nd} {j:Nat} (h:j<l.length):ldK k (l.drop j)=if ndK l[j]==k then ldK k (l.drop (j+1))+1 else 0:=by
  unfold ldK
  rw[List.drop_eq_getElem_cons h,List.takeWhile_cons]
  cases ndK l[j]==k <;> simp
/-- leading -/
theorem leading_any (k:Int) (l:List Nd) (A:Option Addr) (cap:Nat) (w:À) (hl:NdsR w (lo w) (.slice A l.length cap) l) :
    Calls prog 73 #[.slice A l.length cap,.int .i64 k] w fun e w'=>e=.returned (.slice A (ldK k l) cap)∧Below w.heap.size w w':=by
  have lm:l.length≤9223372036854775807:=hl.len.2
  have lc:l.length≤cap:=by obtain⟨A',cap',css,e,hl',_⟩:=hl;injection e with e1 e2 e3;omega
  have HL:=Lib.hid hl
  obtain⟨tot,HV⟩:∃q,Hid (q=ldK k l):=⟨_,rfl⟩
  rw[←HV.out]
  clear hl
  go_in
  go_wp2_with fail
  go_loopw [9] (fun i wr=>∃ (j:Nat),j≤l.length∧i=.int .i64 j∧Hid (tot=j+ldK k (l.drop j))∧Hid (Below w.heap.size w wr)) (fun i _=>l.length-(intOf i).toNat)
  case atStart=>exact ⟨0,by omega,rfl,Lib.hid (by rw[HV.out,List.drop_zero,Nat.zero_add]),Below.refl _ _⟩
  case round=>
    obtain⟨j,hj,rfl,HQ,HB⟩:=hrel
    by_cases hlt:j<l.length
    · have u1:decide ((j:Int)<(l.length:Int))=true:=decide_eq_true (by omega)
      have HAT:=Lib.hid (HQ.out.trans (congrArg (j+·) (ldK_at hlt)))
      obtain⟨b,off,k1,s1,m1,p1,D1,l1,c1,rfl,hg,hr1,e0,e1,e2,e3,e4⟩:=nds_at (NdsR.to HL.out (sub_lo HB.out)) hlt
      have hk1:Hid (k1=ndK l[j]):=by show _=_; obtain⟨k2,s2,n2,p2,a2,A2,cap2,h1,h2,_⟩:=nd_form hr1;rw[h2];injection h1 with h1;injection h1
      have j0:(0:Int)≤(j:Int):=by omega
      have j1:(j:Int)<(l.length:Int):=by omega
      have hs1:∀W,(Instr.slice 81 (.slice (some ⟨b,off,none⟩) l.length cap) none (some (.int .i64 (j:Int))) none).run prog W=.ok (.slice (some ⟨b,off,none⟩) j cap) W:=fun W=>run_upto22 W _ _ _ _ hj lc
      obtain⟨W2,hW2⟩:∃q,Hid (q=wr.alloc (.cells (cl k1 s1 m1 p1 D1 l1 c1).toArray 83)):=⟨_,rfl⟩
      have B2:Hid (Below wr.heap.size wr W2):=by show Below _ _ _;rw[hW2.out];exact belA (belR _) _
      have x0:W2.cell? ⟨wr.heap.size,0,none⟩=some (.int .i64 k1):=by rw[hW2.out];exact (Hs.new _ _ _).c 0
      clear hr1 hg HQ
      go_upto_region 4 with (fail)
      rw[←hW2.out]
      clear hW2 e0 e1 e2 e3 e4
      cases hq:ndK l[j]==k with
      | true=>
        have HD2:=Lib.hid (HAT.out.trans (by rw[if_pos hq]))
        have q1:(k1 != k)=false:=by rw[hk1.out];simpa using hq
        go_wp2_with fail
        exact ⟨⟨j+1,by omega,by go_num,Lib.hid (by rw[HD2.out];omega),bel HB.out B2.out⟩,by simp[intOf];omega⟩
      | false=>
        have HD2:=Lib.hid (HAT.out.trans (by rw[if_neg (by rw[hq];decide)]))
        have q1:(k1 != k)=true:=by rw[hk1.out];simpa using hq
        go_wp2_with fail
        go_ret
        exact ⟨by rw[HD2.out];rfl,bel HB.out B2.out⟩
    · have u1:decide ((j:Int)<(l.length:Int))=false:=decide_eq_false (by omega)
      have HE:Hid (tot=l.length):=by show _=_;rw[HQ.out,List.drop_eq_nil_of_le (by omega)];unfold ldK;simp;omega
      go_wp2_with fail
      go_ret
      exact ⟨by rw[HE.out];rfl,HB.out⟩
theorem rep_nil (A:Option Addr) (cap mb:Nat) (w:À):Calls prog 113 #[.slice A 0 cap,.map (some mb)] w fun e w'=>e=.returned (.tuple #[.int .i64 0,.bool false])∧w'=w:=by
  go_in
  go_wp2_with fail
  go_loopw [10] (fun i wr=>i=.int .i64 0∧wr=w) (fun _ _=>0)
  case atStart=>exact ⟨rfl,rfl⟩
  case round=>
    obtain⟨rfl,rfl⟩:=hrel
    go_wp2_with fail
    go_ret2
    exact ⟨rfl,rfl⟩
end Go.Proofs.YtbmknjfgjphfbaaGreatDoor
set_option linter.all false
namespace Go.Proofs.YtbmknjfgjphfbaaGreatDoor
open Proofs.Tryz RowKit Maps WideMaps ChangeMaps
set_option maxRecDepth 100000
set_option maxHeartbeats 8000000
abbrev sInt:Ê:=str [105,110,116]
abbrev sBool:Ê:=str [98,111,111,108]
/-- the two types that are met, and their numbers -/
def BT (s:Ê) (k:Int):Prop:=s=sInt∧k=3∨s=sBool∧k=2
theorem sI:(sInt.toList==[105,110,116])=true:=by decide +kernel
theorem sB:(sBool.toList==[105,110,116])=false∧(sBool.toList==[98,111,111,108])=true:=by decide +kernel
theorem ret_ct {fn:Func} {p u:Tmp} {T:TypeId} (h:fn.results=#[.cell p T,.tmp u]) (tmps:Array Value) (w:À) (g:Nat) (cs:Array Value) {fs:Array Field} (hp:tmps.getD p undef=.pointer (some ⟨g,0,none⟩)) (hg:Hs w g T cs) (hu:prog.underlying T=some (.struct fs)) (hi:(prog.info? T).map (·.size)=some cs.size):(results fn tmps).run prog w=.ok (.tuple #[.agg cs,tmps.getD u undef]) w:=by
  rw[results_cell_tmp h,hp]
  have:=run_loadVar_row (P:=prog) w g T T cs (0,0) _ hg hu rfl hi
  simp[asAddr,this,Result.andThen]
theorem hs2 (w:À) (cs ds:Array Value) (t u:TypeId):Hs ((w.alloc (.cells cs t)).alloc (.cells ds u)) w.heap.size t cs∧Hs ((w.alloc (.cells cs t)).alloc (.cells ds u)) (w.heap.size+1) u ds:=
  ⟨(Hs.new _ _ _).alloc _,by have:=Hs.new (w.alloc (.cells cs t)) u ds;simpa using this⟩
theorem tbasic_any (s:Ê) (k:Int) (h:BT s k) (w:À):Calls prog 72 #[.string s] w fun e w'=>e=.returned (.int .i64 k)∧w'=w:=by
  rcases h with ⟨rfl,rfl⟩|⟨rfl,rfl⟩
  · have a1:=sI
    go_in
    go_wp2
    go_ret
    exact ⟨rfl,rfl⟩
  · obtain⟨a1,a2⟩:=sB
    go_in
    go_wp2
    go_ret
    exact ⟨rfl,rfl⟩
theorem undecl_any (s:Ê) (k:Int) (h:BT s k) (n p:Int) (A:Option Addr) (cap:Nat) (d:Value) (w:À):Calls prog 67 #[d,.agg (cl 12 s n p A 0 cap).toArray] w fun e w'=>e=.returned (.tuple #[.int .i64 0,.bool false])∧Below w.heap.size w w':=by
  have HB:=tbasic_any s k h
  have hk:(k==0)=false:=by rcases h with ⟨_,rfl⟩|⟨_,rfl⟩<;>rfl
  have HC:=Lib.hid HB
  clear HB h
  go_in
  go_wp2_with (go_at_call 72;refine (HC.out _).mono ?_;rintro e w' ⟨rfl,rfl⟩)
  go_loopw [48] (fun i wr=>i=.int .i64 0∧Hid (Below w.heap.size w wr)) (fun _ _=>0)
  case atStart=>exact ⟨rfl,belA (belR _) _⟩
  case round=>
    obtain⟨rfl,HB⟩:=hrel
    go_wp2_with fail
    go_ret2
    exact ⟨rfl,HB.out⟩
abbrev tyc (k:Int):List Value:=[.int .i64 k,.string ⟨#[]⟩,.slice none 0 0]
theorem read_any (s:Ê) (k:Int) (h:BT s k) (p:Int) (A:Option Addr) (cap:Nat) (w:À):Calls prog 68 #[.agg (cl 12 s 0 p A 0 cap).toArray] w fun e w'=>e=.returned (.tuple #[.agg (tyc k).toArray,.bool true])∧Below w.heap.size w w':=by
  have HB:=tbasic_any s k h
  have hk:(k != 0)=true:=by rcases h with ⟨_,rfl⟩|⟨_,rfl⟩<;>rfl
  have HC:=Lib.hid HB
  obtain⟨W1,hW1⟩:∃q,Hid (q=(w.alloc (.cells (cl 12 s 0 p A 0 cap).toArray 83)).alloc (.cells (tyc 0).toArray 46)):=⟨_,rfl⟩
  have B1:Hid (Below w.heap.size w W1):=by show Below _ _ _;rw[hW1.out];exact belA (belA (belR _) _) _
  have X1:=Lib.hid (hs2 w (cl 12 s 0 p A 0 cap).toArray (tyc 0).toArray 83 46).1
  have X2:=Lib.hid (hs2 w (cl 12 s 0 p A 0 cap).toArray (tyc 0).toArray 83 46).2
  rw[←hW1.out] at X1 X2
  obtain⟨x0,x1,x2,x3,x4⟩:=cf5 X1.out
  clear HB h
  go_in
  go_upto_region 1 with fail
  rw[←hW1.out]
  clear hW1
  have O:=setRow_heap _ _ _ (tyc k).toArray _ _ X2.out
  go_wp2_with (first|(go_at_call 72;refine (HC.out _).mono ?_;rintro e w' ⟨rfl,rfl⟩)|(refine wpList_store_row rfl 46 _ _ rfl (w.heap.size+1) (tyc k).toArray rfl rfl 46 _ X2.out Δ rfl (by simp[Value.oneCell']) ?_))
  exact bodyPost_ret (ret_ct rfl _ _ (w.heap.size+1) (tyc k).toArray rfl O underlying46 Δ) rfl ⟨rfl,bel_row B1.out (Nat.le_succ _) _⟩
theorem stor_any (k:Int) (hk0:(k==8)=false) (w:À):Calls prog 69 #[.agg (tyc k).toArray] w (EqSaid true w):=by
  go_in
  go_wp2_with fail
  go_loopw [11] (fun i wr=>i=.int .i64 0∧Hid (Below w.heap.size w wr)) (fun _ _=>0)
  case atStart=>exact ⟨rfl,belA (belR _) _⟩
  case round=>
    obtain⟨rfl,HB⟩:=hrel
    go_wp2_with fail
    go_ret
    exact ⟨rfl,HB.out⟩
theorem ctors_any (k0:Int) (s:Ê) (n p:Int) (A:Option Addr) (l cap:Nat) (w:À) (hk:k0=4∨k0=6):Calls prog 71 #[.agg (cl k0 s n p A l cap).toArray] w fun e w'=>e=.returned (.slice none 0 0)∧Below w.heap.size w w':=by
  rcases hk with rfl|rfl <;>
  · go_in
    go_wp2
    go_ret
    exact ⟨rfl,belA (belR _) _⟩
end Go.Proofs.YtbmknjfgjphfbaaGreatDoor
set_option linter.all false
namespace Go.Proofs.YtbmknjfgjphfbaaGreatDoor
open Proofs.Tryz RowKit Maps WideMaps ChangeMaps
set_option maxRecDepth 100000
set_option maxHeartbeats 8000000
theorem zBool (w:À):(zeroValue 4).run prog w=.ok (.bool false) w:=by kernel_rfl
theorem zInt (w:À):(zeroValue 3).run prog w=.ok (.int .i64 0) w:=by kernel_rfl
abbrev SM (w:À) (b n:Nat) (f:List UInt8→Option Value):Prop:=MapIs prog 9 Lit.string w b n f
theorem SM.no {w:À} {b n:Nat} {f:List UInt8→Option Value} {s:Ê} (h:SM w b n f) (hf:f s.data.toList=none) (hs:s.size≤maxLen):(Instr.lookup 58 (.map (some b)) (.string s) false).run prog w=.ok (.bool false) w:=by
  rw[MapIs.look h (keyStr underlying9) underlying58 (zBool w) (keyOf_string_mk underlying9 hs),hf];rfl
theorem SM.noI {w:À} {b n:Nat} {f:List UInt8→Option Value} {s:Ê} (h:SM w b n f) (hf:f s.data.toList=none) (hs:s.size≤maxLen):(Instr.lookup 90 (.map (some b)) (.string s) true).run prog w=.ok (.tuple #[.int .i64 0,.bool false]) w:=by
  rw[MapIs.lookOk h (keyStr underlying9) underlying90 (zInt w) (keyOf_string_mk underlying9 hs),hf];rfl
theorem SM.yesI {w:À} {b n:Nat} {f:List UInt8→Option Value} {s:Ê} {v:Value} (h:SM w b n f) (hf:f s.data.toList=some v) (hs:s.size≤maxLen):(Instr.lookup 90 (.map (some b)) (.string s) true).run prog w=.ok (.tuple #[v,.bool true]) w:=by
  rw[MapIs.lookOk h (keyStr underlying9) underlying90 (zInt w) (keyOf_string_mk underlying9 hs),hf];rfl
theorem stp_put {w w':À} {b:Nat} (hg:w.grownBy w' (some b)):Stp (only b) w w':=
  ⟨hg.os,hg.tape,hg.output,hg.size,fun k hk hn=>hg.block k hk (fun e=>hn (by injection e))⟩
theorem nd_ex {w:À} {P:Nat→Prop} {cs:List Value} {k n p:Int} {s:Ê} {a:List Nd} (h:NdR w P cs (.mk k s n p a)):∃D c,cs=cl k s n p D a.length c∧NdsR w P (.slice D a.length c) a∧s.size≤maxLen:=by
  obtain⟨k2,s2,n2,p2,a2,A2,cap2,rfl,h2,_,hs,hn⟩:=nd_form h
  injection h2 with i1 i2 i3 i4 i5
  subst i1 i2 i3 i4 i5
  exact ⟨_,_,rfl,hn,hs⟩
theorem nds_ex {w:À} {P:Nat→Prop} {A:Option Addr} {N cap:Nat} {l:List Nd} (h:NdsR w P (.slice A N cap) l) {i:Nat} (hi:i<l.length) {k n p:Int} {s:Ê} {a:List Nd} (e:l[i]=.mk k s n p a) :
    ∃g off D c,A=some ⟨g,off,none⟩∧P g∧NdR w P (cl k s n p D a.length c) (.mk k s n p a)∧NdsR w P (.slice D a.length c) a∧s.size≤maxLen∧w.cell? ⟨g,off+i*5,none⟩=some (.int .i64 k)∧w.cell? ⟨g,off+i*5+1,none⟩=some (.string s)∧w.cell? ⟨g,off+i*5+2,none⟩=some (.int .i64 n)∧w.cell? ⟨g,off+i*5+3,none⟩=some (.int .i64 p)∧w.cell? ⟨g,off+i*5+4,none⟩=some (.slice D a.length c):=by
  obtain⟨g,off,cs,hA,hg,hr,_,hc⟩:=SlR.at h hi
  rw[e] at hr
  have hr2:=hr
  obtain⟨D,c,rfl,hk,hs⟩:=nd_ex hr
  exact ⟨g,off,D,c,hA,hg,hr2,hk,hs,hc 0 _ rfl,hc 1 _ rfl,hc 2 _ rfl,hc 3 _ rfl,hc 4 _ rfl⟩
/-- one node whose name has not been seen -/
theorem rep_one (k:Int) (s:Ê) (m p:Int) (a:List Nd) (A:Option Addr) (cap mb n:Nat) (f:List UInt8→Option Value) (w:À) (hl:NdsR w (lo w) (.slice A 1 cap) [.mk k s m p a]) (hm:SM w mb n f) (hn:n≤100) (hf:f s.data.toList=none) :
    Calls prog 113 #[.slice A 1 cap,.map (some mb)] w fun e w'=>e=.returned (.tuple #[.int .i64 0,.bool false])∧Stp (only mb) w w':=by
  obtain⟨b,off,D1,c1,rfl,hg,hr1,_,hs2,e0,e1,e2,e3,e4⟩:=nds_ex hl (i:=0) (by simp) rfl
  obtain⟨W2,hW2⟩:∃q,Hid (q=w.alloc (.cells (cl k s m p D1 a.length c1).toArray 83)):=⟨_,rfl⟩
  have B2:Hid (Below w.heap.size w W2):=by show Below _ _ _;rw[hW2.out];exact belA (belR _) _
  have Y2:Hid (Hs W2 w.heap.size 83 (cl k s m p D1 a.length c1).toArray):=by show Hs _ _ _ _;rw[hW2.out];exact Hs.new _ _ _
  have M2:Hid (SM W2 mb n f):=Lib.hid (hm.below B2.out hm.lt)
  have hlk:=SM.no M2.out hf hs2
  have HS:=Lib.hid hs2
  have HN:=Lib.hid hn
  simp only[Nat.zero_mul,Nat.add_zero] at e0 e1 e2 e3 e4
  clear hl hm hn hr1 hg hf hs2
  go_in
  go_wp2_with fail
  go_loopw [10] (fun i wr=>(i=.int .i64 0∧wr=w)∨(i=.int .i64 1∧Hid (Stp (only mb) w wr))) (fun i _=>1-(intOf i).toNat)
  case atStart=>exact .inl ⟨rfl,rfl⟩
  case round=>
    rcases hrel with ⟨rfl,rfl⟩|⟨rfl,HB⟩
    · go_upto_region 4 with (fail)
      rw[←hW2.out]
      clear hW2 e0 e1 e2 e3 e4
      obtain⟨y0,y1,y2,y3,y4⟩:=cf5 Y2.out
      go_wp2_with (refine wpList_put_is _ rfl _ _ _ 58 (.inl rfl) 4 (keyStr underlying9) underlying58 mb n f rfl M2.out (by have:=HN.out;unfold maxLen;omega) s.data.toList (.string s) (.bool true) rfl rfl (keyOf_string_mk underlying9 HS.out) ?_;intro w3 M3 G3)
      exact ⟨.inr ⟨rfl,Lib.hid ((Stp.of_below B2.out).trans (stp_put G3))⟩,by simp[intOf]⟩
    · go_wp2_with fail
      go_ret2
      exact ⟨rfl,HB.out⟩
theorem tw_main (s:Ê) (n p:Int) (A:Option Addr) (cap:Nat) (v:Value) (w:À) (hl:NdsR w (lo w) (.slice A 0 cap) []):Calls prog 65 #[.agg (cl 6 s n p A 0 cap).toArray,v] w fun e w'=>e=.returned (.tuple #[.int .i64 0,.bool false])∧Below w.heap.size w w':=by
  have hmm:=@run_makeMap prog
  obtain⟨W1,hW1,B1,Y1,x0,x1,x2,x3,x4⟩:=nb5 w 6 s n p A 0 cap
  have HL:=Lib.hid (leading_any 7 [] A cap W1 (NdsR.to hl (sub_lo B1.out)))
  have hs0:∀W,(Instr.slice 81 (.slice A 0 cap) (some (.int .i64 0)) none none).run prog W=.ok (.slice (fromA A cap 0 5) 0 cap) W:=fun W=>run_from22 W A 0 cap 0 (Nat.le_refl _)
  clear hl
  go_in
  go_upto_region 1 with fail
  rw[←hW1.out]
  clear hW1
  go_wp2_with fail
  refine HL.out.mono ?_
  rintro _ W2 ⟨rfl,hb⟩
  obtain⟨B2,Y2⟩:=zd2 (bel B1.out hb) (hs_bel Y1.out hb)
  clear x0 x1 x2 x3 x4 HL
  rw[show ldK 7 []=0 from rfl]
  clear hb
  go_wp2_with fail
  refine (rep_nil A cap _ _).mono ?_
  rintro _ W3 ⟨rfl,hw⟩
  have hb:Below W2.heap.size W2 W3:=by rw[hw];exact belA (belR _) _
  obtain⟨B3,Y3⟩:=zd2 (bel B2.out hb) (hs_bel Y2.out hb)
  obtain⟨y0,y1,y2,y3,y4⟩:=cf5 Y3.out
  clear hw hb
  go_upto_region 10 with fail
  obtain⟨W4,hW4⟩:∃q,Hid (q=(W3.alloc (.map #[] 0)).alloc (.map #[] 0)):=⟨_,rfl⟩
  have hb:Below W3.heap.size W3 W4:=by rw[hW4.out];exact belA (belA (belR _) _) _
  rw[←hW4.out]
  obtain⟨B4,Y4⟩:=zd2 (bel B3.out hb) (hs_bel Y3.out hb)
  clear hW4 hb y0 y1 y2 y3 y4
  obtain⟨y0,y1,y2,y3,y4⟩:=cf5 Y4.out
  go_wp2_with fail
  go_loopw [49] (fun i wr=>i=.int .i64 0∧Hid (Below w.heap.size w wr)) (fun _ _=>0)
  case atStart=>exact ⟨rfl,B4⟩
  case round=>
    obtain⟨rfl,HB⟩:=hrel
    go_wp2_with fail
    go_ret2
    exact ⟨rfl,HB.out⟩
theorem tw_eff (s:Ê) (n p:Int) (A:Option Addr) (cap:Nat) (v:Value) (w:À) (k2:Int) (s2:Ê) (n2 p2:Int) (a2:List Nd) (t:Nd) (ht:ndK t=12) (hl:NdsR w (lo w) (.slice A 2 cap) [.mk 7 s2 n2 p2 a2,t]):Calls prog 65 #[.agg (cl 4 s n p A 2 cap).toArray,v] w fun e w'=>e=.returned (.tuple #[.int .i64 0,.bool false])∧Below w.heap.size w w':=by
  have hmm:=@run_makeMap prog
  obtain⟨W1,hW1,B1,Y1,x0,x1,x2,x3,x4⟩:=nb5 w 4 s n p A 2 cap
  have HL:=Lib.hid (leading_any 7 [.mk 7 s2 n2 p2 a2,t] A cap W1 (NdsR.to hl (sub_lo B1.out)))
  have HN:=Lib.hid (NdsR.upto hl 1 (by simp))
  have HK:Hid (ldK 7 [.mk 7 s2 n2 p2 a2,t]=1):=Lib.hid (by cases t;simp only[ndK] at ht;subst ht;simp[ldK,List.takeWhile_cons,ndK])
  clear hl
  go_in
  go_upto_region 1 with fail
  rw[←hW1.out]
  clear hW1
  go_wp2_with fail
  refine HL.out.mono ?_
  rintro _ W2 ⟨rfl,hb⟩
  obtain⟨B2,Y2⟩:=zd2 (bel B1.out hb) (hs_bel Y1.out hb)
  clear x0 x1 x2 x3 x4 HL
  rw[HK.out]
  clear hb HK
  go_wp2_with fail
  have hb3:Below W2.heap.size W2 (W2.alloc (.map #[] 0)):=belA (belR _) _
  refine (rep_one 7 s2 n2 p2 a2 A cap W2.heap.size 0 (fun _=>none) _ (NdsR.to HN.out (sub_lo (bel B2.out hb3))) (MapIs.made _ _ _ _) (by omega) rfl).mono ?_
  rintro _ W3 ⟨rfl,st⟩
  have hb:Below W2.heap.size W2 W3:=⟨st.os.trans hb3.os,st.tape.trans hb3.tape,st.output.trans hb3.output,Nat.le_trans hb3.size st.size,fun k hk=>(st.block k (Nat.lt_of_lt_of_le hk hb3.size) (fun e=>by have e:k=W2.heap.size:=e;omega)).trans (hb3.block k hk)⟩
  obtain⟨B3,Y3⟩:=zd2 (bel B2.out hb) (hs_bel Y2.out hb)
  obtain⟨y0,y1,y2,y3,y4⟩:=cf5 Y3.out
  clear hb hb3 st
  go_wp2_with fail
  go_ret2
  exact ⟨rfl,B3.out⟩
end Go.Proofs.YtbmknjfgjphfbaaGreatDoor
set_option linter.all false
namespace Go.Proofs.YtbmknjfgjphfbaaGreatDoor
open Proofs.Tryz RowKit Maps WideMaps ChangeMaps
set_option maxRecDepth 100000
set_option maxHeartbeats 8000000
theorem sig_man (s:Ê) (n p:Int) (A:Option Addr) (cap:Nat) (w:À):Calls prog 66 #[.agg (cl 6 s n p A 0 cap).toArray] w fun e w'=>e=.returned (.slice none 0 0)∧Below w.heap.size w w':=by
  obtain⟨W1,hW1,B1,Y1,x0,x1,x2,x3,x4⟩:=nb5 w 6 s n p A 0 cap
  go_in
  go_upto_region 1 with fail
  rw[←hW1.out]
  clear hW1
  go_wp2_with fail
  go_loopw [3,11] (fun v i wr=>v=.slice none 0 0∧i=.int .i64 0∧Hid (Below w.heap.size w wr)) (fun _ _ _=>0)
  case atStart=>exact ⟨rfl,rfl,B1⟩
  case round=>
    obtain⟨rfl,rfl,HB⟩:=hrel
    go_wp2_with fail
    go_ret
    exact ⟨rfl,HB.out⟩
theorem subw {w a b:À} (ha:Below w.heap.size w a) (hb:Below w.heap.size w b):Sub (lo w) (lo w) a b:=fun k hk=>⟨hk,(hb.block k hk).trans (ha.block k hk).symm⟩
structure SgS (w wr:À) (v:Value) (l:List Nd) (xs:List Value):Prop where
  bl:Below w.heap.size w wr
  own:wr.ownsRow w.heap.size 83 5 v l.length xs
  row:RowG 5 (NdR wr (lo w)) xs l
theorem SgS.push {w wr W4 W5:À} {v v5:Value} {l:List Nd} {xs cs:List Value} {a:Nd} (h:SgS w wr v l xs) (hb:Below wr.heap.size wr W4) (hg:W4.grownBy W5 v.ownBlock) (ho:W5.ownsRow w.heap.size 83 5 v5 (l.length+1) (xs++cs)) (hc:cs.length=5) (hn:NdR wr (lo w) cs a):SgS w W5 v5 (l++[a]) (xs++cs):=by
  have hB:=bel h.bl hb
  have h5:=Below.grown hB hg hB.size (fun j hj=>(h.own.lt j hj).1)
  exact ⟨h5,by rw[List.length_append];exact ho,(h.row.to fun cs a x=>x.to (subw h.bl h5)).snoc hc (hn.to (subw h.bl h5))⟩
theorem SgS.out {w wr:À} {v:Value} {l:List Nd} {xs:List Value} (h:SgS w wr v l xs):NdsR wr (lo wr) v l:=
  (h.row.to fun cs a x=>x.to (P':=lo wr) fun b hb=>⟨Nat.lt_of_lt_of_le hb h.bl.size,rfl⟩).sl h.own fun g hg=>(h.own.lt g hg).2
theorem sig_eff (s:Ê) (n p:Int) (A:Option Addr) (cap:Nat) (w:À) (p1 q1 p2:Int) (hl:NdsR w (lo w) (.slice A 2 cap) [fdX p1 q1,tyB p2]):Calls prog 66 #[.agg (cl 4 s n p A 2 cap).toArray] w fun e w'=>∃B c,e=.returned (.slice B 2 c)∧Below w.heap.size w w'∧NdsR w' (lo w') (.slice B 2 c) [tyI q1,tyB p2]:=by
  obtain⟨io,hio,hiz,his,hib⟩:=info_parts info_83
  have HIO:=Lib.hid (And.intro hio (And.intro hiz (And.intro his hib)))
  clear hio hiz his hib
  obtain⟨W1,hW1,B1,Y1,x0,x1,x2,x3,x4⟩:=nb5 w 4 s n p A 2 cap
  have HL:=Lib.hid hl
  clear hl
  go_in
  go_upto_region 2 with fail
  rw[←hW1.out]
  clear hW1
  go_wp2_with fail
  go_loopw [3,11] (fun v i wr=>∃ (xs:List Value),(i=.int .i64 0∧Hid (SgS w wr v [] xs))∨(i=.int .i64 1∧Hid (SgS w wr v [tyI q1] xs))∨(i=.int .i64 2∧Hid (SgS w wr v [tyI q1,tyB p2] xs))) (fun _ i _=>2-(intOf i).toNat)
  case atStart=>exact ⟨[],.inl ⟨rfl,Lib.hid ⟨B1.out,World.ownsRow_nil _ _ _ _,RowG.nil _⟩⟩⟩
  case round=>
    obtain⟨xs,hrel⟩:=hrel
    rcases hrel with ⟨rfl,HS⟩|⟨rfl,HS⟩|⟨rfl,HS⟩
    · obtain⟨A0,c0,rfl⟩:=row_form HS.out.own
      obtain⟨b,off,D1,d1,rfl,hg,hr1,hk1,_,e0,e1,e2,e3,e4⟩:=nds_ex (NdsR.to HL.out (subw (belR _) HS.out.bl)) (i:=0) (by simp) (show _=Nd.mk 7 (str [120]) 0 p1 [tyI q1] from rfl)
      obtain⟨b2,of2,D2,d2,rfl,_,hr2,_,_,f0,f1,f2,f3,f4⟩:=nds_ex hk1 (i:=0) (by simp) (show _=Nd.mk 12 sInt 0 q1 [] from rfl)
      simp only[Nat.zero_mul,Nat.add_zero,List.length_cons,List.length_nil,Nat.zero_add] at e0 e1 e2 e3 e4 f0 f1 f2 f3 f4 hr2 HS
      obtain⟨W2,hW2,B2,Y2,y0,y1,y2,y3,y4⟩:=nb5 wr 7 (str [120]) 0 p1 (some ⟨b2,of2,none⟩) 1 d1
      have HO:=Lib.hid (row_stp HS.out.own (Stp.of_below (own:=fun _=>False) B2.out) (fun _ _ e=>e))
      have HZ:=Lib.hid (Nat.le_trans HS.out.bl.size B2.out.size)
      have HR2:=Lib.hid hr2
      have g0:=belC B2.out f0
      have g1:=belC B2.out f1
      have g2:=belC B2.out f2
      have g3:=belC B2.out f3
      have g4:=belC B2.out f4
      clear hr1 hk1 hr2 hg f0 f1 f2 f3 f4
      go_upto_region 5 with fail
      rw[←hW2.out]
      clear hW2 e0 e1 e2 e3 e4
      go_wp2_with (at_builtin;refine wpList_append_own_at _ rfl (.tmp 19) (.tmp 24) 81 rfl w.heap.size 83 io _ 5 64 underlying81 HIO.out.1 HIO.out.2.1 HIO.out.2.2.1 HIO.out.2.2.2 rfl (by decide) (.slice A0 0 c0) 0 xs rfl (row_al HO.out _) ⟨W2.heap.size,0,none⟩ 1 1 _ rfl rfl (World.news_of_block (Hs.new _ _ _)) (by intro u hu;simp at hu;repeat (first|(subst hu;rfl)|(rcases hu with rfl|hu;rfl))) (by unfold maxLen;omega) (by omega) (sz_al HZ.out _) ?_;intro vv w6 hown6 hgrow6 hnil6 hvb6;obtain⟨A6,c6,rfl⟩:=row_form hown6)
      exact ⟨⟨_,.inr (.inl ⟨rfl,Lib.hid (SgS.push HS.out (bel B2.out (belA (belR _) _)) hgrow6 hown6 rfl HR2.out)⟩)⟩,by simp[intOf]⟩
    · obtain⟨A0,c0,rfl⟩:=row_form HS.out.own
      obtain⟨b,off,D1,d1,rfl,hg,hr1,_,_,e0,e1,e2,e3,e4⟩:=nds_ex (NdsR.to HL.out (subw (belR _) HS.out.bl)) (i:=1) (by simp) (show _=Nd.mk 12 sBool 0 p2 [] from rfl)
      simp only[Nat.one_mul,Nat.add_zero,List.length_cons,List.length_nil,Nat.zero_add] at e0 e1 e2 e3 e4 hr1 HS
      obtain⟨W2,hW2,B2,Y2,y0,y1,y2,y3,y4⟩:=nb5 wr 12 sBool 0 p2 D1 0 d1
      have HO:=Lib.hid (row_stp HS.out.own (Stp.of_below (own:=fun _=>False) B2.out) (fun _ _ e=>e))
      have HZ:=Lib.hid (Nat.le_trans HS.out.bl.size B2.out.size)
      have HR2:=Lib.hid hr1
      clear hr1 hg
      go_upto_region 5 with fail
      rw[←hW2.out]
      clear hW2 e0 e1 e2 e3 e4
      go_wp2_with (first|(refine lr5 Y2 ?_)|(at_builtin;refine wpList_append_own_at _ rfl (.tmp 64) (.tmp 66) 81 rfl w.heap.size 83 io _ 5 64 underlying81 HIO.out.1 HIO.out.2.1 HIO.out.2.2.1 HIO.out.2.2.2 rfl (by decide) (.slice A0 1 c0) 1 xs rfl (row_al HO.out _) ⟨W2.heap.size,0,none⟩ 1 1 _ rfl rfl (World.news_of_block (Hs.new _ _ _)) (by intro u hu;simp at hu;repeat (first|(subst hu;rfl)|(rcases hu with rfl|hu;rfl))) (by unfold maxLen;omega) (by omega) (sz_al HZ.out _) ?_;intro vv w6 hown6 hgrow6 hnil6 hvb6;obtain⟨A6,c6,rfl⟩:=row_form hown6))
      exact ⟨⟨_,.inr (.inr ⟨rfl,Lib.hid (SgS.push HS.out (bel B2.out (belA (belR _) _)) hgrow6 hown6 rfl HR2.out)⟩)⟩,by simp[intOf]⟩
    · obtain⟨A0,c0,rfl⟩:=row_form HS.out.own
      go_wp2_with fail
      go_ret
      exact ⟨A0,c0,rfl,HS.out.bl,HS.out.out⟩
end Go.Proofs.YtbmknjfgjphfbaaGreatDoor
