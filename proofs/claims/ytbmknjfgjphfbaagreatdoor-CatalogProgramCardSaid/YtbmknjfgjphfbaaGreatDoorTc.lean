import Derived.Test.YtbmknjfgjphfbaaGreatDoorTb
import Derived.Test.YtbmknjfgjphfbaaGreatDoorZ22
set_option linter.all false
namespace Go.Proofs.YtbmknjfgjphfbaaGreatDoor
open Proofs.Tryz RowKit Maps WideMaps ChangeMaps
set_option maxRecDepth 100000
set_option maxHeartbeats 8000000
theorem ins58 (w:À) {ops:Array Oper} {rest:List Oper} {o:Oper} {a:Act} {Q:Exit→Act→À→Prop} (hg:o.guard=none) (m x v:Operand) (hop:o.op=Op.insert 58 m x v) (b n:Nat) (f:List UInt8→Option Value)
 (hm:a.eval m=.map (some b)) (his:SM w b n f) (hn:n≤100) (s:Ê) (val:Value) (hx:a.eval x=.string s) (hv:a.eval v=val) (hs:s.size≤100)
 (hk:∀w',SM w' b (if (f s.data.toList).isSome then n else n+1) (upd f s.data.toList (some val))→w.grownBy w' (some b)→wpList prog ops Q rest (a.put o.dst undef) w') :
 wpList prog ops Q (o::rest) a w:=
 wpList_put_is w hg m x v 58 (.inr hop) 4 (keyStr underlying9) underlying58 b n f hm his (by unfold maxLen;omega) s.data.toList (.string s) val hx hv (keyOf_string_mk underlying9 (by unfold maxLen;omega)) hk
/-- the actors behind the first declaration -/
def gMain:List UInt8→Option Value:=upd (fun _=>none) sMain.data.toList (some (.int .i64 0))
theorem gMain_e (i:Nat):gMain (str (nmE i)).data.toList=none:=by
  unfold gMain upd
  rw[if_neg]
  intro e
  have:=congrArg List.length e
  simp[nmE,str,sMain] at this
/-- the effects' names that have been seen -/
def fEff (f:List UInt8→Option Value) (i:Nat):Prop:=∀k,i≤k→k<30→f (nmE k)=none
theorem nmE_ne {i k:Nat} (h:i<k) (hk:k<30):nmE k≠nmE i:=by
  have key:∀k,k<30→∀i,i<k→nmE k≠nmE i:=by decide +kernel
  exact key k hk i h
theorem fEff.put {f:List UInt8→Option Value} {i:Nat} (h:fEff f i) (v:Option Value):fEff (upd f (nmE i) v) (i+1):=fun k h1 h2=>by
  unfold upd
  rw[if_neg (nmE_ne (by omega) h2)]
  exact h k (by omega) h2
/-- under way: j declarations have been looked at -/
structure TwS (w wr:À) (ma m2 j:Nat):Prop where
  st:Stp (only ma) w wr
  x:Hs wr w.heap.size 109 z2
  lt:ma<w.heap.size∧w.heap.size<m2∧m2<wr.heap.size
  am:∃m,SM wr ma m (if j=0 then fun _=>none else gMain)∧m≤100+j
  ef:∃m f,SM wr m2 m f∧m≤j∧fEff f (j-1)
theorem TwS.bl {w wr W:À} {ma m2 j:Nat} (h:TwS w wr ma m2 j) (hb:Below wr.heap.size wr W):TwS w W ma m2 j:=by
  refine ⟨h.st.trans (Stp.of_below hb),hs_bel h.x hb,⟨h.lt.1,h.lt.2.1,Nat.lt_of_lt_of_le h.lt.2.2 hb.size⟩,?_,?_⟩
  · obtain⟨m,h1,h2⟩:=h.am;exact ⟨m,h1.below hb h1.lt,h2⟩
  · obtain⟨m,f,h1,h2⟩:=h.ef;exact ⟨m,f,h1.below hb h1.lt,h2⟩
theorem hs_gr {w w':À} {g:Nat} {t:TypeId} {cs:Array Value} {b:Nat} (h:Hs w g t cs) (hg:w.grownBy w' (some b)) (hn:g≠b):Hs w' g t cs:=(hg.block g h.lt (fun e=>hn (by injection e))).trans h
theorem nds_nil {w w':À} {P P':Nat→Prop} {A:Option Addr} {c:Nat} (h:NdsR w P (.slice A 0 c) []):NdsR w' P' (.slice A 0 c) []:=by
  obtain⟨A',c',css,e,hl,_,_⟩:=h
  exact ⟨A',c',css,e,hl,fun h=>absurd h (by simp),fun i h=>absurd h (by simp)⟩
theorem TwS.main {w wr W:À} {ma m2 j m:Nat} (h:TwS w wr ma m2 j) (h0:j=0) (hg:wr.grownBy W (some ma)) (hm:SM W ma m (upd (fun _=>none) sMain.data.toList (some (.int .i64 (j:Int))))) (h1:m≤101):TwS w W ma m2 (j+1):=by
  have l:=h.lt
  refine ⟨h.st.trans (stp_put hg),hs_gr h.x hg (by omega),⟨l.1,l.2.1,Nat.lt_of_lt_of_le l.2.2 hg.size⟩,⟨m,?_,by omega⟩,?_⟩
  · rw[if_neg (by omega)]
    subst h0
    exact hm
  · obtain⟨k,f,h2,h3,h4⟩:=h.ef
    refine ⟨k,f,h2.same (hg.block m2 h2.lt (fun e=>by injection e;omega)),by omega,fun q a b=>h4 q (by omega) b⟩
theorem TwS.eff {w wr W:À} {ma m2 i m:Nat} {f:List UInt8→Option Value} {v:Value} (h:TwS w wr ma m2 (i+1)) (hf:fEff f i) (hg:wr.grownBy W (some m2)) (hm:SM W m2 m (upd f (nmE i) (some v))) (h1:m≤i+2):TwS w W ma m2 (i+1+1):=by
  have l:=h.lt
  refine ⟨⟨hg.os.trans h.st.os,hg.tape.trans h.st.tape,hg.output.trans h.st.output,Nat.le_trans h.st.size hg.size,fun k hk hn=>(hg.block k (Nat.lt_of_lt_of_le hk h.st.size) (fun e=>by injection e;omega)).trans (h.st.block k hk hn)⟩,hs_gr h.x hg (by omega),⟨l.1,l.2.1,Nat.lt_of_lt_of_le l.2.2 hg.size⟩,?_,⟨m,_,hm,h1,?_⟩⟩
  · obtain⟨k,h2,h3⟩:=h.am
    rw[if_neg (by omega)] at h2 ⊢
    exact ⟨k,h2.same (hg.block ma h2.lt (fun e=>by injection e;omega)),by omega⟩
  · exact hf.put _
section
variable {w:À} {db n:Nat} {l:List Nd} {A:Option Addr} {cap mt ma:Nat}
theorem lkN {w:À} {b n:Nat} {f:List UInt8→Option Value} {s:Ê} (h:SM w b n f) (hf:f s.data.toList=none) (hs:s.size≤maxLen):∀k,(Instr.lookup 90 (.map (some b)) (.string s) true).run prog (w.drewN k)=.ok (.tuple #[.int .i64 0,.bool false]) (w.drewN k):=fun k=>SM.noI (h.same rfl) hf hs
theorem twice_any (hl:l=kidsT n) (hn:n≤30) (hD:Dc w db l A cap mt ma (fun _=>none)) (hA:∃m,SM w ma m (fun _=>none)∧m≤100):Calls prog 40 #[.pointer (some ⟨db,0,none⟩)] w fun e w'=>e=.returned (.tuple #[.agg z2,.bool false])∧Stp (only ma) w w'∧∃m,SM w' ma m gMain∧m≤200:=by
  have hmm:=@run_makeMap prog
  obtain⟨W1,hW1⟩:∃q,Hid (q=w.alloc (.cells z2 109)):=⟨_,rfl⟩
  have B1:Hid (Below w.heap.size w W1):=by show Below _ _ _;rw[hW1.out];exact belA (belR _) _
  have X1:Hid (Hs W1 w.heap.size 109 z2):=by show Hs _ _ _ _;rw[hW1.out];exact Hs.new _ _ _
  have Z1:Hid (W1.heap.size=w.heap.size+1):=by show _=_;rw[hW1.out];simp
  obtain⟨W2,hW2⟩:∃q,Hid (q=(W1.alloc (.map #[] 0)).alloc (.map #[] 0)):=⟨_,rfl⟩
  have B2:Hid (Below W1.heap.size W1 W2):=by show Below _ _ _;rw[hW2.out];exact belA (belA (belR _) _) _
  have M2:Hid (SM W2 (W1.heap.size+1) 0 (fun _=>none)):=by
    show MapIs _ _ _ _ _ _ _
    rw[hW2.out]
    have:=MapIs.made prog 9 Lit.string (W1.alloc (.map #[] 0))
    simpa using this
  have Z2:Hid (W2.heap.size=w.heap.size+3):=by show _=_;rw[hW2.out];simp[Z1.out]
  have HD:=Lib.hid hD
  have HAA:=Lib.hid hA
  have lm:l.length≤9223372036854775807:=hD.nd.len.2
  have HL:=Lib.hid hl
  have HNN:=Lib.hid hn
  obtain⟨m2,hm2⟩:∃q,Hid (q=W1.heap.size+1):=⟨_,rfl⟩
  rw[←hm2.out] at M2
  clear hD hl hn hA
  go_in
  go_upto_region 1 with fail
  rw[←hW1.out]
  clear hW1
  go_upto_region 2 with fail
  rw[←hW2.out,←hm2.out]
  clear hW2
  have M:=OpS.start W2
  go_upto_region 3 with (refine ins58 _ rfl _ _ _ rfl W2.heap.size _ _ rfl M.out.1 (Nat.le_trans M.out.2.1 π) _ _ rfl rfl π ?_;intro w1 M1 G1;replace M:=OpS.step M M1 G1;clear M1 G1)
  have B3:=Lib.hid (bel B1.out (bel B2.out M.out.2.2.1))
  have HT:Hid (TwS w w1 ma m2 0):=⟨Stp.of_below B3.out,hs_bel X1.out (bel B2.out M.out.2.2.1),⟨HD.out.ne.2.2,by have:=hm2.out;have:=Z1.out;omega,by have:=hm2.out;have:=Z1.out;have:=Z2.out;have:=M.out.2.2.1.size;omega⟩,by obtain⟨m,h1,h2⟩:=HAA.out;exact⟨m,h1.below B3.out h1.lt,h2⟩,⟨0,_,M2.out.below M.out.2.2.1 M2.out.lt,Nat.le_refl _,fun k _ _=>rfl⟩⟩
  have c0:w1.cell? ⟨db,0,none⟩=some (.slice A l.length cap):=(HD.out.bl B3.out).bx.c 0
  clear M B1 B2 B3 X1 Z1 Z2 M2 hm2
  go_wp2_with fail
  clear c0
  go_loopw [25] (fun i wr=>∃ (j:Nat),j≤l.length∧i=.int .i64 j∧Hid (TwS w wr ma m2 j)) (fun i _=>l.length-(intOf i).toNat)
  case atStart=>exact ⟨0,by omega,rfl,HT⟩
  case round=>
    obtain⟨j,hj,rfl,HS⟩:=hrel
    clear HT
    by_cases hlt:j<l.length
    · have u1:decide ((j:Int)<(l.length:Int))=true:=decide_eq_true (by omega)
      have j0:(0:Int)≤(j:Int):=by omega
      have j1:(j:Int)<(l.length:Int):=by omega
      rcases Nat.eq_zero_or_pos j with hj0|hj0
      · have hk:l[j]=.mk 6 sMain 0 0 []:=by subst hj0;exact kidA HL.out hlt
        have HQ:NdsR wr (im (only ma) w) (.slice A l.length cap) l:=NdsR.to HD.out.ndi fun k hk=>⟨hk,HS.out.st.block k hk.1 hk.2⟩
        have D:Hid (Dc wr db l A cap mt ma (fun _=>none)):=by
          obtain⟨m,h1,h2⟩:=HS.out.am
          rw[if_pos hj0] at h1
          exact HD.out.st HS.out.st h1 (by have:=HNN.out;have:l.length≤31:=(by rw[HL.out];simp[kidsT];omega);omega)
        obtain⟨b,off,D2,d2,rfl,_,_,hk2,hsz,e0,e1,e2,e3,e4⟩:=nds_ex HQ hlt hk
        obtain⟨W4,hW4,B4,Y4,y0,y1,y2,y3,y4⟩:=nb5 wr 6 (sMain) 0 0 D2 0 d2
        have D4:=Lib.hid (D.out.bl B4.out)
        have HK:=Lib.hid hk2
        have HZ:=Lib.hid hsz
        have c1:W4.cell? ⟨db,1,none⟩=some (.map (some mt)):=D4.out.bx.c 1
        have c2:W4.cell? ⟨db,2,none⟩=some (.map (some ma)):=D4.out.bx.c 2
        have lk1:=lkN (s:=sMain) D4.out.tm rfl HZ.out
        have lk2:∀k,(Instr.lookup 90 (.map (some ma)) (.string (sMain)) true).run prog (W4.drewN k)=.ok (.tuple #[.int .i64 0,.bool false]) (W4.drewN k):=by
          obtain⟨m,h1,h2⟩:=D4.out.am
          exact lkN (s:=sMain) h1 rfl HZ.out
        have HJ:=Lib.hid hj0
        clear hk hk2 hsz HQ D hj0
        skip
        go_upto_region 6 with fail
        rw[←hW4.out]
        clear hW4 e0 e1 e2 e3 e4
        go_quiet (fail)
        generalize hQ:World.drewN W4 _=W5
        have B5:Hid (Below W4.heap.size W4 W5):=Lib.hid (hQ ▸ below_dwN _ (belR _))
        have D5:=Lib.hid (D4.out.bl B5.out)
        have Y5:=Lib.hid (hs_bel Y4.out B5.out)
        clear hQ lk1 lk2 c1 c2 y0 y1 y2 y3 y4
        obtain⟨y0,y1,y2,y3,y4⟩:=cf5 Y5.out
        have c2:W5.cell? ⟨db,2,none⟩=some (.map (some ma)):=D5.out.bx.c 2
        have lk2:∀k,(Instr.lookup 90 (.map (some ma)) (.string (sMain)) true).run prog (W5.drewN k)=.ok (.tuple #[.int .i64 0,.bool false]) (W5.drewN k):=by
          obtain⟨m,h1,h2⟩:=D5.out.am
          exact lkN (s:=sMain) h1 rfl HZ.out
        go_upto_region 7 with fail
        go_quiet (fail)
        generalize hQ:World.drewN W5 _=W6
        have B6:Hid (Below W5.heap.size W5 W6):=Lib.hid (hQ ▸ below_dwN _ (belR _))
        have D6:=Lib.hid (D5.out.bl B6.out)
        have Y6:=Lib.hid (hs_bel Y5.out B6.out)
        have H6:=Lib.hid (HS.out.bl (bel B4.out (bel B5.out B6.out)))
        clear hQ lk2 c2 y0 y1 y2 y3 y4 B5 B6 D5 Y5 D4 Y4
        obtain⟨y0,y1,y2,y3,y4⟩:=cf5 Y6.out
        go_wp2_with fail
        refine wp_region_still_tail 7 (by kernel_rfl) (by kernel_rfl) ?_
        obtain⟨W7,hW7⟩:∃q,q=W6.drew:=⟨_,rfl⟩
        have B7:Hid (Below W6.heap.size W6 W7):=Lib.hid (by rw[hW7];exact belDr W6)
        change wpStill _ _ (World.drew _) (fun a'=>wpList _ _ _ _ a' (World.drew _)) _ _
        have D7:=Lib.hid (D6.out.bl B7.out)
        have Y7:=Lib.hid (hs_bel Y6.out B7.out)
        have H7:=Lib.hid (H6.out.bl B7.out)
        rw[←hW7]
        clear hW7 y0 y1 y2 y3 y4 B7
        obtain⟨y0,y1,y2,y3,y4⟩:=cf5 Y7.out
        have c2:W7.cell? ⟨db,2,none⟩=some (.map (some ma)):=D7.out.bx.c 2
        obtain⟨mm,hm7,hm8⟩:∃m,SM W7 ma m (fun _=>none)∧m≤100+j:=by have:=H7.out.am;rw[if_pos HJ.out] at this;exact this
        have M7:=Lib.hid hm7
        have N7:=Lib.hid hm8
        have NE:Hid (wr.heap.size≠ma):=Lib.hid (by have:=HS.out.lt;have:=HS.out.st.size;omega)
        clear hm7 hm8
        simp only[List.take_succ_cons,List.take_zero,List.drop_succ_cons,List.drop_zero]
        repeat still_step
        refine wpStill_nil ?_
        clear c2
        go_wp2_with (first|(refine lr5 Y8 ?_)|(refine wpList_put_is _ rfl _ _ _ 90 (.inl rfl) 3 (keyStr underlying9) underlying90 ma mm (fun _=>none) rfl M7.out (by have:=N7.out;have:=HJ.out;unfold maxLen;omega) sMain.data.toList (.string sMain) (.int .i64 (j:Int)) rfl rfl (keyOf_string_mk underlying9 HZ.out) ?_;intro W8 M8 G8;have Y8:=Lib.hid (hs_gr Y7.out G8 NE.out);have M8:=Lib.hid M8;have G8:=Lib.hid G8;clear y0 y1 y2 y3 y4;obtain⟨y0,y1,y2,y3,y4⟩:=cf5 Y8.out)|(go_at_call 65;refine (tw_main _ _ _ _ _ _ _ (nds_nil HK.out)).mono ?_;rintro _ W9 ⟨rfl,hb9⟩))
        have H8:=TwS.main H7.out HJ.out G8.out M8.out (by have:=N7.out;have:=HJ.out;simp;omega)
        exact ⟨⟨j+1,by omega,by go_num,Lib.hid (H8.bl hb9)⟩,by simp[intOf];omega⟩
      · obtain⟨i,rfl⟩:∃i,j=i+1:=⟨j-1,by omega⟩
        have hk:=kidB HL.out hlt
        have hi30:i<30:=by have:=HNN.out;have:l.length=n+1:=(by rw[HL.out];simp[kidsT]);omega
        obtain⟨q,hq⟩:∃q:Int,Hid (q=17+25*(i:Int)):=⟨_,rfl⟩
        rw[←hq.out] at hk
        have HQ:NdsR wr (im (only ma) w) (.slice A l.length cap) l:=NdsR.to HD.out.ndi fun k hk=>⟨hk,HS.out.st.block k hk.1 hk.2⟩
        have D:Hid (Dc wr db l A cap mt ma (gMain)):=by
          obtain⟨m,h1,h2⟩:=HS.out.am
          rw[if_neg (by omega)] at h1
          exact HD.out.st HS.out.st h1 (by have:=HNN.out;have:l.length≤31:=(by rw[HL.out];simp[kidsT];omega);omega)
        obtain⟨b,off,D2,d2,rfl,_,_,hk2,hsz,e0,e1,e2,e3,e4⟩:=nds_ex HQ hlt hk
        obtain⟨W4,hW4,B4,Y4,y0,y1,y2,y3,y4⟩:=nb5 wr 4 (str (nmE i)) 0 q D2 2 d2
        have D4:=Lib.hid (D.out.bl B4.out)
        have HK:=Lib.hid hk2
        have HZ:=Lib.hid hsz
        have c1:W4.cell? ⟨db,1,none⟩=some (.map (some mt)):=D4.out.bx.c 1
        have c2:W4.cell? ⟨db,2,none⟩=some (.map (some ma)):=D4.out.bx.c 2
        have lk1:=lkN (s:=str (nmE i)) D4.out.tm rfl HZ.out
        have lk2:∀k,(Instr.lookup 90 (.map (some ma)) (.string (str (nmE i))) true).run prog (W4.drewN k)=.ok (.tuple #[.int .i64 0,.bool false]) (W4.drewN k):=by
          obtain⟨m,h1,h2⟩:=D4.out.am
          exact lkN (s:=str (nmE i)) h1 (gMain_e i) HZ.out
        clear hk hk2 hsz HQ D 
        simp only[List.length_cons,List.length_nil,Nat.zero_add] at e4 HK
        have HI:=Lib.hid hi30
        obtain⟨jj,hjj⟩:∃jj:Nat,Hid (jj=i+1):=⟨_,rfl⟩
        rw[←hjj.out] at e0 e1 e2 e3 e4 j0 j1 u1 hlt hj HS ⊢
        clear hj0 hi30
        go_upto_region 6 with fail
        rw[←hW4.out]
        clear hW4 e0 e1 e2 e3 e4
        go_quiet (fail)
        generalize hQ:World.drewN W4 _=W5
        have B5:Hid (Below W4.heap.size W4 W5):=Lib.hid (hQ ▸ below_dwN _ (belR _))
        have D5:=Lib.hid (D4.out.bl B5.out)
        have Y5:=Lib.hid (hs_bel Y4.out B5.out)
        clear hQ lk1 lk2 c1 c2 y0 y1 y2 y3 y4
        obtain⟨y0,y1,y2,y3,y4⟩:=cf5 Y5.out
        have c2:W5.cell? ⟨db,2,none⟩=some (.map (some ma)):=D5.out.bx.c 2
        have lk2:∀k,(Instr.lookup 90 (.map (some ma)) (.string (str (nmE i))) true).run prog (W5.drewN k)=.ok (.tuple #[.int .i64 0,.bool false]) (W5.drewN k):=by
          obtain⟨m,h1,h2⟩:=D5.out.am
          exact lkN (s:=str (nmE i)) h1 (gMain_e i) HZ.out
        go_upto_region 7 with fail
        go_quiet (fail)
        generalize hQ:World.drewN W5 _=W6
        have B6:Hid (Below W5.heap.size W5 W6):=Lib.hid (hQ ▸ below_dwN _ (belR _))
        have D6:=Lib.hid (D5.out.bl B6.out)
        have Y6:=Lib.hid (hs_bel Y5.out B6.out)
        have H6:=Lib.hid (HS.out.bl (bel B4.out (bel B5.out B6.out)))
        clear hQ lk2 c2 y0 y1 y2 y3 y4 B5 B6 D5 Y5 D4 Y4
        obtain⟨y0,y1,y2,y3,y4⟩:=cf5 Y6.out
        obtain⟨mm,ff,hm7,hm8,hf7⟩:=H6.out.ef
        have hf8:fEff ff i:=by have:=hjj.out;subst this;exact hf7
        have lk3:(Instr.lookup 58 (.map (some m2)) (.string (str (nmE i))) false).run prog W6=.ok (.bool false) W6:=SM.no hm7 (hf8 i (Nat.le_refl _) HI.out) HZ.out
        have M7:=Lib.hid hm7
        have N7:=Lib.hid hm8
        have F7:=Lib.hid hf8
        have NE:Hid (wr.heap.size≠m2):=Lib.hid (by have:=HS.out.lt;omega)
        clear hm7 hm8 hf7 hf8
        have K9:∀W8,W6.grownBy W8 (some m2)→NdsR W8 (lo W8) (.slice D2 2 d2) [.mk 7 (str [120]) 0 (q+11) [tyI (q+14)],tyB (q+20)]:=fun W8 G=>NdsR.to HK.out fun k hk=>⟨(show k<W8.heap.size from by have:=H6.out.st.size;have:=G.size;have:=hk.1;omega),(G.block k (by have:=H6.out.st.size;have:=hk.1;omega) (fun e=>by injection e;have:=H6.out.lt;have:=hk.1;omega)).trans ((H6.out.st.block k hk.1 hk.2).trans (HS.out.st.block k hk.1 hk.2).symm)⟩
        have K9:=Lib.hid K9
        go_wp2_with (first|(refine lr5 Y8 ?_)|(refine wpList_put_is _ rfl _ _ _ 58 (.inl rfl) 4 (keyStr underlying9) underlying58 m2 mm ff rfl M7.out (by have:=N7.out;have:=HI.out;have:=hjj.out;unfold maxLen;omega) (nmE i) (.string (str (nmE i))) (.bool true) rfl rfl (keyOf_string_mk underlying9 HZ.out) ?_;intro W8 M8 G8;have Y8:=Lib.hid (hs_gr Y6.out G8 NE.out);have M8:=Lib.hid M8;have G8:=Lib.hid G8;clear y0 y1 y2 y3 y4 lk3;obtain⟨y0,y1,y2,y3,y4⟩:=cf5 Y8.out)|(go_at_call 65;refine (tw_eff _ _ _ _ _ _ _ 0 (str [120]) 0 (q+11) [tyI (q+14)] (tyB (q+20)) rfl (K9.out _ G8.out)).mono ?_;rintro _ W9 ⟨rfl,hb9⟩))
        have H8:TwS w W8 ma m2 (jj+1):=by
          have e:=hjj.out
          subst e
          exact TwS.eff H6.out F7.out G8.out M8.out (by have:=N7.out;split<;>omega)
        exact ⟨⟨jj+1,by omega,by go_num,Lib.hid (H8.bl hb9)⟩,by simp[intOf];omega⟩
    · have u1:decide ((j:Int)<(l.length:Int))=false:=decide_eq_false (by omega)
      have X:Hid (Hs wr w.heap.size 109 z2):=Lib.hid HS.out.x
      have h0:0<l.length:=by rw[HL.out];simp[kidsT]
      have HA:∃m,SM wr ma m gMain∧m≤200:=by
        obtain⟨m,h1,h2⟩:=HS.out.am
        rw[if_neg (by omega)] at h1
        exact ⟨m,h1,by have:=HNN.out;have:l.length≤31:=(by rw[HL.out];simp[kidsT];omega);omega⟩
      have HA:=Lib.hid HA
      clear h0
      go_wp2_with (refine wpList_store_row rfl 109 _ _ rfl w.heap.size z2 rfl rfl 109 _ X.out Δ rfl (by simp[Value.oneCell']) ?_)
      have hb:∀k,k≠w.heap.size→(wr.setRow w.heap.size z2).heap[k]?=wr.heap[k]?:=fun k hk=>setRow_other _ _ _ _ hk
      refine bodyPost_ret (good_end rfl rfl rfl X.out) rfl ⟨rfl,stp_row HS.out.st (Nat.le_refl _) _,?_⟩
      obtain⟨m,h1,h2⟩:=HA.out
      exact ⟨m,h1.same (hb ma (by have:=HS.out.lt.1;omega)),h2⟩
end
end Go.Proofs.YtbmknjfgjphfbaaGreatDoor
set_option linter.all false
namespace Go.Proofs.YtbmknjfgjphfbaaGreatDoor
open Proofs.Tryz RowKit Maps WideMaps ChangeMaps
set_option maxRecDepth 100000
set_option maxHeartbeats 8000000
theorem params_nil (A:Option Addr) (cap:Nat) (w:À) (hl:NdsR w (lo w) (.slice A 0 cap) []):Calls prog 74 #[.slice A 0 cap] w fun e w'=>e=.returned (.slice none 0 0)∧Below w.heap.size w w':=by
  have HL:=Lib.hid (leading_any 7 [] A cap w hl)
  clear hl
  go_in
  go_wp2_with fail
  refine HL.out.mono ?_
  rintro _ W2 ⟨rfl,hb⟩
  rw[show ldK 7 []=0 from rfl]
  go_wp2_with fail
  go_loopw [3,11] (fun v i wr=>v=.slice none 0 0∧i=.int .i64 0∧wr=W2) (fun _ _ _=>0)
  case atStart=>exact ⟨rfl,rfl,rfl⟩
  case round=>
    obtain⟨rfl,rfl,rfl⟩:=hrel
    go_wp2_with fail
    go_ret
    exact ⟨rfl,hb⟩
theorem info_194:(prog.info? 194).map (fun i=>(i.zero,i.size,i.bytes))=some (some (.agg #[.string ⟨#[]⟩,.int .i64 0,.string ⟨#[]⟩,.slice none 0 0]),4,64):=by kernel_rfl
theorem params_eff (A:Option Addr) (cap:Nat) (w:À) (p1 q1 p2:Int) (hl:NdsR w (lo w) (.slice A 2 cap) [fdX p1 q1,tyB p2]):Calls prog 74 #[.slice A 2 cap] w fun e w'=>∃B m c,e=.returned (.slice B m c)∧Below w.heap.size w w':=by
  obtain⟨io,hio,hiz,his,hib⟩:=info_parts info_194
  have HIO:=Lib.hid (And.intro hio (And.intro hiz (And.intro his hib)))
  clear hio hiz his hib
  have HL:=Lib.hid (leading_any 7 [fdX p1 q1,tyB p2] A cap w hl)
  have HK:Hid (ldK 7 [fdX p1 q1,tyB p2]=1):=Lib.hid rfl
  have HN:Hid (NdsR w (lo w) (.slice A 1 cap) [fdX p1 q1]):=Lib.hid (NdsR.upto hl 1 (by simp))
  clear hl
  go_in
  go_wp2_with fail
  refine HL.out.mono ?_
  rintro _ W2 ⟨rfl,hb⟩
  rw[HK.out]
  have HB:=Lib.hid hb
  clear HL HK hb
  go_wp2_with fail
  go_loopw [3,11] (fun v i wr=>(v=.slice none 0 0∧i=.int .i64 0∧wr=W2)∨(∃B m c,v=.slice B m c∧i=.int .i64 1∧Hid (Below w.heap.size w wr))) (fun _ i _=>1-(intOf i).toNat)
  case atStart=>exact .inl ⟨rfl,rfl,rfl⟩
  case round=>
    rcases hrel with ⟨rfl,rfl,rfl⟩|⟨B,m,c,rfl,rfl,HB2⟩
    · obtain⟨b,off,D1,d1,rfl,hg,hr1,hk1,_,e0,e1,e2,e3,e4⟩:=nds_ex (NdsR.to HN.out (sub_lo HB.out)) (i:=0) (by simp) (show _=Nd.mk 7 (str [120]) 0 p1 [tyI q1] from rfl)
      obtain⟨b2,of2,D2,d2,rfl,_,hr2,_,_,f0,f1,f2,f3,f4⟩:=nds_ex hk1 (i:=0) (by simp) (show _=Nd.mk 12 sInt 0 q1 [] from rfl)
      simp only[Nat.zero_mul,Nat.add_zero,List.length_cons,List.length_nil,Nat.zero_add] at e0 e1 e2 e3 e4 f0 f1 f2 f3 f4 hr2
      obtain⟨W3,hW3,B3,Y3,y0,y1,y2,y3,y4⟩:=nb5 wr 7 (str [120]) 0 p1 (some ⟨b2,of2,none⟩) 1 d1
      have g0:=belC B3.out f0
      have g1:=belC B3.out f1
      have g2:=belC B3.out f2
      have g3:=belC B3.out f3
      have g4:=belC B3.out f4
      clear hr1 hk1 hr2 hg f0 f1 f2 f3 f4
      go_upto_region 5 with fail
      rw[←hW3.out]
      clear hW3 e0 e1 e2 e3 e4
      go_wp2_with fail
      refine (read_any sInt 3 (.inl ⟨rfl,rfl⟩) _ _ _ _).mono ?_
      rintro _ W4 ⟨rfl,hb4⟩
      obtain⟨W5,hW5⟩:∃q,Hid (q=W4.alloc (.cells (tyc 3).toArray 46)):=⟨_,rfl⟩
      have B5:Hid (Below W4.heap.size W4 W5):=by show Below _ _ _;rw[hW5.out];exact belA (belR _) _
      have X5:Hid (Hs W5 W4.heap.size 46 (tyc 3).toArray):=by show Hs _ _ _ _;rw[hW5.out];exact Hs.new _ _ _
      have B45:=Lib.hid (bel hb4 B5.out)
      obtain⟨z0,z1,z2,z3,z4⟩:=cf5 (hs_bel Y3.out B45.out)
      have B25:=Lib.hid (bel HB.out (bel B3.out B45.out))
      clear y0 y1 y2 y3 y4 g0 g1 g2 g3 g4 hb4
      go_upto_region 6 with fail
      rw[←hW5.out]
      clear hW5
      go_wp2_with (first|(refine wpList_load_row rfl 46 _ rfl W4.heap.size rfl 46 _ _ _ X5.out underlying46 rfl Δ ?_)|(at_builtin;refine wpList_append_own_at _ rfl (.tmp 23) (.tmp 28) 43 rfl w.heap.size 194 io _ 4 64 underlying43 HIO.out.1 HIO.out.2.1 HIO.out.2.2.1 HIO.out.2.2.2 rfl (by decide) (.slice none 0 0) 0 [] rfl (World.ownsRow_nil _ _ _ _) ⟨W5.heap.size,0,none⟩ 1 1 _ rfl rfl (World.news_of_block (Hs.new _ _ _)) (by intro u hu;simp at hu;repeat (first|(subst hu;rfl)|(rcases hu with rfl|hu;rfl))) (by unfold maxLen;omega) (by omega) (sz_al B25.out.size _) ?_;intro vv w6 hown6 hgrow6 hnil6 hvb6;obtain⟨A6,c6,rfl⟩:=row_form hown6))
      exact ⟨.inr ⟨A6,_,c6,rfl,rfl,Lib.hid (Below.grown (bel B25.out (belA (belR _) _)) hgrow6 (Nat.le_trans B25.out.size (by simp)) (fun j hj=>by cases hj))⟩,by simp[intOf]⟩
    · go_wp2_with fail
      go_ret
      exact ⟨B,m,c,rfl,HB2.out⟩
theorem result_eff (A:Option Addr) (cap:Nat) (w:À) (p1 q1 p2:Int) (hl:NdsR w (lo w) (.slice A 2 cap) [fdX p1 q1,tyB p2]):Calls prog 76 #[.slice A 2 cap] w fun e w'=>e=.returned (.agg (tyc 2).toArray)∧Below w.heap.size w w':=by
  obtain⟨W1,hW1⟩:∃q,Hid (q=w.alloc (.cells (tyc 0).toArray 46)):=⟨_,rfl⟩
  have B1:Hid (Below w.heap.size w W1):=by show Below _ _ _;rw[hW1.out];exact belA (belR _) _
  have X1:Hid (Hs W1 w.heap.size 46 (tyc 0).toArray):=by show Hs _ _ _ _;rw[hW1.out];exact Hs.new _ _ _
  have HL:=Lib.hid (leading_any 7 [fdX p1 q1,tyB p2] A cap W1 (NdsR.to hl (sub_lo B1.out)))
  have HK:Hid (ldK 7 [fdX p1 q1,tyB p2]=1):=Lib.hid rfl
  have HN:=Lib.hid hl
  clear hl
  go_in
  go_upto_region 1 with fail
  rw[←hW1.out]
  clear hW1
  go_wp2_with fail
  refine HL.out.mono ?_
  rintro _ W2 ⟨rfl,hb⟩
  rw[HK.out]
  have HB:=Lib.hid hb
  obtain⟨b,off,D1,d1,rfl,hg,hr1,_,_,e0,e1,e2,e3,e4⟩:=nds_ex (NdsR.to HN.out (sub_lo (bel B1.out HB.out))) (i:=1) (by simp) (show _=Nd.mk 12 sBool 0 p2 [] from rfl)
  simp only[Nat.one_mul,Nat.add_zero,List.length_cons,List.length_nil,Nat.zero_add] at e0 e1 e2 e3 e4
  clear HL HK hb hg hr1
  go_wp2_with fail
  refine (read_any sBool 2 (.inr ⟨rfl,rfl⟩) _ _ _ _).mono ?_
  rintro _ W4 ⟨rfl,hb4⟩
  obtain⟨W5,hW5⟩:∃q,Hid (q=W4.alloc (.cells (tyc 2).toArray 46)):=⟨_,rfl⟩
  have B5:Hid (Below W4.heap.size W4 W5):=by show Below _ _ _;rw[hW5.out];exact belA (belR _) _
  have X5:Hid (Hs W5 W4.heap.size 46 (tyc 2).toArray):=by show Hs _ _ _ _;rw[hW5.out];exact Hs.new _ _ _
  have BB:=Lib.hid (bel HB.out (bel hb4 B5.out))
  have X:=Lib.hid (hs_bel X1.out BB.out)
  clear hb4 e0 e1 e2 e3 e4
  go_upto_region 2 with fail
  rw[←hW5.out]
  clear hW5
  have O:=setRow_heap _ _ _ (tyc 2).toArray _ _ X.out
  go_wp2_with (first|(refine wpList_load_row rfl 46 _ rfl W4.heap.size rfl 46 _ _ _ X5.out underlying46 rfl Δ ?_)|(refine wpList_store_row rfl 46 _ _ rfl w.heap.size (tyc 2).toArray rfl rfl 46 _ X.out Δ rfl (by simp[Value.oneCell']) ?_))
  exact bodyPost_ret (results_cell_row results76 _ _ w.heap.size 46 _ _ _ rfl O underlying46 rfl Δ) rfl ⟨rfl,bel_row (bel B1.out BB.out) (Nat.le_refl _) _⟩
end Go.Proofs.YtbmknjfgjphfbaaGreatDoor
set_option linter.all false
namespace Go.Proofs.YtbmknjfgjphfbaaGreatDoor
open Proofs.Tryz RowKit Maps WideMaps ChangeMaps
set_option maxRecDepth 100000
set_option maxHeartbeats 8000000
abbrev ac7 (s:Ê):Array Value:=#[.string s,.slice none 0 0,.int .i64 0,.slice none 0 0,.slice none 0 0,.int .i64 0,.int .i64 0]
theorem actor_man (s:Ê) (p:Int) (A:Option Addr) (cap:Nat) (w:À) (hl:NdsR w (lo w) (.slice A 0 cap) []):Calls prog 77 #[.agg (cl 6 s 0 p A 0 cap).toArray] w fun e w'=>e=.returned (.agg (ac7 s))∧Below w.heap.size w w':=by
  obtain⟨W1,hW1⟩:∃q,Hid (q=(w.alloc (.cells (cl 6 s 0 p A 0 cap).toArray 83)).alloc (.cells (ac7 ⟨#[]⟩) 125)):=⟨_,rfl⟩
  have B1:Hid (Below w.heap.size w W1):=by show Below _ _ _;rw[hW1.out];exact belA (belA (belR _) _) _
  have Y1:=Lib.hid (hs2 w (cl 6 s 0 p A 0 cap).toArray (ac7 ⟨#[]⟩) 83 125).1
  have X1:=Lib.hid (hs2 w (cl 6 s 0 p A 0 cap).toArray (ac7 ⟨#[]⟩) 83 125).2
  rw[←hW1.out] at Y1 X1
  have HL:=Lib.hid hl
  clear hl
  go_in
  go_upto_region 1 with fail
  rw[←hW1.out]
  clear hW1
  go_cut [3] (fun v W=>∃g,v=.pointer (some ⟨g,0,none⟩)∧Hid (Hs W g 125 (ac7 s))∧Hid (Below W1.heap.size W1 W))
  case first=>
    go_wp2_with fail
    refine tkB (fun X=>Hs X w.heap.size 83 (cl 6 s 0 p A 0 cap).toArray) (hs_bel Y1.out (belDr W1)) (fun HS=>?_)
    obtain⟨X0,hX0⟩:∃q,q=W1.drew:=⟨_,rfl⟩
    have B0:=Lib.hid (belDr W1)
    rw[←hX0] at HS B0 ⊢
    clear hX0
    refine tkQ 0 ?_
    refine tkQ 1 ?_ (hy:=fun w hS=>by have q0:=hS.c 1;go_simp;first|done|with_reducible rfl)
    refine tkQ 2 ?_
    refine tkQ 3 ?_ (hy:=fun w hS=>by have q0:=hS.c 4;go_simp;first|done|with_reducible rfl)
    refine tkE2 4 6 (fun K hK=>?_) (fun K hK=>?_)
    · go_simp
      refine (params_nil _ _ _ (NdsR.to HL.out (sub_lo (bel B1.out B0.out)))).mono ?_
      rintro _ X2 ⟨rfl,hb2⟩
      have HB2:=Lib.hid hb2
      refine tkR hK (hs_bel HS hb2) (fun HS=>?_)
      clear hK K hb2
      refine tkQ 5 ?_
      refine tkE 6 (fun K hK=>?_)
      go_simp
      obtain⟨X3,hX3⟩:∃q,Hid (q=X2.alloc (.cells (ac7 ⟨#[]⟩) 125)):=⟨_,rfl⟩
      have HB3:Hid (Below X2.heap.size X2 X3):=by show Below _ _ _;rw[hX3.out];exact belA (belR _) _
      have HG3:Hid (Hs X3 X2.heap.size 125 (ac7 ⟨#[]⟩)):=by show Hs _ _ _ _;rw[hX3.out];exact Hs.new _ _ _
      rw[←hX3.out]
      clear hX3
      have BW:=Lib.hid (bel B0.out (bel HB2.out HB3.out))
      have GE:Hid (W1.heap.size≤X2.heap.size):=Lib.hid (Nat.le_trans B0.out.size HB2.out.size)
      have NE:Hid (w.heap.size≠X2.heap.size):=Lib.hid (by have:=HS.lt;omega)
      refine tkR hK (hs_bel HS HB3.out) (fun HS=>?_)
      clear hK K
      refine tkE 7 (fun K hK=>?_)
      rw[if_pos (by rfl)]
      refine wp_store_row 125 _ _ rfl X2.heap.size (ac7 s) rfl rfl 125 _ HG3.out Δ rfl (by simp[Value.oneCell']) ?_
      have HG4:=Lib.hid (setRow_heap _ _ _ (ac7 s) _ _ HG3.out)
      have HB4:=Lib.hid (bel_row BW.out GE.out (ac7 s).toList.toArray)
      refine tkR hK ((setRow_other _ _ _ _ NE.out).trans HS) (fun _=>?_)
      clear hK K
      refine tkD ?_
      go_wp2_with fail
      go_meet
      exact ⟨_,rfl,HG4,HB4⟩
    · go_simp
      obtain⟨X3,hX3⟩:∃q,Hid (q=X0.alloc (.cells (ac7 ⟨#[]⟩) 125)):=⟨_,rfl⟩
      have HB3:Hid (Below X0.heap.size X0 X3):=by show Below _ _ _;rw[hX3.out];exact belA (belR _) _
      have HG2:Hid (Hs X3 X0.heap.size 125 (ac7 ⟨#[]⟩)):=by show Hs _ _ _ _;rw[hX3.out];exact Hs.new _ _ _
      rw[←hX3.out]
      clear hX3
      have NE:Hid (w.heap.size≠X0.heap.size):=Lib.hid (by have:=HS.lt;omega)
      refine tkR hK (hs_bel HS HB3.out) (fun HS=>?_)
      clear hK K
      refine tkE 4 (fun K hK=>?_)
      go_simp
      refine (params_nil _ _ _ (NdsR.to HL.out (sub_lo (bel B1.out (bel B0.out HB3.out))))).mono ?_
      rintro _ X2 ⟨rfl,hb2⟩
      have HB2:=Lib.hid hb2
      have HG3:=Lib.hid (hs_bel HG2.out hb2)
      have BW:=Lib.hid (bel B0.out (bel HB3.out hb2))
      have GE:Hid (W1.heap.size≤X0.heap.size):=Lib.hid B0.out.size
      refine tkR hK (hs_bel HS hb2) (fun HS=>?_)
      clear hK K hb2
      refine tkQ 5 ?_
      refine tkE 7 (fun K hK=>?_)
      rw[if_pos (by rfl)]
      refine wp_store_row 125 _ _ rfl X0.heap.size (ac7 s) rfl rfl 125 _ HG3.out Δ rfl (by simp[Value.oneCell']) ?_
      have HG4:=Lib.hid (setRow_heap _ _ _ (ac7 s) _ _ HG3.out)
      have HB4:=Lib.hid (bel_row BW.out GE.out (ac7 s).toList.toArray)
      refine tkR hK ((setRow_other _ _ _ _ NE.out).trans HS) (fun _=>?_)
      clear hK K
      refine tkD ?_
      go_wp2_with fail
      go_meet
      exact ⟨_,rfl,HG4,HB4⟩
  case rest=>
    obtain⟨g,rfl,HG,HB⟩:=hcut
    have Y:=Lib.hid (hs_bel Y1.out HB.out)
    have X:=Lib.hid (hs_bel X1.out HB.out)
    have BW:=Lib.hid (bel B1.out HB.out)
    clear B1 X1 Y1 HB
    obtain⟨y0,y1,y2,y3,y4⟩:=cf5 Y.out
    go_wp2_with fail
    go_loopw [29] (fun i wr=>i=.int .i64 0∧Hid (Hs wr (w.heap.size+1) 125 (ac7 ⟨#[]⟩))∧Hid (Hs wr g 125 (ac7 s))∧Hid (Below w.heap.size w wr)) (fun _ _=>0)
    case atStart=>exact ⟨rfl,X,HG,BW⟩
    case round=>
      clear X HG BW Y y0 y1 y2 y3 y4
      obtain⟨rfl,X,HG,BW⟩:=hrel
      have O:=setRow_heap _ _ _ (ac7 s) _ _ X.out
      go_wp2_with (first|(refine wpList_load_row rfl 125 _ rfl g rfl 125 _ _ _ HG.out underlying125 rfl Δ ?_)|(refine wpList_store_row rfl 125 _ _ rfl (w.heap.size+1) (ac7 s) rfl rfl 125 _ X.out Δ rfl (by simp[Value.oneCell']) ?_))
      exact bodyPost_ret (results_cell_row results77 _ _ (w.heap.size+1) 125 _ _ _ rfl O underlying125 rfl Δ) rfl ⟨rfl,bel_row BW.out (Nat.le_succ _) _⟩
end Go.Proofs.YtbmknjfgjphfbaaGreatDoor
