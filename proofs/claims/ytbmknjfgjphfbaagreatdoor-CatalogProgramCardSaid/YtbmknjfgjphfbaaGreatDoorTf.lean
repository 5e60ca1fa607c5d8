import Derived.Test.YtbmknjfgjphfbaaGreatDoorTe
set_option linter.all false
namespace Go.Proofs.YtbmknjfgjphfbaaGreatDoor
open Proofs.Tryz RowKit Maps WideMaps ChangeMaps
set_option maxRecDepth 100000
set_option maxHeartbeats 8000000
/-- the checker's box -/
abbrev ck (vE vA:Value) (m1 m2 m3 m4 m5:Nat):Array Value:=#[.slice none 0 0,vE,.slice none 0 0,vA,.map (some m1),.map (some m2),.map (some m3),.map (some m4),.map (some m5),.slice none 0 0,.slice none 0 0,.slice none 0 0]
abbrev EsR (w:À) (P:Nat→Prop) (v:Value) (l:List (List UInt8)):Prop:=SlR w P 5 (fun cs nm=>∃B m c,cs=(ef5 (str nm) B m c).toList) v l
abbrev AsR (w:À) (P:Nat→Prop) (v:Value):Prop:=SlR w P 7 (fun cs (_:Unit)=>cs=(ac7 sMain).toList) v [()]
theorem nmE_sz (i:Nat):(str (nmE i)).size≤maxLen:=by show (nmE i).toArray.size≤maxLen;simp[nmE,maxLen]
structure NcS (w wr:À) (vE vA:Value) (m1 m2 m3 m4 m5 cb:Nat) (j k:Nat):Prop where
  bl:Below w.heap.size w wr
  c:Hs wr cb 92 (ck vE vA m1 m2 m3 m4 m5)
  bx:Hs wr w.heap.size 30 (pg4 vE vA)
  ge:w.heap.size<m3∧m3<m5∧m5<cb
  me:∃m f,SM wr m3 m f∧m≤j
  mc:∃m f,SM wr m5 m f∧m≤k
section
variable {w wr X:À} {vE vA:Value} {m1 m2 m3 m4 m5 cb j k m:Nat} {f:List UInt8→Option Value}
theorem NcS.blw (h:NcS w wr vE vA m1 m2 m3 m4 m5 cb j k) (hb:Below wr.heap.size wr X):NcS w X vE vA m1 m2 m3 m4 m5 cb j k:=by
  refine ⟨bel h.bl hb,hs_bel h.c hb,hs_bel h.bx hb,h.ge,?_,?_⟩
  · obtain⟨m,f,h1,h2⟩:=h.me;exact ⟨m,f,h1.below hb h1.lt,h2⟩
  · obtain⟨m,f,h1,h2⟩:=h.mc;exact ⟨m,f,h1.below hb h1.lt,h2⟩
theorem NcS.eff (h:NcS w wr vE vA m1 m2 m3 m4 m5 cb j k) (hg:wr.grownBy X (some m3)) (hm:SM X m3 m f) (h1:m≤j+1):NcS w X vE vA m1 m2 m3 m4 m5 cb (j+1) k:=by
  have hge:=h.ge
  refine ⟨bel_own h.bl (stp_put hg) (fun q e=>by have e:q=m3:=e;omega),hs_gr h.c hg (by omega),hs_gr h.bx hg (by omega),h.ge,⟨m,f,hm,h1⟩,?_⟩
  obtain⟨m,f,h1,h2⟩:=h.mc;exact ⟨m,f,h1.same (hg.block _ h1.lt (fun e=>by injection e;omega)),h2⟩
theorem NcS.act (h:NcS w wr vE vA m1 m2 m3 m4 m5 cb j k) (hg:wr.grownBy X (some m5)) (hm:SM X m5 m f) (h1:m≤k+1):NcS w X vE vA m1 m2 m3 m4 m5 cb j (k+1):=by
  have hge:=h.ge
  refine ⟨bel_own h.bl (stp_put hg) (fun q e=>by have e:q=m5:=e;omega),hs_gr h.c hg (by omega),hs_gr h.bx hg (by omega),h.ge,?_,⟨m,f,hm,h1⟩⟩
  obtain⟨m,f,h1,h2⟩:=h.me;exact ⟨m,f,h1.same (hg.block _ h1.lt (fun e=>by injection e;omega)),h2⟩
end
theorem five (w:À) (cs:Array Value) (W2:À) (hW2:W2=(((((w.alloc (.map #[] 0)).alloc (.map #[] 0)).alloc (.map #[] 0)).alloc (.map #[] 0)).alloc (.map #[] 0)).alloc (.cells cs 92)):Below w.heap.size w W2∧SM W2 (w.heap.size+1+1) 0 (fun _=>none)∧SM W2 (w.heap.size+1+1+1+1) 0 (fun _=>none)∧Hs W2 (w.heap.size+1+1+1+1+1) 92 cs:=by
  subst hW2
  refine ⟨belA (belA (belA (belA (belA (belA (belR _) _) _) _) _) _) _,?_,?_,?_⟩
  · have h:=MapIs.made prog 9 Lit.string ((w.alloc (.map #[] 0)).alloc (.map #[] 0))
    have h2:=MapIs.below h (belA (belA (belA (belR _) (.map #[] 0)) (.map #[] 0)) (.cells cs 92)) h.lt
    simpa using h2
  · have h:=MapIs.made prog 9 Lit.string ((((w.alloc (.map #[] 0)).alloc (.map #[] 0)).alloc (.map #[] 0)).alloc (.map #[] 0))
    have h2:=MapIs.below h (belA (belR _) (.cells cs 92)) h.lt
    simpa using h2
  · have h:=Hs.new (((((w.alloc (.map #[] 0)).alloc (.map #[] 0)).alloc (.map #[] 0)).alloc (.map #[] 0)).alloc (.map #[] 0)) 92 cs
    simpa using h
theorem nchk_any (A:Option Addr) (cap:Nat) (A2:Option Addr) (cap2:Nat) (n:Nat) (hn:n≤30) (w:À) (he:EsR w (lo w) (.slice A n cap) (nmL n)) (ha:AsR w (lo w) (.slice A2 1 cap2)):Calls prog 27 #[.agg (pg4 (.slice A n cap) (.slice A2 1 cap2))] w fun e w'=>∃cb m1 m2 m3 m4 m5,e=.returned (.pointer (some ⟨cb,0,none⟩))∧Below w.heap.size w w'∧w.heap.size≤cb∧Hs w' cb 92 (ck (.slice A n cap) (.slice A2 1 cap2) m1 m2 m3 m4 m5):=by
  have hmm:=@run_makeMap prog
  obtain⟨W1,hW1⟩:∃q,Hid (q=w.alloc (.cells (pg4 (.slice A n cap) (.slice A2 1 cap2)) 30)):=⟨_,rfl⟩
  have B1:Hid (Below w.heap.size w W1):=by show Below _ _ _;rw[hW1.out];exact belA (belR _) _
  have X1:Hid (Hs W1 w.heap.size 30 (pg4 (.slice A n cap) (.slice A2 1 cap2))):=by show Hs _ _ _ _;rw[hW1.out];exact Hs.new _ _ _
  have S1:Hid (W1.heap.size=w.heap.size+1):=by show _=_;rw[hW1.out];simp
  have HE:=Lib.hid he
  have HA:=Lib.hid ha
  have HNN:=Lib.hid hn
  have lm:n≤9223372036854775807:=by omega
  clear he ha hn
  go_in
  go_upto_region 1 with fail
  rw[←hW1.out]
  clear hW1
  go_upto_region 2 with (refine wpList_load_row rfl 30 _ rfl w.heap.size rfl 30 _ _ _ X1.out underlying30 rfl Δ ?_)
  obtain⟨m1,m2,m3,m4,m5,cb,hm⟩:∃m1 m2 m3 m4 m5 cb,Hid (m1=W1.heap.size∧m2=W1.heap.size+1∧m3=W1.heap.size+1+1∧m4=W1.heap.size+1+1+1∧m5=W1.heap.size+1+1+1+1∧cb=W1.heap.size+1+1+1+1+1):=⟨_,_,_,_,_,_,rfl,rfl,rfl,rfl,rfl,rfl⟩
  obtain⟨W2,hW2⟩:∃q,Hid (q=(((((W1.alloc (.map #[] 0)).alloc (.map #[] 0)).alloc (.map #[] 0)).alloc (.map #[] 0)).alloc (.map #[] 0)).alloc (.cells (ck (.slice A n cap) (.slice A2 1 cap2) m1 m2 m3 m4 m5) 92)):=⟨_,rfl⟩
  rw[←hm.out.2.2.2.2.2,←hm.out.2.2.2.2.1,←hm.out.2.2.2.1,←hm.out.2.2.1,←hm.out.2.1,←hm.out.1,←hW2.out]
  have HS:Hid (NcS w W2 (.slice A n cap) (.slice A2 1 cap2) m1 m2 m3 m4 m5 cb 0 0):=by
    obtain⟨h1,h2,h3,h4⟩:=five W1 _ W2 hW2.out
    obtain⟨i1,i2,i3,i4,i5,i6⟩:=hm.out
    rw[←i3] at h2
    rw[←i5] at h3
    rw[←i6] at h4
    have:=S1.out
    exact ⟨bel B1.out h1,h4,hs_bel X1.out h1,by omega,⟨0,_,h2,by omega⟩,⟨0,_,h3,by omega⟩⟩
  clear hW2 X1 B1 S1 hm hmm
  obtain⟨x0,x1,x2,x3⟩:(W2.cell? ⟨w.heap.size,0,none⟩=some (.slice none 0 0)∧W2.cell? ⟨w.heap.size,1,none⟩=some (.slice A n cap)∧W2.cell? ⟨w.heap.size,2,none⟩=some (.slice none 0 0)∧W2.cell? ⟨w.heap.size,3,none⟩=some (.slice A2 1 cap2)):=⟨HS.out.bx.c 0,HS.out.bx.c 1,HS.out.bx.c 2,HS.out.bx.c 3⟩
  go_wp2_with fail
  clear x0 x1 x2 x3
  go_loopw [25] (fun i wr=>i=.int .i64 0∧Hid (NcS w wr (.slice A n cap) (.slice A2 1 cap2) m1 m2 m3 m4 m5 cb 0 0)) (fun _ _=>0)
  case atStart=>exact ⟨rfl,HS⟩
  case round=>
    clear HS
    obtain⟨rfl,HS⟩:=hrel
    obtain⟨x0,x1,x2,x3⟩:(wr.cell? ⟨w.heap.size,0,none⟩=some (.slice none 0 0)∧wr.cell? ⟨w.heap.size,1,none⟩=some (.slice A n cap)∧wr.cell? ⟨w.heap.size,2,none⟩=some (.slice none 0 0)∧wr.cell? ⟨w.heap.size,3,none⟩=some (.slice A2 1 cap2)):=⟨HS.out.bx.c 0,HS.out.bx.c 1,HS.out.bx.c 2,HS.out.bx.c 3⟩
    go_wp2_with fail
    clear x0 x1 x2 x3
    go_loopw [59] (fun i wr=>∃ (j:Nat),j≤n∧i=.int .i64 j∧Hid (NcS w wr (.slice A n cap) (.slice A2 1 cap2) m1 m2 m3 m4 m5 cb j 0)) (fun i _=>n-(intOf i).toNat)
    case atStart=>exact ⟨0,by omega,rfl,HS⟩
    case round=>
      clear HS
      obtain⟨j,hj,rfl,HS⟩:=hrel
      by_cases hlt:j<n
      · have u1:decide ((j:Int)<(n:Int))=true:=decide_eq_true (by omega)
        have j0:(0:Int)≤(j:Int):=by omega
        have j1:(j:Int)<(n:Int):=by omega
        have HLT:=Lib.hid hlt
        obtain⟨g,off,cs,hA,hg,hR,_,hc⟩:=SlR.at HE.out (i:=j) (by rw[nmL_len];exact hlt)
        obtain⟨B,bm,bc,rfl⟩:=hR
        cases hA
        obtain⟨s,hs⟩:∃s,Hid (s=str (nmE j)):=⟨_,rfl⟩
        rw[show (nmL n)[j]'(by rw[nmL_len];exact hlt)=nmE j from by simp[nmL],←hs.out] at hc
        have e0:=belC HS.out.bl (hc 0 _ rfl)
        have e1:=belC HS.out.bl (hc 1 _ rfl)
        have e2:=belC HS.out.bl (hc 2 _ rfl)
        have e3:=belC HS.out.bl (hc 3 _ rfl)
        have e4:=belC HS.out.bl (hc 4 _ rfl)
        simp only[Nat.add_zero] at e0
        obtain⟨W3,hW3⟩:∃q,Hid (q=wr.alloc (.cells (ef5 s B bm bc) 48)):=⟨_,rfl⟩
        have hb:Below wr.heap.size wr W3:=by rw[hW3.out];exact belA (belR _) _
        have HS3:=Lib.hid (HS.out.blw hb)
        have Y3:Hid (Hs W3 wr.heap.size 48 (ef5 s B bm bc)):=by show Hs _ _ _ _;rw[hW3.out];exact Hs.new _ _ _
        have NE:Hid (wr.heap.size≠m3):=Lib.hid (by obtain⟨_,_,h,_⟩:=HS.out.me;have:=h.lt;omega)
        clear hc hb
        go_upto_region 16 with fail
        rw[←hW3.out]
        clear hW3 e0 e1 e2 e3 e4
        refine wp_region_still_tail 7 (by kernel_rfl) (by kernel_rfl) ?_
        obtain⟨W7,hW7⟩:∃q,q=W3.drew:=⟨_,rfl⟩
        have B7:Hid (Below W3.heap.size W3 W7):=Lib.hid (by rw[hW7];exact belDr W3)
        change wpStill _ _ (World.drew _) (fun a'=>wpList _ _ _ _ a' (World.drew _)) _ _
        have HS7:=Lib.hid (HS3.out.blw B7.out)
        have Y7:=Lib.hid (hs_bel Y3.out B7.out)
        rw[←hW7]
        clear hW7 B7
        have y0:=Y7.out.c 0
        have c6:=HS7.out.c.c 6
        obtain⟨mm,ff,hm7,hm8⟩:=HS7.out.me
        have M7:=Lib.hid hm7
        have N7:=Lib.hid hm8
        clear hm7 hm8
        simp only[List.take_succ_cons,List.take_zero,List.drop_succ_cons,List.drop_zero]
        repeat still_step
        refine wpStill_nil ?_
        clear c6 y0
        go_wp2_with (refine wpList_put_is _ rfl _ _ _ 90 (.inl rfl) 3 (keyStr underlying9) underlying90 m3 mm ff rfl M7.out (by have:=N7.out;have:=HNN.out;have:=HLT.out;unfold maxLen;omega) s.data.toList (.string s) (.int .i64 (j:Int)) rfl rfl (keyOf_string_mk underlying9 (by rw[hs.out];exact nmE_sz j)) ?_;intro W8 M8 G8;have M8:=Lib.hid M8;have G8:=Lib.hid G8)
        exact ⟨⟨j+1,by have:=HLT.out;omega,by go_num,Lib.hid (HS7.out.eff G8.out M8.out (by have:=N7.out;split<;>omega))⟩,by simp[intOf];omega⟩
      · have u1:decide ((j:Int)<(n:Int))=false:=decide_eq_false (by omega)
        obtain rfl:j=n:=by omega
        obtain⟨x0,x1,x2,x3⟩:(wr.cell? ⟨w.heap.size,0,none⟩=some (.slice none 0 0)∧wr.cell? ⟨w.heap.size,1,none⟩=some (.slice A j cap)∧wr.cell? ⟨w.heap.size,2,none⟩=some (.slice none 0 0)∧wr.cell? ⟨w.heap.size,3,none⟩=some (.slice A2 1 cap2)):=⟨HS.out.bx.c 0,HS.out.bx.c 1,HS.out.bx.c 2,HS.out.bx.c 3⟩
        go_wp2_with fail
        clear x0 x1 x2 x3
        go_loopw [75] (fun i wr=>i=.int .i64 0∧Hid (NcS w wr (.slice A j cap) (.slice A2 1 cap2) m1 m2 m3 m4 m5 cb j 0)) (fun _ _=>0)
        case atStart=>exact ⟨rfl,HS⟩
        case round=>
          clear HS
          obtain⟨rfl,HS⟩:=hrel
          obtain⟨x0,x1,x2,x3⟩:(wr.cell? ⟨w.heap.size,0,none⟩=some (.slice none 0 0)∧wr.cell? ⟨w.heap.size,1,none⟩=some (.slice A j cap)∧wr.cell? ⟨w.heap.size,2,none⟩=some (.slice none 0 0)∧wr.cell? ⟨w.heap.size,3,none⟩=some (.slice A2 1 cap2)):=⟨HS.out.bx.c 0,HS.out.bx.c 1,HS.out.bx.c 2,HS.out.bx.c 3⟩
          go_wp2_with fail
          clear x0 x1 x2 x3
          go_loopw [91] (fun i wr=>(i=.int .i64 0∧Hid (NcS w wr (.slice A j cap) (.slice A2 1 cap2) m1 m2 m3 m4 m5 cb j 0))∨(i=.int .i64 1∧Hid (NcS w wr (.slice A j cap) (.slice A2 1 cap2) m1 m2 m3 m4 m5 cb j 1))) (fun i _=>1-(intOf i).toNat)
          case atStart=>exact .inl ⟨rfl,HS⟩
          case round=>
            clear HS
            rcases hrel with ⟨rfl,HS⟩|⟨rfl,HS⟩
            · obtain⟨g,off,cs,hA,hg,hR,_,hc⟩:=SlR.at HA.out (i:=0) (by simp)
              subst hR
              cases hA
              have e0:=belC HS.out.bl (hc 0 _ rfl)
              have e1:=belC HS.out.bl (hc 1 _ rfl)
              have e2:=belC HS.out.bl (hc 2 _ rfl)
              have e3:=belC HS.out.bl (hc 3 _ rfl)
              have e4:=belC HS.out.bl (hc 4 _ rfl)
              have e5:=belC HS.out.bl (hc 5 _ rfl)
              have e6:=belC HS.out.bl (hc 6 _ rfl)
              simp only[Nat.zero_mul,Nat.add_zero] at e0 e1 e2 e3 e4 e5 e6
              obtain⟨W3,hW3⟩:∃q,Hid (q=wr.alloc (.cells (ac7 sMain) 125)):=⟨_,rfl⟩
              have hb:Below wr.heap.size wr W3:=by rw[hW3.out];exact belA (belR _) _
              have HS3:=Lib.hid (HS.out.blw hb)
              have Y3:Hid (Hs W3 wr.heap.size 125 (ac7 sMain)):=by show Hs _ _ _ _;rw[hW3.out];exact Hs.new _ _ _
              clear hc hb
              go_upto_region 26 with fail
              rw[←hW3.out]
              clear hW3 e0 e1 e2 e3 e4 e5 e6
              refine wp_region_still_tail 7 (by kernel_rfl) (by kernel_rfl) ?_
              obtain⟨W7,hW7⟩:∃q,q=W3.drew:=⟨_,rfl⟩
              have B7:Hid (Below W3.heap.size W3 W7):=Lib.hid (by rw[hW7];exact belDr W3)
              change wpStill _ _ (World.drew _) (fun a'=>wpList _ _ _ _ a' (World.drew _)) _ _
              have HS7:=Lib.hid (HS3.out.blw B7.out)
              have Y7:=Lib.hid (hs_bel Y3.out B7.out)
              rw[←hW7]
              clear hW7 B7
              have y0:=Y7.out.c 0
              have c6:=HS7.out.c.c 8
              obtain⟨mm,ff,hm7,hm8⟩:=HS7.out.mc
              have M7:=Lib.hid hm7
              have N7:=Lib.hid hm8
              clear hm7 hm8
              simp only[List.take_succ_cons,List.take_zero,List.drop_succ_cons,List.drop_zero]
              repeat still_step
              refine wpStill_nil ?_
              clear c6 y0
              go_wp2_with (refine wpList_put_is _ rfl _ _ _ 90 (.inl rfl) 3 (keyStr underlying9) underlying90 m5 mm ff rfl M7.out (by have:=N7.out;unfold maxLen;omega) sMain.data.toList (.string sMain) (.int .i64 0) rfl rfl (keyOf_string_mk underlying9 (by decide)) ?_;intro W8 M8 G8;have M8:=Lib.hid M8;have G8:=Lib.hid G8)
              exact ⟨.inr ⟨rfl,Lib.hid (HS7.out.act G8.out M8.out (by have:=N7.out;split<;>omega))⟩,by simp[intOf]⟩
            · go_wp2_with fail
              go_ret
              exact ⟨_,_,_,_,_,_,rfl,HS.out.bl,by have:=HS.out.ge;omega,HS.out.c⟩
end Go.Proofs.YtbmknjfgjphfbaaGreatDoor
set_option linter.all false
namespace Go.Proofs.YtbmknjfgjphfbaaGreatDoor
open Proofs.Tryz RowKit Maps WideMaps ChangeMaps
set_option maxRecDepth 100000
set_option maxHeartbeats 8000000
theorem chgs_any (n:Nat) (l:List Nd) (hl:l=kidsT n) (cs:List Value) (c:Value) (w:À) (hc:NdR w (lo w) cs (.mk 1 e0 0 0 l)):Calls prog 29 #[c,.agg cs.toArray] w fun e w'=>e=.returned (.tuple #[])∧Below w.heap.size w w':=by
  have hmm:=@run_makeMap prog
  obtain⟨A,cap,rfl,hk,_⟩:=nd_ex hc
  obtain⟨W1,hW1,B1,Y1,y0,y1,y2,y3,y4⟩:=nb5 w 1 e0 0 0 A l.length cap
  have HK:=Lib.hid hk
  have lm:l.length≤9223372036854775807:=hk.len.2
  have HL:=Lib.hid hl
  clear hl hk hc
  go_in
  go_upto_region 1 with fail
  rw[←hW1.out]
  clear hW1
  go_upto_region 2 with fail
  obtain⟨W2,hW2⟩:∃q,Hid (q=(W1.alloc (.map #[] 0)).alloc (.map #[] 0)):=⟨_,rfl⟩
  have hb:Below W1.heap.size W1 W2:=by rw[hW2.out];exact belA (belA (belR _) _) _
  have B2:=Lib.hid (bel B1.out hb)
  have Y2:=Lib.hid (hs_bel Y1.out hb)
  rw[←hW2.out]
  clear hW2 hb y0 y1 y2 y3 y4 hmm
  obtain⟨y0,y1,y2,y3,y4⟩:=cf5 Y2.out
  go_wp2_with fail
  clear y0 y1 y2 y3 y4
  go_loopw [16] (fun i wr=>∃ (j:Nat),j≤l.length∧i=.int .i64 j∧Hid (Below w.heap.size w wr)) (fun i _=>l.length-(intOf i).toNat)
  case atStart=>exact ⟨0,by omega,rfl,B2⟩
  case round=>
    obtain⟨j,hj,rfl,HB⟩:=hrel
    by_cases hlt:j<l.length
    · have u1:decide ((j:Int)<(l.length:Int))=true:=decide_eq_true (by omega)
      have j0:(0:Int)≤(j:Int):=by omega
      have j1:(j:Int)<(l.length:Int):=by omega
      have HKK:∃k s p a,Hid (k=4∨k=6)∧l[j]=.mk k s 0 p a:=by
        rcases j with _|i
        · exact⟨_,_,_,_,Lib.hid (.inr rfl),kidA HL.out hlt⟩
        · exact⟨_,_,_,_,Lib.hid (.inl rfl),kidB HL.out hlt⟩
      obtain⟨k,s,p,a,hk46,hk⟩:=HKK
      obtain⟨b,off,D2,d2,rfl,_,_,_,_,e0,e1,e2,e3,e4⟩:=nds_ex (NdsR.to HK.out (sub_lo HB.out)) hlt hk
      obtain⟨W3,hW3,B3,Y3,y0,y1,y2,y3,y4⟩:=nb5 wr k s 0 p D2 a.length d2
      clear hk
      go_upto_region 5 with fail
      rw[←hW3.out]
      clear hW3 e0 e1 e2 e3 e4
      have HB3:=Lib.hid (bel HB.out B3.out)
      rcases hk46.out with rfl|rfl
      all_goals
        go_wp2_with fail
        exact ⟨⟨j+1,by omega,by go_num,HB3⟩,by simp[intOf];omega⟩
    · have u1:decide ((j:Int)<(l.length:Int))=false:=decide_eq_false (by omega)
      go_wp2_with fail
      first|go_end0|refine bodyPost_ret (results_none rfl _ _ _) rfl ?_
      exact ⟨rfl,HB.out⟩
/-- what actor leaves: the actors' own row, its Slots cell written -/
theorem cactor_any (s:Ê) (p:Int) (D:Option Addr) (d:Nat) (vE:Value) (gA off cap cb m1 m2 m3 m4 m5:Nat) (w:À) (hd:NdsR w (lo w) (.slice D 0 d) []) (hc:Hs w cb 92 (ck vE (.slice (some ⟨gA,off,none⟩) 1 cap) m1 m2 m3 m4 m5)) (h1:w.cell? ⟨gA,off+1,none⟩=some (.slice none 0 0)) (h2:w.cell? ⟨gA,off+2,none⟩=some (.int .i64 0)) (hf:w.frozen? ⟨gA,off+2,none⟩=false) (hg:gA<w.heap.size):Calls prog 48 #[.pointer (some ⟨cb,0,none⟩),.int .i64 0,.agg (cl 6 s 0 p D 0 d).toArray] w fun e w'=>e=.returned (.tuple #[])∧Stp (·=gA) w w':=by
  obtain⟨W1,hW1,B1,Y1,y0,y1,y2,y3,y4⟩:=nb5 w 6 s 0 p D 0 d
  have C1:=Lib.hid (hs_bel hc B1.out)
  have z1:=belC B1.out h1
  have z2:W1.cell? ⟨gA,off+2,none⟩=some (.int .i64 0):=belC B1.out h2
  have zf:W1.frozen? ⟨gA,off+2,none⟩=false:=(World.frozen?_of_block (B1.out.block gA hg)).trans hf
  have HG:=Lib.hid hg
  clear hd hc h1 h2 hf hg
  have c0:=C1.out.c 3
  go_in
  go_upto_region 1 with fail
  rw[←hW1.out]
  clear hW1
  go_wp2_with fail
  clear c0 z1 y0 y1 y2 y3 y4
  go_loopw [8,27] (fun a i wr=>a=.int .i64 0∧i=.int .i64 0∧Hid (wr=W1)) (fun _ _ _=>0)
  case atStart=>exact ⟨rfl,rfl,Lib.hid rfl⟩
  case round=>
    obtain⟨rfl,rfl,hwr⟩:=hrel
    rw[hwr.out]
    clear hwr
    have c0:=C1.out.c 3
    go_wp2_with fail
    first|go_end0|refine bodyPost_ret (results_none rfl _ _ _) rfl ?_
    refine ⟨rfl,?_⟩
    have st:=stp_cell W1 gA (off+2) (.int .i64 0)
    have sb:=Stp.of_below (own:=fun k=>k=gA) B1.out
    exact sb.trans st
/-- declarations -/
theorem decs_any (n:Nat) (l:List Nd) (hl:l=kidsT n) (cs:List Value) (vE:Value) (gA off cap cb m1 m2 m3 m4 m5:Nat) (w:À) (hn:NdR w (im (only gA) w) cs (.mk 1 e0 0 0 l)) (hc:Hs w cb 92 (ck vE (.slice (some ⟨gA,off,none⟩) 1 cap) m1 m2 m3 m4 m5)) (h1:w.cell? ⟨gA,off+1,none⟩=some (.slice none 0 0)) (h2:w.cell? ⟨gA,off+2,none⟩=some (.int .i64 0)) (hf:w.frozen? ⟨gA,off+2,none⟩=false) (hg:gA<w.heap.size):Calls prog 28 #[.pointer (some ⟨cb,0,none⟩),.agg cs.toArray] w fun e w'=>e=.returned (.tuple #[])∧Stp (·=gA) w w':=by
  obtain⟨A,cap2,rfl,hk,_⟩:=nd_ex hn
  obtain⟨W1,hW1,B1,Y1,y0,y1,y2,y3,y4⟩:=nb5 w 1 e0 0 0 A l.length cap2
  have HK:=Lib.hid hk
  have lm:l.length≤9223372036854775807:=hk.len.2
  have HL:=Lib.hid hl
  have HC:=Lib.hid hc
  have H1:=Lib.hid h1
  have H2:=Lib.hid h2
  have HF:=Lib.hid hf
  have HG:=Lib.hid hg
  clear hl hk hn hc h1 h2 hf hg
  go_in
  go_upto_region 1 with fail
  rw[←hW1.out]
  clear hW1
  go_wp2_with fail
  clear y0 y1 y2 y3 y4
  go_loopw [4,5,12] (fun a b i wr=>∃ (j:Nat),j≤l.length∧i=.int .i64 j∧a=.int .i64 0∧b=.int .i64 (if j=0 then 0 else 1)∧Hid (Stp (·=gA) w wr)∧Hid (j=0→Below w.heap.size w wr)) (fun _ _ i _=>l.length-(intOf i).toNat)
  case atStart=>exact ⟨0,by omega,rfl,rfl,rfl,Lib.hid (Stp.of_below B1.out),Lib.hid (fun _=>B1.out)⟩
  case round=>
    obtain⟨j,hj,rfl,rfl,rfl,HS,HB0⟩:=hrel
    by_cases hlt:j<l.length
    · have u1:decide ((j:Int)<(l.length:Int))=true:=decide_eq_true (by omega)
      have j0:(0:Int)≤(j:Int):=by omega
      have j1:(j:Int)<(l.length:Int):=by omega
      have HQ:NdsR wr (im (only gA) w) (.slice A l.length cap2) l:=NdsR.to HK.out fun k hk=>⟨hk,HS.out.block k hk.1 hk.2⟩
      rcases Nat.eq_zero_or_pos j with hj0|hj0
      · have hk:l[j]=.mk 6 sMain 0 0 []:=by subst hj0;exact kidA HL.out hlt
        obtain⟨b,off2,D2,d2,rfl,_,_,hk2,_,e0,e1,e2,e3,e4⟩:=nds_ex HQ hlt hk
        obtain⟨W3,hW3,B3,Y3,y0,y1,y2,y3,y4⟩:=nb5 wr 6 sMain 0 0 D2 0 d2
        have HK2:=Lib.hid hk2
        have ST3:=Lib.hid (HS.out.trans (Stp.of_below B3.out))
        clear hk hk2 HQ
        rw[if_pos hj0]
        have HJ:=Lib.hid hj0
        have HBB:=Lib.hid (bel (HB0.out hj0) B3.out)
        obtain⟨jj,hjj⟩:∃jj:Nat,Hid (jj=j):=⟨_,rfl⟩
        rw[←hjj.out] at e0 e1 e2 e3 e4 j0 j1 u1 hlt ⊢
        clear hj0
        go_upto_region 5 with fail
        rw[←hW3.out]
        clear hW3 e0 e1 e2 e3 e4
        go_wp2_with (first|(refine lr5 Y3 ?_)|(go_at_call 48;refine (cactor_any _ _ _ _ vE gA off cap cb m1 m2 m3 m4 m5 _ (nds_nil HK2.out) (hs_bel HC.out HBB.out) (belC HBB.out H1.out) (belC HBB.out H2.out) ((World.frozen?_of_block (HBB.out.block gA HG.out)).trans HF.out) (Nat.lt_of_lt_of_le HG.out HBB.out.size)).mono ?_;rintro _ W4 ⟨rfl,st⟩;have ST4:=Lib.hid (ST3.out.trans st);clear st y0 y1 y2 y3 y4))
        exact ⟨⟨jj+1,by omega,by go_num,rfl,by rw[if_neg (by omega)],ST4,Lib.hid (fun e=>by omega)⟩,by simp[intOf];omega⟩
      · obtain⟨i,rfl⟩:∃i,j=i+1:=⟨j-1,by omega⟩
        have hk:=kidB HL.out hlt
        obtain⟨q,hq⟩:∃q:Int,Hid (q=17+25*(i:Int)):=⟨_,rfl⟩
        rw[←hq.out] at hk
        obtain⟨b,off2,D2,d2,rfl,_,_,hk2,_,e0,e1,e2,e3,e4⟩:=nds_ex HQ hlt hk
        obtain⟨W3,hW3,B3,Y3,y0,y1,y2,y3,y4⟩:=nb5 wr 4 (str (nmE i)) 0 q D2 2 d2
        have ST3:=Lib.hid (HS.out.trans (Stp.of_below B3.out))
        clear hk hk2 HQ
        rw[if_neg (by omega)]
        obtain⟨jj,hjj⟩:∃jj:Nat,Hid (jj=i+1):=⟨_,rfl⟩
        rw[←hjj.out] at e0 e1 e2 e3 e4 j0 j1 u1 hlt ⊢
        clear hj0
        simp only[List.length_cons,List.length_nil,Nat.zero_add] at e4
        go_upto_region 5 with fail
        rw[←hW3.out]
        clear hW3 e0 e1 e2 e3 e4
        go_wp2_with fail
        exact ⟨⟨jj+1,by omega,by go_num,rfl,by rw[if_neg (by omega)],ST3,Lib.hid (fun e=>by omega)⟩,by simp[intOf];omega⟩
    · have u1:decide ((j:Int)<(l.length:Int))=false:=decide_eq_false (by omega)
      go_wp2_with fail
      all_goals
        first|go_end0|refine bodyPost_ret (results_none rfl _ _ _) rfl ?_
        exact ⟨rfl,HS.out⟩
end Go.Proofs.YtbmknjfgjphfbaaGreatDoor
