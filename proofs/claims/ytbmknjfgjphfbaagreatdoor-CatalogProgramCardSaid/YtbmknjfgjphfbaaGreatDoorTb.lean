import Derived.Test.YtbmknjfgjphfbaaGreatDoorTa
import Derived.OwnWalk
import Derived.Deep.OwnRows
set_option linter.all false
namespace Go.Proofs.YtbmknjfgjphfbaaGreatDoor
open Proofs.Tryz RowKit Maps WideMaps ChangeMaps
set_option maxRecDepth 100000
set_option maxHeartbeats 8000000
abbrev sMain:Ê:=str [77,97,105,110]
theorem kidA {l:List Nd} {n:Nat} (h:l=kidsT n) (h0:0<l.length):l[0]=.mk 6 sMain 0 0 []:=by subst h;rfl
theorem kidB {l:List Nd} {n i:Nat} (h:l=kidsT n) (h0:i+1<l.length):l[i+1]=.mk 4 (str (nmE i)) 0 (17+25*(i:Int)) [fdX (17+25*(i:Int)+11) (17+25*(i:Int)+14),tyB (17+25*(i:Int)+20)]:=by
  subst h
  simp[kidsT,effT]
/-- the declarations under way -/
structure Dc (w:À) (db:Nat) (l:List Nd) (A:Option Addr) (cap mt ma:Nat) (g:List UInt8→Option Value):Prop where
  bx:Hs w db 105 #[.slice A l.length cap,.map (some mt),.map (some ma)]
  ndi:NdsR w (im (only ma) w) (.slice A l.length cap) l
  ne:db≠ma∧mt≠ma∧ma<w.heap.size
  tm:SM w mt 0 (fun _=>none)
  am:∃m,SM w ma m g∧m≤200
theorem Dc.bl {w w':À} {db:Nat} {l:List Nd} {A:Option Addr} {cap mt ma:Nat} {g:List UInt8→Option Value} (h:Dc w db l A cap mt ma g) (hb:Below w.heap.size w w'):Dc w' db l A cap mt ma g:=
  ⟨hs_bel h.bx hb,NdsR.to h.ndi (fun k hk=>⟨⟨Nat.lt_of_lt_of_le hk.1 hb.size,hk.2⟩,hb.block k hk.1⟩),⟨h.ne.1,h.ne.2.1,Nat.lt_of_lt_of_le h.ne.2.2 hb.size⟩,h.tm.below hb h.tm.lt,by obtain⟨m,h1,h2⟩:=h.am;exact⟨m,h1.below hb h1.lt,h2⟩⟩
theorem Dc.nd {w:À} {db:Nat} {l:List Nd} {A:Option Addr} {cap mt ma:Nat} {g:List UInt8→Option Value} (h:Dc w db l A cap mt ma g):NdsR w (lo w) (.slice A l.length cap) l:=NdsR.to h.ndi fun k hk=>⟨hk.1,rfl⟩
theorem Dc.st {w w':À} {db m:Nat} {l:List Nd} {A:Option Addr} {cap mt ma:Nat} {g g':List UInt8→Option Value} (h:Dc w db l A cap mt ma g) (st:Stp (only ma) w w') (hm:SM w' ma m g') (h1:m≤200):Dc w' db l A cap mt ma g':=
  ⟨hs_stp h.bx st h.ne.1,NdsR.to h.ndi (fun k hk=>⟨⟨Nat.lt_of_lt_of_le hk.1 st.size,hk.2⟩,st.block k hk.1 hk.2⟩),⟨h.ne.1,h.ne.2.1,Nat.lt_of_lt_of_le h.ne.2.2 st.size⟩,h.tm.same (st.block mt h.tm.lt h.ne.2.1),m,hm,h1⟩
abbrev z2:Array Value:=#[.int .i64 0,.int .i64 0]
def Good (w:À) (e:Ending) (w':À):Prop:=e=.returned (.tuple #[.agg z2,.bool false])∧Below w.heap.size w w'
theorem good_end {w W:À} {fn:Func} {tmps:Array Value} (h:fn.results=#[.cell 2 109,.tmp 3]) (hp:tmps.getD 2 undef=.pointer (some ⟨w.heap.size,0,none⟩)) (hq:tmps.getD 3 undef=.bool false) (hx:Hs W w.heap.size 109 z2):(results fn tmps).run prog (W.setRow w.heap.size z2)=.ok (.tuple #[.agg z2,.bool false]) (W.setRow w.heap.size z2):=by
  rw[←hq]
  exact ret_ct h _ _ w.heap.size z2 hp (setRow_heap _ _ _ z2 _ _ hx) underlying109 Δ
section
variable {w:À} {db n:Nat} {l:List Nd} {A:Option Addr} {cap mt ma:Nat} {g:List UInt8→Option Value}
theorem ranges_any (hl:l=kidsT n) (hD:Dc w db l A cap mt ma g):Calls prog 43 #[.pointer (some ⟨db,0,none⟩)] w (Good w):=by
  obtain⟨W1,hW1⟩:∃q,Hid (q=w.alloc (.cells z2 109)):=⟨_,rfl⟩
  have B1:Hid (Below w.heap.size w W1):=by show Below _ _ _;rw[hW1.out];exact belA (belR _) _
  have X1:Hid (Hs W1 w.heap.size 109 z2):=by show Hs _ _ _ _;rw[hW1.out];exact Hs.new _ _ _
  have D1:=Lib.hid (hD.bl B1.out)
  have c0:W1.cell? ⟨db,0,none⟩=some (.slice A l.length cap):=D1.out.bx.c 0
  have lm:l.length≤9223372036854775807:=hD.nd.len.2
  have HL:=Lib.hid hl
  clear hD hl
  go_in
  go_upto_region 1 with fail
  rw[←hW1.out]
  clear hW1
  go_wp2_with fail
  clear c0
  go_loopw [11] (fun i wr=>∃ (j:Nat),j≤l.length∧i=.int .i64 j∧Hid (Below W1.heap.size W1 wr)) (fun i _=>l.length-(intOf i).toNat)
  case atStart=>exact ⟨0,by omega,rfl,Lib.hid (belR _)⟩
  case round=>
    obtain⟨j,hj,rfl,HB⟩:=hrel
    by_cases hlt:j<l.length
    · have u1:decide ((j:Int)<(l.length:Int))=true:=decide_eq_true (by omega)
      have j0:(0:Int)≤(j:Int):=by omega
      have j1:(j:Int)<(l.length:Int):=by omega
      have D:=Lib.hid (D1.out.bl HB.out)
      have HK:∃k s p a,l[j]=.mk k s 0 p a:=by
        rcases j with _|i
        · exact⟨_,_,_,_,kidA HL.out hlt⟩
        · exact⟨_,_,_,_,kidB HL.out hlt⟩
      obtain⟨k,s,p,a,hk⟩:=HK
      obtain⟨b,off,D2,d2,rfl,_,_,_,_,e0,e1,e2,e3,e4⟩:=nds_ex D.out.nd hlt hk
      obtain⟨W2,hW2,B2,Y2,y0,y1,y2,y3,y4⟩:=nb5 wr k s 0 p D2 a.length d2
      clear hk
      go_upto_region 4 with fail
      rw[←hW2.out]
      clear hW2 e0 e1 e2 e3 e4
      go_wp2_with fail
      all_goals exact ⟨⟨j+1,by omega,by go_num,Lib.hid (bel HB.out B2.out)⟩,by simp[intOf];omega⟩
    · have u1:decide ((j:Int)<(l.length:Int))=false:=decide_eq_false (by omega)
      have X:=Lib.hid (hs_bel X1.out HB.out)
      go_wp2_with (refine wpList_store_row rfl 109 _ _ rfl w.heap.size z2 rfl rfl 109 _ X.out Δ rfl (by simp[Value.oneCell']) ?_)
      exact bodyPost_ret (good_end rfl rfl rfl X.out) rfl ⟨rfl,bel_row (bel B1.out HB.out) (Nat.le_refl _) _⟩
theorem names_any (hl:l=kidsT n) (hD:Dc w db l A cap mt ma g):Calls prog 41 #[.pointer (some ⟨db,0,none⟩)] w (Good w):=by
  obtain⟨W1,hW1⟩:∃q,Hid (q=w.alloc (.cells z2 109)):=⟨_,rfl⟩
  have B1:Hid (Below w.heap.size w W1):=by show Below _ _ _;rw[hW1.out];exact belA (belR _) _
  have X1:Hid (Hs W1 w.heap.size 109 z2):=by show Hs _ _ _ _;rw[hW1.out];exact Hs.new _ _ _
  have D1:=Lib.hid (hD.bl B1.out)
  have c0:W1.cell? ⟨db,0,none⟩=some (.slice A l.length cap):=D1.out.bx.c 0
  have lm:l.length≤9223372036854775807:=hD.nd.len.2
  have HL:=Lib.hid hl
  clear hD hl
  go_in
  go_upto_region 1 with fail
  rw[←hW1.out]
  clear hW1
  go_wp2_with fail
  clear c0
  go_loopw [15] (fun i wr=>∃ (j:Nat),j≤l.length∧i=.int .i64 j∧Hid (Below W1.heap.size W1 wr)) (fun i _=>l.length-(intOf i).toNat)
  case atStart=>exact ⟨0,by omega,rfl,Lib.hid (belR _)⟩
  case round=>
    obtain⟨j,hj,rfl,HB⟩:=hrel
    obtain⟨W0,rfl⟩:∃W0:World,W0=wr:=⟨_,rfl⟩
    by_cases hlt:j<l.length
    · have u1:decide ((j:Int)<(l.length:Int))=true:=decide_eq_true (by omega)
      have j0:(0:Int)≤(j:Int):=by omega
      have j1:(j:Int)<(l.length:Int):=by omega
      have D:=Lib.hid (D1.out.bl HB.out)
      rcases Nat.eq_zero_or_pos j with hj0|hj0
      · have hk:l[j]=.mk 6 sMain 0 0 []:=by subst hj0;exact kidA HL.out hlt
        obtain⟨b,off,D2,d2,rfl,_,_,_,_,e0,e1,e2,e3,e4⟩:=nds_ex D.out.nd hlt hk
        obtain⟨W2,hW2,B2,Y2,y0,y1,y2,y3,y4⟩:=nb5 W0 6 sMain 0 0 D2 0 d2
        clear hk hj0
        go_upto_region 4 with fail
        rw[←hW2.out]
        clear hW2 e0 e1 e2 e3 e4
        go_wp2_with (first|(refine lr5 Y2 ?_)|(go_at_call 66;refine (sig_man _ _ _ _ _ _).mono ?_;rintro _ W3 ⟨rfl,hb3⟩))
        have B3:=Lib.hid (bel (bel HB.out B2.out) hb3)
        clear hb3 y0 y1 y2 y3 y4
        go_loopw [22] (fun i wr=>i=.int .i64 0∧Hid (Below W1.heap.size W1 wr)) (fun _ _=>0)
        case atStart=>exact ⟨rfl,B3⟩
        case round=>
          obtain⟨rfl,HB2⟩:=hrel
          go_wp2_with fail
          exact ⟨⟨j+1,by omega,by go_num,HB2⟩,by simp[intOf];omega⟩
      · obtain⟨i,rfl⟩:∃i,j=i+1:=⟨j-1,by omega⟩
        have hk:=kidB HL.out hlt
        obtain⟨q,hq⟩:∃q:Int,Hid (q=17+25*(i:Int)):=⟨_,rfl⟩
        rw[←hq.out] at hk
        obtain⟨jj,hjj⟩:∃jj:Nat,Hid (jj=i+1):=⟨_,rfl⟩
        obtain⟨b,off,D2,d2,rfl,_,_,hk2,_,e0,e1,e2,e3,e4⟩:=nds_ex D.out.nd hlt hk
        obtain⟨W2,hW2,B2,Y2,y0,y1,y2,y3,y4⟩:=nb5 W0 4 (str (nmE i)) 0 q D2 2 d2
        have HK2:=Lib.hid (NdsR.to hk2 (sub_lo B2.out))
        clear hk hk2
        rw[←hjj.out] at e0 e1 e2 e3 e4 j0 j1 u1 hlt ⊢
        simp only[List.length_cons,List.length_nil,Nat.zero_add] at e4
        go_upto_region 4 with fail
        rw[←hW2.out]
        clear hW2 e0 e1 e2 e3 e4
        go_wp2_with (first|(refine lr5 Y2 ?_)|(go_at_call 66;refine (sig_eff _ _ _ _ _ _ _ _ _ HK2.out).mono ?_;rintro _ W3 ⟨E,ec,rfl,hb3,hn3⟩))
        have B3:=Lib.hid (bel (bel HB.out B2.out) hb3)
        have N3:=Lib.hid hn3
        clear hb3 hn3 y0 y1 y2 y3 y4
        go_loopw [22] (fun i wr=>∃ (k:Nat),k≤2∧i=.int .i64 k∧Hid (Below W3.heap.size W3 wr)) (fun i _=>2-(intOf i).toNat)
        case atStart=>exact ⟨0,by omega,rfl,Lib.hid (belR _)⟩
        case round=>
          obtain⟨k,hk,rfl,HB4⟩:=hrel
          by_cases hk2:k<2
          · have v1:decide ((k:Int)<2)=true:=decide_eq_true (by omega)
            have k0:(0:Int)≤(k:Int):=by omega
            have k1:(k:Int)<2:=by omega
            have HT:∃s p kk,Hid (BT s kk)∧[tyI (q+14),tyB (q+20)][k]=Nd.mk 12 s 0 p []:=by
              rcases (by omega:k=0∨k=1) with rfl|rfl
              · exact⟨_,_,3,Lib.hid (.inl ⟨rfl,rfl⟩),rfl⟩
              · exact⟨_,_,2,Lib.hid (.inr ⟨rfl,rfl⟩),rfl⟩
            obtain⟨s5,p5,kk,hbt,hk5⟩:=HT
            obtain⟨b5,of5,D5,d5,rfl,_,_,_,_,e0,e1,e2,e3,e4⟩:=nds_ex (NdsR.to N3.out (sub_lo HB4.out)) (by simpa using hk2) hk5
            obtain⟨W5,hW5,B5,Y5,y0,y1,y2,y3,y4⟩:=nb5 wr 12 s5 0 p5 D5 0 d5
            clear hk5
            go_upto_region 7 with fail
            rw[←hW5.out]
            clear hW5 e0 e1 e2 e3 e4
            go_wp2_with (first|(refine lr5 Y5 ?_)|(go_at_call 67;refine (undecl_any _ _ hbt.out _ _ _ _ _ _).mono ?_;rintro _ W6 ⟨rfl,hb6⟩))
            exact ⟨⟨k+1,by omega,by go_num,Lib.hid (bel (bel HB4.out B5.out) hb6)⟩,by simp[intOf];omega⟩
          · have v1:decide ((k:Int)<2)=false:=decide_eq_false (by omega)
            go_wp2_with fail
            exact ⟨⟨jj+1,by omega,by go_num,Lib.hid (bel B3.out HB4.out)⟩,by simp[intOf];omega⟩
    · have u1:decide ((j:Int)<(l.length:Int))=false:=decide_eq_false (by omega)
      have X:=Lib.hid (hs_bel X1.out HB.out)
      go_wp2_with (refine wpList_store_row rfl 109 _ _ rfl w.heap.size z2 rfl rfl 109 _ X.out Δ rfl (by simp[Value.oneCell']) ?_)
      exact bodyPost_ret (good_end rfl rfl rfl X.out) rfl ⟨rfl,bel_row (bel B1.out HB.out) (Nat.le_refl _) _⟩
theorem stored_any (hl:l=kidsT n) (hD:Dc w db l A cap mt ma g):Calls prog 42 #[.pointer (some ⟨db,0,none⟩)] w (Good w):=by
  obtain⟨W1,hW1⟩:∃q,Hid (q=w.alloc (.cells z2 109)):=⟨_,rfl⟩
  have B1:Hid (Below w.heap.size w W1):=by show Below _ _ _;rw[hW1.out];exact belA (belR _) _
  have X1:Hid (Hs W1 w.heap.size 109 z2):=by show Hs _ _ _ _;rw[hW1.out];exact Hs.new _ _ _
  have D1:=Lib.hid (hD.bl B1.out)
  have c0:W1.cell? ⟨db,0,none⟩=some (.slice A l.length cap):=D1.out.bx.c 0
  have lm:l.length≤9223372036854775807:=hD.nd.len.2
  have HL:=Lib.hid hl
  clear hD hl
  go_in
  go_upto_region 1 with fail
  rw[←hW1.out]
  clear hW1
  go_wp2_with fail
  clear c0
  go_loopw [15] (fun i wr=>∃ (j:Nat),j≤l.length∧i=.int .i64 j∧Hid (Below W1.heap.size W1 wr)) (fun i _=>l.length-(intOf i).toNat)
  case atStart=>exact ⟨0,by omega,rfl,Lib.hid (belR _)⟩
  case round=>
    obtain⟨j,hj,rfl,HB⟩:=hrel
    obtain⟨W0,rfl⟩:∃W0:World,W0=wr:=⟨_,rfl⟩
    by_cases hlt:j<l.length
    · have u1:decide ((j:Int)<(l.length:Int))=true:=decide_eq_true (by omega)
      have j0:(0:Int)≤(j:Int):=by omega
      have j1:(j:Int)<(l.length:Int):=by omega
      have D:=Lib.hid (D1.out.bl HB.out)
      rcases Nat.eq_zero_or_pos j with hj0|hj0
      · have hk:l[j]=.mk 6 sMain 0 0 []:=by subst hj0;exact kidA HL.out hlt
        obtain⟨b,off,D2,d2,rfl,_,_,_,_,e0,e1,e2,e3,e4⟩:=nds_ex D.out.nd hlt hk
        obtain⟨W2,hW2,B2,Y2,y0,y1,y2,y3,y4⟩:=nb5 W0 6 sMain 0 0 D2 0 d2
        clear hk hj0
        go_upto_region 4 with fail
        rw[←hW2.out]
        clear hW2 e0 e1 e2 e3 e4
        go_wp2_with (first|(refine lr5 Y2 ?_)|(go_at_call 66;refine (sig_man _ _ _ _ _ _).mono ?_;rintro _ W3 ⟨rfl,hb3⟩))
        have B3:=Lib.hid (bel (bel HB.out B2.out) hb3)
        clear hb3 y0 y1 y2 y3 y4
        go_loopw [25] (fun i wr=>i=.int .i64 0∧Hid (Below W1.heap.size W1 wr)) (fun _ _=>0)
        case atStart=>exact ⟨rfl,B3⟩
        case round=>
          obtain⟨rfl,HB2⟩:=hrel
          go_wp2_with fail
          exact ⟨⟨j+1,by omega,by go_num,HB2⟩,by simp[intOf];omega⟩
      · obtain⟨i,rfl⟩:∃i,j=i+1:=⟨j-1,by omega⟩
        have hk:=kidB HL.out hlt
        obtain⟨q,hq⟩:∃q:Int,Hid (q=17+25*(i:Int)):=⟨_,rfl⟩
        rw[←hq.out] at hk
        obtain⟨jj,hjj⟩:∃jj:Nat,Hid (jj=i+1):=⟨_,rfl⟩
        obtain⟨b,off,D2,d2,rfl,_,_,hk2,_,e0,e1,e2,e3,e4⟩:=nds_ex D.out.nd hlt hk
        obtain⟨W2,hW2,B2,Y2,y0,y1,y2,y3,y4⟩:=nb5 W0 4 (str (nmE i)) 0 q D2 2 d2
        have HK2:=Lib.hid (NdsR.to hk2 (sub_lo B2.out))
        clear hk hk2
        rw[←hjj.out] at e0 e1 e2 e3 e4 j0 j1 u1 hlt ⊢
        simp only[List.length_cons,List.length_nil,Nat.zero_add] at e4
        go_upto_region 4 with fail
        rw[←hW2.out]
        clear hW2 e0 e1 e2 e3 e4
        go_wp2_with (first|(refine lr5 Y2 ?_)|(go_at_call 66;refine (sig_eff _ _ _ _ _ _ _ _ _ HK2.out).mono ?_;rintro _ W3 ⟨E,ec,rfl,hb3,hn3⟩))
        have B3:=Lib.hid (bel (bel HB.out B2.out) hb3)
        have N3:=Lib.hid hn3
        clear hb3 hn3 y0 y1 y2 y3 y4
        go_loopw [25] (fun i wr=>∃ (k:Nat),k≤2∧i=.int .i64 k∧Hid (Below W3.heap.size W3 wr)) (fun i _=>2-(intOf i).toNat)
        case atStart=>exact ⟨0,by omega,rfl,Lib.hid (belR _)⟩
        case round=>
          obtain⟨k,hk,rfl,HB4⟩:=hrel
          by_cases hk2:k<2
          · have v1:decide ((k:Int)<2)=true:=decide_eq_true (by omega)
            have k0:(0:Int)≤(k:Int):=by omega
            have k1:(k:Int)<2:=by omega
            have HT:∃s p kk,Hid (BT s kk)∧[tyI (q+14),tyB (q+20)][k]=Nd.mk 12 s 0 p []:=by
              rcases (by omega:k=0∨k=1) with rfl|rfl
              · exact⟨_,_,3,Lib.hid (.inl ⟨rfl,rfl⟩),rfl⟩
              · exact⟨_,_,2,Lib.hid (.inr ⟨rfl,rfl⟩),rfl⟩
            obtain⟨s5,p5,kk,hbt,hk5⟩:=HT
            obtain⟨b5,of5,D5,d5,rfl,_,_,_,_,e0,e1,e2,e3,e4⟩:=nds_ex (NdsR.to N3.out (sub_lo HB4.out)) (by simpa using hk2) hk5
            obtain⟨W5,hW5,B5,Y5,y0,y1,y2,y3,y4⟩:=nb5 wr 12 s5 0 p5 D5 0 d5
            clear hk5
            go_upto_region 8 with fail
            rw[←hW5.out]
            clear hW5 e0 e1 e2 e3 e4
            have hkk:(kk==8)=false:=by rcases hbt.out with ⟨_,rfl⟩|⟨_,rfl⟩<;>rfl
            go_wp2_with (first|(refine lr5 Y5 ?_)|(go_at_call 68;refine (read_any _ _ hbt.out _ _ _ _).mono ?_;rintro _ W6 ⟨rfl,hb5⟩)|(go_at_call 69;refine (stor_any _ hkk _).mono ?_;rintro _ W7 ⟨rfl,hb7⟩))
            have hb6:=bel hb5 (bel (belA (belR _) _) hb7)
            exact ⟨⟨k+1,by omega,by go_num,Lib.hid (bel (bel HB4.out B5.out) hb6)⟩,by simp[intOf];omega⟩
          · have v1:decide ((k:Int)<2)=false:=decide_eq_false (by omega)
            go_wp2_with fail
            exact ⟨⟨jj+1,by omega,by go_num,Lib.hid (bel B3.out HB4.out)⟩,by simp[intOf];omega⟩
    · have u1:decide ((j:Int)<(l.length:Int))=false:=decide_eq_false (by omega)
      have X:=Lib.hid (hs_bel X1.out HB.out)
      go_wp2_with (refine wpList_store_row rfl 109 _ _ rfl w.heap.size z2 rfl rfl 109 _ X.out Δ rfl (by simp[Value.oneCell']) ?_)
      exact bodyPost_ret (good_end rfl rfl rfl X.out) rfl ⟨rfl,bel_row (bel B1.out HB.out) (Nat.le_refl _) _⟩
theorem root_any (hl:l=kidsT n) (hD:Dc w db l A cap mt ma g) (hg:g sMain.data.toList=some (.int .i64 0)):Calls prog 45 #[.pointer (some ⟨db,0,none⟩)] w (Good w):=by
  obtain⟨W1,hW1⟩:∃q,Hid (q=w.alloc (.cells z2 109)):=⟨_,rfl⟩
  have B1:Hid (Below w.heap.size w W1):=by show Below _ _ _;rw[hW1.out];exact belA (belR _) _
  have X1:Hid (Hs W1 w.heap.size 109 z2):=by show Hs _ _ _ _;rw[hW1.out];exact Hs.new _ _ _
  have D1:=Lib.hid (hD.bl B1.out)
  have c0:W1.cell? ⟨db,0,none⟩=some (.slice A l.length cap):=D1.out.bx.c 0
  have c2:W1.cell? ⟨db,2,none⟩=some (.map (some ma)):=D1.out.bx.c 2
  have h0:0<l.length:=by rw[hl];simp[kidsT]
  have lk:(Instr.lookup 90 (.map (some ma)) (.string ⟨#[77,97,105,110]⟩) true).run prog W1=.ok (.tuple #[.int .i64 0,.bool true]) W1:=by
    obtain⟨m,hm,_⟩:=D1.out.am
    exact SM.yesI (s:=sMain) hm hg (by decide)
  obtain⟨b,off,D2,d2,rfl,_,_,hk2,_,e0,e1,e2,e3,e4⟩:=nds_ex D1.out.nd h0 (kidA hl h0)
  obtain⟨W2,hW2,B2,Y2,y0,y1,y2,y3,y4⟩:=nb5 W1 6 sMain 0 0 D2 0 d2
  have HN:=Lib.hid (NdsR.to hk2 (sub_lo B2.out))
  have j1:(0:Int)<(l.length:Int):=by omega
  simp only[Nat.zero_mul,Nat.add_zero] at e0 e1 e2 e3 e4
  clear hD hl hk2
  go_in
  go_upto_region 1 with fail
  rw[←hW1.out]
  clear hW1
  go_upto_region 5 with fail
  rw[←hW2.out]
  clear hW2 e0 e1 e2 e3 e4 c0 c2 lk
  go_wp2_with fail
  refine (leading_any 7 [] D2 d2 W2 HN.out).mono ?_
  rintro _ W3 ⟨rfl,hb⟩
  rw[show ldK 7 []=0 from rfl]
  have X:=Lib.hid (hs_bel X1.out (bel B2.out hb))
  go_wp2_with (refine wpList_store_row rfl 109 _ _ rfl w.heap.size z2 rfl rfl 109 _ X.out Δ rfl (by simp[Value.oneCell']) ?_)
  exact bodyPost_ret (good_end rfl rfl rfl X.out) rfl ⟨rfl,bel_row (bel B1.out (bel B2.out hb)) (Nat.le_refl _) _⟩
end
end Go.Proofs.YtbmknjfgjphfbaaGreatDoor
set_option linter.all false
namespace Go.Proofs.YtbmknjfgjphfbaaGreatDoor
open Proofs.Tryz RowKit Maps WideMaps ChangeMaps
set_option maxRecDepth 100000
set_option maxHeartbeats 8000000
theorem info_4:(prog.info? 4).map (fun i=>(i.zero,i.size,i.bytes))=some (some (.bool false),1,1):=by kernel_rfl
theorem info_130:(prog.info? 130).map (fun i=>(i.zero,i.size,i.bytes))=some (some (.slice none 0 0),1,24):=by kernel_rfl
section
variable {w:À} {db n:Nat} {l:List Nd} {A:Option Addr} {cap mt ma:Nat} {g:List UInt8→Option Value}
theorem loops_any (hl:l=kidsT n) (hn:n≤30) (hD:Dc w db l A cap mt ma g):Calls prog 44 #[.pointer (some ⟨db,0,none⟩)] w (Good w):=by
  obtain⟨ib,hib,hibz,hibs,hibb⟩:=info_parts info_4
  obtain⟨is,his,hisz,hiss,hisb⟩:=info_parts info_130
  have HI:=Lib.hid (And.intro hib (And.intro hibz (And.intro hibs hibb)))
  have HJ:=Lib.hid (And.intro his (And.intro hisz (And.intro hiss hisb)))
  have HN:Hid (l.length≤31):=by show _≤_;rw[hl];simp[kidsT];omega
  clear hib hibz hibs hibb his hisz hiss hisb hn
  obtain⟨W1,hW1⟩:∃q,Hid (q=w.alloc (.cells z2 109)):=⟨_,rfl⟩
  have B1:Hid (Below w.heap.size w W1):=by show Below _ _ _;rw[hW1.out];exact belA (belR _) _
  have X1:Hid (Hs W1 w.heap.size 109 z2):=by show Hs _ _ _ _;rw[hW1.out];exact Hs.new _ _ _
  have D1:=Lib.hid (hD.bl B1.out)
  have c0:W1.cell? ⟨db,0,none⟩=some (.slice A l.length cap):=D1.out.bx.c 0
  have lm:l.length≤9223372036854775807:=hD.nd.len.2
  have HL:=Lib.hid hl
  clear hD hl
  obtain⟨W3,hW3⟩:∃q,Hid (q=(W1.alloc (.cells (madeCells #[.bool false] l.length) 4)).alloc (.cells #[.slice (some ⟨W1.heap.size,0,none⟩) l.length l.length] 160)):=⟨_,rfl⟩
  have B3:Hid (Below W1.heap.size W1 W3):=by show Below _ _ _;rw[hW3.out];exact belA (belA (belR _) _) _
  obtain⟨W5,hW5⟩:∃q,Hid (q=(W3.alloc (.cells (madeCells #[.slice none 0 0] l.length) 130)).alloc (.cells #[.slice none 0 0] 130)):=⟨_,rfl⟩
  have B5:Hid (Below W3.heap.size W3 W5):=by show Below _ _ _;rw[hW5.out];exact belA (belA (belR _) _) _
  have X5:Hid (Hs W5 (W3.heap.size+1) 130 #[.slice none 0 0]):=by
    show Hs _ _ _ _
    rw[hW5.out]
    have:=Hs.new (W3.alloc (.cells (madeCells #[.slice none 0 0] l.length) 130)) 130 #[.slice none 0 0]
    simpa using this
  go_in
  go_upto_region 1 with fail
  rw[←hW1.out]
  clear hW1
  go_upto_region 2 with (refine wpList_make_row _ rfl _ _ 160 rfl 4 ib (.bool false) underlying160 HI.out.1 HI.out.2.1 HI.out.2.2.1 rfl .i64 .i64 l.length rfl rfl (by rw[HI.out.2.2.2];have:=HN.out;omega) lm ?_)
  rw[←hW3.out]
  clear hW3 c0
  have D3:=Lib.hid (D1.out.bl B3.out)
  have c0:W3.cell? ⟨db,0,none⟩=some (.slice A l.length cap):=D3.out.bx.c 0
  go_upto_region 5 with (refine wpList_make_row _ rfl _ _ 162 rfl 130 is (.slice none 0 0) underlying162 HJ.out.1 HJ.out.2.1 HJ.out.2.2.1 rfl .i64 .i64 l.length rfl rfl (by rw[HJ.out.2.2.2];have:=HN.out;omega) lm ?_)
  rw[←hW5.out]
  clear hW5 c0
  have D5:=Lib.hid (D3.out.bl B5.out)
  have c0:W5.cell? ⟨db,0,none⟩=some (.slice A l.length cap):=D5.out.bx.c 0
  generalize W3.heap.size+1=b7 at X5 ⊢
  have B15:=Lib.hid (bel B1.out (bel B3.out B5.out))
  have X15:=Lib.hid (hs_bel X1.out (bel B3.out B5.out))
  clear B1 B3 B5 D1 D3 X1
  go_wp2_with fail
  clear c0
  go_loopw [40] (fun i wr=>∃ (j:Nat),j≤l.length∧i=.int .i64 j∧Hid (Below W5.heap.size W5 wr)) (fun i _=>l.length-(intOf i).toNat)
  case atStart=>exact ⟨0,by omega,rfl,Lib.hid (belR _)⟩
  case round=>
    obtain⟨j,hj,rfl,HB⟩:=hrel
    obtain⟨W0,rfl⟩:∃W0:World,W0=wr:=⟨_,rfl⟩
    by_cases hlt:j<l.length
    · have u1:decide ((j:Int)<(l.length:Int))=true:=decide_eq_true (by omega)
      have j0:(0:Int)≤(j:Int):=by omega
      have j1:(j:Int)<(l.length:Int):=by omega
      have D:=Lib.hid (D5.out.bl HB.out)
      have HK:∃k s p a,Hid (k=4∨k=6)∧l[j]=.mk k s 0 p a:=by
        rcases j with _|i
        · exact⟨6,_,_,_,Lib.hid (.inr rfl),kidA HL.out hlt⟩
        · exact⟨4,_,_,_,Lib.hid (.inl rfl),kidB HL.out hlt⟩
      obtain⟨k,s,p,a,hkk,hk⟩:=HK
      obtain⟨b,off,D2,d2,rfl,_,_,_,_,e0,e1,e2,e3,e4⟩:=nds_ex D.out.nd hlt hk
      obtain⟨W2,hW2,B2,Y2,y0,y1,y2,y3,y4⟩:=nb5 W0 k s 0 p D2 a.length d2
      clear hk
      go_upto_region 9 with fail
      rw[←hW2.out]
      clear hW2 e0 e1 e2 e3 e4
      go_wp2_with (first|(refine lr5 Y2 ?_)|(go_at_call 71;refine (ctors_any _ _ _ _ _ _ _ _ hkk.out).mono ?_;rintro _ W6 ⟨rfl,hb6⟩))
      have B6:=Lib.hid (bel (bel HB.out B2.out) hb6)
      clear hb6 y0 y1 y2 y3 y4
      go_loopw [48] (fun i wr=>i=.int .i64 0∧Hid (Below W5.heap.size W5 wr)) (fun _ _=>0)
      case atStart=>exact ⟨rfl,B6⟩
      case round=>
        obtain⟨rfl,HB2⟩:=hrel
        go_wp2_with fail
        exact ⟨⟨j+1,by omega,by go_num,HB2⟩,by simp[intOf];omega⟩
    · have u1:decide ((j:Int)<(l.length:Int))=false:=decide_eq_false (by omega)
      have X7:=hs_bel X5.out HB.out
      have D7:=Lib.hid (D5.out.bl HB.out)
      have y7:W0.cell? ⟨b7,0,none⟩=some (.slice none 0 0):=X7.c 0
      have c0:W0.cell? ⟨db,0,none⟩=some (.slice A l.length cap):=D7.out.bx.c 0
      clear X7
      go_wp2_with fail
      go_loopw [] (fun wr=>wr=W0) (fun _=>0)
      case atStart=>rfl
      case round=>
        obtain rfl:W0=wr:=hrel.symm
        go_wp2_with fail
        clear y7 c0 u1 hj hlt
        go_loopw [154] (fun i wr=>∃ (j:Nat),j≤l.length∧i=.int .i64 j∧Hid (Below W0.heap.size W0 wr)) (fun i _=>l.length-(intOf i).toNat)
        case atStart=>exact ⟨0,by omega,rfl,Lib.hid (belR _)⟩
        case round=>
          obtain⟨j,hj,rfl,HB8⟩:=hrel
          by_cases hlt:j<l.length
          · have u1:decide ((j:Int)<(l.length:Int))=true:=decide_eq_true (by omega)
            have j0:(0:Int)≤(j:Int):=by omega
            have j1:(j:Int)<(l.length:Int):=by omega
            have D:=Lib.hid (D7.out.bl HB8.out)
            have HK:∃k s p a,Hid (k=4∨k=6)∧l[j]=.mk k s 0 p a:=by
              rcases j with _|i
              · exact⟨6,_,_,_,Lib.hid (.inr rfl),kidA HL.out hlt⟩
              · exact⟨4,_,_,_,Lib.hid (.inl rfl),kidB HL.out hlt⟩
            obtain⟨k,s,p,a,hkk,hk⟩:=HK
            have v2:(k==2)=false:=by rcases hkk.out with rfl|rfl<;>rfl
            have v3:(k==3)=false:=by rcases hkk.out with rfl|rfl<;>rfl
            obtain⟨b,off,D2,d2,rfl,_,_,_,_,e0,e1,e2,e3,e4⟩:=nds_ex D.out.nd hlt hk
            obtain⟨W2,hW2,B2,Y2,y0,y1,y2,y3,y4⟩:=nb5 wr k s 0 p D2 a.length d2
            clear hk
            go_upto_region 39 with fail
            rw[←hW2.out]
            clear hW2 e0 e1 e2 e3 e4
            go_wp2_with fail
            exact ⟨⟨j+1,by omega,by go_num,Lib.hid (bel HB8.out B2.out)⟩,by simp[intOf];omega⟩
          · have u1:decide ((j:Int)<(l.length:Int))=false:=decide_eq_false (by omega)
            have B9:=Lib.hid (bel HB.out HB8.out)
            have X:=Lib.hid (hs_bel X15.out B9.out)
            go_wp2_with (refine wpList_store_row rfl 109 _ _ rfl w.heap.size z2 rfl rfl 109 _ X.out Δ rfl (by simp[Value.oneCell']) ?_)
            exact bodyPost_ret (good_end rfl rfl rfl X.out) rfl ⟨rfl,bel_row (bel B15.out B9.out) (Nat.le_refl _) _⟩
end
end Go.Proofs.YtbmknjfgjphfbaaGreatDoor
