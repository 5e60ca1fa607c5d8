import Derived.Test.YtbmknjfgjphfbaaGreatDoorTc
set_option linter.all false
namespace Go.Proofs.YtbmknjfgjphfbaaGreatDoor
open Proofs.Tryz RowKit Maps WideMaps ChangeMaps
set_option maxRecDepth 100000
set_option maxHeartbeats 8000000
theorem info_48:(prog.info? 48).map (fun i=>(i.zero,i.size,i.bytes))=some (some (.agg #[.string ⟨#[]⟩,.slice none 0 0,.int .i64 0,.string ⟨#[]⟩,.slice none 0 0]),5,88):=by kernel_rfl
theorem info_125:(prog.info? 125).map (fun i=>(i.zero,i.size,i.bytes))=some (some (.agg (ac7 ⟨#[]⟩)),7,112):=by kernel_rfl
abbrev ef5 (s:Ê) (B:Option Addr) (m c:Nat):Array Value:=#[.string s,.slice B m c,.int .i64 2,.string ⟨#[]⟩,.slice none 0 0]
abbrev ef0:Array Value:=#[.string ⟨#[]⟩,.slice none 0 0,.int .i64 0,.string ⟨#[]⟩,.slice none 0 0]
abbrev z4:Array Value:=#[.slice none 0 0,.slice none 0 0,.slice none 0 0,.slice none 0 0]
abbrev pg4 (vE vA:Value):Array Value:=#[.slice none 0 0,vE,.slice none 0 0,vA]
/-- a row of effects with these names -/
def EfR (xs:List Value) (ns:List (List UInt8)):Prop:=RowG 5 (fun cs nm=>∃B m c,cs=(ef5 (str nm) B m c).toList) xs ns
def nmL (n:Nat):List (List UInt8):=(List.range n).map nmE
theorem nmL_s (n:Nat):nmL (n+1)=nmL n++[nmE n]:=by unfold nmL;rw[List.range_succ,List.map_append];rfl
theorem nmL_len (n:Nat):(nmL n).length=n:=by simp[nmL]
theorem row_typ {w:À} {b e size n g t:Nat} {v:Value} {xs:List Value} {cs:Array Value} (h:w.ownsRow b e size v n xs) (hs:Hs w g t cs) (hne:t≠e):v.ownBlock≠some g:=by
  rcases h.2 with ⟨rfl,_⟩|⟨g',cap,cur,rfl,_,hg,_⟩
  · intro e;cases e
  · intro e
    have e:g'=g:=Option.some.inj e
    subst e
    have:=hs.symm.trans hg
    injection this with this
    injection this with _ this _
    exact hne this
theorem row_typ2 {w:À} {b e size n b' e' size' n':Nat} {v v':Value} {xs xs':List Value} (h:w.ownsRow b e size v n xs) (h':w.ownsRow b' e' size' v' n' xs') (hne:e'≠e):∀g,v'.ownBlock=some g→v.ownBlock≠some g:=by
  rcases h'.2 with ⟨rfl,_⟩|⟨g',cap,cur,rfl,_,hg,_⟩
  · intro g e;cases e
  · intro g e
    have e:g'=g:=Option.some.inj e
    subst e
    exact row_typ h hg hne
structure PgS (w wr:À) (vE vA:Value) (k o:Nat) (xs ys:List Value):Prop where
  bl:Below w.heap.size w wr
  b2:Hs wr w.heap.size 30 z4
  bx:Hs wr (w.heap.size+1) 30 (pg4 vE vA)
  oe:wr.ownsRow w.heap.size 48 5 vE k xs
  er:EfR xs (nmL k)
  oa:wr.ownsRow w.heap.size 125 7 vA o ys
  ya:0<o→ys=(ac7 sMain).toList
theorem PgS.blw {w wr W:À} {vE vA:Value} {k o:Nat} {xs ys:List Value} (h:PgS w wr vE vA k o xs ys) (hb:Below wr.heap.size wr W):PgS w W vE vA k o xs ys:=
  ⟨bel h.bl hb,hs_bel h.b2 hb,hs_bel h.bx hb,row_stp h.oe (Stp.of_below (own:=fun _=>False) hb) (fun _ _ e=>e),h.er,row_stp h.oa (Stp.of_below (own:=fun _=>False) hb) (fun _ _ e=>e),h.ya⟩
theorem stp_app {X W:À} {ob:Obj} {v:Value} (hg:(X.alloc ob).grownBy W v.ownBlock):Stp (fun k=>v.ownBlock=some k) X W:=
  ⟨hg.os,hg.tape,hg.output,by have:=hg.size;simp at this;omega,fun k hk hn=>(hg.block k (by simp;omega) (fun e=>hn e.symm)).trans ((belA (belR X) ob).block k hk)⟩
theorem stp_set {O:Nat→Prop} {w w':À} (h:Stp O w w') (g i:Nat) (v:Value):Stp (fun k=>O k∨k=g) w (w'.setCell ⟨g,i,none⟩ v):=
  ⟨h.os,h.tape,h.output,by rw[size_set];exact h.size,fun k hk hn=>(Below.heap_setCell _ _ _ _ (fun e=>hn (.inr e))).trans (h.block k hk (fun e=>hn (.inl e)))⟩
theorem bel_own {w X W:À} {O:Nat→Prop} (hb:Below w.heap.size w X) (st:Stp O X W) (h:∀k,O k→w.heap.size≤k):Below w.heap.size w W:=
  ⟨st.os.trans hb.os,st.tape.trans hb.tape,st.output.trans hb.output,Nat.le_trans hb.size st.size,fun k hk=>(st.block k (Nat.lt_of_lt_of_le hk hb.size) (fun e=>by have:=h k e;omega)).trans (hb.block k hk)⟩
theorem row_lo {w:À} {b e size n:Nat} {v:Value} {xs:List Value} (h:w.ownsRow b e size v n xs):∀g,v.ownBlock=some g→b≤g:=by
  rcases h.2 with ⟨rfl,_⟩|⟨g',cap,cur,rfl,hb,hg,_⟩
  · intro g e;cases e
  · intro g e
    have e:g'=g:=Option.some.inj e
    omega
theorem own_set {W:À} {b e size n t i:Nat} {c:Nat} {v u:Value} {xs:List Value} {cs:Array Value} (h:W.ownsRow b e size v n xs) (hs:Hs W c t cs) (hne:t≠e):(W.setCell ⟨c,i,none⟩ u).ownsRow b e size v n xs:=
  row_stp h (stp_set (Stp.refl (fun _=>False) W) c i u) (fun g e x=>by
    rcases x with x|x
    · exact x
    · subst x;exact row_typ h hs hne e)
section
variable {w X W:À} {vE vA v':Value} {k o:Nat} {xs ys:List Value} {ob:Obj}
theorem PgS.act (h:PgS w X vE vA k 0 xs ys) (hg:(X.alloc ob).grownBy W vA.ownBlock) (ho:W.ownsRow w.heap.size 125 7 v' 1 (ac7 sMain).toList):PgS w (W.setCell ⟨w.heap.size+1,3,none⟩ v') vE v' k 1 xs (ac7 sMain).toList:=by
  have st:=stp_app hg
  have B:=hs_stp h.bx st (row_typ h.oa h.bx (by decide))
  have B2:=hs_stp h.b2 st (row_typ h.oa h.b2 (by decide))
  refine ⟨bel_own h.bl (stp_set st _ _ _) (fun k e=>?_),hs_oth B2 (by omega),hs_put B,own_set (row_stp h.oe st (row_typ2 h.oa h.oe (by decide))) B (by decide),h.er,own_set ho B (by decide),fun _=>rfl⟩
  rcases e with e|e
  · exact row_lo h.oa k e
  · omega
theorem PgS.eff {B:Option Addr} {m c:Nat} (h:PgS w X vE vA k o xs ys) (hg:(X.alloc ob).grownBy W vE.ownBlock) (ho:W.ownsRow w.heap.size 48 5 v' (k+1) (xs++(ef5 (str (nmE k)) B m c).toList)):PgS w (W.setCell ⟨w.heap.size+1,1,none⟩ v') v' vA (k+1) o (xs++(ef5 (str (nmE k)) B m c).toList) ys:=by
  have st:=stp_app hg
  have B:=hs_stp h.bx st (row_typ h.oe h.bx (by decide))
  have B2:=hs_stp h.b2 st (row_typ h.oe h.b2 (by decide))
  refine ⟨bel_own h.bl (stp_set st _ _ _) (fun k e=>?_),hs_oth B2 (by omega),hs_put B,own_set ho B (by decide),?_,own_set (row_stp h.oa st (row_typ2 h.oe h.oa (by decide))) B (by decide),h.ya⟩
  · rcases e with e|e
    · exact row_lo h.oe k e
    · omega
  · rw[nmL_s]
    exact RowG.snoc h.er rfl ⟨_,_,_,rfl⟩
end
section
variable {P:Program} {md:Region.Mode} {ops:Array Oper} {Q:Exit→Act→À→Prop} {S:À→Prop} {fuel:Nat} {listed:Array Bool} {a:Act} {w:À}
theorem tkE3 (i j k:Nat) {oi oj ok:Oper}
 (h1:∀K':Act→À→Prop,Shut (∀a w,S w→(S w→wpAnyH P md ops Q S fuel (listed.setIfInBounds i true) a w)→K' a w)→if Region.wanted oi (yielded ops a.tmps)=true then Oper.wp P oi a w K' Q else K' (a.put oi.dst undef) w)
 (h2:∀K':Act→À→Prop,Shut (∀a w,S w→(S w→wpAnyH P md ops Q S fuel (listed.setIfInBounds j true) a w)→K' a w)→if Region.wanted oj (yielded ops a.tmps)=true then Oper.wp P oj a w K' Q else K' (a.put oj.dst undef) w)
 (h3:∀K':Act→À→Prop,Shut (∀a w,S w→(S w→wpAnyH P md ops Q S fuel (listed.setIfInBounds k true) a w)→K' a w)→if Region.wanted ok (yielded ops a.tmps)=true then Oper.wp P ok a w K' Q else K' (a.put ok.dst undef) w)
 (hi:nthO ops.toList i=some oi:=by exact rfl) (hj:nthO ops.toList j=some oj:=by exact rfl) (hk:nthO ops.toList k=some ok:=by exact rfl)
 (hr:Region.ready md ops listed=[i,j,k]:=by kernel_rfl):wpAnyH P md ops Q S (fuel+1) listed a w:=
 wpAnyH_ready hr (by simp) (AllReadyH.cons (nthO_eq hi) h1 (AllReadyH.cons (nthO_eq hj) h2 (AllReadyH.cons (nthO_eq hk) h3 AllReadyH.nil)))
end
section
variable {w:À} {db n:Nat} {l:List Nd} {A:Option Addr} {cap mt ma:Nat} {g:List UInt8→Option Value}
theorem program_any (hl:l=kidsT n) (hn:n≤30) (hD:Dc w db l A cap mt ma g):Calls prog 46 #[.pointer (some ⟨db,0,none⟩)] w fun e w'=>∃vE vA xs,e=.returned (.agg (pg4 vE vA))∧Below w.heap.size w w'∧w'.ownsRow w.heap.size 48 5 vE n xs∧EfR xs (nmL n)∧w'.ownsRow w.heap.size 125 7 vA 1 (ac7 sMain).toList:=by
  obtain⟨io,hio,hiz,his,hib⟩:=info_parts info_48
  have HIO:=Lib.hid (And.intro hio (And.intro hiz (And.intro his hib)))
  clear hio hiz his hib
  obtain⟨ia,hio,hiz,his,hib⟩:=info_parts info_125
  have HIA:=Lib.hid (And.intro hio (And.intro hiz (And.intro his hib)))
  clear hio hiz his hib
  obtain⟨W1,hW1⟩:∃q,Hid (q=(w.alloc (.cells z4 30)).alloc (.cells z4 30)):=⟨_,rfl⟩
  have B1:Hid (Below w.heap.size w W1):=by show Below _ _ _;rw[hW1.out];exact belA (belA (belR _) _) _
  have Y1:=Lib.hid (hs2 w z4 z4 30 30).1
  have X1:=Lib.hid (hs2 w z4 z4 30 30).2
  rw[←hW1.out] at Y1 X1
  have HD:=Lib.hid hD
  have c0:W1.cell? ⟨db,0,none⟩=some (.slice A l.length cap):=(HD.out.bl B1.out).bx.c 0
  have lm:l.length≤9223372036854775807:=hD.nd.len.2
  have HL:=Lib.hid hl
  have HNN:=Lib.hid hn
  clear hD hl hn
  go_in
  go_upto_region 2 with fail
  rw[←hW1.out]
  clear hW1
  go_wp2_with fail
  clear c0
  go_loopw [14] (fun i wr=>∃ (j:Nat) (vE vA:Value) (k o:Nat) (xs ys:List Value),j≤l.length∧i=.int .i64 j∧j=k+o∧o≤1∧(o=0→k=0)∧Hid (PgS w wr vE vA k o xs ys)) (fun i _=>l.length-(intOf i).toNat)
  case atStart=>exact ⟨0,_,_,0,0,[],[],by omega,rfl,rfl,by omega,fun _=>rfl,Lib.hid ⟨B1.out,Y1.out,X1.out,World.ownsRow_nil _ _ _ _,RowG.nil _,World.ownsRow_nil _ _ _ _,fun h=>by omega⟩⟩
  case round=>
    obtain⟨j,vE,vA,k,o,xs,ys,hj,rfl,hjk,ho1,hok,HP⟩:=hrel
    obtain⟨W0,rfl⟩:∃W0:World,W0=wr:=⟨_,rfl⟩
    clear X1 Y1
    by_cases hlt:j<l.length
    · have u1:decide ((j:Int)<(l.length:Int))=true:=decide_eq_true (by omega)
      have j0:(0:Int)≤(j:Int):=by omega
      have j1:(j:Int)<(l.length:Int):=by omega
      have D:=Lib.hid (HD.out.bl HP.out.bl)
      obtain⟨EA,ec,rfl⟩:=row_form HP.out.oe
      obtain⟨AA,ac,rfl⟩:=row_form HP.out.oa
      rcases Nat.eq_zero_or_pos j with hj0|hj0
      · have hk:l[j]=.mk 6 sMain 0 0 []:=by subst hj0;exact kidA HL.out hlt
        obtain rfl:o=0:=by omega
        obtain rfl:k=0:=by omega
        obtain⟨b,off,D2,d2,rfl,_,_,hk2,_,e0,e1,e2,e3,e4⟩:=nds_ex D.out.nd hlt hk
        obtain⟨W2,hW2,B2,Y2,y0,y1,y2,y3,y4⟩:=nb5 W0 6 sMain 0 0 D2 0 d2
        have HP2:=Lib.hid (HP.out.blw B2.out)
        have HN2:=Lib.hid (NdsR.to hk2 (sub_lo B2.out))
        have HJ0:=Lib.hid hj0
        clear hk hj0 hk2 hjk
        obtain⟨jj,hjj⟩:∃jj:Nat,Hid (jj=j):=⟨_,rfl⟩
        rw[←hjj.out] at e0 e1 e2 e3 e4 j0 j1 u1 hlt ⊢
        go_upto_region 5 with fail
        rw[←hW2.out]
        clear hW2 e0 e1 e2 e3 e4
        go_upto_region 18 with fail
        refine ttB (fun X=>Hs X (w.heap.size+1) 30 (pg4 (.slice EA 0 ec) (.slice AA 0 ac))∧Hs X W0.heap.size 83 (cl 6 sMain 0 0 D2 0 d2).toArray) 7 ⟨hs_bel HP2.out.bx (belDr W2),hs_bel Y2.out (belDr W2)⟩ (fun HS=>?_)
        obtain⟨X0,hX0⟩:∃q,q=W2.drew:=⟨_,rfl⟩
        have HB0:=Lib.hid (belDr W2)
        rw[←hX0] at HB0 HS ⊢
        clear hX0 y0 y1 y2 y3 y4
        refine ttQ 0 ?_
        refine ttQ 1 ?_ (hy:=fun w hS=>by have q0:=hS.1.c 3;go_simp;first|done|with_reducible rfl)
        refine ttQ 2 ?_ (hy:=fun w hS=>ld24 (.tmp 5) rfl _ rfl _ rfl hS.2)
        refine ttE 3 (fun K hK=>?_)
        go_simp
        refine (actor_man _ _ _ _ _ (NdsR.to HN2.out (sub_lo HB0.out))).mono ?_
        rintro _ X1 ⟨rfl,hb⟩
        have HB1:=Lib.hid (bel HB0.out hb)
        refine ttR hK (fun _=>⟨hs_bel HS.1 hb,hs_bel HS.2 hb⟩) (fun hHeld=>?_)
        have HS:=hHeld (by decide)
        have HT1:=Lib.hid HS.2
        clear hK K hb
        refine ttE 4 (fun K hK=>?_)
        go_simp
        have HP3:=Lib.hid (HP2.out.blw HB1.out)
        refine ttR hK (fun _=>⟨hs_al HS.1 _,hs_al HS.2 _⟩) (fun hHeld=>?_)
        clear hK K
        refine ttE 5 (fun K hK=>?_)
        rw[if_pos (by rfl)]
        have o0:Hid (X1.ownsRow w.heap.size 125 7 (.slice AA 0 ac) 0 []):=by
          have h7:=HP3.out.oa
          have e:ys=[]:=List.eq_nil_of_length_eq_zero (by rw[h7.1])
          rw[e] at h7
          exact h7
        refine app_wp (.tmp 84) (.tmp 87) 28 rfl w.heap.size 125 ia _ 7 112 underlying28 HIA.out.1 HIA.out.2.1 HIA.out.2.2.1 HIA.out.2.2.2 rfl (by decide) (.slice AA 0 ac) 0 [] rfl (row_al o0.out _) ⟨X1.heap.size,0,none⟩ 1 1 (ac7 sMain).toList rfl rfl (World.news_of_block (Hs.new _ _ _)) (by intro u hu;simp at hu;repeat (first|(subst hu;rfl)|(rcases hu with rfl|hu;rfl))) (by unfold maxLen;omega) (by omega) (sz_al HP3.out.bl.size _) ?_
        intro vv X5 hown hgrow hnil hvb
        obtain⟨A6,c6,rfl⟩:=row_form hown
        have st:=stp_app hgrow
        have HB5:=Lib.hid (hs_stp HP3.out.bx st (row_typ HP3.out.oa HP3.out.bx (by decide)))
        have HT5:=Lib.hid (hs_stp HT1.out st (row_typ HP3.out.oa HT1.out (by decide)))
        have HP5:=Lib.hid (HP3.out.act hgrow (by simpa using hown))
        clear st hown hgrow hnil hvb
        refine ttR hK (fun _=>⟨HB5.out,HT5.out⟩) (fun hHeld=>?_)
        have HS:=hHeld (by decide)
        clear hK K
        refine ttQ 6 ?_
        refine ttE 7 (fun K hK=>?_)
        have f4:=HB5.out.free 3
        have c4:=HB5.out.c 3
        go_simp
        refine ttR hK (fun e=>absurd rfl e) (fun _=>?_)
        clear hK K f4 c4
        refine ttD ?_
        go_wp2_with fail
        exact ⟨⟨jj+1,_,_,0,1,_,_,by omega,by go_num,by have:=hjj.out;have:=HJ0.out;omega,by omega,by omega,HP5⟩,by simp[intOf];omega⟩
      · obtain⟨i,rfl⟩:∃i,j=i+1:=⟨j-1,by omega⟩
        have hk:=kidB HL.out hlt
        obtain rfl:o=1:=by omega
        obtain rfl:k=i:=by omega
        have HI:Hid (k<30):=by have:l.length=n+1:=(by rw[HL.out];simp[kidsT]);have:=HNN.out;exact Lib.hid (by omega)
        obtain⟨q,hq⟩:∃q:Int,Hid (q=17+25*(k:Int)):=⟨_,rfl⟩
        rw[←hq.out] at hk
        obtain⟨jj,hjj⟩:∃jj:Nat,Hid (jj=k+1):=⟨_,rfl⟩
        obtain⟨b,off,D2,d2,rfl,_,_,hk2,_,e0,e1,e2,e3,e4⟩:=nds_ex D.out.nd hlt hk
        obtain⟨W2,hW2,B2,Y2,y0,y1,y2,y3,y4⟩:=nb5 W0 4 (str (nmE k)) 0 q D2 2 d2
        have HP2:=Lib.hid (HP.out.blw B2.out)
        have HK2:=Lib.hid (NdsR.to hk2 (sub_lo B2.out))
        clear hk hk2 hjk hj0
        rw[←hjj.out] at e0 e1 e2 e3 e4 j0 j1 u1 hlt ⊢
        simp only[List.length_cons,List.length_nil,Nat.zero_add] at e4
        go_upto_region 5 with fail
        rw[←hW2.out]
        clear hW2 e0 e1 e2 e3 e4
        go_upto_region 12 with fail
        go_cut [7] (fun v W=>∃g B m c,v=.pointer (some ⟨g,0,none⟩)∧Hid (Hs W g 48 (ef5 (str (nmE k)) B m c))∧Hid (Below W2.heap.size W2 W))
        case first=>
          go_wp2_with fail
          obtain⟨s,hs⟩:∃s,Hid (s=str (nmE k)):=⟨_,rfl⟩
          rw[←hs.out] at Y2 y1 ⊢
          refine tkB (fun X=>Hs X W0.heap.size 83 (cl 4 s 0 q D2 2 d2).toArray) (hs_bel Y2.out (belDr W2)) (fun HS=>?_)
          obtain⟨X0,hX0⟩:∃q,q=W2.drew:=⟨_,rfl⟩
          have HB0:=Lib.hid (belDr W2)
          rw[←hX0] at HB0 HS ⊢
          clear hX0 y0 y1 y2 y3 y4
          refine tkQ 0 ?_
          refine tkQ 1 ?_ (hy:=fun w hS=>by have q0:=hS.c 1;go_simp;first|done|with_reducible rfl)
          refine tkQ 2 ?_
          refine tkQ 3 ?_ (hy:=fun w hS=>by have q0:=hS.c 4;go_simp;first|done|with_reducible rfl)
          refine tkQ 5 ?_
          refine tkQ 6 ?_ (hy:=fun w hS=>by have q0:=hS.c 4;go_simp;first|done|with_reducible rfl)
          refine tkE2 4 9 (fun K hK=>?_) (fun K hK=>?_)
          · go_simp
            refine (params_eff _ _ _ _ _ _ (NdsR.to HK2.out (sub_lo HB0.out))).mono ?_
            rintro _ X1 ⟨B,m,c,rfl,hb⟩
            have HB1:=Lib.hid (bel HB0.out hb)
            refine tkR hK (hs_bel HS hb) (fun HS=>?_)
            clear hK K hb
            refine tkE2 7 9 (fun K hK=>?_) (fun K hK=>?_)
            · go_simp
              refine (result_eff _ _ _ _ _ _ (NdsR.to HK2.out (sub_lo HB1.out))).mono ?_
              rintro _ X2 ⟨rfl,hb⟩
              have HB2:=Lib.hid (bel HB1.out hb)
              refine tkR hK (hs_bel HS hb) (fun HS=>?_)
              clear hK K hb
              refine tkQ 8 ?_
              refine tkE 9 (fun K hK=>?_)
              go_simp
              obtain⟨X3,hX⟩:∃q,Hid (q=X2.alloc (.cells ef0 48)):=⟨_,rfl⟩
              have hb:Below X2.heap.size X2 X3:=by rw[hX.out];exact belA (belR _) _
              have HG:Hid (Hs X3 X2.heap.size 48 ef0):=by show Hs _ _ _ _;rw[hX.out];exact Hs.new _ _ _
              rw[←hX.out]
              clear hX
              have GE:Hid (W2.heap.size≤X2.heap.size):=Lib.hid HB2.out.size
              have NE:Hid (W0.heap.size≠X2.heap.size):=Lib.hid (by have:=HS.lt;omega)
              have HB3:=Lib.hid (bel HB2.out hb)
              refine tkR hK (hs_bel HS hb) (fun HS=>?_)
              clear hK K hb
              refine tkE 10 (fun K hK=>?_)
              rw[if_pos (by rfl)]
              refine wp_store_row 48 _ _ rfl X2.heap.size (ef5 s B m c) rfl rfl 48 _ HG.out Δ rfl (by simp[Value.oneCell']) ?_
              have HG4:=Lib.hid (setRow_heap _ _ _ (ef5 s B m c) _ _ HG.out)
              have HB4:=Lib.hid (bel_row HB3.out GE.out (ef5 s B m c).toList.toArray)
              refine tkR hK ((setRow_other _ _ _ _ NE.out).trans HS) (fun _=>?_)
              clear hK K
              refine tkD ?_
              go_wp2_with fail
              go_meet
              exact ⟨_,B,m,c,rfl,by rw[←hs.out];exact HG4,HB4⟩
            · go_simp
              obtain⟨X2,hX⟩:∃q,Hid (q=X1.alloc (.cells ef0 48)):=⟨_,rfl⟩
              have hb:Below X1.heap.size X1 X2:=by rw[hX.out];exact belA (belR _) _
              have HG:Hid (Hs X2 X1.heap.size 48 ef0):=by show Hs _ _ _ _;rw[hX.out];exact Hs.new _ _ _
              rw[←hX.out]
              clear hX
              have GE:Hid (W2.heap.size≤X1.heap.size):=Lib.hid HB1.out.size
              have NE:Hid (W0.heap.size≠X1.heap.size):=Lib.hid (by have:=HS.lt;omega)
              have HB2:=Lib.hid (bel HB1.out hb)
              refine tkR hK (hs_bel HS hb) (fun HS=>?_)
              clear hK K hb
              refine tkE 7 (fun K hK=>?_)
              go_simp
              refine (result_eff _ _ _ _ _ _ (NdsR.to HK2.out (sub_lo HB2.out))).mono ?_
              rintro _ X3 ⟨rfl,hb⟩
              have HG:=Lib.hid (hs_bel HG.out hb)
              have HB3:=Lib.hid (bel HB2.out hb)
              refine tkR hK (hs_bel HS hb) (fun HS=>?_)
              clear hK K hb
              refine tkQ 8 ?_
              refine tkE 10 (fun K hK=>?_)
              rw[if_pos (by rfl)]
              refine wp_store_row 48 _ _ rfl X1.heap.size (ef5 s B m c) rfl rfl 48 _ HG.out Δ rfl (by simp[Value.oneCell']) ?_
              have HG4:=Lib.hid (setRow_heap _ _ _ (ef5 s B m c) _ _ HG.out)
              have HB4:=Lib.hid (bel_row HB3.out GE.out (ef5 s B m c).toList.toArray)
              refine tkR hK ((setRow_other _ _ _ _ NE.out).trans HS) (fun _=>?_)
              clear hK K
              refine tkD ?_
              go_wp2_with fail
              go_meet
              exact ⟨_,B,m,c,rfl,by rw[←hs.out];exact HG4,HB4⟩
          · go_simp
            obtain⟨X1,hX⟩:∃q,Hid (q=X0.alloc (.cells ef0 48)):=⟨_,rfl⟩
            have hb:Below X0.heap.size X0 X1:=by rw[hX.out];exact belA (belR _) _
            have HG:Hid (Hs X1 X0.heap.size 48 ef0):=by show Hs _ _ _ _;rw[hX.out];exact Hs.new _ _ _
            rw[←hX.out]
            clear hX
            have GE:Hid (W2.heap.size≤X0.heap.size):=Lib.hid HB0.out.size
            have NE:Hid (W0.heap.size≠X0.heap.size):=Lib.hid (by have:=HS.lt;omega)
            have HB1:=Lib.hid (bel HB0.out hb)
            refine tkR hK (hs_bel HS hb) (fun HS=>?_)
            clear hK K hb
            refine tkE 4 (fun K hK=>?_)
            go_simp
            refine (params_eff _ _ _ _ _ _ (NdsR.to HK2.out (sub_lo HB1.out))).mono ?_
            rintro _ X2 ⟨B,m,c,rfl,hb⟩
            have HG:=Lib.hid (hs_bel HG.out hb)
            have HB2:=Lib.hid (bel HB1.out hb)
            refine tkR hK (hs_bel HS hb) (fun HS=>?_)
            clear hK K hb
            refine tkE 7 (fun K hK=>?_)
            go_simp
            refine (result_eff _ _ _ _ _ _ (NdsR.to HK2.out (sub_lo HB2.out))).mono ?_
            rintro _ X3 ⟨rfl,hb⟩
            have HG:=Lib.hid (hs_bel HG.out hb)
            have HB3:=Lib.hid (bel HB2.out hb)
            refine tkR hK (hs_bel HS hb) (fun HS=>?_)
            clear hK K hb
            refine tkQ 8 ?_
            refine tkE 10 (fun K hK=>?_)
            rw[if_pos (by rfl)]
            refine wp_store_row 48 _ _ rfl X0.heap.size (ef5 s B m c) rfl rfl 48 _ HG.out Δ rfl (by simp[Value.oneCell']) ?_
            have HG4:=Lib.hid (setRow_heap _ _ _ (ef5 s B m c) _ _ HG.out)
            have HB4:=Lib.hid (bel_row HB3.out GE.out (ef5 s B m c).toList.toArray)
            refine tkR hK ((setRow_other _ _ _ _ NE.out).trans HS) (fun _=>?_)
            clear hK K
            refine tkD ?_
            go_wp2_with fail
            go_meet
            exact ⟨_,B,m,c,rfl,by rw[←hs.out];exact HG4,HB4⟩
        case rest=>
          obtain⟨g,B,m,c,rfl,HG,HB⟩:=hcut
          have HP3:=Lib.hid (HP2.out.blw HB.out)
          have c1:=HP3.out.bx.c 1
          have BX:=Lib.hid HP3.out.bx
          clear HB y0 y1 y2 y3 y4
          go_wp2_with (first|(refine wpList_load_row rfl 48 _ rfl g rfl 48 _ _ _ HG.out underlying48 rfl Δ ?_)|(at_builtin;refine wpList_append_own_at _ rfl (.tmp 59) (.tmp 61) 26 rfl w.heap.size 48 io _ 5 88 underlying26 HIO.out.1 HIO.out.2.1 HIO.out.2.2.1 HIO.out.2.2.2 rfl (by decide) (.slice EA k ec) k xs rfl (row_al HP3.out.oe _) ⟨wc.heap.size,0,none⟩ 1 1 _ rfl rfl (World.news_of_block (Hs.new _ _ _)) (by intro u hu;simp at hu;repeat (first|(subst hu;rfl)|(rcases hu with rfl|hu;rfl))) (by have:=HI.out;unfold maxLen;omega) (by have:=HI.out;omega) (sz_al HP3.out.bl.size _) ?_;intro vv w6 hown6 hgrow6 hnil6 hvb6;obtain⟨A6,c6,rfl⟩:=row_form hown6;have st:=stp_app hgrow6;have HB6:=Lib.hid (hs_stp BX.out st (row_typ HP3.out.oe BX.out (by decide)));have HP6:=Lib.hid (HP3.out.eff hgrow6 hown6);clear st hown6 hgrow6 hnil6 hvb6 c1;have c1:=HB6.out.c 1;have f1:=HB6.out.free 1))
          exact ⟨⟨jj+1,_,_,k+1,1,_,_,by omega,by go_num,by have:=hjj.out;omega,by omega,by omega,HP6⟩,by simp[intOf];omega⟩
    · have u1:decide ((j:Int)<(l.length:Int))=false:=decide_eq_false (by omega)
      obtain⟨EA,ec,rfl⟩:=row_form HP.out.oe
      obtain⟨AA,ac,rfl⟩:=row_form HP.out.oa
      have X:Hid (Hs W0 (w.heap.size+1) 30 (pg4 (.slice EA k ec) (.slice AA o ac))):=Lib.hid HP.out.bx
      have Y:Hid (Hs W0 w.heap.size 30 z4):=Lib.hid HP.out.b2
      go_wp2_with (first|(refine wpList_load_row rfl 30 _ rfl (w.heap.size+1) rfl 30 _ _ _ X.out underlying30 rfl Δ ?_)|(refine wpList_store_row rfl 30 _ _ rfl w.heap.size (pg4 (.slice EA k ec) (.slice AA o ac)) rfl rfl 30 _ Y.out Δ rfl (by simp[Value.oneCell']) ?_))
      have O:=setRow_heap _ _ _ (pg4 (.slice EA k ec) (.slice AA o ac)) _ _ Y.out
      refine bodyPost_ret (results_cell_row results46 _ _ w.heap.size 30 _ _ _ rfl O underlying30 rfl Δ) rfl ?_
      have hk1:k=n∧o=1:=by have:l.length=n+1:=(by rw[HL.out];simp[kidsT]);omega
      obtain⟨rfl,rfl⟩:=hk1
      have st:Stp (·=w.heap.size) W0 (W0.setRow w.heap.size (pg4 (.slice EA k ec) (.slice AA 1 ac))):=⟨rfl,rfl,rfl,by simp,fun q hq hn=>setRow_other _ _ _ _ hn⟩
      have H:=HP.out
      refine ⟨_,_,xs,rfl,bel_row H.bl (Nat.le_refl _) _,row_stp H.oe st (fun g e x=>row_typ H.oe H.b2 (by decide) (x ▸ e)),H.er,?_⟩
      have ey:=H.ya (by omega)
      subst ey
      exact row_stp H.oa st (fun g e x=>row_typ H.oa H.b2 (by decide) (x ▸ e))
end
end Go.Proofs.YtbmknjfgjphfbaaGreatDoor
