import Derived.Test.YtbmknjfgjphfbaaGreatDoorTg
import Derived.Test.YtbmknjfgjphfbaaGreatDoorLa
import Derived.Test.YtbmknjfgjphfbaaGreatDoorCc
set_option linter.all false
namespace Go.Proofs.YtbmknjfgjphfbaaGreatDoor
open Proofs.Tryz RowKit Maps WideMaps ChangeMaps
set_option maxRecDepth 100000
set_option maxHeartbeats 8000000
theorem ereads_of {W:À} {b g n ec:Nat} {xs:List Value} (h:W.ownsRow b 48 5 (.slice (some ⟨g,0,none⟩) n ec) n xs) (he:EfR xs (nmL n)):C.EReads5 W g (nmL n):=by
  have hs:EsR W (fun _=>True) (.slice (some ⟨g,0,none⟩) n ec) (nmL n):=he.sl (by rw[nmL_len];exact h) (fun _ _=>trivial)
  intro i hi
  obtain⟨g',off,cs,hA,_,hR,_,hc⟩:=hs.at hi
  obtain⟨B,m,c,rfl⟩:=hR
  injection hA with hA
  injection hA with hA hB
  subst hA hB
  refine ⟨B,m,c,?_,?_,?_,?_,?_⟩
  · have:=hc 0 _ rfl;show W.cell? ⟨g,i*5,none⟩=some (.string (str (nmL n)[i]));simpa using this
  · have:=hc 1 _ rfl;simpa using this
  · have:=hc 2 _ rfl;simpa using this
  · have:=hc 3 _ rfl;simpa using this
  · have:=hc 4 _ rfl;simpa using this
theorem nmL_nodup (n:Nat) (hn:n≤30):(nmL n).Nodup:=nodup_map _ List.nodup_range (fun a ha b hb e=>nmE_inj (by have:=List.mem_range.1 ha;omega) (by have:=List.mem_range.1 hb;omega) e)
theorem nmL_100 (n:Nat):∀e∈nmL n,e.length≤100:=fun e he=>by
  obtain⟨i,_,rfl⟩:=List.mem_map.1 he
  simp[nmE]
theorem srcP_s (j:Nat):srcP (j+1)=srcP j++lnE j:=by unfold srcP;rw[List.range_succ,List.flatMap_append,←List.append_assoc];simp
theorem catA_s (j:Nat):catA (j+1)=catA j++lnC j:=by unfold catA;rw[List.range_succ,List.flatMap_append];simp
theorem catB_s (k j:Nat):catB k (j+1)=catB k j++(if j=k then [] else lnC j):=by unfold catB;rw[List.range_succ,List.flatMap_append];simp
theorem catZ_s (k j:Nat):catZ k (j+1)=catZ k j++(if j=k then [122,122,10] else lnC j):=by unfold catZ;rw[List.range_succ,List.flatMap_append];simp
theorem srcP_len:∀j,(srcP j).length=17+25*j
  |0=>rfl
  |j+1=>by rw[srcP_s,List.length_append,srcP_len j];simp[lnE,nmE];omega
theorem catA_len:∀j,(catA j).length≤16*j
  |0=>by simp[catA]
  |j+1=>by rw[catA_s,List.length_append];have:=catA_len j;simp[lnC,nmE];omega
theorem catB_len (k:Nat):∀j,(catB k j).length≤16*j
  |0=>by simp[catB]
  |j+1=>by rw[catB_s,List.length_append];have:=catB_len k j;split<;>simp[lnC,nmE]<;>omega
theorem catZ_len (k:Nat):∀j,(catZ k j).length≤16*j
  |0=>by simp[catZ]
  |j+1=>by rw[catZ_s,List.length_append];have:=catZ_len k j;split<;>simp[lnC,nmE]<;>omega
theorem str_sz (l:List UInt8):(str l).size=l.length:=by show l.toArray.size=_;simp
theorem str_ap (a b:List UInt8):str a++str b=str (a++b):=by
  apply ByteArray.ext
  show (ByteArray.mk a.toArray++ByteArray.mk b.toArray).data=_
  simp[ByteArray.data_append,str]
theorem str_lit (a:List UInt8):(⟨a.toArray⟩:Ê)=str a:=rfl
/-- the four texts under way -/
structure LwS (k j:Nat) (a b c d:Ê):Prop where
  a:a=str (srcP j)
  b:b=str (catA j)
  c:c=str (catB k j)
  d:d=str (catZ k j)
theorem law_out (n k:Int) (h:¬(1≤n∧n≤30∧0≤k∧k<n)) (w:À) (ht:C.Tab w):Calls prog 3 #[.int .i64 n,.int .i64 k] w fun e w'=>e=.returned (.bool true)∧Below w.heap.size w w':=by
  have SM:=Lib.hid (C.small_any w ht)
  have HH:=Lib.hid h
  clear ht h
  by_cases h1:n<1
  · have u1:decide (n<1)=true:=decide_eq_true h1
    clear h1
    go_in
    go_wp2_with (go_at_call 4;refine SM.out.mono ?_;rintro _ W1 ⟨rfl,hb⟩)
    go_ret
    exact ⟨rfl,hb⟩
  · have u1:decide (n<1)=false:=decide_eq_false h1
    by_cases h2:30<n
    · have u2:decide (30<n)=true:=decide_eq_true h2
      clear h1 h2
      go_in
      go_wp2_with (go_at_call 4;refine SM.out.mono ?_;rintro _ W1 ⟨rfl,hb⟩)
      go_ret
      exact ⟨rfl,hb⟩
    · have u2:decide (30<n)=false:=decide_eq_false h2
      by_cases h3:k<0
      · have u3:decide (k<0)=true:=decide_eq_true h3
        clear h1 h2 h3
        go_in
        go_wp2_with (go_at_call 4;refine SM.out.mono ?_;rintro _ W1 ⟨rfl,hb⟩)
        go_ret
        exact ⟨rfl,hb⟩
      · have u3:decide (k<0)=false:=decide_eq_false h3
        have h4:n≤k:=by have:=HH.out;omega
        have u4:decide (n≤k)=true:=decide_eq_true h4
        clear h1 h2 h3 h4
        go_in
        go_wp2_with (go_at_call 4;refine SM.out.mono ?_;rintro _ W1 ⟨rfl,hb⟩)
        go_ret
        exact ⟨rfl,hb⟩
end Go.Proofs.YtbmknjfgjphfbaaGreatDoor
set_option linter.all false
namespace Go.Proofs.YtbmknjfgjphfbaaGreatDoor
open Proofs.Tryz RowKit Maps WideMaps ChangeMaps
set_option maxRecDepth 100000
set_option maxHeartbeats 8000000
theorem LwS.next {k j:Nat} {a b c d x:Ê} (h:LwS k j a b c d) (hx:x=str (nmE j)):
    LwS k (j+1) (a++⟨#[101,102,102,101,99,116,32]⟩++x++⟨#[40,120,58,32,105,110,116,41,58,32,98,111,111,108,10]⟩) (b++(x++⟨#[32,100,111,32,49,32,117,110,100,111,32,50,10]⟩)) (c++if j=k then ⟨#[]⟩ else x++⟨#[32,100,111,32,49,32,117,110,100,111,32,50,10]⟩) (d++if j=k then ⟨#[122,122,10]⟩ else x++⟨#[32,100,111,32,49,32,117,110,100,111,32,50,10]⟩):=by
  obtain⟨rfl,rfl,rfl,rfl⟩:=h
  subst hx
  refine ⟨?_,?_,?_,?_⟩
  · rw[srcP_s]
    show str (srcP j)++str [101,102,102,101,99,116,32]++str (nmE j)++str [40,120,58,32,105,110,116,41,58,32,98,111,111,108,10]=_
    rw[str_ap,str_ap,str_ap]
    simp[lnE]
  · rw[catA_s]
    show str (catA j)++(str (nmE j)++str [32,100,111,32,49,32,117,110,100,111,32,50,10])=_
    rw[str_ap,str_ap]
    rfl
  · rw[catB_s]
    by_cases e:j=k
    · rw[if_pos e,if_pos e]
      show str (catB k j)++str []=_
      rw[str_ap]
    · rw[if_neg e,if_neg e]
      show str (catB k j)++(str (nmE j)++str [32,100,111,32,49,32,117,110,100,111,32,50,10])=_
      rw[str_ap,str_ap]
      rfl
  · rw[catZ_s]
    by_cases e:j=k
    · rw[if_pos e,if_pos e]
      show str (catZ k j)++str [122,122,10]=_
      rw[str_ap]
    · rw[if_neg e,if_neg e]
      show str (catZ k j)++(str (nmE j)++str [32,100,111,32,49,32,117,110,100,111,32,50,10])=_
      rw[str_ap,str_ap]
      rfl
theorem LwS.sz {k j:Nat} {a b c d:Ê} (h:LwS k j a b c d) (hj:j≤30):a.size≤800∧b.size≤800∧c.size≤800∧d.size≤800:=by
  obtain⟨rfl,rfl,rfl,rfl⟩:=h
  simp only[str_sz,srcP_len]
  have:=catA_len j
  have:=catB_len k j
  have:=catZ_len k j
  omega
theorem cparse_ok (s:Ê) (l:List C.Off) (w:À) (hs:s.size≤800) (h:C.parseP s.data.toList=.ok l):Calls prog 7 #[.string s] w fun e w'=>∃A c,e=.returned (.tuple #[.slice A l.length c,.int .i64 0,.int .i64 0])∧w'.ownsRow w.heap.size 40 6 (.slice A l.length c) l.length (C.ocells l)∧Below w.heap.size w w':=by
  refine (C.parse_any s w (by omega)).mono ?_
  rintro _ w' ⟨v,rfl,ho,hb⟩
  rw[h] at ho ⊢
  obtain⟨A,c,rfl⟩:=row_form ho
  exact ⟨A,c,rfl,ho,hb⟩
theorem cright_ok {g n ec aN aC:Nat} {AA:Option Addr} {w W:À} {b b1:Nat} {xs:List Value} (hn:n≤30) (hE:w.ownsRow b 48 5 (.slice (some ⟨g,0,none⟩) n ec) n xs) (he:EfR xs (nmL n)) (l:List C.Off) {A:Option Addr} {c:Nat} (ho:w.ownsRow b1 40 6 (.slice A l.length c) l.length (C.ocells l)) (hl:l.length≤n) {r:Bool} (hr:C.rightP l (nmL n)=r) (hb:Below w.heap.size w W):Calls prog 8 #[.slice A l.length c,.agg (pg4 (.slice (some ⟨g,0,none⟩) n ec) (.slice AA aN aC))] W fun e w'=>e=.returned (.bool r)∧Below W.heap.size W w':=by
  have f:∀{e size n b:Nat} {v:Value} {xs:List Value},w.ownsRow b e size v n xs→W.ownsRow b e size v n xs:=fun h=>row_stp h (Stp.of_below (own:=fun _=>False) hb) (fun _ _ e=>e)
  have h1:=f hE
  have h2:=f ho
  have h3:=C.rightAll5_any AA aN aC (.slice A l.length c) l g ec (nmL n) W (C.OReads.of_own h2) (by omega) (h1.lt g rfl).2 (ereads_of h1 he) (by rw[nmL_len];omega) (nmL_100 n) (nmL_nodup n hn)
  rw[hr,nmL_len] at h3
  exact h3
theorem law_in (n k:Nat) (h1:1≤n) (h2:n≤30) (h3:k<n) (w:À) (ht:C.Tab w):Calls prog 3 #[.int .i64 (n:Int),.int .i64 (k:Int)] w fun e w'=>e=.returned (.bool true)∧Below w.heap.size w w':=by
  have SM:=Lib.hid (C.small_any w ht)
  have u1:decide ((n:Int)<1)=false:=decide_eq_false (by omega)
  have u2:decide (30<(n:Int))=false:=decide_eq_false (by omega)
  have u3:decide ((k:Int)<0)=false:=decide_eq_false (by omega)
  have u4:decide (n≤k)=false:=decide_eq_false (by omega)
  have hn63:n≤9223372036854775807:=by omega
  have HN:Hid (1≤n∧n≤30∧k<n):=Lib.hid ⟨h1,h2,h3⟩
  clear ht h1 h2 h3
  go_in
  go_wp2_with (first|(go_at_call 4;refine SM.out.mono ?_;rintro _ W1 ⟨rfl,hb⟩;have B1:=Lib.hid hb;clear hb)|(go_at_call 5;refine (names5_any n HN.out.2.1 _).mono ?_;rintro _ W2 ⟨A,c,rfl,hb,ho⟩;have B2:=Lib.hid hb;have HO:=Lib.hid ho;clear hb ho))
  clear u1 u2 u3 u4
  obtain⟨g,cc,hA⟩:=row_some HO.out (by have:=HN.out;omega)
  cases hA
  go_loopw [7,8,9,10,11] (fun a b c d i wr=>∃ (j:Nat) (sa sb sc sd:Ê),j≤n∧a=.string sa∧b=.string sb∧c=.string sc∧d=.string sd∧i=.int .i64 j∧Hid (LwS k j sa sb sc sd)∧Hid (Below W2.heap.size W2 wr)) (fun _ _ _ _ i _=>n-(intOf i).toNat)
  case atStart=>exact ⟨0,_,_,_,_,by omega,rfl,rfl,rfl,rfl,rfl,Lib.hid ⟨rfl,rfl,rfl,rfl⟩,Lib.hid (belR _)⟩
  case round=>
    obtain⟨j,sa,sb,sc,sd,hj,rfl,rfl,rfl,rfl,rfl,HS,HB⟩:=hrel
    obtain⟨za,zb,zc,zd⟩:=HS.out.sz (by have:=HN.out;omega)
    by_cases hlt:j<n
    · have u1:decide ((j:Int)<(n:Int))=true:=decide_eq_true (by omega)
      have j0:(0:Int)≤(j:Int):=by omega
      have j1:(j:Int)<(n:Int):=by omega
      obtain⟨x,hx⟩:∃x,Hid (x=str (nmE j)):=⟨_,rfl⟩
      have e0:wr.cell? ⟨g,j,none⟩=some (.string x):=by
        have h:=HO.out.cells (g:=g) rfl j (.string x) (by rw[hx.out];simp[nmL,hlt])
        have h2:W2.cell? ⟨g,j,none⟩=some (.string x):=by
          have e:(⟨g,0,none⟩:Addr).add j=⟨g,0+j,none⟩:=by unfold Addr.add;split<;>simp_all
          rw[e,Nat.zero_add] at h
          exact h
        exact belC HB.out h2
      have zx:x.size=3:=by rw[hx.out];rfl
      have HX:=Lib.hid (HS.out.next hx.out)
      have HLT:=Lib.hid hlt
      by_cases hjk:j=k
      · have u2:((j:Int)==(k:Int))=true:=beq_iff_eq.2 (by omega)
        rw[if_pos hjk,if_pos hjk] at HX
        have HJ:=Lib.hid hjk
        clear hjk hx
        go_wp2_with fail
        exact ⟨⟨j+1,_,_,_,_,by omega,rfl,rfl,rfl,rfl,by go_num,HX,HB⟩,by simp[intOf];omega⟩
      · have u2:((j:Int)==(k:Int))=false:=beq_eq_false_iff_ne.2 (by omega)
        rw[if_neg hjk,if_neg hjk] at HX
        clear hjk hx
        go_wp2_with fail
        exact ⟨⟨j+1,_,_,_,_,by omega,rfl,rfl,rfl,rfl,by go_num,HX,HB⟩,by simp[intOf];omega⟩
    · have u1:decide ((j:Int)<(n:Int))=false:=decide_eq_false (by omega)
      obtain rfl:j=n:=by omega
      obtain⟨hsa,hsb,hsc,hsd⟩:=HS.out
      obtain⟨la,pa,ra,na⟩:=catA_ok j HN.out.2.1
      obtain⟨lb,pb,rb,nb⟩:=catB_ok k j HN.out.2.1 HN.out.2.2
      obtain⟨lz,pz,rz,nz⟩:=catZ_ok k j HN.out.2.1 HN.out.2.2
      have CK:=Lib.hid (check_any (w:=wr) (l:=kidsT j) rfl HN.out.2.1 (right_all j (by have:=HN.out;omega)) sa (by unfold maxLen;omega) (by rw[hsa];exact run_all j HN.out.1 HN.out.2.1))
      have PA:Hid (C.parseP sb.data.toList=.ok la):=by rw[hsb];exact pa
      have PB:Hid (C.parseP sc.data.toList=.ok lb):=by rw[hsc];exact pb
      have PZ:Hid (C.parseP sd.data.toList=.ok lz):=by rw[hsd];exact pz
      have ZZ:Hid (sb.size≤800∧sc.size≤800∧sd.size≤800):=⟨zb,zc,zd⟩
      have NN:Hid (la.length≤j∧lb.length≤j∧lz.length≤j):=⟨by omega,nb,nz⟩
      have RA:=Lib.hid ra
      have RB:=Lib.hid rb
      have RZ:=Lib.hid rz
      have BW:=Lib.hid (bel B1.out (bel B2.out HB.out))
      clear hsa hsb hsc hsd pa pb pz ra rb rz nb nz na za zb zc zd HS HB
      go_upto_region 22 with (go_at_call 6;refine CK.out.mono ?_;rintro _ W3 ⟨EA,ec,AA,ac,xs,rfl,b3,rE,eE⟩;have B3:=Lib.hid b3;have RE:=Lib.hid rE;have EE:=Lib.hid eE;clear b3 rE eE)
      obtain⟨gE,cE,hA⟩:=row_some RE.out (by have:=HN.out;omega)
      cases hA
      obtain⟨W4,hW4⟩:∃q,Hid (q=W3.alloc (.cells (pg4 (.slice (some ⟨gE,0,none⟩) j ec) (.slice AA 1 ac)) 30)):=⟨_,rfl⟩
      have b4:Below W3.heap.size W3 W4:=by rw[hW4.out];exact belA (belR _) _
      have X4:Hid (Hs W4 W3.heap.size 30 (pg4 (.slice (some ⟨gE,0,none⟩) j ec) (.slice AA 1 ac))):=by show Hs _ _ _ _;rw[hW4.out];exact Hs.new _ _ _
      have B4:=Lib.hid (bel BW.out (bel B3.out b4))
      have RE4:=Lib.hid (row_stp RE.out (Stp.of_below (own:=fun _=>False) b4) (fun _ _ e=>e))
      obtain⟨bx,hbx⟩:∃q,Hid (q=W3.heap.size):=⟨_,rfl⟩
      rw[←hbx.out] at X4
      rw[←hW4.out,←hbx.out]
      clear hW4 b4 CK B3 RE
      go_upto_region 23 with (go_at_call 7;refine (cparse_ok sb la _ ZZ.out.1 PA.out).mono ?_;rintro _ W5 ⟨A5,c5,rfl,o5,b5⟩;have B5:=Lib.hid b5;have O5:=Lib.hid o5;clear b5 o5)
      go_upto_region 24 with (go_at_call 7;refine (cparse_ok sc lb _ ZZ.out.2.1 PB.out).mono ?_;rintro _ W6 ⟨A6,c6,rfl,o6,b6⟩;have B6:=Lib.hid b6;have O6:=Lib.hid o6;clear b6 o6)
      go_upto_region 25 with (go_at_call 7;refine (cparse_ok sd lz _ ZZ.out.2.2 PZ.out).mono ?_;rintro _ W7 ⟨A7,c7,rfl,o7,b7⟩;have B7:=Lib.hid b7;have O7:=Lib.hid o7;clear b7 o7)
      have b57:=bel B6.out B7.out
      have b47:=bel B5.out b57
      have B7w:=Lib.hid (bel B4.out b47)
      have BX0:=Lib.hid (hs_bel X4.out b47)
      have f:∀{e size n b:Nat} {v:Value} {xs:List Value} {w W:À},Below w.heap.size w W→w.ownsRow b e size v n xs→W.ownsRow b e size v n xs:=fun hb h=>row_stp h (Stp.of_below (own:=fun _=>False) hb) (fun _ _ e=>e)
      have RE7:=Lib.hid (f b47 RE4.out)
      have O57:=Lib.hid (f b57 O5.out)
      have O67:=Lib.hid (f B7.out O6.out)
      clear f b57 b47
      have q00:W7.cell? ⟨bx,0,none⟩=some (.slice none 0 0):=BX0.out.c 0
      have q01:W7.cell? ⟨bx,1,none⟩=some (.slice (some ⟨gE,0,none⟩) j ec):=BX0.out.c 1
      have q02:W7.cell? ⟨bx,2,none⟩=some (.slice none 0 0):=BX0.out.c 2
      have q03:W7.cell? ⟨bx,3,none⟩=some (.slice AA 1 ac):=BX0.out.c 3
      go_wp2_with fail
      refine (cright_ok HN.out.2.1 RE7.out EE.out la O57.out NN.out.1 RA.out (belR _)).mono ?_
      rintro _ X1 ⟨rfl,hb⟩
      have H1:=Lib.hid hb
      have BX1:=Lib.hid (hs_bel BX0.out hb)
      clear hb q00 q01 q02 q03
      have q10:X1.cell? ⟨bx,0,none⟩=some (.slice none 0 0):=BX1.out.c 0
      have q11:X1.cell? ⟨bx,1,none⟩=some (.slice (some ⟨gE,0,none⟩) j ec):=BX1.out.c 1
      have q12:X1.cell? ⟨bx,2,none⟩=some (.slice none 0 0):=BX1.out.c 2
      have q13:X1.cell? ⟨bx,3,none⟩=some (.slice AA 1 ac):=BX1.out.c 3
      go_wp2_with fail
      refine (cright_ok HN.out.2.1 RE7.out EE.out lb O67.out NN.out.2.1 RB.out H1.out).mono ?_
      rintro _ X2 ⟨rfl,hb⟩
      have H2:=Lib.hid (bel H1.out hb)
      have BX2:=Lib.hid (hs_bel BX1.out hb)
      clear hb q10 q11 q12 q13
      have q20:X2.cell? ⟨bx,0,none⟩=some (.slice none 0 0):=BX2.out.c 0
      have q21:X2.cell? ⟨bx,1,none⟩=some (.slice (some ⟨gE,0,none⟩) j ec):=BX2.out.c 1
      have q22:X2.cell? ⟨bx,2,none⟩=some (.slice none 0 0):=BX2.out.c 2
      have q23:X2.cell? ⟨bx,3,none⟩=some (.slice AA 1 ac):=BX2.out.c 3
      go_wp2_with fail
      refine (cright_ok HN.out.2.1 RE7.out EE.out lz O7.out NN.out.2.2 RZ.out H2.out).mono ?_
      rintro _ X3 ⟨rfl,hb⟩
      have H3:=Lib.hid (bel H2.out hb)
      have BX3:=Lib.hid (hs_bel BX2.out hb)
      clear hb q20 q21 q22 q23
      have q30:X3.cell? ⟨bx,0,none⟩=some (.slice none 0 0):=BX3.out.c 0
      have q31:X3.cell? ⟨bx,1,none⟩=some (.slice (some ⟨gE,0,none⟩) j ec):=BX3.out.c 1
      have q32:X3.cell? ⟨bx,2,none⟩=some (.slice none 0 0):=BX3.out.c 2
      have q33:X3.cell? ⟨bx,3,none⟩=some (.slice AA 1 ac):=BX3.out.c 3
      go_wp2_with fail
      go_ret
      exact ⟨rfl,bel B7w.out H3.out⟩
end Go.Proofs.YtbmknjfgjphfbaaGreatDoor
namespace Go.Proofs.YtbmknjfgjphfbaaGreatDoor
open RowKit
theorem law_any (n k:Int) (w:World) (ht:C.Tab w):Calls Tryz.prog 3 #[.int .i64 n,.int .i64 k] w fun e w'=>e=.returned (.bool true)∧Below w.heap.size w w':=by
  by_cases h:1≤n∧n≤30∧0≤k∧k<n
  · obtain⟨N,rfl⟩:∃N:Nat,n=(N:Int):=⟨n.toNat,by omega⟩
    obtain⟨K,rfl⟩:∃K:Nat,k=(K:Int):=⟨k.toNat,by omega⟩
    exact law_in N K (by omega) (by omega) (by omega) w ht
  · exact law_out n k h w ht
end Go.Proofs.YtbmknjfgjphfbaaGreatDoor
