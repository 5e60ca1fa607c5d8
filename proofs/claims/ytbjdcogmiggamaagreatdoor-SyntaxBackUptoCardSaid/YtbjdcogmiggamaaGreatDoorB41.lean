import Derived.Test.YtbjdcogmiggamaaGreatDoorB40
set_option linter.all false
namespace Go.Proofs.YtbjdcogmiggamaaGreatDoor
open Proofs.Tryz RowKit Maps WideMaps ChangeMaps
set_option maxRecDepth 100000
set_option maxHeartbeats 8000000
section
theorem all_take {g:Nd→Bool} {a:List Nd} (h:a.all g=true) (j:Nat):(a.take j).all g=true:=by
 rw[List.all_eq_true] at h ⊢
 exact fun x hx=>h x (List.mem_of_mem_take hx)
theorem nam_sz {p:Wp} {K n q:Int} {s:Ê} {a:List Nd} (h:namB p (.mk K s n q a)=true):0<s.size:=by
 unfold namB at h
 rw[Bool.and_eq_true] at h
 exact up_sz (l:=[]) (p:=p.b) h.1 (by cases p<;>rfl)
section
variable {k:Nat} (H:AllW k)
include H
theorem pri_said:NoSaid 164 (fun t=>shp (k+1) .exp t=true∧(ndK t=20∨ndK t=22∨ndK t=23∨ndK t=24∨ndK t=25∨ndK t=26∨ndK t=27∨ndK t=29∨ndK t=21)) (priT (tok k)):=fun wb mb ts cs t w hw hn hx hz=>by
 have hn2:=hn
 obtain⟨K,s,n,p,a,A,cap,rfl,rfl,_⟩:=nd_form hn
 obtain⟨hq,hk⟩:=hx
 have hs:=hq
 rcases hk with h|h|h|h|h|h|h|h|h<;>obtain rfl:K=_:=h
 · exact w_pri20 hw hn2 hz
 · cases hv:n==1 with
   | true =>
    have e:priT (tok k) (.mk 22 s n p a)=[wT [116,114,117,101]]:=by
     have:n=1:=beq_iff_eq.1 hv
     subst this;rfl
    rw[e] at hz ⊢
    exact w_pri22t hv hw hn2 hz
   | false =>
    have e:priT (tok k) (.mk 22 s n p a)=[wT [102,97,108,115,101]]:=by
     have:¬n=1:=beq_eq_false_iff_ne.1 hv
     show (if n=1 then _ else _)=_
     rw[if_neg this]
    rw[e] at hz ⊢
    exact w_pri22f hv hw hn2 hz
 · exact w_pri23 hw hn2 hz
 · have h2:(a.length==0&&namB .low (.mk 24 s n p a))=true:=hs
   rw[Bool.and_eq_true] at h2
   exact w_pri24 (nam_sz h2.2) hw hn2 hz
 · exact w_pri25 hw hn2 hz
 · have h2:(bareB (.mk 26 s n p a)&&a.all (shp k .exp))=true:=hs
   rw[Bool.and_eq_true] at h2
   exact w_pri26 H h2.2 hw hn2 hz
 · have h2:(namB .upp (.mk 27 s n p a)&&a.all (shp k .set))=true:=hs
   rw[Bool.and_eq_true] at h2
   exact w_pri27 H (nam_sz h2.1) h2.2 hw hn2 hz
 · have h2:(namB .upp (.mk 29 s n p a)&&a.all (shp k .exp))=true:=hs
   rw[Bool.and_eq_true] at h2
   by_cases hi:0<a.length
   · have e:priT (tok k) (.mk 29 s n p a)=wdT s::lstT [40] [41] (a.map (tok k .exp)):=by
      show wdT s::(if 0<a.length then _ else _)=_
      rw[if_pos hi];rfl
     rw[e] at hz ⊢
     exact w_pri29 H (nam_sz h2.1) hi h2.2 hw hn2 hz
   · have e:priT (tok k) (.mk 29 s n p a)=[wdT s]:=by
      show wdT s::(if 0<a.length then _ else _)=_
      rw[if_neg hi]
     rw[e] at hz ⊢
     exact w_pri29z (nam_sz h2.1) hi hw hn2 hz
 · exact w_pri21 s n p a A cap w hw hn2 hz
theorem bin_said:NoSaid 161 (fun t=>shp (k+1) .exp t=true∧ndK t=35) (binT (tok k)):=fun wb mb ts cs t w hw hn hx hz=>by
 have hn2:=hn
 obtain⟨K,s,n,p,a,A,cap,rfl,rfl,_⟩:=nd_form hn
 obtain⟨hq,hk⟩:=hx
 have hs:=hq
 obtain rfl:K=35:=hk
 have h2:((levP s.data.toList).isSome&&n==0&&serB (shp k) a [.exp,.exp])=true:=hs
 rw[Bool.and_eq_true,Bool.and_eq_true] at h2
 obtain⟨y,z,rfl,h3,h4⟩:=ser2 h2.2
 have h0:0<s.size:=up_sz (l:=[]) (p:=fun l=>(levP l).isSome) h2.1.1 rfl
 have e:binT (tok k) (.mk 35 s n p [y,z])=opdT (tok k) y (if (levP s.data.toList).getD 0=4 then 5 else (levP s.data.toList).getD 0)++wdT s::opdT (tok k) z ((levP s.data.toList).getD 0+1):=rfl
 rw[e] at hz ⊢
 obtain⟨L,hL⟩:∃L,L=(levP s.data.toList).getD 0:=⟨_,rfl⟩
 have h7:=lev_le7 s.data.toList
 rw[←hL] at hz h7 ⊢
 by_cases c4:L=4
 · rw[if_pos c4] at hz ⊢
   rw[show (5:Nat)=L+1 by omega] at hz ⊢
   exact w_bin4 H s n p [y,z] A cap w hw hn2 h0 (by simp) h3 (by simp) h4 L hL h7 c4 hz
 · rw[if_neg c4] at hz ⊢
   exact w_bin0 H s n p [y,z] A cap w hw hn2 h0 (by simp) h3 (by simp) h4 L hL h7 c4 hz
theorem pos_said:NoSaid 163 (fun t=>shp (k+1) .exp t=true∧(ndK t=30∨ndK t=31∨ndK t=32)) (posT (tok k)):=fun wb mb ts cs t w hw hn hx hz=>by
 have hn2:=hn
 obtain⟨K,s,n,p,a,A,cap,rfl,rfl,_⟩:=nd_form hn
 obtain⟨hq,hk⟩:=hx
 have hs:=hq
 rcases hk with h|h|h<;>obtain rfl:K=_:=h
 · have h2:(namB .low (.mk 30 s n p a)&&serB (shp k) a [.exp])=true:=hs
   rw[Bool.and_eq_true] at h2
   obtain⟨y,rfl,h3⟩:=ser1 h2.2
   have e:posT (tok k) (.mk 30 s n p [y])=opdT (tok k) y 9++[wT [46],wdT s]:=rfl
   rw[e] at hz ⊢
   exact w_pos30 (a:=[y]) H (nam_sz h2.1) (by simp) h3 hw hn2 hz
 · have h2:(bareB (.mk 31 s n p a)&&decide (1<a.length)&&begB (shp k) .exp .set a)=true:=hs
   rw[Bool.and_eq_true,Bool.and_eq_true] at h2
   obtain⟨hi,h3,h4⟩:=beg1 h2.2
   have e:posT (tok k) (.mk 31 s n p a)=opdT (tok k) (a[0]'hi) 9++([wT [119,105,116,104]]++(wdT (str [123])::(joinT ((a.drop 1).map (tok k .set))++[wdT (str [125])]))):=by
    cases a with
    | nil=>simp at hi
    | cons x a=>rfl
   rw[e] at hz ⊢
   exact w_pos31 H hi h3 h4 hw hn2 hz
 · have h2:(bareB (.mk 32 s n p a)&&begB (shp k) .exp .exp a)=true:=hs
   rw[Bool.and_eq_true] at h2
   obtain⟨hi,h3,h4⟩:=beg1 h2.2
   by_cases hc:ndK (a[0]'hi)=29∧(ndL (a[0]'hi)).length=0
   · have e:posT (tok k) (.mk 32 s n p a)=grpT (tok k) (a[0]'hi)++(wdT (str [40])::(joinT ((a.drop 1).map (tok k .exp))++[wdT (str [41])])):=by
      cases a with
      | nil=>simp at hi
      | cons x a =>
       unfold posT
       rw[if_pos (show ndK (Nd.mk 32 s n p (x::a))=32∧ndK (kid (Nd.mk 32 s n p (x::a)) 0)=29∧(ndL (kid (Nd.mk 32 s n p (x::a)) 0)).length=0 from⟨rfl,hc⟩)]
       rfl
     rw[e] at hz ⊢
     exact w_pos32a H hi h3 h4 hc hw hn2 hz
   · have e:posT (tok k) (.mk 32 s n p a)=opdT (tok k) (a[0]'hi) 9++(wdT (str [40])::(joinT ((a.drop 1).map (tok k .exp))++[wdT (str [41])])):=by
      cases a with
      | nil=>simp at hi
      | cons x a =>
       unfold posT
       rw[if_neg (show ¬(ndK (Nd.mk 32 s n p (x::a))=32∧ndK (kid (Nd.mk 32 s n p (x::a)) 0)=29∧(ndL (kid (Nd.mk 32 s n p (x::a)) 0)).length=0) from fun h=>hc h.2)]
       rfl
     rw[e] at hz ⊢
     by_cases hd:ndK (a[0]'hi)=29
     · exact w_pos32c H hi h3 h4 ⟨hd,fun h=>hc ⟨hd,h⟩⟩ hw hn2 hz
     · exact w_pos32b H hi h3 h4 ⟨hd,trivial⟩ hw hn2 hz
theorem n_typ:NwSaid (k+1) .typ:=fun wb mb ts cs t w hw hn hq hz=>by
 have hn2:=hn
 obtain⟨K,s,n,p,a,A,cap,rfl,rfl,_⟩:=nd_form hn
 have hs:=hq
 have h1:typeB (shp k) (.mk K s n p a)=true:=hs
 by_cases c1:K=12
 · subst c1
   have h2:(namB .typ (.mk 12 s n p a)&&a.length==0)=true:=h1
   rw[Bool.and_eq_true] at h2
   exact w_typ12 (nam_sz h2.1) hw hn2 hz
 by_cases c2:K=13
 · subst c2
   have h2:(bareB (.mk 13 s n p a)&&serB (shp k) a [.typ])=true:=h1
   rw[Bool.and_eq_true] at h2
   obtain⟨y,rfl,h3⟩:=ser1 h2.2
   exact w_typ13 (a:=[y]) H (by simp) h3 hw hn2 hz
 by_cases c3:K=14
 · subst c3
   have h2:(namB .upp (.mk 14 s n p a)&&a.length==0)=true:=h1
   rw[Bool.and_eq_true] at h2
   exact w_typ14 (nam_sz h2.1) hw hn2 hz
 by_cases c4:K=15
 · subst c4
   have h2:(bareB (.mk 15 s n p a)&&decide (0<a.length)&&a.all (shp k .typ))=true:=h1
   rw[Bool.and_eq_true,Bool.and_eq_true,decide_eq_true_eq] at h2
   have hl:a.length-1<a.length:=by omega
   have hall:=h2.2
   have e:tok (k+1) .typ (.mk 15 s n p a)=[wT [102,117,110]]++((wdT (str [40])::(joinT ((a.take (a.length-1)).map (tok k .typ))++[wdT (str [41])]))++([wT [58]]++(tok k .typ (a[a.length-1]'hl)))):=by
    show typT (tok k) (.mk 15 s n p a)=_
    unfold typT lastN
    rw[show ndL (.mk 15 s n p a)=a from rfl,kid_get hl]
    rfl
   rw[e] at hz ⊢
   exact w_typ15 H hl (all_get hall _ hl) (all_take hall _) hw hn2 hz
 · exfalso
   unfold typeB at h1
   simp[ndK,c1,c2,c3,c4] at h1
theorem n_fld:NwSaid (k+1) .fld:=fun wb mb ts cs t w hw hn hq hz=>by
 have hn2:=hn
 obtain⟨K,s,n,p,a,A,cap,rfl,rfl,_⟩:=nd_form hn
 have hs:=hq
 have h2:(K==7&&namB .low (.mk K s n p a)&&serB (shp k) a [.typ])=true:=hs
 rw[Bool.and_eq_true,Bool.and_eq_true] at h2
 obtain⟨y,rfl,h3⟩:=ser1 h2.2
 exact w_fld (a:=[y]) H (nam_sz h2.1.2) (by simp) h3 hw hn2 hz
theorem n_set:NwSaid (k+1) .set:=fun wb mb ts cs t w hw hn hq hz=>by
 have hn2:=hn
 obtain⟨K,s,n,p,a,A,cap,rfl,rfl,_⟩:=nd_form hn
 have hs:=hq
 have h2:(K==28&&namB .low (.mk K s n p a)&&serB (shp k) a [.exp])=true:=hs
 rw[Bool.and_eq_true,Bool.and_eq_true] at h2
 obtain⟨y,rfl,h3⟩:=ser1 h2.2
 exact w_set (a:=[y]) H (nam_sz h2.1.2) (by simp) h3 hw hn2 hz
theorem n_ctor:NwSaid (k+1) .ctor:=fun wb mb ts cs t w hw hn hq hz=>by
 have hn2:=hn
 obtain⟨K,s,n,p,a,A,cap,rfl,rfl,_⟩:=nd_form hn
 have hs:=hq
 have h2:(K==8&&namB .upp (.mk K s n p a)&&a.all (shp k .typ))=true:=hs
 rw[Bool.and_eq_true,Bool.and_eq_true] at h2
 by_cases hi:0<a.length
 · have e:tok (k+1) .ctor (.mk K s n p a)=wdT s::lstT [40] [41] (a.map (tok k .typ)):=by
    show wdT s::(if 0<a.length then _ else _)=_
    rw[if_pos hi];rfl
   rw[e] at hz ⊢
   exact w_ctor1 H (nam_sz h2.1.2) hi h2.2 hw hn2 hz
 · have e:tok (k+1) .ctor (.mk K s n p a)=[wdT s]:=by
    show wdT s::(if 0<a.length then _ else _)=_
    rw[if_neg hi]
   rw[e] at hz ⊢
   exact w_ctor0 (nam_sz h2.1.2) hi hw hn2 hz
theorem n_exp:NwSaid (k+1) .exp:=fun wb mb ts cs t w hw hn hq hz=>by
 have hn2:=hn
 obtain⟨K,s,n,p,a,A,cap,rfl,rfl,_⟩:=nd_form hn
 have hs:=hq
 have h1:expB (shp k) (.mk K s n p a)=true:=hs
 by_cases c:K=20
 · subst c;exact w_exp20 (pri_said H) ⟨hq,by simp[ndK]⟩ hw hn2 hz
 by_cases c:K=22
 · subst c;exact w_exp22 (pri_said H) ⟨hq,by simp[ndK]⟩ hw hn2 hz
 by_cases c:K=23
 · subst c;exact w_exp23 (pri_said H) ⟨hq,by simp[ndK]⟩ hw hn2 hz
 by_cases c:K=24
 · subst c;exact w_exp24 (pri_said H) ⟨hq,by simp[ndK]⟩ hw hn2 hz
 by_cases c:K=25
 · subst c;exact w_exp25 (pri_said H) ⟨hq,by simp[ndK]⟩ hw hn2 hz
 by_cases c:K=26
 · subst c;exact w_exp26 (pri_said H) ⟨hq,by simp[ndK]⟩ hw hn2 hz
 by_cases c:K=27
 · subst c;exact w_exp27 (pri_said H) ⟨hq,by simp[ndK]⟩ hw hn2 hz
 by_cases c:K=29
 · subst c;exact w_exp29 (pri_said H) ⟨hq,by simp[ndK]⟩ hw hn2 hz
 by_cases c:K=35
 · subst c;exact w_exp35 (bin_said H) ⟨hq,rfl⟩ hw hn2 hz
 by_cases c:K=33
 · subst c
   have h2:(bareB (.mk 33 s n p a)&&serB (shp k) a [.exp])=true:=h1
   rw[Bool.and_eq_true] at h2
   obtain⟨y,rfl,h3⟩:=ser1 h2.2
   exact w_exp33 (a:=[y]) H (by simp) h3 hw hn2 hz
 by_cases c:K=34
 · subst c
   have h2:(bareB (.mk 34 s n p a)&&serB (shp k) a [.exp])=true:=h1
   rw[Bool.and_eq_true] at h2
   obtain⟨y,rfl,h3⟩:=ser1 h2.2
   exact w_exp34 (a:=[y]) H (by simp) h3 hw hn2 hz
 by_cases c:K=36
 · subst c
   have h2:(bareB (.mk 36 s n p a)&&serB (shp k) a [.exp,.exp,.exp])=true:=h1
   rw[Bool.and_eq_true] at h2
   obtain⟨y,z,u,rfl,h3,h4,h5⟩:=ser3 h2.2
   exact w_exp36 (a:=[y,z,u]) H (by simp) h3 (by simp) h4 (by simp) h5 hw hn2 hz
 by_cases c:K=37
 · subst c
   have h2:(namB .low (.mk 37 s n p a)&&serB (shp k) a [.exp,.exp])=true:=h1
   rw[Bool.and_eq_true] at h2
   obtain⟨y,z,rfl,h3,h4⟩:=ser2 h2.2
   exact w_exp37 (a:=[y,z]) H (nam_sz h2.1) (by simp) h3 (by simp) h4 hw hn2 hz
 by_cases c:K=38
 · subst c
   have h2:(bareB (.mk 38 s n p a)&&decide (1<a.length)&&begB (shp k) .exp .arm a)=true:=h1
   rw[Bool.and_eq_true,Bool.and_eq_true] at h2
   obtain⟨hi,h3,h4⟩:=beg1 h2.2
   have e:tok (k+1) .exp (.mk 38 s n p a)=[wT [109,97,116,99,104]]++(grpT (tok k) (a[0]'hi)++(wdT (str [123])::(joinT ((a.drop 1).map (tok k .arm))++[wdT (str [125])]))):=by
    cases a with
    | nil=>simp at hi
    | cons x a=>rfl
   rw[e] at hz ⊢
   exact w_exp38 H hi h3 h4 hw hn2 hz
 by_cases c:K=41
 · subst c
   have h2:(bareB (.mk 41 s n p a)&&endB (shp k) a .fld [.typ,.exp])=true:=h1
   rw[Bool.and_eq_true] at h2
   exact w_exp41 H h2.2 hw hn2 hz
 by_cases c:K=21
 · subst c;exact w_exp21 (pri_said H) ⟨hq,by simp[ndK]⟩ hw hn2 hz
 by_cases c:K=30
 · subst c;exact w_exp30 (pos_said H) ⟨hq,by simp[ndK]⟩ hw hn2 hz
 by_cases c:K=31
 · subst c;exact w_exp31 (pos_said H) ⟨hq,by simp[ndK]⟩ hw hn2 hz
 by_cases c:K=32
 · subst c;exact w_exp32 (pos_said H) ⟨hq,by simp[ndK]⟩ hw hn2 hz
 · exfalso
   unfold expB at h1
   simp[ndK, *] at h1
theorem n_arm:NwSaid (k+1) .arm:=fun wb mb ts cs t w hw hn hq hz=>by
 have hn2:=hn
 obtain⟨K,s,n,p,a,A,cap,rfl,rfl,_⟩:=nd_form hn
 have hs:=hq
 have h2:(K==39&&casB (shp k) (.mk K s n p a) .exp)=true:=hs
 rw[Bool.and_eq_true] at h2
 have h3:=h2.2
 unfold casB at h3
 split at h3
 · cases h3
 · rw[Bool.and_eq_true] at h3
   have h5:endB (shp k) a (.leaf 40 .bnd) [.exp]=true:=h3.2
   obtain⟨h6,_,h8⟩:=end1 h5
   obtain⟨_,h7,_⟩:=end1 h5
   have hpa:(a.take (a.length-1)).all (fun x=>decide (0<(ndS x).size))=true:=by
    rw[List.all_eq_true] at h7 ⊢
    intro x hx
    have hx2:=h7 x hx
    cases k with
    | zero=>cases hx2
    | succ k =>
     obtain⟨xk,xs,xn,xp,xa⟩:=x
     have h9:(xk==40&&namB .bnd (.mk xk xs xn xp xa)&&xa.length==0)=true:=hx2
     rw[Bool.and_eq_true,Bool.and_eq_true] at h9
     exact decide_eq_true (nam_sz h9.1.2)
   have e:tok (k+1) .arm (.mk K s n p a)=patT (.mk K s n p a)++([wT [61,62]]++(tok k .exp (a[a.length-1]'h6))):=by
    show patT (.mk K s n p a)++wT [61,62]::tok k .exp (lastN (.mk K s n p a))=_
    unfold lastN
    rw[show ndL (.mk K s n p a)=a from rfl,kid_get h6]
    rfl
   rw[e] at hz ⊢
   exact w_arm H (nam_sz h3.1) h6 h8 ω hpa hw hn2 hz
theorem n_blk:NwSaid (k+1) .blk:=fun wb mb ts cs t w hw hn hq hz=>by
 have hn2:=hn
 obtain⟨K,s,n,p,a,A,cap,rfl,rfl,_⟩:=nd_form hn
 have hs:=hq
 have h2:(K==11&&bareB (.mk K s n p a)&&a.all (shp k .stm))=true:=hs
 rw[Bool.and_eq_true] at h2
 exact w_blk H K s n p a A cap w hw hn2 h2.2 hz
theorem snd_said:NoSaid 204 (fun t=>0<(ndS t).size∧begB (shp k) .exp .exp (ndL t)=true) (sndT (tok k)):=fun wb mb ts cs t w hw hn hx hz=>by
 have hn2:=hn
 obtain⟨K,s,n,p,a,A,cap,rfl,rfl,_⟩:=nd_form hn
 obtain⟨h0,hb⟩:=hx
 obtain⟨hi,h3,h4⟩:=beg1 (a:=a) hb
 have e:sndT (tok k) (.mk K s n p a)=[wT [115,101,110,100]]++(tok k .exp (a[0]'hi)++([wdT s]++(wdT (str [40])::(joinT ((a.drop 1).map (tok k .exp))++[wdT (str [41])])))):=by
  cases a with
  | nil=>simp at hi
  | cons x a=>rfl
 rw[e] at hz ⊢
 exact w_snd H h0 hi h3 h4 hw hn2 hz
theorem n_snd:NwSaid (k+1) .snd:=fun wb mb ts cs t w hw hn hq hz=>by
 have hn2:=hn
 obtain⟨K,s,n,p,a,A,cap,rfl,rfl,_⟩:=nd_form hn
 have hs:=hq
 have h2:(K==56&&namB .upp (.mk K s n p a)&&begB (shp k) .exp .exp a)=true:=hs
 rw[Bool.and_eq_true,Bool.and_eq_true] at h2
 exact snd_said H wb mb ts _ _ w hw hn2 ⟨nam_sz h2.1.2,h2.2⟩ hz
theorem leaf_sz {K:Int} {q:Wp} {x:Nd} (h:shp k (.leaf K q) x=true):0<(ndS x).size:=by
 cases k with
 | zero=>cases h
 | succ k =>
  obtain⟨xk,xs,xn,xp,xa⟩:=x
  have h9:(xk==K&&namB q (.mk xk xs xn xp xa)&&xa.length==0)=true:=h
  rw[Bool.and_eq_true,Bool.and_eq_true] at h9
  exact nam_sz h9.1.2
theorem spw_said:NoSaid 205 (fun t=>shp (k+1) .stm t=true∧ndK t=58) (spwT (tok k)):=fun wb mb ts cs t w hw hn hx hz=>by
 have hn2:=hn
 obtain⟨K,s,n,p,a,A,cap,rfl,rfl,_⟩:=nd_form hn
 obtain⟨hq,hk⟩:=hx
 have hs:=hq
 obtain rfl:K=58:=hk
 have h1:(if n=1∧a.length<2 then false else uppB s.data.toList&&(n==0||n==1)&&begB (shp k) (.leaf 40 .bnd) .exp a)=true:=hs
 by_cases hc:n=1∧a.length<2
 · rw[if_pos hc] at h1;cases h1
 rw[if_neg hc,Bool.and_eq_true,Bool.and_eq_true,Bool.or_eq_true,beq_iff_eq,beq_iff_eq] at h1
 obtain⟨⟨hu,hn1⟩,hb⟩:=h1
 have h0:0<s.size:=up_sz (l:=[]) (p:=uppB) hu rfl
 obtain⟨hi,h3,h4⟩:=beg1 hb
 have h5:=leaf_sz H h3
 have hd:∀m:Nat,((a.take m).drop 1).all (shp k .exp)=true:=fun m=>by rw[List.drop_take];exact all_take h4 _
 have e9:∀(b:Bool),((ndS (a[0]'hi)).toList==[95])=b→(ndT (kid (.mk 58 s n p a) 0)==[95])=b:=fun b h=>by
  rw[kid_get hi];unfold ndT;rw[←ByteArray.toList_eq];exact h
 rcases hn1 with rfl|rfl
 · have hl2:1≤a.length-0:=by omega
   cases hcc:((ndS (a[0]'hi)).toList==[95]) with
   | false =>
    have e:spwT (tok k) (.mk 58 s 0 p a)=[wT [108,101,116],wdT (ndS (a[0]'hi)),wT [61]]++([wT [115,112,97,119,110],wdT s]++(wdT (str [40])::(joinT (((a.take (a.length-0)).drop 1).map (tok k .exp))++[wdT (str [41])]))):=by
     unfold spwT
     rw[if_neg (beq_eq_false_iff_ne.1 (e9 _ hcc)),kid_get hi,List.drop_one]
     simp[ndL,ndN,ndS,lstT,wT]
    rw[e] at hz ⊢
    exact w_spwN0 H h0 hi h5 hl2 hcc (hd _) hw hn2 hz
   | true =>
    have e:spwT (tok k) (.mk 58 s 0 p a)=[wT [115,112,97,119,110],wdT s]++(wdT (str [40])::(joinT (((a.take (a.length-0)).drop 1).map (tok k .exp))++[wdT (str [41])])):=by
     unfold spwT
     rw[if_pos (beq_iff_eq.1 (e9 _ hcc)),List.drop_one]
     simp[ndL,ndN,ndS,lstT,wT]
    rw[e] at hz ⊢
    exact w_spwU0 H h0 hi h5 hl2 hcc (hd _) hw hn2 hz
 · have h2:2≤a.length:=by
    by_cases h:a.length<2
    · exact absurd ⟨rfl,h⟩ hc
    · omega
   have hl2:1≤a.length-1:=by omega
   have him:a.length-1<a.length:=by omega
   have hla:shp k .exp (a[a.length-1]'him)=true:=by
    have:=List.all_eq_true.1 h4 (a[a.length-1]'him) (by
     rw[List.mem_iff_getElem]
     exact⟨a.length-1-1,by rw[List.length_drop];omega,by rw[List.getElem_drop];congr 1;omega⟩)
    exact this
   cases hcc:((ndS (a[0]'hi)).toList==[95]) with
   | false =>
    have e:spwT (tok k) (.mk 58 s 1 p a)=[wT [108,101,116],wdT (ndS (a[0]'hi)),wT [61]]++([wT [115,112,97,119,110],wdT s]++((wdT (str [40])::(joinT (((a.take (a.length-1)).drop 1).map (tok k .exp))++[wdT (str [41])]))++([wT [111,110]]++tok k .exp (a[a.length-1]'him)))):=by
     unfold spwT
     rw[if_neg (beq_eq_false_iff_ne.1 (e9 _ hcc)),kid_get hi,show (ndL (Nd.mk 58 s 1 p a)).length-(ndN (Nd.mk 58 s 1 p a)).toNat=a.length-1 from rfl,kid_get him,List.drop_one]
     simp[ndL,ndN,ndS,lstT,wT]
    rw[e] at hz ⊢
    exact w_spwN1 H h0 hi h5 hl2 hcc (hd _) him hla hw hn2 hz
   | true =>
    have e:spwT (tok k) (.mk 58 s 1 p a)=[wT [115,112,97,119,110],wdT s]++((wdT (str [40])::(joinT (((a.take (a.length-1)).drop 1).map (tok k .exp))++[wdT (str [41])]))++([wT [111,110]]++tok k .exp (a[a.length-1]'him))):=by
     unfold spwT
     rw[if_pos (beq_iff_eq.1 (e9 _ hcc)),show (ndL (Nd.mk 58 s 1 p a)).length-(ndN (Nd.mk 58 s 1 p a)).toNat=a.length-1 from rfl,kid_get him,List.drop_one]
     simp[ndL,ndN,ndS,lstT,wT]
    rw[e] at hz ⊢
    exact w_spwU1 H h0 hi h5 hl2 hcc (hd _) him hla hw hn2 hz
theorem cas_w {z:Nd} {x:Sh} (h:casB (shp k) z x=true):0<(ndS z).size∧0<(ndL z).length∧(initN z).all (fun x=>decide (0<(ndS x).size))=true∧shp k x (lastN z)=true:=by
 obtain⟨K,s,n,p,a⟩:=z
 unfold casB at h
 split at h
 · cases h
 · rw[Bool.and_eq_true] at h
   obtain⟨h6,h7,h8⟩:=end1 (a:=a) h.2
   refine⟨nam_sz h.1,by show 0<a.length;omega,?_,?_⟩
   · show (a.take (a.length-1)).all _=true
     rw[List.all_eq_true] at h7 ⊢
     exact fun x hx=>decide_eq_true (leaf_sz H (h7 x hx))
   · unfold lastN
     rw[show ndL (.mk K s n p a)=a from rfl,kid_get h6]
     exact h8
theorem n_stm (H2:∀j,k=j+1→AllW j):NwSaid (k+1) .stm:=fun wb mb ts cs t w hw hn hq hz=>by
 have hn2:=hn
 obtain⟨K,s,n,p,a,A,cap,rfl,rfl,_⟩:=nd_form hn
 have hs:=hq
 have h1:stmB (shp k) (.mk K s n p a)=true:=hs
 by_cases c:K=50
 · subst c
   have h2:(namB .low (.mk 50 s n p a)&&serB (shp k) a [.exp])=true:=h1
   rw[Bool.and_eq_true] at h2
   obtain⟨y,rfl,h3⟩:=ser1 h2.2
   exact w_stm50 (a:=[y]) H (nam_sz h2.1) (by simp) h3 hw hn2 hz
 by_cases c:K=51
 · subst c
   have h2:(namB .low (.mk 51 s n p a)&&serB (shp k) a [.exp])=true:=h1
   rw[Bool.and_eq_true] at h2
   obtain⟨y,rfl,h3⟩:=ser1 h2.2
   exact w_stm51 (a:=[y]) H (nam_sz h2.1) (by simp) h3 hw hn2 hz
 by_cases c:K=52
 · subst c
   have h2:(bareB (.mk 52 s n p a)&&(serB (shp k) a [.exp,.blk]||serB (shp k) a [.exp,.blk,.blk]))=true:=h1
   rw[Bool.and_eq_true,Bool.or_eq_true] at h2
   rcases h2.2 with h3|h3
   · obtain⟨y,z,rfl,h4,h5⟩:=ser2 h3
     have e:tok (k+1) .stm (.mk 52 s n p [y,z])=[wT [105,102]]++(grpT (tok k) y++tok k .blk z):=by
      show wT [105,102]::(grpT (tok k) y++(tok k .blk z++[]))=_
      rw[List.append_nil];rfl
     rw[e] at hz ⊢
     exact w_stm52a (a:=[y,z]) H (by simp) h4 (by simp) h5 (by simp) hw hn2 hz
   · obtain⟨y,z,u,rfl,h4,h5,h6⟩:=ser3 h3
     exact w_stm52b (a:=[y,z,u]) H (by simp) h4 (by simp) h5 (by simp) h6 hw hn2 hz
 by_cases c:K=53
 · subst c
   have h2:(bareB (.mk 53 s n p a)&&decide (1<a.length)&&begB (shp k) .exp .sarm a)=true:=h1
   rw[Bool.and_eq_true,Bool.and_eq_true] at h2
   obtain⟨hi,h3,h4⟩:=beg1 h2.2
   cases k with
   | zero=>cases h3
   | succ j =>
    have e:tok (j+1+1) .stm (.mk 53 s n p a)=[wT [109,97,116,99,104]]++(grpT (tok (j+1)) (a[0]'hi)++([wT [123]]++((a.drop 1).flatMap (armW j)++[wT [125]]))):=by
     cases a with
     | nil=>simp at hi
     | cons x a=>rfl
    rw[e] at hz ⊢
    refine w_stm53 H s n p a A cap w hw hn2 hi h3 (H2 j rfl) (fun z hz=>?_) hz
    have h5:=List.all_eq_true.1 h4 z hz
    have h7:(ndK z==54&&casB (shp j) z .blk)=true:=h5
    rw[Bool.and_eq_true] at h7
    exact cas_w (H2 j rfl) h7.2
 by_cases c:K=55
 · subst c
   have h2:(namB .low (.mk 55 s n p a)&&serB (shp k) a [.exp,.blk])=true:=h1
   rw[Bool.and_eq_true] at h2
   obtain⟨y,z,rfl,h3,h4⟩:=ser2 h2.2
   exact w_stm55 (a:=[y,z]) H (nam_sz h2.1) (by simp) h3 (by simp) h4 hw hn2 hz
 by_cases c:K=56
 · subst c
   have h2:(namB .upp (.mk 56 s n p a)&&begB (shp k) .exp .exp a)=true:=h1
   rw[Bool.and_eq_true] at h2
   exact w_stm56 (snd_said H) ⟨nam_sz h2.1,h2.2⟩ hw hn2 hz
 by_cases c:K=57
 · subst c
   have h2:(bareB (.mk 57 s n p a)&&serB (shp k) a [.exp,.snd])=true:=h1
   rw[Bool.and_eq_true] at h2
   obtain⟨y,z,rfl,h3,h4⟩:=ser2 h2.2
   exact w_stm57 (a:=[y,z]) H (by simp) h3 (by simp) h4 hw hn2 hz
 by_cases c:K=58
 · subst c
   exact w_stm58 (spw_said H) ⟨hq,rfl⟩ hw hn2 hz
 by_cases c:K=59
 · subst c
   have h2:(namB .low (.mk 59 s n p a)&&endB (shp k) a .exp [.leaf 75 .upp])=true:=h1
   rw[Bool.and_eq_true] at h2
   obtain⟨h3,h4,h5⟩:=end1 h2.2
   have e:tok (k+1) .stm (.mk 59 s n p a)=[wT [100,111],wdT s]++((wdT (str [40])::(joinT ((a.take (a.length-1)).map (tok k .exp))++[wdT (str [41])]))++([wT [116,104,101,110],wdT (ndS (a[a.length-1]'h3))])):=by
    show wT [100,111]::wdT s::(lstT [40] [41] ((a.take (a.length-1)).map (tok k .exp))++[wT [116,104,101,110],wdT (ndS (lastN (.mk 59 s n p a)))])=_
    unfold lastN
    rw[show ndL (.mk 59 s n p a)=a from rfl,kid_get h3]
    rfl
   rw[e] at hz ⊢
   exact w_stm59 H (nam_sz h2.1) h3 (leaf_sz H h5) h4 hw hn2 hz
 by_cases c:K=60
 · subst c;exact w_stm60 hw hn2 hz
 by_cases c:K=61
 · subst c
   have h2:(bareB (.mk 61 s n p a)&&serB (shp k) a [.exp])=true:=h1
   rw[Bool.and_eq_true] at h2
   obtain⟨y,rfl,h3⟩:=ser1 h2.2
   exact w_stm61 (a:=[y]) H (by simp) h3 hw hn2 hz
 · exfalso
   unfold stmB at h1
   simp[ndK, *] at h1
theorem nw_step (H2:∀j,k=j+1→AllW j):AllW (k+1):=fun s hs=>by
 cases s with
 | typ=>exact n_typ H
 | fld=>exact n_fld H
 | ctor=>exact n_ctor H
 | set=>exact n_set H
 | exp=>exact n_exp H
 | arm=>exact n_arm H
 | blk=>exact n_blk H
 | snd=>exact n_snd H
 | stm=>exact n_stm H H2
 | mem=>cases hs
 | sarm=>cases hs
 | ans=>cases hs
 | dcl=>cases hs
 | chg=>cases hs
 | leaf=>cases hs
end
theorem allW2:∀k,AllW k∧∀j,k=j+1→AllW j
 | 0=>⟨fun s hs wb mb ts cs t w hw hn hq hz=>(by
  cases hq),fun j e=>(by cases e)⟩
 | k+1=>⟨nw_step (allW2 k).1 (allW2 k).2,fun j e=>(by cases e;exact (allW2 k).1)⟩
theorem allW (k:Nat):AllW k:=(allW2 k).1
theorem last_cons {x:Nd} {r:List Nd} (h:r.length-1<r.length):(x::r)[(x::r).length-1]'(by simp)=r[r.length-1]'h:=by
 have:(x::r).length-1=(r.length-1)+1:=by simp;omega
 simp only[this,List.getElem_cons_succ]
theorem mid_cons {x:Nd} {r:List Nd}:((x::r).take ((x::r).length-1)).drop 1=r.take (r.length-1):=by
 rw[List.drop_take];simp
theorem act_said {k:Nat}:NoSaid 73 (fun t=>shp (k+2) .dcl t=true∧ndK t=6) (actT (tok (k+1))):=fun wb mb ts cs t w hw hn hx hz=>by
 have H:=allW (k+1)
 have hn2:=hn
 obtain⟨K,s,n,p,a,A,cap,rfl,rfl,_⟩:=nd_form hn
 obtain⟨hq,hk⟩:=hx
 have hs:=hq
 obtain rfl:K=6:=hk
 have h1:(uppB s.data.toList&&decide (-1≤n)&&decide (n≤9007199254740993)&&(a.take (leadB a)).all (shp (k+1) .fld)&&(a.drop (leadB a)).all (shp (k+1) .mem))=true:=hs
 simp only[Bool.and_eq_true,decide_eq_true_eq] at h1
 obtain⟨⟨⟨⟨hu,hlo⟩,hhi⟩,hf⟩,hm⟩:=h1
 have h0:0<s.size:=up_sz (l:=[]) (p:=uppB) hu rfl
 have hm2:∀z∈a.drop (leadB a),MemW k z:=fun z hz=>by
  have h2:=List.all_eq_true.1 hm z hz
  obtain⟨zk,zs,zn,zp,za⟩:=z
  have h4:(if zk=9 then namB .low (.mk zk zs zn zp za)&&serB (shp k) za [.typ,.exp] else zk==10&&namB .upp (.mk zk zs zn zp za)&&endB (shp k) za .fld [.blk])=true:=h2
  by_cases c:zk=9
  · rw[if_pos c,Bool.and_eq_true] at h4
    obtain⟨y,u,rfl,h5,h6⟩:=ser2 h4.2
    exact⟨nam_sz h4.1,.inl ⟨c,y,u,rfl,h5,h6⟩⟩
  · rw[if_neg c,Bool.and_eq_true,Bool.and_eq_true] at h4
    obtain⟨h5,h6,h7⟩:=end1 h4.2
    refine⟨nam_sz h4.1.2,.inr ⟨c,by show 0<za.length;omega,h6,?_⟩⟩
    unfold lastN
    rw[show ndL (.mk zk zs zn zp za)=za from rfl,kid_get h5]
    exact h7
 have hf2:=hf
 by_cases c1:n<0
 · have e:actT (tok (k+1)) (.mk 6 s n p a)=[wT [97,99,116,111,114],wdT s]++((wdT (str [40])::(joinT ((a.take (leadB a)).map (tok (k+1) .fld))++[wdT (str [41])]))++([wT [101,115,99,97,108,97,116,101]]++([wT [123]]++(((a.drop (leadB a)).flatMap (memT (tok k)))++[wT [125]])))):=by
    unfold actT
    rw[if_pos (show ndN (Nd.mk 6 s n p a)<0 from c1)]
    rfl
   rw[e] at hz ⊢
   exact w_actN H h0 hf2 (η (allW k)) (η hm2) (decide_eq_true c1) hw hn2 hz
 by_cases c2:0<n
 · have e:actT (tok (k+1)) (.mk 6 s n p a)=[wT [97,99,116,111,114],wdT s]++((wdT (str [40])::(joinT ((a.take (leadB a)).map (tok (k+1) .fld))++[wdT (str [41])]))++([wT [114,101,115,116,97,114,116]]++([inT (n-1)]++([wT [123]]++(((a.drop (leadB a)).flatMap (memT (tok k)))++[wT [125]]))))):=by
    unfold actT
    rw[if_neg (show ¬ndN (Nd.mk 6 s n p a)<0 from c1),if_pos (show 0<ndN (Nd.mk 6 s n p a) from c2)]
    rfl
   rw[e] at hz ⊢
   exact w_actP H h0 hf2 (η (allW k)) (η hm2) (decide_eq_false c1) (decide_eq_true c2) hhi hw hn2 hz
 · obtain rfl:n=0:=by omega
   have e:actT (tok (k+1)) (.mk 6 s 0 p a)=[wT [97,99,116,111,114],wdT s]++((wdT (str [40])::(joinT ((a.take (leadB a)).map (tok (k+1) .fld))++[wdT (str [41])]))++([wT [123]]++(((a.drop (leadB a)).flatMap (memT (tok k)))++[wT [125]]))):=rfl
   rw[e] at hz ⊢
   exact w_act0 H h0 hf2 (η (allW k)) (η hm2) hw hn2 hz
theorem cnv_said {k:Nat}:NoSaid 75 (fun t=>shp (k+2) .chg t=true∧(ndK t=70∨ndK t=71∨ndK t=72)) (cnvT (tok (k+1))):=fun wb mb ts cs t w hw hn hx hz=>by
 have H:=allW (k+1)
 have hn2:=hn
 obtain⟨K,s,n,p,a,A,cap,rfl,rfl,_⟩:=nd_form hn
 obtain⟨hq,hk⟩:=hx
 have hs:=hq
 rcases hk with h|h|h<;>obtain rfl:K=_:=h
 · have h1:(if uppB s.data.toList=false∨(n≠0∧n≠1) then false else if n=1 then hdB (shp (k+1)) .upp a&&endB (shp (k+1)) a.tail .fld [.exp] else endB (shp (k+1)) a .fld [.exp])=true:=hs
   by_cases hc:uppB s.data.toList=false∨(n≠0∧n≠1)
   · rw[if_pos hc] at h1;cases h1
   rw[if_neg hc] at h1
   rw[not_or] at hc
   have h0:0<s.size:=up_sz (l:=[]) (p:=uppB) (by cases hu:uppB s.data.toList with|true=>rfl|false=>exact absurd hu hc.1) rfl
   by_cases c:n=1
   · subst c
     rw[if_pos rfl,Bool.and_eq_true] at h1
     cases a with
     | nil=>cases h1.1
     | cons x r =>
      have h2:shp (k+1) (.leaf 24 .upp) x=true:=h1.1
      have hx0:0<(ndS x).size:=leaf_sz H h2
      obtain⟨h3,h4,h5⟩:=end1 h1.2
      have h3':r.length-1<r.length:=h3
      have him:(x::r).length-1<(x::r).length:=by simp
      have e:cnvT (tok (k+1)) (.mk 70 s 1 p (x::r))=[wT [99,111,110,118,101,114,116]]++([wT [116,121,112,101],wdT s]++([wT [46],wdT (ndS x)]++((wdT (str [40])::(joinT ((((x::r).take ((x::r).length-1)).drop 1).map (tok (k+1) .fld))++[wdT (str [41])]))++([wT [61]]++(tok (k+1) .exp ((x::r)[(x::r).length-1]'him)))))):=by
       show wT [99,111,110,118,101,114,116]::(wT [116,121,112,101]::wdT s::([wT [46],wdT (ndS x)]++(lstT [40] [41] ((((x::r).take ((x::r).length-1)).drop 1).map (tok (k+1) .fld))++wT [61]::tok (k+1) .exp (lastN (.mk 70 s 1 p (x::r))))))=_
       unfold lastN
       rw[show ndL (.mk 70 s 1 p (x::r))=x::r from rfl,kid_get him]
       rfl
      rw[e] at hz ⊢
      exact w_cnv70b (a:=(x::r)) H h0 (by simp) hx0 him (by rw[last_cons h3'];exact h5) (by simp;omega) (by rw[mid_cons];exact h4) hw hn2 hz
   · obtain rfl:n=0:=by
      by_cases c0:n=0
      · exact c0
      · exact absurd ⟨c0,c⟩ hc.2
     rw[if_neg c] at h1
     obtain⟨h3,h4,h5⟩:=end1 h1
     have e:cnvT (tok (k+1)) (.mk 70 s 0 p a)=[wT [99,111,110,118,101,114,116]]++([wT [116,121,112,101],wdT s]++((wdT (str [40])::(joinT (((a.take (a.length-1)).drop 0).map (tok (k+1) .fld))++[wdT (str [41])]))++([wT [61]]++(tok (k+1) .exp (a[a.length-1]'h3))))):=by
      show wT [99,111,110,118,101,114,116]::(wT [116,121,112,101]::wdT s::([]++(lstT [40] [41] (((a.take (a.length-1)).drop 0).map (tok (k+1) .fld))++wT [61]::tok (k+1) .exp (lastN (.mk 70 s 0 p a)))))=_
      unfold lastN
      rw[show ndL (.mk 70 s 0 p a)=a from rfl,kid_get h3]
      rfl
     rw[e] at hz ⊢
     exact w_cnv70a H h0 h3 h5 (Nat.zero_le _) h4 hw hn2 hz
 · have h1:(namB .upp (.mk 71 s n p a)&&(a.take (leadB a)).all (shp (k+1) .fld)&&(a.drop (leadB a)).all (shp (k+1) .set))=true:=hs
   rw[Bool.and_eq_true,Bool.and_eq_true] at h1
   exact w_cnv71 H (nam_sz h1.1.1) h1.1.2 h1.2 hw hn2 hz
 · have h1:(namB .upp (.mk 72 s n p a)&&hdB (shp (k+1)) .msg a&&endB (shp (k+1)) a.tail .fld [.ans])=true:=hs
   rw[Bool.and_eq_true,Bool.and_eq_true] at h1
   cases a with
   | nil=>cases h1.1.2
   | cons x r =>
    have h2:shp (k+1) (.leaf 24 .msg) x=true:=h1.1.2
    have hx0:0<(ndS x).size:=leaf_sz H h2
    obtain⟨h3,h4,h5⟩:=end1 h1.2
    have h3':r.length-1<r.length:=h3
    have him:(x::r).length-1<(x::r).length:=by simp
    have h6:shp (k+1) .ans ((x::r)[(x::r).length-1]'him)=true:=by rw[last_cons h3'];exact h5
    have h7:=h6
    have e:cnvT (tok (k+1)) (.mk 72 s n p (x::r))=[wT [99,111,110,118,101,114,116]]++([wT [109,101,115,115,97,103,101],wdT s,wT [46],wdT (ndS x)]++((wdT (str [40])::(joinT ((((x::r).take ((x::r).length-1)).drop 1).map (tok (k+1) .fld))++[wdT (str [41])]))++([wT [61],wdT (ndS ((x::r)[(x::r).length-1]'him))]++(wdT (str [40])::(joinT ((ndL ((x::r)[(x::r).length-1]'him)).map (tok k .exp))++[wdT (str [41])]))))):=by
     show wT [99,111,110,118,101,114,116]::(wT [109,101,115,115,97,103,101]::wdT s::wT [46]::wdT (ndS x)::(lstT [40] [41] ((((x::r).take ((x::r).length-1)).drop 1).map (tok (k+1) .fld))++wT [61]::tok (k+1) .ans (lastN (.mk 72 s n p (x::r)))))=_
     unfold lastN
     rw[show ndL (.mk 72 s n p (x::r))=x::r from rfl,kid_get him]
     rfl
    have h9:0<(ndS ((x::r)[(x::r).length-1]'him)).size∧(ndL ((x::r)[(x::r).length-1]'him)).all (shp k .exp)=true:=by
     generalize (x::r)[(x::r).length-1]'him=z at h7 ⊢
     obtain⟨zk,zs,zn,zp,za⟩:=z
     have h10:(zk==75&&namB .msg (.mk zk zs zn zp za)&&za.all (shp k .exp))=true:=h7
     rw[Bool.and_eq_true,Bool.and_eq_true] at h10
     exact⟨nam_sz h10.1.2,h10.2⟩
    rw[e] at hz ⊢
    exact w_cnv72 H s n p (x::r) A cap w hw hn2 (allW k) (nam_sz h1.1.1) (by simp) hx0 him h9.1 h9.2 (by simp;omega) (by rw[mid_cons];exact h4) hz
theorem n_dcl {j k:Nat} (hjk:k=j+1) (wb mb:Nat) (ts:List Tk) (cs:List Value) (t:Nd) (w:À) (hw:Wr wb mb ts w) (hn:NdR w (im (wOwn wb w) w) cs t) (hq:shp (k+1) .dcl t=true) (hz:ts.length+(tok (k+1) .dcl t).length≤wTop):Calls prog 33 #[.pointer (some ⟨wb,0,none⟩),.agg cs.toArray] w (WrSaid wb mb (ts++tok (k+1) .dcl t) w):=by
 have H:=allW k
 have hn2:=hn
 obtain⟨K,s,n,p,a,A,cap,rfl,rfl,_⟩:=nd_form hn
 have hs:=hq
 have h1:dclB (shp k) (.mk K s n p a)=true:=hs
 by_cases c:K=2
 · subst c
   have h2:(namB .upp (.mk 2 s n p a)&&a.all (shp k .fld))=true:=h1
   rw[Bool.and_eq_true] at h2
   exact w_dcl2 H (nam_sz h2.1) h2.2 hw hn2 hz
 by_cases c:K=3
 · subst c
   have h2:(namB .upp (.mk 3 s n p a)&&decide (0<a.length)&&a.all (shp k .ctor))=true:=h1
   rw[Bool.and_eq_true,Bool.and_eq_true] at h2
   exact w_dcl3 H (nam_sz h2.1.1) h2.2 hw hn2 hz
 by_cases c:K=4
 · subst c
   have h2:(namB .low (.mk 4 s n p a)&&endB (shp k) a .fld [.typ])=true:=h1
   rw[Bool.and_eq_true] at h2
   obtain⟨h3,h4,h5⟩:=end1 h2.2
   have e:tok (k+1) .dcl (.mk 4 s n p a)=[wT [101,102,102,101,99,116],wdT s]++((wdT (str [40])::(joinT ((a.take (a.length-1)).map (tok k .fld))++[wdT (str [41])]))++([wT [58]]++(tok k .typ (a[a.length-1]'h3)))):=by
    show wT [101,102,102,101,99,116]::wdT s::(lstT [40] [41] ((a.take (a.length-1)).map (tok k .fld))++wT [58]::tok k .typ (lastN (.mk 4 s n p a)))=_
    unfold lastN
    rw[show ndL (.mk 4 s n p a)=a from rfl,kid_get h3]
    rfl
   rw[e] at hz ⊢
   exact w_dcl4 H (nam_sz h2.1) h3 h5 h4 hw hn2 hz
 by_cases c:K=5
 · subst c
   have h2:(namB .low (.mk 5 s n p a)&&endB (shp k) a .fld [.typ,.exp])=true:=h1
   rw[Bool.and_eq_true] at h2
   exact w_dcl5 H (nam_sz h2.1) h2.2 hw hn2 hz
 by_cases c:K=6
 · subst c hjk;exact w_dcl6 act_said ⟨hq,rfl⟩ hw hn2 hz
 · exfalso
   unfold dclB at h1
   simp[ndK, *] at h1
theorem n_chg {j k:Nat} (hjk:k=j+1) (wb mb:Nat) (ts:List Tk) (cs:List Value) (t:Nd) (w:À) (hw:Wr wb mb ts w) (hn:NdR w (im (wOwn wb w) w) cs t) (hq:shp (k+1) .chg t=true) (hz:ts.length+(tok (k+1) .dcl t).length≤wTop):Calls prog 33 #[.pointer (some ⟨wb,0,none⟩),.agg cs.toArray] w (WrSaid wb mb (ts++tok (k+1) .dcl t) w):=by
 have H:=allW k
 have hn2:=hn
 obtain⟨K,s,n,p,a,A,cap,rfl,rfl,_⟩:=nd_form hn
 have hs:=hq
 have h1:cngB (shp k) (.mk K s n p a)=true:=hs
 subst hjk
 by_cases c:K=70
 · subst c;exact w_dcl70 cnv_said ⟨hq,.inl rfl⟩ hw hn2 hz
 by_cases c:K=71
 · subst c;exact w_dcl71 cnv_said ⟨hq,.inr (.inl rfl)⟩ hw hn2 hz
 by_cases c:K=72
 · subst c;exact w_dcl72 cnv_said ⟨hq,.inr (.inr rfl)⟩ hw hn2 hz
 by_cases c:K=73
 · subst c
   have h2:(uppB s.data.toList&&decide (0≤n)&&decide (n≤9007199254740992)&&a.length==0)=true:=h1
   rw[Bool.and_eq_true,Bool.and_eq_true,Bool.and_eq_true] at h2
   exact w_dcl73 (up_sz (l:=[]) (p:=uppB) h2.1.1.1 rfl) hw hn2 hz
 by_cases c:K=74
 · subst c
   have h2:(namB .upp (.mk 74 s n p a)&&a.length==0)=true:=h1
   rw[Bool.and_eq_true] at h2
   exact w_dcl74 (nam_sz h2.1) hw hn2 hz
 · exfalso
   unfold cngB at h1
   simp[ndK, *] at h1
end
end Go.Proofs.YtbjdcogmiggamaaGreatDoor
