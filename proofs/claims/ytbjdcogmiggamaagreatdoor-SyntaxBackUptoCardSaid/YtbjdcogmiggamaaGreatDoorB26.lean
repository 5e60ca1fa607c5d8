import Derived.Test.YtbjdcogmiggamaaGreatDoorB25
set_option linter.all false
namespace Go.Proofs.YtbjdcogmiggamaaGreatDoor
open Proofs.Tryz RowKit Maps WideMaps ChangeMaps
set_option maxRecDepth 100000
set_option maxHeartbeats 8000000
section
theorem leaf_zp {k:Nat} {q:Int} {p:Wp} {n:Nd} (hz:zpN n) (h:shp k (.leaf q p) n=true):n=.mk q (ndS n) 0 0 []∧p.b (ndS n).data.toList=true:=by
 obtain⟨a,b,c,d⟩:=leaf_of h
 obtain⟨hn,_⟩:=zp_form hz
 exact⟨by conv=>lhs;rw[hn,a,c,d],b⟩
theorem set_all {k:Nat} {l:List Nd} (hz:∀z∈l,zpN z) (ha:∀z∈l,shp k .set z=true) (r:List Tk):Ev fun N=>(expect [123] >>= fun _=>listP [125] (setP 0 (exprP 0 N false)) N:M (List Nd)) (lstT [123] [125] (l.map (tok k .set))++r)=.ok l r:=
 ev_lst (m:=fun N=>setP 0 (exprP 0 N false)) (T:=tok k .set) (a:=[123]) (b:=[125]) π l (fun z hm r hr=>(exp_all k).2.1 z (hz z hm) (ha z hm) r (flw_of (w:=[]) hr π)) (fun z hm r=>set_head k z (ha z hm) r) r
theorem lst_bd {a b:List UInt8} {m:M Nd} {N:Nat} {g:List Nd→M Nd} {ts r:List Tk} {l:List Nd} (h:(expect a >>= fun _=>listP b m N:M (List Nd)) ts=.ok l r):(expect a >>= fun _=>listP b m N >>= g:M Nd) ts=g l r:=by
 have e:(expect a >>= fun _=>listP b m N >>= g:M Nd) ts=(((expect a >>= fun _=>listP b m N:M (List Nd)) ts).bd g):=by
  show Re.bd (expect a ts) _=Re.bd (Re.bd (expect a ts) _) _
  cases expect a ts<;>rfl
 rw[e,h];rfl
section
variable {k:Nat} {n:Nd} (hz:zpN n)
include hz
theorem dcl_back (h:shp (k+1) .dcl n=true) {r:List Tk} (hr:Flw 1 r):Ev fun N=>oneP 0 true N (tok (k+1) .dcl n++r)=.ok n r:=by
 have h:dclB (shp k) n=true:=h
 obtain⟨hn,hzl⟩:=zp_form hz
 have one:∀(w:List UInt8) (ts:List Tk),(w==[99,111,110,118,101,114,116]||w==[109,111,118,101]||w==[100,114,111,112])=false→wl ts=w→∀N,oneP 0 true N ts=declP 0 N ts:=fun w ts hw he N=>by
  rw[one_eq,if_neg]
  rw[he]
  simp only[Bool.true_and]
  show ¬((w==[99,111,110,118,101,114,116]||w==[109,111,118,101]||w==[100,114,111,112])=true)
  rw[hw];simp
 show Ev fun N=>oneP 0 true N (dclT (tok k) n++r)=.ok n r
 unfold dclB at h
 by_cases hk:ndK n=2
 · rw[if_pos hk,Bool.and_eq_true,List.all_eq_true] at h
   obtain⟨hs,hN⟩:=nam_of h.1
   have hs:uppB (ndS n).data.toList=true:=hs
   have hp:dclT (tok k) n++r=wT [114,101,99,111,114,100]::wdT (ndS n)::(lstT [123] [125] ((ndL n).map (tok k .fld))++r):=by simp[dclT,hk]
   refine (ev_lst (m:=fun N=>fieldP 0 N) (T:=tok k .fld) (a:=[123]) (b:=[125]) π (ndL n) (fun z hm r _=>fld_back k z (zpL_mem hzl hm) (h.2 z hm) r) (fun z hm r=>fld_head2 k z (h.2 z hm) r) r).mono fun N hq=>?_
   rw[hp,one [114,101,99,111,114,100] _ π (wl_w _ _)]
   unfold declP
   rw[look_ap,acc_w,bd_ok (nam_d hs),lst_bd hq]
   show Re.ok (Nd.mk 2 (ndS n) 0 0 (ndL n)) r=_
   rw[←hk]
   conv=>rhs;rw[hn,hN]
 rw[if_neg hk] at h
 by_cases hk3:ndK n=3
 · rw[if_pos hk3,Bool.and_eq_true,Bool.and_eq_true,List.all_eq_true,decide_eq_true_eq] at h
   obtain⟨hs,hN⟩:=nam_of h.1.1
   have hs:uppB (ndS n).data.toList=true:=hs
   obtain⟨y,l,hl⟩:∃y l,ndL n=y::l:=by
    cases hL:ndL n with
    | nil=>have:=h.1.2;rw[hL] at this;cases this
    | cons y l=>exact⟨y,l,rfl⟩
   have ha:=h.2
   rw[hl] at ha hzl
   have hp:dclT (tok k) n++r=wT [118,97,114,105,97,110,116]::wdT (ndS n)::wT [123]::(joinT ((y::l).map (tok k .ctor))++wT [125]::r):=by simp[dclT,hk3,lstT,hl]
   refine (ev_items (m:=fun N=>ctorP 0 N) (T:=tok k .ctor) (b:=[125]) π y l (fun z hm r hr=>ctor_back (zpL_mem hzl hm) (ha z hm) (by rcases hr with e|e<;>rw[e]<;>decide)) r).mono fun N hq=>?_
   rw[hp,one [118,97,114,105,97,110,116] _ π (wl_w _ _)]
   unfold declP
   rw[look_ap,acc_nw π,acc_w,bd_ok (nam_d hs),bd_ok exp_w,bd_ok hq]
   show Re.ok (Nd.mk 3 (ndS n) 0 0 (y::l)) r=_
   rw[←hk3,←hl]
   conv=>rhs;rw[hn,hN]
 rw[if_neg hk3] at h
 by_cases hk4:ndK n=4
 · rw[if_pos hk4,Bool.and_eq_true] at h
   obtain⟨hs,hN⟩:=nam_of h.1
   have hs:lowB (ndS n).data.toList=true:=hs
   obtain⟨i,x,hl,ha,hx⟩:=kend1 h.2
   rw[hl] at hzl
   have hp:dclT (tok k) n++r=wT [101,102,102,101,99,116]::wdT (ndS n)::(lstT [40] [41] (i.map (tok k .fld))++wT [58]::(tok k .typ x++r)):=by simp[dclT,hk4,initN,lastN,kid,hl]
   refine ((ev_flds (k:=k) (l:=i) (fun z hm=>zpL_mem hzl (by simp[hm])) ha (wT [58]::(tok k .typ x++r))).and (typ_back k x (zpL_mem hzl (by simp)) hx r)).mono fun N hq=>?_
   rw[hp,one [101,102,102,101,99,116] _ π (wl_w _ _)]
   unfold declP
   rw[look_ap,acc_nw π,acc_nw π,acc_w,bd_ok (nam_d hs),bd_ok hq.1,bd_ok exp_w,bd_ok hq.2]
   show Re.ok (Nd.mk 4 (ndS n) 0 0 (i++[x])) r=_
   rw[←hk4,←hl]
   conv=>rhs;rw[hn,hN]
 rw[if_neg hk4] at h
 by_cases hk5:ndK n=5
 · rw[if_pos hk5,Bool.and_eq_true] at h
   obtain⟨hs,hN⟩:=nam_of h.1
   have hs:lowB (ndS n).data.toList=true:=hs
   obtain⟨i,x,y,hl,ha,hx,hy⟩:=kend2 h.2
   have hp:dclT (tok k) n++r=wT [102,117,110]::wdT (ndS n)::(funT (tok k) n++r):=by simp[dclT,hk5]
   refine (fun_back (exp_all k).1 hl (fun z hm=>zpL_mem hzl (by rw[hl];simp[hm])) (zpL_mem hzl (by rw[hl];simp)) (zpL_mem hzl (by rw[hl];simp)) ha hx hy hr).mono fun N hq=>?_
   rw[hp,one [102,117,110] _ π (wl_w _ _)]
   unfold declP
   rw[look_ap,acc_nw π,acc_nw π,acc_nw π,acc_w,bd_ok (nam_d hs),bd_ok hq]
   show Re.ok (Nd.mk 5 (ndS n) 0 0 (i++[x,y])) r=_
   rw[←hk5,←hl]
   conv=>rhs;rw[hn,hN]
 rw[if_neg hk5] at h
 by_cases hk6:ndK n=6
 · rw[if_pos hk6] at h
   simp only[Bool.and_eq_true,decide_eq_true_eq,List.all_eq_true] at h
   obtain⟨⟨⟨⟨hs,hN1⟩,hN2⟩,hf⟩,hm⟩:=h
   have hs:uppB (ndS n).data.toList=true:=hs
   obtain⟨F,hF⟩:∃q,q=(ndL n).take (leadB (ndL n)):=⟨_,rfl⟩
   obtain⟨D,hD⟩:∃q,q=(ndL n).drop (leadB (ndL n)):=⟨_,rfl⟩
   have hFD:F++D=ndL n:=by rw[hF,hD,List.take_append_drop]
   rw[←hF] at hf
   rw[←hD] at hm
   have zF:∀z∈F,zpN z:=fun z h=>zpL_mem hzl (by rw[←hFD];simp[h])
   have zD:∀z∈D,zpN z:=fun z h=>zpL_mem hzl (by rw[←hFD];simp[h])
   obtain⟨P,hP⟩:∃q,q=(if ndN n<0 then [wT [101,115,99,97,108,97,116,101]] else if 0<ndN n then [wT [114,101,115,116,97,114,116],inT (ndN n-1)] else []):=⟨_,rfl⟩
   have hp:dclT (tok k) n++r=wT [97,99,116,111,114]::wdT (ndS n)::(lstT [40] [41] (F.map (tok k .fld))++(P++wT [123]::(D.flatMap (tok k .mem)++wT [125]::r))):=by
    rw[show dclT (tok k) n=actT (tok k) n from by simp[dclT,hk6]]
    unfold actT
    rw[←hF,←hD,←hP];simp
   have pol:policyP (P++wT [123]::(D.flatMap (tok k .mem)++wT [125]::r))=.ok (ndN n) (wT [123]::(D.flatMap (tok k .mem)++wT [125]::r)):=by
    unfold policyP
    by_cases c1:ndN n<0
    · rw[hP,if_pos c1,List.singleton_append,acc_w]
      show Re.ok (-1) _=_
      rw[show ndN n=-1 from by omega]
    · by_cases c2:0<ndN n
      · rw[hP,if_neg c1,if_pos c2,List.cons_append,acc_nw π,acc_w]
        show Re.ok (ndN n-1+1) _=_
        rw[show ndN n-1+1=ndN n from by omega];rfl
      · rw[hP,if_neg c1,if_neg c2,List.nil_append,acc_nw π,acc_nw π]
        show Re.ok 0 _=_
        rw[show ndN n=0 from by omega]
   obtain⟨a,hu⟩:=ev_untilF (m:=fun N=>memberP 0 N) (T:=tok k .mem) (b:=[125]) (F:=Flw 1) D (fun z hm' r hr=>mem_back (zD z hm') (hm z hm') hr) (fun z hm' r=>mem_head k z (hm z hm') r) (fun r=>Flw.mrk π _ _) r
   have e2:Ev fun N=>untilP [125] (memberP 0 N) N (D.flatMap (tok k .mem)++wT [125]::r)=.ok D r:=⟨a+D.length+1,fun N hN=>hu N ω N ω⟩
   refine ((ev_flds (k:=k) (l:=F) zF hf (P++wT [123]::(D.flatMap (tok k .mem)++wT [125]::r))).and e2).mono fun N hq=>?_
   rw[hp,one [97,99,116,111,114] _ π (wl_w _ _)]
   unfold declP
   rw[look_ap,acc_nw π,acc_nw π,acc_nw π,acc_nw π,acc_w,bd_ok (nam_d hs),bd_ok hq.1,bd_ok pol,bd_ok exp_w,bd_ok hq.2]
   show Re.ok (Nd.mk 6 (ndS n) (ndN n) 0 (F++D)) r=_
   rw[hFD,←hk6]
   conv=>rhs;rw[hn]
 · rw[if_neg hk6] at h;cases h
end
end
section
theorem leaf_k {k:Nat} {q:Int} {p:Wp} {n:Nd} (hz:zpN n) (h:shp k (.leaf q p) n=true):n=.mk q (ndS n) 0 0 []∧p.b (ndS n).data.toList=true:=by
 cases k with
 | zero=>cases h
 | succ k=>exact leaf_zp hz h
theorem ans_back {k:Nat} {n:Nd} (hz:zpN n) (h:shp k .ans n=true) (r:List Tk):Ev fun N=>(look fun t2=>do
 let v ←name msgB
 let q ←argsP (exprP 0 N false) N
 pure (.mk 75 v 0 (offP 0 t2) q):M Nd) (tok k .ans n++r)=.ok n r:=by
 cases k with
 | zero=>cases h
 | succ k =>
  have h:(ndK n==75&&namB .msg n&&(ndL n).all (shp k .exp))=true:=h
  rw[Bool.and_eq_true,Bool.and_eq_true,beq_iff_eq,List.all_eq_true] at h
  obtain⟨hs,hN⟩:=nam_of h.1.2
  have hs:msgB (ndS n).data.toList=true:=hs
  obtain⟨hn,hzl⟩:=zp_form hz
  refine (ev_args (k:=k) (l:=ndL n) (fun z hm=>zpL_mem hzl hm) h.2 r).mono fun N hq=>?_
  have hp:tok (k+1) .ans n++r=wdT (ndS n)::(lstT [40] [41] ((ndL n).map (tok k .exp))++r):=rfl
  rw[hp,look_ap,bd_ok (nam_d hs),bd_ok hq]
  show Re.ok (Nd.mk 75 (ndS n) 0 0 (ndL n)) r=_
  rw[←h.1.1]
  conv=>rhs;rw[hn,hN]
theorem one_chg {w:List UInt8} {ts:List Tk} (hw:chgB w=true) (he:wl ts=w) (N:Nat):oneP 0 true N ts=changeP 0 N ts:=by
 rw[one_eq,if_pos]
 rw[he,hw];rfl
section
variable {k:Nat} {n:Nd} (hz:zpN n)
include hz
theorem chg_back (h:shp (k+1) .chg n=true) {r:List Tk} (hr:Flw 1 r):Ev fun N=>oneP 0 true N (tok (k+1) .chg n++r)=.ok n r:=by
 have h:cngB (shp k) n=true:=h
 obtain⟨hn,hzl⟩:=zp_form hz
 show Ev fun N=>oneP 0 true N (dclT (tok k) n++r)=.ok n r
 unfold cngB at h
 by_cases hk:ndK n=70
 · rw[if_pos hk] at h
   have hd:dclT (tok k) n=cnvT (tok k) n:=by simp[dclT,hk]
   by_cases c0:uppB (ndT n)=false∨(ndN n≠0∧ndN n≠1)
   · rw[if_pos c0] at h;cases h
   · rw[if_neg c0] at h
     have hs:uppB (ndS n).data.toList=true:=by
      cases e:uppB (ndT n) with
      | true=>exact e
      | false=>exact absurd (.inl e) c0
     by_cases c1:ndN n=1
     · rw[if_pos c1,Bool.and_eq_true] at h
       obtain⟨y,L,hL⟩:∃y L,ndL n=y::L:=by
        cases hL:ndL n with
        | nil=>have:=h.1;rw[hL] at this;cases this
        | cons y L=>exact⟨y,L,rfl⟩
       have hy:shp k (.leaf 24 .upp) y=true:=by have:=h.1;rw[hL] at this;exact this
       obtain⟨i,x,hl,ha,hx⟩:=kend1 h.2
       rw[hL,List.tail_cons] at hl
       rw[hL,hl] at hzl
       obtain⟨ey,hu⟩:=leaf_k (zpL_mem hzl (by simp)) hy
       have hu:uppB (ndS y).data.toList=true:=hu
       have hp:dclT (tok k) n++r=wT [99,111,110,118,101,114,116]::wT [116,121,112,101]::wdT (ndS n)::wT [46]::wdT (ndS y)::(lstT [40] [41] (i.map (tok k .fld))++wT [61]::(tok k .exp x++r)):=by
        rw[hd];simp[cnvT,hk,c1,initN,lastN,kid,hL,hl]
       refine ((ev_flds (k:=k) (l:=i) (fun z hm=>zpL_mem hzl (by simp[hm])) ha (wT [61]::(tok k .exp x++r))).and (exp_back k (zpL_mem hzl (by simp)) hx hr)).mono fun N hq=>?_
       rw[hp,one_chg (w:=[99,111,110,118,101,114,116]) π (wl_w _ _)]
       unfold changeP convTypeP
       rw[look_ap,acc_nw π,acc_nw π,bd_ok exp_w,acc_w,bd_ok (nam_d hs)]
       show (acc [46] _ _:M Nd) _=_
       rw[acc_w,look_ap,bd_ok (nam_d hu),bd_ok hq.1,bd_ok exp_w,bd_ok hq.2]
       show Re.ok (Nd.mk 70 (ndS n) 1 0 (Nd.mk 24 (ndS y) 0 0 []::(i++[x]))) r=_
       rw[←ey,←hk,←hl,←hL,←c1]
       conv=>rhs;rw[hn]
     · rw[if_neg c1] at h
       have c2:ndN n=0:=by
        refine Classical.byContradiction fun q=>c0 (.inr ⟨q,c1⟩)
       obtain⟨i,x,hl,ha,hx⟩:=kend1 h
       rw[hl] at hzl
       have hp:dclT (tok k) n++r=wT [99,111,110,118,101,114,116]::wT [116,121,112,101]::wdT (ndS n)::(lstT [40] [41] (i.map (tok k .fld))++wT [61]::(tok k .exp x++r)):=by
        rw[hd];simp[cnvT,hk,c2,initN,lastN,kid,hl]
       refine ((ev_flds (k:=k) (l:=i) (fun z hm=>zpL_mem hzl (by simp[hm])) ha (wT [61]::(tok k .exp x++r))).and (exp_back k (zpL_mem hzl (by simp)) hx hr)).mono fun N hq=>?_
       rw[hp,one_chg (w:=[99,111,110,118,101,114,116]) π (wl_w _ _)]
       unfold changeP convTypeP
       rw[look_ap,acc_nw π,acc_nw π,bd_ok exp_w,acc_w,bd_ok (nam_d hs)]
       show (acc [46] _ _:M Nd) _=_
       rw[acc_f (show (wl (lstT [40] [41] (i.map (tok k .fld))++wT [61]::(tok k .exp x++r))==[46])=false by rw[show lstT [40] [41] (i.map (tok k .fld))++wT [61]::(tok k .exp x++r)=wT [40]::(joinT (i.map (tok k .fld))++[wT [41]]++wT [61]::(tok k .exp x++r)) from rfl,wl_w];decide),bd_ok hq.1,bd_ok exp_w,bd_ok hq.2]
       show Re.ok (Nd.mk 70 (ndS n) 0 0 (i++[x])) r=_
       rw[←hk,←hl]
       conv=>rhs;rw[hn,c2]
 rw[if_neg hk] at h
 by_cases hk1:ndK n=71
 · rw[if_pos hk1,Bool.and_eq_true,Bool.and_eq_true] at h
   obtain⟨hs,hN⟩:=nam_of h.1.1
   have hs:uppB (ndS n).data.toList=true:=hs
   obtain⟨F,hF⟩:∃q,q=(ndL n).take (leadB (ndL n)):=⟨_,rfl⟩
   obtain⟨D,hD⟩:∃q,q=(ndL n).drop (leadB (ndL n)):=⟨_,rfl⟩
   have hFD:F++D=ndL n:=by rw[hF,hD,List.take_append_drop]
   have hf:=List.all_eq_true.1 h.1.2
   have hm:=List.all_eq_true.1 h.2
   rw[←hF] at hf
   rw[←hD] at hm
   have zF:∀z∈F,zpN z:=fun z h=>zpL_mem hzl (by rw[←hFD];simp[h])
   have zD:∀z∈D,zpN z:=fun z h=>zpL_mem hzl (by rw[←hFD];simp[h])
   have hp:dclT (tok k) n++r=wT [99,111,110,118,101,114,116]::wT [97,99,116,111,114]::wdT (ndS n)::(lstT [40] [41] (F.map (tok k .fld))++(lstT [123] [125] (D.map (tok k .set))++r)):=by
    rw[show dclT (tok k) n=cnvT (tok k) n from by simp[dclT,hk1]]
    unfold cnvT
    rw[←hF,←hD];simp[hk1]
   refine ((ev_flds (k:=k) (l:=F) zF hf (lstT [123] [125] (D.map (tok k .set))++r)).and (set_all (k:=k) zD hm r)).mono fun N hq=>?_
   rw[hp,one_chg (w:=[99,111,110,118,101,114,116]) π (wl_w _ _)]
   unfold changeP
   rw[look_ap,acc_nw π,acc_nw π,bd_ok exp_w,acc_nw π,acc_w,bd_ok (nam_d hs),bd_ok hq.1,lst_bd hq.2]
   show Re.ok (Nd.mk 71 (ndS n) 0 0 (F++D)) r=_
   rw[hFD,←hk1]
   conv=>rhs;rw[hn,hN]
 rw[if_neg hk1] at h
 by_cases hk2:ndK n=72
 · rw[if_pos hk2,Bool.and_eq_true,Bool.and_eq_true] at h
   obtain⟨hs,hN⟩:=nam_of h.1.1
   have hs:uppB (ndS n).data.toList=true:=hs
   obtain⟨y,L,hL⟩:∃y L,ndL n=y::L:=by
    cases hL:ndL n with
    | nil=>have:=h.1.2;rw[hL] at this;cases this
    | cons y L=>exact⟨y,L,rfl⟩
   have hy:shp k (.leaf 24 .msg) y=true:=by have:=h.1.2;rw[hL] at this;exact this
   obtain⟨i,x,hl,ha,hx⟩:=kend1 h.2
   rw[hL,List.tail_cons] at hl
   rw[hL,hl] at hzl
   obtain⟨ey,hu⟩:=leaf_k (zpL_mem hzl (by simp)) hy
   have hu:msgB (ndS y).data.toList=true:=hu
   have hp:dclT (tok k) n++r=wT [99,111,110,118,101,114,116]::wT [109,101,115,115,97,103,101]::wdT (ndS n)::wT [46]::wdT (ndS y)::(lstT [40] [41] (i.map (tok k .fld))++wT [61]::(tok k .ans x++r)):=by
    rw[show dclT (tok k) n=cnvT (tok k) n from by simp[dclT,hk2]]
    simp[cnvT,hk2,initN,lastN,kid,hL,hl]
   refine ((ev_flds (k:=k) (l:=i) (fun z hm=>zpL_mem hzl (by simp[hm])) ha (wT [61]::(tok k .ans x++r))).and (ans_back (zpL_mem hzl (by simp)) hx r)).mono fun N hq=>?_
   rw[hp,one_chg (w:=[99,111,110,118,101,114,116]) π (wl_w _ _)]
   unfold changeP
   rw[look_ap,acc_nw π,acc_nw π,bd_ok exp_w,acc_nw π,acc_nw π,bd_ok exp_w,bd_ok (nam_d hs),bd_ok exp_w,look_ap,bd_ok (nam_d hu),bd_ok hq.1,bd_ok exp_w]
   have q2:=hq.2
   obtain⟨TT,hTT⟩:∃q,q=tok k .ans x++r:=⟨_,rfl⟩
   rw[←hTT] at q2 ⊢
   rw[look_ap] at q2 ⊢
   cases e1:name msgB TT with
   | bad b=>rw[show ((name msgB >>= fun v=>argsP (exprP 0 N false) N >>= fun q=>pure (Nd.mk 75 v 0 (offP 0 TT) q)):M Nd) TT=Re.bd (name msgB TT) _ from rfl,e1] at q2;cases q2
   | out=>rw[show ((name msgB >>= fun v=>argsP (exprP 0 N false) N >>= fun q=>pure (Nd.mk 75 v 0 (offP 0 TT) q)):M Nd) TT=Re.bd (name msgB TT) _ from rfl,e1] at q2;cases q2
   | ok v T2 =>
    rw[bd_ok e1] at q2 ⊢
    cases e2:argsP (exprP 0 N false) N T2 with
    | bad b=>rw[show ((argsP (exprP 0 N false) N >>= fun q=>pure (Nd.mk 75 v 0 (offP 0 TT) q)):M Nd) T2=Re.bd (argsP (exprP 0 N false) N T2) _ from rfl,e2] at q2;cases q2
    | out=>rw[show ((argsP (exprP 0 N false) N >>= fun q=>pure (Nd.mk 75 v 0 (offP 0 TT) q)):M Nd) T2=Re.bd (argsP (exprP 0 N false) N T2) _ from rfl,e2] at q2;cases q2
    | ok q T3 =>
     rw[bd_ok e2] at q2 ⊢
     have q2:Re.ok (Nd.mk 75 v 0 (offP 0 TT) q) T3=Re.ok x r:=q2
     injection q2 with q3 q4
     show Re.ok (Nd.mk 72 (ndS n) 0 0 (Nd.mk 24 (ndS y) 0 0 []::(i++[Nd.mk 75 v 0 (offP 0 TT) q]))) T3=_
     rw[q3,q4,←ey,←hk2,←hl,←hL]
     conv=>rhs;rw[hn,hN]
 rw[if_neg hk2] at h
 by_cases hk3:ndK n=73
 · rw[if_pos hk3] at h
   simp only[Bool.and_eq_true,decide_eq_true_eq,beq_iff_eq] at h
   obtain⟨⟨⟨hs,hN1⟩,hN2⟩,hl⟩:=h
   have hs:uppB (ndS n).data.toList=true:=hs
   have hL:ndL n=[]:=List.eq_nil_of_length_eq_zero hl
   refine Ev.of fun N=>?_
   have hp:dclT (tok k) n++r=wT [109,111,118,101]::wdT (ndS n)::wT [116,111]::inT (ndN n)::r:=by simp[dclT,hk3]
   rw[hp,one_chg (w:=[109,111,118,101]) π (wl_w _ _)]
   unfold changeP
   rw[look_ap,acc_w,bd_ok (nam_d hs),bd_ok exp_w]
   show Re.ok (Nd.mk 73 (ndS n) (ndN n) 0 []) r=_
   rw[←hk3,←hL]
   conv=>rhs;rw[hn]
 rw[if_neg hk3] at h
 by_cases hk4:ndK n=74
 · rw[if_pos hk4,Bool.and_eq_true,beq_iff_eq] at h
   obtain⟨hs,hN⟩:=nam_of h.1
   have hs:uppB (ndS n).data.toList=true:=hs
   have hL:ndL n=[]:=List.eq_nil_of_length_eq_zero h.2
   refine Ev.of fun N=>?_
   have hp:dclT (tok k) n++r=wT [100,114,111,112]::wdT (ndS n)::r:=by simp[dclT,hk4]
   rw[hp,one_chg (w:=[100,114,111,112]) π (wl_w _ _)]
   unfold changeP
   rw[look_ap,acc_nw π,acc_w,bd_ok (nam_d hs)]
   show Re.ok (Nd.mk 74 (ndS n) 0 0 []) r=_
   rw[←hk4,←hL]
   conv=>rhs;rw[hn,hN]
 · rw[if_neg hk4] at h;cases h
end
theorem dcl_head {k:Nat} {n:Nd} (h:shp k .dcl n=true∨shp k .chg n=true) (r:List Tk):∃w t,tok k .dcl n++r=wT w::t∧Flw 1 (wT w::t):=by
 cases k with
 | zero=>rcases h with h|h<;>cases h
 | succ k =>
  show ∃w t,dclT (tok k) n++r=wT w::t∧Flw 1 (wT w::t)
  obtain⟨T,hT⟩:∃T,T=dclT (tok k) n:=⟨_,rfl⟩
  rw[←hT]
  unfold dclT actT at hT
  (repeat' split at hT)<;>(subst hT;refine⟨_,_,rfl,?_⟩;exact Flw.mrk π _ _)
theorem ev_prog {k:Nat}:∀(l:List Nd),(∀z∈l,zpN z)→(∀z∈l,(shp k .dcl z||shp k .chg z)=true)→∃N0,∀N,N0≤N→∀j,l.length<j→progP 0 true N j (l.flatMap (tok k .dcl))=.ok l []
 | [],_,_=>⟨0,fun N _ j hj=>by
  obtain⟨j,rfl⟩:∃i,j=i+1:=⟨j-1,by omega⟩
  rfl⟩
 | x::l,hz,h=>by
  have hx:=h x (List.mem_cons_self ..)
  rw[Bool.or_eq_true] at hx
  obtain⟨c,h2⟩:=ev_prog l (fun z hm=>hz z (List.mem_cons_of_mem _ hm)) (fun z hm=>h z (List.mem_cons_of_mem _ hm))
  have hnext:Flw 1 (l.flatMap (tok k .dcl)):=by
   cases l with
   | nil=>exact Flw.nil _
   | cons y l =>
    have hy:=h y (by simp)
    rw[Bool.or_eq_true] at hy
    obtain⟨w,t,e,hf⟩:=dcl_head hy (l.flatMap (tok k .dcl))
    rw[List.flatMap_cons,e];exact hf
  have e1:Ev fun N=>oneP 0 true N (tok k .dcl x++l.flatMap (tok k .dcl))=.ok x (l.flatMap (tok k .dcl)):=by
   cases k with
   | zero=>rcases hx with hx|hx<;>cases hx
   | succ k =>
    rcases hx with hx|hx
    · exact dcl_back (hz x (List.mem_cons_self ..)) hx hnext
    · exact chg_back (hz x (List.mem_cons_self ..)) hx hnext
  obtain⟨a,h1⟩:=e1
  obtain⟨w,t,e,_⟩:=dcl_head hx (l.flatMap (tok k .dcl))
  refine⟨a+c,fun N hN j hj=>?_⟩
  obtain⟨j,rfl⟩:∃i,j=i+1:=⟨j-1,by simp at hj;omega⟩
  have h3:=h1 N ω
  rw[List.flatMap_cons]
  rw[e] at h3 ⊢
  show (do let a ←oneP 0 true N;let l ←progP 0 true N j;pure (a::l):M (List Nd)) (wT w::t)=_
  rw[bd_ok h3,bd_ok (h2 N ω j (by simp at hj;omega))]
  rfl
theorem prog_back {n:Nd} (hz:zpN n) (h:rightB n=true):∃N0,∀N,N0≤N→progP 0 true N N (toksP n)=.ok (ndL n) []:=by
 unfold toksP
 rw[if_pos h]
 unfold rightB at h
 rw[Bool.and_eq_true,List.all_eq_true] at h
 obtain⟨_,hzl⟩:=zp_form hz
 obtain⟨a,ha⟩:=ev_prog (ndL n) (fun z hm=>zpL_mem hzl hm) h.2
 exact⟨a+(ndL n).length+1,fun N hN=>ha N ω N ω⟩
end
section
mutual
def wN:Nd→Nat
 | .mk _ s _ _ a=>700+1000*s.size+wL a
def wL:List Nd→Nat
 | []=>0
 | x::a=>wN x+300+wL a
end
theorem wN_mk (n:Nd):wN n=700+1000*(ndS n).size+wL (ndL n):=by cases n;rfl
theorem wL_c (x:Nd) (a:List Nd):wL (x::a)=wN x+300+wL a:=rfl
theorem wL_n:wL []=0:=rfl
theorem wL_a:∀a b:List Nd,wL (a++b)=wL a+wL b
 | [],b=>by rw[List.nil_append,wL_n,Nat.zero_add]
 | x::a,b=>by rw[List.cons_append,wL_c,wL_c,wL_a a b];omega
theorem wL_td (l:List Nd) (j:Nat):wL (l.take j)+wL (l.drop j)=wL l:=by rw[←wL_a,List.take_append_drop]
def mu:List Tk→Nat
 | []=>0
 | t::r=>t.text.size+40+mu r
theorem mu_c (t:Tk) (r:List Tk):mu (t::r)=t.text.size+40+mu r:=rfl
theorem mu_a:∀a b:List Tk,mu (a++b)=mu a+mu b
 | [],b=>by rw[List.nil_append];show _=0+mu b;omega
 | x::a,b=>by rw[List.cons_append,mu_c,mu_c,mu_a a b];omega
def gd (c:Nat) (t:Tk):Prop:=(tokB t=true∧t.pos=0)∧t.text.size+40≤c
def Gd (b:Nat) (T:List Tk):Prop:=(∀t∈T,tokB t=true∧t.pos=0)∧mu T≤b
theorem Gd.e {b:Nat}:Gd b []:=⟨fun t h=>(by cases h),Nat.zero_le _⟩
theorem Gd.n:Gd 0 []:=Gd.e
theorem Gd.c {c b:Nat} {t:Tk} {T:List Tk} (h:gd c t) (k:Gd b T):Gd (c+b) (t::T):=⟨List.forall_mem_cons.2 ⟨h.1,k.1⟩,by rw[mu_c];have:=h.2;have:=k.2;omega⟩
theorem Gd.a {b c:Nat} {A B:List Tk} (h:Gd b A) (k:Gd c B):Gd (b+c) (A++B):=⟨fun t ht=>(List.mem_append.1 ht).elim (h.1 t) (k.1 t),by rw[mu_a];have:=h.2;have:=k.2;omega⟩
theorem Gd.to {b c:Nat} {T:List Tk} (h:Gd b T) (k:b≤c):Gd c T:=⟨h.1,Nat.le_trans h.2 k⟩
theorem Gd.z {n:Nd} {b:Nat} {T:List Tk} (h:Gd b T) (k:b≤700+1000*(ndS n).size+wL (ndL n)):Gd (wN n) T:=h.to (by rw[wN_mk];exact k)
theorem gd_wd {s:Ê} (h:nameB s.data.toList=true∨markB s.data.toList=true):gd (s.size+40) (wdT s):=by
 refine⟨⟨?_,rfl⟩,Nat.le_refl _⟩
 rcases h with h|h
 · have e:letF s=true:=by
    unfold nameB at h;unfold letF
    cases hl:s.data.toList with
    | nil=>rw[hl] at h;cases h
    | cons c l=>rw[hl,Bool.and_eq_true] at h;exact h.1
   unfold wdT;rw[e];unfold tokB
   simp[h]
 · have e:letF s=false:=by
    have h1:s.data.toList∈markWords:=by unfold markB at h;simpa using h
    have h2:∀w∈markWords,(match w with|[]=>false|c::_=>letC c)=false:=by decide
    exact h2 _ h1
   unfold wdT;rw[e];unfold tokB
   simp[h]
theorem gw {w:List UInt8} (h:((nameB w||markB w)&&decide (w.length≤20))=true):gd 60 (wT w):=by
 rw[Bool.and_eq_true,Bool.or_eq_true,decide_eq_true_eq] at h
 have k:=gd_wd (s:=str w) (by rw[show (str w).data.toList=w from by unfold str;simp];exact h.1)
 have e:(str w).size=w.length:=List.size_toArray
 exact⟨k.1,by show (str w).size+40≤60;omega⟩
theorem wordP_name {l:List UInt8} {a b:Nat} (hab:(97≤a∧b≤122)∨(65≤a∧b≤90)) (h:wordP l a b=true):nameB l=true:=by
 unfold wordP at h
 cases l with
 | nil=>cases h
 | cons c r =>
  simp only[Bool.and_eq_true,decide_eq_true_eq] at h
  unfold nameB
  rw[Bool.and_eq_true]
  refine⟨?_,h.2⟩
  unfold letC
  rw[Bool.or_eq_true]
  simp only[Bool.and_eq_true,decide_eq_true_eq]
  omega
theorem gd_upp {s:Ê} (h:uppB s.data.toList=true):gd (s.size+40) (wdT s):=gd_wd (.inl (wordP_name (.inr ω) h))
theorem gd_low {s:Ê} (h:lowB s.data.toList=true):gd (s.size+40) (wdT s):=by
 unfold lowB at h
 rw[Bool.and_eq_true] at h
 exact gd_wd (.inl (wordP_name (.inl ω) h.1))
theorem gd_of {s:Ê} {w:List UInt8} (hw:(nameB w||markB w)=true) (h:(s.data.toList==w)=true):gd (s.size+40) (wdT s):=by
 rw[beq_iff_eq] at h
 rw[Bool.or_eq_true,←h] at hw
 exact gd_wd hw
theorem gd_cls {s:Ê} (p:Wp) (h:p.b s.data.toList=true):gd (s.size+40) (wdT s):=by
 cases p with
 | upp=>exact gd_upp h
 | low=>exact gd_low h
 | msg =>
  have h:msgB s.data.toList=true:=h
  unfold msgB at h
  rw[Bool.or_eq_true] at h
  exact h.elim (gd_of π) gd_upp
 | bnd =>
  have h:bndB s.data.toList=true:=h
  unfold bndB at h
  rw[Bool.or_eq_true] at h
  exact h.elim (gd_of π) gd_low
 | pat =>
  have h:patB s.data.toList=true:=h
  unfold patB at h
  rw[Bool.or_eq_true] at h
  exact h.elim (gd_of π) gd_upp
 | typ =>
  have h:typB s.data.toList=true:=h
  unfold typB basB at h
  simp only[Bool.or_eq_true] at h
  rcases h with (((h|h)|h)|h)|h
  · exact gd_of π h
  · exact gd_of π h
  · exact gd_of π h
  · exact gd_of π h
  · exact gd_upp h
theorem gd_lev {s:Ê} {m:Nat} (h:levP s.data.toList=some m):gd (s.size+40) (wdT s):=by
 unfold levP at h
 by_cases q:(s.data.toList==[111,114])=true
 · exact gd_of π q
 rw[if_neg q] at h
 by_cases q:(s.data.toList==[97,110,100])=true
 · exact gd_of π q
 rw[if_neg q] at h
 simp only[Bool.or_eq_true] at h
 split at h
 · rename_i q
   rcases q with ((((q|q)|q)|q)|q)|q<;>exact gd_of π q
 · split at h
   · rename_i q;exact gd_of π q
   · split at h
     · rename_i q;rcases q with q|q<;>exact gd_of π q
     · split at h
       · rename_i q;rcases q with (q|q)|q<;>exact gd_of π q
       · cases h
theorem gd_int {n:Int} (h:0≤n∧n≤9007199254740992):gd 40 (inT n):=by
 refine⟨⟨?_,rfl⟩,by show e0.size+40≤40;decide⟩
 unfold inT tokB e0
 simp[h]
theorem Gd.j {T:Nd→List Tk}:∀{l:List Nd},(∀x∈l,Gd (wN x) (T x))→Gd (wL l) (joinT (l.map T))
 | [],_=>Gd.e
 | [x],h=>(h x (List.mem_cons_self ..)).to (by rw[wL_c];omega)
 | x::y::r,h=>((h x (List.mem_cons_self ..)).a (Gd.c (gw π) (Gd.j fun l hl=>h l (List.mem_cons_of_mem _ hl)))).to (by rw[wL_c x];omega)
def kw (a:List UInt8):Bool:=(nameB a||markB a)&&decide (a.length≤20)
theorem Gd.l {a b:List UInt8} (ha:kw a=true) (hb:kw b=true) {l:List Nd} {T:Nd→List Tk} (h:∀x∈l,Gd (wN x) (T x)):Gd (120+wL l) (lstT a b (l.map T)):=
 (Gd.c (gw ha) ((Gd.j h).a (Gd.c (gw hb) Gd.n))).to ω
theorem Gd.f {T:Nd→List Tk}:∀{l:List Nd},(∀x∈l,Gd (wN x) (T x))→Gd (wL l) (l.flatMap T)
 | [],_=>Gd.e
 | x::r,h=>by
  rw[List.flatMap_cons]
  exact ((h x (List.mem_cons_self ..)).a (Gd.f fun l hl=>h l (List.mem_cons_of_mem _ hl))).to (by rw[wL_c];omega)
section
variable {f:Sh→Nd→List Tk} {g:Sh→Nd→Bool}
theorem gd_grp {x:Nd} (h:Gd (wN x) (f .exp x)):Gd (wN x+120) (grpT f x):=(Gd.c (gw π) (h.a (Gd.c (gw π) Gd.n))).to ω
theorem gd_opd {x:Nd} (h:Gd (wN x) (f .exp x)) (lv:Nat):Gd (wN x+120) (opdT f x lv):=by
 unfold opdT;split
 · exact gd_grp h
 · exact h.to ω
variable (I:∀s n,g s n=true→Gd (wN n) (f s n))
include I
theorem gd_fun {n:Nd} {i:List Nd} {x y:Nd} (hl:ndL n=i++[x,y]) (ha:∀z∈i,g .fld z=true) (hx:g .typ x=true) (hy:g .exp y=true):Gd (wL (ndL n)) (funT f n):=by
 have e:funT f n=lstT [40] [41] (i.map (f .fld))++wT [58]::(f .typ x++wT [61]::f .exp y):=by simp[funT,lastN,kid,hl]
 rw[e]
 exact ((Gd.l π π fun z hz=>I _ _ (ha z hz)).a (Gd.c (gw π) ((I _ _ hx).a (Gd.c (gw π) (I _ _ hy))))).to (by simp only[hl,wL_c,wL_n,wL_a];omega)
theorem gd_exp {n:Nd} (h:expB g n=true):Gd (wN n) (expT f n):=by
 have L:=fun (l:List Nd) (s:Sh) (h:∀z∈l,g s z=true) (z:Nd) (hz:z∈l)=>I s z (h z hz)
 cases ex_form h with
 | lit hk h0 hc =>
  rcases hk with e|e|e|e|e|e<;>simp[cnsB,e] at hc<;>(rw[show expT f n=priT f n from by simp[expT,e]];unfold priT;simp only[e];simp)
  · exact Gd.z (Gd.c (gd_int ⟨hc.1.2,hc.2⟩) Gd.n) ω
  · exact Gd.z (Gd.c (c:=(ndS n).size+40) ⟨⟨by unfold tokB;simp[hc.2],rfl⟩,Nat.le_refl _⟩ Gd.n) ω
  · split<;>exact Gd.z (Gd.c (gw π) Gd.n) ω
  · exact Gd.z (Gd.c (gw π) (Gd.c (gw π) Gd.n)) ω
  · exact Gd.z (Gd.c (gd_low (nam_of hc).1) Gd.n) ω
  · exact Gd.z (Gd.c (gw π) Gd.n) ω
 | lst e hs hn ha =>
  rw[show expT f n=lstT [91] [93] ((ndL n).map (f .exp)) from by simp[expT,priT,e]]
  exact Gd.z (Gd.l π π (L _ _ ha)) ω
 | new e hs hn ha =>
  rw[show expT f n=wdT (ndS n)::lstT [123] [125] ((ndL n).map (f .set)) from by simp[expT,priT,e]]
  exact Gd.z (Gd.c (gd_upp hs) (Gd.l π π (L _ _ ha))) ω
 | con e hs hn ha =>
  rw[show expT f n=wdT (ndS n)::(if 0<(ndL n).length then lstT [40] [41] ((ndL n).map (f .exp)) else []) from by simp[expT,priT,e]]
  refine Gd.z (Gd.c (gd_upp hs) (b:=120+wL (ndL n)) ?_) ω
  split
  · exact Gd.l π π (L _ _ ha)
  · exact Gd.e
 | get e hs hn x hl hx =>
  rw[show expT f n=opdT f x 9++[wT [46],wdT (ndS n)] from by simp[expT,posT,kid,e,hl]]
  exact Gd.z ((gd_opd (I _ _ hx) 9).a (Gd.c (gw π) (Gd.c (gd_low hs) Gd.n))) (by simp only[hl,wL_c,wL_n,wL_a];omega)
 | wit e hs hn x y l hl hx ha =>
  rw[show expT f n=opdT f x 9++wT [119,105,116,104]::lstT [123] [125] ((y::l).map (f .set)) from by simp[expT,posT,kid,e,hl]]
  exact Gd.z ((gd_opd (I _ _ hx) 9).a (Gd.c (gw π) (Gd.l π π (L _ _ ha)))) (by simp only[hl,wL_c,wL_n,wL_a];omega)
 | cal e hs hn x l hl hx ha =>
  rw[show expT f n=(if ndK x=29∧(ndL x).length=0 then grpT f x else opdT f x 9)++lstT [40] [41] (l.map (f .exp)) from by simp[expT,posT,kid,e,hl]]
  refine Gd.z (Gd.a (b:=wN x+120) ?_ (Gd.l π π (L _ _ ha))) (by simp only[hl,wL_c,wL_n,wL_a];omega)
  split
  · exact gd_grp (I _ _ hx)
  · exact gd_opd (I _ _ hx) 9
 | neg e hs hn x hl hx =>
  rw[show expT f n=wT [45]::opdT f x 8 from by simp[expT,kid,e,hl]]
  exact Gd.z (Gd.c (gw π) (gd_opd (I _ _ hx) 8)) (by simp only[hl,wL_c,wL_n,wL_a];omega)
 | no e hs hn x hl hx =>
  rw[show expT f n=wT [110,111,116]::opdT f x 3 from by simp[expT,kid,e,hl]]
  exact Gd.z (Gd.c (gw π) (gd_opd (I _ _ hx) 3)) (by simp only[hl,wL_c,wL_n,wL_a];omega)
 | bin e m hs hn x y hl hx hy =>
  have q:∃a b,expT f n=opdT f x a++wdT (ndS n)::opdT f y b:=⟨_,_,by simp only[expT,binT,kid,e,hl];simp;rfl⟩
  obtain⟨a,b,q⟩:=q
  rw[q]
  exact Gd.z ((gd_opd (I _ _ hx) a).a (Gd.c (gd_lev hs) (gd_opd (I _ _ hy) b))) (by simp only[hl,wL_c,wL_n,wL_a];omega)
 | ite e hs hn x y z hl hx hy hz =>
  rw[show expT f n=wT [105,102]::(f .exp x++wT [116,104,101,110]::(f .exp y++wT [101,108,115,101]::f .exp z)) from by simp[expT,kid,e,hl]]
  exact Gd.z (Gd.c (gw π) ((I _ _ hx).a (Gd.c (gw π) ((I _ _ hy).a (Gd.c (gw π) (I _ _ hz)))))) (by simp only[hl,wL_c,wL_n,wL_a];omega)
 | lett e hs hn x y hl hx hy =>
  rw[show expT f n=wT [108,101,116]::wdT (ndS n)::wT [61]::(f .exp x++wT [105,110]::f .exp y) from by simp[expT,kid,e,hl]]
  exact Gd.z (Gd.c (gw π) (Gd.c (gd_low hs) (Gd.c (gw π) ((I _ _ hx).a (Gd.c (gw π) (I _ _ hy)))))) (by simp only[hl,wL_c,wL_n,wL_a];omega)
 | mat e hs hn x y l hl hx ha =>
  rw[show expT f n=wT [109,97,116,99,104]::(grpT f x++lstT [123] [125] ((y::l).map (f .arm))) from by simp[expT,kid,e,hl]]
  exact Gd.z (Gd.c (gw π) ((gd_grp (I _ _ hx)).a (Gd.l π π (L _ _ ha)))) (by simp only[hl,wL_c,wL_n,wL_a];omega)
 | lam e hs hn i x y hl ha hx hy =>
  rw[show expT f n=wT [102,117,110]::funT f n from by simp[expT,e]]
  exact Gd.z (Gd.c (gw π) (gd_fun I hl ha hx hy)) ω
theorem gd_snd {n:Nd} (hs:uppB (ndS n).data.toList=true) {x:Nd} {l:List Nd} (hl:ndL n=x::l) (hx:g .exp x=true) (ha:∀z∈l,g .exp z=true):Gd (wN n) (sndT f n):=by
 rw[show sndT f n=wT [115,101,110,100]::(f .exp x++wdT (ndS n)::lstT [40] [41] (l.map (f .exp))) from by simp[sndT,kid,hl]]
 exact Gd.z (Gd.c (gw π) ((I _ _ hx).a (Gd.c (gd_upp hs) (Gd.l π π fun z hz=>I _ _ (ha z hz))))) (by simp only[hl,wL_c,wL_n,wL_a];omega)
end
end
end Go.Proofs.YtbjdcogmiggamaaGreatDoor
