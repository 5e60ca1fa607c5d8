import Derived.Lib.ItoaLen
import Derived.Test.YtbjdcogmiggamaaGreatDoorB26
set_option linter.all false
namespace Go.Proofs.YtbjdcogmiggamaaGreatDoor
open Proofs.Tryz RowKit Maps WideMaps ChangeMaps
set_option maxRecDepth 100000
set_option maxHeartbeats 8000000
section
theorem init_last {n:Nd} (h:0<(ndL n).length):ndL n=initN n++[lastN n]:=by
 have hi:(ndL n).length-1<(ndL n).length:=by omega
 unfold initN lastN kid
 rw[List.getD_eq_getElem?_getD,List.getElem?_eq_getElem hi,Option.getD_some,←List.take_succ_eq_append_getElem hi,List.take_of_length_le ω]
section
variable {f:Sh→Nd→List Tk} {g:Sh→Nd→Bool} (I:∀s n,g s n=true→Gd (wN n) (f s n))
include I
theorem gd_stm {n:Nd} (hb:∀p q x,g (.leaf q p) x=true→p.b (ndS x).data.toList=true) (h:stmB g n=true):Gd (wN n) (stmT f n):=by
 have L:=fun (l:List Nd) (s:Sh) (h:∀z∈l,g s z=true) (z:Nd) (hz:z∈l)=>I s z (h z hz)
 cases sm_form h with
 | lett e hs hn x hl hx =>
  rw[show stmT f n=wT [108,101,116]::wdT (ndS n)::wT [61]::f .exp x from by simp[stmT,kid,e,hl]]
  exact Gd.z (Gd.c (gw π) (Gd.c (gd_low hs) (Gd.c (gw π) (I _ _ hx)))) (by simp only[hl,wL_c,wL_n,wL_a];omega)
 | sett e hs hn x hl hx =>
  rw[show stmT f n=wdT (ndS n)::wT [61]::f .exp x from by simp[stmT,kid,e,hl]]
  exact Gd.z (Gd.c (gd_low hs) (Gd.c (gw π) (I _ _ hx))) (by simp only[hl,wL_c,wL_n,wL_a];omega)
 | iff e hs hn x y hl hx hy =>
  rw[show stmT f n=wT [105,102]::(grpT f x++(f .blk y++[])) from by simp[stmT,kid,e,hl]]
  exact Gd.z (Gd.c (gw π) ((gd_grp (I _ _ hx)).a ((I _ _ hy).a Gd.n))) (by simp only[hl,wL_c,wL_n,wL_a];omega)
 | ifel e hs hn x y z hl hx hy hz =>
  rw[show stmT f n=wT [105,102]::(grpT f x++(f .blk y++wT [101,108,115,101]::f .blk z)) from by simp[stmT,kid,e,hl]]
  exact Gd.z (Gd.c (gw π) ((gd_grp (I _ _ hx)).a ((I _ _ hy).a (Gd.c (gw π) (I _ _ hz))))) (by simp only[hl,wL_c,wL_n,wL_a];omega)
 | mat e hs hn x y l hl hx ha =>
  rw[show stmT f n=wT [109,97,116,99,104]::(grpT f x++wT [123]::((y::l).flatMap (f .sarm)++[wT [125]])) from by simp[stmT,kid,e,hl]]
  exact Gd.z (Gd.c (gw π) ((gd_grp (I _ _ hx)).a (Gd.c (gw π) ((Gd.f (L _ _ ha)).a (Gd.c (gw π) Gd.n))))) (by simp only[hl,wL_c,wL_n,wL_a];omega)
 | forr e hs hn x y hl hx hy =>
  rw[show stmT f n=wT [102,111,114]::wdT (ndS n)::wT [105,110]::(grpT f x++f .blk y) from by simp[stmT,kid,e,hl]]
  exact Gd.z (Gd.c (gw π) (Gd.c (gd_low hs) (Gd.c (gw π) ((gd_grp (I _ _ hx)).a (I _ _ hy))))) (by simp only[hl,wL_c,wL_n,wL_a];omega)
 | snd e hs hn x l hl hx ha =>
  rw[show stmT f n=sndT f n from by simp[stmT,e]]
  exact gd_snd I hs hl hx ha
 | aft e hs hn x y hl hx hy =>
  rw[show stmT f n=wT [97,102,116,101,114]::(f .exp x++f .snd y) from by simp[stmT,kid,e,hl]]
  exact Gd.z (Gd.c (gw π) ((I _ _ hx).a (I _ _ hy))) (by simp only[hl,wL_c,wL_n,wL_a];omega)
 | spw e hs hn b l hl hbb ha =>
  rw[show stmT f n=(if ndT b=[95] then [] else [wT [108,101,116],wdT (ndS b),wT [61]])++wT [115,112,97,119,110]::wdT (ndS n)::(lstT [40] [41] (l.map (f .exp))++[]) from by simp[stmT,spwT,kid,e,hl,hn]]
  refine Gd.z (Gd.a (b:=160+(ndS b).size) ?_ (Gd.c (gw π) (Gd.c (gd_upp hs) ((Gd.l π π (L _ _ ha)).a Gd.n)))) (by simp only[hl,wL_c,wN_mk b];omega)
  split
  · exact Gd.e
  · exact (Gd.c (gw π) (Gd.c (gd_cls .bnd (hb _ _ _ hbb)) (Gd.c (gw π) Gd.n))).to ω
 | spo e hs hn b l x hl hbb ha hx =>
  rw[show stmT f n=(if ndT b=[95] then [] else [wT [108,101,116],wdT (ndS b),wT [61]])++wT [115,112,97,119,110]::wdT (ndS n)::(lstT [40] [41] (l.map (f .exp))++wT [111,110]::f .exp x) from by simp[stmT,spwT,kid,e,hl,hn,List.take_append]]
  refine Gd.z (Gd.a (b:=160+(ndS b).size) ?_ (Gd.c (gw π) (Gd.c (gd_upp hs) ((Gd.l π π (L _ _ ha)).a (Gd.c (gw π) (I _ _ hx)))))) (by simp only[hl,wL_c,wL_a,wL_n,wN_mk b];omega)
  split
  · exact Gd.e
  · exact (Gd.c (gw π) (Gd.c (gd_cls .bnd (hb _ _ _ hbb)) (Gd.c (gw π) Gd.n))).to ω
 | doo e hs hn i x hl ha hx =>
  rw[show stmT f n=wT [100,111]::wdT (ndS n)::(lstT [40] [41] (i.map (f .exp))++[wT [116,104,101,110],wdT (ndS x)]) from by simp[stmT,initN,lastN,kid,e,hl]]
  exact Gd.z (Gd.c (gw π) (Gd.c (gd_low hs) ((Gd.l π π (L _ _ ha)).a (Gd.c (gw π) (Gd.c (gd_upp (hb _ _ _ hx)) Gd.n))))) (by simp only[hl,wL_c,wL_a,wL_n,wN_mk x];omega)
 | stp e hs hn hl =>
  rw[show stmT f n=[wT [115,116,111,112]] from by simp[stmT,e]]
  exact Gd.z (Gd.c (gw π) Gd.n) ω
 | fal e hs hn x hl hx =>
  rw[show stmT f n=wT [102,97,105,108]::f .exp x from by simp[stmT,kid,e,hl]]
  exact Gd.z (Gd.c (gw π) (I _ _ hx)) (by simp only[hl,wL_c,wL_n,wL_a];omega)
theorem gd_pat {n:Nd} {last:Sh} (hb:∀p q x,g (.leaf q p) x=true→p.b (ndS x).data.toList=true) (h:casB g n last=true):∃i x,ndL n=i++[x]∧lastN n=x∧Gd ((ndS n).size+160+wL i) (patT n)∧g last x=true:=by
 obtain⟨hs,h2,i,x,hl,hi,hx,hu⟩:=cas_of h
 have e1:patT n=wdT (ndS n)::(if 0<i.length then lstT [40] [41] (i.map fun x=>[wdT (ndS x)]) else []):=by simp[patT,initN,hl]
 have e2:lastN n=x:=by simp[lastN,kid,hl]
 rw[e1]
 refine⟨i,x,hl,e2,(Gd.c (gd_cls .pat hs) (b:=120+wL i) ?_).to ω,hx⟩
 split
 · exact Gd.l π π fun z hz=>Gd.z (Gd.c (gd_cls .bnd (hb _ _ _ (hi z hz))) Gd.n) ω
 · exact Gd.e
theorem gd_typ {n:Nd} (h:typeB g n=true):Gd (wN n) (typT f n):=by
 unfold typeB at h
 by_cases e:ndK n=12
 · rw[if_pos e,Bool.and_eq_true] at h
   rw[show typT f n=[wdT (ndS n)] from by simp[typT,e]]
   exact Gd.z (Gd.c (gd_cls .typ (nam_of h.1).1) Gd.n) ω
 rw[if_neg e] at h
 by_cases e:ndK n=13
 · rw[if_pos e,Bool.and_eq_true] at h
   obtain⟨x,hl,hx⟩:=kser1 h.2
   rw[show typT f n=wT [91]::(f .typ x++[wT [93]]) from by simp[typT,kid,e,hl]]
   exact Gd.z (Gd.c (gw π) ((I _ _ hx).a (Gd.c (gw π) Gd.n))) (by simp only[hl,wL_c,wL_n,wL_a];omega)
 rw[if_neg e] at h
 by_cases e:ndK n=14
 · rw[if_pos e,Bool.and_eq_true] at h
   rw[show typT f n=[wT [114,101,102],wdT (ndS n)] from by simp[typT,e]]
   exact Gd.z (Gd.c (gw π) (Gd.c (gd_cls .upp (nam_of h.1).1) Gd.n)) ω
 rw[if_neg e] at h
 by_cases e:ndK n=15
 · rw[if_pos e] at h
   simp only[Bool.and_eq_true,decide_eq_true_eq,List.all_eq_true] at h
   obtain⟨⟨_,h1⟩,h2⟩:=h
   have hi:∀z∈initN n,g .typ z=true:=fun z hz=>h2 z (List.mem_of_mem_take hz)
   have hx:g .typ (lastN n)=true:=h2 _ (by
    unfold lastN kid
    rw[List.getD_eq_getElem?_getD,List.getElem?_eq_getElem ω]
    exact List.getElem_mem _)
   rw[show typT f n=wT [102,117,110]::(lstT [40] [41] ((initN n).map (f .typ))++wT [58]::f .typ (lastN n)) from by simp[typT,e]]
   exact Gd.z (Gd.c (gw π) ((Gd.l π π fun z hz=>I _ _ (hi z hz)).a (Gd.c (gw π) (I _ _ hx)))) (by have:=congrArg wL (init_last h1);simp only[wL_a,wL_c,wL_n] at this;omega)
 · rw[if_neg e] at h;cases h
theorem gd_dcl {n:Nd} (h:dclB g n=true):Gd (wN n) (dclT f n):=by
 have F:=fun (l:List Nd) (s:Sh) (h:∀z∈l,g s z=true) (z:Nd) (hz:z∈l)=>I s z (h z hz)
 unfold dclB at h
 by_cases e:ndK n=2
 · rw[if_pos e,Bool.and_eq_true,List.all_eq_true] at h
   rw[show dclT f n=wT [114,101,99,111,114,100]::wdT (ndS n)::lstT [123] [125] ((ndL n).map (f .fld)) from by simp[dclT,e]]
   exact Gd.z (Gd.c (gw π) (Gd.c (gd_cls .upp (nam_of h.1).1) (Gd.l π π (F _ _ h.2)))) ω
 rw[if_neg e] at h
 by_cases e:ndK n=3
 · rw[if_pos e,Bool.and_eq_true,Bool.and_eq_true,List.all_eq_true] at h
   rw[show dclT f n=wT [118,97,114,105,97,110,116]::wdT (ndS n)::lstT [123] [125] ((ndL n).map (f .ctor)) from by simp[dclT,e]]
   exact Gd.z (Gd.c (gw π) (Gd.c (gd_cls .upp (nam_of h.1.1).1) (Gd.l π π (F _ _ h.2)))) ω
 rw[if_neg e] at h
 by_cases e:ndK n=4
 · rw[if_pos e,Bool.and_eq_true] at h
   obtain⟨i,x,hl,ha,hx⟩:=kend1 h.2
   rw[show dclT f n=wT [101,102,102,101,99,116]::wdT (ndS n)::(lstT [40] [41] (i.map (f .fld))++wT [58]::f .typ x) from by simp[dclT,e,initN,lastN,kid,hl]]
   exact Gd.z (Gd.c (gw π) (Gd.c (gd_cls .low (nam_of h.1).1) ((Gd.l π π (F _ _ ha)).a (Gd.c (gw π) (I _ _ hx))))) (by simp only[hl,wL_c,wL_n,wL_a];omega)
 rw[if_neg e] at h
 by_cases e:ndK n=5
 · rw[if_pos e,Bool.and_eq_true] at h
   obtain⟨i,x,y,hl,ha,hx,hy⟩:=kend2 h.2
   rw[show dclT f n=wT [102,117,110]::wdT (ndS n)::funT f n from by simp[dclT,e]]
   exact Gd.z (Gd.c (gw π) (Gd.c (gd_cls .low (nam_of h.1).1) (gd_fun I hl ha hx hy))) ω
 rw[if_neg e] at h
 by_cases e:ndK n=6
 · rw[if_pos e] at h
   simp only[Bool.and_eq_true,decide_eq_true_eq,List.all_eq_true] at h
   obtain⟨⟨⟨⟨hs,hN1⟩,hN2⟩,hf⟩,hm⟩:=h
   rw[show dclT f n=actT f n from by simp[dclT,e]]
   unfold actT
   refine Gd.z (Gd.c (gw π) (Gd.c (gd_cls .upp hs) ((Gd.l π π (F _ _ hf)).a (Gd.a (b:=100) ?_ (Gd.c (gw π) ((Gd.f (F _ _ hm)).a (Gd.c (gw π) Gd.n))))))) (by have:=wL_td (ndL n) (leadB (ndL n));omega)
   split
   · exact (Gd.c (gw π) Gd.n).to ω
   · split
     · exact (Gd.c (gw π) (Gd.c (gd_int ω) Gd.n)).to ω
     · exact Gd.e
 · rw[if_neg e] at h;cases h
theorem gd_chg {n:Nd} (hb:∀p q x,g (.leaf q p) x=true→p.b (ndS x).data.toList=true) (h:cngB g n=true):Gd (wN n) (dclT f n):=by
 have F:=fun (l:List Nd) (s:Sh) (h:∀z∈l,g s z=true) (z:Nd) (hz:z∈l)=>I s z (h z hz)
 have hd:∀{p:Wp} {l:List Nd},hdB g p l=true→∃y r,l=y::r∧p.b (ndS y).data.toList=true:=fun {p l} h=>by
  cases l with
  | nil=>cases h
  | cons y r=>exact⟨y,r,rfl,hb _ _ _ h⟩
 unfold cngB at h
 by_cases e:ndK n=70
 · rw[if_pos e] at h
   by_cases c0:uppB (ndT n)=false∨(ndN n≠0∧ndN n≠1)
   · rw[if_pos c0] at h;cases h
   · rw[if_neg c0] at h
     have hs:uppB (ndS n).data.toList=true:=by
      cases q:uppB (ndT n) with
      | true=>exact q
      | false=>exact absurd (.inl q) c0
     by_cases c1:ndN n=1
     · rw[if_pos c1,Bool.and_eq_true] at h
       obtain⟨y,r,hl,hy⟩:=hd h.1
       obtain⟨i,x,hl2,ha,hx⟩:=kend1 h.2
       rw[hl,List.tail_cons] at hl2
       rw[show dclT f n=wT [99,111,110,118,101,114,116]::wT [116,121,112,101]::wdT (ndS n)::wT [46]::wdT (ndS y)::(lstT [40] [41] (i.map (f .fld))++wT [61]::f .exp x) from by simp[dclT,cnvT,e,c1,initN,lastN,kid,hl,hl2]]
       exact Gd.z (Gd.c (gw π) (Gd.c (gw π) (Gd.c (gd_upp hs) (Gd.c (gw π) (Gd.c (gd_upp hy) ((Gd.l π π (F _ _ ha)).a (Gd.c (gw π) (I _ _ hx)))))))) (by simp only[hl,hl2,wL_c,wL_n,wL_a,wN_mk y];omega)
     · rw[if_neg c1] at h
       have c2:ndN n=0:=Classical.byContradiction fun q=>c0 (.inr ⟨q,c1⟩)
       obtain⟨i,x,hl2,ha,hx⟩:=kend1 h
       rw[show dclT f n=wT [99,111,110,118,101,114,116]::wT [116,121,112,101]::wdT (ndS n)::(lstT [40] [41] (i.map (f .fld))++wT [61]::f .exp x) from by simp[dclT,cnvT,e,c2,initN,lastN,kid,hl2]]
       exact Gd.z (Gd.c (gw π) (Gd.c (gw π) (Gd.c (gd_upp hs) ((Gd.l π π (F _ _ ha)).a (Gd.c (gw π) (I _ _ hx)))))) (by simp only[hl2,wL_c,wL_n,wL_a];omega)
 rw[if_neg e] at h
 by_cases e:ndK n=71
 · rw[if_pos e,Bool.and_eq_true,Bool.and_eq_true,List.all_eq_true,List.all_eq_true] at h
   rw[show dclT f n=wT [99,111,110,118,101,114,116]::wT [97,99,116,111,114]::wdT (ndS n)::(lstT [40] [41] (((ndL n).take (leadB (ndL n))).map (f .fld))++lstT [123] [125] (((ndL n).drop (leadB (ndL n))).map (f .set))) from by simp[dclT,cnvT,e]]
   exact Gd.z (Gd.c (gw π) (Gd.c (gw π) (Gd.c (gd_cls .upp (nam_of h.1.1).1) ((Gd.l π π (F _ _ h.1.2)).a (Gd.l π π (F _ _ h.2)))))) (by have:=wL_td (ndL n) (leadB (ndL n));omega)
 rw[if_neg e] at h
 by_cases e:ndK n=72
 · rw[if_pos e,Bool.and_eq_true,Bool.and_eq_true] at h
   obtain⟨y,r,hl,hy⟩:=hd h.1.2
   obtain⟨i,x,hl2,ha,hx⟩:=kend1 h.2
   rw[hl,List.tail_cons] at hl2
   rw[show dclT f n=wT [99,111,110,118,101,114,116]::wT [109,101,115,115,97,103,101]::wdT (ndS n)::wT [46]::wdT (ndS y)::(lstT [40] [41] (i.map (f .fld))++wT [61]::f .ans x) from by simp[dclT,cnvT,e,initN,lastN,kid,hl,hl2]]
   exact Gd.z (Gd.c (gw π) (Gd.c (gw π) (Gd.c (gd_cls .upp (nam_of h.1.1).1) (Gd.c (gw π) (Gd.c (gd_cls .msg hy) ((Gd.l π π (F _ _ ha)).a (Gd.c (gw π) (I _ _ hx)))))))) (by simp only[hl,hl2,wL_c,wL_n,wL_a,wN_mk y];omega)
 rw[if_neg e] at h
 by_cases e:ndK n=73
 · rw[if_pos e] at h
   simp only[Bool.and_eq_true,decide_eq_true_eq,beq_iff_eq] at h
   obtain⟨⟨⟨hs,hN1⟩,hN2⟩,_⟩:=h
   rw[show dclT f n=[wT [109,111,118,101],wdT (ndS n),wT [116,111],inT (ndN n)] from by simp[dclT,e]]
   exact Gd.z (Gd.c (gw π) (Gd.c (gd_cls .upp hs) (Gd.c (gw π) (Gd.c (gd_int ⟨hN1,hN2⟩) Gd.n)))) ω
 rw[if_neg e] at h
 by_cases e:ndK n=74
 · rw[if_pos e,Bool.and_eq_true] at h
   rw[show dclT f n=[wT [100,114,111,112],wdT (ndS n)] from by simp[dclT,e]]
   exact Gd.z (Gd.c (gw π) (Gd.c (gd_cls .upp (nam_of h.1).1) Gd.n)) ω
 · rw[if_neg e] at h;cases h
end
theorem leaf_b:∀(k:Nat) (p:Wp) (q:Int) (x:Nd),shp k (.leaf q p) x=true→p.b (ndS x).data.toList=true
 | 0,_,_,_,h=>by cases h
 | k+1,p,q,x,h=>by
  have h:(ndK x==q&&namB p x&&(ndL x).length==0)=true:=h
  rw[Bool.and_eq_true,Bool.and_eq_true] at h
  exact (nam_of h.1.2).1
theorem tok_gd:∀(k:Nat) (s:Sh) (n:Nd),shp k s n=true→Gd (wN n) (tok k s n)
 | 0,_,_,h=>by cases h
 | k+1,s,n,h=>by
  have I:=tok_gd k
  have L:=fun (l:List Nd) (s:Sh) (h:∀z∈l,shp k s z=true) (z:Nd) (hz:z∈l)=>I s z (h z hz)
  cases s with
  | typ=>exact gd_typ I h
  | fld =>
   obtain⟨_,hs,_,x,hl,hx⟩:=fld_of h
   show Gd (wN n) (wdT (ndS n)::wT [58]::tok k .typ (kid n 0))
   rw[show kid n 0=x from by simp[kid,hl]]
   exact Gd.z (Gd.c (gd_low hs) (Gd.c (gw π) (I _ _ hx))) (by simp only[hl,wL_c,wL_n,wL_a];omega)
  | ctor =>
   have h:(ndK n==8&&namB .upp n&&(ndL n).all (shp k .typ))=true:=h
   rw[Bool.and_eq_true,Bool.and_eq_true,List.all_eq_true] at h
   show Gd (wN n) (wdT (ndS n)::(if 0<(ndL n).length then lstT [40] [41] ((ndL n).map (tok k .typ)) else []))
   refine Gd.z (Gd.c (gd_cls .upp (nam_of h.1.2).1) (b:=120+wL (ndL n)) ?_) ω
   split
   · exact Gd.l π π (L _ _ h.2)
   · exact Gd.e
  | mem =>
   have h:(if ndK n=9 then namB .low n&&serB (shp k) (ndL n) [.typ,.exp] else ndK n==10&&namB .upp n&&endB (shp k) (ndL n) .fld [.blk])=true:=h
   show Gd (wN n) (memT (tok k) n)
   by_cases e:ndK n=9
   · rw[if_pos e,Bool.and_eq_true] at h
     obtain⟨x,y,hl,hx,hy⟩:=kser2 h.2
     rw[show memT (tok k) n=wT [115,116,97,116,101]::wdT (ndS n)::wT [58]::(tok k .typ x++wT [61]::tok k .exp y) from by simp[memT,e,kid,hl]]
     exact Gd.z (Gd.c (gw π) (Gd.c (gd_cls .low (nam_of h.1).1) (Gd.c (gw π) ((I _ _ hx).a (Gd.c (gw π) (I _ _ hy)))))) (by simp only[hl,wL_c,wL_n,wL_a];omega)
   · rw[if_neg e,Bool.and_eq_true,Bool.and_eq_true] at h
     obtain⟨i,x,hl,ha,hx⟩:=kend1 h.2
     rw[show memT (tok k) n=wT [111,110]::wdT (ndS n)::(lstT [40] [41] (i.map (tok k .fld))++tok k .blk x) from by simp[memT,e,initN,lastN,kid,hl]]
     exact Gd.z (Gd.c (gw π) (Gd.c (gd_cls .upp (nam_of h.1.2).1) ((Gd.l π π (L _ _ ha)).a (I _ _ hx)))) (by simp only[hl,wL_c,wL_n,wL_a];omega)
  | exp=>exact gd_exp I h
  | set =>
   have h:(ndK n==28&&namB .low n&&serB (shp k) (ndL n) [.exp])=true:=h
   rw[Bool.and_eq_true,Bool.and_eq_true] at h
   obtain⟨x,hl,hx⟩:=kser1 h.2
   show Gd (wN n) (wdT (ndS n)::wT [61]::tok k .exp (kid n 0))
   rw[show kid n 0=x from by simp[kid,hl]]
   exact Gd.z (Gd.c (gd_cls .low (nam_of h.1.2).1) (Gd.c (gw π) (I _ _ hx))) (by simp only[hl,wL_c,wL_n,wL_a];omega)
  | arm =>
   have h:(ndK n==39&&casB (shp k) n .exp)=true:=h
   rw[Bool.and_eq_true] at h
   obtain⟨i,x,hl,e,q,hx⟩:=gd_pat I (fun p q x=>leaf_b k p q x) h.2
   show Gd (wN n) (patT n++wT [61,62]::tok k .exp (lastN n))
   rw[e]
   exact Gd.z (q.a (Gd.c (gw π) (I _ _ hx))) (by simp only[hl,wL_c,wL_n,wL_a];omega)
  | blk =>
   have h:(ndK n==11&&bareB n&&(ndL n).all (shp k .stm))=true:=h
   rw[Bool.and_eq_true,List.all_eq_true] at h
   exact Gd.z (Gd.c (gw π) ((Gd.f (L _ _ h.2)).a (Gd.c (gw π) Gd.n))) ω
  | stm=>exact gd_stm I (fun p q x=>leaf_b k p q x) h
  | sarm =>
   have h:(ndK n==54&&casB (shp k) n .blk)=true:=h
   rw[Bool.and_eq_true] at h
   obtain⟨i,x,hl,e,q,hx⟩:=gd_pat I (fun p q x=>leaf_b k p q x) h.2
   show Gd (wN n) (patT n++tok k .blk (lastN n))
   rw[e]
   exact Gd.z (q.a (I _ _ hx)) (by simp only[hl,wL_c,wL_n,wL_a];omega)
  | snd =>
   obtain⟨_,hs,_,x,l,hl,hx,ha⟩:=snd_of h
   exact gd_snd I hs hl hx ha
  | ans =>
   have h:(ndK n==75&&namB .msg n&&(ndL n).all (shp k .exp))=true:=h
   rw[Bool.and_eq_true,Bool.and_eq_true,List.all_eq_true] at h
   exact Gd.z (Gd.c (gd_cls .msg (nam_of h.1.2).1) (Gd.l π π (L _ _ h.2))) ω
  | dcl=>exact gd_dcl I h
  | chg=>exact gd_chg I (fun p q x=>leaf_b k p q x) h
  | leaf q p=>exact Gd.z (Gd.c (gd_cls p (leaf_b _ _ _ _ h)) Gd.n) ω
theorem toks_gd {n:Nd} (h:rightB n=true):Gd (wL (ndL n)) (toksP n):=by
 unfold toksP
 rw[if_pos h]
 unfold rightB at h
 rw[Bool.and_eq_true,List.all_eq_true] at h
 refine Gd.f fun x hx=>?_
 have hx:=h.2 x hx
 rw[Bool.or_eq_true] at hx
 rcases hx with hx|hx
 · exact tok_gd 40 .dcl x hx
 · exact tok_gd 40 .chg x hx
end
theorem tdiv_le (d:Int) (h:0≤d) (h':d≤9):(-9223372036854775808+d).tdiv 10≤-922337203685477579:=by
 have:d=0∨d=1∨d=2∨d=3∨d=4∨d=5∨d=6∨d=7∨d=8∨d=9:=by omega
 rcases this with rfl|rfl|rfl|rfl|rfl|rfl|rfl|rfl|rfl|rfl<;>decide
theorem accN_append (a b:List UInt8):∀n,accN (a++b) n=(accN a n).bind (accN b):=by
 induction a with
 | nil=>intro n;rfl
 | cons c cs ih =>
  intro n
  simp only[List.cons_append,accN]
  split
  · rfl
  · split
    · rfl
    · exact ih _
theorem digit_nat (d:Nat) (h:d<10):(UInt8.ofNat (48+d)).toNat=48+d:=by
 simp;omega
theorem accN_dig (d:Nat) (h:d<10) (n:Int) (hn:-922337203685477579≤n):accN [UInt8.ofNat (48+d)] n=some (n*10-d):=by
 simp only[accN,digit_nat d h]
 rw[if_neg ω,if_neg (by have:=tdiv_le (((48+d:Nat):Int)-48) ω ω;omega)]
 congr 1;omega
theorem accN_dec (u:Nat) (h:u≤9223372036854775790):accN (Lib.decDigits u) 0=some (-(u:Int)):=by
 induction u using Nat.strongRecOn with
 | _ u ih =>
  rw[Lib.decDigits]
  split
  · rename_i hu
    rw[accN_dig u hu 0 ω];congr 1;omega
  · rename_i hu
    rw[accN_append,ih (u/10) ω ω]
    simp only[Option.bind_some]
    rw[accN_dig (u%10) ω _ ω]
    congr 1;omega
theorem dec_ne (u:Nat):Lib.decDigits u≠[]:=by
 rw[Lib.decDigits];split<;>simp
theorem dec_dig (u:Nat):∀c∈Lib.decDigits u,48≤c.toNat∧c.toNat≤57:=by
 induction u using Nat.strongRecOn with
 | _ u ih =>
  rw[Lib.decDigits]
  split
  · rename_i hu
    intro c hc
    rw[List.mem_singleton] at hc
    subst hc
    rw[digit_nat u hu];omega
  · rename_i hu
    intro c hc
    rw[List.mem_append,List.mem_singleton] at hc
    rcases hc with hc|rfl
    · exact ih _ ω c hc
    · rw[digit_nat _ ω];omega
theorem dec_head (u:Nat) (h:0<u):(Lib.decDigits u).head?≠some 48:=by
 induction u using Nat.strongRecOn with
 | _ u ih =>
  rw[Lib.decDigits]
  split
  · rename_i hu
    intro he
    simp only[List.head?_cons,Option.some.injEq] at he
    have:=congrArg UInt8.toNat he
    rw[digit_nat u hu] at this
    simp at this;omega
  · rename_i hu
    have hne:=dec_ne (u/10)
    rw[List.head?_append]
    cases hh:(Lib.decDigits (u/10)).head? with
    | none=>exact absurd (List.head?_eq_none_iff.1 hh) hne
    | some c =>
     have:=ih (u/10) ω ω
     rw[hh] at this
     simpa using this
theorem numP_dec (u:Nat) (hi:Int) (h:(u:Int)≤hi) (hu:u≤9223372036854775790):numP (Lib.decDigits u) 0 hi=some (u:Int):=by
 have hne:=dec_ne u
 have hd:=dec_dig u
 have h45:(Lib.decDigits u).head?≠some 45:=by
  intro he
  have:=hd 45 (List.mem_of_mem_head? he)
  simp at this
 unfold numP
 rw[if_neg h45,if_neg,accN_dec u hu]
 · simp only[Option.bind_some,finN]
   rw[if_neg ω]
   simp;omega
 · rintro (he|⟨he,h2⟩)
   · exact hne he
   · rcases Nat.eq_zero_or_pos u with rfl|hp
     · exact h2 (by rw[Lib.decDigits];simp)
     · exact dec_head u hp he
theorem numP_itoa (n hi:Int) (h0:0≤n) (h:n≤hi) (hu:n≤9223372036854775790):numP (Lib.itoa n) 0 hi=some n:=by
 obtain⟨u,rfl⟩:=Int.eq_ofNat_of_zero_le h0
 unfold Lib.itoa
 rw[if_neg ω,Int.toNat_natCast]
 exact numP_dec u hi h ω
theorem numP_range {l:List UInt8} {lo hi n:Int} (h:numP l lo hi=some n):lo≤n∧n≤hi:=by
 have fin:∀(neg:Bool) (m:Int),finN neg m lo hi=some n→lo≤n∧n≤hi:=by
  intro neg m h
  unfold finN at h
  generalize (if neg=true then m else -m)=k at h
  by_cases h1:neg=false∧m=-9223372036854775808
  · rw[if_pos h1] at h;cases h
  · rw[if_neg h1] at h
    by_cases h2:k<lo∨hi<k
    · rw[if_pos h2] at h;cases h
    · rw[if_neg h2] at h;injection h with h;omega
 unfold numP at h
 split at h
 · split at h
   · cases h
   · obtain⟨m,_,hm⟩:=Option.bind_eq_some_iff.1 h
     exact fin _ _ hm
 · split at h
   · cases h
   · obtain⟨m,_,hm⟩:=Option.bind_eq_some_iff.1 h
     exact fin _ _ hm
def SepB (r:List UInt8):Prop:=∀c q,r=c::q→blankC c=true
theorem blank_cases {c:UInt8} (h:blankC c=true):c=9∨c=10∨c=13∨c=32:=by
 unfold blankC at h
 simp only[Bool.or_eq_true,beq_iff_eq] at h
 rcases h with ((h|h)|h)|h
 · exact .inl (UInt8.toNat_inj.1 h)
 · exact .inr (.inl (UInt8.toNat_inj.1 h))
 · exact .inr (.inr (.inl (UInt8.toNat_inj.1 h)))
 · exact .inr (.inr (.inr (UInt8.toNat_inj.1 h)))
theorem blank_name {c:UInt8} (h:blankC c=true):nameC c=false:=by
 rcases blank_cases h with rfl|rfl|rfl|rfl<;>decide
theorem while_app {p:UInt8→Bool} {x r:List UInt8} (h:x.all p=true) (hr:∀c q,r=c::q→p c=false):(x++r).takeWhile p=x∧(x++r).dropWhile p=r:=by
 induction x with
 | nil =>
  cases r with
  | nil=>exact⟨rfl,rfl⟩
  | cons c q =>
   have:=hr c q rfl
   simp[List.takeWhile_cons,List.dropWhile_cons,this]
 | cons c x ih =>
  simp only[List.all_cons,Bool.and_eq_true] at h
  obtain⟨h1,h2⟩:=ih h.2
  simp[List.takeWhile_cons,List.dropWhile_cons,h.1,h1,h2]
theorem let_name {c:UInt8} (h:letC c=true):nameC c=true:=by unfold nameC;unfold letC at h;rw[h];rfl
theorem dig_name {c:UInt8} (h:digC c=true):nameC c=true:=by
 unfold digC at h;unfold nameC
 simp only[Bool.and_eq_true,Bool.or_eq_true] at h ⊢
 exact .inl (.inr h)
theorem dig_let {c:UInt8} (h:digC c=true):letC c=false:=by
 unfold digC at h;unfold letC
 simp only[Bool.and_eq_true,decide_eq_true_eq] at h
 rw[Bool.eq_false_iff]
 simp only[ne_eq,Bool.or_eq_true,Bool.and_eq_true,decide_eq_true_eq]
 omega
theorem tok_name {p:Int} {x r:List UInt8} (h:nameB x=true) (hr:SepB r):tokL p (x++r)=.ok (⟨1,str x,0,p⟩,r):=by
 cases x with
 | nil=>cases h
 | cons c x =>
  simp only[nameB,Bool.and_eq_true] at h
  obtain⟨h1,h2⟩:=while_app h.2 (fun c q e=>blank_name (hr c q e))
  show (if letC c=true then _ else _)=_
  rw[if_pos h.1]
  rw[h1,h2]
theorem itoa_dig (n:Int) (h:0≤n):(Lib.itoa n).all digC=true:=by
 rw[List.all_eq_true]
 unfold Lib.itoa
 rw[if_neg ω]
 intro c hc
 have:=dec_dig _ c hc
 unfold digC
 simp;omega
theorem itoa_int (n:Int) (h:0≤n) (h2:n≤9007199254740992):intL (Lib.itoa n)=.ok n:=by
 have hd:=itoa_dig n h
 have hn:=numP_itoa n 9007199254740992 h h2 ω
 unfold intL
 rw[if_neg (by rw[hd];decide),hn,if_neg]
 rintro ⟨he,h3⟩
 unfold Lib.itoa at he h3
 rw[if_neg ω] at he h3
 rcases Nat.eq_zero_or_pos n.toNat with e|hp
 · rw[e] at h3;exact h3 (by rw[Lib.decDigits];simp)
 · exact dec_head _ hp he
theorem tok_int {p:Int} {n:Int} {r:List UInt8} (h:0≤n) (h2:n≤9007199254740992) (hr:SepB r):tokL p (Lib.itoa n++r)=.ok (⟨2,e0,n,p⟩,r):=by
 have hi:=itoa_int n h h2
 have hd:=itoa_dig n h
 have ha:(Lib.itoa n).all nameC=true:=by
  rw[List.all_eq_true] at hd ⊢
  exact fun c hc=>dig_name (hd c hc)
 obtain⟨h1,h3⟩:=while_app ha (fun c q e=>blank_name (hr c q e))
 have hne:Lib.itoa n≠[]:=by unfold Lib.itoa;rw[if_neg ω];exact dec_ne _
 cases hx:Lib.itoa n with
 | nil=>exact absurd hx hne
 | cons c x =>
  rw[hx] at h1 h3 hd hi
  simp only[List.all_cons,Bool.and_eq_true] at hd
  show (if letC c=true then _ else _)=_
  rw[if_neg (by rw[dig_let hd.1];decide),if_pos hd.1]
  rw[h1,h3,hi]
theorem text_back (x:List UInt8):∀(a r:List UInt8),textL a (x.flatMap quoteC++34::r)=if 4096<(a++x).length then .error 15 else .ok (a++x,r):=by
 induction x with
 | nil =>
  intro a r
  rw[List.flatMap_nil,List.nil_append,List.append_nil,textL_cons,if_neg π,if_pos π]
 | cons c x ih =>
  intro a r
  have e:a++c::x=(a++[c])++x:=by simp
  rw[List.flatMap_cons,List.append_assoc,e]
  unfold quoteC
  by_cases h1:c.toNat=10
  · obtain rfl:c=10:=UInt8.toNat_inj.1 h1
    rw[if_pos π]
    show textL a (92::110::(x.flatMap quoteC++34::r))=_
    rw[textL_cons,if_neg π,if_neg π,if_pos π]
    exact ih (a++[10]) r
  · rw[if_neg h1]
    by_cases h2:c.toNat=9
    · obtain rfl:c=9:=UInt8.toNat_inj.1 h2
      rw[if_pos π]
      show textL a (92::116::(x.flatMap quoteC++34::r))=_
      rw[textL_cons,if_neg π,if_neg π,if_pos π]
      exact ih (a++[9]) r
    · rw[if_neg h2]
      by_cases h3:c.toNat=34∨c.toNat=92
      · rw[if_pos h3]
        show textL a (92::c::(x.flatMap quoteC++34::r))=_
        rw[textL_cons,if_neg π,if_neg π,if_pos π]
        have hu:unesc c=some c:=by
         rcases h3 with h3|h3
         · obtain rfl:c=34:=UInt8.toNat_inj.1 h3
           rfl
         · obtain rfl:c=92:=UInt8.toNat_inj.1 h3
           rfl
        show (match unesc c with|none=>Except.error 2|some x_1=>textL (a++[x_1]) (x.flatMap quoteC++34::r))=_
        rw[hu]
        exact ih (a++[c]) r
      · rw[if_neg h3]
        show textL a (c::(x.flatMap quoteC++34::r))=_
        rw[textL_cons,if_neg h1,if_neg (fun e=>h3 (.inl e)),if_neg (fun e=>h3 (.inr e))]
        exact ih (a++[c]) r
theorem tok_text {p:Int} {x r:List UInt8} (h:x.length≤4096):tokL p (quoteL x++r)=.ok (⟨3,str x,0,p⟩,r):=by
 have e:quoteL x++r=34::(x.flatMap quoteC++34::r):=by unfold quoteL;simp
 rw[e]
 unfold tokL
 simp only
 rw[if_neg π,if_neg π,if_pos π,text_back,if_neg (by simpa using h)]
 rfl
theorem tok_mrk {p:Int} {x r:List UInt8} (h:markB x=true) (hr:SepB r):tokL p (x++r)=.ok (⟨4,str x,0,p⟩,r):=by
 have hc:∀(y:List UInt8),y.length=1→(∀c,blankC c=true→markB (y++[c])=false)→(∀c,y.head?=some c→letC c=false∧digC c=false∧c.toNat≠34)→markB y=true→tokL p (y++r)=.ok (⟨4,str y,0,p⟩,r):=by
  intro y hy hb hl hm
  match y,hy with
  | [m],_ =>
   obtain⟨l1,l2,l3⟩:=hl m rfl
   show (if letC m=true then _ else if digC m=true then _ else if m.toNat=34 then _ else if 2≤(m::r).length∧markB ((m::r).take 2)=true then _ else if markB ((m::r).take 1)=true then _ else _)=_
   rw[if_neg (by rw[l1];decide),if_neg (by rw[l2];decide),if_neg l3,if_neg,if_pos]
   · rfl
   · exact hm
   · rintro ⟨h1,h2⟩
     cases r with
     | nil=>simp at h1
     | cons c q =>
      have:=hb c (hr c q rfl)
      rw[show (m::c::q).take 2=[m]++[c] from rfl,this] at h2
      cases h2
 have hd:∀(y:List UInt8),y.length=2→(∀c,y.head?=some c→letC c=false∧digC c=false∧c.toNat≠34)→markB y=true→tokL p (y++r)=.ok (⟨4,str y,0,p⟩,r):=by
  intro y hy hl hm
  match y,hy with
  | [m,m2],_ =>
   obtain⟨l1,l2,l3⟩:=hl m rfl
   show (if letC m=true then _ else if digC m=true then _ else if m.toNat=34 then _ else if 2≤(m::m2::r).length∧markB ((m::m2::r).take 2)=true then _ else _)=_
   rw[if_neg (by rw[l1];decide),if_neg (by rw[l2];decide),if_neg l3,if_pos ⟨by simp,hm⟩]
   rfl
 have hm:=h
 unfold markB markWords at h
 simp only[List.contains_cons,List.contains_nil,Bool.or_eq_true,beq_iff_eq,Bool.or_false] at h
 rcases h with rfl|rfl|rfl|rfl|rfl|rfl|rfl|rfl|rfl|rfl|rfl|rfl|rfl|rfl|rfl|rfl|rfl|rfl|rfl|rfl|rfl|rfl|rfl|rfl|rfl|rfl|rfl
 all_goals first
  | exact hc _ rfl (fun c hb=>by rcases blank_cases hb with rfl|rfl|rfl|rfl<;>decide) (fun c e=>by cases e;decide) hm
  | exact hd _ rfl (fun c e=>by cases e;decide) hm
theorem str_list (s:Ê):str s.data.toList=s:=by unfold str;simp
theorem tok_back (t:Tk) (h:tokB t=true) (p:Int) (r:List UInt8) (hr:SepB r):tokL p (wTk t++r)=.ok ({ t with pos:=p },r):=by
 obtain⟨k,s,n,q⟩:=t
 unfold tokB at h
 unfold wTk
 simp only at h ⊢
 by_cases h1:k=1
 · subst h1
   rw[if_pos rfl,Bool.and_eq_true,beq_iff_eq] at h
   rw[if_neg π,if_neg π,tok_name h.1 hr,str_list,h.2]
 · rw[if_neg h1] at h
   by_cases h2:k=2
   · subst h2
     rw[if_pos rfl,Bool.and_eq_true,Bool.and_eq_true,beq_iff_eq,decide_eq_true_eq,decide_eq_true_eq] at h
     obtain⟨⟨h3,h4⟩,h5⟩:=h
     have es:s=e0:=by rw[←str_list s,h3];rfl
     rw[if_pos rfl,tok_int h4 h5 hr,es]
   · rw[if_neg h2] at h
     by_cases h3:k=3
     · subst h3
       rw[if_pos rfl,Bool.and_eq_true,beq_iff_eq,decide_eq_true_eq] at h
       rw[if_neg h2,if_pos rfl,tok_text (by have:=h.1;simpa using this),str_list,h.2]
     · rw[if_neg h3] at h
       by_cases h4:k=4
       · subst h4
         rw[if_pos rfl,Bool.and_eq_true,beq_iff_eq] at h
         rw[if_neg h2,if_neg h3,tok_mrk h.1 hr,str_list,h.2]
       · rw[if_neg h4] at h;cases h
theorem skip_back (t:Tk) (h:tokB t=true) (r:List UInt8) (hr:SepB r):skipL false (wTk t++r)=wTk t++r∧wTk t≠[]:=by
 have key:∀(c:UInt8) (x:List UInt8),blankC c=false→(c.toNat=47→(x++r).head?≠some 47)→skipL false ((c::x)++r)=(c::x)++r:=by
  intro c x h1 h2
  rw[List.cons_append,skipL,if_neg (by rw[h1];decide),if_neg (fun e=>h2 e.1 e.2)]
 have k1:∀x:List UInt8,nameB x=true→skipL false (x++r)=x++r∧x≠[]:=by
  intro x hx
  cases x with
  | nil=>cases hx
  | cons c x =>
   simp only[nameB,Bool.and_eq_true] at hx
   have hl:=hx.1
   unfold letC at hl
   simp only[Bool.or_eq_true,Bool.and_eq_true,decide_eq_true_eq] at hl
   exact⟨key c x (by cases hb:blankC c with|false=>rfl|true=>rcases blank_cases hb with rfl|rfl|rfl|rfl<;>simp at hl) (fun e=>by omega),by simp⟩
 have k2:∀n:Int,0≤n→skipL false (Lib.itoa n++r)=Lib.itoa n++r∧Lib.itoa n≠[]:=by
  intro n hn
  have hd:=itoa_dig n hn
  have hne:Lib.itoa n≠[]:=by unfold Lib.itoa;rw[if_neg ω];exact dec_ne _
  cases hx:Lib.itoa n with
  | nil=>exact absurd hx hne
  | cons c x =>
   rw[hx] at hd
   simp only[List.all_cons,Bool.and_eq_true] at hd
   have hl:=hd.1
   unfold digC at hl
   simp only[Bool.and_eq_true,decide_eq_true_eq] at hl
   exact⟨key c x (by cases hb:blankC c with|false=>rfl|true=>rcases blank_cases hb with rfl|rfl|rfl|rfl<;>simp at hl) (fun e=>by omega),by simp⟩
 have k3:∀x:List UInt8,skipL false (quoteL x++r)=quoteL x++r∧quoteL x≠[]:=by
  intro x
  unfold quoteL
  exact⟨key 34 _ π (fun e=>by simp at e),by simp⟩
 have k4:∀x:List UInt8,markB x=true→skipL false (x++r)=x++r∧x≠[]:=by
  intro x hx
  have hs:∀c q,r=c::q→c.toNat≠47:=fun c q e=>by rcases blank_cases (hr c q e) with rfl|rfl|rfl|rfl<;>decide
  unfold markB markWords at hx
  simp only[List.contains_cons,List.contains_nil,Bool.or_eq_true,beq_iff_eq,Bool.or_false] at hx
  have h47:r.head?≠some 47:=by
   cases r with
   | nil=>simp
   | cons c q=>intro e;injection e with e;subst e;exact hs 47 q rfl π
  rcases hx with rfl|rfl|rfl|rfl|rfl|rfl|rfl|rfl|rfl|rfl|rfl|rfl|rfl|rfl|rfl|rfl|rfl|rfl|rfl|rfl|rfl|rfl|rfl|rfl|rfl|rfl|rfl
  all_goals exact⟨key _ _ π (fun e=>by first|exact h47|(simp at e)),by simp⟩
 obtain⟨k,s,n,q⟩:=t
 unfold tokB at h
 unfold wTk
 simp only at h ⊢
 by_cases h1:k=1
 · subst h1
   rw[if_pos rfl,Bool.and_eq_true] at h
   rw[if_neg π,if_neg π]
   exact k1 _ h.1
 · rw[if_neg h1] at h
   by_cases h2:k=2
   · subst h2
     rw[if_pos rfl,Bool.and_eq_true,Bool.and_eq_true,decide_eq_true_eq] at h
     rw[if_pos rfl]
     exact k2 _ h.1.2
   · rw[if_neg h2] at h
     by_cases h3:k=3
     · subst h3
       rw[if_neg h2,if_pos rfl]
       exact k3 _
     · rw[if_neg h3] at h
       by_cases h4:k=4
       · subst h4
         rw[if_pos rfl,Bool.and_eq_true] at h
         rw[if_neg h2,if_neg h3]
         exact k4 _ h.1
       · rw[if_neg h4] at h;cases h
def LexR.add (ts:List Tk):LexR→LexR
 | .err x p=>.err x p
 | .ok us=>.ok (ts++us)
theorem scanL_step {N n:Nat} {l:List UInt8} {c:UInt8} {r q:List UInt8} {t:Tk} (hs:skipL false l=c::r) (ht:tokL ((N:Int)-((c::r).length:Int)) (c::r)=.ok (t,q)):scanL N (n+1) l=(scanL N n q).add [t]:=by
 rw[scanL,hs]
 show (match tokL ((N:Int)-((c::r).length:Int)) (c::r) with|.error x=>_|.ok (t,q)=>_)=_
 rw[ht]
 show (match scanL N n q with|.err x p=>LexR.err x p|.ok ts=>.ok (t::ts))=_
 cases scanL N n q<;>rfl
theorem scan_inv {N n:Nat} {l:List UInt8} {ts:List Tk} (h:scanL N (n+1) l=.ok ts):(skipL false l=[]∧ts=[])∨∃c r t q us,skipL false l=c::r∧tokL ((N:Int)-((c::r).length:Int)) (c::r)=.ok (t,q)∧scanL N n q=.ok us∧ts=t::us:=by
 rw[scanL] at h
 split at h
 · rename_i hs
   injection h with h
   exact .inl ⟨hs,h.symm⟩
 · rename_i c r hs
   right
   split at h
   · cases h
   · rename_i t q ht
     split at h
     · cases h
     · rename_i us hu
       injection h with h
       exact⟨c,r,t,q,us,hs,ht,hu,h.symm⟩
section
def Cl (c c':UInt8):Prop:=c=c'∨(digC c=true∧digC c'=true)
theorem Cl.name {c c':UInt8} (h:Cl c c'):nameC c=nameC c':=by
 rcases h with rfl|⟨h1,h2⟩
 · rfl
 · rw[dig_name h1,dig_name h2]
theorem dig_facts {c:UInt8} (h:digC c=true):blankC c=false∧c.toNat≠47∧c.toNat≠10:=by
 unfold digC at h
 simp only[Bool.and_eq_true,decide_eq_true_eq] at h
 exact⟨by cases hb:blankC c with|false=>rfl|true=>rcases blank_cases hb with rfl|rfl|rfl|rfl<;>simp at h,by omega,by omega⟩
theorem Cl.h47 {c c':UInt8} (h:Cl c c'):c=47↔c'=47:=by
 rcases h with rfl|⟨h1,h2⟩
 · exact Iff.rfl
 · have a:=(dig_facts h1).2.1
   have b:=(dig_facts h2).2.1
   exact⟨fun e=>by subst e;exact absurd rfl a,fun e=>by subst e;exact absurd rfl b⟩
section
variable {c c':UInt8} {u u':List UInt8}
end
end
def Gap (g:List UInt8):Prop:=(∀r,skipL false (g++r)=skipL false r)∧∃c q,g=c::q∧blankC c=true
theorem gap_sp:Gap [32]:=⟨fun r=>by show skipL false (32::r)=_;rw[skipL,if_pos π],32,[],rfl,by decide⟩
theorem Gap.sep {g:List UInt8} (h:Gap g) (r:List UInt8):SepB (g++r):=by
 obtain⟨c,q,rfl,hc⟩:=h.2
 intro c' q' e
 injection e with e1 e2
 rw[←e1];exact hc
def posG (g:List UInt8):Int→List Tk→List Tk
 | _,[]=>[]
 | o,t::r=>{ t with pos:=o }::posG g (o+(wTk t).length+g.length) r
theorem int_good {l:List UInt8} {n:Int} (h:intL l=.ok n):0≤n∧n≤9007199254740992:=by
 unfold intL at h
 split at h
 · cases h
 · split at h
   · cases h
   · split at h
     · cases h
     · rename_i hn
       injection h with h
       subst h
       exact numP_range hn
theorem tok_good {p:Int} {l q:List UInt8} {t:Tk} (h:tokL p l=.ok (t,q)):tokB t=true:=by
 have hs:∀l:List UInt8,(str l).data.toList=l:=fun l=>by unfold str;simp
 unfold tokL at h
 split at h
 · cases h
 · rename_i c r
   split at h
   · rename_i hc
     injection h with h;injection h with e1 e2
     subst e1
     unfold tokB
     simp only[if_true]
     rw[hs,List.takeWhile_cons,if_pos (let_name hc)]
     unfold nameB
     simp only[hc,Bool.true_and,List.all_cons,let_name hc,beq_self_eq_true,Bool.and_true]
     exact List.all_takeWhile
   · split at h
     · split at h
       · cases h
       · rename_i hi
         injection h with h;injection h with e1 e2
         subst e1
         have:=int_good hi
         unfold tokB
         simp[e0,this]
     · split at h
       · split at h
         · cases h
         · rename_i a q2 ht
           injection h with h;injection h with e1 e2
           subst e1
           have:=text_len _ _ _ _ ht
           have e:(str a).size=a.length:=by unfold str;simp[ByteArray.size]
           unfold tokB
           simp only
           rw[if_neg π,if_neg π,if_pos π,e,decide_eq_true this];rfl
       · split at h
         · rename_i hm
           injection h with h;injection h with e1 e2
           subst e1
           have:=hm.2
           unfold tokB
           simp only
           rw[if_neg π,if_neg π,if_neg π,if_pos π,hs,this];rfl
         · split at h
           · rename_i hm
             injection h with h;injection h with e1 e2
             subst e1
             unfold tokB
             simp only
             rw[if_neg π,if_neg π,if_neg π,if_pos π,hs,hm];rfl
           · cases h
theorem scan_good {N:Nat}:∀(n:Nat) (l:List UInt8) (ts:List Tk),scanL N n l=.ok ts→∀t∈ts,tokB t=true
 | 0,l,ts,h=>by cases h
 | n+1,l,ts,h=>by
  rcases scan_inv h with ⟨_,rfl⟩|⟨c,r,t,q,us,h0,ht,hq,rfl⟩
  · intro t h;cases h
  · intro x hx
    rcases List.mem_cons.1 hx with rfl|hx
    · exact tok_good ht
    · exact scan_good n q us hq x hx
mutual
theorem deep_mv (φ:Int→Int):∀(d:Nat) (a:Nd),deepP d (a.mv φ)=(deepP d a).map φ
 | d,.mk k s n p l=>by
  rw[Nd.mv,deepP,deepP]
  split
  · rfl
  · exact deepL_mv φ (d+1) l
theorem deepL_mv (φ:Int→Int):∀(d:Nat) (l:List Nd),deepL d (mvL φ l)=(deepL d l).map φ
 | d,[]=>by rw[mvL,deepL];rfl
 | d,x::l=>by
  rw[mvL,deepL,deepL,deep_mv φ d x,deepL_mv φ d l]
  cases deepP d x<;>rfl
end
theorem scanP_of {l:List UInt8} (h:l.length≤32768):scanP l=scanL l.length (l.length+1) l:=by unfold scanP;rw[if_neg ω]
theorem deep_top (q:List Nd):deepP 0 (.mk 1 e0 0 0 q)=deepL 1 q:=by rw[deepP,if_neg ω]
theorem tok_len {p:Int} {l q:List UInt8} {t:Tk} (h:tokL p l=.ok (t,q)):t.kind=1→t.text.size≤l.length:=by
 unfold tokL at h
 cases l with
 | nil=>cases h
 | cons c r =>
  simp only at h
  split at h
  · injection h with h;injection h with e1 e2
    subst e1
    intro _
    show (str _).size≤_
    simp only[str,ByteArray.size,List.size_toArray]
    exact (List.takeWhile_sublist _).length_le
  · split at h
    · split at h
      · cases h
      · injection h with h;injection h with e1 e2
        subst e1
        intro e;cases e
    · split at h
      · split at h
        · cases h
        · injection h with h;injection h with e1 e2
          subst e1
          intro e;cases e
      · split at h
        · injection h with h;injection h with e1 e2
          subst e1
          intro e;cases e
        · split at h
          · injection h with h;injection h with e1 e2
            subst e1
            intro e;cases e
          · cases h
theorem scan_txt {N:Nat}:∀(n:Nat) (l:List UInt8) (ts:List Tk),scanL N n l=.ok ts→∀t∈ts,t.kind=1→t.text.size≤l.length
 | 0,l,ts,h=>by rw[scanL] at h;cases h
 | n+1,l,ts,h=>by
  rcases scan_inv h with ⟨_,rfl⟩|⟨c,r,t,q,us,h0,ht,hq,rfl⟩
  · intro t ht;cases ht
  · have h1:=skip_le false l
    rw[h0] at h1
    have h2:=tok_less ht
    intro x hx hk
    rcases List.mem_cons.1 hx with rfl|hx
    · exact Nat.le_trans (tok_len ht hk) h1
    · have:=scan_txt n q us hq x hx hk;omega
theorem quoteC_le (c:UInt8):(quoteC c).length≤2:=by unfold quoteC;split<;>(try split)<;>(try split)<;>simp
theorem quote_len:∀l:List UInt8,(l.flatMap quoteC).length≤2*l.length
 | []=>by simp
 | c::l=>by
  have h1:=quoteC_le c
  have h2:=quote_len l
  rw[List.flatMap_cons,List.length_append,List.length_cons];omega
theorem wTk_len {t:Tk} (h:tokB t=true) {N:Nat} (hn:t.kind=1→t.text.size≤N):(wTk t).length≤N+8194:=by
 unfold tokB at h
 unfold wTk
 split at h
 · rename_i hk
   rw[if_neg ω,if_neg ω]
   have:=hn hk
   have e:t.text.data.toList.length=t.text.size:=by simp
   omega
 · split at h
   · rename_i hk
     rw[if_pos hk]
     simp only[Bool.and_eq_true,decide_eq_true_eq] at h
     have:=Lib.itoa_length_le t.n ω ω
     omega
   · split at h
     · rename_i hk
       rw[if_neg ω,if_pos hk]
       simp only[Bool.and_eq_true,decide_eq_true_eq] at h
       have e:t.text.data.toList.length=t.text.size:=by simp
       have:=quote_len t.text.data.toList
       unfold quoteL
       simp only[List.length_cons,List.length_append,List.length_nil]
       omega
     · split at h
       · rename_i hk
         rw[if_neg ω,if_neg ω]
         simp only[Bool.and_eq_true] at h
         have hm:=h.1
         unfold markB at hm
         have:∀x∈markWords,x.length≤2:=by decide
         have:=this _ (List.contains_iff_mem.1 hm)
         omega
       · cases h
end Go.Proofs.YtbjdcogmiggamaaGreatDoor
