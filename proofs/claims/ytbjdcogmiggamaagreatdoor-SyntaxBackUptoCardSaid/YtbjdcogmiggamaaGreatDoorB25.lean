import Derived.Test.YtbjdcogmiggamaaGreatDoorB24
set_option linter.all false
namespace Go.Proofs.YtbjdcogmiggamaaGreatDoor
open Proofs.Tryz RowKit Maps WideMaps ChangeMaps
set_option maxRecDepth 100000
set_option maxHeartbeats 8000000
section
theorem Flw.upp {s:Ê} (h:uppB s.data.toList=true) (lv:Nat) (r:List Tk):Flw lv (wdT s::r):=by
 have hl:levP s.data.toList=none:=by
  cases hq:levP s.data.toList with
  | none=>rfl
  | some m =>
   exfalso
   unfold levP at hq
   rw[if_neg (by rw[pne h π];simp),if_neg (by rw[pne h π];simp)] at hq
   have n1:∀w,uppB w=false→(s.data.toList==w)=false:=fun w hw=>pne h hw
   rw[n1 _ π,n1 _ π,n1 _ π,n1 _ π,n1 _ π,n1 _ π,n1 _ π,n1 _ π,n1 _ π,n1 _ π,n1 _ π,n1 _ π] at hq
   cases hq
 exact⟨fun m hm=>(by rw[wl_wd,hl] at hm;cases hm),by rw[wl_wd];exact pne h π,by rw[wl_wd];exact pne h π,by rw[wl_wd];exact pne h π,by rw[wl_wd];exact pne h π⟩
theorem Flw.low {s:Ê} (h:lowB s.data.toList=true) (lv:Nat) (r:List Tk):Flw lv (wdT s::r):=by
 have hl:levP s.data.toList=none:=by
  cases hq:levP s.data.toList with
  | none=>rfl
  | some m =>
   exfalso
   unfold levP at hq
   have n1:∀w,lowB w=false→(s.data.toList==w)=false:=fun w hw=>pne h hw
   rw[n1 _ π,n1 _ π,n1 _ π,n1 _ π,n1 _ π,n1 _ π,n1 _ π,n1 _ π,n1 _ π,n1 _ π,n1 _ π,n1 _ π,n1 _ π,n1 _ π] at hq
   cases hq
 exact⟨fun m hm=>(by rw[wl_wd,hl] at hm;cases hm),by rw[wl_wd];exact pne h π,by rw[wl_wd];exact pne h π,by rw[wl_wd];exact pne h π,by rw[wl_wd];exact pne h π⟩
structure StF (r:List Tk):Prop where
 flw:Flw 1 r
 els:(wl r==[101,108,115,101])=false
 onn:(wl r==[111,110])=false
theorem StF.w {w:List UInt8} (h:(levP w=none∧(w==[40])=false∧(w==[46])=false∧(w==[119,105,116,104])=false∧(w==[123])=false)∧(w==[101,108,115,101])=false∧(w==[111,110])=false) (r:List Tk):StF (wT w::r):=⟨Flw.mrk h.1 _ _,by rw[wl_w];exact h.2.1,by rw[wl_w];exact h.2.2⟩
section
variable {m:Nat→M Nd} {T:Nd→List Tk} {b:List UInt8}
theorem ev_untilJ:∀(l:List Nd),(∀y∈l,∀r,StF r→Ev fun N=>m N (T y++r)=.ok y r)→(∀y∈l,∀r,StF (T y++r)∧(wl (T y++r)==b)=false)→StF (wT b::[])→∀r,∃N0,∀N,N0≤N→∀j,l.length<j→untilP b (m N) j (l.flatMap T++wT b::r)=.ok l r
 | [],_,_,_,r=>⟨0,fun N _ j hj=>by
  obtain⟨j,rfl⟩:∃i,j=i+1:=⟨j-1,by omega⟩
  rw[List.flatMap_nil,List.nil_append,until_succ,acc_w];rfl⟩
 | x::l,h,hd,hb,r=>by
  have hnext:StF (l.flatMap T++wT b::r):=by
   cases l with
   | nil =>
    rw[List.flatMap_nil,List.nil_append]
    exact⟨⟨fun m hm=>hb.flw.lev m hm,hb.flw.par,hb.flw.dot,hb.flw.wit,hb.flw.cur⟩,hb.els,hb.onn⟩
   | cons y l=>rw[List.flatMap_cons,List.append_assoc];exact (hd y (by simp) _).1
  obtain⟨a,h1⟩:=h x (List.mem_cons_self ..) _ hnext
  obtain⟨c,h2⟩:=ev_untilJ l (fun y hy=>h y (List.mem_cons_of_mem _ hy)) (fun y hy=>hd y (List.mem_cons_of_mem _ hy)) hb r
  refine⟨a+c,fun N hN j hj=>?_⟩
  obtain⟨j,rfl⟩:∃i,j=i+1:=⟨j-1,by simp at hj;omega⟩
  rw[List.flatMap_cons,List.append_assoc,until_succ,acc_f (hd x (List.mem_cons_self ..) _).2,bd_ok (h1 N ω),bd_ok (h2 N ω j (by simp at hj;omega))]
  rfl
theorem ev_until (l:List Nd) (h:∀y∈l,∀r,StF r→Ev fun N=>m N (T y++r)=.ok y r) (hd:∀y∈l,∀r,StF (T y++r)∧(wl (T y++r)==b)=false) (hb:StF (wT b::[])) (r:List Tk):Ev fun N=>untilP b (m N) N (l.flatMap T++wT b::r)=.ok l r:=by
 obtain⟨a,h⟩:=ev_untilJ l h hd hb r
 exact⟨a+l.length+1,fun N hN=>h N ω N ω⟩
end
theorem ev_args {k:Nat} {l:List Nd} (hz:∀z∈l,zpN z) (ha:∀z∈l,shp k .exp z=true) (r:List Tk):Ev fun N=>argsP (exprP 0 N false) N (lstT [40] [41] (l.map (tok k .exp))++r)=.ok l r:=
 ev_lst (m:=fun N=>exprP 0 N false) (T:=tok k .exp) (a:=[40]) (b:=[41]) π l (fun z hm r hr=>exp_back k (hz z hm) (ha z hm) (flw_of (w:=[]) hr π)) (fun z hm r=>(exp_head k z (ha z hm) r).c1) r
theorem ev_flds {k:Nat} {l:List Nd} (hz:∀z∈l,zpN z) (ha:∀z∈l,shp k .fld z=true) (r:List Tk):Ev fun N=>fieldsP 0 N (lstT [40] [41] (l.map (tok k .fld))++r)=.ok l r:=
 ev_lst (m:=fun N=>fieldP 0 N) (T:=tok k .fld) (a:=[40]) (b:=[41]) π l (fun z hm r _=>fld_back k z (hz z hm) (ha z hm) r) (fun z hm r=>fld_head k z (ha z hm) r) r
theorem grp_true {k:Nat} {x:Nd} (hz:zpN x) (hx:shp k .exp x=true) {r:List Tk} (hr:wl r=[123]):Ev fun N=>exprP 0 N true (grpT (tok k) x++r)=.ok x r:=grp_head (exp_all k).1 hz hx true (.inr hr)
theorem snd_of {k:Nat} {n:Nd} (h:shp (k+1) .snd n=true):ndK n=56∧uppB (ndS n).data.toList=true∧ndN n=0∧∃x l,ndL n=x::l∧shp k .exp x=true∧∀z∈l,shp k .exp z=true:=by
 have h:(ndK n==56&&namB .upp n&&begB (shp k) .exp .exp (ndL n))=true:=h
 rw[Bool.and_eq_true,Bool.and_eq_true,beq_iff_eq] at h
 obtain⟨a,b⟩:=nam_of h.1.2
 exact⟨h.1.1,a,b,beg_of h.2⟩
theorem snd_back0 {k:Nat} {n:Nd} (hz:zpN n) (hk:ndK n=56) (hs:uppB (ndS n).data.toList=true) (hN:ndN n=0) {x:Nd} {l:List Nd} (hl:ndL n=x::l) (hx:shp k .exp x=true) (ha:∀z∈l,shp k .exp z=true) (r:List Tk):Ev fun N=>sendP 0 N (sndT (tok k) n++r)=.ok n r:=by
 obtain⟨hn,hzl⟩:=zp_form hz
 rw[hl] at hzl
 have hp:sndT (tok k) n++r=wT [115,101,110,100]::(tok k .exp x++wdT (ndS n)::(lstT [40] [41] (l.map (tok k .exp))++r)):=by
  simp[sndT,kid,hl]
 have e1:=exp_back k (zpL_mem hzl (by simp)) hx (r:=wdT (ndS n)::(lstT [40] [41] (l.map (tok k .exp))++r)) (Flw.upp hs _ _)
 have e2:=ev_args (k:=k) (l:=l) (fun z hm=>zpL_mem hzl (by simp[hm])) ha r
 refine (e1.and e2).mono fun N hq=>?_
 rw[hp]
 unfold sendP
 simp only[look]
 rw[bd_ok exp_w,bd_ok hq.1,bd_ok (nam_d hs),bd_ok hq.2]
 show Re.ok (Nd.mk 56 (ndS n) 0 0 (x::l)) r=_
 rw[hn,hk,hN,hl];rfl
end
inductive SmF (f:Sh→Nd→Bool) (n:Nd):Prop where
 | lett (hk:ndK n=50) (hs:lowB (ndS n).data.toList=true) (hn:ndN n=0) (x:Nd) (hl:ndL n=[x]) (hx:f .exp x=true)
 | sett (hk:ndK n=51) (hs:lowB (ndS n).data.toList=true) (hn:ndN n=0) (x:Nd) (hl:ndL n=[x]) (hx:f .exp x=true)
 | iff (hk:ndK n=52) (hs:ndS n=e0) (hn:ndN n=0) (x y:Nd) (hl:ndL n=[x,y]) (hx:f .exp x=true) (hy:f .blk y=true)
 | ifel (hk:ndK n=52) (hs:ndS n=e0) (hn:ndN n=0) (x y z:Nd) (hl:ndL n=[x,y,z]) (hx:f .exp x=true) (hy:f .blk y=true) (hz:f .blk z=true)
 | mat (hk:ndK n=53) (hs:ndS n=e0) (hn:ndN n=0) (x y:Nd) (l:List Nd) (hl:ndL n=x::y::l) (hx:f .exp x=true) (ha:∀z∈y::l,f .sarm z=true)
 | forr (hk:ndK n=55) (hs:lowB (ndS n).data.toList=true) (hn:ndN n=0) (x y:Nd) (hl:ndL n=[x,y]) (hx:f .exp x=true) (hy:f .blk y=true)
 | snd (hk:ndK n=56) (hs:uppB (ndS n).data.toList=true) (hn:ndN n=0) (x:Nd) (l:List Nd) (hl:ndL n=x::l) (hx:f .exp x=true) (ha:∀z∈l,f .exp z=true)
 | aft (hk:ndK n=57) (hs:ndS n=e0) (hn:ndN n=0) (x y:Nd) (hl:ndL n=[x,y]) (hx:f .exp x=true) (hy:f .snd y=true)
 | spw (hk:ndK n=58) (hs:uppB (ndS n).data.toList=true) (hn:ndN n=0) (b:Nd) (l:List Nd) (hl:ndL n=b::l) (hb:f (.leaf 40 .bnd) b=true) (ha:∀z∈l,f .exp z=true)
 | spo (hk:ndK n=58) (hs:uppB (ndS n).data.toList=true) (hn:ndN n=1) (b:Nd) (l:List Nd) (x:Nd) (hl:ndL n=b::(l++[x])) (hb:f (.leaf 40 .bnd) b=true) (ha:∀z∈l,f .exp z=true) (hx:f .exp x=true)
 | doo (hk:ndK n=59) (hs:lowB (ndS n).data.toList=true) (hn:ndN n=0) (i:List Nd) (x:Nd) (hl:ndL n=i++[x]) (ha:∀z∈i,f .exp z=true) (hx:f (.leaf 75 .upp) x=true)
 | stp (hk:ndK n=60) (hs:ndS n=e0) (hn:ndN n=0) (hl:ndL n=[])
 | fal (hk:ndK n=61) (hs:ndS n=e0) (hn:ndN n=0) (x:Nd) (hl:ndL n=[x]) (hx:f .exp x=true)
theorem sm_form {f:Sh→Nd→Bool} {n:Nd} (h:stmB f n=true):SmF f n:=by
 unfold stmB at h
 by_cases hk:ndK n=50∨ndK n=51
 · rw[if_pos hk,Bool.and_eq_true] at h
   obtain⟨a,b⟩:=nam_of h.1
   obtain⟨x,hl,hx⟩:=kser1 h.2
   rcases hk with hk|hk
   · exact .lett hk a b x hl hx
   · exact .sett hk a b x hl hx
 rw[if_neg hk] at h
 clear hk
 by_cases hk:ndK n=52
 · rw[if_pos hk,Bool.and_eq_true,Bool.or_eq_true] at h
   obtain⟨a,b⟩:=bare_of h.1
   rcases h.2 with h2|h2
   · obtain⟨x,y,hl,hx,hy⟩:=kser2 h2
     exact .iff hk a b x y hl hx hy
   · obtain⟨x,y,z,hl,hx,hy,hz⟩:=kser3 h2
     exact .ifel hk a b x y z hl hx hy hz
 rw[if_neg hk] at h
 clear hk
 by_cases hk:ndK n=53
 · rw[if_pos hk,Bool.and_eq_true,Bool.and_eq_true,decide_eq_true_eq] at h
   obtain⟨a,b⟩:=bare_of h.1.1
   obtain⟨x,l,hl,hx,ha⟩:=beg_of h.2
   cases l with
   | nil=>have:=h.1.2;rw[hl] at this;simp at this
   | cons y l=>exact .mat hk a b x y l hl hx ha
 rw[if_neg hk] at h
 clear hk
 by_cases hk:ndK n=55
 · rw[if_pos hk,Bool.and_eq_true] at h
   obtain⟨a,b⟩:=nam_of h.1
   obtain⟨x,y,hl,hx,hy⟩:=kser2 h.2
   exact .forr hk a b x y hl hx hy
 rw[if_neg hk] at h
 clear hk
 by_cases hk:ndK n=56
 · rw[if_pos hk,Bool.and_eq_true] at h
   obtain⟨a,b⟩:=nam_of h.1
   obtain⟨x,l,hl,hx,ha⟩:=beg_of h.2
   exact .snd hk a b x l hl hx ha
 rw[if_neg hk] at h
 clear hk
 by_cases hk:ndK n=57
 · rw[if_pos hk,Bool.and_eq_true] at h
   obtain⟨a,b⟩:=bare_of h.1
   obtain⟨x,y,hl,hx,hy⟩:=kser2 h.2
   exact .aft hk a b x y hl hx hy
 rw[if_neg hk] at h
 clear hk
 by_cases hk:ndK n=58
 · rw[if_pos hk] at h
   by_cases hc:ndN n=1∧(ndL n).length<2
   · rw[if_pos hc] at h;cases h
   · rw[if_neg hc,Bool.and_eq_true,Bool.and_eq_true,Bool.or_eq_true,beq_iff_eq,beq_iff_eq] at h
     obtain⟨b,l,hl,hb,ha⟩:=beg_of h.2
     have hu:uppB (ndS n).data.toList=true:=h.1.1
     rcases h.1.2 with hN|hN
     · exact .spw hk hu hN b l hl hb ha
     · have h2:l≠[]:=fun e=>hc ⟨hN,by rw[hl,e];simp⟩
       have e:=List.dropLast_concat_getLast h2
       refine .spo hk hu hN b l.dropLast (l.getLast h2) (by rw[hl,e]) hb (fun z hz=>ha z (List.dropLast_subset _ hz)) (ha _ (List.getLast_mem h2))
 rw[if_neg hk] at h
 clear hk
 by_cases hk:ndK n=59
 · rw[if_pos hk,Bool.and_eq_true] at h
   obtain⟨a,b⟩:=nam_of h.1
   obtain⟨i,x,hl,ha,hx⟩:=kend1 h.2
   exact .doo hk a b i x hl ha hx
 rw[if_neg hk] at h
 clear hk
 by_cases hk:ndK n=60
 · rw[if_pos hk,Bool.and_eq_true,beq_iff_eq] at h
   obtain⟨a,b⟩:=bare_of h.1
   exact .stp hk a b (List.length_eq_zero_iff.1 h.2)
 rw[if_neg hk] at h
 clear hk
 by_cases hk:ndK n=61
 · rw[if_pos hk,Bool.and_eq_true] at h
   obtain⟨a,b⟩:=bare_of h.1
   obtain⟨x,hl,hx⟩:=kser1 h.2
   exact .fal hk a b x hl hx
 rw[if_neg hk] at h;cases h
theorem StF.low {s:Ê} (h:lowB s.data.toList=true) (r:List Tk):StF (wdT s::r)∧(wl (wdT s::r)==[125])=false:=
 ⟨⟨Flw.low h _ _,by rw[wl_wd];exact pne h π,by rw[wl_wd];exact pne h π⟩,by rw[wl_wd];exact pne h π⟩
theorem StF.ww {w:List UInt8} (h:((levP w=none∧(w==[40])=false∧(w==[46])=false∧(w==[119,105,116,104])=false∧(w==[123])=false)∧(w==[101,108,115,101])=false∧(w==[111,110])=false)∧(w==[125])=false) (r:List Tk):StF (wT w::r)∧(wl (wT w::r)==[125])=false:=⟨StF.w h.1 r,by rw[wl_w];exact h.2⟩
theorem stm_head (k:Nat) (n:Nd) (h:shp k .stm n=true) (r:List Tk):StF (tok k .stm n++r)∧(wl (tok k .stm n++r)==[125])=false:=by
 cases k with
 | zero=>cases h
 | succ k =>
  have h:stmB (shp k) n=true:=h
  show StF (stmT (tok k) n++r)∧(wl (stmT (tok k) n++r)==[125])=false
  cases sm_form h with
  | lett hk=>rw[show stmT (tok k) n=wT [108,101,116]::wdT (ndS n)::wT [61]::tok k .exp (kid n 0) from by simp[stmT,hk]];exact StF.ww π _
  | sett hk hs=>rw[show stmT (tok k) n=wdT (ndS n)::wT [61]::tok k .exp (kid n 0) from by simp[stmT,hk]];exact StF.low hs _
  | iff hk=>unfold stmT;rw[if_neg ω,if_neg ω,if_pos hk];exact StF.ww π _
  | ifel hk=>unfold stmT;rw[if_neg ω,if_neg ω,if_pos hk];exact StF.ww π _
  | mat hk=>unfold stmT;rw[if_neg ω,if_neg ω,if_neg ω,if_pos hk];exact StF.ww π _
  | forr hk=>unfold stmT;rw[if_neg ω,if_neg ω,if_neg ω,if_neg ω,if_pos hk];exact StF.ww π _
  | snd hk=>rw[show stmT (tok k) n=sndT (tok k) n from by simp[stmT,hk]];exact StF.ww π _
  | aft hk=>rw[show stmT (tok k) n=wT [97,102,116,101,114]::(tok k .exp (kid n 0)++tok k .snd (kid n 1)) from by simp[stmT,hk]];exact StF.ww π _
  | spw hk=>rw[show stmT (tok k) n=spwT (tok k) n from by simp[stmT,hk]];unfold spwT;split<;>exact StF.ww π _
  | spo hk=>rw[show stmT (tok k) n=spwT (tok k) n from by simp[stmT,hk]];unfold spwT;split<;>exact StF.ww π _
  | doo hk=>rw[show stmT (tok k) n=wT [100,111]::wdT (ndS n)::(lstT [40] [41] ((initN n).map (tok k .exp))++[wT [116,104,101,110],wdT (ndS (lastN n))]) from by simp[stmT,hk]];exact StF.ww π _
  | stp hk=>rw[show stmT (tok k) n=[wT [115,116,111,112]] from by simp[stmT,hk]];exact StF.ww π _
  | fal hk=>rw[show stmT (tok k) n=wT [102,97,105,108]::tok k .exp (kid n 0) from by simp[stmT,hk]];exact StF.ww π _
theorem blk_head (k:Nat) (n:Nd) (h:shp k .blk n=true) (r:List Tk):wl (tok k .blk n++r)=[123]:=by
 cases k with
 | zero=>cases h
 | succ k=>exact wl_w _ _
theorem pat_word {l:List UInt8} (h:patB l=true):l=[95]∨uppB l=true:=by
 unfold patB at h
 rw[Bool.or_eq_true,beq_iff_eq] at h
 exact h
theorem sarm_head (k:Nat) (n:Nd) (h:shp k .sarm n=true) (r:List Tk):StF (tok k .sarm n++r)∧(wl (tok k .sarm n++r)==[125])=false:=by
 cases k with
 | zero=>cases h
 | succ k =>
  have h:(ndK n==54&&casB (shp k) n .blk)=true:=h
  rw[Bool.and_eq_true] at h
  obtain⟨hs,_⟩:=cas_of h.2
  show StF (wdT (ndS n)::_)∧(wl (wdT (ndS n)::_)==[125])=false
  rcases pat_word hs with e|e
  · have e2:wdT (ndS n)=wT [95]:=by
     unfold wT
     congr 1
     apply ByteArray.ext
     apply Array.toList_inj.1
     rw[e];rfl
    rw[e2];exact StF.ww π _
  · exact⟨⟨Flw.upp e _ _,by rw[wl_wd];exact pne e π,by rw[wl_wd];exact pne e π⟩,by rw[wl_wd];exact pne e π⟩
section
theorem spawn_back {k:Nat} {n b:Nd} (hz:zpN n) (hk:ndK n=58) (hs:uppB (ndS n).data.toList=true) {l:List Nd} (hl:ndL n=b::l) (hN:ndN n=0) (ha:∀z∈l,shp k .exp z=true) {r:List Tk} (hr:StF r):Ev fun N=>spawnP 0 N 0 b (wT [115,112,97,119,110]::wdT (ndS n)::(lstT [40] [41] (l.map (tok k .exp))++r))=.ok n r:=by
 obtain⟨hn,hzl⟩:=zp_form hz
 rw[hl] at hzl
 refine (ev_args (k:=k) (l:=l) (fun z hm=>zpL_mem hzl (by simp[hm])) ha r).mono fun N hq=>?_
 unfold spawnP
 rw[bd_ok exp_w,bd_ok (nam_d hs),bd_ok hq,acc_f hr.onn]
 show Re.ok (Nd.mk 58 (ndS n) 0 0 (b::l)) r=_
 rw[hn,hk,hN,hl];rfl
theorem spawn_on {k:Nat} {n b:Nd} (hz:zpN n) (hk:ndK n=58) (hs:uppB (ndS n).data.toList=true) {l:List Nd} {x:Nd} (hl:ndL n=b::(l++[x])) (hN:ndN n=1) (ha:∀z∈l,shp k .exp z=true) (hx:shp k .exp x=true) {r:List Tk} (hr:StF r):Ev fun N=>spawnP 0 N 0 b (wT [115,112,97,119,110]::wdT (ndS n)::(lstT [40] [41] (l.map (tok k .exp))++(wT [111,110]::(tok k .exp x++r))))=.ok n r:=by
 obtain⟨hn,hzl⟩:=zp_form hz
 rw[hl] at hzl
 refine ((ev_args (k:=k) (l:=l) (fun z hm=>zpL_mem hzl (by simp[hm])) ha (wT [111,110]::(tok k .exp x++r))).and (exp_back k (zpL_mem hzl (by simp)) hx hr.flw)).mono fun N hq=>?_
 unfold spawnP
 rw[bd_ok exp_w,bd_ok (nam_d hs),bd_ok hq.1,acc_w,bd_ok hq.2]
 show Re.ok (Nd.mk 58 (ndS n) 1 0 (b::(l++[x]))) r=_
 rw[hn,hk,hN,hl];rfl
theorem look_ap {α:Type} {f:List Tk→M α} {ts:List Tk}:look f ts=f ts ts:=rfl
theorem wlw_ne {w v:List UInt8} {r:List Tk} (h:(w==v)=false):¬((wl (wT w::r)==v)=true):=by rw[wl_w,h];simp
theorem wl_eq {w:List UInt8} {r:List Tk}:(wl (wT w::r)==w)=true:=by rw[wl_w];simp
theorem wl_nd {s:Ê} {v:List UInt8} {r:List Tk} (h:(s.data.toList==v)=false):¬((wl (wdT s::r)==v)=true):=by rw[wl_wd,h];simp
section
variable {k:Nat} (IB:∀n,zpN n→shp k .blk n=true→∀r,Ev fun N=>blockP 0 (stmtP 0 N) N (tok k .blk n++r)=.ok n r) (IR:∀n,zpN n→shp k .sarm n=true→∀r,Ev fun N=>sarmP 0 (stmtP 0 N) N (tok k .sarm n++r)=.ok n r)
include IB IR
theorem stm_step {n:Nd} (hz:zpN n) (h:shp (k+1) .stm n=true) {r:List Tk} (hr:StF r):Ev fun N=>stmtP 0 N (tok (k+1) .stm n++r)=.ok n r:=by
 have h:stmB (shp k) n=true:=h
 obtain⟨hn,hzl⟩:=zp_form hz
 show Ev fun N=>stmtP 0 N (stmT (tok k) n++r)=.ok n r
 cases sm_form h with
 | lett hk hs hN x hl hx =>
  have hp:stmT (tok k) n++r=wT [108,101,116]::wdT (ndS n)::wT [61]::(tok k .exp x++r):=by simp[stmT,hk,kid,hl]
  refine (exp_back k (zpL_mem hzl (by rw[hl];simp)) hx hr.flw).up fun N hq=>?_
  rw[hp,stmtP]
  simp only[look]
  rw[if_pos wl_eq]
  unfold letP
  simp only[look]
  rw[bd_ok exp_w,look_ap,bd_ok (nam_d hs),bd_ok exp_w,look_ap,if_neg (by rw[(exp_head k x hx r).c4];simp),bd_ok hq]
  show Re.ok (Nd.mk 50 (ndS n) 0 0 [x]) r=_
  rw[hn,hk,hN,hl];rfl
 | sett hk hs hN x hl hx =>
  have hp:stmT (tok k) n++r=wdT (ndS n)::wT [61]::(tok k .exp x++r):=by simp[stmT,hk,kid,hl]
  refine (exp_back k (zpL_mem hzl (by rw[hl];simp)) hx hr.flw).up fun N hq=>?_
  rw[hp,stmtP]
  simp only[look]
  rw[if_neg (wl_nd (pne hs π)),if_neg (wl_nd (pne hs π)),if_neg (wl_nd (pne hs π)),if_neg (wl_nd (pne hs π)),if_neg (wl_nd (pne hs π)),if_neg (wl_nd (pne hs π)),if_neg (wl_nd (pne hs π)),if_neg (wl_nd (pne hs π)),if_neg (wl_nd (pne hs π)),if_neg (wl_nd (pne hs π)),bd_ok (nam_d hs),bd_ok exp_w,bd_ok hq]
  show Re.ok (Nd.mk 51 (ndS n) 0 0 [x]) r=_
  rw[hn,hk,hN,hl];rfl
 | iff hk hs hN x y hl hx hy =>
  rw[hl] at hzl
  have hp:stmT (tok k) n++r=wT [105,102]::(grpT (tok k) x++(tok k .blk y++r)):=by
   unfold stmT;rw[if_neg ω,if_neg ω,if_pos hk];simp[kid,hl]
  have e1:=grp_true (zpL_mem hzl (by simp)) hx (r:=tok k .blk y++r) (blk_head k y hy r)
  have e2:=IB y (zpL_mem hzl (by simp)) hy r
  refine (e1.and e2).up fun N hq=>?_
  rw[hp,stmtP]
  simp only[look]
  rw[if_neg (wlw_ne π),if_neg (wlw_ne π),if_pos wl_eq]
  unfold branchP
  simp only[look]
  rw[bd_ok exp_w,bd_ok hq.1,bd_ok hq.2,acc_f hr.els]
  show Re.ok (Nd.mk 52 e0 0 0 [x,y]) r=_
  rw[hn,hk,hN,hl,hs]
 | ifel hk hs hN x y z hl hx hy hw =>
  rw[hl] at hzl
  have hp:stmT (tok k) n++r=wT [105,102]::(grpT (tok k) x++(tok k .blk y++(wT [101,108,115,101]::(tok k .blk z++r)))):=by
   unfold stmT;rw[if_neg ω,if_neg ω,if_pos hk];simp[kid,hl]
  have e1:=grp_true (zpL_mem hzl (by simp)) hx (r:=tok k .blk y++(wT [101,108,115,101]::(tok k .blk z++r))) (blk_head k y hy _)
  have e2:=IB y (zpL_mem hzl (by simp)) hy (wT [101,108,115,101]::(tok k .blk z++r))
  have e3:=IB z (zpL_mem hzl (by simp)) hw r
  refine ((e1.and e2).and e3).up fun N hq=>?_
  rw[hp,stmtP]
  simp only[look]
  rw[if_neg (wlw_ne π),if_neg (wlw_ne π),if_pos wl_eq]
  unfold branchP
  simp only[look]
  rw[bd_ok exp_w,bd_ok hq.1.1,bd_ok hq.1.2,acc_w,bd_ok hq.2]
  show Re.ok (Nd.mk 52 e0 0 0 [x,y,z]) r=_
  rw[hn,hk,hN,hl,hs]
 | mat hk hs hN x y l hl hx ha =>
  rw[hl] at hzl
  have hp:stmT (tok k) n++r=wT [109,97,116,99,104]::(grpT (tok k) x++wT [123]::(tok k .sarm y++(l.flatMap (tok k .sarm)++wT [125]::r))):=by
   unfold stmT;rw[if_neg ω,if_neg ω,if_neg ω,if_pos hk];simp[kid,hl]
  have e1:=grp_true (zpL_mem hzl (by simp)) hx (r:=wT [123]::(tok k .sarm y++(l.flatMap (tok k .sarm)++wT [125]::r))) (wl_w _ _)
  have e2:=IR y (zpL_mem hzl (by simp)) (ha y (by simp)) (l.flatMap (tok k .sarm)++wT [125]::r)
  have e3:=ev_until (m:=fun N=>sarmP 0 (stmtP 0 N) N) (T:=tok k .sarm) (b:=[125]) l (fun z hz r _=>IR z (zpL_mem hzl (by simp[hz])) (ha z (by simp[hz])) r) (fun z hz r=>sarm_head k z (ha z (by simp[hz])) r) (StF.w π _) r
  refine ((e1.and e2).and e3).up fun N hq=>?_
  rw[hp,stmtP]
  simp only[look]
  rw[if_neg (wlw_ne π),if_neg (wlw_ne π),if_neg (wlw_ne π),if_pos wl_eq]
  unfold casesP
  simp only[look]
  rw[bd_ok exp_w,bd_ok hq.1.1,bd_ok exp_w,bd_ok hq.1.2,bd_ok hq.2]
  show Re.ok (Nd.mk 53 e0 0 0 (x::y::l)) r=_
  rw[hn,hk,hN,hl,hs]
 | forr hk hs hN x y hl hx hy =>
  rw[hl] at hzl
  have hp:stmT (tok k) n++r=wT [102,111,114]::wdT (ndS n)::wT [105,110]::(grpT (tok k) x++(tok k .blk y++r)):=by
   unfold stmT;rw[if_neg ω,if_neg ω,if_neg ω,if_neg ω,if_pos hk];simp[kid,hl]
  have e1:=grp_true (zpL_mem hzl (by simp)) hx (r:=tok k .blk y++r) (blk_head k y hy r)
  have e2:=IB y (zpL_mem hzl (by simp)) hy r
  refine (e1.and e2).up fun N hq=>?_
  rw[hp,stmtP]
  simp only[look]
  rw[if_neg (wlw_ne π),if_neg (wlw_ne π),if_neg (wlw_ne π),if_neg (wlw_ne π),if_pos wl_eq]
  show (name lowB >>= fun s=>expect [105,110] >>= fun _=>exprP 0 N true >>= fun a=>blockP 0 (stmtP 0 N) N >>= fun b=>pure (Nd.mk 55 s 0 0 [a,b]):M Nd) (wdT (ndS n)::wT [105,110]::(grpT (tok k) x++(tok k .blk y++r)))=_
  rw[bd_ok (nam_d hs),bd_ok exp_w,bd_ok hq.1,bd_ok hq.2]
  show Re.ok (Nd.mk 55 (ndS n) 0 0 [x,y]) r=_
  rw[hn,hk,hN,hl];rfl
 | snd hk hs hN x l hl hx ha =>
  have hp:stmT (tok k) n++r=sndT (tok k) n++r:=by simp[stmT,hk]
  refine (snd_back0 hz hk hs hN hl hx ha r).up fun N hq=>?_
  rw[hp,stmtP]
  simp only[look]
  rw[show sndT (tok k) n++r=wT [115,101,110,100]::(tok k .exp (kid n 0)++wdT (ndS n)::lstT [40] [41] ((ndL n).tail.map (tok k .exp))++r) from rfl] at hq ⊢
  rw[if_neg (wlw_ne π),if_neg (wlw_ne π),if_neg (wlw_ne π),if_neg (wlw_ne π),if_neg (wlw_ne π),if_pos wl_eq]
  exact hq
 | aft hk hs hN x y hl hx hy =>
  rw[hl] at hzl
  have hp:stmT (tok k) n++r=wT [97,102,116,101,114]::(tok k .exp x++(tok k .snd y++r)):=by simp[stmT,hk,kid,hl]
  cases k with
  | zero=>cases hy
  | succ k =>
   obtain⟨yk,ys,yN,a,l,yl,ya,yz⟩:=snd_of hy
   have e1:=exp_back (k+1) (zpL_mem hzl (by simp)) hx (r:=tok (k+1) .snd y++r) (Flw.mrk π 1 _)
   have e2:Ev fun N=>sendP 0 N (tok (k+1) .snd y++r)=.ok y r:=snd_back0 (zpL_mem hzl (by simp)) yk ys yN yl ya yz r
   refine (e1.and e2).up fun N hq=>?_
   rw[hp,stmtP]
   simp only[look]
   rw[if_neg (wlw_ne π),if_neg (wlw_ne π),if_neg (wlw_ne π),if_neg (wlw_ne π),if_neg (wlw_ne π),if_neg (wlw_ne π),if_pos wl_eq]
   show (exprP 0 N false >>= fun a=>sendP 0 N >>= fun b=>pure (Nd.mk 57 e0 0 0 [a,b]):M Nd) (tok (k+1) .exp x++(tok (k+1) .snd y++r))=_
   rw[bd_ok hq.1,bd_ok hq.2]
   show Re.ok (Nd.mk 57 e0 0 0 [x,y]) r=_
   rw[hn,hk,hN,hl,hs]
 | spw hk hs hN b l hl hb ha =>
  obtain⟨bk,bs,bN,bl⟩:=leaf_of hb
  have hzl':=hzl
  rw[hl] at hzl'
  obtain⟨bn,_⟩:=zp_form (zpL_mem hzl' (x:=b) (by simp))
  have hbf:b=.mk 40 (ndS b) 0 0 []:=by rw[bn,bk,bN,bl];rfl
  have e1:=spawn_back (k:=k) hz hk hs hl hN ha hr
  by_cases hu:ndT b=[95]
  · have hp:stmT (tok k) n++r=wT [115,112,97,119,110]::wdT (ndS n)::(lstT [40] [41] (l.map (tok k .exp))++r):=by simp[stmT,hk,spwT,kid,hl,hu,hN]
    refine e1.up fun N hq=>?_
    rw[hp,stmtP]
    simp only[look]
    rw[if_neg (wlw_ne π),if_pos wl_eq]
    have hb2:b=.mk 40 (ByteArray.mk #[95]) 0 0 []:=by
     rw[hbf]
     congr 1
     apply ByteArray.ext
     apply Array.toList_inj.1
     exact hu
    rw[hb2] at hq
    exact hq
  · have hlow:lowB (ndS b).data.toList=true:=by
     have bs:(((ndS b).data.toList==[95])||lowB (ndS b).data.toList)=true:=bs
     rw[Bool.or_eq_true,beq_iff_eq] at bs
     rcases bs with bs|bs
     · exact absurd bs hu
     · exact bs
    have hp:stmT (tok k) n++r=wT [108,101,116]::wdT (ndS b)::wT [61]::wT [115,112,97,119,110]::wdT (ndS n)::(lstT [40] [41] (l.map (tok k .exp))++r):=by simp[stmT,hk,spwT,kid,hl,hu,hN]
    refine e1.up fun N hq=>?_
    rw[hp,stmtP]
    simp only[look]
    rw[if_pos wl_eq]
    unfold letP
    simp only[look]
    rw[bd_ok exp_w,look_ap,bd_ok (nam_d hlow),bd_ok exp_w,look_ap,if_pos wl_eq]
    rw[hbf] at hq
    exact hq
 | spo hk hs hN b l x hl hb ha hx =>
  obtain⟨bk,bs,bN,bl⟩:=leaf_of hb
  have hzl':=hzl
  rw[hl] at hzl'
  obtain⟨bn,_⟩:=zp_form (zpL_mem hzl' (x:=b) (by simp))
  have hbf:b=.mk 40 (ndS b) 0 0 []:=by rw[bn,bk,bN,bl];rfl
  have e1:=spawn_on (k:=k) hz hk hs hl hN ha hx hr
  have htk:((ndL n).take ((ndL n).length-(ndN n).toNat)).tail=l:=by rw[hl,hN];simp
  have hkx:kid n ((ndL n).length-(ndN n).toNat)=x:=by unfold kid;rw[hl,hN];simp
  by_cases hu:ndT b=[95]
  · have hp:stmT (tok k) n++r=wT [115,112,97,119,110]::wdT (ndS n)::(lstT [40] [41] (l.map (tok k .exp))++(wT [111,110]::(tok k .exp x++r))):=by
     rw[show stmT (tok k) n=spwT (tok k) n from by simp[stmT,hk]]
     unfold spwT
     rw[htk,hkx,if_pos (by simp[kid,hl,hu]),if_pos hN];simp
    refine e1.up fun N hq=>?_
    rw[hp,stmtP]
    simp only[look]
    rw[if_neg (wlw_ne π),if_pos wl_eq]
    have hb2:b=.mk 40 (ByteArray.mk #[95]) 0 0 []:=by
     rw[hbf]
     congr 1
     apply ByteArray.ext
     apply Array.toList_inj.1
     exact hu
    rw[hb2] at hq
    exact hq
  · have hlow:lowB (ndS b).data.toList=true:=by
     have bs:(((ndS b).data.toList==[95])||lowB (ndS b).data.toList)=true:=bs
     rw[Bool.or_eq_true,beq_iff_eq] at bs
     rcases bs with bs|bs
     · exact absurd bs hu
     · exact bs
    have hp:stmT (tok k) n++r=wT [108,101,116]::wdT (ndS b)::wT [61]::wT [115,112,97,119,110]::wdT (ndS n)::(lstT [40] [41] (l.map (tok k .exp))++(wT [111,110]::(tok k .exp x++r))):=by
     rw[show stmT (tok k) n=spwT (tok k) n from by simp[stmT,hk]]
     unfold spwT
     rw[htk,hkx,if_neg (by simpa[kid,hl] using hu),if_pos hN];simp[kid,hl]
    refine e1.up fun N hq=>?_
    rw[hp,stmtP]
    simp only[look]
    rw[if_pos wl_eq]
    unfold letP
    simp only[look]
    rw[bd_ok exp_w,look_ap,bd_ok (nam_d hlow),bd_ok exp_w,look_ap,if_pos wl_eq]
    rw[hbf] at hq
    exact hq
 | doo hk hs hN i x hl ha hx =>
  obtain⟨xk,xs,xN,xl⟩:=leaf_of hx
  rw[hl] at hzl
  obtain⟨xn,_⟩:=zp_form (zpL_mem hzl (x:=x) (by simp))
  have xs:uppB (ndS x).data.toList=true:=xs
  have hxf:x=.mk 75 (ndS x) 0 0 []:=by rw[xn,xk,xN,xl];rfl
  have hp:stmT (tok k) n++r=wT [100,111]::wdT (ndS n)::(lstT [40] [41] (i.map (tok k .exp))++(wT [116,104,101,110]::wdT (ndS x)::r)):=by simp[stmT,hk,initN,lastN,kid,hl]
  refine (ev_args (k:=k) (l:=i) (fun z hm=>zpL_mem hzl (by simp[hm])) ha (wT [116,104,101,110]::wdT (ndS x)::r)).up fun N hq=>?_
  rw[hp,stmtP]
  simp only[look]
  rw[if_neg (wlw_ne π),if_neg (wlw_ne π),if_neg (wlw_ne π),if_neg (wlw_ne π),if_neg (wlw_ne π),if_neg (wlw_ne π),if_neg (wlw_ne π),if_pos wl_eq]
  unfold doP
  simp only[look]
  rw[bd_ok exp_w,bd_ok (nam_d hs),bd_ok hq,bd_ok exp_w,look_ap,bd_ok (nam_d xs)]
  show Re.ok (Nd.mk 59 (ndS n) 0 0 (i++[Nd.mk 75 (ndS x) 0 0 []])) r=_
  rw[←hxf,←hl]
  conv=>rhs;rw[hn,hk,hN]
 | stp hk hs hN hl =>
  have hp:stmT (tok k) n++r=wT [115,116,111,112]::r:=by simp[stmT,hk]
  refine Ev.up (Ev.of fun _=>trivial) fun N _=>?_
  rw[hp,stmtP]
  simp only[look]
  rw[if_neg (wlw_ne π),if_neg (wlw_ne π),if_neg (wlw_ne π),if_neg (wlw_ne π),if_neg (wlw_ne π),if_neg (wlw_ne π),if_neg (wlw_ne π),if_neg (wlw_ne π),if_pos wl_eq]
  show Re.ok (Nd.mk 60 e0 0 0 []) r=_
  rw[hn,hk,hN,hl,hs]
 | fal hk hs hN x hl hx =>
  have hp:stmT (tok k) n++r=wT [102,97,105,108]::(tok k .exp x++r):=by simp[stmT,hk,kid,hl]
  refine (exp_back k (zpL_mem hzl (by rw[hl];simp)) hx hr.flw).up fun N hq=>?_
  rw[hp,stmtP]
  simp only[look]
  rw[if_neg (wlw_ne π),if_neg (wlw_ne π),if_neg (wlw_ne π),if_neg (wlw_ne π),if_neg (wlw_ne π),if_neg (wlw_ne π),if_neg (wlw_ne π),if_neg (wlw_ne π),if_neg (wlw_ne π),if_pos wl_eq]
  show (exprP 0 N false >>= fun a=>pure (Nd.mk 61 e0 0 0 [a]):M Nd) (tok k .exp x++r)=_
  rw[bd_ok hq]
  show Re.ok (Nd.mk 61 e0 0 0 [x]) r=_
  rw[hn,hk,hN,hl,hs]
end
end
section
section
variable {m:Nat→M Nd} {T:Nd→List Tk} {b:List UInt8} {F:List Tk→Prop}
theorem ev_untilF:∀(l:List Nd),(∀y∈l,∀r,F r→Ev fun N=>m N (T y++r)=.ok y r)→(∀y∈l,∀r,F (T y++r)∧(wl (T y++r)==b)=false)→(∀r,F (wT b::r))→∀r,∃N0,∀N,N0≤N→∀j,l.length<j→untilP b (m N) j (l.flatMap T++wT b::r)=.ok l r
 | [],_,_,_,r=>⟨0,fun N _ j hj=>by
  obtain⟨j,rfl⟩:∃i,j=i+1:=⟨j-1,by omega⟩
  rw[List.flatMap_nil,List.nil_append,until_succ,acc_w];rfl⟩
 | x::l,h,hd,hb,r=>by
  have hnext:F (l.flatMap T++wT b::r):=by
   cases l with
   | nil=>rw[List.flatMap_nil,List.nil_append];exact hb r
   | cons y l=>rw[List.flatMap_cons,List.append_assoc];exact (hd y (by simp) _).1
  obtain⟨a,h1⟩:=h x (List.mem_cons_self ..) _ hnext
  obtain⟨c,h2⟩:=ev_untilF l (fun y hy=>h y (List.mem_cons_of_mem _ hy)) (fun y hy=>hd y (List.mem_cons_of_mem _ hy)) hb r
  refine⟨a+c,fun N hN j hj=>?_⟩
  obtain⟨j,rfl⟩:∃i,j=i+1:=⟨j-1,by simp at hj;omega⟩
  rw[List.flatMap_cons,List.append_assoc,until_succ,acc_f (hd x (List.mem_cons_self ..) _).2,bd_ok (h1 N ω),bd_ok (h2 N ω j (by simp at hj;omega))]
  rfl
end
theorem stm_all:∀k:Nat,(∀n,zpN n→shp k .stm n=true→∀r,StF r→Ev fun N=>stmtP 0 N (tok k .stm n++r)=.ok n r)∧(∀n,zpN n→shp k .blk n=true→∀r,Ev fun N=>blockP 0 (stmtP 0 N) N (tok k .blk n++r)=.ok n r)∧(∀n,zpN n→shp k .sarm n=true→∀r,Ev fun N=>sarmP 0 (stmtP 0 N) N (tok k .sarm n++r)=.ok n r)
 | 0=>⟨fun n _ h=>(by cases h),fun n _ h=>(by cases h),fun n _ h=>(by cases h)⟩
 | k+1=>by
  obtain⟨IT,IB,IR⟩:=stm_all k
  refine⟨fun n hz h r hr=>stm_step IB IR hz h hr,fun n hz h r=>?_,fun n hz h r=>?_⟩
  · have h:(ndK n==11&&bareB n&&(ndL n).all (shp k .stm))=true:=h
    rw[Bool.and_eq_true,Bool.and_eq_true,beq_iff_eq,List.all_eq_true] at h
    obtain⟨hs,hN⟩:=bare_of h.1.2
    obtain⟨hn,hzl⟩:=zp_form hz
    refine (ev_until (m:=fun N=>stmtP 0 N) (T:=tok k .stm) (b:=[125]) (ndL n) (fun y hy r hr=>IT y (zpL_mem hzl hy) (h.2 y hy) r hr) (fun y hy r=>stm_head k y (h.2 y hy) r) (StF.w π _) r).mono fun N hq=>?_
    have hp:tok (k+1) .blk n++r=wT [123]::((ndL n).flatMap (tok k .stm)++wT [125]::r):=by
     show wT [123]::((ndL n).flatMap (tok k .stm)++[wT [125]])++r=_
     simp
    rw[hp]
    unfold blockP
    rw[look_ap,bd_ok exp_w,bd_ok hq]
    show Re.ok (Nd.mk 11 e0 0 0 (ndL n)) r=_
    rw[←hs,←h.1.1]
    conv=>rhs;rw[hn,hN]
  · have h:(ndK n==54&&casB (shp k) n .blk)=true:=h
    rw[Bool.and_eq_true,beq_iff_eq] at h
    obtain⟨hs,h2,i,x,hl,hi,hx,hu⟩:=cas_of h.2
    obtain⟨hn,hzl⟩:=zp_form hz
    have e1:=pat_back (q:=54) hl (fun z hz=>zpL_mem hzl (by rw[hl];simp[hz])) hs hi hu (r:=tok k .blk x++r) (by rw[blk_head k x hx r];decide)
    refine (e1.and (IB x (zpL_mem hzl (by rw[hl];simp)) hx r)).mono fun N hN=>?_
    have e:tok (k+1) .sarm n++r=patT n++(tok k .blk x++r):=by
     show patT n++tok k .blk (lastN n)++r=_
     rw[show lastN n=x from by unfold lastN kid;rw[hl];simp];simp
    rw[e]
    unfold sarmP
    rw[bd_ok hN.1,bd_ok hN.2]
    show Re.ok (Nd.mk 54 (ndS n) 0 0 (i++[x])) r=_
    rw[hn,h.1,h2,hl];rfl
theorem blk_back {k:Nat} {n:Nd} (hz:zpN n) (h:shp k .blk n=true) (r:List Tk):Ev fun N=>blockP 0 (stmtP 0 N) N (tok k .blk n++r)=.ok n r:=(stm_all k).2.1 n hz h r
theorem mem_head (k:Nat) (n:Nd) (h:shp k .mem n=true) (r:List Tk):Flw 1 (tok k .mem n++r)∧(wl (tok k .mem n++r)==[125])=false:=by
 cases k with
 | zero=>cases h
 | succ k =>
  show Flw 1 (memT (tok k) n++r)∧(wl (memT (tok k) n++r)==[125])=false
  unfold memT
  split<;>exact⟨Flw.mrk π _ _,by rw[List.cons_append,wl_w];decide⟩
theorem mem_back {k:Nat} {n:Nd} (hz:zpN n) (h:shp k .mem n=true) {r:List Tk} (hr:Flw 1 r):Ev fun N=>memberP 0 N (tok k .mem n++r)=.ok n r:=by
 cases k with
 | zero=>cases h
 | succ k =>
  have h:(if ndK n=9 then namB .low n&&serB (shp k) (ndL n) [.typ,.exp] else ndK n==10&&namB .upp n&&endB (shp k) (ndL n) .fld [.blk])=true:=h
  obtain⟨hn,hzl⟩:=zp_form hz
  show Ev fun N=>memberP 0 N (memT (tok k) n++r)=.ok n r
  by_cases hk:ndK n=9
  · rw[if_pos hk,Bool.and_eq_true] at h
    obtain⟨hs,hN⟩:=nam_of h.1
    have hs:lowB (ndS n).data.toList=true:=hs
    obtain⟨x,y,hl,hx,hy⟩:=kser2 h.2
    rw[hl] at hzl
    have hp:memT (tok k) n++r=wT [115,116,97,116,101]::wdT (ndS n)::wT [58]::(tok k .typ x++wT [61]::(tok k .exp y++r)):=by simp[memT,hk,kid,hl]
    refine ((typ_back k x (zpL_mem hzl (by simp)) hx (wT [61]::(tok k .exp y++r))).and (exp_back k (zpL_mem hzl (by simp)) hy hr)).mono fun N hq=>?_
    rw[hp]
    unfold memberP
    rw[look_ap,acc_w,bd_ok (nam_d hs),bd_ok exp_w,bd_ok hq.1,bd_ok exp_w,bd_ok hq.2]
    show Re.ok (Nd.mk 9 (ndS n) 0 0 [x,y]) r=_
    rw[hn,hk,hN,hl];rfl
  · rw[if_neg hk,Bool.and_eq_true,Bool.and_eq_true,beq_iff_eq] at h
    obtain⟨hs,hN⟩:=nam_of h.1.2
    have hs:uppB (ndS n).data.toList=true:=hs
    obtain⟨i,x,hl,ha,hx⟩:=kend1 h.2
    rw[hl] at hzl
    have hp:memT (tok k) n++r=wT [111,110]::wdT (ndS n)::(lstT [40] [41] (i.map (tok k .fld))++(tok k .blk x++r)):=by simp[memT,h.1.1,initN,lastN,kid,hl]
    refine ((ev_flds (k:=k) (l:=i) (fun z hm=>zpL_mem hzl (by simp[hm])) ha (tok k .blk x++r)).and (blk_back (zpL_mem hzl (by simp)) hx r)).mono fun N hq=>?_
    rw[hp]
    unfold memberP
    rw[look_ap,acc_nw π,bd_ok exp_w,bd_ok (nam_d hs),bd_ok hq.1,bd_ok hq.2]
    show Re.ok (Nd.mk 10 (ndS n) 0 0 (i++[x])) r=_
    rw[hn,h.1.1,hN,hl];rfl
theorem ctor_back {k:Nat} {n:Nd} (hz:zpN n) (h:shp k .ctor n=true) {r:List Tk} (hr:(wl r==[40])=false):Ev fun N=>ctorP 0 N (tok k .ctor n++r)=.ok n r:=by
 cases k with
 | zero=>cases h
 | succ k =>
  have h:(ndK n==8&&namB .upp n&&(ndL n).all (shp k .typ))=true:=h
  rw[Bool.and_eq_true,Bool.and_eq_true,beq_iff_eq,List.all_eq_true] at h
  obtain⟨hs,hN⟩:=nam_of h.1.2
  have hs:uppB (ndS n).data.toList=true:=hs
  obtain⟨hn,hzl⟩:=zp_form hz
  have hp:tok (k+1) .ctor n++r=wdT (ndS n)::((if 0<(ndL n).length then lstT [40] [41] ((ndL n).map (tok k .typ)) else [])++r):=rfl
  rw[hp]
  cases hL:ndL n with
  | nil =>
   refine Ev.of fun N=>?_
   unfold ctorP
   rw[look_ap,bd_ok (nam_d hs)]
   show (acc [40] _ _:M Nd) r=_
   rw[acc_f hr]
   show Re.ok (Nd.mk 8 (ndS n) 0 0 []) r=_
   rw[hn,h.1.1,hN,hL];rfl
  | cons y l =>
   rw[hL] at hzl h
   refine (ev_items (m:=fun N=>typP 0 N) (T:=tok k .typ) (b:=[41]) π y l (fun x hx r _=>typ_back k x (zpL_mem hzl hx) (h.2 x hx) r) r).mono fun N hq=>?_
   unfold ctorP
   rw[look_ap,bd_ok (nam_d hs),if_pos (by simp)]
   have e:lstT [40] [41] ((y::l).map (tok k .typ))++r=wT [40]::(joinT ((y::l).map (tok k .typ))++wT [41]::r):=by simp[lstT]
   rw[e,acc_w,bd_ok hq]
   show Re.ok (Nd.mk 8 (ndS n) 0 0 (y::l)) r=_
   rw[←h.1.1,←hL]
   conv=>rhs;rw[hn,hN]
theorem Flw.nil (lv:Nat):Flw lv []:=⟨fun m hm=>(by rw[show wl []=[] from rfl,show levP []=none from by decide] at hm;cases hm),by decide,by decide,by decide,by decide⟩
theorem fld_head2 (k:Nat) (n:Nd) (h:shp k .fld n=true) (r:List Tk):(wl (tok k .fld n++r)==[125])=false:=by
 cases k with
 | zero=>cases h
 | succ k =>
  obtain⟨_,h1,_⟩:=fld_of h
  show (wl (wdT (ndS n)::_)==[125])=false
  rw[wl_wd];exact pne h1 π
end
section
structure Pst {α:Type} (Q:α→Prop) (m:M α):Prop where
 h:∀ts a r,m ts=.ok a r→Q a
section
variable {α β:Type} {Q:α→Prop} {R:β→Prop}
theorem Pst.bd {m:M β} {f:β→M α} (hf:∀a,Pst Q (f a)):Pst Q (m >>= f):=⟨fun ts b r h=>by
 have e:(m >>= f) ts=(m ts).bd f:=rfl
 rw[e] at h
 cases hm:m ts with
 | out=>rw[hm] at h;cases h
 | bad q=>rw[hm] at h;cases h
 | ok a q=>rw[hm] at h;exact (hf a).h q b r h⟩
theorem Pst.ret {a:α} (h:Q a):Pst Q (pure a:M α):=⟨fun ts b r e=>by cases e;exact h⟩
theorem Pst.acc {w:List UInt8} {y n:M α} (hy:Pst Q y) (hn:Pst Q n):Pst Q (acc w y n):=⟨fun ts b r h=>by
 unfold Proofs.YtbjdcogmiggamaaGreatDoor.acc at h
 split at h
 · exact hy.h _ _ _ h
 · exact hn.h _ _ _ h⟩
theorem Pst.fail:Pst Q (failP:M α):=⟨fun ts b r h=>by cases h⟩
theorem Pst.look {f:List Tk→M α} (h:∀t,Pst Q (f t)):Pst Q (look f):=⟨fun ts b r e=>(h ts).h ts b r e⟩
end
theorem one_eq (e:Int) (patch:Bool) (n:Nat) (ts:List Tk):oneP e patch n ts=(if (patch&&chgB (wl ts))=true then changeP e n else declP e n) ts:=rfl
def finQ (e:Int):Re (List Nd)→RunR
 | .out=>.err 0 0
 | .bad r=>.err 2 (offP e r)
 | .ok q _=>match deepP 0 (.mk 1 e0 0 0 q) with
  | some p=>.err 10 p
  | none=>.ok (.mk 1 e0 0 0 q)
theorem run_ok {patch:Bool} {l:List UInt8} {ts:List Tk} (h:scanP l=.ok ts):runP patch l=finQ l.length (progP (l.length:Int) patch (20*ts.length+1) (ts.length+1) ts):=by
 unfold runP
 rw[h]
 show _=finQ _ _
 unfold finQ
 rfl
theorem run_err {patch:Bool} {l:List UInt8} {x p:Int} (h:scanP l=.err x p):runP patch l=.err x p:=by
 unfold runP
 rw[h]
theorem scanP_errs {l:List UInt8} {x p:Int} (h:scanP l=.err x p):x≠0:=by
 unfold scanP at h
 split at h
 · injection h with h1 h2;omega
 · exact scan_errs _ _ _ _ (Nat.lt_succ_self _) h
theorem fin_ok {e:Int} {q:List Nd} {r:List Tk} (h:deepP 0 (.mk 1 e0 0 0 q)=none):finQ e (.ok q r)=.ok (.mk 1 e0 0 0 q):=by unfold finQ;simp only[h]
theorem fin_deep {e p:Int} {q:List Nd} {r:List Tk} (h:deepP 0 (.mk 1 e0 0 0 q)=some p):finQ e (.ok q r)=.err 10 p:=by unfold finQ;simp only[h]
end
end Go.Proofs.YtbjdcogmiggamaaGreatDoor
