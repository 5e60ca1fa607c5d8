import Derived.Test.YtbjdcogmiggamaaGreatDoorB23
set_option linter.all false
namespace Go.Proofs.YtbjdcogmiggamaaGreatDoor
open Proofs.Tryz RowKit Maps WideMaps ChangeMaps
set_option maxRecDepth 100000
set_option maxHeartbeats 8000000
section
theorem fld_of {k:Nat} {n:Nd} (h:shp (k+1) .fld n=true):ndK n=7∧lowB (ndS n).data.toList=true∧ndN n=0∧∃x,ndL n=[x]∧shp k .typ x=true:=by
 have h:(ndK n==7&&namB .low n&&serB (shp k) (ndL n) [.typ])=true:=h
 rw[Bool.and_eq_true,Bool.and_eq_true,beq_iff_eq] at h
 obtain⟨a,b⟩:=nam_of h.1.2
 exact⟨h.1.1,a,b,kser1 h.2⟩
theorem fld_head:∀(k:Nat) (n:Nd),shp k .fld n=true→∀r,(wl (tok k .fld n++r)==[41])=false
 | 0,n,h,r=>by cases h
 | k+1,n,h,r=>by
  obtain⟨_,h1,_⟩:=fld_of h
  show (wl (wdT (ndS n)::_)==[41])=false
  rw[wl_wd];exact pne h1 π
theorem fld_back:∀(k:Nat) (n:Nd),zpN n→shp k .fld n=true→∀r,Ev fun N=>fieldP 0 N (tok k .fld n++r)=.ok n r
 | 0,n,_,h,r=>by cases h
 | k+1,n,hz,h,r=>by
  obtain⟨hk,h1,h2,x,hl,hx⟩:=fld_of h
  obtain⟨hn,hzl⟩:=zp_form hz
  refine (typ_back k x (zpL_mem hzl (by rw[hl];simp)) hx r).mono fun N hN=>?_
  show fieldP 0 N (wdT (ndS n)::wT [58]::(tok k .typ (kid n 0)++r))=_
  rw[show kid n 0=x from by unfold kid;rw[hl];rfl]
  unfold fieldP
  simp only[look]
  rw[bd_ok (nam_d h1),bd_ok exp_w,bd_ok hN]
  show Re.ok (Nd.mk 7 (ndS n) 0 0 [x]) r=_
  rw[hn,hk,h2,hl];rfl
structure ExB (k:Nat) (n:Nd):Prop where
 ex:∀r,Flw 1 r→Ev fun N=>exprP 0 N false (tok k .exp n++r)=.ok n r
 op:∀lv,1≤lv→lv≤levW n→lv≤8→∀r,Flw lv r→Ev fun N=>operP 0 N false lv (tok k .exp n++r)=.ok n r
 ch:∀m,ndK n=35→levP (ndT n)=some m→m≠4→∀r,Flw (m+1) r→∀M,∃N0,∀N,N0≤N→∃j,M≤j∧operP 0 (N+1) false m (tok k .exp n++r)=binP m (operP 0 N false (m+1)) 0 j n r
 p9:9≤levW n→∀r,(ndK n=29→ndL n=[]→(wl r==[40])=false∧(wl r==[123])=false)→∀M,∃N0,∀N,N0≤N→∃j,M≤j∧p8 false N (tok k .exp n++r)=tailsP 0 (exprP 0 N false) 0 j n r
section
variable {k:Nat} (IE:∀n,zpN n→shp k .exp n=true→ExB k n)
include IE
theorem grp_prim {x:Nd} (hz:zpN x) (hx:shp k .exp x=true) (hh:Bool) (r:List Tk):Ev fun N=>primP 0 (exprP 0 N false) N hh (grpT (tok k) x++r)=.ok x r:=
 ev_grp ((IE x hz hx).ex (wT [41]::r) (Flw.mrk π _ _)) (exp_head k x hx _).c1
theorem grp_p8 {x:Nd} (hz:zpN x) (hx:shp k .exp x=true) (hh:Bool) (r:List Tk):Ev fun N=>p8 hh N (grpT (tok k) x++r)=tailsP 0 (exprP 0 N false) 0 N x r:=
 (grp_prim IE hz hx hh r).mono fun N hN=>by unfold p8;rw[bd_ok hN]
theorem grp_lev {x:Nd} (hz:zpN x) (hx:shp k .exp x=true) (hh:Bool) {lv:Nat} (h1:1≤lv) (h8:lv≤8) {r:List Tk} (hr:Flw lv r):Ev fun N=>operP 0 N hh lv (grpT (tok k) x++r)=.ok x r:=by
 have h:Ev fun N=>p8 hh N (grpT (tok k) x++r)=.ok x r:=((grp_p8 IE hz hx hh r).and Ev.pos).mono fun N hN=>by
  obtain⟨M,rfl⟩:∃M,N=M+1:=⟨N-1,by omega⟩
  rw[hN.1];exact tails_no hr.par hr.dot hr.wit
 refine ev_downs (l:=8) (Nat.le_refl _) (ev_p8 h ?_ rfl) (fun _=>?_) (8-lv) lv ω h1 hr
 · show (wl (wT [40]::_)==[45])=false;rw[wl_w];decide
 · show (wl (wT [40]::_)==[110,111,116])=false;rw[wl_w];decide
theorem grp_head {x:Nd} (hz:zpN x) (hx:shp k .exp x=true) (hh:Bool) {r:List Tk} (hr:Flw 1 r∨wl r=[123]):Ev fun N=>exprP 0 N hh (grpT (tok k) x++r)=.ok x r:=by
 have hf:Ev fun N=>operP 0 N hh 1 (grpT (tok k) x++r)=.ok x r:=by
  rcases hr with hr|hr
  · exact grp_lev IE hz hx hh (Nat.le_refl _) π hr
  · have h:Ev fun N=>p8 hh N (grpT (tok k) x++r)=.ok x r:=((grp_p8 IE hz hx hh r).and Ev.pos).mono fun N hN=>by
     obtain⟨M,rfl⟩:∃M,N=M+1:=⟨N-1,by omega⟩
     rw[hN.1];exact tails_no (by rw[hr];decide) (by rw[hr];decide) (by rw[hr];decide)
    have h8:=ev_p8 h (by show (wl (wT [40]::_)==[45])=false;rw[wl_w];decide) rfl
    have st:∀lv,levP (wl r)≠some lv:=fun lv=>by rw[hr];simp[show levP [123]=none from by decide]
    have h7:=ev_down (lv:=7) π π h8 (st 7)
    have h6:=ev_down (lv:=6) π π h7 (st 6)
    have h5:=ev_down (lv:=5) π π h6 (st 5)
    have h4:=ev_down (lv:=4) π π h5 (st 4)
    have h3:=ev_down3 h4 (by show (wl (wT [40]::_)==[110,111,116])=false;rw[wl_w];decide)
    have h2:=ev_down (lv:=2) π π h3 (st 2)
    exact ev_down (lv:=1) π π h2 (st 1)
 refine ev_expr hf ?_
 show (wl (wT [40]::_)==_)=false∧(wl (wT [40]::_)==_)=false∧(wl (wT [40]::_)==_)=false∧(wl (wT [40]::_)==_)=false
 rw[wl_w];decide
theorem opd_back {x:Nd} (hz:zpN x) (hx:shp k .exp x=true) {lv:Nat} (h1:1≤lv) (h8:lv≤8) {r:List Tk} (hr:Flw lv r):Ev fun N=>operP 0 N false lv (opdT (tok k) x lv++r)=.ok x r:=by
 unfold opdT
 split
 · exact grp_lev IE hz hx false h1 h8 hr
 · exact (IE x hz hx).op lv h1 ω h8 r hr
theorem opd9 {x:Nd} (hz:zpN x) (hx:shp k .exp x=true) (r:List Tk) (hp:ndK x=29→ndL x=[]→(wl r==[40])=false∧(wl r==[123])=false) (M:Nat):∃N0,∀N,N0≤N→∃j,M≤j∧p8 false N (opdT (tok k) x 9++r)=tailsP 0 (exprP 0 N false) 0 j x r:=by
 unfold opdT
 split
 · obtain⟨a,h⟩:=grp_p8 IE hz hx false r
   exact⟨a+M,fun N hN=>⟨N,by omega,h N ω⟩⟩
 · exact (IE x hz hx).p9 ω r hp M
theorem fun_back {n:Nd} {i:List Nd} {x y:Nd} (hl:ndL n=i++[x,y]) (hzi:∀z∈i,zpN z) (hzx:zpN x) (hzy:zpN y) (ha:∀z∈i,shp k .fld z=true) (hx:shp k .typ x=true) (hy:shp k .exp y=true) {r:List Tk} (hr:Flw 1 r):Ev fun N=>functionP 0 (exprP 0 N false) N (funT (tok k) n++r)=.ok (i++[x,y]) r:=by
 have hi:(ndL n).take ((ndL n).length-2)=i:=by rw[hl];simp
 have hx1:kid n ((ndL n).length-2)=x:=by unfold kid;rw[hl];simp
 have hy1:lastN n=y:=by unfold lastN kid;rw[hl];simp
 have e1:=ev_lst (m:=fun N=>fieldP 0 N) (T:=tok k .fld) (a:=[40]) (b:=[41]) π i (fun z hz r _=>fld_back k z (hzi z hz) (ha z hz) r) (fun z hz r=>fld_head k z (ha z hz) r) (wT [58]::(tok k .typ x++wT [61]::(tok k .exp y++r)))
 have e2:=typ_back k x hzx hx (wT [61]::(tok k .exp y++r))
 have e3:=(IE y hzy hy).ex r hr
 refine ((e1.and e2).and e3).mono fun N hN=>?_
 unfold funT
 rw[hi,hx1,hy1]
 have e:lstT [40] [41] (i.map (tok k .fld))++wT [58]::(tok k .typ x++wT [61]::tok k .exp y)++r=lstT [40] [41] (i.map (tok k .fld))++wT [58]::(tok k .typ x++wT [61]::(tok k .exp y++r)):=by simp
 rw[e]
 unfold functionP
 have f:fieldsP 0 N (lstT [40] [41] (i.map (tok k .fld))++wT [58]::(tok k .typ x++wT [61]::(tok k .exp y++r)))=.ok i (wT [58]::(tok k .typ x++wT [61]::(tok k .exp y++r))):=hN.1.1
 rw[bd_ok f,bd_ok exp_w,bd_ok hN.1.2,bd_ok exp_w,bd_ok hN.2]
 rfl
end
end
section
theorem set_of {k:Nat} {n:Nd} (h:shp (k+1) .set n=true):ndK n=28∧lowB (ndS n).data.toList=true∧ndN n=0∧∃x,ndL n=[x]∧shp k .exp x=true:=by
 have h:(ndK n==28&&namB .low n&&serB (shp k) (ndL n) [.exp])=true:=h
 rw[Bool.and_eq_true,Bool.and_eq_true,beq_iff_eq] at h
 obtain⟨a,b⟩:=nam_of h.1.2
 exact⟨h.1.1,a,b,kser1 h.2⟩
theorem set_head:∀(k:Nat) (n:Nd),shp k .set n=true→∀r,(wl (tok k .set n++r)==[125])=false
 | 0,n,h,r=>by cases h
 | k+1,n,h,r=>by
  obtain⟨_,h1,_⟩:=set_of h
  show (wl (wdT (ndS n)::_)==[125])=false
  rw[wl_wd];exact pne h1 π
theorem cas_of {f:Sh→Nd→Bool} {n:Nd} {last:Sh} (h:casB f n last=true):patB (ndS n).data.toList=true∧ndN n=0∧∃i x,ndL n=i++[x]∧(∀y∈i,f (.leaf 40 .bnd) y=true)∧f last x=true∧(ndT n=[95]→i=[]):=by
 unfold casB at h
 split at h
 · cases h
 · rename_i hc
   rw[Bool.and_eq_true] at h
   obtain⟨a,b⟩:=nam_of h.1
   obtain⟨i,x,hl,hi,hx⟩:=kend1 h.2
   refine⟨a,b,i,x,hl,hi,hx,fun e=>?_⟩
   have h1:(ndL n).length=1:=Decidable.byContradiction fun q=>hc ⟨e,q⟩
   rw[hl] at h1
   simp at h1
   exact h1
theorem leaf_of {k:Nat} {q:Int} {p:Wp} {n:Nd} (h:shp k (.leaf q p) n=true):ndK n=q∧p.b (ndS n).data.toList=true∧ndN n=0∧ndL n=[]:=by
 cases k with
 | zero=>cases h
 | succ k =>
  have h:(ndK n==q&&namB p n&&(ndL n).length==0)=true:=h
  rw[Bool.and_eq_true,Bool.and_eq_true,beq_iff_eq,beq_iff_eq] at h
  obtain⟨a,b⟩:=nam_of h.1.2
  exact⟨h.1.1,a,b,List.length_eq_zero_iff.1 h.2⟩
theorem pat_back {k:Nat} {q:Int} {n:Nd} {i:List Nd} {x:Nd} (hl:ndL n=i++[x]) (hzi:∀z∈i,zpN z) (hs:patB (ndS n).data.toList=true) (hi:∀y∈i,shp k (.leaf 40 .bnd) y=true) (hu:ndT n=[95]→i=[]) {r:List Tk} (hr:(wl r==[40])=false):Ev fun N=>patP 0 q N (patT n++r)=.ok (.mk q (ndS n) 0 0 i) r:=by
 have hini:initN n=i:=by unfold initN;rw[hl];simp
 by_cases h0:i=[]
 · subst h0
   refine Ev.of fun N=>?_
   have e:patT n++r=wdT (ndS n)::r:=by unfold patT;rw[hini];rfl
   rw[e]
   unfold patP
   simp only[look]
   rw[bd_ok (nam_d hs)]
   split
   · rfl
   · rw[acc_f hr];rfl
 · obtain⟨y,l,rfl⟩:∃y l,i=y::l:=by cases i with|nil=>exact absurd rfl h0|cons y l=>exact⟨y,l,rfl⟩
   have e1:=ev_items (m:=fun _=>bindP 0) (T:=fun x=>[wdT (ndS x)]) (b:=[41]) π y l (fun z hz r _=>Ev.of fun N=>by
    obtain⟨a,b,c,d⟩:=leaf_of (hi z hz)
    obtain⟨hn,_⟩:=zp_form (hzi z hz)
    show bindP 0 (wdT (ndS z)::r)=_
    unfold bindP
    simp only[look]
    have b:bndB (ndS z).data.toList=true:=b
    rw[bd_ok (nam_d b)]
    show Re.ok (Nd.mk 40 (ndS z) 0 0 []) r=_
    rw[hn,a,c,d];rfl) r
   refine e1.mono fun N hN=>?_
   have e:patT n++r=wdT (ndS n)::wT [40]::(joinT ((y::l).map fun x=>[wdT (ndS x)])++wT [41]::r):=by
    unfold patT lstT;rw[hini,if_pos (by simp)];simp
   rw[e]
   unfold patP
   simp only[look]
   rw[bd_ok (nam_d hs)]
   have hne:((ndS n).data.toList==[95])=false:=by
    cases hq:(ndS n).data.toList==[95] with
    | false=>rfl
    | true=>rw[beq_iff_eq] at hq;exact absurd (hu hq) h0
   rw[hne,if_neg (by simp),acc_w,bd_ok hN];rfl
section
variable {k:Nat} (IE:∀n,zpN n→shp k .exp n=true→ExB k n)
include IE
theorem set_back {n:Nd} (hz:zpN n) (h:shp (k+1) .set n=true) {r:List Tk} (hr:Flw 1 r):Ev fun N=>setP 0 (exprP 0 N false) (tok (k+1) .set n++r)=.ok n r:=by
 obtain⟨hk,h1,h2,x,hl,hx⟩:=set_of h
 obtain⟨hn,hzl⟩:=zp_form hz
 refine ((IE x (zpL_mem hzl (by rw[hl];simp)) hx).ex r hr).mono fun N hN=>?_
 show setP 0 _ (wdT (ndS n)::wT [61]::(tok k .exp (kid n 0)++r))=_
 rw[show kid n 0=x from by unfold kid;rw[hl];rfl]
 unfold setP
 simp only[look]
 rw[bd_ok (nam_d h1),bd_ok exp_w,bd_ok hN]
 show Re.ok (Nd.mk 28 (ndS n) 0 0 [x]) r=_
 rw[hn,hk,h2,hl];rfl
theorem arm_back {n:Nd} (hz:zpN n) (h:shp (k+1) .arm n=true) {r:List Tk} (hr:Flw 1 r):Ev fun N=>armP 0 (exprP 0 N false) N (tok (k+1) .arm n++r)=.ok n r:=by
 have h:(ndK n==39&&casB (shp k) n .exp)=true:=h
 rw[Bool.and_eq_true,beq_iff_eq] at h
 obtain⟨hs,h2,i,x,hl,hi,hx,hu⟩:=cas_of h.2
 obtain⟨hn,hzl⟩:=zp_form hz
 have e1:=pat_back (q:=39) hl (fun z hz=>zpL_mem hzl (by rw[hl];simp[hz])) hs hi hu (r:=wT [61,62]::(tok k .exp x++r)) (by rw[wl_w];decide)
 have e2:=(IE x (zpL_mem hzl (by rw[hl];simp)) hx).ex r hr
 refine (e1.and e2).mono fun N hN=>?_
 have e:tok (k+1) .arm n++r=patT n++wT [61,62]::(tok k .exp x++r):=by
  show patT n++wT [61,62]::tok k .exp (lastN n)++r=_
  rw[show lastN n=x from by unfold lastN kid;rw[hl];simp];simp
 rw[e]
 unfold armP
 rw[bd_ok hN.1,bd_ok exp_w,bd_ok hN.2]
 show Re.ok (Nd.mk 39 (ndS n) 0 0 (i++[x])) r=_
 rw[hn,h.1,h2,hl];rfl
end
theorem of9 {k:Nat} {n:Nd} (h:shp k .exp n=true) (h9:9≤levW n) (hk:ndK n≠35) (p9:∀r,(ndK n=29→ndL n=[]→(wl r==[40])=false∧(wl r==[123])=false)→∀M,∃N0,∀N,N0≤N→∃j,M≤j∧p8 false N (tok k .exp n++r)=tailsP 0 (exprP 0 N false) 0 j n r):ExB k n:=by
 have op:∀lv,1≤lv→lv≤8→∀r,Flw lv r→Ev fun N=>operP 0 N false lv (tok k .exp n++r)=.ok n r:=fun lv h1 h8 r hr=>by
  have hd:=exp_head k n h r
  have hp:Ev fun N=>p8 false N (tok k .exp n++r)=.ok n r:=by
   obtain⟨a,hN⟩:=p9 r (fun _ _=>⟨hr.par,hr.cur⟩) 1
   refine⟨a,fun N hNa=>?_⟩
   obtain⟨j,hj,e⟩:=hN N hNa
   obtain⟨i,rfl⟩:∃i,j=i+1:=⟨j-1,by omega⟩
   rw[e];exact tails_no hr.par hr.dot hr.wit
  exact ev_downs (l:=8) (Nat.le_refl _) (ev_p8 hp (hd.o9 h9) hd.off) (fun _=>hd.o4 ω) (8-lv) lv ω h1 hr
 exact⟨fun r hr=>ev_expr (op 1 (Nat.le_refl _) π r hr) ((exp_head k n h r).o1 ω),fun lv h1 _ h8 r hr=>op lv h1 h8 r hr,fun m e=>absurd e hk,fun _=>p9⟩
theorem of10 {k:Nat} {n:Nd} (h:shp k .exp n=true) (h9:9≤levW n) (hk:ndK n≠35) (hp:∀r,(ndK n=29→ndL n=[]→(wl r==[40])=false∧(wl r==[123])=false)→Ev fun N=>primP 0 (exprP 0 N false) N false (tok k .exp n++r)=.ok n r):ExB k n:=
 of9 h h9 hk fun r hr M=>by
  obtain⟨a,hN⟩:=hp r hr
  exact⟨a+M,fun N hNa=>⟨N,by omega,by unfold p8;rw[bd_ok (hN N ω)]⟩⟩
theorem flw_of {w:List UInt8} {b:List UInt8} {r:List Tk} (h:wl r=[44]∨wl r=b) (hb:levP b=none∧(b==[40])=false∧(b==[46])=false∧(b==[119,105,116,104])=false∧(b==[123])=false):Flw 1 r:=by
 rcases h with h|h<;>exact⟨fun m hm=>(by rw[h] at hm;first|(rw[hb.1] at hm;cases hm)|(revert hm;decide +revert)),by rw[h];first|exact hb.2.1|decide,by rw[h];first|exact hb.2.2.1|decide,by rw[h];first|exact hb.2.2.2.1|decide,by rw[h];first|exact hb.2.2.2.2|decide⟩
end
section
theorem kd_wd (s:Ê) (r:List Tk):¬(kd (wdT s::r)=2)∧¬(kd (wdT s::r)=3):=by
 unfold wdT
 show ¬((if letF s then (1:Int) else 4)=2)∧¬((if letF s then (1:Int) else 4)=3)
 split<;>decide
theorem kd_w (l:List UInt8) (r:List Tk):¬(kd (wT l::r)=2)∧¬(kd (wT l::r)=3):=kd_wd _ _
theorem upp_low {l:List UInt8} (h:uppB l=true):lowB l=false:=by
 cases l with
 | nil=>cases h
 | cons c r =>
  unfold uppB wordP at h
  unfold lowB wordP
  simp only[Bool.and_eq_true,decide_eq_true_eq] at h
  have:decide (97≤c.toNat)=false:=decide_eq_false ω
  show (decide (97≤c.toNat)&&decide (c.toNat≤122)&&(c::r).all nameC&&!resB (c::r))=false
  rw[this];rfl
section
variable {x:M Nd} {N:Nat} {s:Ê} {T:List Tk}
theorem prim_upp (h:uppB s.data.toList=true):primP 0 x N false (wdT s::T)=(acc [123] (do let l ←listP [125] (setP 0 x) N;pure (.mk 27 s 0 0 l)) (consP x N s 0):M Nd) T:=by
 unfold primP
 simp only[look]
 rw[if_neg (kd_wd s T).1,if_neg (kd_wd s T).2,acc_nd (pne h π),acc_nd (pne h π),acc_nd (pne h π),acc_nd (pne h π),acc_nd (pne h π),if_neg (by rw[wl_wd,upp_low h];simp),bd_ok (nam_d h)]
 rfl
theorem prim_low (h:lowB s.data.toList=true):primP 0 x N false (wdT s::T)=.ok (.mk 24 s 0 0 []) T:=by
 unfold primP
 simp only[look]
 rw[if_neg (kd_wd s T).1,if_neg (kd_wd s T).2,acc_nd (pne h π),acc_nd (pne h π),acc_nd (pne h π),acc_nd (pne h π),acc_nd (pne h π),if_pos (by rw[wl_wd];exact h)]
 show Re.ok (Nd.mk 24 (wrd (wdT s::T)) 0 0 []) T=_
 rw[wrd_wd]
end
theorem e0_of {n:Nd} (h:(ndT n==[])=true):ndS n=e0:=by
 rw[beq_iff_eq] at h
 apply ByteArray.ext
 apply Array.toList_inj.1
 show (ndS n).data.toList=_
 have h:(ndS n).data.toList=[]:=h
 rw[h];rfl
section
variable {k:Nat} (IE:∀n,zpN n→shp k .exp n=true→ExB k n) (IS:∀n,zpN n→shp k .set n=true→∀r,Flw 1 r→Ev fun N=>setP 0 (exprP 0 N false) (tok k .set n++r)=.ok n r) (IA:∀n,zpN n→shp k .arm n=true→∀r,Flw 1 r→Ev fun N=>armP 0 (exprP 0 N false) N (tok k .arm n++r)=.ok n r)
include IE in
theorem st_lit {n:Nd} (hz:zpN n) (h:shp (k+1) .exp n=true) (hk:ndK n=20∨ndK n=21∨ndK n=22∨ndK n=23∨ndK n=24∨ndK n=25) (h0:ndL n=[]) (hc:cnsB n=true):ExB (k+1) n:=by
 obtain⟨hn,_⟩:=zp_form hz
 have hl:levW n=10:=by rcases hk with hk|hk|hk|hk|hk|hk<;>simp[levW,hk]
 refine of10 h ω ω fun r _=>Ev.of fun N=>?_
 show primP 0 _ N false (expT (tok k) n++r)=_
 unfold cnsB at hc
 rcases hk with hk|hk|hk|hk|hk|hk
 · have hp:expT (tok k) n=[inT (ndN n)]:=by simp[expT,priT,hk]
   simp[hk] at hc
   have hs:=e0_of (n:=n) (by simp[hc])
   rw[hp]
   show Re.ok (Nd.mk 20 e0 (ndN n) 0 []) r=_
   rw[hn,hk,hs,h0];rfl
 · have hp:expT (tok k) n=[⟨3,ndS n,0,0⟩]:=by simp[expT,priT,hk]
   simp[hk] at hc
   rw[hp]
   show Re.ok (Nd.mk 21 (ndS n) 0 0 []) r=_
   rw[hn,hk,hc.1,h0];rfl
 · have hp:expT (tok k) n=if ndN n=1 then [wT [116,114,117,101]] else [wT [102,97,108,115,101]]:=by simp[expT,priT,hk]
   simp[hk] at hc
   have hs:=e0_of (n:=n) (by simp[hc])
   rcases hc.2 with hN|hN
   · rw[hp,if_neg ω,List.singleton_append]
     unfold primP
     simp only[look]
     rw[if_neg (kd_w _ _).1,if_neg (kd_w _ _).2,acc_nw π,acc_w]
     show Re.ok (Nd.mk 22 e0 0 0 []) r=_
     rw[hn,hk,hN,hs,h0]
   · rw[hp,if_pos hN,List.singleton_append]
     unfold primP
     simp only[look]
     rw[if_neg (kd_w _ _).1,if_neg (kd_w _ _).2,acc_w]
     show Re.ok (Nd.mk 22 e0 1 0 []) r=_
     rw[hn,hk,hN,hs,h0]
 · have hp:expT (tok k) n=[wT [40],wT [41]]:=by simp[expT,priT,hk]
   simp[hk] at hc
   obtain⟨hs,hN⟩:=bare_of hc
   rw[hp]
   unfold primP
   simp only[look]
   rw[show [wT [40],wT [41]]++r=wT [40]::wT [41]::r from rfl,if_neg (kd_w _ _).1,if_neg (kd_w _ _).2,acc_nw π,acc_nw π,acc_nw π,acc_nw π,acc_w,acc_w]
   show Re.ok (Nd.mk 23 e0 0 0 []) r=_
   rw[hn,hk,hN,hs,h0]
 · have hp:expT (tok k) n=[wdT (ndS n)]:=by simp[expT,priT,hk]
   simp[hk] at hc
   obtain⟨hs,hN⟩:=nam_of hc
   rw[hp,List.singleton_append,prim_low hs,hn,hk,hN,h0];rfl
 · have hp:expT (tok k) n=[wT [115,101,108,102]]:=by simp[expT,priT,hk]
   simp[hk] at hc
   obtain⟨hs,hN⟩:=bare_of hc
   rw[hp]
   unfold primP
   simp only[look]
   rw[List.singleton_append,if_neg (kd_w _ _).1,if_neg (kd_w _ _).2,acc_nw π,acc_nw π,acc_w]
   show Re.ok (Nd.mk 25 e0 0 0 []) r=_
   rw[hn,hk,hN,hs,h0]
include IE in
theorem st_lst {n:Nd} (hz:zpN n) (h:shp (k+1) .exp n=true) (hk:ndK n=26) (hs:ndS n=e0) (hN:ndN n=0) (ha:∀x∈ndL n,shp k .exp x=true):ExB (k+1) n:=by
 obtain⟨hn,hzl⟩:=zp_form hz
 refine of10 h (by simp[levW,hk]) ω fun r _=>?_
 have hp:tok (k+1) .exp n++r=wT [91]::(joinT ((ndL n).map (tok k .exp))++wT [93]::r):=by
  show expT (tok k) n++r=_
  simp[expT,priT,lstT,hk]
 rw[hp]
 refine (ev_list (m:=fun N=>exprP 0 N false) (T:=tok k .exp) (b:=[93]) π (ndL n) (fun x hx r hr=>(IE x (zpL_mem hzl hx) (ha x hx)).ex r (flw_of (w:=[]) hr π)) (fun x hx r=>(exp_head k x (ha x hx) r).c2) r).mono fun N hq=>?_
 unfold primP
 simp only[look]
 rw[if_neg (kd_w _ _).1,if_neg (kd_w _ _).2,acc_nw π,acc_nw π,acc_nw π,acc_w,bd_ok hq]
 show Re.ok (Nd.mk 26 e0 0 0 (ndL n)) r=_
 rw[←hs,←hk]
 conv=>rhs;rw[hn,hN]
include IE IS in
theorem st_new {n:Nd} (hz:zpN n) (h:shp (k+1) .exp n=true) (hk:ndK n=27) (hs:uppB (ndS n).data.toList=true) (hN:ndN n=0) (ha:∀x∈ndL n,shp k .set x=true):ExB (k+1) n:=by
 obtain⟨hn,hzl⟩:=zp_form hz
 refine of10 h (by simp[levW,hk]) ω fun r _=>?_
 have hp:tok (k+1) .exp n++r=wdT (ndS n)::wT [123]::(joinT ((ndL n).map (tok k .set))++wT [125]::r):=by
  show expT (tok k) n++r=_
  simp[expT,priT,lstT,hk]
 rw[hp]
 refine (ev_list (m:=fun N=>setP 0 (exprP 0 N false)) (T:=tok k .set) (b:=[125]) π (ndL n) (fun x hx r hr=>IS x (zpL_mem hzl hx) (ha x hx) r (flw_of (w:=[]) hr π)) (fun x hx r=>set_head k x (ha x hx) r) r).mono fun N hq=>?_
 rw[prim_upp hs,acc_w,bd_ok hq]
 show Re.ok (Nd.mk 27 (ndS n) 0 0 (ndL n)) r=_
 rw[←hk]
 conv=>rhs;rw[hn,hN]
include IE in
theorem st_con {n:Nd} (hz:zpN n) (h:shp (k+1) .exp n=true) (hk:ndK n=29) (hs:uppB (ndS n).data.toList=true) (hN:ndN n=0) (ha:∀x∈ndL n,shp k .exp x=true):ExB (k+1) n:=by
 obtain⟨hn,hzl⟩:=zp_form hz
 refine of10 h (by simp[levW,hk]) ω fun r hr=>?_
 have hp:tok (k+1) .exp n++r=wdT (ndS n)::((if 0<(ndL n).length then lstT [40] [41] ((ndL n).map (tok k .exp)) else [])++r):=by
  show expT (tok k) n++r=_
  simp[expT,priT,hk]
 rw[hp]
 cases hL:ndL n with
 | nil =>
  obtain⟨r1,r2⟩:=hr hk hL
  refine Ev.of fun N=>?_
  rw[prim_upp hs]
  show (acc [123] _ _:M Nd) r=_
  rw[acc_f r2]
  unfold consP
  rw[acc_f r1]
  show Re.ok (Nd.mk 29 (ndS n) 0 0 []) r=_
  rw[hn,hk,hN,hL];rfl
 | cons y l =>
  rw[hL] at ha hzl
  refine (ev_items (m:=fun N=>exprP 0 N false) (T:=tok k .exp) (b:=[41]) π y l (fun x hx r hr=>(IE x (zpL_mem hzl hx) (ha x hx)).ex r (flw_of (w:=[]) hr π)) r).mono fun N hq=>?_
  rw[prim_upp hs,if_pos (by simp)]
  have e:lstT [40] [41] ((y::l).map (tok k .exp))++r=wT [40]::(joinT ((y::l).map (tok k .exp))++wT [41]::r):=by simp[lstT]
  rw[e,acc_nw π]
  unfold consP
  rw[acc_w,bd_ok hq]
  show Re.ok (Nd.mk 29 (ndS n) 0 0 (y::l)) r=_
  rw[←hk,←hL]
  conv=>rhs;rw[hn,hN]
end
end
section
theorem lev_word {w v:List UInt8} {m:Nat} (h:levP w=some m) (hv:levP v=none):(w==v)=false:=by
 cases hq:w==v with
 | false=>rfl
 | true=>rw[beq_iff_eq] at hq;rw[hq,hv] at h;cases h
theorem Flw.op {s:Ê} {m:Nat} (h:levP s.data.toList=some m) (r:List Tk):Flw (m+1) (wdT s::r):=
 ⟨fun q hq=>(by rw[wl_wd,h] at hq;injection hq with hq;omega),by rw[wl_wd];exact lev_word h π,by rw[wl_wd];exact lev_word h π,by rw[wl_wd];exact lev_word h π,by rw[wl_wd];exact lev_word h π⟩
section
variable {k:Nat} (IE:∀n,zpN n→shp k .exp n=true→ExB k n) (IS:∀n,zpN n→shp k .set n=true→∀r,Flw 1 r→Ev fun N=>setP 0 (exprP 0 N false) (tok k .set n++r)=.ok n r) (IA:∀n,zpN n→shp k .arm n=true→∀r,Flw 1 r→Ev fun N=>armP 0 (exprP 0 N false) N (tok k .arm n++r)=.ok n r)
include IE in
theorem st_get {n:Nd} (hz:zpN n) (h:shp (k+1) .exp n=true) (hk:ndK n=30) (hs:lowB (ndS n).data.toList=true) (hN:ndN n=0) {x:Nd} (hl:ndL n=[x]) (hx:shp k .exp x=true):ExB (k+1) n:=by
 obtain⟨hn,hzl⟩:=zp_form hz
 refine of9 h (by simp[levW,hk]) ω fun r _ M=>?_
 have hp:tok (k+1) .exp n++r=opdT (tok k) x 9++(wT [46]::wdT (ndS n)::r):=by
  show expT (tok k) n++r=_
  simp[expT,posT,hk,kid,hl]
 rw[hp]
 obtain⟨a,hq⟩:=opd9 IE (zpL_mem hzl (by rw[hl];simp)) hx (wT [46]::wdT (ndS n)::r) (fun _ _=>by rw[wl_w];decide) (M+1)
 refine⟨a,fun N hNa=>?_⟩
 obtain⟨j,hj,e⟩:=hq N hNa
 obtain⟨i,rfl⟩:∃i,j=i+1:=⟨j-1,by omega⟩
 refine⟨i,by omega,?_⟩
 rw[e]
 conv=>lhs;unfold tailsP
 simp only[look]
 rw[if_neg (by rw[wl_w];decide),acc_w,bd_ok (nam_d hs)]
 rw[hn,hk,hN,hl];rfl
include IE IS in
theorem st_wit {n:Nd} (hz:zpN n) (h:shp (k+1) .exp n=true) (hk:ndK n=31) (hs:ndS n=e0) (hN:ndN n=0) {x y:Nd} {l:List Nd} (hl:ndL n=x::y::l) (hx:shp k .exp x=true) (ha:∀z∈y::l,shp k .set z=true):ExB (k+1) n:=by
 obtain⟨hn,hzl⟩:=zp_form hz
 rw[hl] at hzl
 refine of9 h (by simp[levW,hk]) ω fun r _ M=>?_
 have hp:tok (k+1) .exp n++r=opdT (tok k) x 9++(wT [119,105,116,104]::wT [123]::(joinT ((y::l).map (tok k .set))++wT [125]::r)):=by
  show expT (tok k) n++r=_
  simp[expT,posT,hk,kid,hl,lstT]
 rw[hp]
 obtain⟨a,hq⟩:=opd9 IE (zpL_mem hzl (by simp)) hx (wT [119,105,116,104]::wT [123]::(joinT ((y::l).map (tok k .set))++wT [125]::r)) (fun _ _=>by rw[wl_w];decide) (M+l.length+2)
 obtain⟨c,hi⟩:=ev_itemsJ (m:=fun N=>setP 0 (exprP 0 N false)) (T:=tok k .set) (b:=[125]) π y l (fun z hz r hr=>IS z (zpL_mem hzl (List.mem_cons_of_mem _ hz)) (ha z hz) r (flw_of (w:=[]) hr π)) r
 refine⟨a+c,fun N hNa=>?_⟩
 obtain⟨j,hj,e⟩:=hq N ω
 obtain⟨i,rfl⟩:∃i,j=i+1:=⟨j-1,by omega⟩
 refine⟨i,by omega,?_⟩
 rw[e]
 conv=>lhs;unfold tailsP
 simp only[look]
 rw[if_neg (by rw[wl_w];decide),acc_nw π,acc_w,bd_ok exp_w,bd_ok (hi N ω i ω)]
 rw[hn,hk,hN,hl,hs]
include IE in
theorem st_cal {n:Nd} (hz:zpN n) (h:shp (k+1) .exp n=true) (hk:ndK n=32) (hs:ndS n=e0) (hN:ndN n=0) {x:Nd} {l:List Nd} (hl:ndL n=x::l) (hx:shp k .exp x=true) (ha:∀z∈l,shp k .exp z=true):ExB (k+1) n:=by
 obtain⟨hn,hzl⟩:=zp_form hz
 rw[hl] at hzl
 refine of9 h (by simp[levW,hk]) ω fun r _ M=>?_
 have hp:tok (k+1) .exp n++r=(if ndK x=29∧(ndL x).length=0 then grpT (tok k) x else opdT (tok k) x 9)++(wT [40]::(joinT (l.map (tok k .exp))++wT [41]::r)):=by
  show expT (tok k) n++r=_
  simp[expT,posT,hk,kid,hl,lstT]
 rw[hp]
 have hq:∃N0,∀N,N0≤N→∃j,M+l.length+2≤j∧p8 false N ((if ndK x=29∧(ndL x).length=0 then grpT (tok k) x else opdT (tok k) x 9)++(wT [40]::(joinT (l.map (tok k .exp))++wT [41]::r)))=tailsP 0 (exprP 0 N false) 0 j x (wT [40]::(joinT (l.map (tok k .exp))++wT [41]::r)):=by
  by_cases hc:ndK x=29∧(ndL x).length=0
  · rw[if_pos hc]
    obtain⟨a,hq⟩:=grp_p8 IE (zpL_mem hzl (by simp)) hx false (wT [40]::(joinT (l.map (tok k .exp))++wT [41]::r))
    exact⟨a+M+l.length+2,fun N hNa=>⟨N,by omega,hq N ω⟩⟩
  · rw[if_neg hc]
    exact opd9 IE (zpL_mem hzl (by simp)) hx _ (fun h1 h2=>absurd ⟨h1,by rw[h2];rfl⟩ hc) _
 obtain⟨a,hq⟩:=hq
 obtain⟨c,hi⟩:=ev_listJ (m:=fun N=>exprP 0 N false) (T:=tok k .exp) (b:=[41]) π l (fun z hz r hr=>(IE z (zpL_mem hzl (List.mem_cons_of_mem _ hz)) (ha z hz)).ex r (flw_of (w:=[]) hr π)) (fun z hz r=>(exp_head k z (ha z hz) r).c1) r
 refine⟨a+c,fun N hNa=>?_⟩
 obtain⟨j,hj,e⟩:=hq N ω
 obtain⟨i,rfl⟩:∃i,j=i+1:=⟨j-1,by omega⟩
 refine⟨i,by omega,?_⟩
 rw[e]
 conv=>lhs;unfold tailsP
 simp only[look]
 have hg:argsP (exprP 0 N false) i (wT [40]::(joinT (l.map (tok k .exp))++wT [41]::r))=.ok l r:=by
  unfold argsP
  rw[bd_ok exp_w];exact hi N ω i ω
 rw[if_pos (by rw[wl_w];decide),bd_ok hg]
 rw[hn,hk,hN,hl,hs]
include IE in
theorem st_neg {n:Nd} (hz:zpN n) (h:shp (k+1) .exp n=true) (hk:ndK n=33) (hs:ndS n=e0) (hN:ndN n=0) {x:Nd} (hl:ndL n=[x]) (hx:shp k .exp x=true):ExB (k+1) n:=by
 obtain⟨hn,hzl⟩:=zp_form hz
 have hL:levW n=8:=by simp[levW,hk]
 have op:∀lv,1≤lv→lv≤8→∀r,Flw lv r→Ev fun N=>operP 0 N false lv (tok (k+1) .exp n++r)=.ok n r:=fun lv h1 h8 r hr=>by
  have hp:tok (k+1) .exp n++r=wT [45]::(opdT (tok k) x 8++r):=by
   show expT (tok k) n++r=_
   simp[expT,hk,kid,hl]
  have hd:=exp_head (k+1) n h r
  refine ev_downs (l:=8) (Nat.le_refl _) ?_ (fun _=>hd.o4 ω) (8-lv) lv ω h1 hr
  refine (opd_back IE (zpL_mem hzl (by rw[hl];simp)) hx π (Nat.le_refl _) (hr.up h8)).up fun N hq=>?_
  rw[hp,operP]
  simp only[look]
  rw[if_pos trivial,if_neg π,acc_w,bd_ok hq]
  show Re.ok (Nd.mk 33 e0 0 0 [x]) r=_
  rw[hn,hk,hN,hl,hs]
 exact⟨fun r hr=>ev_expr (op 1 (Nat.le_refl _) π r hr) ((exp_head (k+1) n h r).o1 ω),fun lv h1 _ h8 r hr=>op lv h1 h8 r hr,fun m e=>absurd e ω,fun e=>absurd e ω⟩
include IE in
theorem st_no {n:Nd} (hz:zpN n) (h:shp (k+1) .exp n=true) (hk:ndK n=34) (hs:ndS n=e0) (hN:ndN n=0) {x:Nd} (hl:ndL n=[x]) (hx:shp k .exp x=true):ExB (k+1) n:=by
 obtain⟨hn,hzl⟩:=zp_form hz
 have hL:levW n=3:=by simp[levW,hk]
 have op:∀lv,1≤lv→lv≤3→∀r,Flw lv r→Ev fun N=>operP 0 N false lv (tok (k+1) .exp n++r)=.ok n r:=fun lv h1 h8 r hr=>by
  have hp:tok (k+1) .exp n++r=wT [110,111,116]::(opdT (tok k) x 3++r):=by
   show expT (tok k) n++r=_
   simp[expT,hk,kid,hl]
  refine ev_downs (l:=3) π ?_ (fun e=>absurd e π) (3-lv) lv ω h1 hr
  refine (opd_back IE (zpL_mem hzl (by rw[hl];simp)) hx π π (hr.up h8)).up fun N hq=>?_
  rw[hp,operP]
  simp only[look]
  rw[if_pos trivial,acc_w,bd_ok hq]
  show Re.ok (Nd.mk 34 e0 0 0 [x]) r=_
  rw[hn,hk,hN,hl,hs]
 exact⟨fun r hr=>ev_expr (op 1 (Nat.le_refl _) π r hr) ((exp_head (k+1) n h r).o1 ω),fun lv h1 hlv h8 r hr=>op lv h1 ω r hr,fun m e=>absurd e ω,fun e=>absurd e ω⟩
end
end
section
theorem lvl_ne {k:Nat} {x:Nd} {m:Nat} (hx:shp k .exp x=true) (hm:m=1∨m=2∨m=4∨m=5∨m=6∨m=7) (h:¬(ndK x=35∧levP (ndT x)=some m)):levW x≠m:=by
 cases k with
 | zero=>cases hx
 | succ k =>
  have hx:expB (shp k) x=true:=hx
  cases ex_form hx with
  | lit hk _ _=>rcases hk with hk|hk|hk|hk|hk|hk<;>simp[levW,hk]<;>omega
  | lst hk=>simp[levW,hk];omega
  | new hk=>simp[levW,hk];omega
  | con hk=>simp[levW,hk];omega
  | get hk=>simp[levW,hk];omega
  | wit hk=>simp[levW,hk];omega
  | cal hk=>simp[levW,hk];omega
  | neg hk=>simp[levW,hk];omega
  | no hk=>simp[levW,hk];omega
  | bin hk q hq =>
   simp[levW,hk,hq]
   intro e
   exact h ⟨hk,by rw[hq,e]⟩
  | ite hk=>simp[levW,hk];omega
  | lett hk=>simp[levW,hk];omega
  | mat hk=>simp[levW,hk];omega
  | lam hk=>simp[levW,hk];omega
section
variable {k:Nat} (IE:∀n,zpN n→shp k .exp n=true→ExB k n) (IA:∀n,zpN n→shp k .arm n=true→∀r,Flw 1 r→Ev fun N=>armP 0 (exprP 0 N false) N (tok k .arm n++r)=.ok n r)
include IE in
theorem st_bin {n:Nd} (hz:zpN n) (h:shp (k+1) .exp n=true) (hk:ndK n=35) {m:Nat} (hs:levP (ndT n)=some m) (hN:ndN n=0) {x y:Nd} (hl:ndL n=[x,y]) (hx:shp k .exp x=true) (hy:shp k .exp y=true):ExB (k+1) n:=by
 obtain⟨hn,hzl⟩:=zp_form hz
 rw[hl] at hzl
 have hzx:zpN x:=zpL_mem hzl (by simp)
 have hzy:zpN y:=zpL_mem hzl (by simp)
 have hL:levW n=m:=by simp[levW,hk,hs]
 have hm:=lev_range hs
 have hp:∀r,tok (k+1) .exp n++r=opdT (tok k) x (if m=4 then 5 else m)++(wdT (ndS n)::(opdT (tok k) y (m+1)++r)):=fun r=>by
  show expT (tok k) n++r=_
  simp[expT,binT,hk,kid,hl,hs]
 have hnn:n=.mk 35 (ndS n) 0 0 [x,y]:=by conv=>lhs;rw[hn,hk,hN,hl]
 have lv:∀r,levP (wl (wdT (ndS n)::r))=some m:=fun r=>by rw[wl_wd];exact hs
 have ch:m≠4→∀r,Flw (m+1) r→∀B,∃N0,∀N,N0≤N→∃j,B≤j∧operP 0 (N+1) false m (tok (k+1) .exp n++r)=binP m (operP 0 N false (m+1)) 0 j n r:=fun h4 r hr B=>by
  obtain⟨b,hy2⟩:=opd_back IE hzy hy (lv:=m+1) ω ω hr
  have step:∀N j,b≤N→binP m (operP 0 N false (m+1)) 0 (j+1) x (wdT (ndS n)::(opdT (tok k) y (m+1)++r))=binP m (operP 0 N false (m+1)) 0 j n r:=fun N j hb=>by
   conv=>lhs;unfold binP
   simp only[look]
   rw[if_pos (lv _)]
   show ((operP 0 N false (m+1) >>= fun b=>if m=4 then pure (Nd.mk 35 (wrd (wdT (ndS n)::(opdT (tok k) y (m+1)++r))) 0 0 [x,b]) else binP m (operP 0 N false (m+1)) 0 j (Nd.mk 35 (wrd (wdT (ndS n)::(opdT (tok k) y (m+1)++r))) 0 0 [x,b])):M Nd) (opdT (tok k) y (m+1)++r)=_
   rw[bd_ok (hy2 N hb),if_neg h4,wrd_wd,←hnn]
  rw[hp,if_neg h4]
  by_cases hc:ndK x=35∧levP (ndT x)=some m
  · have e:opdT (tok k) x m=tok k .exp x:=by
     unfold opdT
     rw[if_neg (by simp[levW,hc.1,hc.2])]
    rw[e]
    obtain⟨a,hq⟩:=(IE x hzx hx).ch m hc.1 hc.2 h4 (wdT (ndS n)::(opdT (tok k) y (m+1)++r)) (Flw.op hs _) (B+1)
    refine⟨a+b,fun N hNa=>?_⟩
    obtain⟨j,hj,e⟩:=hq N ω
    obtain⟨i,rfl⟩:∃i,j=i+1:=⟨j-1,by omega⟩
    exact⟨i,by omega,e.trans (step N i ω)⟩
  · have e:opdT (tok k) x m=opdT (tok k) x (m+1):=by
     have:=lvl_ne hx hm hc
     unfold opdT
     by_cases q:levW x<m
     · rw[if_pos q,if_pos ω]
     · rw[if_neg q,if_neg ω]
    have hd:=(exp_head (k+1) n h r).off
    rw[hp,if_neg h4,e] at hd
    rw[e]
    obtain⟨a,hq⟩:=opd_back IE hzx hx (lv:=m+1) ω ω (Flw.op hs (opdT (tok k) y (m+1)++r))
    refine⟨a+b+B+1,fun N hNa=>⟨N-1,by omega,?_⟩⟩
    rw[operP]
    simp only[look]
    rw[if_neg ω,if_neg ω,bd_ok (hq N ω),hd]
    have:=step N (N-1) ω
    rw[show N-1+1=N from by omega] at this
    exact this
 have opm:∀r,Flw (m+1) r→levP (wl r)≠some m→Ev fun N=>operP 0 N false m (tok (k+1) .exp n++r)=.ok n r:=fun r hr hne=>by
  by_cases h4:m=4
  · subst h4
    obtain⟨b,hy2⟩:=opd_back IE hzy hy (lv:=5) ω ω hr
    obtain⟨a,hq⟩:=opd_back IE hzx hx (lv:=5) ω ω (Flw.op hs (opdT (tok k) y 5++r))
    refine⟨a+b+2,fun N hNa=>?_⟩
    obtain⟨i,rfl⟩:∃i,N=i+2:=⟨N-2,by omega⟩
    have hd:=(exp_head (k+1) n h r).off
    rw[hp,if_pos rfl] at hd
    rw[hp,if_pos rfl,operP]
    simp only[look]
    rw[if_neg π,if_neg π,bd_ok (hq (i+1) ω),hd]
    conv=>lhs;unfold binP
    simp only[look]
    rw[if_pos (lv _)]
    show ((operP 0 (i+1) false 5 >>= fun b=>if 4=4 then pure (Nd.mk 35 (wrd (wdT (ndS n)::(opdT (tok k) y 5++r))) 0 0 [x,b]) else binP 4 (operP 0 (i+1) false 5) 0 i (Nd.mk 35 (wrd (wdT (ndS n)::(opdT (tok k) y 5++r))) 0 0 [x,b])):M Nd) (opdT (tok k) y 5++r)=_
    rw[bd_ok (hy2 (i+1) ω),if_pos rfl,wrd_wd,←hnn];rfl
  · obtain⟨a,hq⟩:=ch h4 r hr 1
    refine⟨a+1,fun N hNa=>?_⟩
    obtain⟨i,rfl⟩:∃i,N=i+1:=⟨N-1,by omega⟩
    obtain⟨j,hj,e⟩:=hq i ω
    obtain⟨q,rfl⟩:∃q,j=q+1:=⟨j-1,by omega⟩
    rw[e];exact bin_no hne
 have op:∀lv,1≤lv→lv≤m→∀r,Flw lv r→Ev fun N=>operP 0 N false lv (tok (k+1) .exp n++r)=.ok n r:=fun lv h1 hlv r hr =>
  ev_downs (l:=m) ω (opm r (hr.up ω) (fun e=>by have:=hr.lev _ e;omega)) (fun e=>(exp_head (k+1) n h r).o4 ω) (m-lv) lv ω h1 hr
 exact⟨fun r hr=>ev_expr (op 1 (Nat.le_refl _) ω r hr) ((exp_head (k+1) n h r).o1 ω),fun lv h1 hlv _ r hr=>op lv h1 ω r hr,fun q _ hq h4=>by
  rw[hs] at hq
  injection hq with hq
  subst hq
  exact ch h4,fun e=>absurd e ω⟩
theorem open_of {n:Nd} (h0:levW n=0) (hk:ndK n≠35) (h:∀r,Flw 1 r→Ev fun N=>exprP 0 N false (tok (k+1) .exp n++r)=.ok n r):ExB (k+1) n:=
 ⟨h,fun lv h1 h2=>absurd h2 ω,fun m e=>absurd e hk,fun e=>absurd e ω⟩
include IE in
theorem st_ite {n:Nd} (hz:zpN n) (hk:ndK n=36) (hs:ndS n=e0) (hN:ndN n=0) {x y z:Nd} (hl:ndL n=[x,y,z]) (hx:shp k .exp x=true) (hy:shp k .exp y=true) (hw:shp k .exp z=true):ExB (k+1) n:=by
 obtain⟨hn,hzl⟩:=zp_form hz
 rw[hl] at hzl
 refine open_of (by simp[levW,hk]) ω fun r hr=>?_
 have hp:tok (k+1) .exp n++r=wT [105,102]::(tok k .exp x++wT [116,104,101,110]::(tok k .exp y++wT [101,108,115,101]::(tok k .exp z++r))):=by
  show expT (tok k) n++r=_
  simp[expT,hk,kid,hl]
 have e1:=(IE x (zpL_mem hzl (by simp)) hx).ex (wT [116,104,101,110]::(tok k .exp y++wT [101,108,115,101]::(tok k .exp z++r))) (Flw.mrk π _ _)
 have e2:=(IE y (zpL_mem hzl (by simp)) hy).ex (wT [101,108,115,101]::(tok k .exp z++r)) (Flw.mrk π _ _)
 have e3:=(IE z (zpL_mem hzl (by simp)) hw).ex r hr
 refine ((e1.and e2).and e3).up fun N hq=>?_
 rw[hp,exprP]
 simp only[look]
 rw[acc_nw π,acc_w,bd_ok hq.1.1,bd_ok exp_w,bd_ok hq.1.2,bd_ok exp_w,bd_ok hq.2]
 show Re.ok (Nd.mk 36 e0 0 0 [x,y,z]) r=_
 rw[hn,hk,hN,hl,hs]
include IE in
theorem st_let {n:Nd} (hz:zpN n) (hk:ndK n=37) (hs:lowB (ndS n).data.toList=true) (hN:ndN n=0) {x y:Nd} (hl:ndL n=[x,y]) (hx:shp k .exp x=true) (hy:shp k .exp y=true):ExB (k+1) n:=by
 obtain⟨hn,hzl⟩:=zp_form hz
 rw[hl] at hzl
 refine open_of (by simp[levW,hk]) ω fun r hr=>?_
 have hp:tok (k+1) .exp n++r=wT [108,101,116]::wdT (ndS n)::wT [61]::(tok k .exp x++wT [105,110]::(tok k .exp y++r)):=by
  show expT (tok k) n++r=_
  simp[expT,hk,kid,hl]
 have e1:=(IE x (zpL_mem hzl (by simp)) hx).ex (wT [105,110]::(tok k .exp y++r)) (Flw.mrk π _ _)
 have e2:=(IE y (zpL_mem hzl (by simp)) hy).ex r hr
 refine (e1.and e2).up fun N hq=>?_
 rw[hp,exprP]
 simp only[look]
 rw[acc_w,bd_ok (nam_d hs),bd_ok exp_w,bd_ok hq.1,bd_ok exp_w,bd_ok hq.2]
 show Re.ok (Nd.mk 37 (ndS n) 0 0 [x,y]) r=_
 rw[hn,hk,hN,hl];rfl
include IE IA in
theorem st_mat {n:Nd} (hz:zpN n) (hk:ndK n=38) (hs:ndS n=e0) (hN:ndN n=0) {x y:Nd} {l:List Nd} (hl:ndL n=x::y::l) (hx:shp k .exp x=true) (ha:∀z∈y::l,shp k .arm z=true):ExB (k+1) n:=by
 obtain⟨hn,hzl⟩:=zp_form hz
 rw[hl] at hzl
 refine open_of (by simp[levW,hk]) ω fun r hr=>?_
 have hp:tok (k+1) .exp n++r=wT [109,97,116,99,104]::(grpT (tok k) x++wT [123]::(joinT ((y::l).map (tok k .arm))++wT [125]::r)):=by
  show expT (tok k) n++r=_
  simp[expT,hk,kid,hl,lstT]
 have e1:=grp_head IE (zpL_mem hzl (by simp)) hx true (r:=wT [123]::(joinT ((y::l).map (tok k .arm))++wT [125]::r)) (.inr (wl_w _ _))
 have e2:=ev_items (m:=fun N=>armP 0 (exprP 0 N false) N) (T:=tok k .arm) (b:=[125]) π y l (fun z hz r hr=>IA z (zpL_mem hzl (List.mem_cons_of_mem _ hz)) (ha z hz) r (flw_of (w:=[]) hr π)) r
 refine (e1.and e2).up fun N hq=>?_
 rw[hp,exprP]
 simp only[look]
 rw[acc_nw π,acc_nw π,acc_w,bd_ok hq.1,bd_ok exp_w,bd_ok hq.2]
 show Re.ok (Nd.mk 38 e0 0 0 (x::y::l)) r=_
 rw[hn,hk,hN,hl,hs]
include IE in
theorem st_lam {n:Nd} (hz:zpN n) (hk:ndK n=41) (hs:ndS n=e0) (hN:ndN n=0) {i:List Nd} {x y:Nd} (hl:ndL n=i++[x,y]) (ha:∀z∈i,shp k .fld z=true) (hx:shp k .typ x=true) (hy:shp k .exp y=true):ExB (k+1) n:=by
 obtain⟨hn,hzl⟩:=zp_form hz
 refine open_of (by simp[levW,hk]) ω fun r hr=>?_
 have hp:tok (k+1) .exp n++r=wT [102,117,110]::(funT (tok k) n++r):=by
  show expT (tok k) n++r=_
  simp[expT,hk]
 refine (fun_back IE hl (fun z hz=>zpL_mem hzl (by rw[hl];simp[hz])) (zpL_mem hzl (by rw[hl];simp)) (zpL_mem hzl (by rw[hl];simp)) ha hx hy hr).up fun N hq=>?_
 rw[hp,exprP]
 simp only[look]
 rw[acc_nw π,acc_nw π,acc_nw π,acc_w,bd_ok hq]
 show Re.ok (Nd.mk 41 e0 0 0 (i++[x,y])) r=_
 rw[hn,hk,hN,hl,hs]
end
theorem exp_all:∀k:Nat,(∀n,zpN n→shp k .exp n=true→ExB k n)∧(∀n,zpN n→shp k .set n=true→∀r,Flw 1 r→Ev fun N=>setP 0 (exprP 0 N false) (tok k .set n++r)=.ok n r)∧(∀n,zpN n→shp k .arm n=true→∀r,Flw 1 r→Ev fun N=>armP 0 (exprP 0 N false) N (tok k .arm n++r)=.ok n r)
 | 0=>⟨fun n _ h=>(by cases h),fun n _ h=>(by cases h),fun n _ h=>(by cases h)⟩
 | k+1=>by
  obtain⟨IE,IS,IA⟩:=exp_all k
  refine⟨fun n hz h=>?_,fun n hz h r hr=>set_back IE hz h hr,fun n hz h r hr=>arm_back IE hz h hr⟩
  have hf:expB (shp k) n=true:=h
  cases ex_form hf with
  | lit hk h0 hc=>exact st_lit IE hz h hk h0 hc
  | lst hk hs hN ha=>exact st_lst IE hz h hk hs hN ha
  | new hk hs hN ha=>exact st_new IE IS hz h hk hs hN ha
  | con hk hs hN ha=>exact st_con IE hz h hk hs hN ha
  | get hk hs hN x hl hx=>exact st_get IE hz h hk hs hN hl hx
  | wit hk hs hN x y l hl hx ha=>exact st_wit IE IS hz h hk hs hN hl hx ha
  | cal hk hs hN x l hl hx ha=>exact st_cal IE hz h hk hs hN hl hx ha
  | neg hk hs hN x hl hx=>exact st_neg IE hz h hk hs hN hl hx
  | no hk hs hN x hl hx=>exact st_no IE hz h hk hs hN hl hx
  | bin hk m hs hN x y hl hx hy=>exact st_bin IE hz h hk hs hN hl hx hy
  | ite hk hs hN x y z hl hx hy hw=>exact st_ite IE hz hk hs hN hl hx hy hw
  | lett hk hs hN x y hl hx hy=>exact st_let IE hz hk hs hN hl hx hy
  | mat hk hs hN x y l hl hx ha=>exact st_mat IE IA hz hk hs hN hl hx ha
  | lam hk hs hN i x y hl ha hx hy=>exact st_lam IE hz hk hs hN hl ha hx hy
theorem exp_back (k:Nat) {n:Nd} (hz:zpN n) (h:shp k .exp n=true) {r:List Tk} (hr:Flw 1 r):Ev fun N=>exprP 0 N false (tok k .exp n++r)=.ok n r:=((exp_all k).1 n hz h).ex r hr
end
end Go.Proofs.YtbjdcogmiggamaaGreatDoor
