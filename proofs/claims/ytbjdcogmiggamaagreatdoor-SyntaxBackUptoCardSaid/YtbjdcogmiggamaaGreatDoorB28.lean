import Derived.Test.YtbjdcogmiggamaaGreatDoorB27
set_option linter.all false
namespace Go.Proofs.YtbjdcogmiggamaaGreatDoor
open Proofs.Tryz RowKit Maps WideMaps ChangeMaps
set_option maxRecDepth 100000
set_option maxHeartbeats 8000000
section
def zo (n:Nd):Nd:=n.mv fun _=>0
theorem mvL_map (φ:Int→Int):∀l:List Nd,mvL φ l=l.map (Nd.mv φ)
 | []=>rfl
 | a::l=>by rw[mvL,mvL_map φ l];rfl
theorem zo_K (n:Nd):ndK (zo n)=ndK n:=by cases n;rfl
theorem zo_S (n:Nd):ndS (zo n)=ndS n:=by cases n;rfl
theorem zo_T (n:Nd):ndT (zo n)=ndT n:=by cases n;rfl
theorem zo_N (n:Nd):ndN (zo n)=ndN n:=by cases n;rfl
theorem zo_L (n:Nd):ndL (zo n)=(ndL n).map zo:=by cases n;exact mvL_map _ _
theorem zo_lead:∀l:List Nd,leadB (l.map zo)=leadB l
 | []=>rfl
 | x::l=>by rw[List.map_cons,leadB,leadB,zo_K,zo_lead l]
section
variable (f:Sh→Nd→Bool)
def fz:Sh→Nd→Bool:=fun s x=>f s (zo x)
theorem zo_ser:∀(l:List Nd) (q:List Sh),serB f (l.map zo) q=serB (fz f) l q
 | [],[]=>rfl
 | [],s::q=>rfl
 | x::l,[]=>rfl
 | x::l,s::q=>by rw[List.map_cons,serB,serB,zo_ser l q];rfl
theorem zo_all (l:List Nd) (s:Sh):(l.map zo).all (f s)=l.all (fz f s):=by rw[List.all_map];rfl
theorem zo_beg (a b:Sh) (l:List Nd):begB f a b (l.map zo)=begB (fz f) a b l:=by
 cases l with
 | nil=>rfl
 | cons x r=>rw[List.map_cons,begB,begB,zo_all];rfl
theorem zo_hd (p:Wp) (l:List Nd):hdB f p (l.map zo)=hdB (fz f) p l:=by cases l<;>rfl
theorem zo_end (l:List Nd) (a:Sh) (q:List Sh):endB f (l.map zo) a q=endB (fz f) l a q:=by
 unfold endB
 rw[List.length_map,←List.map_take,←List.map_drop,zo_all,zo_ser]
theorem zo_tl (l:List Nd):(l.map zo).tail=l.tail.map zo:=by cases l<;>rfl
theorem zo_typ (n:Nd):typeB f (zo n)=typeB (fz f) n:=by
 simp only[typeB,namB,bareB,zo_K,zo_T,zo_N,zo_L,zo_all,zo_ser,List.length_map]
theorem zo_exp (n:Nd):expB f (zo n)=expB (fz f) n:=by
 simp only[expB,cnsB,namB,bareB,zo_K,zo_S,zo_T,zo_N,zo_L,zo_all,zo_ser,zo_beg,zo_end,List.length_map]
theorem zo_stm (n:Nd):stmB f (zo n)=stmB (fz f) n:=by
 simp only[stmB,namB,bareB,zo_K,zo_S,zo_T,zo_N,zo_L,zo_all,zo_ser,zo_beg,zo_end,List.length_map]
theorem zo_cas (n:Nd) (s:Sh):casB f (zo n) s=casB (fz f) n s:=by
 simp only[casB,namB,zo_T,zo_N,zo_L,zo_end,List.length_map]
theorem zo_dcl (n:Nd):dclB f (zo n)=dclB (fz f) n:=by
 simp only[dclB,namB,zo_K,zo_T,zo_N,zo_L,zo_all,zo_end,zo_lead,List.length_map,←List.map_take,←List.map_drop]
theorem zo_cng (n:Nd):cngB f (zo n)=cngB (fz f) n:=by
 simp only[cngB,namB,zo_K,zo_T,zo_N,zo_L,zo_all,zo_end,zo_hd,zo_lead,zo_tl,List.length_map,←List.map_take,←List.map_drop]
theorem zo_shpB (s:Sh) (n:Nd):shpB f s (zo n)=shpB (fz f) s n:=by
 cases s with
 | typ=>exact zo_typ f n
 | exp=>exact zo_exp f n
 | stm=>exact zo_stm f n
 | dcl=>exact zo_dcl f n
 | chg=>exact zo_cng f n
 | fld=>simp only[shpB,namB,zo_K,zo_T,zo_N,zo_L,zo_ser]
 | ctor=>simp only[shpB,namB,zo_K,zo_T,zo_N,zo_L,zo_all]
 | mem=>simp only[shpB,namB,zo_K,zo_T,zo_N,zo_L,zo_ser,zo_end]
 | set=>simp only[shpB,namB,zo_K,zo_T,zo_N,zo_L,zo_ser]
 | arm=>simp only[shpB,zo_K,zo_cas]
 | sarm=>simp only[shpB,zo_K,zo_cas]
 | blk=>simp only[shpB,bareB,zo_K,zo_T,zo_N,zo_L,zo_all]
 | snd=>simp only[shpB,namB,zo_K,zo_T,zo_N,zo_L,zo_beg]
 | ans=>simp only[shpB,namB,zo_K,zo_T,zo_N,zo_L,zo_all]
 | leaf k p=>simp only[shpB,namB,zo_K,zo_T,zo_N,zo_L,List.length_map]
end
theorem zo_shp:∀(k:Nat) (s:Sh) (n:Nd),shp k s (zo n)=shp k s n
 | 0,_,_=>rfl
 | k+1,s,n=>by
  rw[shp,shp,zo_shpB,show fz (shp k)=shp k from funext fun s=>funext fun x=>zo_shp k s x]
section
variable (f:Sh→Nd→List Tk)
def tz:Sh→Nd→List Tk:=fun s x=>f s (zo x)
theorem zo_kid (n:Nd) (i:Nat):kid (zo n) i=zo (kid n i):=by
 unfold kid
 rw[zo_L,List.getD_eq_getElem?_getD,List.getD_eq_getElem?_getD,List.getElem?_map]
 cases (ndL n)[i]?<;>rfl
theorem zo_last (n:Nd):lastN (zo n)=zo (lastN n):=by unfold lastN;rw[zo_L,List.length_map,zo_kid]
theorem zo_init (n:Nd):initN (zo n)=(initN n).map zo:=by unfold initN;rw[zo_L,List.length_map,List.map_take]
theorem zo_map (l:List Nd) (s:Sh):(l.map zo).map (f s)=l.map (tz f s):=by rw[List.map_map];rfl
theorem zo_flat (l:List Nd) (s:Sh):(l.map zo).flatMap (f s)=l.flatMap (tz f s):=by rw[List.flatMap_map];rfl
theorem zo_lev (n:Nd):levW (zo n)=levW n:=by simp only[levW,zo_K,zo_T]
theorem tzf (s:Sh) (x:Nd):f s (zo x)=tz f s x:=rfl
theorem zo_grp (n:Nd):grpT f (zo n)=grpT (tz f) n:=rfl
theorem zo_opd (n:Nd) (lv:Nat):opdT f (zo n) lv=opdT (tz f) n lv:=by simp only[opdT,zo_lev,zo_grp,tzf]
theorem zo_fun (n:Nd):funT f (zo n)=funT (tz f) n:=by simp only[funT,zo_L,zo_kid,zo_last,List.length_map,←List.map_take,zo_map,tzf]
theorem zo_pat (n:Nd):patT (zo n)=patT n:=by
 simp only[patT,zo_S,zo_init,List.length_map,List.map_map]
 congr 4
 funext x;simp only[Function.comp,zo_S]
theorem zo_snd (n:Nd):sndT f (zo n)=sndT (tz f) n:=by simp only[sndT,zo_S,zo_kid,zo_L,zo_tl,zo_map,tzf]
theorem zo_expT (n:Nd):expT f (zo n)=expT (tz f) n:=by
 simp only[expT,binT,posT,priT,zo_K,zo_S,zo_T,zo_N,zo_L,zo_kid,zo_opd,zo_grp,zo_fun,zo_tl,zo_map,tzf,List.length_map]
theorem zo_stmT (n:Nd):stmT f (zo n)=stmT (tz f) n:=by
 simp only[stmT,spwT,zo_K,zo_S,zo_T,zo_N,zo_L,zo_kid,zo_last,zo_init,zo_grp,zo_snd,zo_tl,zo_map,zo_flat,tzf,List.length_map,←List.map_take]
theorem zo_dclT (n:Nd):dclT f (zo n)=dclT (tz f) n:=by
 simp only[dclT,actT,cnvT,zo_K,zo_S,zo_T,zo_N,zo_L,zo_kid,zo_last,zo_init,zo_fun,zo_lead,zo_map,zo_flat,tzf,List.length_map,←List.map_take,←List.map_drop]
theorem zo_tokF (s:Sh) (n:Nd):tokF f s (zo n)=tokF (tz f) s n:=by
 cases s with
 | typ=>simp only[tokF,typT,zo_K,zo_S,zo_kid,zo_last,zo_init,zo_map,tzf]
 | exp=>exact zo_expT f n
 | stm=>exact zo_stmT f n
 | dcl=>exact zo_dclT f n
 | chg=>exact zo_dclT f n
 | fld=>simp only[tokF,zo_S,zo_kid,tzf]
 | ctor=>simp only[tokF,zo_S,zo_L,zo_map,List.length_map]
 | mem=>simp only[tokF,memT,zo_K,zo_S,zo_kid,zo_last,zo_init,zo_map,tzf]
 | set=>simp only[tokF,zo_S,zo_kid,tzf]
 | arm=>simp only[tokF,zo_pat,zo_last,tzf]
 | sarm=>simp only[tokF,zo_pat,zo_last,tzf]
 | blk=>simp only[tokF,zo_L,zo_flat]
 | snd=>exact zo_snd f n
 | ans=>simp only[tokF,zo_S,zo_L,zo_map]
 | leaf k p=>simp only[tokF,zo_S]
end
theorem zo_tok:∀(k:Nat) (s:Sh) (n:Nd),tok k s (zo n)=tok k s n
 | 0,_,_=>rfl
 | k+1,s,n=>by
  rw[tok,tok,zo_tokF,show tz (tok k)=tok k from funext fun s=>funext fun x=>zo_tok k s x]
theorem zo_right (n:Nd):rightB (zo n)=rightB n:=by
 unfold rightB bareB
 rw[zo_K,zo_T,zo_N,zo_L,List.all_map]
 congr 2
 funext x
 simp only[Function.comp,zo_shp]
theorem zo_toks (n:Nd):toksP (zo n)=toksP n:=by
 unfold toksP
 rw[zo_right,zo_L,List.flatMap_map]
 simp only[zo_tok]
mutual
theorem zp_zo:∀n:Nd,zpN (zo n)
 | .mk k s n p l=>⟨rfl,zp_zoL l⟩
theorem zp_zoL:∀l:List Nd,zpL (mvL (fun _=>0) l)
 | []=>trivial
 | a::l=>⟨zp_zo a,zp_zoL l⟩
end
end
section
theorem wTks_cc (t u:Tk) (r:List Tk):wTks (t::u::r)=wTk t++([32]++wTks (u::r)):=rfl
theorem scan_w {N:Nat}:∀(ts:List Tk) (n:Nat) (l:List UInt8),(∀t∈ts,tokB t=true)→skipL false l=skipL false (wTks ts)→ts.length<n→scanL N n l=.ok (posG [32] ((N:Int)-(wTks ts).length) ts)
 | [],0,l,_,_,hn=>absurd hn (Nat.not_lt_zero _)
 | [],n+1,l,_,hs,_=>by rw[scanL,hs];rfl
 | t::ts,0,l,_,_,hn=>absurd hn (Nat.not_lt_zero _)
 | t::ts,n+1,l,ht,hs,hn=>by
  have h1:=ht t (List.mem_cons_self ..)
  obtain⟨g,e,hsep,hsk,hlen⟩:∃g,wTks (t::ts)=wTk t++g∧SepB g∧skipL false g=skipL false (wTks ts)∧(ts≠[]→g.length=1+(wTks ts).length):=by
   cases ts with
   | nil=>exact⟨[],(List.append_nil _).symm,fun c q e=>(by cases e),rfl,fun h=>absurd rfl h⟩
   | cons u r=>exact⟨[32]++wTks (u::r),rfl,gap_sp.sep _,gap_sp.1 _,fun _=>by rw[List.length_append];rfl⟩
  obtain⟨h2,hne⟩:=skip_back t h1 g hsep
  rw[e,h2] at hs
  cases hw:wTk t++g with
  | nil=>exact absurd (List.append_eq_nil_iff.1 hw).1 hne
  | cons c r =>
   rw[hw] at hs
   have htk:=tok_back t h1 ((N:Int)-((c::r).length:Int)) _ hsep
   rw[hw] at htk
   rw[scanL_step hs htk,scan_w ts n _ (fun x hx=>ht x (List.mem_cons_of_mem _ hx)) hsk (by simp at hn;omega),e,hw]
   cases ts with
   | nil=>rfl
   | cons u us =>
    have hl:=congrArg List.length hw
    have hg:=hlen (by simp)
    simp only[List.length_append] at hl
    have e3:(N:Int)-((wTks (u::us)).length:Int)=((N:Int)-((c::r).length:Int))+((wTk t).length:Int)+(([32]:List UInt8).length:Int):=by
     simp only[List.length_singleton];omega
    rw[e3]
    rfl
theorem wTks_len:∀ts:List Tk,(∀t∈ts,tokB t=true)→ts.length≤(wTks ts).length
 | [],_=>Nat.zero_le _
 | [t],h=>by
  have:=List.length_pos_iff.2 (skip_back t (h t (List.mem_cons_self ..)) [] (fun c q e=>by cases e)).2
  show 1≤(wTk t).length;omega
 | t::u::r,h=>by
  have:=wTks_len (u::r) (fun x hx=>h x (List.mem_cons_of_mem _ hx))
  rw[wTks_cc,List.length_append,List.length_append,List.length_cons]
  simp only[List.length_singleton];omega
theorem posG_naught {g:List UInt8}:∀(o:Int) (T:List Tk),(∀t∈T,t.pos=0)→(posG g o T).map (mvT fun _=>0)=T
 | _,[],_=>rfl
 | o,t::r,h=>by
  rw[posG,List.map_cons,posG_naught _ r (fun x hx=>h x (List.mem_cons_of_mem _ hx))]
  have:=h t (List.mem_cons_self ..)
  congr 1
  show Tk.mk _ _ _ 0=t
  rw[←this]
mutual
theorem sm_zo:∀a b:Nd,zo a=zo b→smN a b=true
 | .mk k s n p l,.mk k' s' n' p' l',h=>by
  have h:Nd.mk k s n 0 (mvL (fun _=>0) l)=Nd.mk k' s' n' 0 (mvL (fun _=>0) l'):=h
  injection h with h1 h2 h3 _ h5
  rw[smN,h1,h2,h3,sm_zoL l l' h5];simp
theorem sm_zoL:∀a b:List Nd,mvL (fun _=>0) a=mvL (fun _=>0) b→smL a b=true
 | [],[],_=>rfl
 | [],y::b,h=>by cases h
 | x::a,[],h=>by cases h
 | x::a,y::b,h=>by
  have h:zo x::mvL (fun _=>0) a=zo y::mvL (fun _=>0) b:=h
  injection h with h1 h2
  rw[smL,sm_zo x y h1,sm_zoL a b h2];rfl
end
section
variable {g:Sh→Nd→Bool}
theorem kids_exp {n:Nd} (h:expB g n=true):∀x∈ndL n,∃s,g s x=true:=by
 cases ex_form h with
 | lit hk h0 hc=>rw[h0];intro x hx;cases hx
 | lst e hs hn ha=>exact fun x hx=>⟨_,ha x hx⟩
 | new e hs hn ha=>exact fun x hx=>⟨_,ha x hx⟩
 | con e hs hn ha=>exact fun x hx=>⟨_,ha x hx⟩
 | get e hs hn x hl hx=>rw[hl];simp only[List.forall_mem_cons];exact⟨⟨_,hx⟩,fun x h=>by cases h⟩
 | wit e hs hn x y l hl hx ha=>rw[hl];exact List.forall_mem_cons.2 ⟨⟨_,hx⟩,fun x hx=>⟨_,ha x hx⟩⟩
 | cal e hs hn x l hl hx ha=>rw[hl];exact List.forall_mem_cons.2 ⟨⟨_,hx⟩,fun x hx=>⟨_,ha x hx⟩⟩
 | neg e hs hn x hl hx=>rw[hl];simp only[List.forall_mem_cons];exact⟨⟨_,hx⟩,fun x h=>by cases h⟩
 | no e hs hn x hl hx=>rw[hl];simp only[List.forall_mem_cons];exact⟨⟨_,hx⟩,fun x h=>by cases h⟩
 | bin e m hs hn x y hl hx hy=>rw[hl];simp only[List.forall_mem_cons];exact⟨⟨_,hx⟩,⟨_,hy⟩,fun x h=>by cases h⟩
 | ite e hs hn x y z hl hx hy hz=>rw[hl];simp only[List.forall_mem_cons];exact⟨⟨_,hx⟩,⟨_,hy⟩,⟨_,hz⟩,fun x h=>by cases h⟩
 | lett e hs hn x y hl hx hy=>rw[hl];simp only[List.forall_mem_cons];exact⟨⟨_,hx⟩,⟨_,hy⟩,fun x h=>by cases h⟩
 | mat e hs hn x y l hl hx ha=>rw[hl];exact List.forall_mem_cons.2 ⟨⟨_,hx⟩,fun x hx=>⟨_,ha x hx⟩⟩
 | lam e hs hn i x y hl ha hx hy =>
  rw[hl];intro z hz
  rcases List.mem_append.1 hz with hz|hz
  · exact⟨_,ha z hz⟩
  · rcases List.mem_cons.1 hz with rfl|hz
    · exact⟨_,hx⟩
    · rcases List.mem_cons.1 hz with rfl|hz
      · exact⟨_,hy⟩
      · cases hz
theorem ser_kids:∀{l:List Nd} {q:List Sh},serB g l q=true→∀x∈l,∃s,g s x=true
 | [],_,_,x,hx=>by cases hx
 | y::l,[],h,x,hx=>by cases h
 | y::l,s::q,h,x,hx=>by
  rw[serB,Bool.and_eq_true] at h
  rcases List.mem_cons.1 hx with rfl|hx
  · exact⟨_,h.1⟩
  · exact ser_kids h.2 x hx
theorem end_kids {l:List Nd} {a:Sh} {q:List Sh} (h:endB g l a q=true):∀x∈l,∃s,g s x=true:=fun x hx=>by
 unfold endB at h
 rw[Bool.and_eq_true,Bool.and_eq_true,List.all_eq_true] at h
 rw[←List.take_append_drop (l.length-q.length) l] at hx
 rcases List.mem_append.1 hx with hx|hx
 · exact⟨_,h.2.1 x hx⟩
 · exact ser_kids h.2.2 x hx
theorem all_kids {l:List Nd} {a:Sh} (h:l.all (g a)=true):∀x∈l,∃s,g s x=true:=fun x hx=>⟨_,List.all_eq_true.1 h x hx⟩
theorem beg_kids {l:List Nd} {a b:Sh} (h:begB g a b l=true):∀x∈l,∃s,g s x=true:=by
 obtain⟨x,r,rfl,hx,ha⟩:=beg_of h
 exact List.forall_mem_cons.2 ⟨⟨_,hx⟩,fun x hx=>⟨_,ha x hx⟩⟩
theorem two_kids {l:List Nd} {j:Nat} {a b:Sh} (h:(l.take j).all (g a)=true) (k:(l.drop j).all (g b)=true):∀x∈l,∃s,g s x=true:=fun x hx=>by
 rw[←List.take_append_drop j l] at hx
 rcases List.mem_append.1 hx with hx|hx
 · exact all_kids h x hx
 · exact all_kids k x hx
theorem no_kids {l:List Nd} (h:(l.length==0)=true):∀x∈l,∃s,g s x=true:=by
 rw[beq_iff_eq] at h
 rw[List.eq_nil_of_length_eq_zero h];intro x hx;cases hx
theorem hd_kids {l:List Nd} {p:Wp} (h:hdB g p l=true) (k:∀x∈l.tail,∃s,g s x=true):∀x∈l,∃s,g s x=true:=by
 cases l with
 | nil=>cases h
 | cons y r=>exact List.forall_mem_cons.2 ⟨⟨_,h⟩,k⟩
theorem kids_cas {n:Nd} {s:Sh} (h:casB g n s=true):∀x∈ndL n,∃s,g s x=true:=by
 obtain⟨_,_,i,x,hl,hi,hx,_⟩:=cas_of h
 rw[hl];intro z hz
 rcases List.mem_append.1 hz with hz|hz
 · exact⟨_,hi z hz⟩
 · rcases List.mem_cons.1 hz with rfl|hz
   · exact⟨_,hx⟩
   · cases hz
theorem kids_stm {n:Nd} (h:stmB g n=true):∀x∈ndL n,∃s,g s x=true:=by
 unfold stmB at h
 repeat' split at h
 all_goals first|cases h|skip
 all_goals simp only[Bool.and_eq_true,Bool.or_eq_true] at h
 · exact ser_kids h.2
 · exact h.2.elim ser_kids ser_kids
 · exact beg_kids h.2
 · exact ser_kids h.2
 · exact beg_kids h.2
 · exact ser_kids h.2
 · exact beg_kids h.2
 · exact end_kids h.2
 · exact no_kids h.2
 · exact ser_kids h.2
theorem kids_typ {n:Nd} (h:typeB g n=true):∀x∈ndL n,∃s,g s x=true:=by
 unfold typeB at h
 repeat' split at h
 all_goals first|cases h|skip
 all_goals simp only[Bool.and_eq_true] at h
 · exact no_kids h.2
 · exact ser_kids h.2
 · exact no_kids h.2
 · exact all_kids h.2
theorem kids_dcl {n:Nd} (h:dclB g n=true):∀x∈ndL n,∃s,g s x=true:=by
 unfold dclB at h
 repeat' split at h
 all_goals first|cases h|skip
 all_goals simp only[Bool.and_eq_true] at h
 · exact all_kids h.2
 · exact all_kids h.2
 · exact end_kids h.2
 · exact end_kids h.2
 · exact two_kids h.1.2 h.2
theorem kids_chg {n:Nd} (h:cngB g n=true):∀x∈ndL n,∃s,g s x=true:=by
 unfold cngB at h
 repeat' split at h
 all_goals first|cases h|skip
 all_goals try simp only[Bool.and_eq_true] at h
 · exact hd_kids h.1 (end_kids h.2)
 · exact end_kids h
 · exact two_kids h.1.2 h.2
 · exact hd_kids h.1.2 (end_kids h.2)
 · exact no_kids h.2
 · exact no_kids h.2
theorem kids_ok {s:Sh} {n:Nd} (h:shpB g s n=true):∀x∈ndL n,∃s,g s x=true:=by
 cases s with
 | typ=>exact kids_typ h
 | exp=>exact kids_exp h
 | stm=>exact kids_stm h
 | dcl=>exact kids_dcl h
 | chg=>exact kids_chg h
 | mem =>
  simp only[shpB] at h
  split at h<;>simp only[Bool.and_eq_true] at h
  · exact ser_kids h.2
  · exact end_kids h.2
 | fld=>simp only[shpB,Bool.and_eq_true] at h;exact ser_kids h.2
 | ctor=>simp only[shpB,Bool.and_eq_true] at h;exact all_kids h.2
 | set=>simp only[shpB,Bool.and_eq_true] at h;exact ser_kids h.2
 | arm=>simp only[shpB,Bool.and_eq_true] at h;exact kids_cas h.2
 | sarm=>simp only[shpB,Bool.and_eq_true] at h;exact kids_cas h.2
 | blk=>simp only[shpB,Bool.and_eq_true] at h;exact all_kids h.2
 | snd=>simp only[shpB,Bool.and_eq_true] at h;exact beg_kids h.2
 | ans=>simp only[shpB,Bool.and_eq_true] at h;exact all_kids h.2
 | leaf q p=>simp only[shpB,Bool.and_eq_true] at h;exact no_kids h.2
end
theorem deepL_none:∀(d:Nat) (l:List Nd),(∀x∈l,deepP d x=none)→deepL d l=none
 | d,[],_=>by rw[deepL]
 | d,x::l,h=>by rw[deepL,h x (List.mem_cons_self ..)];exact deepL_none d l fun y hy=>h y (List.mem_cons_of_mem _ hy)
theorem shp_deep:∀(k:Nat) (s:Sh) (n:Nd) (d:Nat),shp k s n=true→d+k≤41→deepP d n=none
 | 0,_,_,_,h,_=>by cases h
 | k+1,s,.mk q t m p l,d,h,hd=>by
  rw[deepP,if_neg ω]
  refine deepL_none _ _ fun x hx=>?_
  obtain⟨s',hs'⟩:=kids_ok (g:=shp k) (s:=s) h x hx
  exact shp_deep k s' x (d+1) hs' ω
theorem right_deep {n:Nd} (h:rightB n=true):deepL 1 (ndL n)=none:=by
 unfold rightB at h
 rw[Bool.and_eq_true,List.all_eq_true] at h
 refine deepL_none _ _ fun x hx=>?_
 have:=h.2 x hx
 rw[Bool.or_eq_true] at this
 rcases this with e|e
 · exact shp_deep 40 _ x 1 e ω
 · exact shp_deep 40 _ x 1 e ω
theorem run_back {n:Nd} (h:rightB n=true) (hl:(writeL (toksP n)).length≤32768):∃m,runP true (writeL (toksP n))=.ok m∧zo m=zo n∧smN m n=true:=by
 have hg:=(toks_gd h).1
 have ht:∀t∈toksP n,tokB t=true:=fun t h=>(hg t h).1
 have hw:writeL (toksP n)=wTks (toksP n):=by unfold writeL;rw[if_pos (List.all_eq_true.2 ht)]
 rw[hw] at hl ⊢
 have hs:scanP (wTks (toksP n))=.ok (posG [32] 0 (toksP n)):=by
  rw[scanP_of hl,scan_w _ _ _ ht rfl (by have:=wTks_len _ ht;omega),Int.sub_self]
 have hz:(posG [32] 0 (toksP n)).map (mvT fun _=>0)=toksP n:=posG_naught 0 _ fun t h=>(hg t h).2
 obtain⟨N0,hN⟩:=prog_back (zp_zo n) ((zo_right n).trans h)
 rw[zo_toks,zo_L] at hN
 have r1:=run_ok (patch:=true) hs
 generalize posG [32] 0 (toksP n)=ts at hz r1
 generalize (wTks (toksP n)).length=e at r1
 have nat:=prog_nat (φ:=fun _=>0) (e:=(e:Int)) (e':=0) rfl true (n:=20*ts.length+1) (n':=N0+20*ts.length+1) ω (ts.length+1) (N0+20*ts.length+1) ts ω
 rw[hz,hN _ ω] at nat
 cases hp:progP (e:Int) true (20*ts.length+1) (ts.length+1) ts with
 | out=>exact absurd hp prog_in
 | bad r=>rw[hp] at nat;cases nat
 | ok q r =>
  rw[hp] at nat r1
  have nat:Re.ok ((ndL n).map zo) []=.ok (mvL (fun _=>0) q) (r.map (mvT fun _=>0)):=nat
  injection nat with n1 _
  have n1:(ndL n).map zo=mvL (fun _=>0) q:=n1
  have hd:deepL 1 q=none:=by
   have d1:=deepL_mv (fun _=>0) 1 q
   have d2:=deepL_mv (fun _=>0) 1 (ndL n)
   rw[mvL_map,show (Nd.mv fun _=>0)=zo from rfl,n1,d1,right_deep h] at d2
   cases hq:deepL 1 q with
   | none=>rfl
   | some x=>rw[hq] at d2;cases d2
  rw[fin_ok (by rw[deep_top];exact hd)] at r1
  have hzo:zo (.mk 1 e0 0 0 q)=zo n:=by
   unfold rightB at h
   rw[Bool.and_eq_true,Bool.and_eq_true,beq_iff_eq] at h
   obtain⟨b1,b2⟩:=bare_of h.1.2
   obtain⟨h3,_⟩:=zp_form (zp_zo n)
   rw[h3,zo_K,zo_S,zo_N,zo_L,h.1.1,b1,b2,n1];rfl
  exact⟨_,r1,hzo,sm_zo _ _ hzo⟩
end
section
section
variable {g g':Sh→Nd→Bool}
theorem mo_ser:∀{l:List Nd} {q:List Sh},(∀s x,x∈l→g s x=true→g' s x=true)→serB g l q=true→serB g' l q=true
 | [],[],_,_=>rfl
 | [],s::q,_,h=>by cases h
 | y::l,[],_,h=>by cases h
 | y::l,s::q,H,h=>by
  rw[serB,Bool.and_eq_true] at h ⊢
  exact⟨H _ _ (List.mem_cons_self ..) h.1,mo_ser (fun s x hx=>H s x (List.mem_cons_of_mem _ hx)) h.2⟩
theorem mo_all {l:List Nd} {a:Sh} (H:∀s x,x∈l→g s x=true→g' s x=true) (h:l.all (g a)=true):l.all (g' a)=true:=by
 rw[List.all_eq_true] at h ⊢
 exact fun x hx=>H _ _ hx (h x hx)
theorem mo_end {l:List Nd} {a:Sh} {q:List Sh} (H:∀s x,x∈l→g s x=true→g' s x=true) (h:endB g l a q=true):endB g' l a q=true:=by
 unfold endB at h ⊢
 rw[Bool.and_eq_true,Bool.and_eq_true] at h ⊢
 exact⟨h.1,mo_all (fun s x hx=>H s x (List.mem_of_mem_take hx)) h.2.1,mo_ser (fun s x hx=>H s x (List.mem_of_mem_drop hx)) h.2.2⟩
theorem mo_beg {l:List Nd} {a b:Sh} (H:∀s x,x∈l→g s x=true→g' s x=true) (h:begB g a b l=true):begB g' a b l=true:=by
 cases l with
 | nil=>cases h
 | cons y r =>
  rw[begB,Bool.and_eq_true] at h ⊢
  exact⟨H _ _ (List.mem_cons_self ..) h.1,mo_all (fun s x hx=>H s x (List.mem_cons_of_mem _ hx)) h.2⟩
theorem mo_hd {l:List Nd} {p:Wp} (H:∀s x,x∈l→g s x=true→g' s x=true) (h:hdB g p l=true):hdB g' p l=true:=by
 cases l with
 | nil=>cases h
 | cons y r=>exact H _ _ (List.mem_cons_self ..) h
section
variable {n:Nd} (H:∀s x,x∈ndL n→g s x=true→g' s x=true)
include H
theorem mo_dcl (h:dclB g n=true):dclB g' n=true:=by
 unfold dclB at h ⊢
 by_cases e:ndK n=2
 · rw[if_pos e,Bool.and_eq_true] at h ⊢;exact⟨h.1,mo_all H h.2⟩
 rw[if_neg e] at h ⊢
 by_cases e:ndK n=3
 · rw[if_pos e,Bool.and_eq_true] at h ⊢;exact⟨h.1,mo_all H h.2⟩
 rw[if_neg e] at h ⊢
 by_cases e:ndK n=4
 · rw[if_pos e,Bool.and_eq_true] at h ⊢;exact⟨h.1,mo_end H h.2⟩
 rw[if_neg e] at h ⊢
 by_cases e:ndK n=5
 · rw[if_pos e,Bool.and_eq_true] at h ⊢;exact⟨h.1,mo_end H h.2⟩
 rw[if_neg e] at h ⊢
 by_cases e:ndK n=6
 · rw[if_pos e,Bool.and_eq_true,Bool.and_eq_true] at h ⊢
   exact⟨⟨h.1.1,mo_all (fun s x hx=>H s x (List.mem_of_mem_take hx)) h.1.2⟩,mo_all (fun s x hx=>H s x (List.mem_of_mem_drop hx)) h.2⟩
 · rw[if_neg e] at h;cases h
theorem mo_chg (h:cngB g n=true):cngB g' n=true:=by
 have HT:∀s x,x∈(ndL n).tail→g s x=true→g' s x=true:=fun s x hx=>H s x (List.mem_of_mem_tail hx)
 unfold cngB at h ⊢
 by_cases e:ndK n=70
 · rw[if_pos e] at h ⊢
   by_cases c:uppB (ndT n)=false∨(ndN n≠0∧ndN n≠1)
   · rw[if_pos c] at h;cases h
   · rw[if_neg c] at h ⊢
     by_cases d:ndN n=1
     · rw[if_pos d,Bool.and_eq_true] at h ⊢;exact⟨mo_hd H h.1,mo_end HT h.2⟩
     · rw[if_neg d] at h ⊢;exact mo_end H h
 rw[if_neg e] at h ⊢
 by_cases e:ndK n=71
 · rw[if_pos e,Bool.and_eq_true,Bool.and_eq_true] at h ⊢
   exact⟨⟨h.1.1,mo_all (fun s x hx=>H s x (List.mem_of_mem_take hx)) h.1.2⟩,mo_all (fun s x hx=>H s x (List.mem_of_mem_drop hx)) h.2⟩
 rw[if_neg e] at h ⊢
 by_cases e:ndK n=72
 · rw[if_pos e,Bool.and_eq_true,Bool.and_eq_true] at h ⊢;exact⟨⟨h.1.1,mo_hd H h.1.2⟩,mo_end HT h.2⟩
 rw[if_neg e] at h ⊢
 exact h
end
theorem anm {a b c:Bool} (h:b=true→c=true):(a&&b)=true→(a&&c)=true:=by
 rw[Bool.and_eq_true,Bool.and_eq_true];exact fun k=>⟨k.1,h k.2⟩
theorem orm {a b c d:Bool} (h:a=true→c=true) (k:b=true→d=true):(a||b)=true→(c||d)=true:=by
 rw[Bool.or_eq_true,Bool.or_eq_true];exact fun q=>q.imp h k
theorem itm {c:Prop} [Decidable c] {a b a' b':Bool} (h:a=true→a'=true) (k:b=true→b'=true):(if c then a else b)=true→(if c then a' else b')=true:=by
 by_cases q:c
 · rw[if_pos q,if_pos q];exact h
 · rw[if_neg q,if_neg q];exact k
theorem mo_shp {s:Sh} {n:Nd} (H:∀s x,x∈ndL n→g s x=true→g' s x=true):shpB g s n=true→shpB g' s n=true:=by
 have cas:∀s,casB g n s=true→casB g' n s=true:=fun s=>by
  unfold casB
  split
  · exact id
  · rw[Bool.and_eq_true,Bool.and_eq_true];exact fun h=>⟨h.1,mo_end H h.2⟩
 cases s<;>simp only[shpB]
 case typ =>
  unfold typeB
  (repeat' split)<;>first|exact id|exact anm (mo_ser H)|exact anm (mo_all H)|exact anm (mo_beg H)|exact anm (mo_end H)|exact anm (orm (mo_ser H) (mo_ser H))
 case exp =>
  unfold expB
  exact itm id (itm (anm (mo_all H)) (itm (anm (mo_all H)) (itm (anm (mo_all H)) (itm (anm (mo_ser H)) (itm (anm (mo_beg H)) (itm (anm (mo_beg H)) (itm (anm (mo_ser H)) (itm (anm (mo_ser H)) (itm (anm (mo_ser H)) (itm (anm (mo_ser H)) (itm (anm (mo_beg H)) (itm (anm (mo_end H)) id))))))))))))
 case stm =>
  unfold stmB
  (repeat' split)<;>first|exact id|exact anm (mo_ser H)|exact anm (mo_all H)|exact anm (mo_beg H)|exact anm (mo_end H)|exact anm (orm (mo_ser H) (mo_ser H))
 case dcl=>exact mo_dcl H
 case chg=>exact mo_chg H
 case mem =>
  split<;>simp only[Bool.and_eq_true]
  · exact fun h=>⟨h.1,mo_ser H h.2⟩
  · exact fun h=>⟨h.1,mo_end H h.2⟩
 case arm=>simp only[Bool.and_eq_true];exact fun h=>⟨h.1,cas _ h.2⟩
 case sarm=>simp only[Bool.and_eq_true];exact fun h=>⟨h.1,cas _ h.2⟩
 case fld=>simp only[Bool.and_eq_true];exact fun h=>⟨h.1,mo_ser H h.2⟩
 case ctor=>simp only[Bool.and_eq_true];exact fun h=>⟨h.1,mo_all H h.2⟩
 case set=>simp only[Bool.and_eq_true];exact fun h=>⟨h.1,mo_ser H h.2⟩
 case blk=>simp only[Bool.and_eq_true];exact fun h=>⟨h.1,mo_all H h.2⟩
 case snd=>simp only[Bool.and_eq_true];exact fun h=>⟨h.1,mo_beg H h.2⟩
 case ans=>simp only[Bool.and_eq_true];exact fun h=>⟨h.1,mo_all H h.2⟩
 case leaf=>exact id
end
theorem shp_up:∀{k j:Nat} {s:Sh} {n:Nd},k≤j→shp k s n=true→shp j s n=true
 | 0,_,_,_,_,h=>by cases h
 | k+1,0,_,_,h,_=>absurd h ω
 | k+1,j+1,s,n,hj,h=>mo_shp (fun s x _=>shp_up ω) (show shpB (shp k) s n=true from h)
noncomputable def shI (s:Sh) (n:Nd):Bool:=shp (SizeOf.sizeOf n) s n
theorem shI_in {s:Sh}:∀{n:Nd},shpB shI s n=true→shI s n=true
 | .mk k t m p l,h=>by
  have e:SizeOf.sizeOf (Nd.mk k t m p l)=(SizeOf.sizeOf k+SizeOf.sizeOf t+SizeOf.sizeOf m+SizeOf.sizeOf p+SizeOf.sizeOf l)+1:=by rw[Nd.mk.sizeOf_spec];omega
  unfold shI
  rw[e,shp]
  exact mo_shp (fun s x hx=>shp_up (by have:=List.sizeOf_lt_of_mem (show x∈l from hx);omega)) h
theorem deepL_mem:∀{l:List Nd} {d:Nat} {x:Nd},deepL d l=none→x∈l→deepP d x=none
 | y::l,d,x,h,hx=>by
  rw[deepL] at h
  cases hy:deepP d y with
  | some q=>rw[hy] at h;cases h
  | none =>
   rw[hy] at h
   rcases List.mem_cons.1 hx with rfl|hx
   · exact hy
   · exact deepL_mem h hx
theorem shp_cut:∀(k:Nat) (s:Sh) (n:Nd) (d:Nat),shp k s n=true→deepP d n=none→shp (41-d) s n=true
 | 0,_,_,_,h,_=>by cases h
 | k+1,s,.mk q t m p l,d,h,hd=>by
  rw[deepP] at hd
  by_cases hq:40<d
  · rw[if_pos hq] at hd;cases hd
  · rw[if_neg hq] at hd
    rw[show 41-d=(41-(d+1))+1 from by omega,shp]
    exact mo_shp (fun s x hx hs=>shp_cut k s x (d+1) hs (deepL_mem hd hx)) (show shpB (shp k) s _=true from h)
def Rt {α:Type} (m:M α) (P:α→Prop):Prop:=∀ts,(∀t∈ts,tokB t=true)→∀a r,m ts=.ok a r→P a∧∀t∈r,tokB t=true
section
variable {α β:Type} {P:α→Prop} {Q:β→Prop} {w:List UInt8}
theorem Rt.mono {P':α→Prop} {m:M α} (h:Rt m P) (k:∀a,P a→P' a):Rt m P':=fun ts ht a r e=>⟨k a (h ts ht a r e).1,(h ts ht a r e).2⟩
theorem Rt.ret {a:α} (h:P a):Rt (pure a:M α) P:=fun ts ht b r e=>by
 have e:Re.ok a ts=Re.ok b r:=e
 injection e with e1 e2
 rw[←e1,←e2];exact⟨h,ht⟩
theorem Rt.bd {m:M β} {f:β→M α} (h:Rt m Q) (k:∀b,Q b→Rt (f b) P):Rt (m >>= f) P:=fun ts ht a r e=>by
 have e:Re.bd (m ts) f=Re.ok a r:=e
 cases hm:m ts with
 | out=>rw[hm] at e;cases e
 | bad q=>rw[hm] at e;cases e
 | ok b q =>
  rw[hm] at e
  obtain⟨h1,h2⟩:=h ts ht b q hm
  exact k b h1 q h2 a r e
theorem Rt.o:Rt (outP:M α) P:=fun ts ht a r e=>by cases e
theorem tail_good {ts:List Tk} (h:∀t∈ts,tokB t=true):∀t∈ts.tail,tokB t=true:=fun t ht=>h t (List.mem_of_mem_tail ht)
theorem Rt.acc {y n:M α} (h:Rt y P) (k:Rt n P):Rt (acc w y n) P:=fun ts ht a r e=>by
 unfold Go.Proofs.YtbjdcogmiggamaaGreatDoor.acc at e
 split at e
 · exact h _ (tail_good ht) a r e
 · exact k _ ht a r e
theorem Rt.exp:Rt (expect w) fun _=>True:=fun ts ht a r e=>by
 unfold expect at e
 split at e
 · injection e with _ e2;rw[←e2];exact⟨trivial,tail_good ht⟩
 · cases e
theorem Rt.name {p:List UInt8→Bool}:Rt (name p) fun s=>p s.data.toList=true:=fun ts ht a r e=>by
 unfold Go.Proofs.YtbjdcogmiggamaaGreatDoor.name at e
 split at e
 · rename_i h;injection e with e1 e2;rw[←e1,←e2];exact⟨h,tail_good ht⟩
 · cases e
theorem good_int {ts:List Tk} (h:∀t∈ts,tokB t=true) (hk:kd ts=2):0≤nm ts∧nm ts≤9007199254740992:=by
 cases ts with
 | nil=>cases hk
 | cons t r =>
  have:=h t (List.mem_cons_self ..)
  have hk:t.kind=2:=hk
  unfold tokB at this
  rw[if_neg ω,if_pos hk] at this
  simp only[Bool.and_eq_true,decide_eq_true_eq] at this
  exact⟨this.1.2,this.2⟩
theorem good_str {ts:List Tk} (h:∀t∈ts,tokB t=true) (hk:kd ts=3):(tx ts).size≤4096:=by
 cases ts with
 | nil=>cases hk
 | cons t r =>
  have:=h t (List.mem_cons_self ..)
  have hk:t.kind=3:=hk
  unfold tokB at this
  rw[if_neg ω,if_neg ω,if_pos hk] at this
  simp only[Bool.and_eq_true,decide_eq_true_eq] at this
  exact this.1
theorem Rt.int:Rt intP fun n=>0≤n∧n≤9007199254740992:=fun ts ht a r e=>by
 unfold intP at e
 split at e
 · rename_i h;injection e with e1 e2;rw[←e1,←e2];exact⟨good_int ht h,tail_good ht⟩
 · cases e
theorem Rt.look {f:List Tk→M α} (h:∀t0,(∀t∈t0,tokB t=true)→Rt (f t0) P):Rt (look f) P:=fun ts ht a r e=>h ts ht ts ht a r e
theorem Rt.next {m:M α} (h:Rt m P):Rt (nextP m) P:=fun ts ht a r e=>by
 cases ts with
 | nil=>cases e
 | cons t q=>exact h q (fun x hx=>ht x (List.mem_cons_of_mem _ hx)) a r e
end
section
variable {m:M Nd} {P:Nd→Prop} (h:Rt m P) {w:List UInt8}
include h
theorem Rt.tail:∀n:Nat,Rt (tailP m n) fun l=>∀x∈l,P x
 | 0=>Rt.o
 | n+1=>Rt.acc (h.bd fun a ha=>(Rt.tail n).bd fun l hl=>Rt.ret (List.forall_mem_cons.2 ⟨ha,hl⟩)) (Rt.ret fun x hx=>by cases hx)
theorem Rt.items (n:Nat):Rt (itemsP w m n) fun l=>l≠[]∧∀x∈l,P x:=
 h.bd fun a ha=>(Rt.tail h n).bd fun l hl=>Rt.exp.bd fun _ _=>Rt.ret ⟨by simp,List.forall_mem_cons.2 ⟨ha,hl⟩⟩
theorem Rt.list (n:Nat):Rt (listP w m n) fun l=>∀x∈l,P x:=Rt.acc (Rt.ret fun x hx=>by cases hx) ((Rt.items h n).mono fun l hl=>hl.2)
theorem Rt.until:∀n:Nat,Rt (untilP w m n) fun l=>∀x∈l,P x
 | 0=>Rt.o
 | n+1=>Rt.acc (Rt.ret fun x hx=>by cases hx) (h.bd fun a ha=>(Rt.until n).bd fun l hl=>Rt.ret (List.forall_mem_cons.2 ⟨ha,hl⟩))
end
section
variable {f:Sh→Nd→Bool}
theorem end1_in {i:List Nd} {x:Nd} {a b:Sh} (h:∀y∈i,f a y=true) (k:f b x=true):endB f (i++[x]) a [b]=true:=by
 unfold endB
 simp only[List.length_append,List.length_singleton,Nat.add_sub_cancel,List.take_left',List.drop_left',serB,k,Bool.and_true]
 simp only[Bool.and_eq_true,decide_eq_true_eq,List.all_eq_true]
 exact⟨by omega,h⟩
theorem end2_in {i:List Nd} {x y:Nd} {a b c:Sh} (h:∀y∈i,f a y=true) (k:f b x=true) (j:f c y=true):endB f (i++[x,y]) a [b,c]=true:=by
 unfold endB
 have e:(i++[x,y]).length-[b,c].length=i.length:=by simp
 rw[e,List.take_left',List.drop_left' rfl,serB,serB,serB,k,j]
 · simp only[Bool.and_eq_true,decide_eq_true_eq,List.all_eq_true]
   exact⟨by simp,h,by simp⟩
 · rfl
theorem lead_in:∀{l q:List Nd},(∀x∈l,ndK x=7)→(∀x∈q,ndK x≠7)→leadB (l++q)=l.length
 | [],[],_,_=>rfl
 | [],y::q,_,h=>by rw[List.nil_append,leadB,if_neg (h y (List.mem_cons_self ..))];rfl
 | x::l,q,h,k=>by rw[List.cons_append,leadB,if_pos (h x (List.mem_cons_self ..)),lead_in (fun y hy=>h y (List.mem_cons_of_mem _ hy)) k];rfl
end
end
end Go.Proofs.YtbjdcogmiggamaaGreatDoor
