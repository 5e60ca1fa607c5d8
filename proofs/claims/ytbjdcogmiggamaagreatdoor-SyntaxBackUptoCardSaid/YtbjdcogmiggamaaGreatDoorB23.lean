import Derived.Test.YtbjdcogmiggamaaGreatDoorB22
set_option linter.all false
namespace Go.Proofs.YtbjdcogmiggamaaGreatDoor
open Proofs.Tryz RowKit Maps WideMaps ChangeMaps
set_option maxRecDepth 100000
set_option maxHeartbeats 8000000
section
def letF (s:Ê):Bool:=match s.data.toList with
 | []=>false
 | c::_=>letC c
def wdT (s:Ê):Tk:=⟨if letF s then 1 else 4,s,0,0⟩
def wT (l:List UInt8):Tk:=wdT (str l)
def inT (n:Int):Tk:=⟨2,e0,n,0⟩
def joinT:List (List Tk)→List Tk
 | []=>[]
 | [x]=>x
 | x::r=>x++wT [44]::joinT r
def lstT (a b:List UInt8) (l:List (List Tk)):List Tk:=wT a::(joinT l++[wT b])
def nd0:Nd:=.mk 0 e0 0 0 []
def kid (n:Nd) (i:Nat):Nd:=(ndL n).getD i nd0
def lastN (n:Nd):Nd:=kid n ((ndL n).length-1)
def initN (n:Nd):List Nd:=(ndL n).take ((ndL n).length-1)
def levW (n:Nd):Nat:=
 if ndK n=37∨ndK n=36∨ndK n=38∨ndK n=41 then 0
 else if ndK n=35 then (levP (ndT n)).getD 0
 else if ndK n=34 then 3
 else if ndK n=33 then 8
 else if ndK n=32∨ndK n=30∨ndK n=31 then 9
 else 10
section
variable (f:Sh→Nd→List Tk)
def grpT (n:Nd):List Tk:=wT [40]::(f .exp n++[wT [41]])
def opdT (n:Nd) (lv:Nat):List Tk:=if levW n<lv then grpT f n else f .exp n
def funT (n:Nd):List Tk:=lstT [40] [41] (((ndL n).take ((ndL n).length-2)).map (f .fld))++wT [58]::(f .typ (kid n ((ndL n).length-2))++wT [61]::f .exp (lastN n))
def patT (n:Nd):List Tk:=wdT (ndS n)::(if 0<(initN n).length then lstT [40] [41] ((initN n).map fun x=>[wdT (ndS x)]) else [])
def sndT (n:Nd):List Tk:=wT [115,101,110,100]::(f .exp (kid n 0)++wdT (ndS n)::lstT [40] [41] ((ndL n).tail.map (f .exp)))
def binT (n:Nd):List Tk:=opdT f (kid n 0) (if (levP (ndT n)).getD 0=4 then 5 else (levP (ndT n)).getD 0)++wdT (ndS n)::opdT f (kid n 1) ((levP (ndT n)).getD 0+1)
def posT (n:Nd):List Tk:=
 (if ndK n=32∧ndK (kid n 0)=29∧(ndL (kid n 0)).length=0 then grpT f (kid n 0) else opdT f (kid n 0) 9) ++
 (if ndK n=32 then lstT [40] [41] ((ndL n).tail.map (f .exp)) else if ndK n=30 then [wT [46],wdT (ndS n)] else wT [119,105,116,104]::lstT [123] [125] ((ndL n).tail.map (f .set)))
def priT (n:Nd):List Tk:=
 if ndK n=20 then [inT (ndN n)]
 else if ndK n=21 then [⟨3,ndS n,0,0⟩]
 else if ndK n=22 then (if ndN n=1 then [wT [116,114,117,101]] else [wT [102,97,108,115,101]])
 else if ndK n=23 then [wT [40],wT [41]]
 else if ndK n=25 then [wT [115,101,108,102]]
 else if ndK n=26 then lstT [91] [93] ((ndL n).map (f .exp))
 else if ndK n=27 then wdT (ndS n)::lstT [123] [125] ((ndL n).map (f .set))
 else if ndK n=29 then wdT (ndS n)::(if 0<(ndL n).length then lstT [40] [41] ((ndL n).map (f .exp)) else [])
 else [wdT (ndS n)]
def expT (n:Nd):List Tk:=
 if ndK n=37 then wT [108,101,116]::wdT (ndS n)::wT [61]::(f .exp (kid n 0)++wT [105,110]::f .exp (kid n 1))
 else if ndK n=36 then wT [105,102]::(f .exp (kid n 0)++wT [116,104,101,110]::(f .exp (kid n 1)++wT [101,108,115,101]::f .exp (kid n 2)))
 else if ndK n=38 then wT [109,97,116,99,104]::(grpT f (kid n 0)++lstT [123] [125] ((ndL n).tail.map (f .arm)))
 else if ndK n=41 then wT [102,117,110]::funT f n
 else if ndK n=35 then binT f n
 else if ndK n=34 then wT [110,111,116]::opdT f (kid n 0) 3
 else if ndK n=33 then wT [45]::opdT f (kid n 0) 8
 else if ndK n=32∨ndK n=30∨ndK n=31 then posT f n
 else priT f n
def spwT (n:Nd):List Tk:=
 (if ndT (kid n 0)=[95] then [] else [wT [108,101,116],wdT (ndS (kid n 0)),wT [61]])++wT [115,112,97,119,110]::wdT (ndS n) ::
 (lstT [40] [41] (((ndL n).take ((ndL n).length-(ndN n).toNat)).tail.map (f .exp))++(if ndN n=1 then wT [111,110]::f .exp (kid n ((ndL n).length-(ndN n).toNat)) else []))
def stmT (n:Nd):List Tk:=
 if ndK n=50 then wT [108,101,116]::wdT (ndS n)::wT [61]::f .exp (kid n 0)
 else if ndK n=51 then wdT (ndS n)::wT [61]::f .exp (kid n 0)
 else if ndK n=52 then wT [105,102]::(grpT f (kid n 0)++(f .blk (kid n 1)++if 2<(ndL n).length then wT [101,108,115,101]::f .blk (kid n 2) else []))
 else if ndK n=53 then wT [109,97,116,99,104]::(grpT f (kid n 0)++wT [123]::((ndL n).tail.flatMap (f .sarm)++[wT [125]]))
 else if ndK n=55 then wT [102,111,114]::wdT (ndS n)::wT [105,110]::(grpT f (kid n 0)++f .blk (kid n 1))
 else if ndK n=56 then sndT f n
 else if ndK n=57 then wT [97,102,116,101,114]::(f .exp (kid n 0)++f .snd (kid n 1))
 else if ndK n=58 then spwT f n
 else if ndK n=59 then wT [100,111]::wdT (ndS n)::(lstT [40] [41] ((initN n).map (f .exp))++[wT [116,104,101,110],wdT (ndS (lastN n))])
 else if ndK n=60 then [wT [115,116,111,112]]
 else if ndK n=61 then wT [102,97,105,108]::f .exp (kid n 0)
 else []
def actT (n:Nd):List Tk:=wT [97,99,116,111,114]::wdT (ndS n)::(lstT [40] [41] (((ndL n).take (leadB (ndL n))).map (f .fld)) ++
 ((if ndN n<0 then [wT [101,115,99,97,108,97,116,101]] else if 0<ndN n then [wT [114,101,115,116,97,114,116],inT (ndN n-1)] else [])++wT [123]::(((ndL n).drop (leadB (ndL n))).flatMap (f .mem)++[wT [125]])))
def cnvT (n:Nd):List Tk:=wT [99,111,110,118,101,114,116] ::
 (if ndK n=70 then wT [116,121,112,101]::wdT (ndS n)::((if ndN n=1 then [wT [46],wdT (ndS (kid n 0))] else [])++(lstT [40] [41] (((initN n).drop (ndN n).toNat).map (f .fld))++wT [61]::f .exp (lastN n)))
 else if ndK n=71 then wT [97,99,116,111,114]::wdT (ndS n)::(lstT [40] [41] (((ndL n).take (leadB (ndL n))).map (f .fld))++lstT [123] [125] (((ndL n).drop (leadB (ndL n))).map (f .set)))
 else wT [109,101,115,115,97,103,101]::wdT (ndS n)::wT [46]::wdT (ndS (kid n 0))::(lstT [40] [41] (((initN n).drop 1).map (f .fld))++wT [61]::f .ans (lastN n)))
def dclT (n:Nd):List Tk:=
 if ndK n=2 then wT [114,101,99,111,114,100]::wdT (ndS n)::lstT [123] [125] ((ndL n).map (f .fld))
 else if ndK n=3 then wT [118,97,114,105,97,110,116]::wdT (ndS n)::lstT [123] [125] ((ndL n).map (f .ctor))
 else if ndK n=4 then wT [101,102,102,101,99,116]::wdT (ndS n)::(lstT [40] [41] ((initN n).map (f .fld))++wT [58]::f .typ (lastN n))
 else if ndK n=5 then wT [102,117,110]::wdT (ndS n)::funT f n
 else if ndK n=6 then actT f n
 else if ndK n=73 then [wT [109,111,118,101],wdT (ndS n),wT [116,111],inT (ndN n)]
 else if ndK n=74 then [wT [100,114,111,112],wdT (ndS n)]
 else cnvT f n
def typT (n:Nd):List Tk:=
 if ndK n=13 then wT [91]::(f .typ (kid n 0)++[wT [93]])
 else if ndK n=14 then [wT [114,101,102],wdT (ndS n)]
 else if ndK n=15 then wT [102,117,110]::(lstT [40] [41] ((initN n).map (f .typ))++wT [58]::f .typ (lastN n))
 else [wdT (ndS n)]
def memT (n:Nd):List Tk:=
 if ndK n=9 then wT [115,116,97,116,101]::wdT (ndS n)::wT [58]::(f .typ (kid n 0)++wT [61]::f .exp (kid n 1))
 else wT [111,110]::wdT (ndS n)::(lstT [40] [41] ((initN n).map (f .fld))++f .blk (lastN n))
def tokF:Sh→Nd→List Tk
 | .typ,n=>typT f n
 | .fld,n=>wdT (ndS n)::wT [58]::f .typ (kid n 0)
 | .ctor,n=>wdT (ndS n)::(if 0<(ndL n).length then lstT [40] [41] ((ndL n).map (f .typ)) else [])
 | .mem,n=>memT f n
 | .exp,n=>expT f n
 | .set,n=>wdT (ndS n)::wT [61]::f .exp (kid n 0)
 | .arm,n=>patT n++wT [61,62]::f .exp (lastN n)
 | .blk,n=>wT [123]::((ndL n).flatMap (f .stm)++[wT [125]])
 | .stm,n=>stmT f n
 | .sarm,n=>patT n++f .blk (lastN n)
 | .snd,n=>sndT f n
 | .ans,n=>wdT (ndS n)::lstT [40] [41] ((ndL n).map (f .exp))
 | .dcl,n=>dclT f n
 | .chg,n=>dclT f n
 | .leaf _ _,n=>[wdT (ndS n)]
end
def tok:Nat→Sh→Nd→List Tk
 | 0,_,_=>[]
 | k+1,s,n=>tokF (tok k) s n
def toksP (n:Nd):List Tk:=if rightB n then (ndL n).flatMap (tok 40 .dcl) else []
end
section
def Ev (p:Nat→Prop):Prop:=∃N0,∀N,N0≤N→p N
theorem Ev.of {p:Nat→Prop} (h:∀N,p N):Ev p:=⟨0,fun N _=>h N⟩
theorem Ev.and {p q:Nat→Prop} (h:Ev p) (k:Ev q):Ev fun N=>p N∧q N:=by
 obtain⟨a,h⟩:=h
 obtain⟨b,k⟩:=k
 exact⟨a+b,fun N hN=>⟨h N ω,k N ω⟩⟩
theorem Ev.mono {p q:Nat→Prop} (h:Ev p) (k:∀N,p N→q N):Ev q:=by
 obtain⟨a,h⟩:=h
 exact⟨a,fun N hN=>k N (h N hN)⟩
theorem Ev.up {p q:Nat→Prop} (h:Ev p) (k:∀N,p N→q (N+1)):Ev q:=by
 obtain⟨a,h⟩:=h
 refine⟨a+1,fun N hN=>?_⟩
 obtain⟨M,rfl⟩:∃M,N=M+1:=⟨N-1,by omega⟩
 exact k M (h M ω)
theorem Ev.pos:Ev fun N=>0<N:=⟨1,fun N h=>h⟩
mutual
def zpN:Nd→Prop
 | .mk _ _ _ p l=>p=0∧zpL l
def zpL:List Nd→Prop
 | []=>True
 | x::l=>zpN x∧zpL l
end
theorem zpL_mem:∀{l:List Nd} {x:Nd},zpL l→x∈l→zpN x
 | y::l,x,h,hx=>by
  rw[zpL] at h
  rcases List.mem_cons.1 hx with rfl|hx
  · exact h.1
  · exact zpL_mem h.2 hx
theorem zp_form {n:Nd} (h:zpN n):n=.mk (ndK n) (ndS n) (ndN n) 0 (ndL n)∧zpL (ndL n):=by
 cases n with
 | mk k s m p l=>rw[zpN] at h;rw[h.1];exact⟨rfl,h.2⟩
theorem wl_wd (s:Ê) (r:List Tk):wl (wdT s::r)=s.data.toList:=by
 unfold wl wrd wdT
 rw[if_pos (by show (if letF s then (1:Int) else 4)=1∨(if letF s then (1:Int) else 4)=4;split<;>simp)]
 rfl
theorem wrd_wd (s:Ê) (r:List Tk):wrd (wdT s::r)=s:=by
 unfold wrd wdT
 rw[if_pos (by show (if letF s then (1:Int) else 4)=1∨(if letF s then (1:Int) else 4)=4;split<;>simp)]
 rfl
theorem wl_w (l:List UInt8) (r:List Tk):wl (wT l::r)=l:=by
 unfold wT
 rw[wl_wd];simp[str]
section
variable {α β:Type} {w:List UInt8} {r:List Tk} {s:Ê}
theorem acc_w {y n:M α}:acc w y n (wT w::r)=y r:=acc_t (by rw[wl_w];simp)
theorem acc_nw {v:List UInt8} {y n:M α} (h:(v==w)=false):acc w y n (wT v::r)=n (wT v::r):=acc_f (by rw[wl_w];exact h)
theorem acc_nd {y n:M α} (h:(s.data.toList==w)=false):acc w y n (wdT s::r)=n (wdT s::r):=acc_f (by rw[wl_wd];exact h)
theorem exp_w:expect w (wT w::r)=.ok () r:=exp_t (by rw[wl_w];simp)
theorem nam_d {p:List UInt8→Bool} (h:p s.data.toList=true):name p (wdT s::r)=.ok s r:=by
 rw[nam_t (by rw[wl_wd];exact h),wrd_wd];rfl
end
theorem pne {p:List UInt8→Bool} {l w:List UInt8} (h:p l=true) (hw:p w=false):(l==w)=false:=by
 cases hq:l==w with
 | false=>rfl
 | true=>rw[beq_iff_eq] at hq;rw[hq,hw] at h;cases h
theorem nam_of {p:Wp} {n:Nd} (h:namB p n=true):p.b (ndS n).data.toList=true∧ndN n=0:=by
 unfold namB ndT at h
 rw[Bool.and_eq_true,beq_iff_eq] at h
 exact h
theorem bare_of {n:Nd} (h:bareB n=true):ndS n=e0∧ndN n=0:=by
 unfold bareB ndT at h
 rw[Bool.and_eq_true,beq_iff_eq,beq_iff_eq] at h
 exact⟨by
  have h1:=h.1
  apply ByteArray.ext
  apply Array.toList_inj.1
  rw[h1];rfl,h.2⟩
section
variable {m:Nat→M Nd} {T:Nd→List Tk} {b:List UInt8}
theorem join_cons (T:Nd→List Tk) (x:Nd) (l:List Nd):joinT ((x::l).map T)=T x++l.flatMap fun y=>wT [44]::T y:=by
 induction l generalizing x with
 | nil=>simp[joinT]
 | cons y l ih =>
  have h:=ih y
  simp only[List.map_cons] at h ⊢
  rw[joinT,h,List.flatMap_cons]
  · rfl
  · simp
theorem ev_tail (hb:(b==[44])=false):∀(l:List Nd),(∀x∈l,∀r,(wl r=[44]∨wl r=b)→Ev fun N=>m N (T x++r)=.ok x r)→∀r:List Tk,∃N0,∀N,N0≤N→∀j,l.length<j→tailP (m N) j ((l.flatMap fun x=>wT [44]::T x)++wT b::r)=.ok l (wT b::r)
 | [],_,r=>⟨0,fun N _ j hj=>by
  obtain⟨j,rfl⟩:∃i,j=i+1:=⟨j-1,by omega⟩
  rw[List.flatMap_nil,List.nil_append]
  unfold tailP
  rw[acc_nw hb];rfl⟩
 | x::l,h,r=>by
  obtain⟨a,h1⟩:=h x (List.mem_cons_self ..) ((l.flatMap fun x=>wT [44]::T x)++wT b::r) (by
   cases l with
   | nil=>right;rw[List.flatMap_nil,List.nil_append,wl_w]
   | cons y l=>left;rw[List.flatMap_cons,List.cons_append,List.cons_append,wl_w])
  obtain⟨c,h2⟩:=ev_tail hb l (fun y hy=>h y (List.mem_cons_of_mem _ hy)) r
  refine⟨a+c,fun N hN j hj=>?_⟩
  obtain⟨j,rfl⟩:∃i,j=i+1:=⟨j-1,by simp at hj;omega⟩
  rw[List.flatMap_cons,List.cons_append,List.cons_append,List.append_assoc]
  unfold tailP
  rw[acc_w,bd_ok (h1 N ω),bd_ok (h2 N ω j (by simp at hj;omega))]
  rfl
theorem ev_itemsJ (hb:(b==[44])=false) (x:Nd) (l:List Nd) (h:∀y∈x::l,∀r,(wl r=[44]∨wl r=b)→Ev fun N=>m N (T y++r)=.ok y r) (r:List Tk):∃N0,∀N,N0≤N→∀j,l.length<j→itemsP b (m N) j (joinT ((x::l).map T)++wT b::r)=.ok (x::l) r:=by
 obtain⟨a,h1⟩:=h x (List.mem_cons_self ..) ((l.flatMap fun x=>wT [44]::T x)++wT b::r) (by
  cases l with
  | nil=>right;rw[List.flatMap_nil,List.nil_append,wl_w]
  | cons y l=>left;rw[List.flatMap_cons,List.cons_append,List.cons_append,wl_w])
 obtain⟨c,h2⟩:=ev_tail hb l (fun y hy=>h y (List.mem_cons_of_mem _ hy)) r
 refine⟨a+c,fun N hN j hj=>?_⟩
 rw[join_cons,List.append_assoc]
 unfold itemsP
 rw[bd_ok (h1 N ω),bd_ok (h2 N ω j hj),bd_ok exp_w]
 rfl
theorem ev_items (hb:(b==[44])=false) (x:Nd) (l:List Nd) (h:∀y∈x::l,∀r,(wl r=[44]∨wl r=b)→Ev fun N=>m N (T y++r)=.ok y r) (r:List Tk):Ev fun N=>itemsP b (m N) N (joinT ((x::l).map T)++wT b::r)=.ok (x::l) r:=by
 obtain⟨a,h⟩:=ev_itemsJ hb x l h r
 exact⟨a+l.length+1,fun N hN=>h N ω N ω⟩
theorem ev_listJ (hb:(b==[44])=false) (l:List Nd) (h:∀y∈l,∀r,(wl r=[44]∨wl r=b)→Ev fun N=>m N (T y++r)=.ok y r) (hne:∀y∈l,∀r,(wl (T y++r)==b)=false) (r:List Tk):∃N0,∀N,N0≤N→∀j,l.length<j→listP b (m N) j (joinT (l.map T)++wT b::r)=.ok l r:=by
 cases l with
 | nil=>exact⟨0,fun N _ j _=>by unfold listP;rw[show joinT (([]:List Nd).map T)++wT b::r=wT b::r from rfl,acc_w];rfl⟩
 | cons x l =>
  obtain⟨a,hN⟩:=ev_itemsJ hb x l h r
  refine⟨a,fun N hN' j hj=>?_⟩
  unfold listP
  rw[acc_f (by rw[join_cons,List.append_assoc];exact hne x (List.mem_cons_self ..) _)]
  exact hN N hN' j (by simp at hj;omega)
theorem ev_list (hb:(b==[44])=false) (l:List Nd) (h:∀y∈l,∀r,(wl r=[44]∨wl r=b)→Ev fun N=>m N (T y++r)=.ok y r) (hne:∀y∈l,∀r,(wl (T y++r)==b)=false) (r:List Tk):Ev fun N=>listP b (m N) N (joinT (l.map T)++wT b::r)=.ok l r:=by
 obtain⟨a,h⟩:=ev_listJ hb l h hne r
 exact⟨a+l.length+1,fun N hN=>h N ω N ω⟩
theorem ev_lst {a:List UInt8} (hb:(b==[44])=false) (l:List Nd) (h:∀y∈l,∀r,(wl r=[44]∨wl r=b)→Ev fun N=>m N (T y++r)=.ok y r) (hne:∀y∈l,∀r,(wl (T y++r)==b)=false) (r:List Tk):Ev fun N=>(expect a >>= fun _=>listP b (m N) N:M (List Nd)) (lstT a b (l.map T)++r)=.ok l r:=by
 refine (ev_list hb l h hne r).mono fun N hN=>?_
 unfold lstT
 rw[List.cons_append,bd_ok exp_w,List.append_assoc]
 exact hN
end
section
variable {f:Sh→Nd→Bool}
theorem kser1 {l:List Nd} {a:Sh} (h:serB f l [a]=true):∃x,l=[x]∧f a x=true:=by
 match l,h with
 | [x],h=>simp[serB] at h;exact⟨x,rfl,h⟩
 | [],h=>simp[serB] at h
 | _::_::_,h=>simp[serB] at h
theorem kser2 {l:List Nd} {a b:Sh} (h:serB f l [a,b]=true):∃x y,l=[x,y]∧f a x=true∧f b y=true:=by
 match l,h with
 | [x,y],h=>simp[serB] at h;exact⟨x,y,rfl,h⟩
 | [],h=>simp[serB] at h
 | [_],h=>simp[serB] at h
 | _::_::_::_,h=>simp[serB] at h
theorem kser3 {l:List Nd} {a b c:Sh} (h:serB f l [a,b,c]=true):∃x y z,l=[x,y,z]∧f a x=true∧f b y=true∧f c z=true:=by
 match l,h with
 | [x,y,z],h=>simp[serB] at h;exact⟨x,y,z,rfl,h⟩
 | [],h=>simp[serB] at h
 | [_],h=>simp[serB] at h
 | [_,_],h=>simp[serB] at h
 | _::_::_::_::_,h=>simp[serB] at h
theorem kend1 {l:List Nd} {a b:Sh} (h:endB f l a [b]=true):∃i x,l=i++[x]∧(∀y∈i,f a y=true)∧f b x=true:=by
 unfold endB at h
 simp only[Bool.and_eq_true,decide_eq_true_eq,List.all_eq_true] at h
 obtain⟨_,h1,h2⟩:=h
 obtain⟨x,hx,hf⟩:=kser1 h2
 exact⟨_,x,by rw[←hx,List.take_append_drop],h1,hf⟩
theorem kend2 {l:List Nd} {a b c:Sh} (h:endB f l a [b,c]=true):∃i x y,l=i++[x,y]∧(∀z∈i,f a z=true)∧f b x=true∧f c y=true:=by
 unfold endB at h
 simp only[Bool.and_eq_true,decide_eq_true_eq,List.all_eq_true] at h
 obtain⟨_,h1,h2⟩:=h
 obtain⟨x,y,hx,hf,hg⟩:=kser2 h2
 exact⟨_,x,y,by rw[←hx,List.take_append_drop],h1,hf,hg⟩
end
theorem typ_head:∀(k:Nat) (n:Nd),shp k .typ n=true→∀r,(wl (tok k .typ n++r)==[41])=false
 | 0,n,h,r=>by cases h
 | k+1,n,h,r=>by
  have h:typeB (shp k) n=true:=h
  show (wl (typT (tok k) n++r)==[41])=false
  unfold typeB at h
  unfold typT
  split at h
  · rename_i hk
    rw[if_neg ω,if_neg ω,if_neg ω,List.singleton_append,wl_wd]
    rw[Bool.and_eq_true] at h
    exact pne (p:=typB) (nam_of h.1).1 π
  · split at h
    · rename_i hk
      rw[if_pos hk,List.cons_append,wl_w];decide
    · split at h
      · rename_i hk _ hk
        rw[if_neg ω,if_pos hk,List.cons_append,wl_w];decide
      · split at h
        · rename_i hk
          rw[if_neg ω,if_neg ω,if_pos hk,List.cons_append,wl_w];decide
        · cases h
theorem typ_back:∀(k:Nat) (n:Nd),zpN n→shp k .typ n=true→∀r,Ev fun N=>typP 0 N (tok k .typ n++r)=.ok n r
 | 0,n,_,h,r=>by cases h
 | k+1,n,hz,h,r=>by
  have h:typeB (shp k) n=true:=h
  show Ev fun N=>typP 0 N (typT (tok k) n++r)=.ok n r
  obtain⟨hn,hzl⟩:=zp_form hz
  unfold typeB at h
  unfold typT
  split at h
  · rename_i hk
    rw[if_neg ω,if_neg ω,if_neg ω,List.singleton_append]
    rw[Bool.and_eq_true,beq_iff_eq] at h
    obtain⟨h1,h2⟩:=nam_of h.1
    have h1:typB (ndS n).data.toList=true:=h1
    refine Ev.up (Ev.of fun _=>trivial) fun N _=>?_
    unfold typP
    simp only[look]
    rw[acc_nd (pne (p:=typB) h1 π),acc_nd (pne (p:=typB) h1 π),acc_nd (pne (p:=typB) h1 π),bd_ok (nam_d h1)]
    show Re.ok (Nd.mk 12 (ndS n) 0 0 []) r=_
    rw[hn,hk,h2,List.length_eq_zero_iff.1 h.2];rfl
  · split at h
    · rename_i hk
      rw[if_pos hk,List.cons_append,List.append_assoc,List.singleton_append]
      rw[Bool.and_eq_true] at h
      obtain⟨h1,h2⟩:=bare_of h.1
      obtain⟨x,hx,hf⟩:=kser1 h.2
      have hkid:kid n 0=x:=by unfold kid;rw[hx];rfl
      rw[hkid]
      refine Ev.up (typ_back k x (zpL_mem hzl (by rw[hx];simp)) hf (wT [93]::r)) fun N hN=>?_
      unfold typP
      simp only[look]
      rw[acc_w,bd_ok hN,bd_ok exp_w]
      show Re.ok (Nd.mk 13 e0 0 0 [x]) r=_
      rw[hn,hk,h1,h2,hx]
    · split at h
      · rename_i hk _ hk
        rw[if_neg ω,if_pos hk,List.cons_append,List.singleton_append]
        rw[Bool.and_eq_true,beq_iff_eq] at h
        obtain⟨h1,h2⟩:=nam_of h.1
        have h1:uppB (ndS n).data.toList=true:=h1
        refine Ev.up (Ev.of fun _=>trivial) fun N _=>?_
        unfold typP
        simp only[look]
        rw[acc_nw π,acc_w,bd_ok (nam_d h1)]
        show Re.ok (Nd.mk 14 (ndS n) 0 0 []) r=_
        rw[hn,hk,h2,List.length_eq_zero_iff.1 h.2];rfl
      · split at h
        · rename_i hk
          rw[if_neg ω,if_neg ω,if_pos hk,List.cons_append,List.append_assoc,List.cons_append]
          simp only[Bool.and_eq_true,decide_eq_true_eq,List.all_eq_true] at h
          obtain⟨⟨hb,hl⟩,ha⟩:=h
          obtain⟨h1,h2⟩:=bare_of hb
          obtain⟨i,x,hx⟩:∃i x,ndL n=i++[x]:=⟨(ndL n).dropLast,(ndL n).getLast (by intro e;rw[e] at hl;cases hl),(List.dropLast_concat_getLast _).symm⟩
          have hini:initN n=i:=by unfold initN;rw[hx];simp
          have hlast:lastN n=x:=by unfold lastN kid;rw[hx];simp
          rw[hini,hlast]
          have e1:=ev_lst (m:=fun N=>typP 0 N) (T:=tok k .typ) (a:=[40]) (b:=[41]) π i (fun y hy r _=>typ_back k y (zpL_mem hzl (by rw[hx];simp[hy])) (ha y (by rw[hx];simp[hy])) r) (fun y hy r=>typ_head k y (ha y (by rw[hx];simp[hy])) r) (wT [58]::(tok k .typ x++r))
          have e2:=typ_back k x (zpL_mem hzl (by rw[hx];simp)) (ha x (by rw[hx];simp)) r
          refine Ev.up (e1.and e2) fun N hN=>?_
          unfold typP
          simp only[look]
          rw[acc_nw π,acc_nw π,acc_w]
          have e3:(expect [40] >>= fun _=>listP [41] (typP 0 N) N >>= fun l=>expect [58] >>= fun _=>typP 0 N >>= fun x=>pure (Nd.mk 15 e0 0 (offP 0 (wT [102,117,110]::(lstT [40] [41] (i.map (tok k .typ))++wT [58]::(tok k .typ x++r)))) (l++[x])):M Nd)=((expect [40] >>= fun _=>listP [41] (typP 0 N) N:M (List Nd)) >>= fun l=>expect [58] >>= fun _=>typP 0 N >>= fun x=>pure (Nd.mk 15 e0 0 0 (l++[x])):M Nd):=by
           funext ts
           show Re.bd (expect [40] ts) _=Re.bd (Re.bd (expect [40] ts) _) _
           cases expect [40] ts<;>rfl
          show (expect [40] >>= fun _=>listP [41] (typP 0 N) N >>= fun l=>expect [58] >>= fun _=>typP 0 N >>= fun x=>pure (Nd.mk 15 e0 0 (offP 0 (wT [102,117,110]::(lstT [40] [41] (i.map (tok k .typ))++wT [58]::(tok k .typ x++r)))) (l++[x])):M Nd) _=_
          rw[e3,bd_ok hN.1,bd_ok exp_w,bd_ok hN.2]
          show Re.ok (Nd.mk 15 e0 0 0 (i++[x])) r=_
          rw[hn,hk,h1,h2,hx]
        · cases h
end
section
structure Flw (lv:Nat) (r:List Tk):Prop where
 lev:∀m,levP (wl r)=some m→m<lv
 par:(wl r==[40])=false
 dot:(wl r==[46])=false
 wit:(wl r==[119,105,116,104])=false
 cur:(wl r==[123])=false
theorem Flw.up {a b:Nat} {r:List Tk} (h:Flw a r) (hab:a≤b):Flw b r:=⟨fun m hm=>Nat.lt_of_lt_of_le (h.lev m hm) hab,h.par,h.dot,h.wit,h.cur⟩
theorem Flw.mrk {w:List UInt8} (h:levP w=none∧(w==[40])=false∧(w==[46])=false∧(w==[119,105,116,104])=false∧(w==[123])=false) (lv:Nat) (r:List Tk):Flw lv (wT w::r):=by
 obtain⟨h1,h2,h3,h4,h5⟩:=h
 exact⟨fun m hm=>(by rw[wl_w,h1] at hm;cases hm),by rw[wl_w];exact h2,by rw[wl_w];exact h3,by rw[wl_w];exact h4,by rw[wl_w];exact h5⟩
theorem lev_range {w:List UInt8} {m:Nat} (h:levP w=some m):m=1∨m=2∨m=4∨m=5∨m=6∨m=7:=by
 unfold levP at h
 split at h
 · injection h with h;omega
 · split at h
   · injection h with h;omega
   · split at h
     · injection h with h;omega
     · split at h
       · injection h with h;omega
       · split at h
         · injection h with h;omega
         · split at h
           · injection h with h;omega
           · cases h
section
variable {T r:List Tk} {n:Nd} {hh:Bool}
theorem bin_no {lv:Nat} {m:M Nd} {p:Int} {j:Nat} {a:Nd} (h:levP (wl r)≠some lv):binP lv m p (j+1) a r=.ok a r:=by
 unfold binP
 simp only[look]
 rw[if_neg h];rfl
theorem tails_no {m:M Nd} {p:Int} {j:Nat} {a:Nd} (h1:(wl r==[40])=false) (h2:(wl r==[46])=false) (h3:(wl r==[119,105,116,104])=false):tailsP 0 m p (j+1) a r=.ok a r:=by
 unfold tailsP
 simp only[look]
 rw[if_neg (by rw[h1];simp),acc_f h2,acc_f h3];rfl
theorem ev_down {lv:Nat} (h3:lv≠3) (h8:lv≠8) (h:Ev fun N=>operP 0 N hh (lv+1) T=.ok n r) (hr:levP (wl r)≠some lv):Ev fun N=>operP 0 N hh lv T=.ok n r:=by
 refine (h.and Ev.pos).up fun N hN=>?_
 obtain⟨M,rfl⟩:∃M,N=M+1:=⟨N-1,by omega⟩
 rw[operP]
 simp only[look]
 rw[if_neg h3,if_neg h8,bd_ok hN.1]
 exact bin_no hr
theorem ev_down3 (h:Ev fun N=>operP 0 N hh 4 T=.ok n r) (hT:(wl T==[110,111,116])=false):Ev fun N=>operP 0 N hh 3 T=.ok n r:=by
 refine h.up fun N hN=>?_
 rw[operP]
 simp only[look]
 rw[if_pos trivial,acc_f hT]
 exact hN
theorem ev_downs {l:Nat} (hl:l≤8) (h:Ev fun N=>operP 0 N hh l T=.ok n r) (hT:4≤l→(wl T==[110,111,116])=false):∀(d lv:Nat),lv+d=l→1≤lv→Flw lv r→Ev fun N=>operP 0 N hh lv T=.ok n r
 | 0,lv,e,_,_=>by
  obtain rfl:lv=l:=by omega
  exact h
 | d+1,lv,e,h1,hr=>by
  have ih:=ev_downs hl h hT d (lv+1) ω ω (hr.up ω)
  by_cases h3:lv=3
  · subst h3
    exact ev_down3 ih (hT ω)
  · exact ev_down h3 ω ih (fun e=>by have:=hr.lev _ e;omega)
theorem ev_expr (h:Ev fun N=>operP 0 N hh 1 T=.ok n r) (hT:(wl T==[108,101,116])=false∧(wl T==[105,102])=false∧(wl T==[109,97,116,99,104])=false∧(wl T==[102,117,110])=false):Ev fun N=>exprP 0 N hh T=.ok n r:=by
 refine h.up fun N hN=>?_
 rw[exprP]
 simp only[look]
 rw[acc_f hT.1,acc_f hT.2.1,acc_f hT.2.2.1,acc_f hT.2.2.2]
 exact hN
def p8 (hh:Bool) (N:Nat):M Nd:=primP 0 (exprP 0 N false) N hh >>= fun a=>tailsP 0 (exprP 0 N false) 0 N a
theorem ev_p8 (h:Ev fun N=>p8 hh N T=.ok n r) (hT:(wl T==[45])=false) (hz:offP 0 T=0):Ev fun N=>operP 0 N hh 8 T=.ok n r:=by
 refine h.up fun N hN=>?_
 rw[operP]
 simp only[look]
 rw[if_pos trivial,if_neg π,acc_f hT,hz]
 exact hN
theorem ev_grp (h:Ev fun N=>exprP 0 N false (T++wT [41]::r)=.ok n (wT [41]::r)) (hT:(wl (T++wT [41]::r)==[41])=false):Ev fun N=>primP 0 (exprP 0 N false) N hh (wT [40]::(T++[wT [41]])++r)=.ok n r:=by
 refine h.mono fun N hN=>?_
 have e:wT [40]::(T++[wT [41]])++r=wT [40]::(T++wT [41]::r):=by simp
 rw[e]
 unfold primP
 simp only[look]
 have hk:kd (wT [40]::(T++wT [41]::r))=4:=rfl
 rw[if_neg (by rw[hk];decide),if_neg (by rw[hk];decide),acc_nw π,acc_nw π,acc_nw π,acc_nw π,acc_w,acc_f hT,bd_ok hN,bd_ok exp_w]
 rfl
end
end
inductive ExF (f:Sh→Nd→Bool) (n:Nd):Prop where
 | lit (hk:ndK n=20∨ndK n=21∨ndK n=22∨ndK n=23∨ndK n=24∨ndK n=25) (h0:ndL n=[]) (hc:cnsB n=true)
 | lst (hk:ndK n=26) (hs:ndS n=e0) (hn:ndN n=0) (ha:∀x∈ndL n,f .exp x=true)
 | new (hk:ndK n=27) (hs:uppB (ndS n).data.toList=true) (hn:ndN n=0) (ha:∀x∈ndL n,f .set x=true)
 | con (hk:ndK n=29) (hs:uppB (ndS n).data.toList=true) (hn:ndN n=0) (ha:∀x∈ndL n,f .exp x=true)
 | get (hk:ndK n=30) (hs:lowB (ndS n).data.toList=true) (hn:ndN n=0) (x:Nd) (hl:ndL n=[x]) (hx:f .exp x=true)
 | wit (hk:ndK n=31) (hs:ndS n=e0) (hn:ndN n=0) (x y:Nd) (l:List Nd) (hl:ndL n=x::y::l) (hx:f .exp x=true) (ha:∀z∈y::l,f .set z=true)
 | cal (hk:ndK n=32) (hs:ndS n=e0) (hn:ndN n=0) (x:Nd) (l:List Nd) (hl:ndL n=x::l) (hx:f .exp x=true) (ha:∀z∈l,f .exp z=true)
 | neg (hk:ndK n=33) (hs:ndS n=e0) (hn:ndN n=0) (x:Nd) (hl:ndL n=[x]) (hx:f .exp x=true)
 | no (hk:ndK n=34) (hs:ndS n=e0) (hn:ndN n=0) (x:Nd) (hl:ndL n=[x]) (hx:f .exp x=true)
 | bin (hk:ndK n=35) (m:Nat) (hs:levP (ndT n)=some m) (hn:ndN n=0) (x y:Nd) (hl:ndL n=[x,y]) (hx:f .exp x=true) (hy:f .exp y=true)
 | ite (hk:ndK n=36) (hs:ndS n=e0) (hn:ndN n=0) (x y z:Nd) (hl:ndL n=[x,y,z]) (hx:f .exp x=true) (hy:f .exp y=true) (hz:f .exp z=true)
 | lett (hk:ndK n=37) (hs:lowB (ndS n).data.toList=true) (hn:ndN n=0) (x y:Nd) (hl:ndL n=[x,y]) (hx:f .exp x=true) (hy:f .exp y=true)
 | mat (hk:ndK n=38) (hs:ndS n=e0) (hn:ndN n=0) (x y:Nd) (l:List Nd) (hl:ndL n=x::y::l) (hx:f .exp x=true) (ha:∀z∈y::l,f .arm z=true)
 | lam (hk:ndK n=41) (hs:ndS n=e0) (hn:ndN n=0) (i:List Nd) (x y:Nd) (hl:ndL n=i++[x,y]) (ha:∀z∈i,f .fld z=true) (hx:f .typ x=true) (hy:f .exp y=true)
theorem beg_of {f:Sh→Nd→Bool} {a b:Sh} {l:List Nd} (h:begB f a b l=true):∃x r,l=x::r∧f a x=true∧∀z∈r,f b z=true:=by
 cases l with
 | nil=>cases h
 | cons x r =>
  unfold begB at h
  rw[Bool.and_eq_true,List.all_eq_true] at h
  exact⟨x,r,rfl,h⟩
theorem ex_form {f:Sh→Nd→Bool} {n:Nd} (h:expB f n=true):ExF f n:=by
 unfold expB at h
 by_cases hk:ndK n=20∨ndK n=21∨ndK n=22∨ndK n=23∨ndK n=24∨ndK n=25
 · rw[if_pos hk] at h
   rw[Bool.and_eq_true,beq_iff_eq] at h
   exact .lit hk (List.length_eq_zero_iff.1 h.1) h.2
 rw[if_neg hk] at h
 clear hk
 by_cases hk:ndK n=26
 · rw[if_pos hk] at h
   rw[Bool.and_eq_true,List.all_eq_true] at h
   obtain⟨a,b⟩:=bare_of h.1
   exact .lst hk a b h.2
 rw[if_neg hk] at h
 clear hk
 by_cases hk:ndK n=27
 · rw[if_pos hk] at h
   rw[Bool.and_eq_true,List.all_eq_true] at h
   obtain⟨a,b⟩:=nam_of h.1
   exact .new hk a b h.2
 rw[if_neg hk] at h
 clear hk
 by_cases hk:ndK n=29
 · rw[if_pos hk] at h
   rw[Bool.and_eq_true,List.all_eq_true] at h
   obtain⟨a,b⟩:=nam_of h.1
   exact .con hk a b h.2
 rw[if_neg hk] at h
 clear hk
 by_cases hk:ndK n=30
 · rw[if_pos hk] at h
   rw[Bool.and_eq_true] at h
   obtain⟨a,b⟩:=nam_of h.1
   obtain⟨x,hl,hx⟩:=kser1 h.2
   exact .get hk a b x hl hx
 rw[if_neg hk] at h
 clear hk
 by_cases hk:ndK n=31
 · rw[if_pos hk] at h
   rw[Bool.and_eq_true,Bool.and_eq_true,decide_eq_true_eq] at h
   obtain⟨a,b⟩:=bare_of h.1.1
   obtain⟨x,l,hl,hx,ha⟩:=beg_of h.2
   cases l with
   | nil=>have:=h.1.2;rw[hl] at this;simp at this
   | cons y l=>exact .wit hk a b x y l hl hx ha
 rw[if_neg hk] at h
 clear hk
 by_cases hk:ndK n=32
 · rw[if_pos hk] at h
   rw[Bool.and_eq_true] at h
   obtain⟨a,b⟩:=bare_of h.1
   obtain⟨x,l,hl,hx,ha⟩:=beg_of h.2
   exact .cal hk a b x l hl hx ha
 rw[if_neg hk] at h
 clear hk
 by_cases hk:ndK n=33∨ndK n=34
 · rw[if_pos hk] at h
   rw[Bool.and_eq_true] at h
   obtain⟨a,b⟩:=bare_of h.1
   obtain⟨x,hl,hx⟩:=kser1 h.2
   rcases hk with hk|hk
   · exact .neg hk a b x hl hx
   · exact .no hk a b x hl hx
 rw[if_neg hk] at h
 clear hk
 by_cases hk:ndK n=35
 · rw[if_pos hk] at h
   rw[Bool.and_eq_true,Bool.and_eq_true,beq_iff_eq] at h
   obtain⟨m,hm⟩:=Option.isSome_iff_exists.1 h.1.1
   obtain⟨x,y,hl,hx,hy⟩:=kser2 h.2
   exact .bin hk m hm h.1.2 x y hl hx hy
 rw[if_neg hk] at h
 clear hk
 by_cases hk:ndK n=36
 · rw[if_pos hk] at h
   rw[Bool.and_eq_true] at h
   obtain⟨a,b⟩:=bare_of h.1
   obtain⟨x,y,z,hl,hx,hy,hz⟩:=kser3 h.2
   exact .ite hk a b x y z hl hx hy hz
 rw[if_neg hk] at h
 clear hk
 by_cases hk:ndK n=37
 · rw[if_pos hk] at h
   rw[Bool.and_eq_true] at h
   obtain⟨a,b⟩:=nam_of h.1
   obtain⟨x,y,hl,hx,hy⟩:=kser2 h.2
   exact .lett hk a b x y hl hx hy
 rw[if_neg hk] at h
 clear hk
 by_cases hk:ndK n=38
 · rw[if_pos hk] at h
   rw[Bool.and_eq_true,Bool.and_eq_true,decide_eq_true_eq] at h
   obtain⟨a,b⟩:=bare_of h.1.1
   obtain⟨x,l,hl,hx,ha⟩:=beg_of h.2
   cases l with
   | nil=>have:=h.1.2;rw[hl] at this;simp at this
   | cons y l=>exact .mat hk a b x y l hl hx ha
 rw[if_neg hk] at h
 clear hk
 by_cases hk:ndK n=41
 · rw[if_pos hk] at h
   rw[Bool.and_eq_true] at h
   obtain⟨a,b⟩:=bare_of h.1
   obtain⟨i,x,y,hl,ha,hx,hy⟩:=kend2 h.2
   exact .lam hk a b i x y hl ha hx hy
 · rw[if_neg hk] at h;cases h
structure Hd (lv:Nat) (T:List Tk):Prop where
 off:offP 0 T=0
 c1:(wl T==[41])=false
 c2:(wl T==[93])=false
 c3:(wl T==[125])=false
 c4:(wl T==[115,112,97,119,110])=false
 o1:1≤lv→(wl T==[108,101,116])=false∧(wl T==[105,102])=false∧(wl T==[109,97,116,99,104])=false∧(wl T==[102,117,110])=false
 o4:4≤lv→(wl T==[110,111,116])=false
 o9:9≤lv→(wl T==[45])=false
theorem Hd.down {a b:Nat} {T:List Tk} (h:Hd a T) (hb:b≤a):Hd b T:=⟨h.off,h.c1,h.c2,h.c3,h.c4,fun k=>h.o1 ω,fun k=>h.o4 ω,fun k=>h.o9 ω⟩
def hdW (w:List UInt8):Bool:=!(w==[41])&&!(w==[93])&&!(w==[125])&&!(w==[108,101,116])&&!(w==[105,102])&&!(w==[109,97,116,99,104])&&!(w==[102,117,110])&&!(w==[110,111,116])&&!(w==[45])&&!(w==[115,112,97,119,110])
theorem Hd.of {T:List Tk} (h0:offP 0 T=0) (h:hdW (wl T)=true) (lv:Nat):Hd lv T:=by
 unfold hdW at h
 simp only[Bool.and_eq_true,Bool.not_eq_true'] at h
 obtain⟨⟨⟨⟨⟨⟨⟨⟨⟨a,b⟩,c⟩,d⟩,e⟩,f⟩,g⟩,i⟩,j⟩,q⟩:=h
 exact⟨h0,a,b,c,q,fun _=>⟨d,e,f,g⟩,fun _=>i,fun _=>j⟩
theorem Hd.w {w:List UInt8} (h:hdW w=true) (lv:Nat) (r:List Tk):Hd lv (wT w::r):=Hd.of rfl (by rw[wl_w];exact h) lv
theorem Hd.d {s:Ê} {p:List UInt8→Bool} (h:p s.data.toList=true) (hp:p [41]=false∧p [93]=false∧p [125]=false∧p [108,101,116]=false∧p [105,102]=false∧p [109,97,116,99,104]=false∧p [102,117,110]=false∧p [110,111,116]=false∧p [45]=false∧p [115,112,97,119,110]=false) (lv:Nat) (r:List Tk):Hd lv (wdT s::r):=by
 refine Hd.of rfl ?_ lv
 rw[wl_wd]
 obtain⟨a,b,c,d,e,f,g,i,j,q⟩:=hp
 unfold hdW
 rw[pne h a,pne h b,pne h c,pne h d,pne h e,pne h f,pne h g,pne h i,pne h j,pne h q];rfl
theorem exp_head:∀(k:Nat) (n:Nd),shp k .exp n=true→∀r,Hd (levW n) (tok k .exp n++r)
 | 0,n,h,r=>by cases h
 | k+1,n,h,r=>by
  have h:expB (shp k) n=true:=h
  show Hd (levW n) (expT (tok k) n++r)
  have opd:∀(x:Nd) (lv:Nat) (r:List Tk),shp k .exp x=true→Hd lv (opdT (tok k) x lv++r):=fun x lv r hx=>by
   unfold opdT
   split
   · exact Hd.w π _ _
   · exact (exp_head k x hx r).down ω
  cases ex_form h with
  | lit hk h0 hc =>
   have hp:expT (tok k) n=priT (tok k) n:=by unfold expT;rcases hk with hk|hk|hk|hk|hk|hk<;>simp[hk]
   rw[hp]
   unfold priT
   rcases hk with hk|hk|hk|hk|hk|hk
   · rw[if_pos hk];exact Hd.of rfl rfl _
   · rw[if_neg ω,if_pos hk];exact Hd.of rfl rfl _
   · rw[if_neg ω,if_neg ω,if_pos hk]
     split
     · exact Hd.w π _ _
     · exact Hd.w π _ _
   · simp only[hk];exact Hd.w π _ _
   · have:(if ndK n=20 then [inT (ndN n)] else if ndK n=21 then [⟨3,ndS n,0,0⟩] else if ndK n=22 then (if ndN n=1 then [wT [116,114,117,101]] else [wT [102,97,108,115,101]]) else if ndK n=23 then [wT [40],wT [41]] else if ndK n=25 then [wT [115,101,108,102]] else if ndK n=26 then lstT [91] [93] ((ndL n).map (tok k .exp)) else if ndK n=27 then wdT (ndS n)::lstT [123] [125] ((ndL n).map (tok k .set)) else if ndK n=29 then wdT (ndS n)::(if 0<(ndL n).length then lstT [40] [41] ((ndL n).map (tok k .exp)) else []) else [wdT (ndS n)])=[wdT (ndS n)]:=by simp[hk]
     rw[this]
     unfold cnsB at hc
     simp[hk] at hc
     exact Hd.d (p:=lowB) (nam_of hc).1 π _ _
   · simp only[hk];exact Hd.w π _ _
  | lst hk hs hn ha =>
   have hp:expT (tok k) n=lstT [91] [93] ((ndL n).map (tok k .exp)):=by simp[expT,priT,hk]
   rw[hp];exact Hd.w π _ _
  | new hk hs hn ha =>
   have hp:expT (tok k) n=wdT (ndS n)::lstT [123] [125] ((ndL n).map (tok k .set)):=by simp[expT,priT,hk]
   rw[hp];exact Hd.d (p:=uppB) hs π _ _
  | con hk hs hn ha =>
   have hp:expT (tok k) n=wdT (ndS n)::(if 0<(ndL n).length then lstT [40] [41] ((ndL n).map (tok k .exp)) else []):=by simp[expT,priT,hk]
   rw[hp];exact Hd.d (p:=uppB) hs π _ _
  | get hk hs hn x hl hx =>
   have hp:expT (tok k) n=opdT (tok k) x 9++[wT [46],wdT (ndS n)]:=by simp[expT,posT,hk,kid,hl]
   rw[hp,show levW n=9 from by simp[levW,hk],List.append_assoc];exact opd x 9 _ hx
  | wit hk hs hn x y l hl hx ha =>
   have hp:expT (tok k) n=opdT (tok k) x 9++wT [119,105,116,104]::lstT [123] [125] ((y::l).map (tok k .set)):=by simp[expT,posT,hk,kid,hl]
   rw[hp,show levW n=9 from by simp[levW,hk],List.append_assoc];exact opd x 9 _ hx
  | cal hk hs hn x l hl hx ha =>
   have hp:expT (tok k) n=(if ndK x=29∧(ndL x).length=0 then grpT (tok k) x else opdT (tok k) x 9)++lstT [40] [41] (l.map (tok k .exp)):=by simp[expT,posT,hk,kid,hl]
   rw[hp,show levW n=9 from by simp[levW,hk],List.append_assoc]
   split
   · exact Hd.w π _ _
   · exact opd x 9 _ hx
  | neg hk hs hn x hl hx =>
   have hp:expT (tok k) n=wT [45]::opdT (tok k) x 8:=by simp[expT,hk,kid,hl]
   rw[hp,show levW n=8 from by simp[levW,hk]]
   exact⟨rfl,by rw[List.cons_append,wl_w];decide,by rw[List.cons_append,wl_w];decide,by rw[List.cons_append,wl_w];decide,by rw[List.cons_append,wl_w];decide,fun _=>by rw[List.cons_append,wl_w];decide,fun _=>by rw[List.cons_append,wl_w];decide,fun h=>absurd h π⟩
  | no hk hs hn x hl hx =>
   have hp:expT (tok k) n=wT [110,111,116]::opdT (tok k) x 3:=by simp[expT,hk,kid,hl]
   rw[hp,show levW n=3 from by simp[levW,hk]]
   exact⟨rfl,by rw[List.cons_append,wl_w];decide,by rw[List.cons_append,wl_w];decide,by rw[List.cons_append,wl_w];decide,by rw[List.cons_append,wl_w];decide,fun _=>by rw[List.cons_append,wl_w];decide,fun h=>absurd h π,fun h=>absurd h π⟩
  | bin hk m hs hn x y hl hx hy =>
   have hp:expT (tok k) n=opdT (tok k) x (if m=4 then 5 else m)++wdT (ndS n)::opdT (tok k) y (m+1):=by simp[expT,binT,hk,kid,hl,hs]
   rw[hp,show levW n=m from by simp[levW,hk,hs],List.append_assoc]
   refine (opd x _ _ hx).down ?_
   split<;>omega
  | ite hk hs hn x y z hl hx hy hz =>
   have hp:expT (tok k) n=wT [105,102]::(tok k .exp x++wT [116,104,101,110]::(tok k .exp y++wT [101,108,115,101]::tok k .exp z)):=by simp[expT,hk,kid,hl]
   rw[hp,show levW n=0 from by simp[levW,hk]]
   exact⟨rfl,by rw[List.cons_append,wl_w];decide,by rw[List.cons_append,wl_w];decide,by rw[List.cons_append,wl_w];decide,by rw[List.cons_append,wl_w];decide,fun h=>absurd h π,fun h=>absurd h π,fun h=>absurd h π⟩
  | lett hk hs hn x y hl hx hy =>
   have hp:expT (tok k) n=wT [108,101,116]::wdT (ndS n)::wT [61]::(tok k .exp x++wT [105,110]::tok k .exp y):=by simp[expT,hk,kid,hl]
   rw[hp,show levW n=0 from by simp[levW,hk]]
   exact⟨rfl,by rw[List.cons_append,wl_w];decide,by rw[List.cons_append,wl_w];decide,by rw[List.cons_append,wl_w];decide,by rw[List.cons_append,wl_w];decide,fun h=>absurd h π,fun h=>absurd h π,fun h=>absurd h π⟩
  | mat hk hs hn x y l hl hx ha =>
   have hp:expT (tok k) n=wT [109,97,116,99,104]::(grpT (tok k) x++lstT [123] [125] ((y::l).map (tok k .arm))):=by simp[expT,hk,kid,hl]
   rw[hp,show levW n=0 from by simp[levW,hk]]
   exact⟨rfl,by rw[List.cons_append,wl_w];decide,by rw[List.cons_append,wl_w];decide,by rw[List.cons_append,wl_w];decide,by rw[List.cons_append,wl_w];decide,fun h=>absurd h π,fun h=>absurd h π,fun h=>absurd h π⟩
  | lam hk hs hn i x y hl ha hx hy =>
   have hp:expT (tok k) n=wT [102,117,110]::funT (tok k) n:=by simp[expT,hk]
   rw[hp,show levW n=0 from by simp[levW,hk]]
   exact⟨rfl,by rw[List.cons_append,wl_w];decide,by rw[List.cons_append,wl_w];decide,by rw[List.cons_append,wl_w];decide,by rw[List.cons_append,wl_w];decide,fun h=>absurd h π,fun h=>absurd h π,fun h=>absurd h π⟩
end Go.Proofs.YtbjdcogmiggamaaGreatDoor
