/- Core -/
import Derived.Test.YtjohpidklbhmcaaGreatDoorZ40
namespace Go.Proofs.YtjohpidklbhmcaaGreatDoor
set_option linter.all false
open Go.Proofs.Tryz
set_option maxRecDepth 100000
set_option maxHeartbeats 2000000
open Go.RowKit Go.Maps Go.WideMaps Go.ChangeMaps
structure VarAt (W:World) (b:Nat) (A2 A3:Option Addr) (q2 q3:Nat) (p:Pg):Prop where
 bx:Hs W b 27 #[(),(),.slice A2 p.funs q2,.slice A3 p.actors q3]
 pg:PgAt W none none A2 A3 0 0 q2 q3 p
 ty:p.types=[]
 ef:p.effects=[]
variable {W W':World}
def VarAt.bel {b:Nat} {A2 A3:Option Addr} {q2 q3:Nat} {p:Pg} (h:VarAt W b A2 A3 q2 q3 p) (hb:Below W W W'):VarAt W' b A2 A3 q2 q3 p:=⟨aH h.bx hb,h.pg.bel hb,h.ty,h.ef⟩
def xJ (n:Nat):Array Value:=#[(),(),.slice (some ⟨n+19,0,none⟩) 2 2,.slice (some ⟨n+20,0,none⟩) 1 1]
def ex_var {w w1:World} (h:ExAt w1 w 3 1 1) (hz:w.heap.size+21=w1):VarAt (w1.alloc (.cells (xJ w) 27)) w1 (some ⟨w+19,0,none⟩) (some ⟨w+20,0,none⟩) 2 1 (exPg 3 1 1):=
 ⟨Hs.new _ _ _,(vf h ω (aZ 3) (aZ 1) (aZ 1)).bel ζ1,rfl,rfl⟩
variable {t:Nat} {cs:Array Value}
def ExAt.put {n:Nat} {l:List Obj} (h:∀i,i<21->W.heap[n+i]?=l[i]?) {k j:Nat} (hk:k<21) (hl:l[k]?=some (.cells cs t)) (v:Value):∀i,i<21->(W.setCell ⟨n+k,j,none⟩ v).heap[n+i]?=(l.set k (.cells (cs.setIfInBounds j v) t))[i]?:=λi hi=>by
 have hk':k<l:=(List.getElem?_eq_some_iff.1 hl).1
 by_cases e:i=k
 ·subst e
  rw[List.getElem?_set_self hk']
  exact er (i:=j) (v:=v) (show Hs W (n+i) t cs from (h i hi).trans hl)
 rw[List.getElem?_set_ne (λe2=>e e2.symm),<-h i hi]
 exact Below.heap_setCell _ _ _ _ (by show n+i≠n+k;omega)
variable {x q:Int}
def ExAt.cell {n:Nat} {o:Int} (h:ExAt W n o x q) (i:Nat) (hi:i<21) (hc:(lI n o x q)[i]?=some (.cells cs t)):Hs W (n+i) t cs:=(h i hi).trans hc
def jO {n b:Nat} {o:Int} (h:ExAt W n o x q) (hn:n+21<=W) (hb:Hs W b 27 (xJ n)) (ho:i64 o) (hx:i64 x) (hq:i64 q):VarAt W b (some ⟨n+19,0,none⟩) (some ⟨n+20,0,none⟩) 2 1 (exPg o x q):=⟨hb,vf h hn ho hx hq,rfl,rfl⟩
def exH3:Fn:=⟨⟨#[104]⟩,[],bTy 1,0,.mk 1 0 0 nm0 []⟩
def exPs:Pg:=⟨[],[],[exF,exG,exH3],[exA 3 1 1]⟩
def hs_add {g:Nat} (h:Hs W g t cs):∀j u,cs.toList[j]?=some u->W.cell? ((⟨g,0,none⟩:Addr).add j)=some u:=λj u hu=>by
 have e:(⟨g,0,none⟩:Addr).add j=⟨g,j,none⟩:=by
  unfold Addr.add;split
  ·rename_i a;have:j=0:=by simpa using a
   rw[this]
  simp
 rw[e,h.cell];simpa using hu
def exOld (n:Nat):List Value:=[.string ⟨#[102]⟩,.slice (some ⟨n+3,0,none⟩) 1 1,.int .i64 8,.string ⟨#[]⟩,.slice (some ⟨n+4,0,none⟩) 2 2,.int .i64 1,.int .i64 34,.int .i64 1,.int .i64 0,.string ⟨#[]⟩,.slice (some ⟨n+5,0,none⟩) 1 1]++[.string ⟨#[]⟩,.slice (some ⟨n+7,0,none⟩) 2 2,.int .i64 3,.string ⟨#[]⟩,.slice none 0 0,.int .i64 2,.int .i64 20,.int .i64 0,.int .i64 0,.string ⟨#[]⟩,.slice (some ⟨n+8,0,none⟩) 2 2]
def exNew:List Value:=[.string ⟨#[104]⟩,.slice none 0 0,.int .i64 1,.string ⟨#[]⟩,.slice none 0 0,.int .i64 0,.int .i64 1,.int .i64 0,.int .i64 0,.string ⟨#[]⟩,.slice none 0 0]
def xh:∀u∈exNew,u.oneCell'=true:=by intro u hu;unfold exNew at hu;simp only[List.mem_cons,List.not_mem_nil,or_false] at hu;rcases hu with rfl|rfl|rfl|rfl|rfl|rfl|rfl|rfl|rfl|rfl|rfl<;>rfl
def exS_pg {w':World} {n base:Nat} {A:Option Addr} {c:Nat} {o:Int} (h':ExAt w' n o x q) (hn:n+21<=w') (ho:i64 o) (hx:i64 x) (hq:i64 q) (hr:w'.ownsRow base 45 11 (.slice A 3 c) 3 (exOld n++exNew)):PgAt w' none none A (some ⟨n+20,0,none⟩) 0 0 c 1 ⟨[],[],[exF,exG,exH3],[exA o x q]⟩:=by
 have d:∀i,i<21->lo w' (n+i):=λi hi=>by unfold lo;omega
 have j:RowG 11 (FnR w' (lo w')) (exOld n++exNew) [exF,exG,exH3]:=by
  have r:RowG 11 (FnR w' (lo w')) [] []:=RowG.nil _;have l:=RowG.snoc (a:=exF) r (cs:=[.string ⟨#[102]⟩,.slice (some ⟨n+3,0,none⟩) 1 1,.int .i64 8,.string ⟨#[]⟩,.slice (some ⟨n+4,0,none⟩) 2 2,.int .i64 1,.int .i64 34,.int .i64 1,.int .i64 0,.string ⟨#[]⟩,.slice (some ⟨n+5,0,none⟩) 1 1]) rfl (exF_R h' d);have k:=RowG.snoc (a:=exG) l (cs:=[.string ⟨#[]⟩,.slice (some ⟨n+7,0,none⟩) 2 2,.int .i64 3,.string ⟨#[]⟩,.slice none 0 0,.int .i64 2,.int .i64 20,.int .i64 0,.int .i64 0,.string ⟨#[]⟩,.slice (some ⟨n+8,0,none⟩) 2 2]) rfl (exG_R h' d);exact RowG.snoc (a:=exH3) k (cs:=exNew) rfl ⟨_,[.int .i64 1,.string ⟨#[]⟩,.slice none 0 0],_,rfl,aZ 0,by decide,SlR.nil,cO _ _ 1 (aZ 1),kI (aZ 1) (aZ 0)⟩
 have h:=j.sl (P:=lo w') (v:=.slice A 3 c) hr (λg hgo=>by
  unfold lo;obtain⟨y,z,t,_,u⟩:=ez hr π;rw[t] at hgo;simp[Value.ownBlock] at hgo;omega)
 exact⟨SlR.nil,SlR.nil,h,exAs_R h' d ho hx hq⟩
def ExAt.oth {n:Nat} {o:Int} (h:ExAt W n o x q) {a:Addr} (ha:n+21<=a.block) (v:Value):ExAt (W.setCell a v) n o x q:=λi hi=>by
 rw[<-h i hi]
 exact Below.heap_setCell _ _ _ _ (by show n+i≠a.block;omega)
def ExAt.grown {n:Nat} {o:Int} (h:ExAt W n o x q) (hg:W.grownBy W' none):ExAt W' n o x q:=h.bel ⟨hg.os,hg.tape,hg.output,hg.size,λk hk=>hg.block k hk Θ⟩
def qq {w:World} (h:Below w w W) (hg:W.grownBy W' none):Below w w W':=bel h ⟨hg.os,hg.tape,hg.output,hg.size,λk hk=>hg.block k hk Θ⟩
def oP (o x q:Int):(exPg o x q).Deep 100:=by
 refine⟨λf hf=>?_,λa ha v hv=>?_,λa ha h hh=>?_⟩
 ·simp only[exPg,List.mem_cons,List.not_mem_nil,or_false] at hf;rcases hf with rfl|rfl<;>decide
 ·simp only[exPg,exA,List.mem_cons,List.not_mem_nil,or_false] at ha;subst ha;simp only[List.mem_cons,List.not_mem_nil,or_false] at hv;subst hv;simp[Ex.deep,Ex.deeps]
 simp only[exPg,exA,List.mem_cons,List.not_mem_nil,or_false] at ha;subst ha;simp only[List.mem_cons,List.not_mem_nil,or_false] at hh;subst hh;show St.deeps rH<=100;decide
def exs_deep:exPs.Deep 100:=by
 refine⟨λf hf=>?_,(oP 3 1 1).vars,(oP 3 1 1).on⟩;simp only[exPs,List.mem_cons,List.not_mem_nil,or_false] at hf;rcases hf with rfl|rfl|rfl<;>decide
def pM (o x q:Int):Fit (exPg o x q) 100:=⟨⟨Nat.zero_le _,Nat.zero_le _,Nat.zero_le _,by show 2<=1000000;decide,by show 1<=1000000;decide⟩,Nat.zero_le _,oP o x q,by decide⟩
def ve:Fit exPs 100:=⟨⟨Nat.zero_le _,Nat.zero_le _,Nat.zero_le _,by decide,by decide⟩,Nat.zero_le _,exs_deep,by decide⟩
def exNil:Pg:=⟨[],[],[],[]⟩
def nil_fit:Fit exNil 100:=⟨⟨Nat.zero_le _,Nat.zero_le _,Nat.zero_le _,Nat.zero_le _,Nat.zero_le _⟩,Nat.zero_le _,⟨(λ_ h=>nomatch h),(λ_ h=>nomatch h),(λ_ h=>nomatch h)⟩,by decide⟩
def ux (o x q:Int):Lim (exPg o x q):=⟨(λ_ h=>nomatch h),(λ_ h=>nomatch h),by show 2<=1000000;decide,λa ha=>by simp only[exPg,List.mem_cons,List.not_mem_nil,or_false] at ha;subst ha;show 1<=1000000;decide⟩
def exs_lim:Lim exPs:=⟨(λ_ h=>nomatch h),(λ_ h=>nomatch h),by decide,(ux 3 1 1).vars⟩
def ex_tdeep:(exPg 3 1 1).TDeep 100:=by
 refine⟨(λ_ h=>nomatch h),(λ_ h=>nomatch h),λf hf=>?_,λa ha=>?_⟩
 ·simp only[exPg,List.mem_cons,List.not_mem_nil,or_false] at hf;rcases hf with rfl|rfl<;>exact⟨by decide,by decide⟩
 simp only[exPg,exA,List.mem_cons,List.not_mem_nil,or_false] at ha;subst ha;exact⟨(λ_ h=>nomatch h),by decide,by decide⟩
def ex_r1:aW (exPg 3 1 1) 100=true:=by decide +kernel
def ex_r2:aW (exPg 4 0 1) 100=false:=by decide +kernel
def ex_r3:aW (exPg 3 1 0) 100=false:=by decide +kernel
def ex_r4:aW exPs 100=true:=by decide +kernel
def ex_r5:aW exNil 100=false:=by decide +kernel
def ex_s1:rC (exPg 3 1 1) (exPg 3 1 1)=true:=by decide +kernel
def ex_s2:rC (exPg 3 1 1) exPs=false:=by decide +kernel
def exStr:ByteArray:=bstr (hX (exPg 3 1 1))
def dP:List Nat:=digP (exPg 3 1 1) 100 [77,97,105,110]
def dS:List Nat:=digP exPs 100 [77,97,105,110]
def dT:List Nat:=digP (exPg 3 2 1) 100 [77,97,105,110]
def dO:List Nat:=digP (exPg 3 1 1) 100 [79,116,104,101,114]
def dP_z:(dP==List.replicate 32 0)=false:=by decide +kernel
def dP_S:(dP==dS)=true:=by decide +kernel
def dP_T:(dP==dT)=false:=by decide +kernel
def dO_z:(dO==List.replicate 32 0)=true:=by decide +kernel
def uy:dP.length=32:=ml _ _ _
def dS_len:dS.length=32:=ml _ _ _
def dT_len:dT.length=32:=ml _ _ _
def dO_len:dO.length=32:=ml _ _ _
def ex_k1:∀W,(binOp .neq 34 (.agg (ShaT.u8s dP)) (.agg #[.int .u8 0,.int .u8 0,.int .u8 0,.int .u8 0,.int .u8 0,.int .u8 0,.int .u8 0,.int .u8 0,.int .u8 0,.int .u8 0,.int .u8 0,.int .u8 0,.int .u8 0,.int .u8 0,.int .u8 0,.int .u8 0,.int .u8 0,.int .u8 0,.int .u8 0,.int .u8 0,.int .u8 0,.int .u8 0,.int .u8 0,.int .u8 0,.int .u8 0,.int .u8 0,.int .u8 0,.int .u8 0,.int .u8 0,.int .u8 0,.int .u8 0,.int .u8 0])).run prog W=.ok (true:Vl) W:=by
 intro W;rw[<-Cf,vg uy Θ dP_z W];rfl
def ex_k2:∀W,(binOp .eql 34 (.agg (ShaT.u8s dP)) (.agg (ShaT.u8s dS))).run prog W=.ok (true:Vl) W:=λW=>by rw[vh uy dS_len dP_S W]
def ex_k3:∀W,(binOp .neq 34 (.agg (ShaT.u8s dP)) (.agg (ShaT.u8s dT))).run prog W=.ok (true:Vl) W:=λW=>by rw[vg uy dT_len dP_T W];rfl
def ex_k4:∀W,(binOp .eql 34 (.agg (ShaT.u8s dO)) (.agg #[.int .u8 0,.int .u8 0,.int .u8 0,.int .u8 0,.int .u8 0,.int .u8 0,.int .u8 0,.int .u8 0,.int .u8 0,.int .u8 0,.int .u8 0,.int .u8 0,.int .u8 0,.int .u8 0,.int .u8 0,.int .u8 0,.int .u8 0,.int .u8 0,.int .u8 0,.int .u8 0,.int .u8 0,.int .u8 0,.int .u8 0,.int .u8 0,.int .u8 0,.int .u8 0,.int .u8 0,.int .u8 0,.int .u8 0,.int .u8 0,.int .u8 0,.int .u8 0])).run prog W=.ok (true:Vl) W:=λW=>by rw[<-Cf,vh dO_len Θ dO_z W]
section
variable {W:World} {b:Nat} {A2 A3:Option Addr} {q2 q3:Nat} {o x q:Int}
def c_bytes1 (h:VarAt W b A2 A3 q2 q3 (exPg 3 1 1)):Calls prog 9 #[.agg #[(),(),.slice A2 2 q2,.slice A3 1 q3]] W λe w'=>e=.returned (exStr:Vl)/\Below W W w':=by
 refine (qo h.pg (pM 3 1 1) Γ).mono ?_;rintro e w' ⟨rfl,a⟩;exact⟨by unfold lJ;rw[if_pos ex_r1];rfl,a⟩
def c_bytes2 (h:VarAt W b A2 A3 q2 q3 (exPg 4 0 1)):Calls prog 9 #[.agg #[(),(),.slice A2 2 q2,.slice A3 1 q3]] W λe w'=>e=.returned (.string ⟨#[]⟩)/\Below W W w':=by
 refine (qo h.pg (pM 4 0 1) Γ).mono ?_;rintro e w' ⟨rfl,a⟩;exact⟨by unfold lJ;rw[if_neg (by rw[ex_r2];decide)],a⟩
def c_read (W:World):Calls prog 10 #[exStr] W λe w'=>∃A0 A1 A2 A3 q0 q1 q2 q3,e=.returned (.tuple #[.agg #[.slice A0 0 q0,.slice A1 0 q1,.slice A2 2 q2,.slice A3 1 q3],true])/\PgAt w' A0 A1 A2 A3 q0 q1 q2 q3 (exPg 3 1 1)/\Below W W w':=
 Cj (rd_ok (ux 3 1 1) ex_r1 (oP 3 1 1) ex_tdeep π) (pM 3 1 1) ex_r1 Γ
def rx (h:VarAt W b A2 A3 q2 q3 (exPg o x q)) {r:Bool} (hr:aW (exPg o x q) 100=r):Calls prog 11 #[.agg #[(),(),.slice A2 2 q2,.slice A3 1 q3]] W λe w'=>e=.returned (r:Vl)/\Below W W w':=by
 subst hr;exact dl h.pg (pM o x q)
def c_rightS (h:VarAt W b A2 A3 q2 q3 exPs):Calls prog 11 #[.agg #[(),(),.slice A2 3 q2,.slice A3 1 q3]] W λe w'=>e=.returned (true:Vl)/\Below W W w':=by
 have:=dl h.pg ve;rw[ex_r4] at this;exact this
def c_right0 (W:World):Calls prog 11 #[.agg #[(),(),(),()]] W λe w'=>e=.returned (false:Vl)/\Below W W w':=by
 have:=dl (w:=W) (p:=exNil) (A0:=none) (A1:=none) (A2:=none) (A3:=none) (q0:=0) (q1:=0) (q2:=0) (q3:=0) ⟨SlR.nil,SlR.nil,SlR.nil,SlR.nil⟩ nil_fit;rw[ex_r5] at this;exact this
variable {B2 B3:Option Addr}
def c_same1 {B0 B1:Option Addr} {r0 r1 r2 r3:Nat} (h':PgAt W B0 B1 B2 B3 r0 r1 r2 r3 (exPg 3 1 1)) (h:VarAt W b A2 A3 q2 q3 (exPg 3 1 1)):Calls prog 13 #[.agg #[.slice B0 0 r0,.slice B1 0 r1,.slice B2 2 r2,.slice B3 1 r3],.agg #[(),(),.slice A2 2 q2,.slice A3 1 q3]] W λe w'=>e=.returned (true:Vl)/\Below W W w':=
 uR ex_s1 ⟨_,_,_,_,rfl,h'.t,h'.e,h'.f,h'.a⟩ ⟨_,_,_,_,rfl,h.pg.t,h.pg.e,h.pg.f,h.pg.a⟩
def c_same2 {b':Nat} {r2 r3:Nat} (h:VarAt W b A2 A3 q2 q3 (exPg 3 1 1)) (h':VarAt W b' B2 B3 r2 r3 exPs):Calls prog 13 #[.agg #[(),(),.slice A2 2 q2,.slice A3 1 q3],.agg #[(),(),.slice B2 3 r2,.slice B3 1 r3]] W λe w'=>e=.returned (false:Vl)/\Below W W w':=
 uR ex_s2 ⟨_,_,_,_,rfl,h.pg.t,h.pg.e,h.pg.f,h.pg.a⟩ ⟨_,_,_,_,rfl,h'.pg.t,h'.pg.e,h'.pg.f,h'.pg.a⟩
def c_dig (hR:ShaT.Rounds W) (h:VarAt W b A2 A3 q2 q3 (exPg o x q)) (hl:(je (exPg o x q) (exA o x q)).length<=1000000) {s:ByteArray} (hs:s.size<=100) {l:List Nat} (hq:digP (exPg o x q) 100 s.data.toList=l):Calls prog 12 #[.agg #[(),(),.slice A2 2 q2,.slice A3 1 q3],s] W λe w'=>e=.returned (.agg (ShaT.u8s l))/\Below W W w':=by
 subst hq;exact oS h.pg (pM o x q) hR (λhr=>zf (ux o x q) hr) Ξ (λ_ a ha=>by simp only[exPg,List.mem_cons,List.not_mem_nil,or_false] at ha;subst ha;exact hl)
def c_digM (hR:ShaT.Rounds W) (h:VarAt W b A2 A3 q2 q3 (exPg 3 1 1)):Calls prog 12 #[.agg #[(),(),.slice A2 2 q2,.slice A3 1 q3],.string ⟨#[77,97,105,110]⟩] W λe w'=>e=.returned (.agg (ShaT.u8s dP))/\Below W W w':=c_dig hR h Γ π rfl
def c_digT (hR:ShaT.Rounds W) (h:VarAt W b A2 A3 q2 q3 (exPg 3 2 1)):Calls prog 12 #[.agg #[(),(),.slice A2 2 q2,.slice A3 1 q3],.string ⟨#[77,97,105,110]⟩] W λe w'=>e=.returned (.agg (ShaT.u8s dT))/\Below W W w':=c_dig hR h Γ π rfl
def c_digO (hR:ShaT.Rounds W) (h:VarAt W b A2 A3 q2 q3 (exPg 3 1 1)):Calls prog 12 #[.agg #[(),(),.slice A2 2 q2,.slice A3 1 q3],.string ⟨#[79,116,104,101,114]⟩] W λe w'=>e=.returned (.agg (ShaT.u8s dO))/\Below W W w':=c_dig hR h Γ π rfl
def c_digS (hR:ShaT.Rounds W) (h:VarAt W b A2 A3 q2 q3 exPs):Calls prog 12 #[.agg #[(),(),.slice A2 3 q2,.slice A3 1 q3],.string ⟨#[77,97,105,110]⟩] W λe w'=>e=.returned (.agg (ShaT.u8s dS))/\Below W W w':=
 oS h.pg ve hR (λhr=>zf exs_lim hr) π (λ_ a ha=>by simp only[exPs,List.mem_cons,List.not_mem_nil,or_false] at ha;subst ha;decide +kernel)
end
def pU {w:World} (hR:ShaT.Rounds w):Calls prog 7 #[] w λe w'=>e=.returned (.bool true)/\Below w w w':=by
 have HR:=η hR;clear hR;go_enter func7,ntmps7;go_upto_region 2 with (go_at_call 17;refine (fX).mono ?_;rintro e1 r ⟨rfl,x1,z1,b1⟩);obtain⟨a,R⟩:=γ (r.alloc (.cells (xJ w) 27))
 have V1:Hid (VarAt a r (some ⟨w+19,0,none⟩) (some ⟨w+20,0,none⟩) 2 1 (exPg 3 1 1)):=by rw[R];exact ex_var x1 z1
 have B1:Hid (Below w w a):=by rw[R];exact belA b1 _
 have n1:r.heap.size+1=a.heap.size:=by rw[R];simp
 have e1:r.alloc (.cells #[.slice none 0 0,.slice none 0 0,.slice (some ⟨w+19,0,none⟩) 2 2,.slice (some ⟨w+20,0,none⟩) 1 1] 27)=a:=R.symm;rw[e1];clear e1 R x1 z1 b1;go_upto_region 3 with (go_at_call 17;refine (fX).mono ?_;rintro e2 O ⟨rfl,x2,z2,b2⟩);obtain⟨j,F⟩:=γ (O.alloc (.cells (xJ a) 27))
 have X2:Hid (ExAt j a 3 1 1):=by rw[F];exact x2.bel ζ1
 have C2:Hid (Hs j O 27 (xJ a)):=by rw[F];exact Hs.new _ _ _
 have B2:Hid (Below a a j):=by rw[F];exact belA b2 _
 have n2:O.heap.size+1=j.heap.size:=by rw[F];simp
 have e2:O.alloc (.cells #[.slice none 0 0,.slice none 0 0,.slice (some ⟨a+19,0,none⟩) 2 2,.slice (some ⟨a+20,0,none⟩) 1 1] 27)=j:=F.symm;rw[e2];clear e2 F x2 b2;have a0:j.cell? ⟨O,3,none⟩=some (.slice (some ⟨a+20,0,none⟩) 1 1):=C2.o.cell 3;have a1:j.cell? ⟨a+20,3,none⟩=some (.slice (some ⟨a+16,0,none⟩) 1 1):=(X2.o.cell 20 π rfl).cell 3;have d:Hid (Hs j (a+16) 61 _):=X2.o.cell 16 π rfl;have f4:=d.o.free 4;have f5:=d.o.free 5;have f6:=d.o.free 6;have f7:=d.o.free 7;have f8:=d.o.free 8;have g4:j.cell? ⟨a+16,4,none⟩=some (.int .i64 3):=d.o.cell 4;have g5:j.cell? ⟨a+16,5,none⟩=some (.int .i64 1):=d.o.cell 5;have g6:j.cell? ⟨a+16,6,none⟩=some (.int .i64 0):=d.o.cell 6;have g7:j.cell? ⟨a+16,7,none⟩=some (.string ⟨#[]⟩):=d.o.cell 7;have g8:j.cell? ⟨a+16,8,none⟩=some (.slice none 0 0):=d.o.cell 8;go_upto_region 4 with fail;obtain⟨g,I⟩:=γ (((((j.setCell ⟨a+16,4,none⟩ (.int .i64 4)).setCell ⟨a+16,5,none⟩ (.int .i64 0)).setCell ⟨a+16,6,none⟩ (.int .i64 0)).setCell ⟨a+16,7,none⟩ (.string ⟨#[]⟩)).setCell ⟨a+16,8,none⟩ (.slice none 0 0))
 have a7:ExAt g a 4 0 1:=by
  rw[I];exact ExAt.put (k:=16) (t:=61) (ExAt.put (k:=16) (t:=61) (ExAt.put (k:=16) (t:=61) (ExAt.put (k:=16) (t:=61) (ExAt.put (k:=16) (t:=61) X2.o π rfl _) π rfl _) π rfl _) π rfl _) π rfl _
 have ax:Hid (g.heap.size=j.heap.size):=by show _=_;rw[I];simp[World.setCell]
 have V2:Hid (VarAt g O (some ⟨a+19,0,none⟩) (some ⟨a+20,0,none⟩) 2 1 (exPg 4 0 1)):=by
  refine jO a7 (by have:=ax.o;omega) ?_ (aZ 4) (aZ 0) (aZ 1);rw[I];exact cV (cV (cV (cV (cV C2.o ω) ω) ω) ω) ω
 have ak:Hid (Below a a g):=by
  rw[I];exact cL (cL (cL (cL (cL B2.o (by show _<=a.heap.size+16;omega)) (by show _<=a.heap.size+16;omega)) (by show _<=a.heap.size+16;omega)) (by show _<=a.heap.size+16;omega)) (by show _<=a.heap.size+16;omega)
 rw[<-I];clear a0 a1 f4 f5 f6 f7 f8 g4 g5 g6 g7 g8 I a7 d X2 C2 B2;go_upto_region 5 with (go_at_call 17;refine (fX).mono ?_;rintro e3 N ⟨rfl,x3,z3,b3⟩);obtain⟨y,E⟩:=γ (N.alloc (.cells (xJ g) 27))
 have X3:Hid (ExAt y g 3 1 1):=by rw[E];exact x3.bel ζ1
 have C3:Hid (Hs y N 27 (xJ g)):=by rw[E];exact Hs.new _ _ _
 have B3:Hid (Below g g y):=by rw[E];exact belA b3 _
 have n3:N.heap.size+1=y.heap.size:=by rw[E];simp
 have e3:N.alloc (.cells #[.slice none 0 0,.slice none 0 0,.slice (some ⟨g+19,0,none⟩) 2 2,.slice (some ⟨g+20,0,none⟩) 1 1] 27)=y:=E.symm;rw[e3];clear e3 E x3 b3;have a0:y.cell? ⟨N,3,none⟩=some (.slice (some ⟨g+20,0,none⟩) 1 1):=C3.o.cell 3;have a1:y.cell? ⟨g+20,4,none⟩=some (.slice (some ⟨g+17,0,none⟩) 1 1):=(X3.o.cell 20 π rfl).cell 4;have aa:Hid (Hs y (g+17) 64 _):=X3.o.cell 17 π rfl;have f2:=aa.o.free 2;have g2:y.cell? ⟨g+17,2,none⟩=some (.int .i64 1):=aa.o.cell 2;go_upto_region 6 with fail;obtain⟨i,H⟩:=γ (y.setCell ⟨g+17,2,none⟩ (.int .i64 0))
 have a6:ExAt i g 3 1 0:=by rw[H];exact ExAt.put (k:=17) (t:=64) X3.o π rfl _
 have aw:Hid (i.heap.size=y.heap.size):=by show _=_;rw[H];simp[World.setCell]
 have V3:Hid (VarAt i N (some ⟨g+19,0,none⟩) (some ⟨g+20,0,none⟩) 2 1 (exPg 3 1 0)):=by
  refine jO a6 (by have:=aw.o;omega) ?_ (aZ 3) (aZ 1) (aZ 0);rw[H];exact cV C3.o ω
 have ae:Hid (Below g g i):=by rw[H];exact cL B3.o (by show _<=g.heap.size+17;omega)
 rw[<-H];clear a0 a1 f2 g2 H a6 aa X3 C3 B3;go_upto_region 7 with (go_at_call 17;refine (fX).mono ?_;rintro e4 l ⟨rfl,x4,z4,b4⟩);obtain⟨x,D⟩:=γ (l.alloc (.cells (xJ i) 27))
 have X4:Hid (ExAt x i 3 1 1):=by rw[D];exact x4.bel ζ1
 have C4:Hid (Hs x l 27 (xJ i)):=by rw[D];exact Hs.new _ _ _
 have B4:Hid (Below i i x):=by rw[D];exact belA b4 _
 have n4:l.heap.size+1=x.heap.size:=by rw[D];simp
 have e4:l.alloc (.cells #[.slice none 0 0,.slice none 0 0,.slice (some ⟨i+19,0,none⟩) 2 2,.slice (some ⟨i+20,0,none⟩) 1 1] 27)=x:=D.symm;rw[e4];clear e4 D x4 b4;have a0:x.cell? ⟨l,2,none⟩=some (.slice (some ⟨i+19,0,none⟩) 2 2):=C4.o.cell 2;have f2:=C4.o.free 2;obtain⟨io,a2,ay,az,a3⟩:=info_parts ri;have V:=η (And.intro a2 (And.intro ay (And.intro az a3)));have a4:Hid (Hs x (i+19) 45 (exOld i).toArray):=X4.o.cell 19 π rfl;clear a2 ay az a3;go_upto_region 8 with (at_builtin;refine wpList_append_grows _ rfl (.tmp 28) (.tmp 32) 24 rfl 45 io _ 11 160 underlying24 V.o.1 V.o.2.1 V.o.2.2.1 V.o.2.2.2 rfl π (some ⟨i+19,0,none⟩) 2 2 (exOld i) rfl (λe=>by cases e) rfl (λb hb=>by injection hb with hb;subst hb;exact hs_add (a4.o.alloc _)) x 1 1 exNew rfl rfl (hs_add (Hs.new _ _ _)) xh π Ξ ω ?_;intro v5 w5 Y Z;obtain⟨A5,c5,rfl⟩:=bU Y;have C5:Hid (Hs w5 l 27 (xJ i)):=(C4.o.alloc _).grown Z Θ;have k5:w5.cell? ⟨l,2,none⟩=some (.slice (some ⟨i+19,0,none⟩) 2 2):=C5.o.cell 2;have f5:=C5.o.free 2;have ad:=η Y;have L:=η Z;clear Y Z);obtain⟨h,u⟩:=γ (w5.setCell ⟨l,2,none⟩ (.slice A5 3 c5))
 have ca:x.heap.size+1<=w5.heap.size:=by have:=L.o.size;simpa using this
 have av:Hid (h.heap.size=w5.heap.size):=by show _=_;rw[u];simp[World.setCell]
 have V4:Hid (VarAt h l A5 (some ⟨i+20,0,none⟩) c5 1 exPs):=by
  refine⟨?_,exS_pg (base:=(x.alloc (.cells exNew.toArray 45)).heap.size) ?_ ?_ (aZ 3) (aZ 1) (aZ 1) ?_,rfl,rfl⟩
  ·rw[u];exact er C5.o
  ·rw[u];exact ((X4.o.bel ζ1).grown L.o).oth (by show _<=l.heap.size;omega) _
  ·have:=av.o;omega
  rw[u];refine aI ad.o (cu _ _ _) (λb hb=>?_);obtain⟨g',c',e2,hl,_⟩:=ez ad.o π;rw[e2] at hb;simp[Value.ownBlock] at hb;have d8:x.heap.size+1<=g':=by simpa using hl
  unfold only;show ¬b=l.heap.size;omega
 have X:Hid (Below i i h):=by rw[u];exact cL (qq (belA B4.o _) L.o) (by show _<=l.heap.size;omega)
 rw[<-u];clear a0 f2 u X4 C4 B4 V a4 C5 k5 f5 ad L;go_upto_region 9 with (go_at_call 17;refine (fX).mono ?_;rintro e6 M ⟨rfl,x6,z6,b6⟩);obtain⟨v,B⟩:=γ (M.alloc (.cells (xJ h) 27))
 have X6:Hid (ExAt v h 3 1 1):=by rw[B];exact x6.bel ζ1
 have C6:Hid (Hs v M 27 (xJ h)):=by rw[B];exact Hs.new _ _ _
 have B6:Hid (Below h h v):=by rw[B];exact belA b6 _
 have n6:M.heap.size+1=v.heap.size:=by rw[B];simp
 have e6:M.alloc (.cells #[.slice none 0 0,.slice none 0 0,.slice (some ⟨h+19,0,none⟩) 2 2,.slice (some ⟨h+20,0,none⟩) 1 1] 27)=v:=B.symm;rw[e6];clear e6 B x6 b6;have a0:v.cell? ⟨M,3,none⟩=some (.slice (some ⟨h+20,0,none⟩) 1 1):=C6.o.cell 3;have a1:v.cell? ⟨h+20,3,none⟩=some (.slice (some ⟨h+16,0,none⟩) 1 1):=(X6.o.cell 20 π rfl).cell 3;have d:Hid (Hs v (h+16) 61 _):=X6.o.cell 16 π rfl;have f5:=d.o.free 5;have g5:v.cell? ⟨h+16,5,none⟩=some (.int .i64 1):=d.o.cell 5;go_upto_region 10 with fail;obtain⟨q,G⟩:=γ (v.setCell ⟨h+16,5,none⟩ (.int .i64 2))
 have a5:ExAt q h 3 2 1:=by rw[G];exact ExAt.put (k:=16) (t:=61) X6.o π rfl _
 have au:Hid (q.heap.size=v.heap.size):=by show _=_;rw[G];simp[World.setCell]
 have V6:Hid (VarAt q M (some ⟨h+19,0,none⟩) (some ⟨h+20,0,none⟩) 2 1 (exPg 3 2 1)):=by
  refine jO a5 (by have:=au.o;omega) ?_ (aZ 3) (aZ 2) (aZ 1);rw[G];exact cV C6.o ω
 have J:Hid (Below h h q):=by rw[G];exact cL B6.o (by show _<=h.heap.size+16;omega)
 rw[<-G];clear a0 a1 f5 g5 G a5 d X6 C6 B6;have Z1:Hid (VarAt q r (some ⟨w+19,0,none⟩) (some ⟨w+20,0,none⟩) 2 1 (exPg 3 1 1)):=(((V1.o.bel ak.o).bel ae.o).bel X.o).bel J.o;obtain⟨Z2,Z3,Z4⟩:=zd3 (((V2.o.bel ae.o).bel X.o).bel J.o) ((V3.o.bel X.o).bel J.o) (V4.o.bel J.o);have ZB:Hid (Below w w q):=bel (bel (bel (bel B1.o ak.o) ae.o) X.o) J.o;clear V1 V2 V3 V4 ak ae X J B1 ax aw av au n1 n2 n3 n4 n6 z2 z3 z4 z6 ca;have c0:q.cell? r=some (.slice none 0 0):=Z1.o.bx.cell 0;have c1:q.cell? ⟨r,1,none⟩=some (.slice none 0 0):=Z1.o.bx.cell 1;have c2:q.cell? ⟨r,2,none⟩=some (.slice (some ⟨w+19,0,none⟩) 2 2):=Z1.o.bx.cell 2;have c3:q.cell? ⟨r,3,none⟩=some (.slice (some ⟨w+20,0,none⟩) 1 1):=Z1.o.bx.cell 3;go_upto_region 11 with (first|(go_at_call 9;refine (c_bytes1 Z1.o).mono ?_;rintro e7 w7 ⟨rfl,b7⟩)|(go_at_call 10;refine (c_read _).mono ?_;rintro e8 w8 ⟨A0,A1,A2,A3,q0,q1,q2,q3,rfl,P8,b8⟩));obtain⟨U,T⟩:=γ (w8.alloc (.cells #[.slice A0 0 q0,.slice A1 0 q1,.slice A2 2 q2,.slice A3 1 q3] 27))
 have A:Hid (Below q q U):=by rw[T];exact belA (bel b7 b8) _
 have cw:Hid (PgAt U A0 A1 A2 A3 q0 q1 q2 q3 (exPg 3 1 1)):=by rw[T];exact P8.bel ζ1
 have H8:Hid (U.heap[w8.heap.size]?=some (.cells #[.slice A0 0 q0,.slice A1 0 q1,.slice A2 2 q2,.slice A3 1 q3] 27 (0,0))):=by rw[T];exact Hs.new _ _ _
 rw[<-T];clear T P8 b7 b8 c0 c1 c2 c3;obtain⟨Y1,Y2,Y3,Y4,Y6,YB⟩:=zd6 (Z1.o.bel A.o) (Z2.o.bel A.o) (Z3.o.bel A.o) (Z4.o.bel A.o) (V6.o.bel A.o) (bel ZB.o A.o);have YR:=η (HR.o.mono YB.o);have H1:Hid (U.heap[r.heap.size]?=some (.cells #[.slice none 0 0,.slice none 0 0,.slice (some ⟨w+19,0,none⟩) 2 2,.slice (some ⟨w+20,0,none⟩) 1 1] 27 (0,0))):=Y1.o.bx;have H2:Hid (U.heap[O.heap.size]?=some (.cells #[.slice none 0 0,.slice none 0 0,.slice (some ⟨a+19,0,none⟩) 2 2,.slice (some ⟨a+20,0,none⟩) 1 1] 27 (0,0))):=Y2.o.bx;have H3:Hid (U.heap[N.heap.size]?=some (.cells #[.slice none 0 0,.slice none 0 0,.slice (some ⟨g+19,0,none⟩) 2 2,.slice (some ⟨g+20,0,none⟩) 1 1] 27 (0,0))):=Y3.o.bx;have H4:Hid (U.heap[l.heap.size]?=some (.cells #[.slice none 0 0,.slice none 0 0,.slice A5 3 c5,.slice (some ⟨i+20,0,none⟩) 1 1] 27 (0,0))):=Y4.o.bx;have H6:Hid (U.heap[M.heap.size]?=some (.cells #[.slice none 0 0,.slice none 0 0,.slice (some ⟨h+19,0,none⟩) 2 2,.slice (some ⟨h+20,0,none⟩) 1 1] 27 (0,0))):=Y6.o.bx
 have k1:∀W,(binOp .neq 34 (.agg (ShaT.u8s dP)) (.agg #[.int .u8 0,.int .u8 0,.int .u8 0,.int .u8 0,.int .u8 0,.int .u8 0,.int .u8 0,.int .u8 0,.int .u8 0,.int .u8 0,.int .u8 0,.int .u8 0,.int .u8 0,.int .u8 0,.int .u8 0,.int .u8 0,.int .u8 0,.int .u8 0,.int .u8 0,.int .u8 0,.int .u8 0,.int .u8 0,.int .u8 0,.int .u8 0,.int .u8 0,.int .u8 0,.int .u8 0,.int .u8 0,.int .u8 0,.int .u8 0,.int .u8 0,.int .u8 0])).run prog W=.ok (.bool true) W:=ex_k1;have k2:∀W,(binOp .eql 34 (.agg (ShaT.u8s dP)) (.agg (ShaT.u8s dS))).run prog W=.ok (.bool true) W:=ex_k2;have k3:∀W,(binOp .neq 34 (.agg (ShaT.u8s dP)) (.agg (ShaT.u8s dT))).run prog W=.ok (.bool true) W:=ex_k3;have k4:∀W,(binOp .eql 34 (.agg (ShaT.u8s dO)) (.agg #[.int .u8 0,.int .u8 0,.int .u8 0,.int .u8 0,.int .u8 0,.int .u8 0,.int .u8 0,.int .u8 0,.int .u8 0,.int .u8 0,.int .u8 0,.int .u8 0,.int .u8 0,.int .u8 0,.int .u8 0,.int .u8 0,.int .u8 0,.int .u8 0,.int .u8 0,.int .u8 0,.int .u8 0,.int .u8 0,.int .u8 0,.int .u8 0,.int .u8 0,.int .u8 0,.int .u8 0,.int .u8 0,.int .u8 0,.int .u8 0,.int .u8 0,.int .u8 0])).run prog W=.ok (.bool true) W:=ex_k4;clear Z1 Z2 Z3 Z4 V6 ZB A HR;try simp only[Act.put]
 refine wp_region_quiet_below Δ Δ ?_;simp only[List.append]
 repeat (first
  | (go_big_quiet_want;refine dh 27 _ rfl r rfl 27 _ _ _ (eL H1.o) underlying27 rfl Δ ?_;go_frame;go_big_quiet_on)
  | (go_big_quiet_want;refine dh 27 _ rfl O rfl 27 _ _ _ (eL H2.o) underlying27 rfl Δ ?_;go_frame;go_big_quiet_on)
  | (go_big_quiet_want;refine dh 27 _ rfl N rfl 27 _ _ _ (eL H3.o) underlying27 rfl Δ ?_;go_frame;go_big_quiet_on)
  | (go_big_quiet_want;refine dh 27 _ rfl l rfl 27 _ _ _ (eL H4.o) underlying27 rfl Δ ?_;go_frame;go_big_quiet_on)
  | (go_big_quiet_want;refine dh 27 _ rfl M rfl 27 _ _ _ (eL H6.o) underlying27 rfl Δ ?_;go_frame;go_big_quiet_on)
  | (go_big_quiet_want;refine dh 27 _ rfl w8 rfl 27 _ _ _ (eL H8.o) underlying27 rfl Δ ?_;go_frame;go_big_quiet_on)
  | go_big_quiet_step (first
   | (go_at_call 11;with_reducible exact Calls.regrown_of (rx (Y1.o.bel (below_regrown _ _ _)) ex_r1))
   | (go_at_call 11;with_reducible exact Calls.regrown_of (rx (Y2.o.bel (below_regrown _ _ _)) ex_r2))
   | (go_at_call 11;with_reducible exact Calls.regrown_of (rx (Y3.o.bel (below_regrown _ _ _)) ex_r3))
   | (go_at_call 11;with_reducible exact Calls.regrown_of (c_rightS (Y4.o.bel (below_regrown _ _ _))))
   | (go_at_call 11;with_reducible exact Calls.regrown_of (c_right0 _))
   | (go_at_call 13;with_reducible exact Calls.regrown_of (c_same1 (cw.o.bel (below_regrown _ _ _)) (Y1.o.bel (below_regrown _ _ _))))
   | (go_at_call 13;with_reducible exact Calls.regrown_of (c_same2 (Y1.o.bel (below_regrown _ _ _)) (Y4.o.bel (below_regrown _ _ _))))
   | (go_at_call 9;with_reducible exact Calls.regrown_of (c_bytes2 (Y2.o.bel (below_regrown _ _ _))))
   | (go_at_call 12;with_reducible exact Calls.regrown_of (c_digM (YR.o.mono (below_regrown _ _ _)) (Y1.o.bel (below_regrown _ _ _))))
   | (go_at_call 12;with_reducible exact Calls.regrown_of (c_digS (YR.o.mono (below_regrown _ _ _)) (Y4.o.bel (below_regrown _ _ _))))
   | (go_at_call 12;with_reducible exact Calls.regrown_of (c_digT (YR.o.mono (below_regrown _ _ _)) (Y6.o.bel (below_regrown _ _ _))))
   | (go_at_call 12;with_reducible exact Calls.regrown_of (c_digO (YR.o.mono (below_regrown _ _ _)) (Y1.o.bel (below_regrown _ _ _))))))
 refine wpQuiet_nil ?_;intro _ cb;obtain⟨⟨dq,d7⟩,bd⟩:=cb;subst bd;go_wp2_with fail;go_ret;exact⟨rfl,bel YB.o (below_regrown _ _ _)⟩
end Go.Proofs.YtjohpidklbhmcaaGreatDoor
