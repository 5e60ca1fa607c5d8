/- Core -/
import Derived.Test.YtjohpidklbhmcaaGreatDoorZ10
import Derived.Lib.UnsafeStr
import Derived.Shelf.RegionOpenPlain
namespace Go.Proofs.YtjohpidklbhmcaaGreatDoor
set_option linter.all false
open Proofs.Tryz RowKit Maps WideMaps ChangeMaps
set_option maxRecDepth 100000
set_option maxHeartbeats 2000000
section
variable {t:Ty}
def nX {p:Pg} (hF:Fine p) {cs:List Ctr} (h:varP p t=some cs) {y:Nat} (hy:y<cs):∀f∈cs[y].fields,ag f.type=true:=by
 unfold varP at h;split at h
 ·split at h
  ·cases h
  rename_i i e;split at h
  ·cases h
  rename_i d b;split at h
  ·cases h
  injection h with h;subst h;intro f a;exact hF.flds d (List.mem_of_getElem? b) _ (ν hy) f a
 cases h
section
variable {c:CB} {p:Pg} {mb n:Nat} {own:Nat->Prop} {sb kc:Nat} {sc:Sc} {x:Int} {s:Ê} {A:Option Addr} {kids:List Ex} {cap:Nat} {wv:Value} {want:Option Ty} {w:À} (IH:xG c p mb n) (hF:aO p n) (hFi:Fine p) (hd:∀k∈kids,Ex.deep k<=n) (he:Env w own mb sb c p sc) (ho:ScOk p sc) (hk:im own w kc) (hkc:w.cell? kc=some (c.b:Vl)) (hx:ExsR w (im own w) (.slice A kids cap) kids) (hw:WantR w (im own w) wv want) (hwo:aL want) (hix:i64 x) (hss:s.size<=maxLen)
include IH hF hFi hd he ho hk hkc hx hw hwo hix hss
theorem clo_ctor {op m:Int}:
 Calls prog 172 #[sb,ex5 op x m s A kids cap,wv,kc] w (ResF w own mb sb sc (jx p (aa p n) sc x s kids)):=by
 obtain⟨HP,au,HD,HF,aw,aq,HO,HW⟩:=zd8 (Pre.start (op:=op) (x:=x) (m:=m) (s:=s) he hk hkc hx hw) IH hd hF hFi ho he.mb.1 hwo;obtain⟨be,E⟩:=zd2 hix hss;have bc:=he.mb.2;have bd:kc<w:=hk.1;have HV:Hid (jx p (aa p n) sc x s kids=match varP p (cN s) with|none=>none|some cs=>if az x cs then (match cs[x.toNat]? with|none=>none|some c=>if bl (aa p n) sc kids c.fields then some (cN s) else none) else none):=rfl;obtain⟨i,t⟩:=γ ((w.alloc (.cells #[op,x,m,s,.slice A kids cap] 43)).alloc (.cells #[(0:Int),"",()] 40))
 have g:Hid (Pre i (plus own (w+1)) mb sb w (w+1) kc c p sc op x m s A kids cap wv want):=by rw[t];exact HP
 have v:Hid (Stm mb w i):=by rw[t];exact Stm.of_below ζ2
 have al:=η t;have G:kc≠mb:=λe=>hk.2 (by rw[e];exact he.mb.1);clear hd he ho hk hkc hx hw hwo IH HP t hF hFi hix hss;go_in;go_upto_region 1 with fail;rw[<-al.o];have N:=stpC (mb:=mb) g.kc G;have b3:=stpC (mb:=mb) (g.bx.c 3) Φ
 cases h4:varP p (cN s) with
 | none =>
  have O:Hid (jx p (aa p n) sc x s kids=none):=by show _=_;rw[HV.o,h4]
  have F:=η h4;clear h4;refine tkB (λW=>Stm mb i W) Λ (λhHeld=>?_);refine θ ?_;refine tkE 3 (λK hK=>?_);go_simp;(refine (fT _ _).mono ?_;rintro e1 z ⟨rfl,d⟩);refine tkR hK ?_ (λhHeld=>?_)
  ·first|exact hHeld.trans (Stm.of_below d)|exact hHeld.trans (Stp.of_below d)
  clear hK K;refine tkE 4 (λK hK=>?_);go_simp;(refine (xF c p (im (plus own (w+1)) z) _ (cN s) _ (im (plus own (w+1)) z) (g.env.chk.to (sof (bel (ad _) d)).sub) (ρ g.env.chk.qb.1 (bel (ad i) d).size) (TyR.of Ψ E SlR.nil)).mono ?_;rw[F.o];rintro e2 q ⟨j,rfl⟩);refine tkR hK ?_ (λhHeld=>?_)
  ·first|exact hHeld.trans (Stm.of_below j)|exact hHeld.trans (Stp.of_below j)
  clear hK K;refine θ ?_;refine tkD ?_;have r:=η (bel (bel (ad i) d) j);obtain⟨V,U,T,q0,Z,Y⟩:=(g.bel r).rs.facts;clear hHeld N;go_wp2;rw[O.o];exact bodyPost_ret (am results172 _ _ (w+1) _ _ _ _ _ rfl ((g.bel r).rs.set3 _ _ _ _ _)) rfl (aB (v.trans (Stm.of_below r)) ω ω)
 | some cs =>
  have L:Hid (jx p (aa p n) sc x s kids=if az x cs then (match cs[x.toNat]? with|none=>none|some c=>if bl (aa p n) sc kids c.fields then some (cN s) else none) else none):=by show _=_;rw[HV.o,h4]
  have F:=η h4;clear h4;refine tkB (λW=>Stm mb i W) Λ (λhHeld=>?_);refine θ ?_;refine tkE 3 (λK hK=>?_);go_simp;(refine (fT _ _).mono ?_;rintro e1 z ⟨rfl,d⟩);refine tkR hK ?_ (λhHeld=>?_)
  ·first|exact hHeld.trans (Stm.of_below d)|exact hHeld.trans (Stp.of_below d)
  clear hK K;refine tkE 4 (λK hK=>?_);go_simp;(refine (xF c p (im (plus own (w+1)) z) _ (cN s) _ (im (plus own (w+1)) z) (g.env.chk.to (sof (bel (ad _) d)).sub) (ρ g.env.chk.qb.1 (bel (ad i) d).size) (TyR.of Ψ E SlR.nil)).mono ?_;rw[F.o];rintro e2 q ⟨j,A4,a6,rfl,D⟩);refine tkR hK ?_ (λhHeld=>?_)
  ·first|exact hHeld.trans (Stm.of_below j)|exact hHeld.trans (Stp.of_below j)
  clear hK K;refine θ ?_;refine tkD ?_;have r:=η (bel (bel (ad i) d) j);obtain⟨a,av⟩:=zd2 (g.bel r) (CtrsR.to D (sof (own:=(plus own (w+1))) j).sub);have b1:=a.bx.c 1;clear hHeld N D b3;by_cases u:az x cs=true
  ·have ac:0<=x/\x<cs:=by simpa[az] using u
   obtain⟨y,rfl⟩:∃y:Nat,x=(y:Int):=⟨x.toNat,ω⟩
   have B:y<cs:=ω;have a9:(0:Int)<=(y:Int):=ω;have a8:(y:Int)<(cs.length:Int):=ω;have an:Hid (jx p (aa p n) sc (y:Int) s kids=if bl (aa p n) sc kids cs[y].fields then some (cN s) else none):=by show _=_;rw[L.o,if_pos u,Int.toNat_natCast,ξ B]
   have R:=η u;clear u ac;go_upto_region 4 with (go_at_call 162;refine (ay _ _ _).mono ?_;rw[R.o];rintro e w' ⟨rfl,rfl⟩);obtain⟨g4,a3,A5,q5,rfl,H,v0,X,ae,ag,I⟩:=ew av B;have ah:g4≠mb:=λe=>H.2 (by rw[e];exact .inl HO);have af:g4≠w+1:=λe=>H.2 (.inr e);have ax:=η I;replace X:=aD (mb:=mb) (rb:=w+1) X ah af;clear v0 ae ag I b1;have N:=aD (mb:=mb) (rb:=w+1) a.kc G Φ;have b3:=aD (mb:=mb) (rb:=w+1) (a.bx.c 3) Φ Θ;have b4:=aD (mb:=mb) (rb:=w+1) (a.bx.c 4) Φ Θ;have b1:=aD (mb:=mb) (rb:=w+1) (a.bx.c 1) Φ Θ
   cases h6:bl (aa p n) sc kids cs[y].fields
   all_goals
    have H6:=η h6;clear h6;refine tkB (λW=>Stp (plus (only mb) (w+1)) q W) Λ (λhHeld=>?_);refine θ ?_;refine tkE 2 (λK hK=>?_);go_simp;(refine (fT _ _).mono ?_;rintro e3 w3 ⟨rfl,f⟩);refine tkR hK ?_ (λhHeld=>?_)
    ·first|exact hHeld.trans (Stm.of_below f)|exact hHeld.trans (Stp.of_below f)
    clear hK K;refine tkE 13 (λK hK=>?_);go_simp;(refine (fD au HD (a.env.bel (bel (ad _) f)) aq (ExsR.to a.kids (sof (bel (ad _) f)).sub) (FldsR.to ax (sof (bel (ad _) f)).sub) (nX aw F B)).mono ?_;rw[H6.o];rintro e5 w5 ⟨rfl,l,M⟩;obtain⟨V,U,T,q0,Z,Y⟩:=(a.rs.stp ((Stm.of_below (mb:=mb) (bel (ad q) f)).trans l) Ω).facts);refine tkR hK ?_ (λhHeld=>?_)
    ·exact hHeld.trans (l.s.wk (λ_ h=>.inl h))
    clear hK K;refine tkE 14 (λK hK=>?_);go_simp;refine tkR hK ?_ (λhHeld=>?_)
    ·exact stpR ι _ _ _ _ _
    clear hK K;refine tkQ 15 ?_;refine tkD ?_;clear hHeld;go_wp2_with fail;rw[an.o,H6.o];first
    | exact bodyPost_ret (am results172 _ _ (w+1) _ _ _ _ _ rfl ((a.rs.stp ((Stm.of_below (mb:=mb) (bel (ad q) f)).trans l) Ω).set3 _ _ _ _ _)) rfl (aB ((v.trans (Stm.of_below r)).trans ((Stm.of_below (bel (ad _) f)).trans l)) ω ω)
    | exact bodyPost_ret (am results172 _ _ (w+1) _ _ _ _ _ rfl ((a.rs.stp ((Stm.of_below (mb:=mb) (bel (ad q) f)).trans l) Ω).set3 _ _ _ _ _)) rfl (bo ((v.trans (Stm.of_below r)).trans ((Stm.of_below (bel (ad _) f)).trans l)) ω ω HO (TyR.of Ψ E SlR.nil) (M Υ))
  have J:az x cs=false:=by simpa using u
  have O:Hid (jx p (aa p n) sc x s kids=none):=by show _=_;rw[L.o,if_neg u]
  have R:=η J;clear u J;obtain⟨V,U,T,q0,Z,Y⟩:=a.rs.facts;go_wp2_with (go_at_call 162;refine (ay _ _ _).mono ?_;rw[R.o];rintro e w' ⟨rfl,rfl⟩);rw[O.o];exact bodyPost_ret (am results172 _ _ (w+1) _ _ _ _ _ rfl (a.rs.set3 _ _ _ _ _)) rfl (aB (v.trans (Stm.of_below r)) ω ω)
theorem clo_rec {op m:Int}:
 Calls prog 165 #[sb,ex5 op x m s A kids cap,wv,kc] w (ResF w own mb sb sc (fRec p (aa p n) sc s kids)):=by
 obtain⟨R,U,HD,HF,B,T,HO,HW⟩:=zd8 (Pre.start (op:=op) (x:=x) (m:=m) (s:=s) he hk hkc hx hw) IH hd hF hFi ho he.mb.1 hwo;obtain⟨av,z⟩:=zd2 hix hss;have ar:=he.mb.2;have O:Hid (fRec p (aa p n) sc s kids=match recP p (cN s) with|none=>none|some fs=>if bl (aa p n) sc kids fs then some (cN s) else none):=rfl;obtain⟨i,q⟩:=γ ((w.alloc (.cells #[op,x,m,s,.slice A kids cap] 43)).alloc (.cells #[(0:Int),"",()] 40))
 have d:Hid (Pre i (plus own (w+1)) mb sb w (w+1) kc c p sc op x m s A kids cap wv want):=by rw[q];exact R
 have v:Hid (Stm mb w i):=by rw[q];exact Stm.of_below ζ2
 have M:=η q;have J:kc≠mb:=λe=>hk.2 (by rw[e];exact he.mb.1);clear hd he ho hk hkc hx hw hwo IH R q hF hFi hix hss;go_in;go_upto_region 1 with fail;rw[<-M.o];have G:=stpC (mb:=mb) d.kc J;have L:=stpC (mb:=mb) (d.bx.c 3) Φ
 cases h4:recP p (cN s) with
 | none =>
  have HX:Hid (fRec p (aa p n) sc s kids=none):=by show _=_;rw[O.o,h4]
  have D:=η h4;clear h4;refine tkB (λW=>Stm mb i W) Λ (λhHeld=>?_);refine θ ?_;refine tkE 3 (λK hK=>?_);go_simp;(refine (fT _ _).mono ?_;rintro e1 t ⟨rfl,a⟩);refine tkR hK ?_ (λhHeld=>?_)
  ·first|exact hHeld.trans (Stm.of_below a)|exact hHeld.trans (Stp.of_below a)
  clear hK K;refine tkE 4 (λK hK=>?_);go_simp;(refine (xE c p (im (plus own (w+1)) t) _ (cN s) _ (im (plus own (w+1)) t) (d.env.chk.to (sof (bel (ad _) a)).sub) (ρ d.env.chk.qb.1 (bel (ad i) a).size) B (TyR.of Ψ z SlR.nil)).mono ?_;rw[D.o];rintro e2 I ⟨h,rfl⟩);refine tkR hK ?_ (λhHeld=>?_)
  ·first|exact hHeld.trans (Stm.of_below h)|exact hHeld.trans (Stp.of_below h)
  clear hK K;refine θ ?_;refine tkD ?_;have r:=η (bel (bel (ad i) a) h);have L:I.cell? ⟨w,3,none⟩=some (s:Vl):=(d.bel r).bx.cell 3;clear hHeld G;go_wp2_with (go_at_call 167;refine (fT _ _).mono ?_;rintro e3 H ⟨rfl,g⟩;obtain⟨z0,Z,Y,q0,q1,q2⟩:=((d.bel r).bel g).rs.facts);rw[HX.o];exact bodyPost_ret (am results165 _ _ (w+1) _ _ _ _ _ rfl (((d.bel r).bel g).rs.set3 _ _ _ _ _)) rfl (aB (v.trans (Stm.of_below (bel r g))) ω ω)
 | some fs =>
  have N:Hid (fRec p (aa p n) sc s kids=if bl (aa p n) sc kids fs then some (cN s) else none):=by show _=_;rw[O.o,h4]
  have D:=η h4;clear h4;refine tkB (λW=>Stm mb i W) Λ (λhHeld=>?_);refine θ ?_;refine tkE 3 (λK hK=>?_);go_simp;(refine (fT _ _).mono ?_;rintro e1 t ⟨rfl,a⟩);refine tkR hK ?_ (λhHeld=>?_)
  ·first|exact hHeld.trans (Stm.of_below a)|exact hHeld.trans (Stp.of_below a)
  clear hK K;refine tkE 4 (λK hK=>?_);go_simp;(refine (xE c p (im (plus own (w+1)) t) _ (cN s) _ (im (plus own (w+1)) t) (d.env.chk.to (sof (bel (ad _) a)).sub) (ρ d.env.chk.qb.1 (bel (ad i) a).size) B (TyR.of Ψ z SlR.nil)).mono ?_;rw[D.o];rintro e2 I ⟨h,A4,ak,rfl,u⟩);refine tkR hK ?_ (λhHeld=>?_)
  ·first|exact hHeld.trans (Stm.of_below h)|exact hHeld.trans (Stp.of_below h)
  clear hK K;refine θ ?_;refine tkD ?_;have r:=η (bel (bel (ad i) a) h);obtain⟨E,V⟩:=zd2 (d.bel r) (FldsR.to u (sof (own:=(plus own (w+1))) h).sub);have L:=E.bx.c 3;clear hHeld G u
  cases h5:bl (aa p n) sc kids fs
  all_goals
   have X:=η h5;clear h5;go_wp2_with (first|(go_at_call 167;refine (fT _ _).mono ?_;rintro e3 H ⟨rfl,g⟩;have j:=η (E.bel g);have G:=j.kc;have b4:H.cell? ⟨w,4,none⟩=some (.slice A kids cap):=j.bx.cell 4;have aq:w.heap.size<=w:=υ _)|(go_at_call 168;refine (fD U HD j.env T j.kids (FldsR.to V (sof g).sub) (λf hf=>by obtain⟨y,hy,rfl⟩:=List.getElem_of_mem hf;exact kQ B D hy)).mono ?_;rw[X.o];rintro e5 w5 ⟨rfl,l,F⟩;obtain⟨z0,Z,Y,q0,q1,q2⟩:=(j.rs.stp l Ω).facts));rw[N.o,X.o];first
   | exact bodyPost_ret (am results165 _ _ (w+1) _ _ _ _ _ rfl ((j.rs.stp l Ω).set3 _ _ _ _ _)) rfl (aB ((v.trans (Stm.of_below (bel r g))).trans l) ω ω)
   | exact bodyPost_ret (am results165 _ _ (w+1) _ _ _ _ _ rfl ((j.rs.stp l Ω).set3 _ _ _ _ _)) rfl (bo ((v.trans (Stm.of_below (bel r g))).trans l) ω ω HO (TyR.of Ψ z SlR.nil) (F Υ))
end
structure Upp (p:Pg):Prop where
 types:∀d∈p.types,aC d.name.data.toList=true
 acts:∀a∈p.actors,aC a.name.data.toList=true
def EOk (p:Pg) (E:EF):Prop:=∀(sc:Sc) (e:Ex) (want:Option Ty) (t:Ty),ScOk p sc->aL want->E sc e want=some t->ag t=true
def uq:aL none:=λ_ h=>by cases h
def nr (h:ag t=true):ag (nC t)=true:=by simp[nC,ag,eh,h,bH,nm0]
def lq {s:Ê} (h:aC s.data.toList=true):ag (cN s)=true:=by simp[cN,ag,h]
def oM {s:Ê} (h:aC s.data.toList=true):ag (refT s)=true:=by simp[refT,ag,h]
variable {i:Nat}
def sV {l:List Dcl} {s:List UInt8} (h:idxP (l.map λd=>d.name.data.toList) s=some i):∃d∈l,d.name.data.toList=s:=by
 have:=(cg _ _ _ _ h).2;rw[List.getElem?_map] at this;obtain⟨d,a,e⟩:=Option.map_eq_some_iff.1 this;exact⟨d,List.mem_of_getElem? a,e⟩
def ww {p:Pg} (hU:Upp p) {s:Ê} {fs:List Fld} (h:recP p (cN s)=some fs):aC s.data.toList=true:=by
 unfold recP at h;split at h
 ·split at h
  ·cases h
  rename_i i a;obtain⟨d,b,e⟩:=sV a;have:=hU.types d b;rw[e] at this;exact this
 cases h
def vC {p:Pg} (hU:Upp p) {s:Ê} {cs:List Ctr} (h:varP p (cN s)=some cs):aC s.data.toList=true:=by
 unfold varP at h;split at h
 ·split at h
  ·cases h
  rename_i i a;obtain⟨d,b,e⟩:=sV a;have:=hU.types d b;rw[e] at this;exact this
 cases h
def dU {k:Int} {b:Bool} (hk:k=1\/k=2\/k=3\/k=4) (h:fixT k b=some t):ag t=true:=by
 unfold fixT at h;split at h
 ·injection h with h;subst h;rcases hk with rfl|rfl|rfl|rfl<;>rfl
 cases h
def vp {p:Pg} {sc sc':Sc} {i:Int} (h:ScOk p sc) (hf:ag t=true) (hb:sc.bind i t=some sc'):ScOk p sc':=by
 unfold Sc.bind at hb;split at hb
 ·injection hb with hb;subst hb;exact h.set hf
 cases hb
theorem oU {p:Pg}:∀(fs:List Fld) (sc sc':Sc) (m:Int),ScOk p sc->(∀f∈fs,ag f.type=true)->bindAll sc m fs=some sc'->ScOk p sc'
 | [],sc,sc',m,h,_,hb=>by rw[bindAll] at hb;injection hb with hb;subst hb;exact h
 | f::fs,sc,sc',m,h,hf,hb=>by
  rw[bindAll] at hb
  cases hx:sc.bind m f.type with
  | none=>rw[hx] at hb;cases hb
  | some s1 =>
   rw[hx] at hb
   exact oU fs s1 sc' (m+1) (vp h (hf f (List.mem_cons_self)) hx) (λg hg=>hf g (List.mem_cons_of_mem _ hg)) hb
theorem vq {p:Pg} {E:EF} (hE:EOk p E) {want:Option Ty} (hw:aL want) (arms:List Ex) {sc:Sc} (hs:ScOk p sc) {cs:List Ctr} (hc:∀(y:Nat) (h:y<cs),∀f∈cs[y].fields,ag f.type=true) :
 ∀(rest:List (Int×Int)) (i:Nat) (seen:List Int) (st t:Ty),(ag st=true\/(i=0/\0<rest.length))->bz sc cs (cE E want arms) i seen st rest=some t->ag t=true
 | [],i,seen,st,t,hst,h=>by
  rw[bz] at h
  split at h
  ·injection h with h;subst h
   rcases hst with hst|hst
   ·exact hst
   simp at hst
  cases h
 | (n,m)::rest,i,seen,st,t,hst,h=>by
  rw[bz] at h
  split at h
  ·cases h
  split at h
  ·cases h
  rename_i sc' hb
  split at h
  ·cases h
  rename_i st' hm
  have hsc':ScOk p sc':=by
   refine oU _ _ _ _ hs ?_ hb;intro f a;split at a
   ·simp at a
   split at a
   ·simp at a
   rename_i c b;obtain⟨d,e⟩:=List.getElem?_eq_some_iff.1 b;exact hc _ d f (by rw[e];exact a)
  refine vq hE hw arms hs hc rest (i+1) (n::seen) st' t (.inl ?_) h;unfold cE at hm;split at hm
  ·cases hm
  split at hm
  ·split at hm
   ·exact hE _ _ _ _ hsc' hw hm
   rename_i g;split at hm
   ·injection hm with hm;subst hm;rcases hst with hst|hst
    ·exact hst
    exact absurd hst.1 g
   cases hm
  cases hm
def wantB {k:Int} (hk:k=3\/k=4):aL (some (bTy k)):=λu h=>by
 injection h with h;subst h;rcases hk with rfl|rfl<;>rfl
def iteS {c:Prop} [Decidable c] {a b:Option Ty} (h:(if c then a else b)=some t):(c/\a=some t)\/(¬c/\b=some t):=by
 split at h
 ·exact .inl ⟨by assumption,h⟩
 exact .inr ⟨by assumption,h⟩
def wN {a:List Ty} (h:eh a=true) (hl:a.length≠0):ag (.mk 8 nm0 a)=true:=by
 rw[ag,h,decide_eq_false hl];rfl
def formE_ok {p:Pg} {E:EF} (hF:Fine p) (hU:Upp p) (hE:EOk p E) {sc:Sc} {op x:Int} {s:Ê} {kids:List Ex} {want:Option Ty} (hs:ScOk p sc) (hw:aL want) (h:bP p E sc op x s kids want=some t):ag t=true:=by
 revert h
 have D:fw E sc kids want=some t->ag t=true:=by
  intro h;unfold fw at h;split at h
  ·rename_i Y s0 u;split at h
   ·split at h
    ·injection h with h;subst h;exact nr (eM (hw _ rfl) _ Θ)
    cases h
   cases h
  ·cases h
  split at h
  ·cases h
  split at h
  ·cases h
  rename_i i d;split at h
  ·injection h with h;subst h;exact nr (hE _ _ _ _ hs uq d)
  cases h
 have I:fRec p E sc s kids=some t->ag t=true:=by
  intro h;unfold fRec at h;split at h
  ·cases h
  rename_i fs b;split at h
  ·injection h with h;subst h;exact lq (ww hU b)
  cases h
 have L:fGet p E sc x kids=some t->ag t=true:=by
  intro h;unfold fGet at h;split at h
  ·split at h
   ·cases h
   split at h
   ·cases h
   rename_i fs b;split at h
   ·obtain⟨f,l,rfl⟩:=Option.map_eq_some_iff.1 h;obtain⟨H,e⟩:=List.getElem?_eq_some_iff.1 l;rw[<-e];exact kQ hF b H
   cases h
  cases h
 have A:gL p E sc x want kids=some t->ag t=true:=by
  intro h;unfold gL at h;split at h
  ·split at h
   ·cases h
   rename_i i d;split at h
   ·cases h
   split at h
   ·split at h
    ·cases h
    split at h
    ·injection h with h;subst h;exact hE _ _ _ _ hs hw d
    cases h
   cases h
  cases h
 have F:jx p E sc x s kids=some t->ag t=true:=by
  intro h;unfold jx at h;split at h
  ·cases h
  rename_i cs b;split at h
  ·split at h
   ·cases h
   split at h
   ·injection h with h;subst h;exact lq (vC hU b)
   cases h
  cases h
 have w:dX p E sc want kids=some t->ag t=true:=by
  intro h;unfold dX at h;split at h
  ·cases h
  rename_i Y O;split at h
  ·cases h
  rename_i i d;split at h
  ·unfold bX at h;split at h
   ·cases h
   rename_i cs b;split at h
   ·cases h
   rename_i H;exact vq hE hw O hs (λy hy=>nX hF b hy) _ 0 [] _ _ (.inr ⟨rfl,Nat.pos_of_ne_zero H⟩) h
  cases h
 have V:fIf E sc want kids=some t->ag t=true:=by
  intro h;unfold fIf at h;split at h
  ·split at h
   ·split at h
    ·cases h
    rename_i i d;split at h
    ·injection h with h;subst h;exact hE _ _ _ _ hs hw d
    cases h
   cases h
  cases h
 have N:fCat E sc want kids=some t->ag t=true:=by
  intro h;unfold fCat at h;split at h
  ·split at h
   ·cases h
   rename_i i d;split at h
   ·injection h with h;subst h;exact hE _ _ _ _ hs hw d
   cases h
  cases h
 have J:fLet E sc x want kids=some t->ag t=true:=by
  intro h;unfold fLet at h;split at h
  ·split at h
   ·cases h
   rename_i i d;split at h
   ·cases h
   rename_i af hb;exact hE _ _ _ _ (vp hs (hE _ _ _ _ hs uq d) hb) hw h
  cases h
 have G:jI p E sc x kids=some t->ag t=true:=by
  intro h;unfold jI at h;split at h
  ·split at h
   ·cases h
   rename_i f l;split at h
   ·injection h with h;subst h;exact (hF.funs f (List.mem_of_getElem? l)).2.1
   cases h
  cases h
 have M:fFun p E sc x kids=some t->ag t=true:=by
  intro h;unfold fFun at h;split at h
  ·split at h
   ·cases h
   rename_i f l;split at h
   ·split at h
    ·injection h with h;subst h;have U:=hF.funs f (List.mem_of_getElem? l)
     have j:eh ((f.params.drop kids).map (·.type)++[f.result])=true:=by
      rw[fi,List.all_eq_true];intro u g;rcases List.mem_append.1 g with g|g
      ·obtain⟨q,T,rfl⟩:=List.mem_map.1 g;exact U.1 q (List.mem_of_mem_drop T)
      rw[List.mem_singleton.1 g];exact U.2.1
     exact wN j Θ
    cases h
   cases h
  cases h
 have z:dY E sc kids=some t->ag t=true:=by
  intro h;unfold dY at h;split at h
  ·cases h
  split at h
  ·cases h
  rename_i i d;split at h
  ·split at h
   ·obtain⟨X,W,a1⟩:=i;exact eM (hE _ _ _ _ hs uq d) _ (List.mem_of_getLast? h)
   cases h
  cases h
 have B:aP E sc x want kids=some t->ag t=true:=by
  intro h;unfold aP at h;split at h
  ·cases h
  split at h
  ·cases h
  rename_i i d
  have k:ag i=true:=by
   unfold aY at d;split at d
   ·split at d
    ·cases d
    rename_i t2 h2;split at d
    ·injection d with d;subst d;refine hE _ _ _ _ hs ?_ h2;intro u g;split at g
     ·cases g
     split at g
     ·injection g with g;subst g;exact hw _ rfl
     cases g
    cases d
   split at d
   ·exact hE _ _ _ _ hs (wantB (.inr rfl)) d
   split at d
   ·exact hE _ _ _ _ hs (wantB (.inl rfl)) d
   cases d
  split at h
  ·cases h
  rename_i R r b;split at h
  ·split at h
   ·injection h with h;subst h;unfold bi at b;split at b
    ·injection b with b;injection b with _ b;subst b;rfl
    split at b
    ·obtain⟨a,j,e⟩:=Option.map_eq_some_iff.1 b;injection e with _ e;subst e;obtain⟨X,W,a1⟩:=i;exact eM k _ (List.mem_of_getElem? j)
    split at b
    ·obtain⟨a,j,e⟩:=Option.map_eq_some_iff.1 b;injection e with _ e;subst e;exact k
    split at b
    ·injection b with b;injection b with _ b;subst b;exact k
    split at b
    ·injection b with b;injection b with _ b;subst b;rfl
    cases b
   cases h
  cases h
 intro h;unfold bP at h;rcases iteS h with ⟨_,h⟩|⟨_,h⟩
 ·exact dU ω h
 rcases iteS h with ⟨_,h⟩|⟨_,h⟩
 ·exact dU ω h
 rcases iteS h with ⟨_,h⟩|⟨_,h⟩
 ·exact dU ω h
 rcases iteS h with ⟨_,h⟩|⟨_,h⟩
 ·exact dU ω h
 rcases iteS h with ⟨_,h⟩|⟨_,h⟩
 ·exact hs.bound _ _ h
 rcases iteS h with ⟨_,h⟩|⟨_,h⟩
 ·rcases iteS h with ⟨_,h⟩|⟨_,h⟩
  ·obtain⟨v,Z,rfl⟩:=Option.map_eq_some_iff.1 h;exact hs.vars v (List.mem_of_getElem? Z)
  cases h
 rcases iteS h with ⟨_,h⟩|⟨_,h⟩
 ·unfold iL at h;rcases iteS h with ⟨_,h⟩|⟨_,h⟩
  ·cases h
  obtain⟨a,j,rfl⟩:=Option.map_eq_some_iff.1 h;exact oM (hU.acts a (List.mem_of_getElem? j))
 rcases iteS h with ⟨_,h⟩|⟨_,h⟩
 ·exact D h
 rcases iteS h with ⟨_,h⟩|⟨_,h⟩
 ·exact I h
 rcases iteS h with ⟨_,h⟩|⟨_,h⟩
 ·exact L h
 rcases iteS h with ⟨_,h⟩|⟨_,h⟩
 ·exact A h
 rcases iteS h with ⟨_,h⟩|⟨_,h⟩
 ·exact F h
 rcases iteS h with ⟨_,h⟩|⟨_,h⟩
 ·exact w h
 rcases iteS h with ⟨_,h⟩|⟨_,h⟩
 ·exact V h
 rcases iteS h with ⟨_,h⟩|⟨_,h⟩
 ·exact dU ω h
 rcases iteS h with ⟨_,h⟩|⟨_,h⟩
 ·exact dU ω h
 rcases iteS h with ⟨_,h⟩|⟨_,h⟩
 ·exact N h
 rcases iteS h with ⟨_,h⟩|⟨_,h⟩
 ·exact dU ω h
 rcases iteS h with ⟨_,h⟩|⟨_,h⟩
 ·exact dU ω h
 rcases iteS h with ⟨_,h⟩|⟨_,h⟩
 ·exact J h
 rcases iteS h with ⟨_,h⟩|⟨_,h⟩
 ·exact G h
 rcases iteS h with ⟨_,h⟩|⟨_,h⟩
 ·exact M h
 rcases iteS h with ⟨_,h⟩|⟨_,h⟩
 ·exact z h
 rcases iteS h with ⟨_,h⟩|⟨_,h⟩
 ·exact B h
 cases h
theorem vb {p:Pg} (hF:Fine p) (hU:Upp p):∀n,aO p n
 | 0=>λsc e want t _ _ h=>by rw[aa] at h;cases h
 | n+1=>λsc e want t hs hw h=>by
  obtain⟨op,x,m,s,kids⟩:=e
  rw[aa] at h
  split at h
  ·cases h
  split at h
  ·split at h
   ·cases h
   rename_i t1 h1
   split at h
   ·injection h with h;subst h
    exact formE_ok hF hU (vb hF hU n) hs hw h1
   cases h
  cases h
theorem cI {α:Type} {nm:α->List UInt8} {right:List UInt8->Bool} {ok:α->Bool}:∀(l:List α) (seen:List (List UInt8)),uniq nm right ok seen l=true->∀x∈l,right (nm x)=true/\ok x=true
 | [],_,_=>λx hx=>by cases hx
 | a::l,seen,h=>λx hx=>by
  rw[uniq] at h
  simp only[τ] at h
  rcases List.mem_cons.1 hx with rfl|hx
  ·exact⟨h.1.2,h.2.1⟩
  exact cI l _ h.2.2 x hx
theorem nY {p:Pg}:∀(l:List Dcl) (sN sC r:List (List UInt8)),ep p sN sC l=some r->∀d∈l,aC d.nm=true/\∃seen,fN p seen d=true
 | [],_,_,_,_=>λx hx=>by cases hx
 | a::l,sN,sC,r,h=>λx hx=>by
  rw[ep] at h
  split at h
  ·rename_i hc
   simp only[τ] at hc
   rcases List.mem_cons.1 hx with rfl|hx
   ·exact⟨hc.1.2,_,hc.2⟩
   exact nY l _ _ _ h x hx
  cases h
theorem mQ {p:Pg}:∀(l:List Fn) (seen:List (List UInt8)),dF p seen l=true->∀f∈l,funP p f=true
 | [],_,_=>λx hx=>by cases hx
 | a::l,seen,h=>λx hx=>by
  rw[dF] at h
  split at h
  ·simp only[τ] at h
   rcases List.mem_cons.1 hx with rfl|hx
   ·exact h.1
   exact mQ l _ h.2 x hx
  simp only[τ] at h
  rcases List.mem_cons.1 hx with rfl|hx
  ·exact h.2.2.1
  exact mQ l _ h.2.2.2 x hx
def iv {p:Pg} (h:cZ p t=true):ag t=true:=by
 unfold cZ at h;simp only[τ] at h;exact h.1
def dD {p:Pg} (h:ci p t=true):ag t=true:=by
 unfold ci at h;simp only[τ] at h;exact iv h.1
def fI {p:Pg} {l:List Fld} (h:de p l=true):∀q∈l,ag q.type=true:=λq hq=>dD (cI l [] h q hq).2
def dV {p:Pg} (h:cH p=true):(∀d∈p.types,aC d.nm=true/\∃seen,fN p seen d=true)/\(∀a∈p.actors,aC a.nm=true/\acP p a=true)/\∀f∈p.funs,funP p f=true:=by
 unfold cH at h;split at h
 ·cases h
 rename_i e b;simp only[τ] at h;exact⟨nY _ _ _ _ b,cI _ _ h.1,mQ _ _ h.2.2.1⟩
def upp_of {p:Pg} (h:cH p=true):Upp p:=⟨λd hd=>((dV h).1 d hd).1,λa ha=>((dV h).2.1 a ha).1⟩
def mC {p:Pg} (h:cH p=true):Fine p:=by
 obtain⟨t,w,u⟩:=dV h;refine⟨λi hi _=>?_,λd hd k hk f hf=>?_,λf hf=>?_,λa ha=>?_⟩
 ·obtain⟨_,r,l⟩:=t _ (ν hi);unfold fN at l;simp only[τ,Bool.not_eq_true'] at l;have b:=l.1;unfold ie at b;split at b
  ·cases b
  rename_i e;rw[e];simp
 ·obtain⟨_,r,l⟩:=t _ hd;unfold fN at l;simp only[τ] at l;have j:=(cI _ _ l.2 k hk).2;unfold xH at j;split at j
  ·exact fI j f hf
  have:=List.all_eq_true.1 j f hf;unfold nD at this;simp only[τ] at this;first|exact dD this|exact dD this.2|exact dD this.1
 ·have b:=u f hf;unfold funP at b;simp only[τ] at b;refine⟨λq hq=>iv (cI _ _ b.1 q hq).2,iv b.2.1,?_⟩;have:=b.2.2;unfold gg at this;simp only[τ,decide_eq_true_eq] at this;omega
 have b:=(w a ha).2;unfold acP at b;simp only[τ] at b;refine⟨fI b.1.1,λv hv=>dD (cI _ _ b.2.1 v hv).2,λg hg q hq=>?_⟩;have j:=(cI _ _ b.2.2.1 g hg).2;unfold hdOk at j;simp only[τ] at j;exact fI j.1 q hq
def rm {p:Pg} (h:cH p=true) (n:Nat):aO p n:=vb (mC h) (upp_of h) n
def int_any (n:Int) (h1:-9223372036854775808<=n) (h2:n<=9223372036854775807) (w:À):Calls prog 150 #[n] w λe w'=>e=.returned (.string ⟨(intB n).toArray⟩)/\Below w w w':=by
 by_cases d:n < -1152921504606846976
 ·have l:decide (n < -1152921504606846976)=true:=decide_eq_true d;have a:Hid (intB n=[]):=by show _=_;unfold intB;rw[if_pos (.inl d)]
  go_in;go_wp2;go_ret;rw[a.o];exact⟨rfl,belR _⟩
 have l:decide (n < -1152921504606846976)=false:=decide_eq_false d;by_cases g:1152921504606846976<n
 ·have k:decide (n>1152921504606846976)=true:=decide_eq_true g;have a:Hid (intB n=[]):=by show _=_;unfold intB;rw[if_pos (.inr g)]
  go_in;go_wp2;go_ret;rw[a.o];exact⟨rfl,belR _⟩
 by_cases f:n<0
 ·have a:Hid (intB n=numB (-2*n-1)):=by show _=_;unfold intB;rw[if_neg ω,if_pos f]
  have h:IntKind.i64.wrap (-2*n)=-2*n:=by rw[IntKind.wrap_i64];omega
  have q:IntKind.i64.wrap (-2*n-1)=-2*n-1:=by rw[IntKind.wrap_i64];omega
  have i:=η (λW=>re (-2*n-1) ω ω W);go_in;go_wp2_with (go_at_call 77;refine (i _).mono ?_;rintro p h ⟨rfl,b⟩);go_ret;rw[a.o];exact⟨rfl,b⟩
 have a:Hid (intB n=numB (2*n)):=by show _=_;unfold intB;rw[if_neg ω,if_neg f]
 have h:IntKind.i64.wrap (2*n)=2*n:=by rw[IntKind.wrap_i64];omega
 have i:=η (λW=>re (2*n) ω ω W);go_in;go_wp2_with (go_at_call 77;refine (i _).mono ?_;rintro p h ⟨rfl,b⟩);go_ret;rw[a.o];exact⟨rfl,b⟩
abbrev WrS (B b:Nat) (fv nv:Value) (out:List UInt8) (w:À) (e:Ending) (w':À):Prop:=WrSaid B b fv nv out (.tuple #[]) w e w'
variable {B:Nat}
def nJ {b:Nat} {w w1 w2:À} (h:Below w w w1) (k:Ch (wMay B b) w1 w2):Ch (wMay B b) w w2:=(Ch.of_below h).trans k
def numB_len (n:Int):(numB n).length<=9:=by
 have h:∀k n,(varN k n).length<=k:=by
  intro k;induction k with
  | zero=>intro n;simp[varN]
  | succ k ih=>intro n;rw[varN];split<;>simp[ih]
 unfold numB;split
 ·simp
 exact h _ _
def intB_len (n:Int):(intB n).length<=9:=by
 unfold intB;split
 ·simp
 split<;>exact numB_len _
section
variable {B b:Nat} {fv nv:Value} {l:List UInt8} {n:Int} {w:À} (h:WrAt B b fv nv l w) (h1:-9223372036854775808<=n) (h2:n<=9223372036854775807) (hlen:l.length+9<=140737488355328)
include h h1 h2 hlen
theorem qN:
 Calls prog 29 #[b,n] w (WrS B b fv nv (l++numB n) w):=by
 obtain⟨i,g,f⟩:=zd3 h (show l.length+(⟨(numB n).toArray⟩:Ê).size<=140737488355328 by have:=numB_len n;show l.length+(numB n).toArray.size<=_;simp;omega) (λW=>re n h1 h2 W);go_in
 go_region_held3 (λX=>Ch (wMay B b) w X) (first|exact Ch.of_below (ad _)|exact nJ (ad _) (Ch.of_below a)|exact (nJ (ad _) (Ch.of_below a)).trans d)
  (first|(go_at_call 77;refine (f _).mono ?_;rintro q k ⟨rfl,a⟩)|(go_at_call 76;refine (gb _ (i.bel (bel (ad _) a)) g).mono ?_;rintro p j ⟨rfl,e,d⟩))
 go_wp2;go_end0;exact⟨rfl,e,(nJ (ad _) (Ch.of_below a)).trans d⟩
theorem wint_at:
 Calls prog 120 #[b,n] w (WrS B b fv nv (l++intB n) w):=by
 obtain⟨i,g,f⟩:=zd3 h (show l.length+(⟨(intB n).toArray⟩:Ê).size<=140737488355328 by have:=intB_len n;show l.length+(intB n).toArray.size<=_;simp;omega) (λW=>int_any n h1 h2 W);go_in
 go_region_held3 (λX=>Ch (wMay B b) w X) (first|exact Ch.of_below (ad _)|exact nJ (ad _) (Ch.of_below a)|exact (nJ (ad _) (Ch.of_below a)).trans d)
  (first|(go_at_call 150;refine (f _).mono ?_;rintro q k ⟨rfl,a⟩)|(go_at_call 76;refine (gb _ (i.bel (bel (ad _) a)) g).mono ?_;rintro p j ⟨rfl,e,d⟩))
 go_wp2;go_end0;exact⟨rfl,e,(nJ (ad _) (Ch.of_below a)).trans d⟩
end
def sm {b:Nat} {fv nv:Value} {l:List UInt8} {s:Ê} {w:À} (h:WrAt B b fv nv l w) (hlen:l.length+9+s.size<=140737488355328):
 Calls prog 64 #[b,s] w (WrS B b fv nv (l++aM s) w):=by
 have j:=η h;have i:Hid (aM s=numB (s.size:Nat)++s.data.toList):=rfl;have k:s.size<=9223372036854775807:=ω;have g:=η hlen;go_in;go_wp2_with (first|(go_at_call 29;refine (qN j ω ω (by have:=g.o;omega)).mono ?_;rintro t q ⟨rfl,d,f⟩)|(go_at_call 76;refine (gb _ d (by have:=g.o;have:=numB_len (s.size:Nat);simp;omega)).mono ?_;rintro r p ⟨rfl,a,e⟩));go_end0;rw[i.o,<-χ];exact⟨rfl,a,f.trans e⟩
def wTag:Obj->Bool
 | .cells _ t _=>t==5||(t==3||t==104)
 | .map _ _=>true
 | _=>false
def wM (B b k:Nat) (o:Obj):Prop:=B<=k/\(k=b\/wTag o=true)
def wMay_wM {b k:Nat} {o:Obj} (h:wMay B b k o):wM B b k o:=by
 obtain⟨d,a⟩:=h;refine⟨d,?_⟩;rcases a with a|⟨c,fz,rfl⟩
 ·exact .inl a
 exact .inr rfl
theorem Ch.wM {b:Nat} {w w':À} (h:Ch (wMay B b) w w'):Ch (wM B b) w w':=h.mono λ_ _=>wMay_wM
def wTop:Nat:=1099511627776
structure WEnv {σ:Type} (N:Nm σ) (B b:Nat) (fv nv:Value) (rel:À->σ->Nat->Prop):Prop where
 keep:∀w w' st k,rel w st k->Ch (wMay B b) w w'->rel w' st k
 mono:∀w st k k',rel w st k->k<=k'->rel w st k'
 num:∃f caps,fv=.func (.func f) #[] caps/\(∀a W',(callFunc f a).run prog W'=.ok (.enter f a) W')/\∀w st n k out,i64 n->k<=wTop->WrAt B b fv nv out w->rel w st k ->
  Calls prog f (#[.int .i64 n]++caps) w (λe w'=>e=.returned (.int .i64 (N.num st n).1)/\i64 (N.num st n).1/\WrAt B b fv nv out w'/\rel w' (N.num st n).2 (k+1)/\Ch (wM B b) w w')
 nam:∃f caps,nv=.func (.func f) #[] caps/\(∀a W',(callFunc f a).run prog W'=.ok (.enter f a) W')/\∀w st s k out,s.size<=maxLen->k<=wTop->WrAt B b fv nv out w->rel w st k ->
  Calls prog f (#[.string s]++caps) w (λe w'=>e=.returned (.tuple #[])/\WrAt B b fv nv out w'/\rel w' (N.nam st s) (k+1)/\Ch (wM B b) w w')
section
variable {σ:Type} {N:Nm σ} {B b:Nat} {fv nv:Value} {rel:À->σ->Nat->Prop}
structure WS (_:WEnv N B b fv nv rel) (out:List UInt8) (st:σ) (w:À):Prop where
 wr:WrAt B b fv nv out w
 rel:rel w st out
def bG (E:WEnv N B b fv nv rel) (out:List UInt8) (st:σ) (w:À) (e:Ending) (w':À):Prop:=e=.returned (.tuple #[])/\WS E out st w'/\Ch (wM B b) w w'
variable {E:WEnv N B b fv nv rel} {out:List UInt8} {st:σ} {w w':À}
def WS.bel (h:WS E out st w) (hb:Below w w w'):WS E out st w':=⟨h.wr.bel hb,E.keep _ _ _ _ h.rel (Ch.of_below hb)⟩
def WS.next {o2:List UInt8} (h:WS E out st w) (hw:WrAt B b fv nv (out++o2) w') (hc:Ch (wMay B b) w w'):WS E (out++o2) st w':=⟨hw,E.mono _ _ _ _ (E.keep _ _ _ _ h.rel hc) Θ⟩
def eG {n:Int} (h:WS E out st w) (h1:i64 n) (hlen:out<=wTop):Calls prog 29 #[b,n] w (bG E (out++numB n) st w):=
 (qN h.wr h1.1 h1.2 (by unfold wTop at hlen;omega)).mono λ_ _ ⟨he,hw,hc⟩=>⟨he,h.next hw hc,hc.wM⟩
def jX {n:Int} (h:WS E out st w) (h1:i64 n) (hlen:out<=wTop):Calls prog 120 #[b,n] w (bG E (out++intB n) st w):=
 (wint_at h.wr h1.1 h1.2 (by unfold wTop at hlen;omega)).mono λ_ _ ⟨he,hw,hc⟩=>⟨he,h.next hw hc,hc.wM⟩
def iy {s:Ê} (h:WS E out st w) (hlen:out<=wTop) (hs:s.size<=wTop):Calls prog 64 #[b,s] w (bG E (out++aM s) st w):=
 (sm h.wr (by unfold wTop at hlen hs;omega)).mono λ_ _ ⟨he,hw,hc⟩=>⟨he,h.next hw hc,hc.wM⟩
variable {cs:Array Value}
def ax (h:WS E out st w) (hc:Ch (wM B b) w w') {g:Nat} {t:TypeId} (hg:Hs w g t cs) (hb:g≠b) (ht:(t==5||(t==3||t==104))=false):Hs w' g t cs:=
 hc.block _ _ hg λhm=>by
  rcases hm.2 with h|h
  ·exact hb h
  rw[show wTag (Obj.cells cs t (0,0))=(t==5||(t==3||t==104)) from rfl,ht] at h;exact absurd h Θ
def nG {g:Nat} {t:TypeId} (hg:Hs w g t cs) (hb:g≠b) (ht:(t==5||(t==3||t==104))=false):uo (wM B b) w g:=
 ⟨_,hg,λhm=>by
  rcases hm.2 with h|h
  ·exact hb h
  rw[show wTag (Obj.cells cs t (0,0))=(t==5||(t==3||t==104)) from rfl,ht] at h;exact absurd h Θ⟩
end
def mX {b:Nat} {fv nv:Value} {l:List UInt8} {w:À} (h:WrAt B b fv nv l w) (h0:l≠[]):
 Calls prog 30 #[b] w λe w'=>e=.returned (.string ⟨l.toArray⟩)/\Below B w w':=by
 obtain⟨M,L,D,v,y,F,d,k⟩:=h;have i:l.length≠0:=by simpa using h0
 obtain⟨g,cap,a,rfl,z,G,H,u,t,f⟩:∃g cap a,v=.slice (some ⟨g,0,none⟩) l.length cap/\B<=g/\w.heap[g]?=some (.cells a 5 (0,0))/\l.length<=cap/\cap<=maxLen/\a.size=cap*1/\a.toList.take (l.length*1)=Lib.byteCells l:=by
  rcases d.2 with ⟨_,hz⟩|⟨g,cap,a,hv,r⟩
  ·exact absurd hz i
  exact⟨g,cap,a,hv,r⟩
 have N:w.drew.cell? ⟨b,1,none⟩=some (.slice (some ⟨g,0,none⟩) l.length cap):=by
  have:w.drew.heap[b]?=some (.cells #[D,.slice (some ⟨g,0,none⟩) l.length cap,fv,nv] 84 (0,0)):=y;rw[Lib.cell_of_heap this];rfl
 have J:(Builtin.unsafeSliceData_ #[78] 143 #[.slice (some ⟨g,0,none⟩) l.length cap]).run prog w.drew=.ok (.pointer (some ⟨g,0,none⟩)) w.drew:=
  Lib.run_unsafeSliceData_row _ _ _ _ _ _ ω
 have I:(Builtin.unsafeString_ #[143,3] 9 #[.pointer (some ⟨g,0,none⟩),.int .i64 l.length]).run prog w.drew=.ok (.string ⟨l.toArray⟩) (w.drew.freeze ⟨g,0,none⟩ l.length):=by
  refine Lib.run_unsafeString_row w.drew 143 3 9 5 underlying143 Δ g a.size (by have q:w.drew.heap[g]?=some (.cells a 5 (0,0)):=G;simp[World.shape?,q]) l h0 ω (by unfold maxLen at u;omega) ?_;intro j x E;have:=d.cells (g:=g) rfl j (.int .u8 x.toNat) (by simp[Lib.byteCells,E]);exact this
 have A:prog.follows Departure.mixedOrders=true:=by kernel_rfl
 go_in;go_wp2;go_region_o;all_goals (go_wp2;go_ret;exact⟨rfl,Lib.below_freeze (Below.drew (Below.refl B w)) (p:=⟨g,0,none⟩) z _⟩)
def kG (w:À):Calls prog 19 #[] w λe w'=>e=.returned (w:Vl)/\WrAt w w (.func (.func 62) #[] #[]) (.func (.func 63) #[] #[]) [] w'/\Below w w w':=by
 have a:=η (Hs.new w 84 #[.pointer none,(),.func (.func 62) #[] #[],.func (.func 63) #[] #[]]);go_in;go_wp2;go_ret;exact⟨rfl,⟨υ _,by simp,_,_,a,.inl rfl,⟨rfl,.inl ⟨rfl,rfl⟩⟩,by simp[Value.ownBlock]⟩,ζ1⟩
def iY (B b:Nat):WEnv nm0N B b (.func (.func 62) #[] #[]) (.func (.func 63) #[] #[]) (λ_ _ _=>True) where
 keep _ _ _ _ _ _:=trivial
 mono _ _ _ _ _ _:=trivial
 num:=⟨62,#[],rfl,(λa W'=>by kernel_rfl),λw st n k out hn _ hw _=>by
  obtain⟨HW,HN⟩:=zd2 hw hn
  go_in
  go_wp2
  go_ret
  exact⟨rfl,HN,HW,trivial,Ch.refl _ _⟩⟩
 nam:=⟨63,#[],rfl,(λa W'=>by kernel_rfl),λw st s k out hn _ hw _=>by
  have HW:=η hw
  go_in
  go_wp2
  go_end0
  exact⟨rfl,HW,trivial,Ch.refl _ _⟩⟩
variable {σ:Type} {N:Nm σ} {B b:Nat} {fv nv:Value} {rel:À->σ->Nat->Prop} {E:WEnv N B b fv nv rel} {out:List UInt8} {st:σ} {w:À}
def CapW (B b g:Nat) (w:À):Prop:=uo (wM B b) w g/\w.cell? g=some (b:Vl)
def CapW.to {b g:Nat} {w w':À} (h:CapW B b g w) (hc:Ch (wM B b) w w'):CapW B b g w':=⟨(hc.sub g h.1).1,(hc.cell h.1 0).trans h.2⟩
def ld (E:WEnv N B b fv nv rel) {α:Type} (f:σ->α->List UInt8×σ) (out:List UInt8) (st:σ) (l:List α) (j:Nat) (w wr:À):Prop:=∃o2 st2,wAll f st l=(o2++(wAll f st2 (l.drop j)).1,(wAll f st2 (l.drop j)).2)/\WS E (out++(numB (l.length:Nat)++o2)) st2 wr/\Ch (wM B b) w wr
section
variable {α:Type} {f:σ->α->List UInt8×σ} {l:List α} {j:Nat} {o2:List UInt8} {st2:σ}
def fA (h:wAll f st l=(o2++(wAll f st2 (l.drop j)).1,(wAll f st2 (l.drop j)).2)) (hj:j<l):wAll f st l=((o2++(f st2 l[j]).1)++(wAll f (f st2 l[j]).2 (l.drop (j+1))).1,(wAll f (f st2 l[j]).2 (l.drop (j+1))).2):=by
 rw[h,bk hj,wAll,χ]
def dZ (h:wAll f st l=(o2++(wAll f st2 (l.drop j)).1,(wAll f st2 (l.drop j)).2)) (hj:j<l) (hv:(ah f st l).1=numB (l.length:Nat)++(wAll f st l).1) (hl:out.length+(ah f st l).1.length<=wTop):(out++(numB (l.length:Nat)++o2)).length+(f st2 l[j]).1.length<=wTop:=by
 rw[hv,h,bk hj,wAll] at hl;simp only[μ] at hl ⊢;omega
def ec (h:wAll f st l=(o2++(wAll f st2 (l.drop j)).1,(wAll f st2 (l.drop j)).2)) (hj:¬j<l):wAll f st l=(o2,st2):=by
 rw[h,ε ω,wAll,List.append_nil]
end
variable {A:Option Addr}
def tys_at2 {w:À} {P:Nat->Prop} {n cap:Nat} {l:List Ty} (h:TysR w P (.slice A n cap) l) (hi:i<l):
 ∃g off k s a B c,A=some ⟨g,off,none⟩/\P g/\w.cell? ⟨g,off+i*3,none⟩=some (.int .i64 k)/\w.cell? ⟨g,off+i*3+1,none⟩=some (.string s)/\w.cell? ⟨g,off+i*3+2,none⟩=some (.slice B a c)/\TyR w P [.int .i64 k,.string s,.slice B a c] l[i]/\True:=by
 obtain⟨g,off,k,s,a,B,c,e,d,-,p,j,f,b⟩:=cS h hi;exact⟨g,off,k,s,_,B,c,e,d,p,j,f,b,trivial⟩
def BP {w:À} {P:Nat->Prop} {n cap:Nat} {l:List Ex} (h:ExsR w P (.slice A n cap) l) (hi:i<l):
 ∃g off o x m s a B c,A=some ⟨g,off,none⟩/\P g/\w.cell? ⟨g,off+i*5,none⟩=some (.int .i64 o)/\w.cell? ⟨g,off+i*5+1,none⟩=some (.int .i64 x)/\w.cell? ⟨g,off+i*5+2,none⟩=some (.int .i64 m)/\w.cell? ⟨g,off+i*5+3,none⟩=some (.string s)/\w.cell? ⟨g,off+i*5+4,none⟩=some (.slice B a c)/\ExR w P [.int .i64 o,.int .i64 x,.int .i64 m,.string s,.slice B a c] l[i]/\True:=by
 obtain⟨g,off,o,x,m,s,a,B,c,e,d,-,q,p,k,j,f,b⟩:=aQ h hi;exact⟨g,off,o,x,m,s,_,B,c,e,d,q,p,k,j,f,b,trivial⟩
set_option maxRecDepth 1000000 in
def zfWlS {p:Prop} (h:p:=by
 have lm:=HR.le9;have D:=η HR;have v:=η HC
 first
  | (first|guard_hyp kk3:True|guard_hyp kk4:True)
    obtain⟨HS,y,HG⟩:=zd3 hs hlen hgc
  | obtain⟨HS,y⟩:=zd2 hs hlen
 have U:Hid ((ah f st l).1=numB (l.length:Nat)++(wAll f st l).1/\(ah f st l).2=(wAll f st l).2):=⟨rfl,rfl⟩
 first
  | guard_hyp kk2:True
    go_in
  | guard_hyp kk4:True
    go_in
  | guard_hyp kk0:True
    go_in
  | guard_hyp kk1:True
    go_in
  | go_in
 go_wp2_with (go_at_call 29;refine (eG HS Ψ (by have:=y.o;omega)).mono ?_;rintro e1 w1 ⟨rfl,L,N⟩);obtain⟨ac,ag⟩:=zd2 L N;go_loopw [14] (λi wr=>∃j:Nat,j<=l/\i=.int .i64 j/\Hid (ld E f out st l j w wr)) (λi _=>l.length-(intOf i).toNat)
 case atStart=>exact⟨0,ω,rfl,[],st,by simp,by simpa using ac.o,ag⟩
 case round =>
  obtain⟨j,hj,rfl,⟨o2,st2,hq,J,M⟩⟩:=hrel;obtain⟨V,p,d⟩:=zd3 hq J M;by_cases hlt:j<l
  ·have Y:=zT j l;have i1:(0:Int)<=(j:Int):=ω;have i2:(j:Int)<(l.length:Int):=ω
   first
    | guard_hyp kk4:True
      obtain⟨g,off,X,T,rfl,-,H,G,e,-⟩:=ew (SlR.to' D d.sub (λ_ _ x=>x.to d.sub)) hlt
    | guard_hyp kk3:True
      obtain⟨g,off,k1,O,a1,X,T,rfl,-,H,G,R,Z,e,-⟩:=pk (SlR.to' D d.sub (λ_ _ x=>x.to d.sub)) hlt
    | guard_hyp kk0:True
      obtain⟨g,off,k1,O,a1,X,T,rfl,-,H,G,R,e,-⟩:=tys_at2 (SlR.to' D d.sub (λ_ _ x=>x.to d.sub)) hlt
    | guard_hyp kk1:True
      obtain⟨g,off,o1,x1,m1,O,a1,X,T,rfl,-,H,G,R,Z,p4,e,-⟩:=BP (SlR.to' D d.sub (λ_ _ x=>x.to d.sub)) hlt
    | obtain⟨g,off,o1,x1,m1,O,Y,y1,t1,e1,z1,D0,d0,D1,d1,D2,d2,D3,d3,rfl,-,H,G,R,Z,p4,p5,p6,p7,p8,e,-⟩:=qU (SlR.to' D d.sub (λ_ _ x=>x.to d.sub)) hlt
   obtain⟨z,ae,u⟩:=zd3 e (fA V hlt) (dZ V hlt U.1 y)
   first
    | guard_hyp kk0:True
      go_wp2_with (go_at_call 68;refine (v j hlt _ _ _ _ (z.to (Ch.of_below ζ1).sub) (p.bel ζ1) u).mono ?_;rintro I F ⟨rfl,r,t⟩)
    | guard_hyp kk1:True
      go_wp2_with (go_at_call 69;refine (v j hlt _ _ _ _ (z.to (Ch.of_below ζ1).sub) (p.bel ζ1) u).mono ?_;rintro I F ⟨rfl,r,t⟩)
    | guard_hyp kk2:True
      go_wp2_with (go_at_call 75;refine (v j hlt _ _ _ _ (z.to (Ch.of_below ζ1).sub) (p.bel ζ1) u).mono ?_;rintro I F ⟨rfl,r,t⟩)
    | guard_hyp kk4:True
      go_wp2_with (go_at_call 66;refine (v j hlt _ _ _ _ (HG.to (d.bel ζ1)) (z.to (Ch.of_below ζ1).sub) (p.bel ζ1) u).mono ?_;rintro I F ⟨rfl,r,t⟩)
    | go_wp2_with (go_at_call 118;refine (v j hlt _ _ _ _ (HG.to (d.bel ζ1)) (z.to (Ch.of_below ζ1).sub) (p.bel ζ1) u).mono ?_;rintro I F ⟨rfl,r,t⟩)
   exact⟨⟨j+1,ω,by go_num,_,_,ae,by simpa only[χ] using r,(d.bel ζ1).trans t⟩,by simp[intOf];omega⟩
  have Y:=zF j l;have HE:=η (ec V hlt);go_wp2;go_end0;refine⟨rfl,?_,d⟩;rw[U.o.1,U.o.2,HE.o];exact p) :p:=h
variable {q:Nat}
def wl_119 {f:σ->Ty->List UInt8×σ} {l:List Ty} (HR:SlR w (uo (wM B b) w) 3 (TyR w (uo (wM B b) w)) (.slice A l q) l) (hs:WS E out st w) (hlen:out.length+(ah f st l).1.length<=wTop) (HC:∀(i:Nat) (hi:i<l) (cs:List Value) (W:À) (st:σ) (out:List UInt8),TyR W (uo (wM B b) W) cs l[i]->WS E out st W->out.length+(f st l[i]).1.length<=wTop->Calls prog 68 #[b,cs.toArray] W (bG E (out++(f st l[i]).1) (f st l[i]).2 W)):
 Calls prog 119 #[b,.slice A l q,(.func (.func 68) #[b] #[])] w (bG E (out++(ah f st l).1) (ah f st l).2 w):=by
 have kk0:=trivial;exact zfWlS
def wl_121 {f:σ->Ex->List UInt8×σ} {l:List Ex} (HR:SlR w (uo (wM B b) w) 5 (ExR w (uo (wM B b) w)) (.slice A l q) l) (hs:WS E out st w) (hlen:out.length+(ah f st l).1.length<=wTop) (HC:∀(i:Nat) (hi:i<l) (cs:List Value) (W:À) (st:σ) (out:List UInt8),ExR W (uo (wM B b) W) cs l[i]->WS E out st W->out.length+(f st l[i]).1.length<=wTop->Calls prog 69 #[b,cs.toArray] W (bG E (out++(f st l[i]).1) (f st l[i]).2 W)):
 Calls prog 121 #[b,.slice A l q,(.func (.func 69) #[b] #[])] w (bG E (out++(ah f st l).1) (ah f st l).2 w):=by
 have kk1:=trivial;exact zfWlS
def wl_74 {f:σ->St->List UInt8×σ} {l:List St} (HR:SlR w (uo (wM B b) w) 9 (StR w (uo (wM B b) w)) (.slice A l q) l) (hs:WS E out st w) (hlen:out.length+(ah f st l).1.length<=wTop) (HC:∀(i:Nat) (hi:i<l) (cs:List Value) (W:À) (st:σ) (out:List UInt8),StR W (uo (wM B b) W) cs l[i]->WS E out st W->out.length+(f st l[i]).1.length<=wTop->Calls prog 75 #[b,cs.toArray] W (bG E (out++(f st l[i]).1) (f st l[i]).2 W)):
 Calls prog 74 #[b,.slice A l q,(.func (.func 75) #[b] #[])] w (bG E (out++(ah f st l).1) (ah f st l).2 w):=by
 have kk2:=trivial;exact zfWlS
variable {gc:Nat}
def wl_117 {f:σ->Fld->List UInt8×σ} {l:List Fld} (HR:SlR w (uo (wM B b) w) 4 (FldR w (uo (wM B b) w)) (.slice A l q) l) (hs:WS E out st w) (hgc:CapW B b gc w) (hlen:out.length+(ah f st l).1.length<=wTop) (HC:∀(i:Nat) (hi:i<l) (cs:List Value) (W:À) (st:σ) (out:List UInt8),CapW B b gc W->FldR W (uo (wM B b) W) cs l[i]->WS E out st W->out.length+(f st l[i]).1.length<=wTop->Calls prog 118 #[cs.toArray,gc] W (bG E (out++(f st l[i]).1) (f st l[i]).2 W)):
 Calls prog 117 #[b,.slice A l q,(.func (.func 118) #[] #[gc])] w (bG E (out++(ah f st l).1) (ah f st l).2 w):=by
 have kk3:=trivial;exact zfWlS
def wl_65 {f:σ->Ctr->List UInt8×σ} {l:List Ctr} (HR:SlR w (uo (wM B b) w) 2 (CtrR w (uo (wM B b) w)) (.slice A l q) l) (hs:WS E out st w) (hgc:CapW B b gc w) (hlen:out.length+(ah f st l).1.length<=wTop) (HC:∀(i:Nat) (hi:i<l) (cs:List Value) (W:À) (st:σ) (out:List UInt8),CapW B b gc W->CtrR W (uo (wM B b) W) cs l[i]->WS E out st W->out.length+(f st l[i]).1.length<=wTop->Calls prog 66 #[cs.toArray,gc] W (bG E (out++(f st l[i]).1) (f st l[i]).2 W)):
 Calls prog 65 #[b,.slice A l q,(.func (.func 66) #[] #[gc])] w (bG E (out++(ah f st l).1) (ah f st l).2 w):=by
 have kk4:=trivial;exact zfWlS
variable {σ:Type} {N:Nm σ} {B b:Nat} {fv nv:Value} {rel:À->σ->Nat->Prop} {E:WEnv N B b fv nv rel} {out:List UInt8} {st:σ} {w:À}
set_option maxRecDepth 1000000 in
def zfWlT {p:Prop} (h:p:=by
 have lm:=HR.le9;have y:=η HR;have r:=η HC
 first
  | (first|guard_hyp kk2:True|guard_hyp kk3:True|guard_hyp kk4:True)
    obtain⟨HS,u⟩:=zd2 hs hlen
  | obtain⟨HS,u,Y⟩:=zd3 hs hlen hgc
 have V:Hid ((ah f st l).1=numB (l.length:Nat)++(wAll f st l).1/\(ah f st l).2=(wAll f st l).2):=⟨rfl,rfl⟩
 first
  | guard_hyp kk0:True
    go_in
  | guard_hyp kk1:True
    go_in
  | guard_hyp kk2:True
    go_in
  | guard_hyp kk3:True
    go_in
  | guard_hyp kk4:True
    go_in
  | go_in
 go_wp2_with (go_at_call 29;refine (eG HS Ψ (by have:=u.o;omega)).mono ?_;rintro e1 w1 ⟨rfl,N,R⟩);obtain⟨ai,al⟩:=zd2 N R;go_loopw [14] (λi wr=>∃j:Nat,j<=l/\i=.int .i64 j/\Hid (ld E f out st l j w wr)) (λi _=>l.length-(intOf i).toNat)
 case atStart=>exact⟨0,ω,rfl,[],st,by simp,by simpa using ai.o,al⟩
 case round =>
  obtain⟨j,hj,rfl,⟨o2,ay,hq,M,O⟩⟩:=hrel;obtain⟨X,e,a⟩:=zd3 hq M O;by_cases hlt:j<l
  ·have u1:=zT j l;have i1:(0:Int)<=(j:Int):=ω;have i2:(j:Int)<(l.length:Int):=ω
   first
    | guard_hyp kk2:True
      obtain⟨g,t,J,I,rfl,-,G,F,D,d,-⟩:=fF (SlR.to' y a.sub (λ_ _ x=>x.to a.sub)) hlt
    | guard_hyp kk1:True
      obtain⟨g,t,Z,U,J,I,rfl,-,G,F,D,L,d,-⟩:=lG (SlR.to' y a.sub (λ_ _ x=>x.to a.sub)) hlt
    | guard_hyp kk3:True
      obtain⟨g,t,Z,U,k1,s1,a1,J,I,rfl,-,G,F,D,L,T,d,-⟩:=jC (SlR.to' y a.sub (λ_ _ x=>x.to a.sub)) hlt
    | guard_hyp kk5:True
      obtain⟨g,t,Z,U,J,I,B2,c2,rfl,-,G,F,D,L,T,p5,p6,d,-⟩:=fR (SlR.to' y a.sub (λ_ _ x=>x.to a.sub)) hlt
    | guard_hyp kk0:True
      obtain⟨g,t,k1,s1,a1,J,I,o1,x1,m1,r1,e1,D1,d1,rfl,-,G,F,D,L,T,p5,p6,p7,p8,d,-⟩:=ku (SlR.to' y a.sub (λ_ _ x=>x.to a.sub)) hlt
    | obtain⟨g,t,Z,U,k1,s1,a1,J,I,o1,x1,m1,r1,e1,D1,d1,rfl,-,G,F,D,L,T,p5,p6,p7,p8,p9,az,d,-⟩:=jd (SlR.to' y a.sub (λ_ _ x=>x.to a.sub)) hlt
   obtain⟨v,ak,p⟩:=zd3 d (fA X hlt) (dZ X hlt V.1 u)
   first
    | guard_hyp kk2:True
      go_wp2_with (go_at_call 21;refine (r j hlt _ _ _ _ (v.to (Ch.of_below ζ1).sub) (e.bel ζ1) p).mono ?_;rintro H z ⟨rfl,h,k⟩)
    | guard_hyp kk3:True
      go_wp2_with (go_at_call 23;refine (r j hlt _ _ _ _ (v.to (Ch.of_below ζ1).sub) (e.bel ζ1) p).mono ?_;rintro H z ⟨rfl,h,k⟩)
    | guard_hyp kk4:True
      go_wp2_with (go_at_call 25;refine (r j hlt _ _ _ _ (v.to (Ch.of_below ζ1).sub) (e.bel ζ1) p).mono ?_;rintro H z ⟨rfl,h,k⟩)
    | guard_hyp kk0:True
      go_wp2_with (go_at_call 71;refine (r j hlt _ _ _ _ (Y.to (a.bel ζ1)) (v.to (Ch.of_below ζ1).sub) (e.bel ζ1) p).mono ?_;rintro H z ⟨rfl,h,k⟩)
    | guard_hyp kk1:True
      go_wp2_with (go_at_call 73;refine (r j hlt _ _ _ _ (Y.to (a.bel ζ1)) (v.to (Ch.of_below ζ1).sub) (e.bel ζ1) p).mono ?_;rintro H z ⟨rfl,h,k⟩)
    | go_wp2_with (go_at_call 27;refine (r j hlt _ _ _ _ (Y.to (a.bel ζ1)) (v.to (Ch.of_below ζ1).sub) (e.bel ζ1) p).mono ?_;rintro H z ⟨rfl,h,k⟩)
   exact⟨⟨j+1,ω,by go_num,_,_,ak,by simpa only[χ] using h,(a.bel ζ1).trans k⟩,by simp[intOf];omega⟩
  have u1:=zF j l;have HE:=η (ec X hlt);go_wp2;go_end0;refine⟨rfl,?_,a⟩;rw[V.o.1,V.o.2,HE.o];exact e) :p:=h
def wl_70 {f:σ->Vr->List UInt8×σ} {l:List Vr} (HR:SlR w (uo (wM B b) w) 9 (VrR w (uo (wM B b) w)) (.slice A l q) l) (hs:WS E out st w) (hgc:CapW B b gc w) (hlen:out.length+(ah f st l).1.length<=wTop) (HC:∀(i:Nat) (hi:i<l) (cs:List Value) (W:À) (st:σ) (out:List UInt8),CapW B b gc W->VrR W (uo (wM B b) W) cs l[i]->WS E out st W->out.length+(f st l[i]).1.length<=wTop->Calls prog 71 #[cs.toArray,gc] W (bG E (out++(f st l[i]).1) (f st l[i]).2 W)):
 Calls prog 70 #[b,.slice A l q,(.func (.func 71) #[] #[gc])] w (bG E (out++(ah f st l).1) (ah f st l).2 w):=by
 have kk0:=trivial;exact zfWlT
def wl_72 {f:σ->Hd->List UInt8×σ} {l:List Hd} (HR:SlR w (uo (wM B b) w) 4 (HdR w (uo (wM B b) w)) (.slice A l q) l) (hs:WS E out st w) (hgc:CapW B b gc w) (hlen:out.length+(ah f st l).1.length<=wTop) (HC:∀(i:Nat) (hi:i<l) (cs:List Value) (W:À) (st:σ) (out:List UInt8),CapW B b gc W->HdR W (uo (wM B b) W) cs l[i]->WS E out st W->out.length+(f st l[i]).1.length<=wTop->Calls prog 73 #[cs.toArray,gc] W (bG E (out++(f st l[i]).1) (f st l[i]).2 W)):
 Calls prog 72 #[b,.slice A l q,(.func (.func 73) #[] #[gc])] w (bG E (out++(ah f st l).1) (ah f st l).2 w):=by
 have kk1:=trivial;exact zfWlT
def wl_20 {f:σ->Dcl->List UInt8×σ} {l:List Dcl} (HR:SlR w (uo (wM B b) w) 3 (DclR w (uo (wM B b) w)) (.slice A l q) l) (hs:WS E out st w) (hlen:out.length+(ah f st l).1.length<=wTop) (HC:∀(i:Nat) (hi:i<l) (cs:List Value) (W:À) (st:σ) (out:List UInt8),DclR W (uo (wM B b) W) cs l[i]->WS E out st W->out.length+(f st l[i]).1.length<=wTop->Calls prog 21 #[b,cs.toArray] W (bG E (out++(f st l[i]).1) (f st l[i]).2 W)):
 Calls prog 20 #[b,.slice A l q,(.func (.func 21) #[b] #[])] w (bG E (out++(ah f st l).1) (ah f st l).2 w):=by
 have kk2:=trivial;exact zfWlT
def wl_22 {f:σ->Eff->List UInt8×σ} {l:List Eff} (HR:SlR w (uo (wM B b) w) 5 (EffR w (uo (wM B b) w)) (.slice A l q) l) (hs:WS E out st w) (hlen:out.length+(ah f st l).1.length<=wTop) (HC:∀(i:Nat) (hi:i<l) (cs:List Value) (W:À) (st:σ) (out:List UInt8),EffR W (uo (wM B b) W) cs l[i]->WS E out st W->out.length+(f st l[i]).1.length<=wTop->Calls prog 23 #[b,cs.toArray] W (bG E (out++(f st l[i]).1) (f st l[i]).2 W)):
 Calls prog 22 #[b,.slice A l q,(.func (.func 23) #[b] #[])] w (bG E (out++(ah f st l).1) (ah f st l).2 w):=by
 have kk3:=trivial;exact zfWlT
def wl_24 {f:σ->Fn->List UInt8×σ} {l:List Fn} (HR:SlR w (uo (wM B b) w) 11 (FnR w (uo (wM B b) w)) (.slice A l q) l) (hs:WS E out st w) (hlen:out.length+(ah f st l).1.length<=wTop) (HC:∀(i:Nat) (hi:i<l) (cs:List Value) (W:À) (st:σ) (out:List UInt8),FnR W (uo (wM B b) W) cs l[i]->WS E out st W->out.length+(f st l[i]).1.length<=wTop->Calls prog 25 #[b,cs.toArray] W (bG E (out++(f st l[i]).1) (f st l[i]).2 W)):
 Calls prog 24 #[b,.slice A l q,(.func (.func 25) #[b] #[])] w (bG E (out++(ah f st l).1) (ah f st l).2 w):=by
 have kk4:=trivial;exact zfWlT
def wl_26 {f:σ->Ac->List UInt8×σ} {l:List Ac} (HR:SlR w (uo (wM B b) w) 7 (AcR w (uo (wM B b) w)) (.slice A l q) l) (hs:WS E out st w) (hgc:CapW B b gc w) (hlen:out.length+(ah f st l).1.length<=wTop) (HC:∀(i:Nat) (hi:i<l) (cs:List Value) (W:À) (st:σ) (out:List UInt8),CapW B b gc W->AcR W (uo (wM B b) W) cs l[i]->WS E out st W->out.length+(f st l[i]).1.length<=wTop->Calls prog 27 #[cs.toArray,gc] W (bG E (out++(f st l[i]).1) (f st l[i]).2 W)):
 Calls prog 26 #[b,.slice A l q,(.func (.func 27) #[] #[gc])] w (bG E (out++(ah f st l).1) (ah f st l).2 w):=by
 have kk5:=trivial;exact zfWlT
end
