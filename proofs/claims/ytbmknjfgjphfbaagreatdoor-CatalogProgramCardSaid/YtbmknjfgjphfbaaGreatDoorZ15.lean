import Derived.Test.YtbmknjfgjphfbaaGreatDoorZ14
set_option linter.all false
namespace Go.Proofs.YtbmknjfgjphfbaaGreatDoor
set_option maxRecDepth 100000
set_option maxHeartbeats 8000000
end Go.Proofs.YtbmknjfgjphfbaaGreatDoor
set_option synthInstance.maxSize 8000
set_option synthInstance.maxHeartbeats 800000
set_option linter.unusedVariables false
namespace Go.Proofs.YtbmknjfgjphfbaaGreatDoor
def mvT (φ:Int→Int) (t:Tk):Tk:={ t with pos:=φ t.pos }
mutual
def Nd.mv (φ:Int→Int):Nd→Nd
 | .mk k s n p l=>.mk k s n (φ p) (mvL φ l)
def mvL (φ:Int→Int):List Nd→List Nd
 | []=>[]
 | a::l=>a.mv φ::mvL φ l
end
theorem mvL_app (φ:Int→Int):∀a b,mvL φ (a++b)=mvL φ a++mvL φ b
 | [],b=>by simp[mvL]
 | x::a,b=>by simp[mvL,mvL_app φ a b]
class Mv (α:Type) where
 mv:(Int→Int)→α→α
instance:Mv Nd:=⟨Nd.mv⟩
instance:Mv (List Nd):=⟨mvL⟩
instance:Mv Ê:=⟨fun _ s=>s⟩
instance:Mv Int:=⟨fun _ s=>s⟩
instance:Mv Unit:=⟨fun _ s=>s⟩
def declWords:List (List UInt8):=[[114,101,99,111,114,100],[118,97,114,105,97,110,116],[101,102,102,101,99,116],[102,117,110],[97,99,116,111,114],[99,111,110,118,101,114,116],[109,111,118,101],[100,114,111,112]]
def declW (l:List UInt8):Bool:=declWords.contains l
class Al (φ:Int→Int) (us vs:List Tk) (b:Bool):Prop where
 h:(b=true∧((us=[]∧vs=[])∨∃t u v,us=t::u∧vs=mvT φ t::v))∨(b=false∧us=[]∧∃t v,vs=t::v∧t.kind=1∧declW t.text.data.toList=true)
class Le (n n':Nat):Prop where
 h:n≤n'
class EqS (s s':Ê):Prop where
 h:s'=s
class EqI (s s':Int):Prop where
 h:s'=s
class Iff' (c c':Prop):Prop where
 h:c↔c'
class ND (w:List UInt8):Prop where
 h:declW w=false
instance:ND [44]:=⟨by decide⟩
instance:ND [40]:=⟨by decide⟩
instance:ND [123]:=⟨by decide⟩
instance:ND [46]:=⟨by decide⟩
instance:ND [119,105,116,104]:=⟨by decide⟩
instance:ND [111,110]:=⟨by decide⟩
instance:ND [101,108,115,101]:=⟨by decide⟩
instance:ND [101,115,99,97,108,97,116,101]:=⟨by decide⟩
instance:ND [114,101,115,116,97,114,116]:=⟨by decide⟩
class Hw (t0 t0':List Tk):Prop where
 h:kd t0'=kd t0∧tx t0'=tx t0∧nm t0'=nm t0
section
variable (φ:Int→Int) (e e':Int) (us vs:List Tk) (b:Bool)
class Sim {α:Type} [Mv α] (m m':M α):Prop where
 h:∀ts,(∀a r,m (ts++us)=.ok a (r++us)→m' (ts.map (mvT φ)++vs)=.ok (Mv.mv φ a) (r.map (mvT φ)++vs))∧(b=true→∀r,m (ts++us)=.bad (r++us)→m' (ts.map (mvT φ)++vs)=.bad (r.map (mvT φ)++vs))
class EqP (p p':Int):Prop where
 h:p'=φ p
class EqN (a a':Nd):Prop where
 h:a'=a.mv φ
class EqL (a a':List Nd):Prop where
 h:a'=mvL φ a
class Dw {α:Type} (w:List UInt8) (n:M α):Prop where
 h:b=true∨declW w=false∨NE n
variable {φ e e' us vs b}
instance (w:List UInt8) {α:Type} (n:M α) [h:ND w]:Dw b w n:=⟨.inr (.inl h.h)⟩
instance (w:List UInt8) {α:Type} (n:M α) [h:NE n]:Dw b w n:=⟨.inr (.inr h)⟩
instance (s:Ê):EqS s (Mv.mv φ s):=⟨rfl⟩
instance (s:Ê):EqS s s:=⟨rfl⟩
instance (s:Int):EqI s (Mv.mv φ s):=⟨rfl⟩
instance (s:Int):EqI s s:=⟨rfl⟩
instance (s:Int):EqI (s+1) (Mv.mv φ s+1):=⟨rfl⟩
instance (c:Prop):Iff' c c:=⟨Iff.rfl⟩
instance (s:Ê) (w:List UInt8):Iff' ((s.data.toList==w)=true) (((Mv.mv φ s).data.toList==w)=true):=⟨Iff.rfl⟩
theorem Hw.wl {t0 t0':List Tk} (h:Hw t0 t0'):wl t0'=wl t0:=by unfold Proofs.YtbmknjfgjphfbaaGreatDoor.wl wrd;rw[h.h.1,h.h.2.1]
instance (t0 t0':List Tk) (w:List UInt8) [h:Hw t0 t0']:Iff' ((wl t0==w)=true) ((wl t0'==w)=true):=⟨by rw[h.wl]⟩
instance (t0 t0':List Tk) (w:List UInt8) (x:Bool) [h:Hw t0 t0']:Iff' ((wl t0==w&&x)=true) ((wl t0'==w&&x)=true):=⟨by rw[h.wl]⟩
instance (t0 t0':List Tk) [h:Hw t0 t0']:Iff' (lowB (wl t0)=true) (lowB (wl t0')=true):=⟨by rw[h.wl]⟩
instance (t0 t0':List Tk) (lv:Nat) [h:Hw t0 t0']:Iff' (levP (wl t0)=some lv) (levP (wl t0')=some lv):=⟨by rw[h.wl]⟩
instance (t:Tk) (r r':List Tk):Hw (t::r) (mvT φ t::r'):=⟨rfl,rfl,rfl⟩
instance:Hw [] []:=⟨rfl,rfl,rfl⟩
instance (t0 t0':List Tk) (k:Int) [h:Hw t0 t0']:Iff' (kd t0=k) (kd t0'=k):=⟨by rw[h.h.1]⟩
instance (t0 t0':List Tk) [h:Hw t0 t0']:EqS (tx t0) (tx t0'):=⟨h.h.2.1⟩
instance (t0 t0':List Tk) [h:Hw t0 t0']:EqI (nm t0) (nm t0'):=⟨h.h.2.2⟩
instance (t:Tk) (r r':List Tk):EqP φ (offP e (t::r)) (offP e' (mvT φ t::r')):=⟨rfl⟩
instance [h:EqP φ e e']:EqP φ (offP e []) (offP e' []):=h
instance (t0 t0':List Tk) [h:Hw t0 t0']:EqS (wrd t0) (wrd t0'):=⟨by unfold wrd;rw[h.h.1,h.h.2.1]⟩
instance (a:Nd):EqN φ a (Mv.mv φ a):=⟨rfl⟩
instance (k n n' p p':Int) (s s':Ê) (l l':List Nd) [hs:EqS s s'] [hn:EqI n n'] [hp:EqP φ p p'] [hl:EqL φ l l']:EqN φ (.mk k s n p l) (.mk k s' n' p' l'):=⟨by rw[hs.h,hn.h,hp.h,hl.h];rfl⟩
instance (l:List Nd):EqL φ l (Mv.mv φ l):=⟨rfl⟩
instance:EqL φ [] []:=⟨rfl⟩
instance (a a':Nd) (l l':List Nd) [ha:EqN φ a a'] [hl:EqL φ l l']:EqL φ (a::l) (a'::l'):=⟨by rw[ha.h,hl.h];rfl⟩
instance (a a' l l':List Nd) [ha:EqL φ a a'] [hl:EqL φ l l']:EqL φ (a++l) (a'++l'):=⟨by rw[ha.h,hl.h,mvL_app]⟩
instance (a a':Nd) (l l':List Nd) [ha:EqN φ a a'] [hl:EqL φ l l']:EqN φ (addK l a) (addK l' a'):=⟨by rw[ha.h,hl.h];cases a;simp[addK,Nd.mv,mvL_app]⟩
section
variable {α β:Type} [Mv α] [Mv β]
theorem app_inj {a c:List Tk} (h:a++us=c++us):a=c:=List.append_cancel_right h
theorem suf_app {q r:List Tk} (h:r++us <:+ q):∃r1,q=r1++us:=by
 obtain⟨x,hx⟩:=h
 exact⟨x++r,by rw[List.append_assoc,hx]⟩
theorem Sim.bd_ {m m':M α} {f f':α→M β} (hm:Sim φ us vs b m m') (hs:∀a,Suf (f a)) (hf:∀a,Sim φ us vs b (f a) (f' (Mv.mv φ a))):Sim φ us vs b (m >>= f) (m' >>= f'):=⟨fun ts=>by
 show (∀a r,(m (ts++us)).bd f=.ok a (r++us)→(m' _).bd f'=_)∧(b=true→∀r,(m (ts++us)).bd f=.bad (r++us)→(m' _).bd f'=_)
 cases hx:m (ts++us) with
 | out=>exact⟨fun _ _ h=>(by cases h),fun _ _ h=>(by cases h)⟩
 | bad q =>
  refine⟨fun _ _ h=>(by cases h),fun hb r h=>?_⟩
  have h:Re.bad q=Re.bad (r++us):=h
  injection h with h
  rw[((hm.h ts).2 hb r (by rw[hx,h]))];rfl
 | ok a q =>
  refine⟨fun c r h=>?_,fun hb r h=>?_⟩
  · have h:f a q=.ok c (r++us):=h
    obtain⟨r1,rfl⟩:=suf_app (((hs a).h q).1 _ _ h)
    rw[(hm.h ts).1 a r1 hx]
    exact ((hf a).h r1).1 c r h
  · have h:f a q=.bad (r++us):=h
    obtain⟨r1,rfl⟩:=suf_app (((hs a).h q).2 _ h)
    rw[(hm.h ts).1 a r1 hx]
    exact ((hf a).h r1).2 hb r h⟩
instance (m m':M α) (f f':α→M β) [hm:Sim φ us vs b m m'] [hs:∀a,Suf (f a)] [hf:∀a,Sim φ us vs b (f a) (f' (Mv.mv φ a))]:Sim φ us vs b (m >>= f) (m' >>= f'):=Sim.bd_ hm hs hf
theorem suf_tl {t:Tk} {u r:List Tk} (h:r++t::u <:+ u):False:=by
 have:=h.length_le
 simp at this
 omega
theorem wl_dec {t:Tk} {v:List Tk} (h:t.kind=1):wl (t::v)=t.text.data.toList:=by
 show (if t.kind=1∨t.kind=4 then t.text else e0).data.toList=_
 rw[if_pos (.inl h)]
theorem pure_sim {a a':α} (h:a'=Mv.mv φ a):Sim φ us vs b (pure a:M α) (pure a'):=⟨fun ts=>by
 refine⟨fun c r hh=>?_,fun hb r hh=>(by cases hh)⟩
 have hh:Re.ok a (ts++us)=.ok c (r++us):=hh
 injection hh with h1 h2
 rw[app_inj h2.symm,←h1,h];rfl⟩
instance (a a':Nd) [h:EqN φ a a']:Sim φ us vs b (pure a:M Nd) (pure a'):=pure_sim h.h
instance (a a':List Nd) [h:EqL φ a a']:Sim φ us vs b (pure a:M (List Nd)) (pure a'):=pure_sim h.h
instance (a a':Int) [h:EqI a a']:Sim φ us vs b (pure a:M Int) (pure a'):=pure_sim h.h
instance (m':M α):Sim φ us vs b (outP:M α) m':=⟨fun ts=>⟨fun _ _ h=>(by cases h),fun _ _ h=>(by cases h)⟩⟩
instance:Sim φ us vs b (failP:M α) failP:=⟨fun ts=>⟨fun _ _ h=>(by cases h),fun _ r h=>(by
 have h:Re.bad (α:=α) (ts++us)=.bad (r++us):=h
 injection h with h
 rw[app_inj h.symm];rfl)⟩⟩
theorem Sim.ite_ {c c':Prop} [Decidable c] [Decidable c'] {x x' y y':M α} (hc:c↔c') (hx:Sim φ us vs b x x') (hy:Sim φ us vs b y y'):Sim φ us vs b (if c then x else y) (if c' then x' else y'):=by
 by_cases h:c
 · rw[if_pos h,if_pos (hc.1 h)];exact hx
 · rw[if_neg h,if_neg (fun k=>h (hc.2 k))];exact hy
instance (c c':Prop) [Decidable c] [Decidable c'] (x x' y y':M α) [hc:Iff' c c'] [hx:Sim φ us vs b x x'] [hy:Sim φ us vs b y y']:Sim φ us vs b (if c then x else y) (if c' then x' else y'):=Sim.ite_ hc.h hx hy
variable [al:Al φ us vs b]
include al in
theorem al_cases {P:Prop} (h1:b=true→us=[]→vs=[]→P) (h2:b=true→∀t u v,us=t::u→vs=mvT φ t::v→P) (h3:b=false→us=[]→∀t v,vs=t::v→t.kind=1→declW t.text.data.toList=true→P):P:=by
 rcases al.h with ⟨hb,(⟨a,c⟩|⟨t,u,v,a,c⟩)⟩|⟨hb,a,t,v,c,d,f⟩
 · exact h1 hb a c
 · exact h2 hb t u v a c
 · exact h3 hb a t v c d f
omit al in
theorem next_pt {m m':M α} (hs:Suf m) (hm:Sim φ us vs b m m') (ts:List Tk):(∀a r,nextP m (ts++us)=.ok a (r++us)→nextP m' (ts.map (mvT φ)++vs)=.ok (Mv.mv φ a) (r.map (mvT φ)++vs))∧(b=true→∀r,nextP m (ts++us)=.bad (r++us)→nextP m' (ts.map (mvT φ)++vs)=.bad (r.map (mvT φ)++vs)):=by
 cases ts with
 | cons t r=>exact hm.h r
 | nil =>
  cases hu:us with
  | nil=>exact⟨fun _ _ h=>(by cases h),fun _ _ h=>(by cases h)⟩
  | cons t u =>
   refine⟨fun a r h=>?_,fun _ r h=>?_⟩
   · exact (suf_tl ((hs.h u).1 a _ h)).elim
   · exact (suf_tl ((hs.h u).2 _ h)).elim
include al in
theorem acc_sim {c:UInt8} {cs:List UInt8} {y y' n n':M α} (hs:Suf y) (hy:Sim φ us vs b y y') (hn:Sim φ us vs b n n') (hd:Dw b (c::cs) n):Sim φ us vs b (acc (c::cs) y n) (acc (c::cs) y' n'):=⟨fun ts=>by
 cases ts with
 | cons t r =>
  show (∀a q,(if wl (t::(r++us))==c::cs then y (r++us) else n (t::r++us))=.ok a (q++us)→(if wl (t::(r++us))==c::cs then y' (r.map (mvT φ)++vs) else n' ((t::r).map (mvT φ)++vs))=_)∧(b=true→∀q,(if wl (t::(r++us))==c::cs then y (r++us) else n (t::r++us))=.bad (q++us)→(if wl (t::(r++us))==c::cs then y' (r.map (mvT φ)++vs) else n' ((t::r).map (mvT φ)++vs))=_)
  split
  · exact hy.h r
  · exact hn.h (t::r)
 | nil =>
  refine al_cases (φ:=φ) (us:=us) (vs:=vs) (b:=b) (fun hb h1 h2=>?_) (fun hb t u v h1 h2=>?_) (fun hb h1 t v h2 h3 h4=>?_)
  · subst h1;subst h2;exact hn.h []
  · subst h1;subst h2
    show (∀a q,(if wl (t::u)==c::cs then y u else n (t::u))=.ok a (q++t::u)→(if wl (t::u)==c::cs then y' v else n' (mvT φ t::v))=_)∧(b=true→∀q,(if wl (t::u)==c::cs then y u else n (t::u))=.bad (q++t::u)→(if wl (t::u)==c::cs then y' v else n' (mvT φ t::v))=_)
    split
    · exact⟨fun a q h=>(suf_tl ((hs.h u).1 a _ h)).elim,fun _ q h=>(suf_tl ((hs.h u).2 _ h)).elim⟩
    · exact hn.h []
  · subst h1;subst h2
    refine⟨fun a q h=>?_,fun hb'=>?_⟩
    · have h:n []=.ok a (q++[]):=h
      rcases hd.h with hd|hd|hd
      · rw[hb] at hd;cases hd
      · have:(wl (t::v)==c::cs)=false:=by
         rw[wl_dec h3]
         cases hx:(t.text.data.toList==c::cs)
         · rfl
         · have:=(beq_iff_eq.1 hx);rw[this] at h4;rw[h4] at hd;cases hd
        show (if wl (t::v)==c::cs then y' v else n' (t::v))=_
        rw[this]
        exact (hn.h []).1 a q h
      · exact absurd h (hd.h a _)
    · rw[hb] at hb';cases hb'⟩
instance (c:UInt8) (cs:List UInt8) (y y' n n':M α) [hs:Suf y] [hy:Sim φ us vs b y y'] [hn:Sim φ us vs b n n'] [hd:Dw b (c::cs) n]:Sim φ us vs b (acc (c::cs) y n) (acc (c::cs) y' n'):=acc_sim hs hy hn hd
instance:Sim φ us vs b (pure ():M Unit) (pure ()):=pure_sim rfl
instance (c:UInt8) (cs:List UInt8):Sim φ us vs b (expect (c::cs)) (expect (c::cs)):=(inferInstance:Sim φ us vs b (acc (c::cs) (pure ():M Unit) failP) (acc (c::cs) (pure ()) failP))
include al in
theorem look_sim {f f':List Tk→M α} (hn:NE (f [])) (h1:∀t r r',Sim φ us vs b (f (t::r)) (f' (mvT φ t::r'))) (h2:Sim φ us vs b (f []) (f' [])):Sim φ us vs b (look f) (look f'):=⟨fun ts=>by
 show (∀a r,f (ts++us) (ts++us)=_→f' (ts.map (mvT φ)++vs) (ts.map (mvT φ)++vs)=_)∧(b=true→∀r,f (ts++us) (ts++us)=_→f' (ts.map (mvT φ)++vs) (ts.map (mvT φ)++vs)=_)
 cases ts with
 | cons t r=>exact (h1 t _ _).h (t::r)
 | nil =>
  refine al_cases (φ:=φ) (us:=us) (vs:=vs) (b:=b) (fun hb g1 g2=>?_) (fun hb t u v g1 g2=>?_) (fun hb g1 t v g2 g3 g4=>?_)
  · subst g1;subst g2;exact h2.h []
  · subst g1;subst g2;exact (h1 t u v).h []
  · subst g1
    exact⟨fun a r h=>absurd h (hn.h a _),fun hb'=>by rw[hb] at hb';cases hb'⟩⟩
instance (f f':List Tk→M α) [hn:NE (f [])] [h1:∀t r r',Sim φ us vs b (f (t::r)) (f' (mvT φ t::r'))] [h2:Sim φ us vs b (f []) (f' [])]:Sim φ us vs b (look f) (look f'):=look_sim hn h1 h2
instance (m m':M α) [hs:Suf m] [hm:Sim φ us vs b m m']:Sim φ us vs b (nextP m) (nextP m'):=⟨next_pt hs hm⟩
theorem name_sim {p:List UInt8→Bool} (hp:p []=false) (al:Al φ us vs b):Sim φ us vs b (name p) (name p):=⟨fun ts=>by
 unfold name
 cases ts with
 | cons t r =>
  show (∀a q,(if p (wl (t::(r++us))) then Re.ok (wrd (t::(r++us))) (r++us) else .bad (t::r++us))=.ok a (q++us)→(if p (wl (t::(r++us))) then Re.ok (wrd (t::(r++us))) (r.map (mvT φ)++vs) else .bad ((t::r).map (mvT φ)++vs))=_)∧(b=true→∀q,(if p (wl (t::(r++us))) then Re.ok (wrd (t::(r++us))) (r++us) else .bad (t::r++us))=.bad (q++us)→(if p (wl (t::(r++us))) then Re.ok (wrd (t::(r++us))) (r.map (mvT φ)++vs) else .bad ((t::r).map (mvT φ)++vs))=_)
  split
  · refine⟨fun a q h=>?_,fun _ q h=>(by cases h)⟩
    injection h with h1 h2
    rw[app_inj h2.symm,h1];rfl
  · refine⟨fun a q h=>(by cases h),fun _ q h=>?_⟩
    injection h with h2
    rw[app_inj (a:=q) (c:=t::r) h2.symm]
 | nil =>
  refine al_cases (φ:=φ) (us:=us) (vs:=vs) (b:=b) (fun hb h1 h2=>?_) (fun hb t u v h1 h2=>?_) (fun hb h1 t v h2 h3 h4=>?_)
  · subst h1;subst h2
    rw[show wl ([]++[])=[] from rfl,show wl (([]:List Tk).map (mvT φ)++[])=[] from rfl,hp]
    exact⟨fun a q h=>(by cases h),fun _ q h=>(by
     injection h with h
     have:q=[]:=by simpa using h.symm
     rw[this];rfl)⟩
  · subst h1;subst h2
    show (∀a q,(if p (wl (t::u)) then Re.ok (wrd (t::u)) u else .bad (t::u))=.ok a (q++t::u)→(if p (wl (t::u)) then Re.ok (wrd (t::u)) v else .bad (mvT φ t::v))=_)∧(b=true→∀q,(if p (wl (t::u)) then Re.ok (wrd (t::u)) u else .bad (t::u))=.bad (q++t::u)→(if p (wl (t::u)) then Re.ok (wrd (t::u)) v else .bad (mvT φ t::v))=_)
    split
    · refine⟨fun a q h=>?_,fun _ q h=>(by cases h)⟩
      injection h with h1 h2
      exact (suf_tl (r:=q) (t:=t) (u:=u) (by rw[←h2];exact List.suffix_refl _)).elim
    · refine⟨fun a q h=>(by cases h),fun _ q h=>?_⟩
      injection h with h2
      have:q=[]:=app_inj (us:=t::u) (a:=q) (c:=[]) h2.symm
      rw[this];rfl
  · subst h1;subst h2
    refine⟨fun a q h=>?_,fun hb'=>?_⟩
    · rw[show wl ([]++[])=[] from rfl,hp] at h;cases h
    · rw[hb] at hb';cases hb'⟩
instance (p:List UInt8→Bool) [hp:NEp p]:Sim φ us vs b (name p) (name p):=name_sim hp.h al
instance:Sim φ us vs b intP intP:=⟨fun ts=>by
 cases ts with
 | cons t r =>
  show (∀a q,(if t.kind=2 then Re.ok t.n (r++us) else .bad (t::r++us))=.ok a (q++us)→(if t.kind=2 then Re.ok t.n (r.map (mvT φ)++vs) else .bad ((t::r).map (mvT φ)++vs))=_)∧(b=true→∀q,(if t.kind=2 then Re.ok t.n (r++us) else .bad (t::r++us))=.bad (q++us)→(if t.kind=2 then Re.ok t.n (r.map (mvT φ)++vs) else .bad ((t::r).map (mvT φ)++vs))=_)
  split
  · refine⟨fun a q h=>?_,fun _ q h=>(by cases h)⟩
    injection h with h1 h2
    rw[app_inj h2.symm,h1];rfl
  · refine⟨fun a q h=>(by cases h),fun _ q h=>?_⟩
    injection h with h2
    rw[app_inj (a:=q) (c:=t::r) h2.symm]
 | nil =>
  refine al_cases (φ:=φ) (us:=us) (vs:=vs) (b:=b) (fun hb h1 h2=>?_) (fun hb t u v h1 h2=>?_) (fun hb h1 t v h2 h3 h4=>?_)
  · subst h1;subst h2
    exact⟨fun a q h=>(by cases h),fun _ q h=>(by
     have h:Re.bad (α:=Int) []=.bad (q++[]):=h
     injection h with h
     have:q=[]:=by simpa using h.symm
     rw[this];rfl)⟩
  · subst h1;subst h2
    show (∀a q,(if t.kind=2 then Re.ok t.n u else .bad (t::u))=.ok a (q++t::u)→(if t.kind=2 then Re.ok t.n v else .bad (mvT φ t::v))=_)∧(b=true→∀q,(if t.kind=2 then Re.ok t.n u else .bad (t::u))=.bad (q++t::u)→(if t.kind=2 then Re.ok t.n v else .bad (mvT φ t::v))=_)
    split
    · refine⟨fun a q h=>?_,fun _ q h=>(by cases h)⟩
      injection h with h1 h2
      exact (suf_tl (r:=q) (t:=t) (u:=u) (by rw[←h2];exact List.suffix_refl _)).elim
    · refine⟨fun a q h=>(by cases h),fun _ q h=>?_⟩
      injection h with h2
      have:q=[]:=app_inj (us:=t::u) (a:=q) (c:=[]) h2.symm
      rw[this];rfl
  · subst h1;subst h2
    refine⟨fun a q h=>(by cases h),fun hb'=>?_⟩
    rw[hb] at hb';cases hb'⟩
end
end
end Go.Proofs.YtbmknjfgjphfbaaGreatDoor
namespace Go.Proofs.YtbmknjfgjphfbaaGreatDoor
end Go.Proofs.YtbmknjfgjphfbaaGreatDoor
set_option synthInstance.maxSize 20000
set_option synthInstance.maxHeartbeats 2000000
set_option linter.unusedVariables false
namespace Go.Proofs.YtbmknjfgjphfbaaGreatDoor
section
variable {φ:Int→Int} {e e':Int} {us vs:List Tk} {b:Bool} [al:Al φ us vs b] [he:EqP φ e e']
include al
theorem tail_sim_ {m m':M Nd} [Suf m] [Sim φ us vs b m m']:∀n n',n≤n'→Sim φ us vs b (tailP m n) (tailP m' n')
 | 0,n',_=>by unfold tailP;infer_instance
 | n+1,0,h=>absurd h ω
 | n+1,n'+1,h=>by have:=tail_sim_ (m:=m) (m':=m') n n' ω;unfold tailP;infer_instance
instance {m m':M Nd} [Suf m] [Sim φ us vs b m m'] (n n':Nat) [h:Le n n']:Sim φ us vs b (tailP m n) (tailP m' n'):=tail_sim_ n n' h.h
instance {m m':M Nd} [Suf m] [Sim φ us vs b m m'] (c:UInt8) (w:List UInt8) (n n':Nat) [h:Le n n']:Sim φ us vs b (itemsP (c::w) m n) (itemsP (c::w) m' n'):=by unfold itemsP;infer_instance
instance {m m':M Nd} [Suf m] [NE m] [Sim φ us vs b m m'] (c:UInt8) (w:List UInt8) (n n':Nat) [h:Le n n']:Sim φ us vs b (listP (c::w) m n) (listP (c::w) m' n'):=by unfold listP;infer_instance
theorem until_sim_ {m m':M Nd} [Suf m] [NE m] [Sim φ us vs b m m'] (c:UInt8) (w:List UInt8):∀n n',n≤n'→Sim φ us vs b (untilP (c::w) m n) (untilP (c::w) m' n')
 | 0,n',_=>by unfold untilP;infer_instance
 | n+1,0,h=>absurd h ω
 | n+1,n'+1,h=>by have:=until_sim_ (m:=m) (m':=m') c w n n' ω;unfold untilP;infer_instance
instance {m m':M Nd} [Suf m] [NE m] [Sim φ us vs b m m'] (c:UInt8) (w:List UInt8) (n n':Nat) [h:Le n n']:Sim φ us vs b (untilP (c::w) m n) (untilP (c::w) m' n'):=until_sim_ c w n n' h.h
include he
theorem typ_sim_:∀n n',n≤n'→Sim φ us vs b (typP e n) (typP e' n')
 | 0,n',_=>by unfold typP;infer_instance
 | n+1,0,h=>absurd h ω
 | n+1,n'+1,h=>by
  have:=typ_sim_ n n' ω
  have:Le n n':=⟨by omega⟩
  unfold typP;infer_instance
instance (n n':Nat) [h:Le n n']:Sim φ us vs b (typP e n) (typP e' n'):=typ_sim_ n n' h.h
instance (n n':Nat) [h:Le n n']:Sim φ us vs b (fieldP e n) (fieldP e' n'):=by unfold fieldP;infer_instance
instance (n n':Nat) [h:Le n n']:Sim φ us vs b (fieldsP e n) (fieldsP e' n'):=by unfold fieldsP;infer_instance
instance:Sim φ us vs b (bindP e) (bindP e'):=by unfold bindP;infer_instance
instance (k:Int) (n n':Nat) [h:Le n n']:Sim φ us vs b (patP e k n) (patP e' k n'):=by unfold patP;infer_instance
instance (n n':Nat) [h:Le n n']:Sim φ us vs b (ctorP e n) (ctorP e' n'):=by unfold ctorP;infer_instance
instance {m m':M Nd} [Suf m] [NE m] [Sim φ us vs b m m'] (n n':Nat) [h:Le n n']:Sim φ us vs b (argsP m n) (argsP m' n'):=by unfold argsP;infer_instance
instance {m m':M Nd} [Suf m] [Sim φ us vs b m m']:Sim φ us vs b (setP e m) (setP e' m'):=by unfold setP;infer_instance
instance {m m':M Nd} [Suf m] [Sim φ us vs b m m'] (n n':Nat) [h:Le n n']:Sim φ us vs b (armP e m n) (armP e' m' n'):=by unfold armP;infer_instance
instance {m m':M Nd} [Suf m] [Sim φ us vs b m m'] (n n':Nat) [h:Le n n']:Sim φ us vs b (functionP e m n) (functionP e' m' n'):=by unfold functionP;infer_instance
omit he in
theorem look_sim2 {f f':List Tk→M Nd} (h1:∀t r r',Sim φ us vs b (f (t::r)) (f' (mvT φ t::r'))) (h2:Sim φ us vs b (f []) (f' [])) (h3:∀t v,t.kind=1→declW t.text.data.toList=true→∀a r,f [] []=.ok a r→f' (t::v) (t::v)=.ok (Mv.mv φ a) (t::v)∧r=[]):Sim φ us vs b (look f) (look f'):=⟨fun ts=>by
 show (∀a r,f (ts++us) (ts++us)=_→f' (ts.map (mvT φ)++vs) (ts.map (mvT φ)++vs)=_)∧(b=true→∀r,f (ts++us) (ts++us)=_→f' (ts.map (mvT φ)++vs) (ts.map (mvT φ)++vs)=_)
 cases ts with
 | cons t r=>exact (h1 t _ _).h (t::r)
 | nil =>
  refine al_cases (φ:=φ) (us:=us) (vs:=vs) (b:=b) (fun hb g1 g2=>?_) (fun hb t u v g1 g2=>?_) (fun hb g1 t v g2 g3 g4=>?_)
  · subst g1;subst g2;exact h2.h []
  · subst g1;subst g2;exact (h1 t u v).h []
  · subst g1;subst g2
    refine⟨fun a r h=>?_,fun hb'=>by rw[hb] at hb';cases hb'⟩
    have h:f [] []=.ok a (r++[]):=h
    obtain⟨x,y⟩:=h3 t v g3 g4 a _ h
    have:r=[]:=by simpa using y
    rw[this];exact x⟩
omit he al in
theorem lev_dec {t:Tk} {v:List Tk} (h:t.kind=1) (hd:declW t.text.data.toList=true):levP (wl (t::v))=none∧(wl (t::v)==[40])=false∧(wl (t::v)==[46])=false∧(wl (t::v)==[119,105,116,104])=false:=by
 rw[wl_dec h]
 simp only[declW,declWords,List.contains_cons,Bool.or_eq_true,beq_iff_eq] at hd
 rcases hd with hd|hd|hd|hd|hd|hd|hd|hd|hd<;>first|(rw[hd];decide)|(simp at hd)
omit he in
theorem bin_sim_ (lv:Nat) {m m':M Nd} [Suf m] [Sim φ us vs b m m'] (p p':Int) (hp:EqP φ p p'):∀n n' a a',n≤n'→EqN φ a a'→Sim φ us vs b (binP lv m p n a) (binP lv m' p' n' a')
 | 0,n',a,a',_,_=>by unfold binP;infer_instance
 | n+1,0,a,a',h,_=>absurd h ω
 | n+1,n'+1,a,a',h,ha=>by
  have ih:∀a a' [EqN φ a a'],Sim φ us vs b (binP lv m p n a) (binP lv m' p' n' a'):=fun a a' hh=>bin_sim_ lv p p' hp n n' a a' ω hh
  unfold binP
  refine look_sim2 (fun t r r'=>by infer_instance) (by infer_instance) (fun t v h1 h2 x r hx=>?_)
  have l1:levP (wl (t::v))=none:=(lev_dec h1 h2).1
  have l2:levP (wl [])=none:=by decide
  simp only[l2,reduceCtorEq,if_false] at hx
  simp only[l1,reduceCtorEq,if_false]
  injection hx with hx hy
  rw[←hx,←hy,ha.h];exact⟨rfl,rfl⟩
omit he in
instance (lv:Nat) {m m':M Nd} [Suf m] [Sim φ us vs b m m'] (p p':Int) [hp:EqP φ p p'] (n n':Nat) [h:Le n n'] (a a':Nd) [ha:EqN φ a a']:Sim φ us vs b (binP lv m p n a) (binP lv m' p' n' a'):=bin_sim_ lv p p' hp n n' a a' h.h ha
theorem tails_sim_ {m m':M Nd} [Suf m] [NE m] [Sim φ us vs b m m'] (p p':Int) (hp:EqP φ p p'):∀n n' a a',n≤n'→EqN φ a a'→Sim φ us vs b (tailsP e m p n a) (tailsP e' m' p' n' a')
 | 0,n',a,a',_,_=>by unfold tailsP;infer_instance
 | n+1,0,a,a',h,_=>absurd h ω
 | n+1,n'+1,a,a',h,ha=>by
  have hl:Le n n':=⟨by omega⟩
  have ih:∀a a' [EqN φ a a'],Sim φ us vs b (tailsP e m p n a) (tailsP e' m' p' n' a'):=fun a a' hh=>tails_sim_ p p' hp n n' a a' ω hh
  unfold tailsP
  refine look_sim2 (fun t r r'=>by infer_instance) (by infer_instance) (fun t v h1 h2 x r hx=>?_)
  obtain⟨_,l1,l2,l3⟩:=lev_dec (v:=v) h1 h2
  simp only[l1,if_false,Bool.false_eq_true,acc,l2,l3]
  have hx:Re.ok a []=.ok x r:=hx
  injection hx with hx hy
  rw[←hx,←hy,ha.h];exact⟨rfl,rfl⟩
instance {m m':M Nd} [Suf m] [NE m] [Sim φ us vs b m m'] (p p':Int) [hp:EqP φ p p'] (n n':Nat) [h:Le n n'] (a a':Nd) [ha:EqN φ a a']:Sim φ us vs b (tailsP e m p n a) (tailsP e' m' p' n' a'):=tails_sim_ p p' hp n n' a a' h.h ha
omit he in
instance {m m':M Nd} [Suf m] [NE m] [Sim φ us vs b m m'] (n n':Nat) [Le n n'] (s s':Ê) [EqS s s'] (p p':Int) [EqP φ p p']:Sim φ us vs b (consP m n s p) (consP m' n' s' p'):=by unfold consP;infer_instance
instance {m m':M Nd} [Suf m] [NE m] [Sim φ us vs b m m'] (n n':Nat) [Le n n'] (h:Bool):Sim φ us vs b (primP e m n h) (primP e' m' n' h):=by
 unfold primP;infer_instance
theorem both_sim_:∀n n',n≤n'→(∀h,Sim φ us vs b (exprP e n h) (exprP e' n' h))∧(∀h lv,Sim φ us vs b (operP e n h lv) (operP e' n' h lv))
 | 0,n',_=>⟨fun h=>by unfold exprP;infer_instance,fun h lv=>by unfold operP;infer_instance⟩
 | n+1,0,h=>absurd h ω
 | n+1,n'+1,h=>by
  have hl:Le n n':=⟨by omega⟩
  have h1:=(both_sim_ n n' ω).1
  have h2:=(both_sim_ n n' ω).2
  exact⟨fun h=>by unfold exprP;infer_instance,fun h lv=>by unfold operP;infer_instance⟩
instance (n n':Nat) [hl:Le n n'] (h:Bool):Sim φ us vs b (exprP e n h) (exprP e' n' h):=(both_sim_ n n' hl.h).1 h
instance (n n':Nat) [h:Le n n']:Sim φ us vs b (sendP e n) (sendP e' n'):=by unfold sendP;infer_instance
instance (n n':Nat) [h:Le n n'] (p p':Int) [EqP φ p p'] (a a':Nd) [EqN φ a a']:Sim φ us vs b (spawnP e n p a) (spawnP e' n' p' a'):=by unfold spawnP;infer_instance
instance (n n':Nat) [h:Le n n']:Sim φ us vs b (letP e n) (letP e' n'):=by unfold letP;infer_instance
instance (n n':Nat) [h:Le n n']:Sim φ us vs b (doP e n) (doP e' n'):=by unfold doP;infer_instance
instance {m m':M Nd} [Suf m] [NE m] [Sim φ us vs b m m'] (n n':Nat) [h:Le n n']:Sim φ us vs b (blockP e m n) (blockP e' m' n'):=by unfold blockP;infer_instance
instance {m m':M Nd} [Suf m] [NE m] [Sim φ us vs b m m'] (n n':Nat) [h:Le n n']:Sim φ us vs b (branchP e m n) (branchP e' m' n'):=by unfold branchP;infer_instance
instance {m m':M Nd} [Suf m] [NE m] [Sim φ us vs b m m'] (n n':Nat) [h:Le n n']:Sim φ us vs b (sarmP e m n) (sarmP e' m' n'):=by unfold sarmP;infer_instance
instance {m m':M Nd} [Suf m] [NE m] [Sim φ us vs b m m'] (n n':Nat) [h:Le n n']:Sim φ us vs b (casesP e m n) (casesP e' m' n'):=by unfold casesP;infer_instance
theorem stmt_sim_:∀n n',n≤n'→Sim φ us vs b (stmtP e n) (stmtP e' n')
 | 0,n',_=>by unfold stmtP;infer_instance
 | n+1,0,h=>absurd h ω
 | n+1,n'+1,h=>by
  have hl:Le n n':=⟨by omega⟩
  have:=stmt_sim_ n n' ω
  unfold stmtP;infer_instance
instance (n n':Nat) [h:Le n n']:Sim φ us vs b (stmtP e n) (stmtP e' n'):=stmt_sim_ n n' h.h
instance (n n':Nat) [h:Le n n']:Sim φ us vs b (memberP e n) (memberP e' n'):=by unfold memberP;infer_instance
omit he in
instance:Sim φ us vs b policyP policyP:=by unfold policyP;infer_instance
instance (n n':Nat) [h:Le n n']:Sim φ us vs b (declP e n) (declP e' n'):=by unfold declP;infer_instance
instance (n n':Nat) [h:Le n n'] (p p':Int) [EqP φ p p']:Sim φ us vs b (convTypeP e p n) (convTypeP e' p' n'):=by unfold convTypeP;infer_instance
instance (n n':Nat) [h:Le n n']:Sim φ us vs b (changeP e n) (changeP e' n'):=by unfold changeP;infer_instance
omit al he in
instance (t0 t0':List Tk) (x:Bool) [h:Hw t0 t0']:Iff' ((x&&chgB (wl t0))=true) ((x&&chgB (wl t0'))=true):=⟨by rw[h.wl]⟩
instance (patch:Bool) (n n':Nat) [h:Le n n']:Sim φ us vs b (oneP e patch n) (oneP e' patch n'):=by unfold oneP;infer_instance
end
theorem prog_cons (e:Int) (patch:Bool) (n k:Nat) (t:Tk) (r:List Tk):progP e patch n (k+1) (t::r)=(oneP e patch n (t::r)).bd fun a=>(fun x=>(progP e patch n k x).bd fun l=>M.ret (a::l)):=rfl
theorem prog_nil (e:Int) (patch:Bool) (n k:Nat):progP e patch n (k+1) []=.ok [] []:=rfl
end Go.Proofs.YtbmknjfgjphfbaaGreatDoor
namespace Go.Proofs.YtbmknjfgjphfbaaGreatDoor
section
open Proofs.Tryz RowKit Maps WideMaps ChangeMaps
theorem bd_congr {α β:Type} {m m2:M α} {f:α→M β} {r:List Tk} (h:m r=m2 r):(m >>= f) r=(m2 >>= f) r:=by show (m r).bd f=(m2 r).bd f;rw[h]
theorem one_f (e:Int) (n:Nat) (r:List Tk):oneP e false n r=declP e n r:=by
 show (if (false&&chgB (wl r))=true then changeP e n else declP e n) r=_;rw[if_neg (by simp)]
theorem one_t (e:Int) (n:Nat) (r:List Tk) (h:chgB (wl r)=true):oneP e true n r=changeP e n r:=by
 show (if (true&&chgB (wl r))=true then changeP e n else declP e n) r=_;rw[if_pos (by simp[h])]
theorem one_d (e:Int) (n:Nat) (r:List Tk) (h:chgB (wl r)=false):oneP e true n r=declP e n r:=by
 show (if (true&&chgB (wl r))=true then changeP e n else declP e n) r=_;rw[if_neg (by simp[h])]
theorem one_bd {β:Type} (m:M Nd) (g:M (List Nd)) (q:List Tk) (f:List Nd→M β):((m q).bd fun a=>fun x=>(g x).bd fun l=>M.ret (a::l)).bd f=(m >>= fun a=>fun r=>(g r).bd fun t=>f (a::t)) q:=by
 show _=(m q).bd _
 cases m q with
 | out=>rfl
 | bad r=>rfl
 | ok a r =>
  show ((g r).bd fun t=>M.ret (a::t)).bd _=(g r).bd _
  cases g r<;>rfl
section
variable {c:Cx} {w:À} {r:List Tk} {h:Bool}
theorem changes_any (k:PW c w r h):Calls prog 94 #[.pointer (some ⟨c.pb,0,none⟩)] w fun e w'=>e=.returned (.bool (chgB (wl r)))∧Below w.heap.size w w':=by
 go_in
 go_wp2_with fail
 refine (word_any k).mono ?_
 rintro _ W1 ⟨rfl,b⟩
 have HB:=η b
 clear b
 have e:chgB (wl r)=((wrd r).toList==[99,111,110,118,101,114,116]||(wrd r).toList==[109,111,118,101]||(wrd r).toList==[100,114,111,112]):=by rw[ByteArray.toList_eq];rfl
 have HE:=η e
 clear e
 cases a:((wrd r).toList==[99,111,110,118,101,114,116]) with
 | true =>
  have E:=η (HE.o.trans (by rw[a];rfl):chgB (wl r)=true)
  go_wp2
  go_ret
  exact⟨by rw[E.o];rfl,HB.o⟩
 | false =>
  cases b:((wrd r).toList==[109,111,118,101]) with
  | true =>
   have E:=η (HE.o.trans (by rw[a,b];rfl):chgB (wl r)=true)
   go_wp2
   go_ret
   exact⟨by rw[E.o];rfl,HB.o⟩
  | false =>
   cases d:((wrd r).toList==[100,114,111,112]) with
   | true =>
    have E:=η (HE.o.trans (by rw[a,b,d];rfl):chgB (wl r)=true)
    go_wp2
    go_ret
    exact⟨by rw[E.o];rfl,HB.o⟩
   | false =>
    have E:=η (HE.o.trans (by rw[a,b,d];rfl):chgB (wl r)=false)
    go_wp2
    go_ret
    exact⟨by rw[E.o];rfl,HB.o⟩
end
set_option maxHeartbeats 16000000 in
theorem prog_said (c:Cx) (patch:Bool) {n k:Nat} (hn:n≤1000000000) (hk:k≤1000000000):Said 57 #[.pointer (some ⟨c.pb,0,none⟩),.bool patch] c false NdV (progP c.e patch n k >>= fun l=>pure (.mk 1 e0 0 0 l)):=fun w r kk hne=>by
 obtain⟨CH,DE⟩:=zd2 (change_said c false hn) (decl_said c false hn)
 have TX:=η kk.tx
 obtain⟨W0,HW,A⟩:=Sw.s1 kk
 obtain⟨R,hR⟩:∃R,R=(progP c.e patch n k >>= fun l=>pure (.mk 1 e0 0 0 l):M Nd) r:=⟨_,rfl⟩
 rw[←hR] at hne ⊢
 obtain⟨io,hio,hiz,his,hib⟩:=info_parts info_83
 have HIO:=η (And.intro hio (And.intro hiz (And.intro his hib)))
 clear hio hiz his hib
 have HMF:=hmf
 obtain⟨HN,HR⟩:=zd2 hne hR
 clear hR hne kk
 go_in
 go_upto_region 1 with fail
 rw[←HW.o]
 clear HW
 replace A:=Sw.nil A
 have AL:=Sw.keep A fun X k=>k.2
 go_wp2_with fail
 have HT:Hid (([]:List Nd).length+k≤k+3∧R=(progP c.e patch n k r).bd fun t=>M.ret (Nd.mk 1 e0 0 0 ([]++t))):=⟨by show 0+k≤k+3;omega,HR.o.trans rfl⟩
 clear HR A
 go_loopw [5] (fun v wr=>∃l q n1,Hid (Sw c w (w.heap.size+1) wr q false (RowX (w.heap.size+1) v l))∧Hid ((l:List Nd).length+n1≤k+3∧R=(progP c.e patch n n1 q).bd fun t=>M.ret (Nd.mk 1 e0 0 0 (l++t)))) (fun _ wr=>leftN c wr)
 case atStart=>exact⟨_,_,_,AL,HT⟩
 case round =>
  clear AL HT
  obtain⟨l,q,n1,A,HT⟩:=hrel
  have HZ:Hid (w.heap.size≤w.heap.size+1):=Nat.le_succ _
  have HNN:Hid (w.heap.size+1≤w.heap.size+1):=Nat.le_refl _
  obtain⟨_,_,xs,ho,hr⟩:=Sw.now A
  obtain⟨Ar,cr,rfl⟩:=row_form ho
  clear ho hr
  cases hn1:n1 with
  | zero=>exact absurd (HT.o.2.trans (by rw[hn1];rfl)) HN.o
  | succ n3 =>
  subst hn1
  have HL0:=η A.o.pw.left
  have HLL:Hid ((l:List Nd).length≤k+3):=(by have:=HT.o.1;show _≤_;omega)
  have HLN:=η HT.o.1
  cases q with
  | nil =>
   have HV:Hid (R=.ok (Nd.mk 1 e0 0 0 l) []):=HT.o.2.trans (by rw[prog_nil];show Re.ok (Nd.mk 1 e0 0 0 (l++[])) []=_;rw[List.append_nil])
   go_wp2_with fail
   refine (done_any A.o.pw).mono ?_
   rintro _ W1 ⟨rfl,b⟩
   replace A:=Sw.bel A b
   clear b HT
   simp only[List.isEmpty_nil]
   go_wp2_with fail
   refine (node_any _ _ _ _ _ _ _ _).mono ?_
   rintro _ W1 ⟨rfl,b⟩
   replace A:=Sw.bel A b
   clear b
   have E:=Sw.e A (k:=1) (s:=e0) (n:=0) (p:=(0)) (D:=Ar) (l:=(l.length)) (cap:=cr) (a:=.mk 1 e0 0 (0) l) fun X hx k=>NdR.of ⟨by unfold i64;omega,(by unfold i64;omega),(by unfold i64;omega)⟩ (by show e0.size≤_;decide) (RowX.nds k HZ.o)
   have O:=setRow_heap _ _ _ (cl 1 e0 0 (0) Ar (l.length) cr).toArray _ _ (A.o.bx rfl)
   go_wp2_with (refine wpList_store_row rfl 83 _ _ rfl w.heap.size (cl 1 e0 0 (0) Ar (l.length) cr).toArray rfl rfl 83 _ (A.o.bx rfl) Δ rfl (by simp[Value.oneCell']) ?_)
   exact bodyPost_ret (results_cell_row results57 _ _ w.heap.size 83 _ _ _ rfl O underlying83 rfl Δ) rfl (by rw[HV.o];exact E.o)
  | cons t0 q0 =>
   have HV:Hid (R=(oneP c.e patch n >>= fun a=>fun rr=>(progP c.e patch n n3 rr).bd fun t=>M.ret (Nd.mk 1 e0 0 0 (l++(a::t)))) (t0::q0)):=HT.o.2.trans (by rw[prog_cons];exact one_bd _ _ _ _)
   go_wp2_with fail
   refine (done_any A.o.pw).mono ?_
   rintro _ W1 ⟨rfl,b⟩
   replace A:=Sw.bel A b
   clear b HT
   simp only[List.isEmpty_cons]
   cases patch with
   | false =>
    have HD:=η (HV.o.trans (bd_congr (one_f _ _ _)))
    clear HV
    go_wp2_with fail
    cases m2:declP c.e n ((t0::q0)) with
    | out=>exact absurd (HD.o.trans (bd_out m2)) HN.o
    | bad q5 =>
     refine (Said.bad (DE.o) A.o.pw m2).mono ?_
     rintro _ W3 ⟨rfl,s⟩
     exact⟨rfl,Sw.bd A s (HD.o.trans (bd_bad m2))⟩
    | ok x6 q5 =>
     have HQL:=η ((inferInstance:Con (declP c.e n)).h _ _ _ m2).2
     obtain⟨H4,Z7,Y8,RL9⟩:=zd4 (HD.o.trans (bd_ok m2)) (Sw.ge A) (A.o.lo.2.2.2) (RowX.lt (Sw.now A))
     refine (Said.ok (DE.o) A.o.pw m2).mono ?_
     rintro _ W3 ⟨_,rfl,⟨k10,s11,n12,p13,D14,l15,c16,rfl,hnd⟩,s,p⟩
     replace A:=Sw.nd A s p hnd
     clear s p hnd m2 HD
     obtain⟨_,_,xs20,ho,hr⟩:=(Sw.now A).1
     obtain⟨HO17,HRW18,HD19⟩:=zd3 ho hr ((Sw.now A).2)
     clear ho hr
     go_wp2_with (first|(at_builtin;refine wpList_append_own_at _ rfl (.tmp 19) (.tmp 22) 81 rfl (w.heap.size+1) 83 io _ 5 64 underlying81 HIO.o.1 HIO.o.2.1 HIO.o.2.2.1 HIO.o.2.2.2 rfl π (.slice Ar (l.length) cr) (l.length) xs20 rfl (row_al HO17.o _) ⟨W3.heap.size,0,none⟩ 1 1 (cl k10 s11 n12 p13 D14 l15 c16) rfl rfl (World.news_of_block (Hs.new _ _ _)) (by intro u hu;simp at hu;repeat (first|(subst hu;rfl)|(rcases hu with rfl|hu;rfl))) (by have:=HLL.o;unfold maxLen;omega) (by have:=HLL.o;omega) (sz_al (RowX.lt (Sw.now A).1).1 _) ?_;intro vv W23 hown hgrow hnil hvb;obtain⟨Ar21,cr22,rfl⟩:=row_form hown;replace A:=Sw.push A hgrow hvb hown (by simp<;>omega) HRW18.o HD19.o rfl RL9.o HNN.o;clear hown hgrow hnil hvb))
     refine⟨⟨l++[x6],q5,n3,A,⟨by have:=HLN.o;rw[List.length_append];simp;omega,H4.o.trans (by simp only[List.append_assoc];rfl)⟩⟩,?_⟩
     refine Nat.lt_of_le_of_lt (Nat.le_of_eq A.o.pw.left) ?_
     rw[HL0.o]
     exact HQL.o
   | true =>
    go_wp2_with fail
    refine (changes_any A.o.pw).mono ?_
    rintro _ W2 ⟨rfl,b⟩
    replace A:=Sw.bel A b
    clear b
    cases hc:chgB (wl (t0::q0)) with
    | true =>
     have HD:=η (HV.o.trans (bd_congr (one_t _ _ _ hc)))
     clear HV hc
     go_wp2_with fail
     cases m25:changeP c.e n ((t0::q0)) with
     | out=>exact absurd (HD.o.trans (bd_out m25)) HN.o
     | bad q28 =>
      refine (Said.bad (CH.o) A.o.pw m25).mono ?_
      rintro _ W26 ⟨rfl,s⟩
      exact⟨rfl,Sw.bd A s (HD.o.trans (bd_bad m25))⟩
     | ok x29 q28 =>
      have HQL:=η ((inferInstance:Con (changeP c.e n)).h _ _ _ m25).2
      obtain⟨H27,Z30,Y31,RL32⟩:=zd4 (HD.o.trans (bd_ok m25)) (Sw.ge A) (A.o.lo.2.2.2) (RowX.lt (Sw.now A))
      refine (Said.ok (CH.o) A.o.pw m25).mono ?_
      rintro _ W26 ⟨_,rfl,⟨k33,s34,n35,p36,D37,l38,c39,rfl,hnd⟩,s,p⟩
      replace A:=Sw.nd A s p hnd
      clear s p hnd m25 HD
      obtain⟨_,_,xs43,ho,hr⟩:=(Sw.now A).1
      obtain⟨HO40,HRW41,HD42⟩:=zd3 ho hr ((Sw.now A).2)
      clear ho hr
      go_wp2_with (first|(at_builtin;refine wpList_append_own_at _ rfl (.tmp 14) (.tmp 17) 81 rfl (w.heap.size+1) 83 io _ 5 64 underlying81 HIO.o.1 HIO.o.2.1 HIO.o.2.2.1 HIO.o.2.2.2 rfl π (.slice Ar (l.length) cr) (l.length) xs43 rfl (row_al HO40.o _) ⟨W26.heap.size,0,none⟩ 1 1 (cl k33 s34 n35 p36 D37 l38 c39) rfl rfl (World.news_of_block (Hs.new _ _ _)) (by intro u hu;simp at hu;repeat (first|(subst hu;rfl)|(rcases hu with rfl|hu;rfl))) (by have:=HLL.o;unfold maxLen;omega) (by have:=HLL.o;omega) (sz_al (RowX.lt (Sw.now A).1).1 _) ?_;intro vv W46 hown hgrow hnil hvb;obtain⟨Ar44,cr45,rfl⟩:=row_form hown;replace A:=Sw.push A hgrow hvb hown (by simp<;>omega) HRW41.o HD42.o rfl RL32.o HNN.o;clear hown hgrow hnil hvb))
      refine⟨⟨l++[x29],q28,n3,A,⟨by have:=HLN.o;rw[List.length_append];simp;omega,H27.o.trans (by simp only[List.append_assoc];rfl)⟩⟩,?_⟩
      refine Nat.lt_of_le_of_lt (Nat.le_of_eq A.o.pw.left) ?_
      rw[HL0.o]
      exact HQL.o
    | false =>
     have HD:=η (HV.o.trans (bd_congr (one_d _ _ _ hc)))
     clear HV hc
     go_wp2_with fail
     cases m48:declP c.e n ((t0::q0)) with
     | out=>exact absurd (HD.o.trans (bd_out m48)) HN.o
     | bad q51 =>
      refine (Said.bad (DE.o) A.o.pw m48).mono ?_
      rintro _ W49 ⟨rfl,s⟩
      exact⟨rfl,Sw.bd A s (HD.o.trans (bd_bad m48))⟩
     | ok x52 q51 =>
      have HQL:=η ((inferInstance:Con (declP c.e n)).h _ _ _ m48).2
      obtain⟨H50,Z53,Y54,RL55⟩:=zd4 (HD.o.trans (bd_ok m48)) (Sw.ge A) (A.o.lo.2.2.2) (RowX.lt (Sw.now A))
      refine (Said.ok (DE.o) A.o.pw m48).mono ?_
      rintro _ W49 ⟨_,rfl,⟨k56,s57,n58,p59,D60,l61,c62,rfl,hnd⟩,s,p⟩
      replace A:=Sw.nd A s p hnd
      clear s p hnd m48 HD
      obtain⟨_,_,xs66,ho,hr⟩:=(Sw.now A).1
      obtain⟨HO63,HRW64,HD65⟩:=zd3 ho hr ((Sw.now A).2)
      clear ho hr
      go_wp2_with (first|(at_builtin;refine wpList_append_own_at _ rfl (.tmp 19) (.tmp 22) 81 rfl (w.heap.size+1) 83 io _ 5 64 underlying81 HIO.o.1 HIO.o.2.1 HIO.o.2.2.1 HIO.o.2.2.2 rfl π (.slice Ar (l.length) cr) (l.length) xs66 rfl (row_al HO63.o _) ⟨W49.heap.size,0,none⟩ 1 1 (cl k56 s57 n58 p59 D60 l61 c62) rfl rfl (World.news_of_block (Hs.new _ _ _)) (by intro u hu;simp at hu;repeat (first|(subst hu;rfl)|(rcases hu with rfl|hu;rfl))) (by have:=HLL.o;unfold maxLen;omega) (by have:=HLL.o;omega) (sz_al (RowX.lt (Sw.now A).1).1 _) ?_;intro vv W69 hown hgrow hnil hvb;obtain⟨Ar67,cr68,rfl⟩:=row_form hown;replace A:=Sw.push A hgrow hvb hown (by simp<;>omega) HRW64.o HD65.o rfl RL55.o HNN.o;clear hown hgrow hnil hvb))
      refine⟨⟨l++[x52],q51,n3,A,⟨by have:=HLN.o;rw[List.length_append];simp;omega,H50.o.trans (by simp only[List.append_assoc];rfl)⟩⟩,?_⟩
      refine Nat.lt_of_le_of_lt (Nat.le_of_eq A.o.pw.left) ?_
      rw[HL0.o]
      exact HQL.o
end
end Go.Proofs.YtbmknjfgjphfbaaGreatDoor
