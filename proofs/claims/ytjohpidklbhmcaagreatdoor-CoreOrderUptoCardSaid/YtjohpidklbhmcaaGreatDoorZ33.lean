/- Core -/
import Derived.Test.YtjohpidklbhmcaaGreatDoorZ31
import Derived.Test.YtjohpidklbhmcaaGreatDoorZ29
namespace Go.Proofs.YtjohpidklbhmcaaGreatDoor
set_option linter.all false
open Proofs.Tryz RowKit Maps WideMaps ChangeMaps
set_option maxRecDepth 100000
set_option maxHeartbeats 2000000
section
variable {M:Nat} {sc:Sc} {x:Int} {u:Ê} {A0 A1 A2 A3:Option Addr} {xs:List Ex} {els arms:List St}
def stmt_5 {c:CB} {p:Pg} {mb n:Nat} (hq:StPre c p mb M n) {own:Nat->Prop} {sb:Nat} {m:Int} {s:Ê} {thn:List St} {c0 c1 c2 c3:Nat} {w:À} (hd:∀e∈xs,Ex.deep e<=M) (he:Env w own mb sb c p sc) (ho:ScOk p sc) (ha0:0<=sc.actor) (hx:ExsR w (im own w) (.slice A0 xs c0) xs) (hix:i64 x) (hss:s.size<=maxLen):
 Calls prog 143 #[c.b,sb,st9 5 x m s u A0 xs c0 A1 thn c1 A2 els c2 A3 arms c3] w (cj w own mb sb (cG p (aa p M) (aF p M n) sc (.mk 5 x m s u xs thn els arms))):=by
 obtain⟨f,a,d,h⟩:=κ w (st9 5 x m s u A0 xs c0 A1 thn c1 A2 els c2 A3 arms c3) 120
 obtain⟨F,A,i,g⟩:=zd4 (he.bel d) (ExsR.to hx (sof (own:=own) d).sub) d a
 have z:=h.c 0;clear hq hd he ho hx a d ha0 hix hss;go_in;go_upto_region 1 with fail;rw[<-g.o];go_upto_region 25 with fail;go_wp2;go_ret2;exact dc (Stm.of_below i)
def tE {op m:Int} {s:Ê} {thn:List St} (h:aJ (.mk op x m s u xs thn els arms)=true):(op=1\/op=2\/op=3\/op=4\/op=6\/op=7\/op=12->0<xs.length)/\(op=8->1<xs.length)/\(op=1\/op=2\/op=3\/op=4\/op=5\/op=6\/op=7\/op=8\/op=9\/op=10\/op=11\/op=12):=by
 cases hs:jF op with
 | none=>simp only[aJ,hs] at h;cases h
 | some q =>
  obtain⟨A,B,z,y,D,E,F,a,f⟩:=q;simp only[aJ,hs,τ,Bool.not_eq_true',Bool.or_eq_false_iff,decide_eq_false_iff_not] at h;have w:¬((xs.length:Int)<a):=h.1.2.1;unfold jF at hs;refine⟨λho=>?_,λho=>?_,?_⟩
  ·rcases ho with rfl|rfl|rfl|rfl|rfl|rfl|rfl<;>(simp at hs;omega)
  ·subst ho;simp at hs;omega
  refine Decidable.byContradiction λhh=>?_;simp only[not_or] at hh;obtain⟨v,t,r,p,l,k,j,i,g,e,d,b⟩:=hh;simp only[v,t,r,p,l,k,j,i,g,e,d,b,if_false] at hs
  cases hs
def sJ {c:CB} {p:Pg} {mb n:Nat} (hq:StPre c p mb M n) {own:Nat->Prop} {sb:Nat} {op m:Int} {s:Ê} {thn:List St} {c0 c1 c2 c3:Nat} {w:À} (hsh:aJ (.mk op x m s u xs thn els arms)=true) (hd:St.deep (.mk op x m s u xs thn els arms)<=n+1) (hM:n<=M) (hN:n<=1000000000) (he:Env w own mb sb c p sc) (ho:ScOk p sc) (ha0:0<=sc.actor) (hx:ExsR w (im own w) (.slice A0 xs c0) xs) (hth:StsR w (im own w) (.slice A1 thn c1) thn) (hel:StsR w (im own w) (.slice A2 els c2) els) (har:StsR w (im own w) (.slice A3 arms c3) arms) (hix:i64 x) (hss:s.size<=maxLen):
 Calls prog 143 #[c.b,sb,st9 op x m s u A0 xs c0 A1 thn c1 A2 els c2 A3 arms c3] w (cj w own mb sb (cG p (aa p M) (aF p M n) sc (.mk op x m s u xs thn els arms))):=by
 obtain⟨f,l,h⟩:=tE hsh;rw[St.deep] at hd;have d:∀e∈xs,Ex.deep e<=M:=λe he=>by have:=fY xs e he;omega
 have g:St.deeps thn<=n:=ω;have i:St.deeps els<=n:=ω
 have j:∀a∈arms,St.deeps a.thn<=n:=λa ha=>by
  have q:=il arms a ha
  cases a with
  | mk o1 o2 o3 o4 o5 o6 o7 o8 o9 =>
   rw[St.deep] at q;show St.deeps o7<=n;omega
 have k:arms.length<=1000000000:=by have:=jh arms;omega
 rcases h with rfl|rfl|rfl|rfl|rfl|rfl|rfl|rfl|rfl|rfl|rfl|rfl
 ·exact stmt_1 hq d he ho ha0 hx hix hss (f ω)
 ·exact stmt_2 hq d he ho ha0 hx hix hss (f ω)
 ·exact stmt_3 hq d he ho ha0 hx hix hss (f ω) g hth i hel
 ·exact stmt_4 hq d he ho ha0 hx hix hss (f ω) j k har
 ·exact stmt_5 hq d he ho ha0 hx hix hss
 ·exact stmt_6 hq d he ho ha0 hx hix hss (f ω) g hth
 ·exact stmt_7 hq d he ho ha0 hx hix hss (f ω)
 ·exact stmt_8 hq d he ho ha0 hx hix hss (l rfl)
 ·exact stmt_9 hq d he ho ha0 hx hix hss
 ·exact stmt_10 hq d he ho ha0 hx hix hss
 ·exact stmt_11 hq d he ho ha0 hx hix hss
 exact stmt_12 hq d he ho ha0 hx hix hss (f ω)
def fj (sc:Sc) (zs:List Int):Sc:=zs.foldl Sc.unset sc
def tk (sc:Sc) (a b:Int):(sc.unset a).unset b=(sc.unset b).unset a:=by
 unfold Sc.unset;congr 1;funext j;by_cases e:j=a<;>by_cases d:j=b<;>simp[e,d]
def qw (zs:List Int):∀(sc:Sc) (i:Int),fj (sc.unset i) zs=(fj sc zs).unset i:=by
 induction zs with
 | nil=>intro sc i;rfl
 | cons z zs ih=>intro sc i;show fj ((sc.unset i).unset z) zs=_;rw[tk,ih];rfl
def mZ (sc:Sc) (zs:List Int) (i:Int):fj sc (zs++[i])=(fj sc zs).unset i:=by
 unfold fj;rw[List.foldl_append];rfl
def rL {zs:List Int} {q:Nat} (h:q<zs):fj sc (zs.take (q+1))=(fj sc (zs.take q)).unset zs[q]:=by
 rw[List.take_add_one,ξ h];exact mZ _ _ _
def tA {p:Pg} {n:Nat} (hF:aO p M) (hU:Upp p) {sc':Sc} {st:St} {i:Int} (ho:ScOk p sc) (h:cG p (aa p M) (aF p M n) sc st=some (i,sc')):(i=-1/\sc'=sc)\/(i≠-1/\i=st.n/\sc'.unset i=sc/\ScOk p sc'/\sc'.actor=sc.actor):=by
 have d:∀b,okSc b sc=some (i,sc')->i=-1/\sc'=sc:=λb hb=>by
  unfold okSc at hb;split at hb
  ·injection hb with hb;injection hb with h1 h2;exact⟨h1.symm,h2.symm⟩
  cases hb
 have v:∀(x:Int) (t:Ty),ag t=true->((sc.bind x t).map λsc'=>(x,sc'))=some (i,sc')->i≠-1/\i=x/\sc'.unset i=sc/\ScOk p sc'/\sc'.actor=sc.actor:=λx t ht hb=>by
  cases hx:sc.bind x t with
  | none=>rw[hx] at hb;cases hb
  | some sc1 =>
   rw[hx] at hb;injection hb with hb;injection hb with h1 h2;subst h1 h2;obtain⟨j,rfl⟩:=mV hx;refine⟨λe=>?_,rfl,mI j,ho.set ht,rfl⟩;subst e;simp[Sc.bindB] at j
 cases st with
 | mk op x m s u xs thn els arms =>
  rw[cG] at h;by_cases F:op=1
  ·rw[if_pos F] at h;right
   cases xs with
   | nil=>cases h
   | cons x0 ys =>
    simp only[letP] at h
    cases ht:aa p M sc x0 none with
    | none=>rw[ht] at h;cases h
    | some t=>rw[ht] at h;exact v x t (hF _ _ _ _ ho (λu h=>by cases h) ht) h
  rw[if_neg F] at h;by_cases E:op=2
  ·rw[if_pos E] at h;exact .inl (d _ h)
  rw[if_neg E] at h;by_cases D:op=3
  ·rw[if_pos D] at h;exact .inl (d _ h)
  rw[if_neg D] at h;by_cases B:op=4
  ·rw[if_pos B] at h;exact .inl (d _ h)
  rw[if_neg B] at h;by_cases A:op=6
  ·rw[if_pos A] at h;exact .inl (d _ h)
  rw[if_neg A] at h;by_cases z:op=7
  ·rw[if_pos z] at h;exact .inl (d _ h)
  rw[if_neg z] at h;by_cases y:op=8
  ·rw[if_pos y] at h;exact .inl (d _ h)
  rw[if_neg y] at h;by_cases w:op=9
  ·rw[if_pos w] at h;unfold cJ at h
   cases hok:bL p (aa p M) sc m s xs with
   | false=>rw[hok] at h;cases h
   | true =>
    rw[hok,if_pos rfl] at h;by_cases g:x=-1
    ·rw[if_pos g] at h;injection h with h;injection h with h1 h2;exact .inl ⟨h1.symm,h2.symm⟩
    rw[if_neg g] at h;right;refine v x (refT s) (oM ?_) h;unfold bL at hok
    cases hix:idxP p.acNames s.data.toList with
    | none=>rw[hix] at hok;cases hok
    | some k =>
     have f:=(cg _ _ _ _ hix).2;unfold Pg.acNames at f;rw[List.getElem?_map] at f
     cases ha:p.actors[k]? with
     | none=>rw[ha] at f;cases f
     | some a =>
      rw[ha] at f;injection f with f;rw[<-f];exact hU.acts a (List.mem_of_getElem? ha)
  rw[if_neg w] at h;by_cases r:op=10
  ·rw[if_pos r] at h;exact .inl (d _ h)
  rw[if_neg r] at h;by_cases q:op=11
  ·rw[if_pos q] at h;injection h with h;injection h with h1 h2;exact .inl ⟨h1.symm,h2.symm⟩
  rw[if_neg q] at h;by_cases l:op=12
  ·rw[if_pos l] at h;exact .inl (d _ h)
  rw[if_neg l] at h
  cases h
def ownV (own:Nat->Prop) (v:Value):Nat->Prop:=λb=>own b\/v.ownBlock=some b
structure SL (w wr:À) (own:Nat->Prop) (mb sb:Nat) (p:Pg) (sc scj:Sc) (v:Value) (k:Nat) (zs:List Int):Prop where
 st:Stm mb w wr
 row:wr.ownsRow w 3 1 v k (zs.map (Value.int .i64))
 kl:zs=k
 sco:ScS wr (ownV own v) mb sb scj
 ok:ScOk p scj
 act:0<=scj.actor
 back:fj scj zs=sc
 i64s:∀z∈zs,i64 z
section
variable {w wr wr':À} {own:Nat->Prop} {mb sb:Nat} {p:Pg} {sc scj scj':Sc} {v v':Value} {k:Nat} {zs:List Int} {c:CB} {sc0:Sc}
def pT (h:Stm mb wr wr'):wr.grownBy wr' (some mb):=⟨h.s.os,h.s.tape,h.s.output,h.s.size,λb hb hne=>h.s.block b hb (λe=>hne (by unfold only at e;rw[e]))⟩
def SL.bel (h:SL w wr own mb sb p sc scj v k zs) (hb:Below wr wr wr'):SL w wr' own mb sb p sc scj v k zs:=
 ⟨h.st.trans (Stm.of_below hb),h.row.kept (row:=none) ⟨hb.os,hb.tape,hb.output,hb.size,λb hk _=>hb.block b hk⟩ (by cases hx:v.ownBlock<;>simp),h.kl,h.sco.below hb,h.ok,h.act,h.back,h.i64s⟩
def SL.stm (h:SL w wr own mb sb p sc scj v k zs) (hs:Stm mb wr wr') (hm:mb<w) (hsc:ScS wr' (ownV own v) mb sb scj') (ho:ScOk p scj') (ha:0<=scj'.actor) (hb:fj scj' zs=sc0):SL w wr' own mb sb p sc0 scj' v k zs:=
 ⟨h.st.trans hs,h.row.kept (pT hs) (by
  cases hx:v.ownBlock with
  | none=>exact .inl rfl
  | some q=>right;intro e;have:=(h.row.lt _ hx).1;injection e with e;omega),h.kl,hsc,ho,ha,hb,h.i64s⟩
def SL.env (h:SL w wr own mb sb p sc scj v k zs) (he:Env w own mb sb c p sc):Env wr (ownV own v) mb sb c p scj:=by
 obtain⟨n,f,a⟩:=he.rul
 have S:Sub (im own w) (im (ownV own v) wr) w wr:=λb hb=>⟨⟨ρ hb.1 h.st.size,λx=>by
  rcases x with x|x
  ·exact hb.2 x
  have:=(h.row.lt _ x).1;have:=hb.1;omega⟩,h.st.s.block b hb.1 (λe=>hb.2 (by unfold only at e;rw[e];exact he.mb.1))⟩
 exact⟨he.chk.to S,⟨n,f,a.to S⟩,h.sco,λb hb=>by
  rcases hb with hb|hb
  ·exact ρ (he.ol b hb) h.st.size
  exact (h.row.lt _ hb).2⟩
def SL.sub (h:SL w wr own mb sb p sc scj v k zs) (ho:own mb):Sub (im own w) (im (ownV own v) wr) w wr:=λb hb=>⟨⟨ρ hb.1 h.st.size,λx=>by
 rcases x with x|x
 ·exact hb.2 x
 have:=(h.row.lt _ x).1;have:=hb.1;omega⟩,h.st.s.block b hb.1 (λe=>hb.2 (by unfold only at e;rw[e];exact ho))⟩
def SL.app (h:SL w wr own mb sb p sc scj v k zs) (hm:mb<w) {i:Int} (hrow:wr'.ownsRow w 3 1 v' (k+1) (zs.map (Value.int .i64)++[.int .i64 i])) (hg:wr.grownBy wr' v.ownBlock) (hv:v'.ownBlock=v.ownBlock\/v'.ownBlock=some wr) (hi:i64 i) (hb:(fj scj zs).unset i=sc0):SL w wr' own mb sb p sc0 scj v' (k+1) (zs++[i]):=by
 have a:v.ownBlock≠some mb:=λe=>by have:=(h.row.lt _ e).1;omega
 have f:Stm mb w wr':=⟨⟨hg.os.trans h.st.s.os,hg.tape.trans h.st.s.tape,hg.output.trans h.st.s.output,ψ h.st.s.size hg.size,λb hb ho=>(hg.block b (ρ hb h.st.s.size) (λe=>by have:=(h.row.lt _ e.symm).1;omega)).trans (h.st.s.block b hb ho)⟩,λx=>(h.st.m x).same (hg.block mb (ρ hm h.st.size) (λe=>a e.symm))⟩
 have S:Sub (im (ownV own v) wr) (im (ownV own v') wr') wr wr':=λb hb=>⟨⟨ρ hb.1 hg.size,λx=>by
  rcases x with x|x
  ·exact hb.2 (.inl x)
  rcases hv with e|e
  ·exact hb.2 (.inr (by rw[<-e];exact x))
  rw[e] at x;injection x with x;have:=hb.1;omega⟩,hg.block b hb.1 (λe=>hb.2 (.inr e.symm))⟩
 have d:ownV own v mb:=by obtain⟨_,_,_,_,x⟩:=h.sco;exact x.om
 refine⟨f,?_,by simp[h.kl],h.sco.sub S (hg.block mb (ρ hm h.st.size) (λe=>a e.symm)) ?_,h.ok,h.act,?_,λz hz=>?_⟩
 ·rw[List.map_append];exact hrow
 ·rcases d with x|x
  ·exact .inl x
  exact absurd x a
 ·rw[mZ];exact hb
 rcases List.mem_append.1 hz with hz|hz
 ·exact h.i64s z hz
 simp at hz;rw[hz];exact hi
end
variable {S:Sc->St->Option (Int×Sc)} {l:List St}
def tz {j:Nat} (h:j<l):dt S sc (l.drop j)=(aJ l[j]&&match S sc l[j] with|none=>false|some q=>dt S q.2 (l.drop (j+1))):=by
 rw[bk h,dt]
 cases S sc l[j]<;>rfl
def rN {j:Nat} (h:¬j<l):dt S sc (l.drop j)=true:=by
 rw[ε ω,dt]
def tx {c:CB} {p:Pg} {mb n:Nat} (hq:StPre c p mb M n) (hU:Upp p) (hM:n<=M) (hN:n<=999999999):eY c p mb M (n+1):=by
 intro own sb sc v l w hd Y ho bm hl;obtain⟨A,cap,rfl⟩:=hl.form;have eh:=hl.le9;have ei:l.length<=1000000000:=by have:=jh l;omega
 obtain⟨HQ,HU,HM⟩:=zd3 hq hU hM;have HN:Hid (n<=1000000000):=by show n<=1000000000;omega
 have HD:Hid (∀st∈l,St.deep st<=n+1):=λst hs=>by have:=il l st hs;omega
 obtain⟨HE,HL,HO⟩:=zd3 Y hl Y.mb.1;have an:=Y.mb.2;have cb:Hid (SL w w own mb sb p sc sc () 0 []):=⟨Stm.refl _ _,World.ownsRow_nil _ _ _ _,rfl,Y.sco.sub (λb hb=>⟨⟨hb.1,λx=>by rcases x with x|x;(exact hb.2 x);cases x⟩,rfl⟩) rfl (.inl Y.mb.1),ho,bm,rfl,λz hz=>by cases hz⟩
 obtain⟨io,bg,be,bf,bi⟩:=jz;have U:Hid (prog.info? 3=some io/\io.zero=some (.int .i64 0)/\io.size=1/\io.bytes=8):=⟨bg,be,bf,bi⟩
 have bo:Hid (aF p M (n+1) sc l=dt (cG p (aa p M) (aF p M n)) sc (l.drop 0)):=rfl;clear hq hU hM hN hd Y ho bm hl bg be bf bi;obtain⟨y,O⟩:=γ (aF p M (n+1) sc l)
 rw[<-O] at bo;rw[<-O];clear O;go_in;go_wp2_with fail;go_loopw [16,7] (λi v7 wr=>∃(j k:Nat) (N:Option Addr) (B:Nat) (t:List Int) (a:Sc),j<=l/\k<=j/\i=.int .i64 j/\v7=.slice N k B/\Hid (y=dt (cG p (aa p M) (aF p M n)) a (l.drop j))/\Hid (SL w wr own mb sb p sc a (.slice N k B) k t)) (λi _ _=>l.length-(intOf i).toNat)
 case atStart=>exact⟨0,0,none,0,[],sc,ω,ω,rfl,rfl,bo,cb⟩
 case round =>
  obtain⟨j,k,N,B,t,a,hj,ej,rfl,rfl,HV,E⟩:=hrel;by_cases hlt:j<l
  ·obtain⟨L,a0⟩:=zd2 (tz (S:=cG p (aa p M) (aF p M n)) (sc:=a) hlt) (HD _ (ν hlt));obtain⟨g1,dn,G,X,m1,s1,u1,W,th,el,ar,D0,d0,D1,d1,D2,d2,D3,d3,rfl,cs,e1,p0,p1,p2,p3,p4,p5,p6,p7,p8,bn,bc,co,ai,ba,bj,bl⟩:=pD (StsR.to HL (E.sub HO)) hlt;rw[e1] at L a0;have a8:=ai.le9;obtain⟨HY,HT,bs,bt,az,bp⟩:=zd6 ai ba bj bl bn.2.1 bc;obtain⟨bS,ap⟩:=γ (aJ (.mk G X m1 s1 u1 W th el ar))
   rw[<-ap] at L;have V:=η ap.symm;clear e1 ai ba bj bl bn bc co cs ap
   cases bS with
   | false =>
    have J:Hid (y=false):=by show _=_;rw[HV.o,L.o];rfl
    go_wp2_with (go_at_call 142;refine (kb c G X m1 s1 u1 W th el ar D0 D1 D2 D3 d0 d1 d2 d3 _ a8).mono ?_;rw[V.o];rintro e9 w9 ⟨rfl,I⟩);go_ret;rw[J.o];exact du (E.st.trans (Stm.of_below (bel ζ1 I)))
   | true =>
    go_upto_region 7 with (go_at_call 142;refine (kb c G X m1 s1 u1 W th el ar D0 D1 D2 D3 d0 d1 d2 d3 _ a8).mono ?_;rw[V.o];rintro e9 w9 ⟨rfl,I⟩);have B9:Below wr wr w9:=bel ζ1 I;have d:Hs w9 wr 120 (st9 G X m1 s1 u1 D0 W d0 D1 th d1 D2 el d2 D3 ar d3):=(I.block _ Θ).trans (Hs.new _ _ _);have g:=η (E.bel B9);have E9:=η (g.env HE);have SU:=sof (own:=ownV own (.slice N k B)) B9;obtain⟨Y9,T9,bu,bv⟩:=zd4 (ExsR.to HY SU.sub) (StsR.to HT SU.sub) (StsR.to bs SU.sub) (StsR.to bt SU.sub);have b0:=d.c 0;have b1:=d.c 1;have b2:=d.c 2;have b3:=d.c 3;have b4:=d.c 4;have b5:=d.c 5;have b6:=d.c 6;have b7:=d.c 7;have b8:=d.c 8;clear I p0 p1 p2 p3 p4 p5 p6 p7 p8 B9 d SU HY HT bs bt
    cases hst:cG p (aa p M) (aF p M n) a (.mk G X m1 s1 u1 W th el ar) with
    | none =>
     have J:Hid (y=false):=by show _=_;rw[HV.o,L.o,hst];rfl
     have ay:=η hst;clear hst;go_wp2_with (go_at_call 143;refine (sJ HQ V a0 HM HN E9 g.ok g.act Y9 T9 bu bv az bp).mono ?_;rw[ay.o];rintro e3 w3 ⟨R,u,rfl⟩);go_ret;rw[J.o];exact du (g.st.trans R)
    | some q =>
     obtain⟨u,f⟩:=q;have J:Hid (y=dt (cG p (aa p M) (aF p M n)) f (l.drop (j+1))):=by show _=_;rw[HV.o,L.o,hst];rfl
     obtain⟨ay,bq⟩:=zd2 hst (tA HQ.F HU g.ok hst);clear hst;go_upto_region 10 with (go_at_call 143;refine (sJ HQ V a0 HM HN E9 g.ok g.act Y9 T9 bu bv az bp).mono ?_;rw[ay.o];rintro e3 w3 ⟨R,rfl,al⟩);obtain⟨S3,C3⟩:=zd2 R al;clear R al b0 b1 b2 b3 b4 b5 b6 b7 b8;by_cases Z:u=-1
     ·have t1:(u != -1)=false:=by simpa using Z
      have cp:f=a:=by
       rcases bq.o with h|h
       ·exact h.2
       exact absurd Z h.1
      subst cp;have HF:=η (g.stm S3 an C3 g.ok g.act g.back);clear Z;go_wp2_with fail;exact⟨⟨j+1,k,N,B,t,f,ω,ω,by go_num,rfl,J,HF⟩,by simp[intOf];omega⟩
     have t1:(u != -1)=true:=by simpa using Z
     obtain⟨_,bh,a9,am,aq⟩:u≠-1/\u=X/\f.unset u=a/\ScOk p f/\f.actor=a.actor:=by
      rcases bq.o with h|h
      ·exact absurd h.1 Z
      exact h
     have bk:(fj f t).unset u=sc:=by rw[<-qw,a9];exact g.back
     have HF:=η (g.stm (sc0:=fj f t) S3 an C3 am (by rw[aq];exact g.act) rfl);have c6:Hid (i64 u):=by rw[bh];exact az
     have c7:=η bk;have ee:w.heap.size<=w3:=HF.st.size;clear Z bh a9 am aq bk;have br:=η (HF.bel (belA (belR w3) (.cells #[u] 3)));go_wp2_with (at_builtin;refine wpList_append_own_at _ rfl (.tmp 35) (.tmp 37) 104 rfl w 3 io (.int .i64 0) 1 8 underlying104 U.1 U.2.1 U.2.2.1 U.2.2.2 rfl π (.slice N k B) k (t.map (Value.int .i64)) rfl br.row w3 1 1 [.int .i64 u] rfl rfl (ib (Hs.new _ _ _)) one1 Ξ ω Φ ?_;intro vv w5 D H a4 aj;obtain⟨A5,c5,rfl⟩:=bU D;have c8:=η (br.app an D H aj c6 c7);clear D H a4 aj);exact⟨⟨j+1,k+1,A5,c5,t++[u],f,ω,ω,by go_num,rfl,J,c8⟩,by simp[intOf];omega⟩
  have J:Hid (y=true):=by show _=_;rw[HV.o];exact rN hlt
  have ax:=η E.o.kl;have ek:k<=1000000000:=ω;go_wp2_with fail;obtain⟨wB,rfl⟩:=γ wr
  go_loopw [42] (λi wr=>∃q:Nat,q<=k/\i=.int .i64 q/\Hid (Stm mb w wr)/\Hid (wr.ownsRow w 3 1 (.slice N k B) k (t.map (Value.int .i64)))/\Hid (ScS wr (ownV own (.slice N k B)) mb sb (fj a (t.take q)))) (λi _=>k-(intOf i).toNat)
  case atStart=>exact⟨0,ω,rfl,E.st,E.row,E.sco⟩
  case round =>
   obtain⟨q,eg,rfl,H1,H2,H3⟩:=hrel;by_cases cq:q<k
   ·have bd:q<t:=by rw[ax.o];exact cq
    have c0:=η (rL (sc:=a) bd);have T:=fW (P:=λ_=>True) H2 ax Ξ (λ_ _ _=>trivial) E.i64s;obtain⟨gz,ae,rfl,_,cz,ah⟩:=mA T bd;have ca:=η ah;have q0:(0:Int)<=(q:Int):=ω;have q1:(q:Int)<(k:Int):=ω;clear T ah;go_wp2_with (go_at_call 144;refine (jS (ownV own (.slice (some ⟨gz,ae,none⟩) k B)) mb sb _ t[q] _ H3 ca).mono ?_;rintro e4 w4 ⟨rfl,bb,ak⟩;rw[<-c0.o] at ak);refine⟨⟨q+1,ω,by go_num,H1.trans bb,H2.kept (pT bb) ?_,ak⟩,by simp[intOf];omega⟩
    cases hx:(Value.slice (some ⟨gz,ae,none⟩) k B).ownBlock with
    | none=>exact .inl rfl
    | some r=>right;intro e;have:=(H2.lt _ hx).1;injection e with e;omega
   have ao:fj a (t.take q)=sc:=by rw[List.take_of_length_le (by have:=ax.o;omega)];exact E.back
   have H4:=H3.o;rw[ao] at H4;have cd:=η H4;clear H4 ao;go_wp2;go_ret;rw[J.o];exact i8 H1 (λ_=>cd.sub (λb hb=>⟨⟨hb.1,λx=>hb.2 (.inl x)⟩,rfl⟩) rfl HO)
def vN {c:CB} {p:Pg} {mb:Nat}:eY c p mb M 0:=by
 intro t u g v l w j d h e b
 have a:l=[]:=by
  cases l with
  | nil=>rfl
  | cons x l=>have:=jh (x::l);simp at this;omega
 subst a;obtain⟨A,cap,rfl⟩:=b.form;have r:=η d;have k:Hid (aF p M 0 g []=true):=rfl;simp only[List.length_nil];go_in;go_wp2_with fail;go_loopw [16,7] (λi v7 wr=>i=.int .i64 0/\v7=.slice none 0 0/\wr=w) (λ_ _ _=>0)
 case atStart=>exact⟨rfl,rfl,rfl⟩
 case round =>
  obtain⟨rfl,rfl,rfl⟩:=hrel;go_wp2_with fail;obtain⟨f,rfl⟩:=γ wr
  go_loopw [42] (λi wr=>i=.int .i64 0/\wr=f) (λ_ _=>0)
  case atStart=>exact⟨rfl,rfl⟩
  case round =>
   obtain⟨rfl,rfl⟩:=hrel;go_wp2;go_ret;rw[k.o];exact i8 (Stm.refl _ _) (λ_=>r.sco)
def vO {c:CB} {p:Pg} {mb:Nat} (IH:xG c p mb M) (F:aO p M) (Fi:Fine p) (Ef:∀e∈p.effects,∀q∈e.params,ag q.type=true) (act:0<p.actors.length) (hU:Upp p) (n:Nat) (hM:n<=M) (hN:n<=1000000000):eY c p mb M n:=by
 induction n with
 | zero=>exact vN
 | succ n ih=>exact tx ⟨IH,F,Fi,Ef,act,ih ω ω⟩ hU ω ω
def dj (w:À) (a:Addr) (v:Value):(w.setCell a v).heap.size=w:=by simp[World.setCell]
variable {rb db:Nat} {l:List UInt8} {fl:Bool} {d:Int}
def RdAt.deep {d':Int} {w:À} (h:RdAt rb db l fl d w):RdAt rb db l fl d' (w.setCell ⟨db,1,none⟩ (d':Vl)):=
 ⟨(Below.heap_setCell _ _ _ _ (λe=>h.ne e)).trans h.r,(heap_setCell_same _ _ _ _ _ _ h.d).trans rfl⟩
variable {g:Nat}
def RdAt.setO {w:À} (h:RdAt rb db l fl d w) (h1:g≠rb) (h2:g≠db) (i:Nat) (v:Value):RdAt rb db l fl d (w.setCell ⟨g,i,none⟩ v):=
 ⟨(Below.heap_setCell _ _ _ _ (λe=>h1 e.symm)).trans h.r,(Below.heap_setCell _ _ _ _ (λe=>h2 e.symm)).trans h.d⟩
def fq (rb db:Nat) (w:À) (v:Value) (i:Nat):Stp (rdO rb db) w (w.setCell ⟨db,i,none⟩ v):=⟨rfl,rfl,rfl,by simp[World.setCell],λk _ hk=>Below.heap_setCell _ _ _ _ (λe=>hk (.inr e))⟩
variable {w':À}
def pA {base:Nat} {w:À} (h:Stp (rdO rb db) w w') (h1:rb<base) (h2:db<base):Sub (nw base w) (nw base w') w w':=λk hk =>
 ⟨⟨hk.1,ρ hk.2 h.size⟩,h.block k hk.2 (λe=>by have:=hk.1;rcases e with e|e<;>omega)⟩
set_option maxRecDepth 1000000 in
def zfNest {p:Prop} (h:p:=by
 have O:=h.d.c 1;have N:w.frozen? ⟨db,1,none⟩=false:=Lib.frozen_of_heap h.d 1;have J:IntKind.i64.wrap (d+1)=d+1:=by rw[IntKind.wrap_i64];omega
 have L:decide (d+1>65536)=false:=decide_eq_false ω;have v:=h.r.lt;have y:=h.d.lt
 first
  | guard_hyp kk0:True
    obtain⟨q,u⟩:=zd2 (fq rb db w (.int .i64 (d+1)) 1) (many_152 (h.deep (d':=d+1)) hll hpos HC)
  | guard_hyp kk1:True
    obtain⟨q,u⟩:=zd2 (fq rb db w (.int .i64 (d+1)) 1) (many_153 (h.deep (d':=d+1)) hll hpos HC)
  | obtain⟨q,u⟩:=zd2 (fq rb db w (.int .i64 (d+1)) 1) (many_154 (h.deep (d':=d+1)) hll hpos HC)
 have z:Hid (rb<w/\db<w):=⟨v,y⟩
 first
  | guard_hyp kk0:True
    go_in;go_wp2_with (go_at_call 152;refine u.mono ?_;rintro G k ⟨E,rfl,b,i,g⟩;obtain⟨I,H,rfl⟩:=b.form;have t:=η b;have e:=η i;have p:=η g;have D:k.cell? ⟨db,1,none⟩=some (.int .i64 (d+1)):=e.d.cell 1;have B:k.frozen? ⟨db,1,none⟩=false:=Lib.frozen_of_heap e.d 1;have A:IntKind.i64.wrap (d+1-1)=d:=(by rw[IntKind.wrap_i64];omega))
  | guard_hyp kk1:True
    go_in;go_wp2_with (go_at_call 153;refine u.mono ?_;rintro G k ⟨E,rfl,b,i,g⟩;obtain⟨I,H,rfl⟩:=b.form;have t:=η b;have e:=η i;have p:=η g;have D:k.cell? ⟨db,1,none⟩=some (.int .i64 (d+1)):=e.d.cell 1;have B:k.frozen? ⟨db,1,none⟩=false:=Lib.frozen_of_heap e.d 1;have A:IntKind.i64.wrap (d+1-1)=d:=(by rw[IntKind.wrap_i64];omega))
  | go_in
    go_wp2_with (go_at_call 154;refine u.mono ?_;rintro G k ⟨E,rfl,b,i,g⟩;obtain⟨I,H,rfl⟩:=b.form;have t:=η b;have e:=η i;have p:=η g;have D:k.cell? ⟨db,1,none⟩=some (.int .i64 (d+1)):=e.d.cell 1;have B:k.frozen? ⟨db,1,none⟩=false:=Lib.frozen_of_heap e.d 1;have A:IntKind.i64.wrap (d+1-1)=d:=(by rw[IntKind.wrap_i64];omega))
 go_ret;have F:=t.o;rw[dj] at F;have M:=ψ q.size p.size;have S:=pA (base:=w) (fq rb db k (d:Vl) 1) z.1 z.2;refine⟨_,rfl,SlR.to' F S (λ_ _ x=>x.to S),?_,?_⟩
 ·have:=e.deep (d':=d);first|exact this|simpa using this
 have:=(q.trans p).trans (fq rb db k (d:Vl) 1);first|exact this|simpa using this) :p:=h
variable {tl:List UInt8}
def nested_125 {f:Unit->Ty->List UInt8×Unit} {l:List Ty} {w:À} (h:RdAt rb db ((ah f () l).1++tl) false d w) (hd0:0<=d) (hd:d+1<=65536) (hll:((ah f () l).1++tl).length<=549755813888) (hpos:∀a∈l,0<(f () a).1.length) (HC:∀(j:Nat) (hj:j<l) (tl:List UInt8) (W:À),RdAt rb db ((f () l[j]).1++tl) false (d+1) W->((f () l[j]).1++tl).length<=549755813888->Calls prog 87 #[db] W (cW TyR l[j] rb db tl (d+1) W)):
 Calls prog 125 #[db,.func (.func 87) #[db] #[]] w (yd TyR 3 l rb db tl d w):=by
 have kk0:=trivial;exact zfNest
def nested_127 {f:Unit->Ex->List UInt8×Unit} {l:List Ex} {w:À} (h:RdAt rb db ((ah f () l).1++tl) false d w) (hd0:0<=d) (hd:d+1<=65536) (hll:((ah f () l).1++tl).length<=549755813888) (hpos:∀a∈l,0<(f () a).1.length) (HC:∀(j:Nat) (hj:j<l) (tl:List UInt8) (W:À),RdAt rb db ((f () l[j]).1++tl) false (d+1) W->((f () l[j]).1++tl).length<=549755813888->Calls prog 88 #[db] W (cW ExR l[j] rb db tl (d+1) W)):
 Calls prog 127 #[db,.func (.func 88) #[db] #[]] w (yd ExR 5 l rb db tl d w):=by
 have kk1:=trivial;exact zfNest
def nested_128 {f:Unit->St->List UInt8×Unit} {l:List St} {w:À} (h:RdAt rb db ((ah f () l).1++tl) false d w) (hd0:0<=d) (hd:d+1<=65536) (hll:((ah f () l).1++tl).length<=549755813888) (hpos:∀a∈l,0<(f () a).1.length) (HC:∀(j:Nat) (hj:j<l) (tl:List UInt8) (W:À),RdAt rb db ((f () l[j]).1++tl) false (d+1) W->((f () l[j]).1++tl).length<=549755813888->Calls prog 129 #[db] W (cW StR l[j] rb db tl (d+1) W)):
 Calls prog 128 #[db,.func (.func 129) #[db] #[]] w (yd StR 9 l rb db tl d w):=by
 have kk2:=trivial;exact zfNest
variable {t:Nat} {cs:Array Value} {v:Value}
def er {w:À} {i:Nat} (h:Hs w g t cs):Hs (w.setCell ⟨g,i,none⟩ v) g t (cs.setIfInBounds i v):=heap_setCell_same _ _ _ _ _ _ h
def cV {w:À} {g' i:Nat} (h:Hs w g t cs) (hn:g≠g'):Hs (w.setCell ⟨g',i,none⟩ v) g t cs:=(Below.heap_setCell _ _ _ _ (λe=>hn e)).trans h
def gj {O:Nat->Prop} {w:À} (h:Stp O w w') (hg:w<=g) (i:Nat) (v:Value):Stp O w (w'.setCell ⟨g,i,none⟩ v):=
 ⟨h.os,h.tape,h.output,by rw[dj];exact h.size,λk hk hn=>(Below.heap_setCell _ _ _ _ (λe=>by simp at e;omega)).trans (h.block k hk hn)⟩
def uM {O:Nat->Prop} {w:À} (h:Stp O w w') (hg:w<=g) (cs:Array Value):Stp O w (w'.setRow g cs):=
 ⟨h.os,h.tape,h.output,by simp;exact h.size,λk hk hn=>(setRow_other _ _ _ _ ω).trans (h.block k hk hn)⟩
def kS {w:À} (h:Hs w g t cs) (hs:Stp (rdO rb db) w w') (h1:g≠rb) (h2:g≠db):Hs w' g t cs:=bp h hs (λe=>by rcases e with e|e;exact h1 e;exact h2 e)
structure Rw (rb db tid:Nat) (Z:List Value) (w0:À) (q:Nat) (K:À->Prop) (cs:List Value) (l:List UInt8) (d:Int) (W:À):Prop where
 hr:rb<w0
 hd:db<w0
 hq:w0<=q
 z:q+1<=W
 rd:RdAt rb db l false d W
 r:q≠w0->Hs W w0 tid Z.toArray
 t:Hs W q tid cs.toArray
 st:Stp (rdO rb db) w0 W
 len:l.length<=549755813888
 k:∀X,Sub (nw (q+1) W) (nw w0 X) W X->K X
section
variable {rb db tid:Nat} {Z:List Value} {w0:À} {q:Nat} {K:À->Prop} {cs:List Value} {l l':List UInt8} {d:Int} {W W':À}
def Rw.b (A:Hid (Rw rb db tid Z w0 q K cs l d W)):W.cell? db=some (rb:Vl):=A.rd.d.c 0
def Rw.f (A:Hid (Rw rb db tid Z w0 q K cs l d W)) (i:Nat) (h:cs[i]?=some v:=by exact rfl):W.cell? ⟨q,i,none⟩=some v/\W.frozen? ⟨q,i,none⟩=false:=⟨A.t.c i (by rw[List.getElem?_toArray];exact h),Lib.frozen_of_heap A.t i⟩
def Rw.sub (A:Hid (Rw rb db tid Z w0 q K cs l d W)) (s:Stp (rdO rb db) W W'):Sub (nw (q+1) W) (nw (q+1) W') W W':=λk hk =>
 ⟨⟨hk.1,ρ hk.2 s.size⟩,s.block k hk.2 (λe=>by have:=hk.1;have:=A.hr;have:=A.hd;have:=A.hq;rcases e with e|e<;>omega)⟩
def sub_tr {P Q R:Nat->Prop} {w1 w2 w3:À} (h:Sub P Q w1 w2) (h':Sub Q R w2 w3):Sub P R w1 w3:=λk hk=>⟨(h' k (h k hk).1).1,(h' k (h k hk).1).2.trans (h k hk).2⟩
def Rw.nk {x:List UInt8} (A:Hid (Rw rb db tid Z w0 q K cs (x++l') d W)) (s:Stp (rdO rb db) W W') (a:RdAt rb db l' false d W') {K2:À->Prop} (h:∀X,Sub (nw W W') (nw w0 X) W' X->K2 X):Hid (Rw rb db tid Z w0 q (λX=>K X/\K2 X) cs l' d W'):=by
 have l:=A.hr;have j:=A.hd;have i:=A.hq;have g:=A.z
 exact⟨l,j,i,ψ g s.size,a,λe=>kS (A.r e) s ω ω,kS A.t s ω ω,A.st.trans s,by have:=A.len;rw[μ] at this;omega,
  λX S=>⟨A.k X (sub_tr (Rw.sub A s) S),h X (λk hk=>S k ⟨ψ g hk.1,hk.2⟩)⟩⟩
def Rw.n {x:List UInt8} (A:Hid (Rw rb db tid Z w0 q K cs (x++l') d W)) (s:Stp (rdO rb db) W W') (a:RdAt rb db l' false d W'):Hid (Rw rb db tid Z w0 q K cs l' d W'):=by
 have B:=(Rw.nk A s a (K2:=λ_=>True) (λ_ _=>trivial)).o;exact⟨B.hr,B.hd,B.hq,B.z,B.rd,B.r,B.t,B.st,B.len,λX S=>(B.k X S).1⟩
def Rw.p (A:Hid (Rw rb db tid Z w0 q K cs l d W)) (i:Nat) (v:Value):Hid (Rw rb db tid Z w0 q K (cs.set i v) l d (W.setCell ⟨q,i,none⟩ v)):=by
 have h:=A.hr;have g:=A.hd;have a:=A.hq
 exact⟨h,g,a,by rw[dj];exact A.z,A.rd.setO ω ω i v,λe=>cV (A.r e) (λe2=>e e2.symm),by have:=er (i:=i) (v:=v) A.t;rwa [List.setIfInBounds_toArray] at this,gj A.st a i v,A.len,
  λX S=>A.k X (sub_tr (λk hk=>⟨⟨hk.1,by rw[dj];exact hk.2⟩,Below.heap_setCell _ _ _ _ (λe=>by have:=hk.1;simp at e;omega)⟩) S)⟩
def str_le {s:Ê} {L:Nat} (h:(aM s).length<=L) (hL:L<=549755813888):s.size<=maxLen:=by have:=(aS s).1;unfold maxLen;omega
theorem Rw.s {s:Ê} (A:Hid (Rw rb db tid Z w0 q K cs (aM s++l) d W)):Hid (s.size<=maxLen):=str_le (L:=549755813888) (by have:=A.len;rw[μ] at this;omega) (υ _)
variable {cs':List Value}
def Rw.w (A:Hid (Rw rb db tid Z w0 q K cs l d W)) (e:cs=cs':=by exact rfl):∃X,X=W/\Hid (Rw rb db tid Z w0 q K cs' l d X):=⟨_,rfl,by subst e;exact A⟩
def Rw.one {w:À} (h:RdAt rb db l false d w) (hl:l.length<=549755813888):∃W1,Hid (W1=w.alloc (.cells Z.toArray tid))/\Hid (Rw rb db tid Z w w (λ_=>True) Z l d W1):=by
 refine⟨_,rfl,h.r.lt,h.d.lt,υ _,by simp,h.bel ζ1,λe=>absurd rfl e,Hs.new _ _ _,Stp.of_below ζ1,hl,λ_ _=>trivial⟩
def ta (w:À) (o:Obj) (t:TypeId) (cs:Array Value):Hs ((w.alloc o).alloc (.cells cs t)) (w+1) t cs:=by
 have:=Hs.new (w.alloc o) t cs;simpa using this
def Rw.two {w:À} (h:RdAt rb db l false d w) (hl:l.length<=549755813888):∃W1,Hid (W1=(w.alloc (.cells Z.toArray tid)).alloc (.cells Z.toArray tid))/\Hid (Rw rb db tid Z w (w+1) (λ_=>True) Z l d W1):=by
 refine⟨_,rfl,h.r.lt,h.d.lt,Nat.le_succ _,by simp,h.bel ζ2,λ_=>fu (Hs.new _ _ _) _,ta _ _ _ _,Stp.of_below ζ2,hl,λ_ _=>trivial⟩
def Rw.e {α:Type} {R:À->(Nat->Prop)->List Value->α->Prop} {a:α} (A:Hid (Rw rb db tid Z w0 q K cs l d W)) (h:∀X,K X->R X (nw w0 X) cs' a):
 Hid (cW R a rb db l d w0 (.returned (.agg cs'.toArray)) (W.setRow w0 cs'.toArray)):=by
 have j:=A.hr;have i:=A.hd;have g:=A.hq;refine⟨_,rfl,h _ (A.k _ λk hk=>⟨⟨by have:=hk.1;omega,by have:=hk.2;simp;omega⟩,setRow_other _ _ _ _ (by have:=hk.1;omega)⟩),⟨(setRow_other _ _ _ _ ω).trans A.rd.r,(setRow_other _ _ _ _ ω).trans A.rd.d⟩,uM A.st (υ _) _⟩
end
mutual
def Ty.rd (d:Int):Ty->Prop
 | .mk k _ a=>nOk k/\d+1<=65536/\Ty.rds (d+1) a
def Ty.rds (d:Int):List Ty->Prop
 | []=>True
 | x::xs=>Ty.rd d x/\Ty.rds d xs
end
def Ty.rds_iff (d:Int) (l:List Ty):Ty.rds d l↔∀x∈l,x.rd d:=by
 induction l with
 | nil=>simp[Ty.rds]
 | cons x l ih=>simp[Ty.rds,ih]
def wTy_pos (t:Ty):0<(wTy nm0N () t).1.length:=by
 cases t with
 | mk k s a=>rw[wTy];simp only[μ];have:=(aS s).2;omega
def DbS (rb db:Nat) (X:À):Prop:=X.cell? db=some (rb:Vl)
def DbS.of {w:À} (h:RdAt rb db l fl d w):DbS rb db w:=h.d.cell 0
def mP {w:À} {a b c:Value} (h:Hs w g t #[a,b,c]):w.cell? g=some a/\w.cell? ⟨g,1,none⟩=some b/\w.cell? ⟨g,2,none⟩=some c/\w.frozen? g=false/\w.frozen? ⟨g,1,none⟩=false/\w.frozen? ⟨g,2,none⟩=false:=⟨h.cell 0,h.cell 1,h.cell 2,Lib.frozen_of_heap h 0,Lib.frozen_of_heap h 1,Lib.frozen_of_heap h 2⟩
def TyMid (rb db g2:Nat) (l:List UInt8) (d k:Int) (s:Ê) (w:À) (v:Value) (W:À):Prop:=
 ∃g3,v=.pointer (some ⟨g3,0,none⟩)/\w.heap.size<=g3/\g3<W.heap.size/\RdAt rb db l false d W/\Hs W g3 40 #[k,s,()]/\Stp (rdO rb db) w W
def rtyp_any (n:Nat):∀(t:Ty) (rb db:Nat) (tl:List UInt8) (d:Int) (w:À),SizeOf.sizeOf t<=n->t.rd d->0<=d->RdAt rb db ((wTy nm0N () t).1++tl) false d w->((wTy nm0N () t).1++tl).length<=549755813888->Calls prog 87 #[db] w (cW TyR t rb db tl d w):=by
 induction n with
 | zero=>intro t rb db tl d w hn;cases t;simp at hn
 | succ n ih =>
  intro t rb db tl d w hn F ag h R
  cases t with
  | mk k s a =>
  rw[Ty.rd] at F
  have e0:(wTy nm0N () (.mk k s a)).1++tl=numB k++(aM s++((ah (wTy nm0N) () a).1++tl)):=by
   rw[wTy,oZ];simp only[χ,ah]
  rw[e0] at h R
  have HC:=η (λ(j:Nat) (hj:j<a) (tl:List UInt8) (W:À) (h1:RdAt rb db ((wTy nm0N () a[j]).1++tl) false (d+1) W) (h2:((wTy nm0N () a[j]).1++tl).length<=549755813888) =>
   ih a[j] rb db tl (d+1) W (by have:=List.sizeOf_lt_of_mem (ν hj);simp at hn;omega) ((Ty.rds_iff _ _).1 F.2.2 _ (ν hj)) ω h1 h2)
  obtain⟨HK,HD,bd⟩:=zd3 F.1 F.2.1 ag;obtain⟨q,G,B1,X1⟩:=κ w #[(0:Int),"",()] 40
  have Y:q.heap.size=w+1:=by rw[G];simp
  obtain⟨N,ak,T,ap⟩:=zd4 Y G (h.bel B1) (Stp.of_below (own:=rdO rb db) B1);have a1:=h.r.lt;have a2:=h.d.lt;have am:Hid (rb<w/\db<w):=⟨a1,a2⟩
  have D:=η R
  have af:s.size<=maxLen:=by
   have:=(aS s).1;simp only[μ] at R;unfold maxLen;omega
  have a9:=η af;clear ih hn F ag h R e0 G B1 Y af;go_in;go_upto_region 1 with fail;rw[<-ak.o];clear ak;go_cut [3] (λv W=>Hid (TyMid rb db w ((ah (wTy nm0N) () a).1++tl) d k s q v W))
  case first =>
   have d0:∀X,DbS rb db X->X.cell? db=some (rb:Vl):=λX h=>h;refine tkB (λX=>DbS rb db X) (DbS.of (T.bel (ad _))) (λhHeld=>?_);have ac:=N.o;refine θ ?_;refine wpAnyH_ready (rs:=[4,11]) Δ Θ ?_;refine (AllReadyH.cons (o:={ dst:=some 8,op:=Op.call { callee:=Callee.value (Operand.func 78),args:=#[Operand.tmp 7],argTypes:=#[87] },type:=3,pos:= "read.go:64",after:=#[{ on:=3,ground:=Ground.data }],guard:=none }) rfl (λK hK=>?_) (AllReadyH.cons (o:={ dst:=some 3,op:=Op.alloc 40,type:=0,pos:= "read.go:64",after:=#[],guard:=none }) rfl (λK hK=>?_) AllReadyH.nil))
   ·go_simp;refine (dH (T.bel (ad _)) HK D).mono ?_;rintro e2 E ⟨rfl,u,B⟩;refine tkR hK ?_ (λhHeld=>?_)
    ·exact DbS.of u
    clear hK K;have s2:q.heap.size<=E:=B.size;refine wpAnyH_ready (rs:=[9,11]) Δ Θ ?_;refine (AllReadyH.cons (o:={ dst:=some 13,op:=Op.call { callee:=Callee.value (Operand.func 82),args:=#[Operand.tmp 12],argTypes:=#[87] },type:=9,pos:= "read.go:64",after:=#[{ on:=8,ground:=Ground.data },{ on:=4,ground:=Ground.chain }],guard:=none }) rfl (λK hK=>?_) (AllReadyH.cons (o:={ dst:=some 3,op:=Op.alloc 40,type:=0,pos:= "read.go:64",after:=#[],guard:=none }) rfl (λK hK=>?_) AllReadyH.nil))
    ·go_simp;refine (cM (u) (by have:=D.o;rw[μ] at this;omega)).mono ?_;rintro e3 I ⟨rfl,i,l⟩;refine tkR hK ?_ (λhHeld=>?_)
     ·exact DbS.of i
     clear hK K;have s3:q.heap.size<=I:=ψ s2 l.size;refine tkQ 10 ?_;refine tkE 11 (λK hK=>?_);go_simp;refine tkR hK ?_ (λhHeld=>?_)
     ·exact DbS.of (i.bel ζ1)
     clear hK K;refine tkE 12 (λK hK=>?_);go_simp;refine tkR hK ?_ (λhHeld=>?_)
     ·exact DbS.of (i.bel ζ1)
     clear hK K;refine tkD ?_;go_wp2;go_meet;exact⟨_,rfl,ω,by simp,i.bel ζ1,Hs.new _ _ _,stpA (((Stp.of_below (ad q)).trans (bu B)).trans (bu l)) _⟩
    go_simp;refine tkR hK ?_ (λhHeld=>?_)
    ·exact DbS.of (u.bel ζ1)
    clear hK K;refine tkE 9 (λK hK=>?_);go_simp;refine (cM (u.bel (belA (belR E) (.cells #[(0:Int),"",()] 40))) (by have:=D.o;rw[μ] at this;omega)).mono ?_;rintro e3 I ⟨rfl,i,l⟩;refine tkR hK ?_ (λhHeld=>?_)
    ·exact DbS.of i
    clear hK K;have O:=Hs.new E 40 #[(0:Int),"",()];have J:Hs I E 40 #[(0:Int),"",()]:=kS O (bu (db:=db) l) ω ω;have U:=J.lt;refine tkQ 10 ?_;have Z:Stp (rdO rb db) q I:=(stpA ((Stp.of_below (ad q)).trans (bu B)) _).trans (bu l);obtain⟨z0,z1,z2,q0,q1,q2⟩:=mP J;refine tkE 12 (λK hK=>?_);go_simp;refine tkR hK ?_ (λhHeld=>?_)
    ·exact DbS.of (((i.setO (g:=E) ω ω _ _).setO (g:=E) ω ω _ _).setO (g:=E) ω ω _ _)
    clear hK K;refine tkD ?_;go_wp2;go_meet;exact⟨_,rfl,ω,by rw[dj,dj,dj];exact U,(((i.setO ω ω _ _).setO ω ω _ _).setO ω ω _ _),er (er (er J)),gj (gj (gj Z ω _ _) ω _ _) ω _ _⟩
   go_simp;refine tkR hK ?_ (λhHeld=>?_)
   ·exact DbS.of (T.bel (belA (ad _) _))
   clear hK K;refine tkE 4 (λK hK=>?_);go_simp;refine (dH (T.bel (belA (ad q) (.cells #[(0:Int),"",()] 40))) HK D).mono ?_;rintro e2 E ⟨rfl,u,B⟩;refine tkR hK ?_ (λhHeld=>?_)
   ·exact DbS.of u
   clear hK K;refine tkE 9 (λK hK=>?_);go_simp;refine (cM (u) (by have:=D.o;rw[μ] at this;omega)).mono ?_;rintro e3 I ⟨rfl,i,l⟩;refine tkR hK ?_ (λhHeld=>?_)
   ·exact DbS.of i
   clear hK K;have O:=Hs.new q.drew 40 #[(0:Int),"",()];rw[show q.drew.heap.size=w.heap.size+1 from ac] at O;have J:Hs I (w+1) 40 #[(0:Int),"",()]:=kS O ((bu (db:=db) B).trans (bu (db:=db) l)) ω ω;have U:=J.lt;have bo:q.drew.heap.size=q:=rfl;refine tkQ 10 ?_;have Z:Stp (rdO rb db) q I:=(stpA (Stp.of_below (ad q)) _).trans ((bu B).trans (bu l));obtain⟨z0,z1,z2,q0,q1,q2⟩:=mP J;refine tkE 12 (λK hK=>?_);go_simp;refine tkR hK ?_ (λhHeld=>?_)
   ·exact DbS.of (((i.setO (g:=(w+1)) ω ω _ _).setO (g:=(w+1)) ω ω _ _).setO (g:=(w+1)) ω ω _ _)
   clear hK K;refine tkD ?_;go_wp2;go_meet;exact⟨_,rfl,ω,by rw[dj,dj,dj];exact U,(((i.setO ω ω _ _).setO ω ω _ _).setO ω ω _ _),er (er (er J)),gj (gj (gj Z ω _ _) ω _ _) ω _ _⟩
  case rest =>
   obtain⟨M,rfl,bn,bg,u,ae,L⟩:=hcut.o;obtain⟨W2,rfl⟩:=γ wc
   obtain⟨bc,a7,bb⟩:=zd3 (nested_125 u bd HD (by have:=D.o;simp only[μ] at this ⊢;omega) (λx _=>wTy_pos x) HC) ae L;have ac:w.heap.size<q:=by have:=N.o;omega
   have a6:=η (kS X1 L ω ω);clear hcut u ae L;go_wp2_with fail;refine bc.mono ?_;rintro e3 H ⟨v3,rfl,V,i,l⟩;obtain⟨A,y,rfl⟩:=V.form;obtain⟨aj,a5,a8,al,ba⟩:=zd5 (kS a7 l ω ω) (kS a6 l ω ω) V i ((ap.trans bb).trans l);obtain⟨z0,z1,z2,q0,q1,q2⟩:=mP aj;have ai:Hid (Hs (H.setCell ⟨M,2,none⟩ (.slice A a y)) w 40 #[(0:Int),"",()]):=cV a5 ω
   have HF:Hid (cW TyR (.mk k s a) rb db tl d w (.returned (.agg #[k,s,.slice A a y])) ((H.setCell ⟨M,2,none⟩ (.slice A a y)).setRow w #[k,s,.slice A a y])):=by
    have S:Sub (nw W2 H) (nw w ((H.setCell ⟨M,2,none⟩ (.slice A a y)).setRow w #[k,s,.slice A a y])) H ((H.setCell ⟨M,2,none⟩ (.slice A a y)).setRow w #[k,s,.slice A a y]):=λb hb=>by
     have h1:=hb.1;have h2:=hb.2;refine⟨⟨ω,by simpa[dj] using h2⟩,?_⟩;rw[setRow_other _ _ _ _ ω];exact Below.heap_setCell _ _ _ _ (λe=>by simp at e;omega)
    refine⟨_,rfl,TyR.of (by have:=HK.o;unfold nOk at this;unfold i64;omega) a9 (TysR.to a8 S),⟨?_,?_⟩,?_⟩
    ·exact (setRow_other _ _ _ _ ω).trans ((Below.heap_setCell _ _ _ _ (λe=>by simp at e;omega)).trans al.r)
    ·exact (setRow_other _ _ _ _ ω).trans ((Below.heap_setCell _ _ _ _ (λe=>by simp at e;omega)).trans al.d)
    exact uM (gj ba ω _ _) (υ _) _
   have aa:((H.setCell ⟨M,2,none⟩ (.slice A a y)).setRow w #[k,s,.slice A a y]).heap[w.heap.size]?=some (.cells #[k,s,.slice A a y] 40 (0,0)):=setRow_heap _ _ _ _ _ _ ai;have aq:=η aa;clear V i l aa;go_wp2_with (refine wpList_store_row rfl 40 _ _ rfl w #[k,s,.slice A a y] rfl rfl 40 #[(0:Int),"",()] ai Δ rfl Ρ ?_);exact bodyPost_ret (results_cell_row results87 _ _ w 40 #[k,s,.slice A a y] _ _ rfl aq underlying40 rfl Δ) rfl HF
def ou {t:Ty} {w:À} (hrd:t.rd d) (hd:0<=d) (h:RdAt rb db ((wTy nm0N () t).1++tl) false d w) (hl:((wTy nm0N () t).1++tl).length<=549755813888):Calls prog 87 #[db] w (cW TyR t rb db tl d w):=rtyp_any _ t rb db tl d w (υ _) hrd hd h hl
def o4 (rb db g2 g3 k:Nat):Prop:=k=rb\/k=db\/k=g2\/k=g3
def ka {g2 g3:Nat} {w:À} (h:Stp (rdO rb db) w w'):Stp (o4 rb db g2 g3) w w':=⟨h.os,h.tape,h.output,h.size,λk hk hn=>h.block k hk λe=>hn (by rcases e with e|e;exact .inl e;exact .inr (.inl e))⟩
def lR (rb db g2 g3:Nat) (w:À) (cs:Array Value):Stp (o4 rb db g2 g3) w (w.setRow g2 cs):=⟨rfl,rfl,rfl,by simp,λk _ hk=>setRow_other _ _ _ _ (λe=>hk (.inr (.inr (.inl e))))⟩
def sub4 {g2 g3 base B0:Nat} {w:À} (h:Stp (o4 rb db g2 g3) w w') (h1:rb<base) (h2:db<base) (h3:g2<base) (h4:g3<base) (hb:B0<=base):Sub (nw base w) (nw B0 w') w w':=λk hk =>
 ⟨⟨ψ hb hk.1,ρ hk.2 h.size⟩,h.block k hk.2 (λe=>by have:=hk.1;rcases e with e|e|e|e<;>omega)⟩
mutual
def Ex.rd (d:Int):Ex->Prop
 | .mk op n m _ a=>nOk op/\iOk n/\iOk m/\d+1<=65536/\Ex.rds (d+1) a
def Ex.rds (d:Int):List Ex->Prop
 | []=>True
 | x::xs=>Ex.rd d x/\Ex.rds d xs
end
def Ex.rds_iff (d:Int) (l:List Ex):Ex.rds d l↔∀x∈l,x.rd d:=by
 induction l with
 | nil=>simp[Ex.rds]
 | cons x l ih=>simp[Ex.rds,ih]
def uG (op n m:Int) (s:Ê) (a:List Ex):(wEx nm0N () (.mk op n m s a)).1=numB op++(intB n++(intB m++(aM s++(ah (wEx nm0N) () a).1))):=by
 rw[wEx,lM];unfold eNum eNam;split<;>split<;>rfl
def uE (t:Ex):0<(wEx nm0N () t).1.length:=by
 cases t with
 | mk op n m s a=>rw[uG];simp only[μ];have:=(aS s).2;omega
def lE {n:Int} (h:nOk n):i64 n:=by unfold nOk at h;unfold i64;omega
def rG {n:Int} (h:iOk n):i64 n:=by unfold iOk at h;unfold i64;omega
def wt (q:Nat):∀(t:Ex) (rb db:Nat) (tl:List UInt8) (d:Int) (w:À),SizeOf.sizeOf t<=q->t.rd d->0<=d->RdAt rb db ((wEx nm0N () t).1++tl) false d w->((wEx nm0N () t).1++tl).length<=549755813888->Calls prog 88 #[db] w (cW ExR t rb db tl d w):=by
 induction q with
 | zero=>intro t rb db tl d w l;cases t;simp at l
 | succ q ih =>
  intro t rb db tl d w l u D h L
  cases t with
  | mk o n m s y =>
  rw[Ex.rd] at u;have e:(wEx nm0N () (.mk o n m s y)).1++tl=numB o++(intB n++(intB m++(aM s++((ah (wEx nm0N) () y).1++tl)))):=by rw[uG];simp only[χ]
  rw[e] at h L
  have I:=η (λ(j:Nat) (hj:j<y) (tl:List UInt8) (W:À) (h1:RdAt rb db ((wEx nm0N () y[j]).1++tl) false (d+1) W) (h2:((wEx nm0N () y[j]).1++tl).length<=549755813888) =>
   ih y[j] rb db tl (d+1) W (by have:=List.sizeOf_lt_of_mem (ν hj);simp at l;omega) ((Ex.rds_iff _ _).1 u.2.2.2.2 _ (ν hj)) ω h1 h2)
  obtain⟨U,H⟩:=zd2 u D;obtain⟨W0,E,A⟩:=Rw.two (tid:=43) (Z:=[.int .i64 0,.int .i64 0,.int .i64 0,"",.slice none 0 0]) h L;clear h L e u D ih l;go_in;go_upto_region 2 with fail;rw[<-E.o];clear E;have b:=Rw.b A;go_wp2_with fail;clear b;refine (dH A.rd U.1 A.len).mono ?_;rintro _ Y ⟨rfl,a,s⟩;replace A:=Rw.n A (bu s) a;clear a s;obtain⟨B,z⟩:=Rw.f A 0;replace A:=Rw.p A 0 (o:Vl);have b:=Rw.b A;go_wp2_with fail;clear b;refine (ox A.rd U.2.1 A.len).mono ?_;rintro _ V ⟨rfl,a,s⟩;replace A:=Rw.n A (bu s) a;clear a s;obtain⟨B,z⟩:=Rw.f A 1;replace A:=Rw.p A 1 (n:Vl);have b:=Rw.b A;go_wp2_with fail;clear b;refine (ox A.rd U.2.2.1 A.len).mono ?_;rintro _ T ⟨rfl,a,s⟩;replace A:=Rw.n A (bu s) a;clear a s;obtain⟨B,z⟩:=Rw.f A 2;replace A:=Rw.p A 2 (m:Vl);have b:=Rw.b A;go_wp2_with fail;clear b;have G:=Rw.s A;refine (cM A.rd A.len).mono ?_;rintro _ N ⟨rfl,a,s⟩;replace A:=Rw.n A (bu s) a;clear a s;obtain⟨B,z⟩:=Rw.f A 3;replace A:=Rw.p A 3 (s:Vl);go_wp2_with fail;refine (nested_127 (f:=wEx nm0N) A.rd H U.2.2.2.1 A.len (λx _=>uE x) I).mono ?_;rintro _ M ⟨_,rfl,v,a,s⟩;obtain⟨i,g,rfl⟩:=v.form;replace A:=Rw.nk A s a λX S=>ExsR.to v S;clear v a s;obtain⟨B,z⟩:=Rw.f A 4;replace A:=Rw.p A 4 (.slice i y g);go_upto_region 7 with fail;obtain⟨J,y,A⟩:=Rw.w (cs':=[.int .i64 o,.int .i64 n,.int .i64 m,.string s,.slice i y g]) A;rw[<-y];clear y
  have F:=Rw.e (R:=ExR) (a:=(.mk o n m s y)) (cs':=[.int .i64 o,.int .i64 n,.int .i64 m,.string s,.slice i y g]) A λX k=>ExR.of ⟨lE U.1,rG U.2.1,rG U.2.2.1⟩ G k.2;have O:=setRow_heap _ _ _ #[o,n,m,s,.slice i y g] _ _ (A.r ω);go_wp2_with (first|(refine wpList_load_row rfl 43 _ rfl (w+1) rfl 43 _ _ _ A.t underlying43 rfl Δ ?_)|(refine wpList_store_row rfl 43 _ _ rfl w #[o,n,m,s,.slice i y g] rfl rfl 43 _ (A.r ω) Δ rfl Ρ ?_));exact bodyPost_ret (results_cell_row results88 _ _ w 43 _ _ _ rfl O underlying43 rfl Δ) rfl F
def pc {t:Ex} {w:À} (hrd:t.rd d) (hd:0<=d) (h:RdAt rb db ((wEx nm0N () t).1++tl) false d w) (hl:((wEx nm0N () t).1++tl).length<=549755813888):Calls prog 88 #[db] w (cW ExR t rb db tl d w):=wt _ t rb db tl d w (υ _) hrd hd h hl
end
section
def Fld.rd (d:Int) (f:Fld):Prop:=f.type.rd d
def Ctr.rd (d:Int) (c:Ctr):Prop:=∀f∈c.fields,f.rd d
def Dcl.rd (d:Int) (c:Dcl):Prop:=∀f∈c.ctors,f.rd d
def Eff.rd (d:Int) (c:Eff):Prop:=(∀f∈c.params,f.rd d)/\c.answer.rd d
def Fn.rd (d:Int) (c:Fn):Prop:=(∀f∈c.params,f.rd d)/\c.result.rd d/\nOk c.slots/\c.body.rd d
def Vr.rd (d:Int) (c:Vr):Prop:=c.type.rd d/\c.init.rd d
def jP (t:Fld):0<(wFld nm0N () t).1.length:=by unfold wFld;simp only[μ];have:=(aS t.name).2;omega
def sy (t:Ctr):0<(wCtr nm0N () t).1.length:=by unfold wCtr;simp only[μ];have:=(aS t.name).2;omega
def wDcl_pos (t:Dcl):0<(wDcl nm0N () t).1.length:=by unfold wDcl;simp only[μ];have:=(aS t.name).2;omega
def wEff_pos (t:Eff):0<(wEff nm0N () t).1.length:=by unfold wEff;simp only[μ];have:=(aS t.name).2;omega
def wFn_pos (t:Fn):0<(wFn nm0N () t).1.length:=by unfold wFn;simp only[μ];have:=(aS t.name).2;omega
def wVr_pos (t:Vr):0<(wVr nm0N () t).1.length:=by unfold wVr;simp only[μ];have:=(aS t.name).2;omega
variable {rb db:Nat} {tl:List UInt8} {d:Int}
def my {t:Fld} {w:À} (u:t.rd d) (u0:0<=d) (h:RdAt rb db ((wFld nm0N () t).1++tl) false d w) (L:((wFld nm0N () t).1++tl).length<=549755813888):Calls prog 86 #[db] w (cW FldR t rb db tl d w):=by
 have e:(wFld nm0N () t).1++tl=aM t.name++((wTy nm0N () t.type).1++(tl)):=by simp only[wFld,bJ,χ]
 rw[e] at h L;obtain⟨z,y⟩:=zd2 u0 (show t.type.rd d from u);obtain⟨E,r,A⟩:=Rw.one (tid:=118) (Z:=["",.int .i64 0,"",.slice none 0 0]) h L;go_in;go_upto_region 1 with fail;rw[<-r.o];have b:=Rw.b A;go_wp2_with fail;have x:=Rw.s A;refine (cM A.rd A.len).mono ?_;rintro _ D ⟨rfl,a,s⟩;replace A:=Rw.n A (bu s) a;go_wp2_with fail;refine (ou y z A.rd A.len).mono ?_;rintro _ B ⟨_,rfl,v,a,s⟩;obtain⟨j,i,g,q,l,rfl,-⟩:=ap v;replace A:=Rw.nk A s a λX S=>v.to S;have F:=Rw.e (R:=FldR) (a:=t) (cs':=[.string t.name,.int .i64 j,.string i,.slice q g l]) A λX k=>⟨_,rfl,x,k.2⟩
 have O:=setRow_heap _ _ _ #[t.name,j,i,.slice q g l] _ _ A.t;go_wp2_with (refine wpList_store_row rfl 118 _ _ rfl w #[t.name,j,i,.slice q g l] rfl rfl 118 _ A.t Δ rfl Ρ ?_);exact bodyPost_ret (results_cell_row results86 _ _ w 118 _ _ _ rfl O underlying118 rfl Δ) rfl F
def uT {t:Ctr} {w:À} (u:t.rd d) (u0:0<=d) (h:RdAt rb db ((wCtr nm0N () t).1++tl) false d w) (L:((wCtr nm0N () t).1++tl).length<=549755813888):Calls prog 84 #[db] w (cW CtrR t rb db tl d w):=by
 have e:(wCtr nm0N () t).1++tl=aM t.name++((ah (wFld nm0N) () t.fields).1++(tl)):=by simp only[wCtr,bJ,χ]
 rw[e] at h L;obtain⟨y,r⟩:=zd2 u0 (show ∀f∈t.fields,f.rd d from u);obtain⟨D,l,A⟩:=Rw.one (tid:=122) (Z:=["",.slice none 0 0]) h L;go_in;go_upto_region 1 with fail;rw[<-l.o];have b:=Rw.b A;go_wp2_with fail;have q:=Rw.s A;refine (cM A.rd A.len).mono ?_;rintro _ B ⟨rfl,a,s⟩;replace A:=Rw.n A (bu s) a;go_wp2_with fail;refine (many_85 (f:=wFld nm0N) A.rd A.len (λx _=>jP x) λj hj _ _ h1 h2=>my (r _ (ν hj)) y h1 h2).mono ?_;rintro _ z ⟨_,rfl,v,a,s⟩;obtain⟨i,g,rfl⟩:=v.form;replace A:=Rw.nk A s a λX S=>FldsR.to v S;have F:=Rw.e (R:=CtrR) (a:=t) (cs':=[.string t.name,.slice i t.fields g]) A λX k=>⟨_,rfl,q,k.2⟩
 have O:=setRow_heap _ _ _ #[t.name,.slice i t.fields g] _ _ A.t;go_wp2_with (refine wpList_store_row rfl 122 _ _ rfl w #[t.name,.slice i t.fields g] rfl rfl 122 _ A.t Δ rfl Ρ ?_);exact bodyPost_ret (results_cell_row results84 _ _ w 122 _ _ _ rfl O underlying122 rfl Δ) rfl F
def reff_at {t:Eff} {w:À} (u:t.rd d) (u0:0<=d) (h:RdAt rb db ((wEff nm0N () t).1++tl) false d w) (L:((wEff nm0N () t).1++tl).length<=549755813888):Calls prog 35 #[db] w (cW EffR t rb db tl d w):=by
 have e:(wEff nm0N () t).1++tl=aM t.name++((ah (wFld nm0N) () t.params).1++((wTy nm0N () t.answer).1++(tl))):=by simp only[wEff,bJ,χ]
 rw[e] at h L;obtain⟨J,N,I⟩:=zd3 u0 (u.1) (u.2);obtain⟨W0,H,A⟩:=Rw.two (tid:=50) (Z:=["",.slice none 0 0,.int .i64 0,"",.slice none 0 0]) h L;go_in;go_upto_region 2 with fail;rw[<-H.o];have b:=Rw.b A;go_wp2_with fail;have M:=Rw.s A;refine (cM A.rd A.len).mono ?_;rintro _ W1 ⟨rfl,a,s⟩;replace A:=Rw.n A (bu s) a;obtain⟨G,E⟩:=Rw.f A 0;replace A:=Rw.p A 0 (t.name:Vl);go_wp2_with fail;refine (many_85 (f:=wFld nm0N) A.rd A.len (λx _=>jP x) λj hj _ _ h1 h2=>my (N _ (ν hj)) J h1 h2).mono ?_;rintro _ W2 ⟨_,rfl,v,a,s⟩;obtain⟨D,l,rfl⟩:=v.form;replace A:=Rw.nk A s a λX S=>FldsR.to v S;obtain⟨G,E⟩:=Rw.f A 1;replace A:=Rw.p A 1 (.slice D t.params l);go_wp2_with fail;refine (ou I J A.rd A.len).mono ?_;rintro _ W3 ⟨_,rfl,v,a,s⟩;obtain⟨q,i,g,B,z,rfl,-⟩:=ap v;replace A:=Rw.nk A s a λX S=>v.to S;obtain⟨G,E⟩:=Rw.f A 2;obtain⟨W,U⟩:=Rw.f A 3;obtain⟨V,T⟩:=Rw.f A 4;replace A:=Rw.p (Rw.p (Rw.p A 2 (q:Vl)) 3 (i:Vl)) 4 (.slice B g z);go_upto_region 5 with fail;obtain⟨Y,y,A⟩:=Rw.w (cs':=[.string t.name,.slice D t.params l,.int .i64 q,.string i,.slice B g z]) A;rw[<-y];have F:=Rw.e (R:=EffR) (a:=t) (cs':=[.string t.name,.slice D t.params l,.int .i64 q,.string i,.slice B g z]) A λX k=>⟨_,_,rfl,M,k.1.2,k.2⟩
 have O:=setRow_heap _ _ _ #[t.name,.slice D t.params l,q,i,.slice B g z] _ _ (A.r ω);go_wp2_with (first|(refine wpList_load_row rfl 50 _ rfl (w+1) rfl 50 _ _ _ A.t underlying50 rfl Δ ?_)|(refine wpList_store_row rfl 50 _ _ rfl w #[t.name,.slice D t.params l,q,i,.slice B g z] rfl rfl 50 _ (A.r ω) Δ rfl Ρ ?_));exact bodyPost_ret (results_cell_row results35 _ _ w 50 _ _ _ rfl O underlying50 rfl Δ) rfl F
def rvr_at {t:Vr} {w:À} (u:t.rd d) (u0:0<=d) (h:RdAt rb db ((wVr nm0N () t).1++tl) false d w) (L:((wVr nm0N () t).1++tl).length<=549755813888):Calls prog 90 #[db] w (cW VrR t rb db tl d w):=by
 have e:(wVr nm0N () t).1++tl=aM t.name++((wTy nm0N () t.type).1++((wEx nm0N () t.init).1++(tl))):=by simp only[wVr,bJ,χ]
 rw[e] at h L;obtain⟨T,N⟩:=zd2 u0 (u);obtain⟨W0,M,A⟩:=Rw.two (tid:=61) (Z:=["",.int .i64 0,"",.slice none 0 0,.int .i64 0,.int .i64 0,.int .i64 0,"",.slice none 0 0]) h L;go_in;go_upto_region 2 with fail;rw[<-M.o];have b:=Rw.b A;go_wp2_with fail;have S1:=Rw.s A;refine (cM A.rd A.len).mono ?_;rintro _ W1 ⟨rfl,a,s⟩;replace A:=Rw.n A (bu s) a;obtain⟨J,I⟩:=Rw.f A 0;replace A:=Rw.p A 0 (t.name:Vl);go_wp2_with fail;refine (ou N.1 T A.rd A.len).mono ?_;rintro _ W2 ⟨_,rfl,v,a,s⟩;obtain⟨z,j,i,H,E,rfl,-⟩:=ap v;replace A:=Rw.nk A s a λX S=>v.to S;obtain⟨J,I⟩:=Rw.f A 1;obtain⟨Y,V⟩:=Rw.f A 2;obtain⟨W,U⟩:=Rw.f A 3;replace A:=Rw.p (Rw.p (Rw.p A 1 (z:Vl)) 2 (j:Vl)) 3 (.slice H i E);go_wp2_with fail;refine (pc N.2 T A.rd A.len).mono ?_;rintro _ W3 ⟨_,rfl,v,a,s⟩;obtain⟨q,g,x,l,B,G,D,rfl,-⟩:=dJ v;replace A:=Rw.nk A s a λX S=>v.to S;obtain⟨J,I⟩:=Rw.f A 4;obtain⟨Y,V⟩:=Rw.f A 5;obtain⟨W,U⟩:=Rw.f A 6;obtain⟨c3,f3⟩:=Rw.f A 7;obtain⟨c4,f4⟩:=Rw.f A 8;replace A:=Rw.p (Rw.p (Rw.p (Rw.p (Rw.p A 4 (q:Vl)) 5 (g:Vl)) 6 (x:Vl)) 7 (l:Vl)) 8 (.slice G B D);go_upto_region 5 with fail;obtain⟨WE,y,A⟩:=Rw.w (cs':=[.string t.name,.int .i64 z,.string j,.slice H i E,.int .i64 q,.int .i64 g,.int .i64 x,.string l,.slice G B D]) A;rw[<-y]
 have F:=Rw.e (R:=VrR) (a:=t) (cs':=[.string t.name,.int .i64 z,.string j,.slice H i E,.int .i64 q,.int .i64 g,.int .i64 x,.string l,.slice G B D]) A λX k=>⟨[.int .i64 z,.string j,.slice H i E],[.int .i64 q,.int .i64 g,.int .i64 x,.string l,.slice G B D],rfl,S1,k.1.2,k.2⟩
 have O:=setRow_heap _ _ _ #[t.name,z,j,.slice H i E,q,g,x,l,.slice G B D] _ _ (A.r ω);go_wp2_with (first|(refine wpList_load_row rfl 61 _ rfl (w+1) rfl 61 _ _ _ A.t underlying61 rfl Δ ?_)|(refine wpList_store_row rfl 61 _ _ rfl w #[t.name,z,j,.slice H i E,q,g,x,l,.slice G B D] rfl rfl 61 _ (A.r ω) Δ rfl Ρ ?_));exact bodyPost_ret (results_cell_row results90 _ _ w 61 _ _ _ rfl O underlying61 rfl Δ) rfl F
mutual
def St.rd (d:Int):St->Prop
 | .mk op n m _ _ xs h e a=>nOk op/\iOk n/\iOk m/\d+1<=65536/\Ex.rds (d+1) xs/\St.rds (d+1) h/\St.rds (d+1) e/\St.rds (d+1) a
def St.rds (d:Int):List St->Prop
 | []=>True
 | x::xs=>St.rd d x/\St.rds d xs
end
def St.rds_iff (d:Int) (l:List St):St.rds d l↔∀x∈l,x.rd d:=by
 induction l with
 | nil=>simp[St.rds]
 | cons x l ih=>simp[St.rds,ih]
def nV (t:St):0<(wSt nm0N () t).1.length:=by
 cases t with
 | mk o x m s u y h e a=>rw[(ut (N:=nm0N) (st:=())).1];simp only[μ];have:=(aS s).2;omega
def StR.of {w:À} {P:Nat->Prop} {op n m:Int} {s u:Ê} {y:List Ex} {h e a:List St} {v0 v1 v2 v3:Value} (hi:i64 op/\i64 n/\i64 m) (hs:s.size<=maxLen) (hu:u.size<=maxLen) (h0:ExsR w P v0 y) (h1:StsR w P v1 h) (h2:StsR w P v2 e) (h3:StsR w P v3 a):StR w P [.int .i64 op,.int .i64 n,.int .i64 m,.string s,.string u,v0,v1,v2,v3] (.mk op n m s u y h e a):=by
 obtain⟨N,I,A,rfl,r,z,d⟩:=h0;obtain⟨M,H,B,rfl,q,j,x⟩:=h1;obtain⟨L,G,D,rfl,l,i,v⟩:=h2;obtain⟨J,F,E,rfl,k,g,t⟩:=h3;exact .mk op n m s u y h e a N M L J I H G F A B D E hi hs hu r q l k z d j x i v g t
def Hd.rd (d:Int) (c:Hd):Prop:=(∀f∈c.params,f.rd d)/\nOk c.slots/\d+1<=65536/\St.rds (d+1) c.body
def wHd_pos (t:Hd):0<(wHd nm0N () t).1.length:=by unfold wHd;simp only[μ];have:=(aS t.msg).2;omega
def wh (q:Nat):∀(t:St) (rb db:Nat) (tl:List UInt8) (d:Int) (w:À),SizeOf.sizeOf t<=q->t.rd d->0<=d->RdAt rb db ((wSt nm0N () t).1++tl) false d w->((wSt nm0N () t).1++tl).length<=549755813888->Calls prog 129 #[db] w (cW StR t rb db tl d w):=by
 induction q with
 | zero=>intro t rb db tl d w M;cases t;simp at M
 | succ q ih =>
  intro t rb db tl d w M u u0 h L
  cases t with
  | mk o x m s v_ y h_ e_ a_ =>
  rw[St.rd] at u;have e:(wSt nm0N () (.mk o x m s v_ y h_ e_ a_)).1++tl=numB o++(intB x++(intB m++(aM s++(aM v_++((ah (wEx nm0N) () y).1++((ah (wSt nm0N) () h_).1++((ah (wSt nm0N) () e_).1++((ah (wSt nm0N) () a_).1++tl)))))))):=by rw[(ut (N:=nm0N) (st:=())).1];simp only[χ]
  rw[e] at h L
  have V:Hid (∀(l:List St),SizeOf.sizeOf l<=q/\St.rds (d+1) l->∀(j:Nat) (hj:j<l.length) (tl:List UInt8) (W:À),RdAt rb db ((wSt nm0N () l[j]).1++tl) false (d+1) W->((wSt nm0N () l[j]).1++tl).length<=549755813888->Calls prog 129 #[db] W (cW StR l[j] rb db tl (d+1) W)):=λl hl j hj tl W h1 h2 =>
   ih l[j] rb db tl (d+1) W (by have:=List.sizeOf_lt_of_mem (ν hj);omega) ((St.rds_iff _ _).1 hl.2 _ (ν hj)) ω h1 h2
  have Y:Hid (SizeOf.sizeOf h_<=q/\SizeOf.sizeOf e_<=q/\SizeOf.sizeOf a_<=q):=by
   show _/\_;simp at M;omega
  obtain⟨U,T,ac⟩:=zd3 u u0 (show 0<=d+1 by omega);obtain⟨W0,HW,A⟩:=Rw.two (tid:=120) (Z:=[.int .i64 0,.int .i64 0,.int .i64 0,"","",.slice none 0 0,.slice none 0 0,.slice none 0 0,.slice none 0 0]) h L;clear h L e u u0 ih M;go_in;go_upto_region 2 with fail;rw[<-HW.o];clear HW;have b:=Rw.b A;go_wp2_with fail;clear b;refine (dH A.rd U.1 A.len).mono ?_;rintro _ W1 ⟨rfl,a,s⟩;replace A:=Rw.n A (bu s) a;clear a s;obtain⟨i,g⟩:=Rw.f A 0;replace A:=Rw.p A 0 (o:Vl);have b:=Rw.b A;go_wp2_with fail;clear b;refine (ox A.rd U.2.1 A.len).mono ?_;rintro _ W2 ⟨rfl,a,s⟩;replace A:=Rw.n A (bu s) a;clear a s;obtain⟨i,g⟩:=Rw.f A 1;replace A:=Rw.p A 1 (x:Vl);have b:=Rw.b A;go_wp2_with fail;clear b;refine (ox A.rd U.2.2.1 A.len).mono ?_;rintro _ W3 ⟨rfl,a,s⟩;replace A:=Rw.n A (bu s) a;clear a s;obtain⟨i,g⟩:=Rw.f A 2;replace A:=Rw.p A 2 (m:Vl);have b:=Rw.b A;go_wp2_with fail;clear b;have S4:=Rw.s A;refine (cM A.rd A.len).mono ?_;rintro _ W4 ⟨rfl,a,s⟩;replace A:=Rw.n A (bu s) a;clear a s;obtain⟨i,g⟩:=Rw.f A 3;replace A:=Rw.p A 3 (s:Vl);have b:=Rw.b A;go_wp2_with fail;clear b;have S5:=Rw.s A;refine (cM A.rd A.len).mono ?_;rintro _ W5 ⟨rfl,a,s⟩;replace A:=Rw.n A (bu s) a;clear a s;obtain⟨i,g⟩:=Rw.f A 4;replace A:=Rw.p A 4 (v_:Vl);go_wp2_with fail
  refine (nested_127 (f:=wEx nm0N) A.rd T U.2.2.2.1 A.len (λx _=>uE x) λj hj _ _ h1 h2=>pc ((Ex.rds_iff _ _).1 U.2.2.2.2.1 _ (ν hj)) ac h1 h2).mono ?_;rintro _ W6 ⟨_,rfl,v,a,s⟩;obtain⟨J,E,rfl⟩:=v.form;replace A:=Rw.nk A s a λX S=>ExsR.to v S;clear v a s;obtain⟨i,g⟩:=Rw.f A 5;replace A:=Rw.p A 5 (.slice J y E);go_wp2_with fail;refine (nested_128 (f:=wSt nm0N) A.rd T U.2.2.2.1 A.len (λx _=>nV x) (V _ ⟨Y.1,U.2.2.2.2.2.1⟩)).mono ?_;rintro _ W7 ⟨_,rfl,v,a,s⟩;obtain⟨I,D,rfl⟩:=v.form;replace A:=Rw.nk A s a λX S=>StsR.to v S;clear v a s;obtain⟨i,g⟩:=Rw.f A 6;replace A:=Rw.p A 6 (.slice I h_ D);go_wp2_with fail;refine (nested_128 (f:=wSt nm0N) A.rd T U.2.2.2.1 A.len (λx _=>nV x) (V _ ⟨Y.2.1,U.2.2.2.2.2.2.1⟩)).mono ?_;rintro _ W8 ⟨_,rfl,v,a,s⟩;obtain⟨H,B,rfl⟩:=v.form;replace A:=Rw.nk A s a λX S=>StsR.to v S;clear v a s;obtain⟨i,g⟩:=Rw.f A 7;replace A:=Rw.p A 7 (.slice H e_ B);go_wp2_with fail;refine (nested_128 (f:=wSt nm0N) A.rd T U.2.2.2.1 A.len (λx _=>nV x) (V _ ⟨Y.2.2,U.2.2.2.2.2.2.2⟩)).mono ?_;rintro _ W9 ⟨_,rfl,v,a,s⟩;obtain⟨G,z,rfl⟩:=v.form;replace A:=Rw.nk A s a λX S=>StsR.to v S;clear v a s;obtain⟨i,g⟩:=Rw.f A 8;replace A:=Rw.p A 8 (.slice G a_ z);go_upto_region 11 with fail
  obtain⟨WE,y,A⟩:=Rw.w (cs':=[.int .i64 o,.int .i64 x,.int .i64 m,.string s,.string v_,.slice J y E,.slice I h_ D,.slice H e_ B,.slice G a_ z]) A;rw[<-y];clear y;have F:=Rw.e (R:=StR) (a:=(.mk o x m s v_ y h_ e_ a_)) (cs':=[.int .i64 o,.int .i64 x,.int .i64 m,.string s,.string v_,.slice J y E,.slice I h_ D,.slice H e_ B,.slice G a_ z]) A λX k=>StR.of ⟨lE U.1,rG U.2.1,rG U.2.2.1⟩ S4 S5 k.1.1.1.2 k.1.1.2 k.1.2 k.2;have O:=setRow_heap _ _ _ #[o,x,m,s,v_,.slice J y E,.slice I h_ D,.slice H e_ B,.slice G a_ z] _ _ (A.r ω);go_wp2_with (first|(refine wpList_load_row rfl 120 _ rfl (w+1) rfl 120 _ _ _ A.t underlying120 rfl Δ ?_)|(refine wpList_store_row rfl 120 _ _ rfl w #[o,x,m,s,v_,.slice J y E,.slice I h_ D,.slice H e_ B,.slice G a_ z] rfl rfl 120 _ (A.r ω) Δ rfl Ρ ?_));exact bodyPost_ret (results_cell_row results129 _ _ w 120 _ _ _ rfl O underlying120 rfl Δ) rfl F
def rstmt_at {t:St} {w:À} (hrd:t.rd d) (hd:0<=d) (h:RdAt rb db ((wSt nm0N () t).1++tl) false d w) (hl:((wSt nm0N () t).1++tl).length<=549755813888):Calls prog 129 #[db] w (cW StR t rb db tl d w):=wh _ t rb db tl d w (υ _) hrd hd h hl
def rhd_at {t:Hd} {w:À} (u:t.rd d) (u0:0<=d) (h:RdAt rb db ((wHd nm0N () t).1++tl) false d w) (L:((wHd nm0N () t).1++tl).length<=549755813888):Calls prog 92 #[db] w (cW HdR t rb db tl d w):=by
 have e:(wHd nm0N () t).1++tl=aM t.msg++((ah (wFld nm0N) () t.params).1++(numB t.slots++((ah (wSt nm0N) () t.body).1++(tl)))):=by simp only[wHd,bJ,χ]
 rw[e] at h L;obtain⟨H,J,g,G⟩:=zd4 u0 (u.1) (u.2) (show 0<=d+1 by omega);obtain⟨W,E,A⟩:=Rw.two (tid:=64) (Z:=["",.slice none 0 0,.int .i64 0,.slice none 0 0]) h L;go_in;go_upto_region 2 with fail;rw[<-E.o];have b:=Rw.b A;go_wp2_with fail;have I:=Rw.s A;refine (cM A.rd A.len).mono ?_;rintro _ V ⟨rfl,a,s⟩;replace A:=Rw.n A (bu s) a;obtain⟨D,B⟩:=Rw.f A 0;replace A:=Rw.p A 0 (t.msg:Vl);go_wp2_with fail;refine (many_85 (f:=wFld nm0N) A.rd A.len (λx _=>jP x) λj hj _ _ h1 h2=>my (J _ (ν hj)) H h1 h2).mono ?_;rintro _ U ⟨_,rfl,v,a,s⟩;obtain⟨z,l,rfl⟩:=v.form;replace A:=Rw.nk A s a λX S=>FldsR.to v S;obtain⟨D,B⟩:=Rw.f A 1;replace A:=Rw.p A 1 (.slice z t.params l);have b:=Rw.b A;go_wp2_with fail;refine (dH A.rd g.1 A.len).mono ?_;rintro _ T ⟨rfl,a,s⟩;replace A:=Rw.n A (bu s) a;obtain⟨D,B⟩:=Rw.f A 2;replace A:=Rw.p A 2 (t.slots:Vl);go_wp2_with fail;refine (nested_128 (f:=wSt nm0N) A.rd H g.2.1 A.len (λx _=>nV x) λj hj _ _ h1 h2=>rstmt_at ((St.rds_iff _ _).1 g.2.2 _ (ν hj)) G h1 h2).mono ?_;rintro _ N ⟨_,rfl,v,a,s⟩;obtain⟨q,i,rfl⟩:=v.form;replace A:=Rw.nk A s a λX S=>StsR.to v S;obtain⟨D,B⟩:=Rw.f A 3;replace A:=Rw.p A 3 (.slice q t.body i);go_upto_region 6 with fail
 obtain⟨M,y,A⟩:=Rw.w (cs':=[.string t.msg,.slice z t.params l,.int .i64 t.slots,.slice q t.body i]) A;rw[<-y];have F:=Rw.e (R:=HdR) (a:=t) (cs':=[.string t.msg,.slice z t.params l,.int .i64 t.slots,.slice q t.body i]) A λX k=>⟨_,_,rfl,lE g.1,I,k.1.2,k.2⟩
 have O:=setRow_heap _ _ _ #[t.msg,.slice z t.params l,t.slots,.slice q t.body i] _ _ (A.r ω);go_wp2_with (first|(refine wpList_load_row rfl 64 _ rfl (w+1) rfl 64 _ _ _ A.t underlying64 rfl Δ ?_)|(refine wpList_store_row rfl 64 _ _ rfl w #[t.msg,.slice z t.params l,t.slots,.slice q t.body i] rfl rfl 64 _ (A.r ω) Δ rfl Ρ ?_));exact bodyPost_ret (results_cell_row results92 _ _ w 64 _ _ _ rfl O underlying64 rfl Δ) rfl F
def Ac.rd (d:Int) (c:Ac):Prop:=(∀f∈c.params,f.rd d)/\nOk c.slots/\(∀v∈c.vars,v.rd d)/\(∀h∈c.on,h.rd d)/\nOk c.policy/\nOk c.most
def wAcP_pos (t:Ac):0<(wAcP nm0N () t).1.length:=by unfold wAcP wAc;simp only[μ];have:=(aS t.name).2;omega
set_option maxRecDepth 1000000 in
def zfRdcl {p:Prop} (h:p:=by
 first
  | guard_hyp kk0:True
    have e:(wDcl nm0N () t).1++tl=aM t.name++(numB 1++((ah (wCtr nm0N) () t.ctors).1++(tl))):=by unfold wDcl;rw[r];simp only[χ,Bool.false_eq_true,if_true,if_false]
  | have e:(wDcl nm0N () t).1++tl=aM t.name++(numB 0++((ah (wCtr nm0N) () t.ctors).1++(tl))):=by unfold wDcl;rw[r];simp only[χ,Bool.false_eq_true,if_true,if_false]
 rw[e] at h L;obtain⟨B,z,y⟩:=zd3 u0 (show ∀f∈t.ctors,f.rd d from u) (r);obtain⟨H,q,A⟩:=Rw.one (tid:=48) (Z:=["",.bool false,.slice none 0 0]) h L;go_in;go_upto_region 1 with fail;rw[<-q.o];have b:=Rw.b A;go_wp2_with fail;have l:=Rw.s A;refine (cM A.rd A.len).mono ?_;rintro _ G ⟨rfl,a,s⟩;replace A:=Rw.n A (bu s) a;have b:=Rw.b A;go_wp2_with fail;refine (dH A.rd (by unfold nOk;decide) A.len).mono ?_;rintro _ E ⟨rfl,a,s⟩;replace A:=Rw.n A (bu s) a;have b:=Rw.b A;go_wp2_with fail;refine (many_83 (f:=wCtr nm0N) A.rd A.len (λx _=>sy x) λj hj _ _ h1 h2=>uT (z _ (ν hj)) B h1 h2).mono ?_;rintro _ D ⟨_,rfl,v,a,s⟩;obtain⟨i,g,rfl⟩:=v.form;replace A:=Rw.nk A s a λX S=>SlR.to' v S (λ_ _ x=>x.to S)
 first
  | guard_hyp kk0:True
    have F:=Rw.e (R:=DclR) (a:=t) (cs':=[.string t.name,.bool true,.slice i t.ctors g]) A λX k=>⟨_,by rw[y.o],l,k.2⟩
    have O:=setRow_heap _ _ _ #[t.name,true,.slice i t.ctors g] _ _ A.t;go_wp2_with (refine wpList_store_row rfl 48 _ _ rfl w #[t.name,true,.slice i t.ctors g] rfl rfl 48 _ A.t Δ rfl Ρ ?_)
  | have F:=Rw.e (R:=DclR) (a:=t) (cs':=[.string t.name,.bool false,.slice i t.ctors g]) A λX k=>⟨_,by rw[y.o],l,k.2⟩
    have O:=setRow_heap _ _ _ #[t.name,false,.slice i t.ctors g] _ _ A.t;go_wp2_with (refine wpList_store_row rfl 48 _ _ rfl w #[t.name,false,.slice i t.ctors g] rfl rfl 48 _ A.t Δ rfl Ρ ?_)
 exact bodyPost_ret (results_cell_row results33 _ _ w 48 _ _ _ rfl O underlying48 rfl Δ) rfl F) :p:=h
variable {t:Dcl}
def rdcl_true {w:À} (r:t.record=true) (u:t.rd d) (u0:0<=d) (h:RdAt rb db ((wDcl nm0N () t).1++tl) false d w) (L:((wDcl nm0N () t).1++tl).length<=549755813888):Calls prog 33 #[db] w (cW DclR t rb db tl d w):=by
 have kk0:=trivial;exact zfRdcl
def rdcl_false {w:À} (r:t.record=false) (u:t.rd d) (u0:0<=d) (h:RdAt rb db ((wDcl nm0N () t).1++tl) false d w) (L:((wDcl nm0N () t).1++tl).length<=549755813888):Calls prog 33 #[db] w (cW DclR t rb db tl d w):=by
 have kk1:=trivial;exact zfRdcl
def rdcl_at {w:À} (hrd:t.rd d) (hd0:0<=d) (h:RdAt rb db ((wDcl nm0N () t).1++tl) false d w) (hll:((wDcl nm0N () t).1++tl).length<=549755813888):Calls prog 33 #[db] w (cW DclR t rb db tl d w):=by
 cases hrec:t.record with
 | true=>exact rdcl_true hrec hrd hd0 h hll
 | false=>exact rdcl_false hrec hrd hd0 h hll
def rac_at {t:Ac} {w:À} (u:t.rd d) (u0:0<=d) (h:RdAt rb db ((wAcP nm0N () t).1++tl) false d w) (L:((wAcP nm0N () t).1++tl).length<=549755813888):Calls prog 39 #[db] w (cW AcR t rb db tl d w):=by
 have e:(wAcP nm0N () t).1++tl=aM t.name++((ah (wFld nm0N) () t.params).1++(numB t.slots++((ah (wVr nm0N) () t.vars).1++((ah (wHd nm0N) () t.on).1++(numB t.policy++(numB t.most++(tl))))))):=by simp only[wAcP,wAc,bJ,χ]
 rw[e] at h L;obtain⟨G,J,U⟩:=zd3 u0 (u.1) (u);obtain⟨W0,H,A⟩:=Rw.two (tid:=54) (Z:=["",.slice none 0 0,.int .i64 0,.slice none 0 0,.slice none 0 0,.int .i64 0,.int .i64 0]) h L;go_in;go_upto_region 2 with fail;rw[<-H.o];have b:=Rw.b A;go_wp2_with fail;have I:=Rw.s A;refine (cM A.rd A.len).mono ?_;rintro _ W1 ⟨rfl,a,s⟩;replace A:=Rw.n A (bu s) a;obtain⟨i,g⟩:=Rw.f A 0;replace A:=Rw.p A 0 (t.name:Vl);go_wp2_with fail;refine (many_85 (f:=wFld nm0N) A.rd A.len (λx _=>jP x) λj hj _ _ h1 h2=>my (J _ (ν hj)) G h1 h2).mono ?_;rintro _ W2 ⟨_,rfl,v,a,s⟩;obtain⟨E,z,rfl⟩:=v.form;replace A:=Rw.nk A s a λX S=>FldsR.to v S;obtain⟨i,g⟩:=Rw.f A 1;replace A:=Rw.p A 1 (.slice E t.params z);have b:=Rw.b A;go_wp2_with fail;refine (dH A.rd U.2.1 A.len).mono ?_;rintro _ Y ⟨rfl,a,s⟩;replace A:=Rw.n A (bu s) a;obtain⟨i,g⟩:=Rw.f A 2;replace A:=Rw.p A 2 (t.slots:Vl);go_wp2_with fail;refine (many_89 (f:=wVr nm0N) A.rd A.len (λx _=>wVr_pos x) λj hj _ _ h1 h2=>rvr_at (U.2.2.1 _ (ν hj)) G h1 h2).mono ?_;rintro _ W ⟨_,rfl,v,a,s⟩;obtain⟨D,q,rfl⟩:=v.form;replace A:=Rw.nk A s a λX S=>VrsR.to v S;obtain⟨i,g⟩:=Rw.f A 3;replace A:=Rw.p A 3 (.slice D t.vars q);go_wp2_with fail
 refine (many_91 (f:=wHd nm0N) A.rd A.len (λx _=>wHd_pos x) λj hj _ _ h1 h2=>rhd_at (U.2.2.2.1 _ (ν hj)) G h1 h2).mono ?_;rintro _ V ⟨_,rfl,v,a,s⟩;obtain⟨B,l,rfl⟩:=v.form;replace A:=Rw.nk A s a λX S=>HdsR.to v S;obtain⟨i,g⟩:=Rw.f A 4;replace A:=Rw.p A 4 (.slice B t.on l);have b:=Rw.b A;go_wp2_with fail;refine (dH A.rd U.2.2.2.2.1 A.len).mono ?_;rintro _ T ⟨rfl,a,s⟩;replace A:=Rw.n A (bu s) a;obtain⟨i,g⟩:=Rw.f A 5;replace A:=Rw.p A 5 (t.policy:Vl);have b:=Rw.b A;go_wp2_with fail;refine (dH A.rd U.2.2.2.2.2 A.len).mono ?_;rintro _ N ⟨rfl,a,s⟩;replace A:=Rw.n A (bu s) a;obtain⟨i,g⟩:=Rw.f A 6;replace A:=Rw.p A 6 (t.most:Vl);go_upto_region 9 with fail;obtain⟨M,y,A⟩:=Rw.w (cs':=[.string t.name,.slice E t.params z,.int .i64 t.slots,.slice D t.vars q,.slice B t.on l,.int .i64 t.policy,.int .i64 t.most]) A;rw[<-y];have F:=Rw.e (R:=AcR) (a:=t) (cs':=[.string t.name,.slice E t.params z,.int .i64 t.slots,.slice D t.vars q,.slice B t.on l,.int .i64 t.policy,.int .i64 t.most]) A λX k=>⟨_,_,_,rfl,⟨lE U.2.1,lE U.2.2.2.2.1,lE U.2.2.2.2.2⟩,I,k.1.1.2,k.1.2,k.2⟩
 have O:=setRow_heap _ _ _ #[t.name,.slice E t.params z,t.slots,.slice D t.vars q,.slice B t.on l,t.policy,t.most] _ _ (A.r ω);go_wp2_with (first|(refine wpList_load_row rfl 54 _ rfl (w+1) rfl 54 _ _ _ A.t underlying54 rfl Δ ?_)|(refine wpList_store_row rfl 54 _ _ rfl w #[t.name,.slice E t.params z,t.slots,.slice D t.vars q,.slice B t.on l,t.policy,t.most] rfl rfl 54 _ (A.r ω) Δ rfl Ρ ?_));exact bodyPost_ret (results_cell_row results39 _ _ w 54 _ _ _ rfl O underlying54 rfl Δ) rfl F
def rfn_at {t:Fn} {w:À} (u:t.rd d) (u0:0<=d) (h:RdAt rb db ((wFn nm0N () t).1++tl) false d w) (L:((wFn nm0N () t).1++tl).length<=549755813888):Calls prog 37 #[db] w (cW FnR t rb db tl d w):=by
 have e:(wFn nm0N () t).1++tl=aM t.name++((ah (wFld nm0N) () t.params).1++((wTy nm0N () t.result).1++(numB t.slots++((wEx nm0N () t.body).1++(tl))))):=by simp only[wFn,bJ,χ]
 rw[e] at h L;obtain⟨W,HK,g⟩:=zd3 u0 (u.1) (u.2);obtain⟨W0,Y,A⟩:=Rw.two (tid:=45) (Z:=["",.slice none 0 0,.int .i64 0,"",.slice none 0 0,.int .i64 0,.int .i64 0,.int .i64 0,.int .i64 0,"",.slice none 0 0]) h L;go_in;go_upto_region 2 with fail;rw[<-Y.o];have b:=Rw.b A;go_wp2_with fail;have S1:=Rw.s A;refine (cM A.rd A.len).mono ?_;rintro _ W1 ⟨rfl,a,s⟩;replace A:=Rw.n A (bu s) a;obtain⟨V,U⟩:=Rw.f A 0;replace A:=Rw.p A 0 (t.name:Vl);go_wp2_with fail;refine (many_85 (f:=wFld nm0N) A.rd A.len (λx _=>jP x) λj hj _ _ h1 h2=>my (HK _ (ν hj)) W h1 h2).mono ?_;rintro _ W2 ⟨_,rfl,v,a,s⟩;obtain⟨T,B,rfl⟩:=v.form;replace A:=Rw.nk A s a λX S=>FldsR.to v S;obtain⟨V,U⟩:=Rw.f A 1;replace A:=Rw.p A 1 (.slice T t.params B);go_wp2_with fail;refine (ou g.1 W A.rd A.len).mono ?_;rintro _ W3 ⟨_,rfl,v,a,s⟩;obtain⟨G,q,l,N,J,rfl,-⟩:=ap v;replace A:=Rw.nk A s a λX S=>v.to S;obtain⟨V,U⟩:=Rw.f A 2;obtain⟨c1,f1⟩:=Rw.f A 3;obtain⟨c2,f2⟩:=Rw.f A 4;replace A:=Rw.p (Rw.p (Rw.p A 2 (G:Vl)) 3 (q:Vl)) 4 (.slice N l J);have b:=Rw.b A;go_wp2_with fail;refine (dH A.rd g.2.1 A.len).mono ?_;rintro _ W4 ⟨rfl,a,s⟩;replace A:=Rw.n A (bu s) a;obtain⟨V,U⟩:=Rw.f A 5;replace A:=Rw.p A 5 (t.slots:Vl);go_wp2_with fail
 refine (pc g.2.2 W A.rd A.len).mono ?_;rintro _ W5 ⟨_,rfl,v,a,s⟩;obtain⟨D,i,E,z,H,M,I,rfl,-⟩:=dJ v;replace A:=Rw.nk A s a λX S=>v.to S;obtain⟨V,U⟩:=Rw.f A 6;obtain⟨c1,f1⟩:=Rw.f A 7;obtain⟨c2,f2⟩:=Rw.f A 8;obtain⟨c3,f3⟩:=Rw.f A 9;obtain⟨c4,f4⟩:=Rw.f A 10;replace A:=Rw.p (Rw.p (Rw.p (Rw.p (Rw.p A 6 (D:Vl)) 7 (i:Vl)) 8 (E:Vl)) 9 (z:Vl)) 10 (.slice M H I);go_upto_region 7 with fail;obtain⟨WE,y,A⟩:=Rw.w (cs':=[.string t.name,.slice T t.params B,.int .i64 G,.string q,.slice N l J,.int .i64 t.slots,.int .i64 D,.int .i64 i,.int .i64 E,.string z,.slice M H I]) A;rw[<-y];have F:=Rw.e (R:=FnR) (a:=t) (cs':=[.string t.name,.slice T t.params B,.int .i64 G,.string q,.slice N l J,.int .i64 t.slots,.int .i64 D,.int .i64 i,.int .i64 E,.string z,.slice M H I]) A λX k=>⟨.slice T t.params B,[.int .i64 G,.string q,.slice N l J],[.int .i64 D,.int .i64 i,.int .i64 E,.string z,.slice M H I],rfl,lE g.2.1,S1,k.1.1.2,k.1.2,k.2⟩
 have O:=setRow_heap _ _ _ #[t.name,.slice T t.params B,G,q,.slice N l J,t.slots,D,i,E,z,.slice M H I] _ _ (A.r ω);go_wp2_with (first|(refine wpList_load_row rfl 45 _ rfl (w+1) rfl 45 _ _ _ A.t underlying45 rfl Δ ?_)|(refine wpList_store_row rfl 45 _ _ rfl w #[t.name,.slice T t.params B,G,q,.slice N l J,t.slots,D,i,E,z,.slice M H I] rfl rfl 45 _ (A.r ω) Δ rfl Ρ ?_));exact bodyPost_ret (results_cell_row results37 _ _ w 45 _ _ _ rfl O underlying45 rfl Δ) rfl F
end
