import Derived.Test.YtbjdcogmiggamaaGreatDoorB29
set_option linter.all false
namespace Go.Proofs.YtbjdcogmiggamaaGreatDoor
open Proofs.Tryz RowKit Maps WideMaps ChangeMaps
set_option maxRecDepth 100000
set_option maxHeartbeats 8000000
def fromA (A:Option Addr) (cap k size:Nat):Option Addr:=if cap=k then A else A.map (·.add (k*size))
theorem SlR.from {α:Type} {w:À} {P:Nat→Prop} {size:Nat} {R:List Value→α→Prop} {A:Option Addr} {n cap:Nat} {l:List α} (h:SlR w P size R (.slice A n cap) l) (k:Nat) (hk:k≤l.length):SlR w P size R (.slice (fromA A cap k size) (l.drop k).length (cap-k)) (l.drop k):=by
 obtain⟨A',cap',css,e,hl,hr,hkk⟩:=h
 injection e with e1 e2 e3
 subst e1 e2 e3
 refine⟨_,cap-k,fun i=>css (k+i),rfl,⟨by rw[List.length_drop];omega,by rw[List.length_drop];omega⟩,fun hn=>?_,fun i hi=>?_⟩
 · rw[List.length_drop] at hn
   obtain⟨g,off,hA,hg,hc⟩:=hr ω
   refine⟨g,off+k*size,?_,hg,fun i hi=>⟨(hc (k+i) (by rw[List.length_drop] at hi;omega)).1,fun j u hu=>?_⟩⟩
   · unfold fromA;rw[if_neg ω,hA];simp[Addr.add]
   · have:=(hc (k+i) (by rw[List.length_drop] at hi;omega)).2 j u hu
     rw[show off+k*size+i*size+j=off+(k+i)*size+j by rw[Nat.add_mul];omega]
     exact this
 · have hi':k+i<l.length:=by rw[List.length_drop] at hi;omega
   have:=hkk (k+i) hi'
   simpa[List.getElem_drop] using this
theorem SlR.upto {α:Type} {w:À} {P:Nat→Prop} {size:Nat} {R:List Value→α→Prop} {A:Option Addr} {n cap:Nat} {l:List α} (h:SlR w P size R (.slice A n cap) l) (k:Nat) (hk:k≤l.length):SlR w P size R (.slice A (l.take k).length cap) (l.take k):=by
 obtain⟨A',cap',css,e,hl,hr,hkk⟩:=h
 injection e with e1 e2 e3
 subst e1 e2 e3
 refine⟨A,cap,css,rfl,⟨by rw[List.length_take];omega,by rw[List.length_take];omega⟩,fun hn=>?_,fun i hi=>?_⟩
 · rw[List.length_take] at hn
   obtain⟨g,off,hA,hg,hc⟩:=hr ω
   exact⟨g,off,hA,hg,fun i hi=>hc i (by rw[List.length_take] at hi;omega)⟩
 · have hi':i<l.length:=by rw[List.length_take] at hi;omega
   have:=hkk i hi'
   simpa[List.getElem_take] using this
theorem NdsR.from {w:À} {P:Nat→Prop} {A:Option Addr} {n cap:Nat} {l:List Nd} (h:NdsR w P (.slice A n cap) l) (k:Nat) (hk:k≤l.length):NdsR w P (.slice (fromA A cap k 5) (l.length-k) (cap-k)) (l.drop k):=by
 have:=SlR.from h k hk
 rw[List.length_drop] at this
 exact this
theorem NdsR.upto {w:À} {P:Nat→Prop} {A:Option Addr} {n cap:Nat} {l:List Nd} (h:NdsR w P (.slice A n cap) l) (k:Nat) (hk:k≤l.length):NdsR w P (.slice A k cap) (l.take k):=by
 have:=SlR.upto h k hk
 rw[List.length_take,Nat.min_eq_left hk] at this
 exact this
theorem size24 (w:À):(sizeOf 24).run prog w=.ok 5 w:=by kernel_rfl
theorem run_from22 (w:À) (A:Option Addr) (len cap k:Nat) (h:k≤len):(Instr.slice 22 (.slice A len cap) (some (.int .i64 (k:Int))) none none).run prog w=.ok (.slice (fromA A cap k 5) (len-k) (cap-k)) w:=by
 have h2:(0:Int)≤(k:Int)∧(k:Int)≤(len:Int):=by omega
 simp[Instr.slice,run_underlying underlying22,Instr.sliceBounds,Instr.sliceBound,asIntOf,size24,Result.andThen,h,h2,fromA]
theorem run_upto22 (w:À) (A:Option Addr) (len cap k:Nat) (h:k≤len) (hc:len≤cap):(Instr.slice 22 (.slice A len cap) none (some (.int .i64 (k:Int))) none).run prog w=.ok (.slice A k cap) w:=by
 have h2:(0:Int)≤(k:Int)∧(k:Int)≤(cap:Int):=by omega
 simp[Instr.slice,run_underlying underlying22,Instr.sliceBounds,Instr.sliceBound,asIntOf,size24,Result.andThen,h2,show k≤cap by omega]
 cases A with
 | none=>simp
 | some a=>simp[Addr.add]
def endG (l:List Nd) (x:Fx) (q:List Fx):Bool:=decide (q.length≤l.length)&&((l.take (l.length-q.length)).all x.g&&serG (l.drop (l.length-q.length)) q)
def begG (x y:Fx):List Nd→Bool
 | []=>false
 | a::r=>x.g a&&r.all y.g
theorem ended_any {k:Nat} {F:FuncId} {c:Array Value} {g:Nd→Bool} (q:List Fx) (l:List Nd) (A B:Option Addr) (cap cb d:Nat) (w:À) (hd:d+k=41) (hl:NdsR w (lo w) (.slice A l.length cap) l) (hq:FxR w (lo w) (.slice B q.length cb) q) (hx:FvS k F c g w) (hF:∀i (h:i<q.length),FvS k q[i].F q[i].c q[i].g w) :
 Calls prog 55 #[.slice A l.length cap,.int .i64 (d:Int),.func (.func F) #[] c,.slice B q.length cb] w (EqSaid (endG l ⟨F,c,g⟩ q) w):=by
 have lm:l.length≤9223372036854775807:=hl.len.2
 have ln:q.length≤9223372036854775807:=hq.len.2
 have lc:l.length≤cap:=hl.cap
 obtain⟨tot,HV⟩:∃z,Hid (z=endG l ⟨F,c,g⟩ q):=⟨_,rfl⟩
 rw[←HV.o]
 by_cases hlen:q.length≤l.length
 · obtain⟨m,hm⟩:∃m,m=l.length-q.length:=⟨_,rfl⟩
   have hml:m≤l.length:=by omega
   have w1:Hid (IntKind.i64.wrap ((l.length:Int)-(q.length:Int))=(m:Int)):=by show _=_;rw[IntKind.wrap_i64];omega
   have w2:Hid (wrap64 ((l.length:Int)-(q.length:Int))=(m:Int)):=by show _=_;unfold wrap64;omega
   have w3:Hid ((l.length:Int)-(q.length:Int)=(m:Int)):=by show _=_;omega
   have HV2:Hid (tot=((l.take m).all g&&serG (l.drop m) q)):=by
    show _=_
    rw[HV.o];unfold endG;rw[decide_eq_true hlen,Bool.true_and,hm]
   have u1:decide ((0:Int)≤(m:Int))=true:=decide_eq_true ω
   have hs1:∀W,(Instr.slice 22 (.slice A l.length cap) none (some (.int .i64 (m:Int))) none).run prog W=.ok (.slice A m cap) W:=fun W=>run_upto22 W A _ _ _ hml lc
   have hs2:∀W,(Instr.slice 22 (.slice A l.length cap) (some (.int .i64 (m:Int))) none none).run prog W=.ok (.slice (fromA A cap m 5) (l.length-m) (cap-m)) W:=fun W=>run_from22 W A _ _ _ hml
   have C1:=η (all_any (l.take m) A cap d w hd (by rw[List.length_take,Nat.min_eq_left hml];exact NdsR.upto hl m hml) hx)
   rw[List.length_take,Nat.min_eq_left hml] at C1
   have C2:Hid (∀X,Below w.heap.size w X→Calls prog 90 #[.slice (fromA A cap m 5) (l.length-m) (cap-m),.int .i64 (d:Int),.slice B q.length cb] X (EqSaid (serG (l.drop m) q) X)):=fun X hX=>by
    have:=series_any (k:=k) q (l.drop m) (fromA A cap m 5) B (cap-m) cb d X hd (by rw[List.length_drop];exact NdsR.to (NdsR.from hl m hml) (sub_lo hX)) (SlR.to' hq (sub_lo hX) fun _ _ x=>x) (fun i h=>(hF i h).bel hX)
    rw[List.length_drop] at this
    exact this
   clear hd hl hq hx hF hlen hml hm
   go_in
   go_upto_region 2 with fail
   first|rw[w1.o]|rw[w2.o]|rw[w3.o]|skip
   cases h1:(l.take m).all g with
   | false =>
    have H1:Hid (tot=false):=HV2.o.trans (by rw[h1];rfl)
    go_wp2_with (go_at_call 51;refine C1.o.mono ?_;rw[h1];rintro _ X1 ⟨rfl,hb1⟩)
    go_ret
    exact⟨by rw[H1.o];rfl,hb1⟩
   | true =>
    have HV3:Hid (tot=serG (l.drop m) q):=HV2.o.trans (by rw[h1];rfl)
    cases h2:serG (l.drop m) q with
    | false =>
     have H2:Hid (tot=false):=HV3.o.trans h2
     go_wp2_with (first|(go_at_call 51;refine C1.o.mono ?_;rw[h1];rintro _ X1 ⟨rfl,hb1⟩)|(go_at_call 90;refine (C2.o _ hb1).mono ?_;rw[h2];rintro _ X2 ⟨rfl,hb2⟩))
     go_ret
     exact⟨by rw[H2.o];rfl,bel hb1 hb2⟩
    | true =>
     have H2:Hid (tot=true):=HV3.o.trans h2
     go_wp2_with (first|(go_at_call 51;refine C1.o.mono ?_;rw[h1];rintro _ X1 ⟨rfl,hb1⟩)|(go_at_call 90;refine (C2.o _ hb1).mono ?_;rw[h2];rintro _ X2 ⟨rfl,hb2⟩))
     go_ret
     exact⟨by rw[H2.o];rfl,bel hb1 hb2⟩
 · have w1:Hid (IntKind.i64.wrap ((l.length:Int)-(q.length:Int))=(l.length:Int)-(q.length:Int)):=by show _=_;rw[IntKind.wrap_i64];omega
   have w2:Hid (wrap64 ((l.length:Int)-(q.length:Int))=(l.length:Int)-(q.length:Int)):=by show _=_;unfold wrap64;omega
   have u1:decide ((0:Int)≤(l.length:Int)-(q.length:Int))=false:=decide_eq_false ω
   have H1:Hid (tot=false):=by show _=_;rw[HV.o];unfold endG;rw[decide_eq_false hlen];rfl
   clear hd hl hq hx hF
   go_in
   go_upto_region 2 with fail
   first|rw[w1.o]|rw[w2.o]|skip
   go_wp2
   go_ret
   exact⟨by rw[H1.o];rfl,Below.refl _ _⟩
theorem begG_at {x y:Fx} {l:List Nd} (h:0<l.length):begG x y l=(x.g l[0]&&(l.drop 1).all y.g):=by
 cases l with
 | nil=>simp at h
 | cons a r=>rfl
theorem begun_any {k:Nat} {F F':FuncId} {c c':Array Value} {g g':Nd→Bool} (l:List Nd) (A:Option Addr) (cap d:Nat) (w:À) (hd:d+k=41) (hl:NdsR w (lo w) (.slice A l.length cap) l) (hx:FvS k F c g w) (hy:FvS k F' c' g' w) :
 Calls prog 94 #[.slice A l.length cap,.int .i64 (d:Int),.func (.func F) #[] c,.func (.func F') #[] c'] w (EqSaid (begG ⟨F,c,g⟩ ⟨F',c',g'⟩ l) w):=by
 have lm:l.length≤9223372036854775807:=hl.len.2
 obtain⟨tot,HV⟩:∃z,Hid (z=begG ⟨F,c,g⟩ ⟨F',c',g'⟩ l):=⟨_,rfl⟩
 rw[←HV.o]
 by_cases hlen:0<l.length
 · have HV2:Hid (tot=(g l[0]&&(l.drop 1).all g')):=HV.o.trans (begG_at hlen)
   have u1:decide ((0:Int)<(l.length:Int))=true:=decide_eq_true ω
   have hs2:∀W,(Instr.slice 22 (.slice A l.length cap) (some (.int .i64 1)) none none).run prog W=.ok (.slice (fromA A cap 1 5) (l.length-1) (cap-1)) W:=fun W=>run_from22 W A _ _ 1 hlen
   have C2:Hid (∀X,Below w.heap.size w X→Calls prog 51 #[.slice (fromA A cap 1 5) (l.length-1) (cap-1),.int .i64 (d:Int),.func (.func F') #[] c'] X (EqSaid ((l.drop 1).all g') X)):=fun X hX=>by
    have:=all_any (l.drop 1) (fromA A cap 1 5) (cap-1) d X hd (by rw[List.length_drop];exact NdsR.to (NdsR.from hl 1 hlen) (sub_lo hX)) (hy.bel hX)
    rw[List.length_drop] at this
    exact this
   obtain⟨b,off,k1,s1,m1,p1,D1,l1,c1,hA,hg,hr1,e0,e1,e2,e3,e4⟩:=nds_at hl hlen
   have hcf:=hx.e
   unfold Ent at hcf
   have HC:=η (hx.c w _ _ d (Below.refl _ _) hd hr1)
   have j1:(0:Int)<(l.length:Int):=by omega
   simp only[Nat.zero_mul,Nat.add_zero] at e0 e1 e2 e3 e4
   clear hl hx hy hr1 hg hd
   subst hA
   go_in
   cases h1:g l[0] with
   | false =>
    have H1:Hid (tot=false):=HV2.o.trans (by rw[h1];rfl)
    go_wp2_with fail
    refine HC.o.mono ?_
    rw[h1]
    rintro _ X1 ⟨rfl,hb1⟩
    have B1:=η hb1
    clear hb1
    go_wp2
    go_ret
    exact⟨by rw[H1.o];rfl,B1.o⟩
   | true =>
    have HV3:Hid (tot=(l.drop 1).all g'):=HV2.o.trans (by rw[h1];rfl)
    go_wp2_with fail
    refine HC.o.mono ?_
    rw[h1]
    rintro _ X1 ⟨rfl,hb1⟩
    have B1:=η hb1
    clear hb1
    cases h2:(l.drop 1).all g' with
    | false =>
     have H2:Hid (tot=false):=HV3.o.trans h2
     go_wp2_with (go_at_call 51;refine (C2.o _ B1.o).mono ?_;rw[h2];rintro _ X2 ⟨rfl,hb2⟩)
     go_ret
     exact⟨by rw[H2.o];rfl,bel B1.o hb2⟩
    | true =>
     have H2:Hid (tot=true):=HV3.o.trans h2
     go_wp2_with (go_at_call 51;refine (C2.o _ B1.o).mono ?_;rw[h2];rintro _ X2 ⟨rfl,hb2⟩)
     go_ret
     exact⟨by rw[H2.o];rfl,bel B1.o hb2⟩
 · have u1:decide ((0:Int)<(l.length:Int))=false:=decide_eq_false ω
   have H1:Hid (tot=false):=by
    show _=_
    rw[HV.o]
    cases l with
    | nil=>rfl
    | cons a r=>simp at hlen
   clear hl hx hy hd
   go_in
   go_wp2
   go_ret
   exact⟨by rw[H1.o];rfl,Below.refl _ _⟩
def Sh.num:Sh→FuncId
 | .typ=>56
 | .fld=>52
 | .ctor=>53
 | .mem=>58
 | .exp=>57
 | .set=>60
 | .arm=>95
 | .blk=>96
 | .stm=>134
 | .sarm=>190
 | .snd=>191
 | .ans=>62
 | .dcl=>28
 | .chg=>29
 | .leaf _ _=>97
def Sh.pl:Sh→Bool
 | .leaf _ _=>false
 | _=>true
theorem num_ent (s:Sh):Ent s.num:=fun _ _=>by cases s<;>kernel_rfl
def ShSaid (k:Nat) (s:Sh):Prop:=∀(cs:List Value) (t:Nd) (d:Nat) (w:À),d+k=41→NdR w (lo w) cs t→Calls prog s.num #[.agg cs.toArray,.int .i64 (d:Int)] w (EqSaid (shp k s t) w)
def AllS (k:Nat):Prop:=∀s:Sh,s.pl=true→ShSaid k s
theorem AllS.fv {k:Nat} (H:AllS k) (s:Sh) (hs:s.pl=true) (w:À):FvS k s.num #[] (shp k s) w:=⟨num_ent s,fun X cs t d _ hd hn=>H s hs cs t d X hd hn⟩
theorem saidEq {F:FuncId} {args:Array Value} {w w0:À} {o o':Bool} (h:Calls prog F args w (EqSaid o w0)) (e:o=o'):Calls prog F args w (EqSaid o' w0):=e▸h
def Sh.fv (s:Sh):Value:=.func (.func s.num) #[] #[]
theorem serG_B {k:Nat}:∀(a:List Nd) (fs:List Fx) (qs:List Sh),fs.map Fx.g=qs.map (shp k)→serG a fs=serB (shp k) a qs
 | [],[],[],_=>rfl
 | [],[],_::_,h=>by cases h
 | [],_::_,[],h=>by cases h
 | [],_::_,_::_,_=>rfl
 | _::_,[],[],_=>rfl
 | _::_,[],_::_,h=>by cases h
 | _::_,_::_,[],h=>by cases h
 | x::a,f::fs,q::qs,h=>by
  injection h with h1 h2
  rw[serG,serB,serG_B a fs qs h2,h1]
theorem endG_B {k:Nat} (a:List Nd) (x:Fx) (s:Sh) (fs:List Fx) (qs:List Sh) (hx:x.g=shp k s) (h:fs.map Fx.g=qs.map (shp k)):endG a x fs=endB (shp k) a s qs:=by
 have hl:fs.length=qs.length:=by have:=congrArg List.length h;simpa using this
 unfold endG endB
 rw[hx,hl,serG_B _ fs qs h]
theorem begG_B {k:Nat} (a:List Nd) (x y:Fx) (s t:Sh) (hx:x.g=shp k s) (hy:y.g=shp k t):begG x y a=begB (shp k) s t a:=by
 cases a with
 | nil=>rfl
 | cons b a=>rw[begG,begB,hx,hy]
theorem fxs_new (X:À) (q:List Fx) (hl:q.length≤maxLen):FxR (X.alloc (.cells (q.map Fx.v).toArray 79)) (lo (X.alloc (.cells (q.map Fx.v).toArray 79))) (.slice (some ⟨X.heap.size,0,none⟩) q.length q.length) q:=by
 refine⟨_,_,fun i=>[(q.map Fx.v).getD i undef],rfl,⟨hl,Nat.le_refl _⟩,fun _=>⟨X.heap.size,0,rfl,(Hs.new X 79 _).lt,fun i hi=>⟨rfl,fun j u hu=>?_⟩⟩,fun i hi=>?_⟩
 · cases j with
   | succ j=>simp at hu
   | zero =>
    simp only[List.getElem?_cons_zero,Option.some.injEq] at hu
    rw[Hs.cell (Hs.new X 79 _)]
    subst hu
    simp[hi]
 · simp[hi]
theorem all_call {k:Nat} (H:AllS k) (s:Sh) (hs:s.pl=true) {a:List Nd} {A:Option Addr} {cap d:Nat} {X:À} (hd:d+k=41) (ha:NdsR X (lo X) (.slice A a.length cap) a) :
 Calls prog 51 #[.slice A a.length cap,.int .i64 (d:Int),s.fv] X (EqSaid (a.all (shp k s)) X):=all_any a A cap d X hd ha (H.fv s hs X)
theorem beg_call {k:Nat} (H:AllS k) (s t:Sh) (hs:s.pl=true) (ht:t.pl=true) {a:List Nd} {A:Option Addr} {cap d:Nat} {X:À} (hd:d+k=41) (ha:NdsR X (lo X) (.slice A a.length cap) a) :
 Calls prog 94 #[.slice A a.length cap,.int .i64 (d:Int),s.fv,t.fv] X (EqSaid (begB (shp k) s t a) X):=saidEq (begun_any a A cap d X hd ha (H.fv s hs X) (H.fv t ht X)) (begG_B a _ _ s t rfl rfl)
def fxS (k:Nat) (s:Sh):Fx:=⟨s.num,#[],shp k s⟩
theorem ser_call {k:Nat} (H:AllS k) (qs:List Sh) (hs:∀s∈qs,s.pl=true) (hl:qs.length≤maxLen) {a:List Nd} {A:Option Addr} {cap d:Nat} {X:À} (hd:d+k=41) (ha:NdsR X (lo X) (.slice A a.length cap) a) :
 Calls prog 90 #[.slice A a.length cap,.int .i64 (d:Int),.slice (some ⟨X.heap.size,0,none⟩) qs.length qs.length] (X.alloc (.cells (qs.map Sh.fv).toArray 79)) (EqSaid (serB (shp k) a qs) X):=by
 have e:qs.map Sh.fv=(qs.map (fxS k)).map Fx.v:=by rw[List.map_map];rfl
 have hb:Below X.heap.size X (X.alloc (.cells (qs.map Sh.fv).toArray 79)):=belA (belR _) _
 have h:=series_any (k:=k) (qs.map (fxS k)) a A (some ⟨X.heap.size,0,none⟩) cap (qs.map (fxS k)).length d (X.alloc (.cells (qs.map Sh.fv).toArray 79)) hd (NdsR.to ha (sub_lo hb)) (by rw[e];exact fxs_new X _ (by rw[List.length_map];exact hl)) (fun i hi=>by
  have hm:(qs.map (fxS k))[i]=fxS k (qs[i]'(by simpa using hi)):=by simp
  rw[hm];exact H.fv _ (hs _ (List.getElem_mem _)) _)
 rw[List.length_map] at h
 refine (saidEq h (serG_B a _ qs (by rw[List.map_map];rfl))).mono ?_
 rintro e2 w2 ⟨h1,h2⟩
 exact⟨h1,bel hb h2⟩
theorem end_call {k:Nat} (H:AllS k) (s:Sh) (hs0:s.pl=true) (qs:List Sh) (hs:∀s∈qs,s.pl=true) (hl:qs.length≤maxLen) {a:List Nd} {A:Option Addr} {cap d:Nat} {X:À} (hd:d+k=41) (ha:NdsR X (lo X) (.slice A a.length cap) a) :
 Calls prog 55 #[.slice A a.length cap,.int .i64 (d:Int),s.fv,.slice (some ⟨X.heap.size,0,none⟩) qs.length qs.length] (X.alloc (.cells (qs.map Sh.fv).toArray 79)) (EqSaid (endB (shp k) a s qs) X):=by
 have e:qs.map Sh.fv=(qs.map (fxS k)).map Fx.v:=by rw[List.map_map];rfl
 have hb:Below X.heap.size X (X.alloc (.cells (qs.map Sh.fv).toArray 79)):=belA (belR _) _
 have h:=ended_any (k:=k) (qs.map (fxS k)) a A (some ⟨X.heap.size,0,none⟩) cap (qs.map (fxS k)).length d (X.alloc (.cells (qs.map Sh.fv).toArray 79)) hd (NdsR.to ha (sub_lo hb)) (by rw[e];exact fxs_new X _ (by rw[List.length_map];exact hl)) (H.fv s hs0 _) (fun i hi=>by
  have hm:(qs.map (fxS k))[i]=fxS k (qs[i]'(by simpa using hi)):=by simp
  rw[hm];exact H.fv _ (hs _ (List.getElem_mem _)) _)
 rw[List.length_map] at h
 refine (saidEq h (endG_B a _ s _ qs rfl (by rw[List.map_map];rfl))).mono ?_
 rintro e2 w2 ⟨h1,h2⟩
 exact⟨h1,bel hb h2⟩
theorem len0 (n:Nat):((n:Int)==0)=(n==0):=by
 cases n with
 | zero=>rfl
 | succ n=>rw[beq_eq_false_iff_ne.2 ω,beq_eq_false_iff_ne.2 ω]
theorem lenlt (m n:Nat):decide ((m:Int)<(n:Int))=decide (m<n):=by
 by_cases h:m<n
 · rw[decide_eq_true h,decide_eq_true ω]
 · rw[decide_eq_false h,decide_eq_false ω]
theorem nd_kids {w:À} {P:Nat→Prop} {k n p:Int} {s:Ê} {A:Option Addr} {l cap:Nat} {a:List Nd} (h:NdR w P (cl k s n p A l cap) (.mk k s n p a)):NdsR w P (.slice A a.length cap) a:=by
 obtain⟨k0,s0,n0,p0,a0,A0,c0,e1,e2,_,_,h⟩:=nd_form h
 injection e2 with _ _ _ _ e3
 subst e3
 injection e1 with _ e1
 injection e1 with _ e1
 injection e1 with _ e1
 injection e1 with _ e1
 injection e1 with e1 _
 injection e1 with e4 e5 e6
 rw[e4,e6];exact h
theorem pred_said {F:FuncId} {p:List UInt8→Bool} (hF:PredSaid F p) (s:Ê) (w:À) (hs:s.size≤maxLen):Calls prog F #[.string s] w (EqSaid (p s.data.toList) w):=(hF.2 s w hs).mono (by rintro e w' ⟨h1,rfl⟩;exact⟨h1,Below.refl _ _⟩)
theorem fld_s {k:Nat} (H:AllS k) (k0:Int) (s:Ê) (n p:Int) (a:List Nd) (A:Option Addr) (cap d:Nat) (w:À) (hd:d+(k+1)=41) (hs:s.size≤maxLen) (hn:NdR w (lo w) (cl k0 s n p A a.length cap) (.mk k0 s n p a)):Calls prog 52 #[.agg (cl k0 s n p A a.length cap).toArray,.int .i64 (d:Int)] w (EqSaid ((k0==7)&&(lowB (ndT (Nd.mk k0 s n p a))&&ndN (Nd.mk k0 s n p a)==0)&&serB (shp k) a [.typ]) w):=by
 have ha:=nd_kids hn
 have lm:a.length≤9223372036854775807:=ha.len.2
 have hd2:(d+1)+k=41:=by omega
 obtain⟨HH,HN,HA,HS,HD,HD0⟩:=zd6 H hn ha hs hd2 hd
 obtain⟨HW,HW2,HW3⟩:=dw5 d ω
 have u0:decide ((d:Int)≤40)=true:=decide_eq_true ω
 obtain⟨W1,hW1,B0,Y0,x0,x1,x2,x3,x4⟩:=nb5 w k0 s n p A a.length cap
 obtain⟨q1,h1⟩:∃q,((k0==7))=q:=⟨_,rfl⟩
 obtain⟨q2,h2⟩:∃q,((lowB (ndT (Nd.mk k0 s n p a))&&ndN (Nd.mk k0 s n p a)==0))=q:=⟨_,rfl⟩
 obtain⟨q3,h3⟩:∃q,(serB (shp k) a [.typ])=q:=⟨_,rfl⟩
 rw[h1,h2,h3]
 have u1:(k0==7)=q1:=(rfl).trans h1
 clear h1
 have H2:=η h2
 clear h2
 have H3:=η h3
 clear h3
 clear hd hd2 hs hn ha
 go_in
 go_upto_region 1 with fail
 rw[←hW1.o]
 clear hW1
 cases q1 with
 | false =>
  go_wp2_with (refine lr5 Y0 ?_)
  go_ret
  exact⟨rfl,B0.o⟩
 | true =>
  cases q2 with
  | false =>
   go_wp2_with (first|(refine lr5 Y0 ?_)|(go_at_call 49;refine (saidEq (named_any p_lowB _ _ _ (NdR.to HN.o (sub_lo B0.o))) H2.o).mono ?_;rintro _ Z2 ⟨rfl,hb2⟩;obtain⟨B2,Y2,y20,y21,y22,y23,y24⟩:=nx5 B0 Y0 hb2))
   go_ret
   exact⟨rfl,B2.o⟩
  | true =>
   cases q3<;>(go_wp2_with (first|(refine lr5 Y0 ?_)|(go_at_call 49;refine (saidEq (named_any p_lowB _ _ _ (NdR.to HN.o (sub_lo B0.o))) H2.o).mono ?_;rintro _ Z2 ⟨rfl,hb2⟩;obtain⟨B2,Y2,y20,y21,y22,y23,y24⟩:=nx5 B0 Y0 hb2)|(go_at_call 90;(first|rw[HW.o]|rw[HW2.o]|rw[HW3.o]|skip);refine (saidEq (ser_call HH.o [.typ] π π HD.o (NdsR.to HA.o (sub_lo B2.o))) H3.o).mono ?_;rintro _ Z3 ⟨rfl,hb3⟩;obtain⟨B3,Y3,y30,y31,y32,y33,y34⟩:=nx5 B2 Y2 hb3));go_ret;exact⟨rfl,B3.o⟩)
theorem fld_z (cs:List Value) (t:Nd) (d:Nat) (w:À) (hd:d+0=41) (h:NdR w (lo w) cs t):Calls prog 52 #[.agg cs.toArray,.int .i64 (d:Int)] w (EqSaid false w):=by
 obtain⟨k0,s,n,p,a,A,cap,rfl,rfl,_,_,_⟩:=nd_form h
 have u0:decide ((d:Int)≤40)=false:=decide_eq_false ω
 obtain⟨W1,hW1⟩:∃q,Hid (q=w.alloc (.cells (cl k0 s n p A a.length cap).toArray 24)):=⟨_,rfl⟩
 have B0:Hid (Below w.heap.size w W1):=by show Below _ _ _;rw[hW1.o];exact belA (belR _) _
 clear h hd
 go_in
 go_upto_region 1 with fail
 rw[←hW1.o]
 go_wp2
 go_ret
 exact⟨rfl,B0.o⟩
theorem ctor_s {k:Nat} (H:AllS k) (k0:Int) (s:Ê) (n p:Int) (a:List Nd) (A:Option Addr) (cap d:Nat) (w:À) (hd:d+(k+1)=41) (hs:s.size≤maxLen) (hn:NdR w (lo w) (cl k0 s n p A a.length cap) (.mk k0 s n p a)):Calls prog 53 #[.agg (cl k0 s n p A a.length cap).toArray,.int .i64 (d:Int)] w (EqSaid ((k0==8)&&(uppB (ndT (Nd.mk k0 s n p a))&&ndN (Nd.mk k0 s n p a)==0)&&a.all (shp k .typ)) w):=by
 have ha:=nd_kids hn
 have lm:a.length≤9223372036854775807:=ha.len.2
 have hd2:(d+1)+k=41:=by omega
 obtain⟨HH,HN,HA,HS,HD,HD0⟩:=zd6 H hn ha hs hd2 hd
 obtain⟨HW,HW2,HW3⟩:=dw5 d ω
 have u0:decide ((d:Int)≤40)=true:=decide_eq_true ω
 obtain⟨W1,hW1,B0,Y0,x0,x1,x2,x3,x4⟩:=nb5 w k0 s n p A a.length cap
 obtain⟨q1,h1⟩:∃q,((k0==8))=q:=⟨_,rfl⟩
 obtain⟨q2,h2⟩:∃q,((uppB (ndT (Nd.mk k0 s n p a))&&ndN (Nd.mk k0 s n p a)==0))=q:=⟨_,rfl⟩
 obtain⟨q3,h3⟩:∃q,(a.all (shp k .typ))=q:=⟨_,rfl⟩
 rw[h1,h2,h3]
 have u1:(k0==8)=q1:=(rfl).trans h1
 clear h1
 have H2:=η h2
 clear h2
 have H3:=η h3
 clear h3
 clear hd hd2 hs hn ha
 go_in
 go_upto_region 1 with fail
 rw[←hW1.o]
 clear hW1
 cases q1 with
 | false =>
  go_wp2_with (refine lr5 Y0 ?_)
  go_ret
  exact⟨rfl,B0.o⟩
 | true =>
  cases q2 with
  | false =>
   go_wp2_with (first|(refine lr5 Y0 ?_)|(go_at_call 49;refine (saidEq (named_any p_uppB _ _ _ (NdR.to HN.o (sub_lo B0.o))) H2.o).mono ?_;rintro _ Z2 ⟨rfl,hb2⟩;obtain⟨B2,Y2,y20,y21,y22,y23,y24⟩:=nx5 B0 Y0 hb2))
   go_ret
   exact⟨rfl,B2.o⟩
  | true =>
   cases q3<;>(go_wp2_with (first|(refine lr5 Y0 ?_)|(go_at_call 49;refine (saidEq (named_any p_uppB _ _ _ (NdR.to HN.o (sub_lo B0.o))) H2.o).mono ?_;rintro _ Z2 ⟨rfl,hb2⟩;obtain⟨B2,Y2,y20,y21,y22,y23,y24⟩:=nx5 B0 Y0 hb2)|(go_at_call 51;(first|rw[HW.o]|rw[HW2.o]|rw[HW3.o]|skip);refine (saidEq (all_call HH.o .typ rfl HD.o (NdsR.to HA.o (sub_lo B2.o))) H3.o).mono ?_;rintro _ Z3 ⟨rfl,hb3⟩;obtain⟨B3,Y3,y30,y31,y32,y33,y34⟩:=nx5 B2 Y2 hb3));go_ret;exact⟨rfl,B3.o⟩)
theorem ctor_z (cs:List Value) (t:Nd) (d:Nat) (w:À) (hd:d+0=41) (h:NdR w (lo w) cs t):Calls prog 53 #[.agg cs.toArray,.int .i64 (d:Int)] w (EqSaid false w):=by
 obtain⟨k0,s,n,p,a,A,cap,rfl,rfl,_,_,_⟩:=nd_form h
 have u0:decide ((d:Int)≤40)=false:=decide_eq_false ω
 obtain⟨W1,hW1⟩:∃q,Hid (q=w.alloc (.cells (cl k0 s n p A a.length cap).toArray 24)):=⟨_,rfl⟩
 have B0:Hid (Below w.heap.size w W1):=by show Below _ _ _;rw[hW1.o];exact belA (belR _) _
 clear h hd
 go_in
 go_upto_region 1 with fail
 rw[←hW1.o]
 go_wp2
 go_ret
 exact⟨rfl,B0.o⟩
theorem set_s {k:Nat} (H:AllS k) (k0:Int) (s:Ê) (n p:Int) (a:List Nd) (A:Option Addr) (cap d:Nat) (w:À) (hd:d+(k+1)=41) (hs:s.size≤maxLen) (hn:NdR w (lo w) (cl k0 s n p A a.length cap) (.mk k0 s n p a)):Calls prog 60 #[.agg (cl k0 s n p A a.length cap).toArray,.int .i64 (d:Int)] w (EqSaid ((k0==28)&&(lowB (ndT (Nd.mk k0 s n p a))&&ndN (Nd.mk k0 s n p a)==0)&&serB (shp k) a [.exp]) w):=by
 have ha:=nd_kids hn
 have lm:a.length≤9223372036854775807:=ha.len.2
 have hd2:(d+1)+k=41:=by omega
 obtain⟨HH,HN,HA,HS,HD,HD0⟩:=zd6 H hn ha hs hd2 hd
 obtain⟨HW,HW2,HW3⟩:=dw5 d ω
 have u0:decide ((d:Int)≤40)=true:=decide_eq_true ω
 obtain⟨W1,hW1,B0,Y0,x0,x1,x2,x3,x4⟩:=nb5 w k0 s n p A a.length cap
 obtain⟨q1,h1⟩:∃q,((k0==28))=q:=⟨_,rfl⟩
 obtain⟨q2,h2⟩:∃q,((lowB (ndT (Nd.mk k0 s n p a))&&ndN (Nd.mk k0 s n p a)==0))=q:=⟨_,rfl⟩
 obtain⟨q3,h3⟩:∃q,(serB (shp k) a [.exp])=q:=⟨_,rfl⟩
 rw[h1,h2,h3]
 have u1:(k0==28)=q1:=(rfl).trans h1
 clear h1
 have H2:=η h2
 clear h2
 have H3:=η h3
 clear h3
 clear hd hd2 hs hn ha
 go_in
 go_upto_region 1 with fail
 rw[←hW1.o]
 clear hW1
 cases q1 with
 | false =>
  go_wp2_with (refine lr5 Y0 ?_)
  go_ret
  exact⟨rfl,B0.o⟩
 | true =>
  cases q2 with
  | false =>
   go_wp2_with (first|(refine lr5 Y0 ?_)|(go_at_call 49;refine (saidEq (named_any p_lowB _ _ _ (NdR.to HN.o (sub_lo B0.o))) H2.o).mono ?_;rintro _ Z2 ⟨rfl,hb2⟩;obtain⟨B2,Y2,y20,y21,y22,y23,y24⟩:=nx5 B0 Y0 hb2))
   go_ret
   exact⟨rfl,B2.o⟩
  | true =>
   cases q3<;>(go_wp2_with (first|(refine lr5 Y0 ?_)|(go_at_call 49;refine (saidEq (named_any p_lowB _ _ _ (NdR.to HN.o (sub_lo B0.o))) H2.o).mono ?_;rintro _ Z2 ⟨rfl,hb2⟩;obtain⟨B2,Y2,y20,y21,y22,y23,y24⟩:=nx5 B0 Y0 hb2)|(go_at_call 90;(first|rw[HW.o]|rw[HW2.o]|rw[HW3.o]|skip);refine (saidEq (ser_call HH.o [.exp] π π HD.o (NdsR.to HA.o (sub_lo B2.o))) H3.o).mono ?_;rintro _ Z3 ⟨rfl,hb3⟩;obtain⟨B3,Y3,y30,y31,y32,y33,y34⟩:=nx5 B2 Y2 hb3));go_ret;exact⟨rfl,B3.o⟩)
theorem set_z (cs:List Value) (t:Nd) (d:Nat) (w:À) (hd:d+0=41) (h:NdR w (lo w) cs t):Calls prog 60 #[.agg cs.toArray,.int .i64 (d:Int)] w (EqSaid false w):=by
 obtain⟨k0,s,n,p,a,A,cap,rfl,rfl,_,_,_⟩:=nd_form h
 have u0:decide ((d:Int)≤40)=false:=decide_eq_false ω
 obtain⟨W1,hW1⟩:∃q,Hid (q=w.alloc (.cells (cl k0 s n p A a.length cap).toArray 24)):=⟨_,rfl⟩
 have B0:Hid (Below w.heap.size w W1):=by show Below _ _ _;rw[hW1.o];exact belA (belR _) _
 clear h hd
 go_in
 go_upto_region 1 with fail
 rw[←hW1.o]
 go_wp2
 go_ret
 exact⟨rfl,B0.o⟩
theorem ans_s {k:Nat} (H:AllS k) (k0:Int) (s:Ê) (n p:Int) (a:List Nd) (A:Option Addr) (cap d:Nat) (w:À) (hd:d+(k+1)=41) (hs:s.size≤maxLen) (hn:NdR w (lo w) (cl k0 s n p A a.length cap) (.mk k0 s n p a)):Calls prog 62 #[.agg (cl k0 s n p A a.length cap).toArray,.int .i64 (d:Int)] w (EqSaid ((k0==75)&&(msgB (ndT (Nd.mk k0 s n p a))&&ndN (Nd.mk k0 s n p a)==0)&&a.all (shp k .exp)) w):=by
 have ha:=nd_kids hn
 have lm:a.length≤9223372036854775807:=ha.len.2
 have hd2:(d+1)+k=41:=by omega
 obtain⟨HH,HN,HA,HS,HD,HD0⟩:=zd6 H hn ha hs hd2 hd
 obtain⟨HW,HW2,HW3⟩:=dw5 d ω
 have u0:decide ((d:Int)≤40)=true:=decide_eq_true ω
 obtain⟨W1,hW1,B0,Y0,x0,x1,x2,x3,x4⟩:=nb5 w k0 s n p A a.length cap
 obtain⟨q1,h1⟩:∃q,((k0==75))=q:=⟨_,rfl⟩
 obtain⟨q2,h2⟩:∃q,((msgB (ndT (Nd.mk k0 s n p a))&&ndN (Nd.mk k0 s n p a)==0))=q:=⟨_,rfl⟩
 obtain⟨q3,h3⟩:∃q,(a.all (shp k .exp))=q:=⟨_,rfl⟩
 rw[h1,h2,h3]
 have u1:(k0==75)=q1:=(rfl).trans h1
 clear h1
 have H2:=η h2
 clear h2
 have H3:=η h3
 clear h3
 clear hd hd2 hs hn ha
 go_in
 go_upto_region 1 with fail
 rw[←hW1.o]
 clear hW1
 cases q1 with
 | false =>
  go_wp2_with (refine lr5 Y0 ?_)
  go_ret
  exact⟨rfl,B0.o⟩
 | true =>
  cases q2 with
  | false =>
   go_wp2_with (first|(refine lr5 Y0 ?_)|(go_at_call 49;refine (saidEq (named_any p_msgB _ _ _ (NdR.to HN.o (sub_lo B0.o))) H2.o).mono ?_;rintro _ Z2 ⟨rfl,hb2⟩;obtain⟨B2,Y2,y20,y21,y22,y23,y24⟩:=nx5 B0 Y0 hb2))
   go_ret
   exact⟨rfl,B2.o⟩
  | true =>
   cases q3<;>(go_wp2_with (first|(refine lr5 Y0 ?_)|(go_at_call 49;refine (saidEq (named_any p_msgB _ _ _ (NdR.to HN.o (sub_lo B0.o))) H2.o).mono ?_;rintro _ Z2 ⟨rfl,hb2⟩;obtain⟨B2,Y2,y20,y21,y22,y23,y24⟩:=nx5 B0 Y0 hb2)|(go_at_call 51;(first|rw[HW.o]|rw[HW2.o]|rw[HW3.o]|skip);refine (saidEq (all_call HH.o .exp rfl HD.o (NdsR.to HA.o (sub_lo B2.o))) H3.o).mono ?_;rintro _ Z3 ⟨rfl,hb3⟩;obtain⟨B3,Y3,y30,y31,y32,y33,y34⟩:=nx5 B2 Y2 hb3));go_ret;exact⟨rfl,B3.o⟩)
theorem ans_z (cs:List Value) (t:Nd) (d:Nat) (w:À) (hd:d+0=41) (h:NdR w (lo w) cs t):Calls prog 62 #[.agg cs.toArray,.int .i64 (d:Int)] w (EqSaid false w):=by
 obtain⟨k0,s,n,p,a,A,cap,rfl,rfl,_,_,_⟩:=nd_form h
 have u0:decide ((d:Int)≤40)=false:=decide_eq_false ω
 obtain⟨W1,hW1⟩:∃q,Hid (q=w.alloc (.cells (cl k0 s n p A a.length cap).toArray 24)):=⟨_,rfl⟩
 have B0:Hid (Below w.heap.size w W1):=by show Below _ _ _;rw[hW1.o];exact belA (belR _) _
 clear h hd
 go_in
 go_upto_region 1 with fail
 rw[←hW1.o]
 go_wp2
 go_ret
 exact⟨rfl,B0.o⟩
theorem blk_s {k:Nat} (H:AllS k) (k0:Int) (s:Ê) (n p:Int) (a:List Nd) (A:Option Addr) (cap d:Nat) (w:À) (hd:d+(k+1)=41) (hs:s.size≤maxLen) (hn:NdR w (lo w) (cl k0 s n p A a.length cap) (.mk k0 s n p a)):Calls prog 96 #[.agg (cl k0 s n p A a.length cap).toArray,.int .i64 (d:Int)] w (EqSaid ((k0==11)&&bareB (Nd.mk k0 s n p a)&&a.all (shp k .stm)) w):=by
 have ha:=nd_kids hn
 have lm:a.length≤9223372036854775807:=ha.len.2
 have hd2:(d+1)+k=41:=by omega
 obtain⟨HH,HN,HA,HS,HD,HD0⟩:=zd6 H hn ha hs hd2 hd
 obtain⟨HW,HW2,HW3⟩:=dw5 d ω
 have u0:decide ((d:Int)≤40)=true:=decide_eq_true ω
 obtain⟨W1,hW1,B0,Y0,x0,x1,x2,x3,x4⟩:=nb5 w k0 s n p A a.length cap
 obtain⟨q1,h1⟩:∃q,((k0==11))=q:=⟨_,rfl⟩
 obtain⟨q2,h2⟩:∃q,(bareB (Nd.mk k0 s n p a))=q:=⟨_,rfl⟩
 obtain⟨q3,h3⟩:∃q,(a.all (shp k .stm))=q:=⟨_,rfl⟩
 rw[h1,h2,h3]
 have u1:(k0==11)=q1:=(rfl).trans h1
 clear h1
 have H2:=η h2
 clear h2
 have H3:=η h3
 clear h3
 clear hd hd2 hs hn ha
 go_in
 go_upto_region 1 with fail
 rw[←hW1.o]
 clear hW1
 cases q1 with
 | false =>
  go_wp2_with (refine lr5 Y0 ?_)
  go_ret
  exact⟨rfl,B0.o⟩
 | true =>
  cases q2 with
  | false =>
   go_wp2_with (first|(refine lr5 Y0 ?_)|(go_at_call 27;refine (saidEq (bare_any _ _ _ (NdR.to HN.o (sub_lo B0.o))) H2.o).mono ?_;rintro _ Z2 ⟨rfl,hb2⟩;obtain⟨B2,Y2,y20,y21,y22,y23,y24⟩:=nx5 B0 Y0 hb2))
   go_ret
   exact⟨rfl,B2.o⟩
  | true =>
   cases q3<;>(go_wp2_with (first|(refine lr5 Y0 ?_)|(go_at_call 27;refine (saidEq (bare_any _ _ _ (NdR.to HN.o (sub_lo B0.o))) H2.o).mono ?_;rintro _ Z2 ⟨rfl,hb2⟩;obtain⟨B2,Y2,y20,y21,y22,y23,y24⟩:=nx5 B0 Y0 hb2)|(go_at_call 51;(first|rw[HW.o]|rw[HW2.o]|rw[HW3.o]|skip);refine (saidEq (all_call HH.o .stm rfl HD.o (NdsR.to HA.o (sub_lo B2.o))) H3.o).mono ?_;rintro _ Z3 ⟨rfl,hb3⟩;obtain⟨B3,Y3,y30,y31,y32,y33,y34⟩:=nx5 B2 Y2 hb3));go_ret;exact⟨rfl,B3.o⟩)
theorem blk_z (cs:List Value) (t:Nd) (d:Nat) (w:À) (hd:d+0=41) (h:NdR w (lo w) cs t):Calls prog 96 #[.agg cs.toArray,.int .i64 (d:Int)] w (EqSaid false w):=by
 obtain⟨k0,s,n,p,a,A,cap,rfl,rfl,_,_,_⟩:=nd_form h
 have u0:decide ((d:Int)≤40)=false:=decide_eq_false ω
 obtain⟨W1,hW1⟩:∃q,Hid (q=w.alloc (.cells (cl k0 s n p A a.length cap).toArray 24)):=⟨_,rfl⟩
 have B0:Hid (Below w.heap.size w W1):=by show Below _ _ _;rw[hW1.o];exact belA (belR _) _
 clear h hd
 go_in
 go_upto_region 1 with fail
 rw[←hW1.o]
 go_wp2
 go_ret
 exact⟨rfl,B0.o⟩
theorem snd_s {k:Nat} (H:AllS k) (k0:Int) (s:Ê) (n p:Int) (a:List Nd) (A:Option Addr) (cap d:Nat) (w:À) (hd:d+(k+1)=41) (hs:s.size≤maxLen) (hn:NdR w (lo w) (cl k0 s n p A a.length cap) (.mk k0 s n p a)):Calls prog 191 #[.agg (cl k0 s n p A a.length cap).toArray,.int .i64 (d:Int)] w (EqSaid ((k0==56)&&(uppB (ndT (Nd.mk k0 s n p a))&&ndN (Nd.mk k0 s n p a)==0)&&begB (shp k) .exp .exp a) w):=by
 have ha:=nd_kids hn
 have lm:a.length≤9223372036854775807:=ha.len.2
 have hd2:(d+1)+k=41:=by omega
 obtain⟨HH,HN,HA,HS,HD,HD0⟩:=zd6 H hn ha hs hd2 hd
 obtain⟨HW,HW2,HW3⟩:=dw5 d ω
 have u0:decide ((d:Int)≤40)=true:=decide_eq_true ω
 obtain⟨W1,hW1,B0,Y0,x0,x1,x2,x3,x4⟩:=nb5 w k0 s n p A a.length cap
 obtain⟨q1,h1⟩:∃q,((k0==56))=q:=⟨_,rfl⟩
 obtain⟨q2,h2⟩:∃q,((uppB (ndT (Nd.mk k0 s n p a))&&ndN (Nd.mk k0 s n p a)==0))=q:=⟨_,rfl⟩
 obtain⟨q3,h3⟩:∃q,(begB (shp k) .exp .exp a)=q:=⟨_,rfl⟩
 rw[h1,h2,h3]
 have u1:(k0==56)=q1:=(rfl).trans h1
 clear h1
 have H2:=η h2
 clear h2
 have H3:=η h3
 clear h3
 clear hd hd2 hs hn ha
 go_in
 go_upto_region 1 with fail
 rw[←hW1.o]
 clear hW1
 cases q1 with
 | false =>
  go_wp2_with (refine lr5 Y0 ?_)
  go_ret
  exact⟨rfl,B0.o⟩
 | true =>
  cases q2 with
  | false =>
   go_wp2_with (first|(refine lr5 Y0 ?_)|(go_at_call 49;refine (saidEq (named_any p_uppB _ _ _ (NdR.to HN.o (sub_lo B0.o))) H2.o).mono ?_;rintro _ Z2 ⟨rfl,hb2⟩;obtain⟨B2,Y2,y20,y21,y22,y23,y24⟩:=nx5 B0 Y0 hb2))
   go_ret
   exact⟨rfl,B2.o⟩
  | true =>
   cases q3<;>(go_wp2_with (first|(refine lr5 Y0 ?_)|(go_at_call 49;refine (saidEq (named_any p_uppB _ _ _ (NdR.to HN.o (sub_lo B0.o))) H2.o).mono ?_;rintro _ Z2 ⟨rfl,hb2⟩;obtain⟨B2,Y2,y20,y21,y22,y23,y24⟩:=nx5 B0 Y0 hb2)|(go_at_call 94;(first|rw[HW.o]|rw[HW2.o]|rw[HW3.o]|skip);refine (saidEq (beg_call HH.o .exp .exp rfl rfl HD.o (NdsR.to HA.o (sub_lo B2.o))) H3.o).mono ?_;rintro _ Z3 ⟨rfl,hb3⟩;obtain⟨B3,Y3,y30,y31,y32,y33,y34⟩:=nx5 B2 Y2 hb3));go_ret;exact⟨rfl,B3.o⟩)
theorem snd_z (cs:List Value) (t:Nd) (d:Nat) (w:À) (hd:d+0=41) (h:NdR w (lo w) cs t):Calls prog 191 #[.agg cs.toArray,.int .i64 (d:Int)] w (EqSaid false w):=by
 obtain⟨k0,s,n,p,a,A,cap,rfl,rfl,_,_,_⟩:=nd_form h
 have u0:decide ((d:Int)≤40)=false:=decide_eq_false ω
 obtain⟨W1,hW1⟩:∃q,Hid (q=w.alloc (.cells (cl k0 s n p A a.length cap).toArray 24)):=⟨_,rfl⟩
 have B0:Hid (Below w.heap.size w W1):=by show Below _ _ _;rw[hW1.o];exact belA (belR _) _
 clear h hd
 go_in
 go_upto_region 1 with fail
 rw[←hW1.o]
 go_wp2
 go_ret
 exact⟨rfl,B0.o⟩
end Go.Proofs.YtbjdcogmiggamaaGreatDoor
