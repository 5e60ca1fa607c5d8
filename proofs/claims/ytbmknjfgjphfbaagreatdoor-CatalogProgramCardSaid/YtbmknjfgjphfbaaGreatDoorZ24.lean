import Derived.Test.YtbmknjfgjphfbaaGreatDoorZ23
set_option linter.all false
namespace Go.Proofs.YtbmknjfgjphfbaaGreatDoor
open Proofs.Tryz RowKit Maps WideMaps ChangeMaps
set_option maxRecDepth 100000
set_option maxHeartbeats 8000000
section
def ndK:Nd→Int|.mk k _ _ _ _=>k
def ndS:Nd→Ê|.mk _ s _ _ _=>s
def ndT (n:Nd):List UInt8:=(ndS n).data.toList
def ndN:Nd→Int|.mk _ _ n _ _=>n
def ndP:Nd→Int|.mk _ _ _ p _=>p
def ndL:Nd→List Nd|.mk _ _ _ _ a=>a
inductive Wp where
 | upp|low|msg|bnd|pat|typ
def Wp.b:Wp→List UInt8→Bool
 | .upp=>uppB
 | .low=>lowB
 | .msg=>msgB
 | .bnd=>bndB
 | .pat=>patB
 | .typ=>typB
inductive Sh where
 | typ|fld|ctor|mem|exp|set|arm|blk|stm|sarm|snd|ans|dcl|chg
 | leaf (k:Int) (p:Wp)
def bareB (n:Nd):Bool:=ndT n==[]&&ndN n==0
def namB (p:Wp) (n:Nd):Bool:=p.b (ndT n)&&ndN n==0
section
variable (f:Sh→Nd→Bool)
def serB:List Nd→List Sh→Bool
 | [],[]=>true
 | x::l,s::q=>f s x&&serB l q
 | _,_=>false
def endB (l:List Nd) (a:Sh) (q:List Sh):Bool:=decide (q.length≤l.length)&&((l.take (l.length-q.length)).all (f a)&&serB f (l.drop (l.length-q.length)) q)
def begB (a b:Sh):List Nd→Bool
 | []=>false
 | x::r=>f a x&&r.all (f b)
def cnsB (n:Nd):Bool:=
 if ndK n=20 then ndT n==[]&&decide (0≤ndN n)&&decide (ndN n≤9007199254740992)
 else if ndK n=21 then ndN n==0&&decide ((ndS n).size≤4096)
 else if ndK n=22 then ndT n==[]&&(ndN n==0||ndN n==1)
 else if ndK n=24 then namB .low n
 else bareB n
def casB (n:Nd) (last:Sh):Bool:=if ndT n=[95]∧(ndL n).length≠1 then false else namB .pat n&&endB f (ndL n) (.leaf 40 .bnd) [last]
def leadB:List Nd→Nat
 | []=>0
 | x::r=>if ndK x=7 then leadB r+1 else 0
def expB (n:Nd):Bool:=
 if ndK n=20∨ndK n=21∨ndK n=22∨ndK n=23∨ndK n=24∨ndK n=25 then (ndL n).length==0&&cnsB n
 else if ndK n=26 then bareB n&&(ndL n).all (f .exp)
 else if ndK n=27 then namB .upp n&&(ndL n).all (f .set)
 else if ndK n=29 then namB .upp n&&(ndL n).all (f .exp)
 else if ndK n=30 then namB .low n&&serB f (ndL n) [.exp]
 else if ndK n=31 then bareB n&&decide (1<(ndL n).length)&&begB f .exp .set (ndL n)
 else if ndK n=32 then bareB n&&begB f .exp .exp (ndL n)
 else if ndK n=33∨ndK n=34 then bareB n&&serB f (ndL n) [.exp]
 else if ndK n=35 then (levP (ndT n)).isSome&&ndN n==0&&serB f (ndL n) [.exp,.exp]
 else if ndK n=36 then bareB n&&serB f (ndL n) [.exp,.exp,.exp]
 else if ndK n=37 then namB .low n&&serB f (ndL n) [.exp,.exp]
 else if ndK n=38 then bareB n&&decide (1<(ndL n).length)&&begB f .exp .arm (ndL n)
 else if ndK n=41 then bareB n&&endB f (ndL n) .fld [.typ,.exp]
 else false
def stmB (n:Nd):Bool:=
 if ndK n=50∨ndK n=51 then namB .low n&&serB f (ndL n) [.exp]
 else if ndK n=52 then bareB n&&(serB f (ndL n) [.exp,.blk]||serB f (ndL n) [.exp,.blk,.blk])
 else if ndK n=53 then bareB n&&decide (1<(ndL n).length)&&begB f .exp .sarm (ndL n)
 else if ndK n=55 then namB .low n&&serB f (ndL n) [.exp,.blk]
 else if ndK n=56 then namB .upp n&&begB f .exp .exp (ndL n)
 else if ndK n=57 then bareB n&&serB f (ndL n) [.exp,.snd]
 else if ndK n=58 then (if ndN n=1∧(ndL n).length<2 then false else uppB (ndT n)&&(ndN n==0||ndN n==1)&&begB f (.leaf 40 .bnd) .exp (ndL n))
 else if ndK n=59 then namB .low n&&endB f (ndL n) .exp [.leaf 75 .upp]
 else if ndK n=60 then bareB n&&(ndL n).length==0
 else if ndK n=61 then bareB n&&serB f (ndL n) [.exp]
 else false
def dclB (n:Nd):Bool:=
 if ndK n=2 then namB .upp n&&(ndL n).all (f .fld)
 else if ndK n=3 then namB .upp n&&decide (0<(ndL n).length)&&(ndL n).all (f .ctor)
 else if ndK n=4 then namB .low n&&endB f (ndL n) .fld [.typ]
 else if ndK n=5 then namB .low n&&endB f (ndL n) .fld [.typ,.exp]
 else if ndK n=6 then uppB (ndT n)&&decide (-1≤ndN n)&&decide (ndN n≤9007199254740993)&&((ndL n).take (leadB (ndL n))).all (f .fld)&&((ndL n).drop (leadB (ndL n))).all (f .mem)
 else false
def hdB (p:Wp):List Nd→Bool
 | []=>false
 | x::_=>f (.leaf 24 p) x
def cngB (n:Nd):Bool:=
 if ndK n=70 then (if uppB (ndT n)=false∨(ndN n≠0∧ndN n≠1) then false else if ndN n=1 then hdB f .upp (ndL n)&&endB f (ndL n).tail .fld [.exp] else endB f (ndL n) .fld [.exp])
 else if ndK n=71 then namB .upp n&&((ndL n).take (leadB (ndL n))).all (f .fld)&&((ndL n).drop (leadB (ndL n))).all (f .set)
 else if ndK n=72 then namB .upp n&&hdB f .msg (ndL n)&&endB f (ndL n).tail .fld [.ans]
 else if ndK n=73 then uppB (ndT n)&&decide (0≤ndN n)&&decide (ndN n≤9007199254740992)&&(ndL n).length==0
 else if ndK n=74 then namB .upp n&&(ndL n).length==0
 else false
def typeB (n:Nd):Bool:=
 if ndK n=12 then namB .typ n&&(ndL n).length==0
 else if ndK n=13 then bareB n&&serB f (ndL n) [.typ]
 else if ndK n=14 then namB .upp n&&(ndL n).length==0
 else if ndK n=15 then bareB n&&decide (0<(ndL n).length)&&(ndL n).all (f .typ)
 else false
def shpB:Sh→Nd→Bool
 | .typ,n=>typeB f n
 | .fld,n=>ndK n==7&&namB .low n&&serB f (ndL n) [.typ]
 | .ctor,n=>ndK n==8&&namB .upp n&&(ndL n).all (f .typ)
 | .mem,n=>if ndK n=9 then namB .low n&&serB f (ndL n) [.typ,.exp] else ndK n==10&&namB .upp n&&endB f (ndL n) .fld [.blk]
 | .exp,n=>expB f n
 | .set,n=>ndK n==28&&namB .low n&&serB f (ndL n) [.exp]
 | .arm,n=>ndK n==39&&casB f n .exp
 | .blk,n=>ndK n==11&&bareB n&&(ndL n).all (f .stm)
 | .stm,n=>stmB f n
 | .sarm,n=>ndK n==54&&casB f n .blk
 | .snd,n=>ndK n==56&&namB .upp n&&begB f .exp .exp (ndL n)
 | .ans,n=>ndK n==75&&namB .msg n&&(ndL n).all (f .exp)
 | .dcl,n=>dclB f n
 | .chg,n=>cngB f n
 | .leaf k p,n=>ndK n==k&&namB p n&&(ndL n).length==0
end
def shp:Nat→Sh→Nd→Bool
 | 0,_,_=>false
 | k+1,s,n=>shpB (shp k) s n
def rightB (n:Nd):Bool:=ndK n==1&&bareB n&&(ndL n).all fun x=>shp 40 .dcl x||shp 40 .chg x
end
theorem str_eq {s:Ê} {l:List UInt8}:(s.toList==l)=(s.data.toList==l):=by rw[ByteArray.toList_eq]
theorem bare_any (t:Nd) (cs:List Value) (w:À) (h:NdR w (lo w) cs t):Calls prog 62 #[.agg cs.toArray] w (EqSaid (bareB t) w):=by
 obtain⟨k,s,n,p,a,A,cap,rfl,rfl,_,_,ha⟩:=nd_form h
 obtain⟨tot,HV⟩:∃q,Hid (q=bareB (.mk k s n p a)):=⟨_,rfl⟩
 rw[←HV.o]
 obtain⟨W1,hW1⟩:∃q,Hid (q=w.alloc (.cells (cl k s n p A a.length cap).toArray 83)):=⟨_,rfl⟩
 have B1:Hid (Below w.heap.size w W1):=by show Below _ _ _;rw[hW1.o];exact belA (belR _) _
 have X1:Hid (Hs W1 w.heap.size 83 (cl k s n p A a.length cap).toArray):=by show Hs _ _ _ _;rw[hW1.o];exact Hs.new _ _ _
 have x1:W1.cell? ⟨w.heap.size,1,none⟩=some (.string s):=X1.o.c 1
 have x2:W1.cell? ⟨w.heap.size,2,none⟩=some (.int .i64 n):=X1.o.c 2
 clear h ha
 go_in
 go_upto_region 1 with fail
 rw[←hW1.o]
 clear hW1
 obtain⟨q1,h1⟩:∃q,(s.toList==[])=q:=⟨_,rfl⟩
 obtain⟨q2,h2⟩:∃q,(n==0)=q:=⟨_,rfl⟩
 have HQ:Hid (tot=(q1&&q2)):=by
  show _=_
  rw[HV.o,←h1,←h2,str_eq];rfl
 cases q1<;>(go_wp2;go_ret;exact⟨by rw[HQ.o];rfl,B1.o⟩)
theorem named_any {F:FuncId} {p:List UInt8→Bool} (hF:PredSaid F p) (t:Nd) (cs:List Value) (w:À) (h:NdR w (lo w) cs t):Calls prog 99 #[.agg cs.toArray,.func (.func F) #[] #[]] w (EqSaid (p (ndT t)&&ndN t==0) w):=by
 obtain⟨k,s,n,ps,a,A,cap,rfl,rfl,_,hs,ha⟩:=nd_form h
 obtain⟨tot,HV⟩:∃q,Hid (q=(p (ndT (.mk k s n ps a))&&ndN (.mk k s n ps a)==0)):=⟨_,rfl⟩
 rw[←HV.o]
 obtain⟨W1,hW1⟩:∃q,Hid (q=w.alloc (.cells (cl k s n ps A a.length cap).toArray 83)):=⟨_,rfl⟩
 have B1:Hid (Below w.heap.size w W1):=by show Below _ _ _;rw[hW1.o];exact belA (belR _) _
 have X1:Hid (Hs W1 w.heap.size 83 (cl k s n ps A a.length cap).toArray):=by show Hs _ _ _ _;rw[hW1.o];exact Hs.new _ _ _
 have x1:W1.cell? ⟨w.heap.size,1,none⟩=some (.string s):=X1.o.c 1
 have x2:W1.cell? ⟨w.heap.size,2,none⟩=some (.int .i64 n):=X1.o.c 2
 have hcf:=hF.1
 unfold Ent at hcf
 have HF:=η (hF.2 s W1 hs)
 clear h ha hF hs
 go_in
 go_upto_region 1 with fail
 rw[←hW1.o]
 clear hW1
 obtain⟨q1,h1⟩:∃q,p s.data.toList=q:=⟨_,rfl⟩
 obtain⟨q2,h2⟩:∃q,(n==0)=q:=⟨_,rfl⟩
 have HQ:Hid (tot=(q1&&q2)):=by
  show _=_
  rw[HV.o,←h1,←h2];rfl
 have H1:=η h1
 clear h1
 cases q1<;>(go_wp2_with fail;refine HF.o.mono ?_;rw[H1.o];rintro _ _ ⟨rfl,rfl⟩;go_wp2;go_ret;exact⟨by rw[HQ.o];rfl,B1.o⟩)
structure FvS (k:Nat) (F:FuncId) (c:Array Value) (g:Nd→Bool) (w:À):Prop where
 e:Ent F
 c:∀(X:À) (cs:List Value) (t:Nd) (d:Nat),Below w.heap.size w X→d+k=41→NdR X (lo X) cs t→Calls prog F (#[.agg cs.toArray,.int .i64 (d:Int)]++c) X (EqSaid (g t) X)
theorem FvS.bel {k:Nat} {F:FuncId} {c:Array Value} {g:Nd→Bool} {w w':À} (h:FvS k F c g w) (hb:Below w.heap.size w w'):FvS k F c g w':=⟨h.e,fun X cs t d hX=>h.c X cs t d (Proofs.YtbmknjfgjphfbaaGreatDoor.bel hb hX)⟩
theorem all_at {g:Nd→Bool} {l:List Nd} {j:Nat} (h:j<l.length):(l.drop j).all g=(g l[j]&&(l.drop (j+1)).all g):=by
 rw[List.drop_eq_getElem_cons h,List.all_cons]
theorem all_any {k:Nat} {F:FuncId} {c:Array Value} {g:Nd→Bool} (l:List Nd) (A:Option Addr) (cap d:Nat) (w:À) (hd:d+k=41) (hl:NdsR w (lo w) (.slice A l.length cap) l) (hF:FvS k F c g w) :
 Calls prog 101 #[.slice A l.length cap,.int .i64 (d:Int),.func (.func F) #[] c] w (EqSaid (l.all g) w):=by
 have lm:l.length≤9223372036854775807:=hl.len.2
 obtain⟨HL,HD,HF⟩:=zd3 hl hd hF
 have hcf:=hF.e
 unfold Ent at hcf
 obtain⟨tot,HV⟩:∃q,Hid (q=l.all g):=⟨_,rfl⟩
 rw[←HV.o]
 clear hl hd hF
 go_in
 go_wp2_with fail
 go_loopw [11] (fun i wr=>∃(j:Nat),j≤l.length∧i=.int .i64 j∧Hid (tot=(l.drop j).all g)∧Hid (Below w.heap.size w wr)) (fun i _=>l.length-(intOf i).toNat)
 case atStart=>exact⟨0,by omega,rfl,HV.o,Below.refl _ _⟩
 case round =>
  obtain⟨j,hj,rfl,HQ,HB⟩:=hrel
  by_cases hlt:j<l.length
  · have u1:decide ((j:Int)<(l.length:Int))=true:=decide_eq_true ω
    have HAT:=η (HQ.o.trans (all_at hlt))
    obtain⟨b,off,k1,s1,m1,p1,D1,l1,c1,rfl,hg,hr1,e0,e1,e2,e3,e4⟩:=nds_at (NdsR.to HL.o (sub_lo HB.o)) hlt
    have HR:=η hr1
    have j0:(0:Int)≤(j:Int):=by omega
    have j1:(j:Int)<(l.length:Int):=by omega
    obtain⟨W2,hW2⟩:∃q,Hid (q=wr.alloc (.cells (cl k1 s1 m1 p1 D1 l1 c1).toArray 83)):=⟨_,rfl⟩
    have B2:Hid (Below wr.heap.size wr W2):=by show Below _ _ _;rw[hW2.o];exact belA (belR _) _
    have BX2:Hid (Hs W2 wr.heap.size 83 (cl k1 s1 m1 p1 D1 l1 c1).toArray):=by show Hs _ _ _ _;rw[hW2.o];exact Hs.new _ _ _
    have HC:=η (HF.o.c W2 _ _ d (bel HB.o B2.o) HD.o (HR.o.to (sub_lo B2.o)))
    clear hr1 hg HQ
    go_upto_region 4 with fail
    rw[←hW2.o]
    clear hW2 e0 e1 e2 e3 e4
    cases hq:g l[j] with
    | false =>
     have HD2:=η (HAT.o.trans (by rw[hq,Bool.false_and]))
     go_wp2_with (refine lr5 BX2 ?_)
     refine HC.o.mono ?_
     rw[hq]
     rintro _ w3 ⟨rfl,hb3⟩
     have B3:=η (bel (bel HB.o B2.o) hb3)
     clear hb3
     go_wp2
     go_ret
     exact⟨by rw[HD2.o];rfl,B3.o⟩
    | true =>
     have HD2:=η (HAT.o.trans (by rw[hq,Bool.true_and]))
     go_wp2_with (refine lr5 BX2 ?_)
     refine HC.o.mono ?_
     rw[hq]
     rintro _ w3 ⟨rfl,hb3⟩
     have B3:=η (bel (bel HB.o B2.o) hb3)
     clear hb3
     go_wp2_with fail
     exact⟨⟨j+1,by omega,by go_num,HD2.o,B3.o⟩,by simp[intOf];omega⟩
  · have u1:decide ((j:Int)<(l.length:Int))=false:=decide_eq_false ω
    have HE:Hid (tot=true):=by show _=_;rw[HQ.o,List.drop_eq_nil_of_le ω,List.all_nil]
    go_wp2
    go_ret
    exact⟨by rw[HE.o];rfl,HB.o⟩
structure Fx where
 F:FuncId
 c:Array Value
 g:Nd→Bool
def Fx.v (x:Fx):Value:=.func (.func x.F) #[] x.c
def serG:List Nd→List Fx→Bool
 | [],[]=>true
 | x::l,s::q=>s.g x&&serG l q
 | _,_=>false
theorem serG_len:∀(a:List Nd) (b:List Fx),a.length≠b.length→serG a b=false
 | [],[],h=>absurd rfl h
 | [],_::_,_=>rfl
 | _::_,[],_=>rfl
 | x::a,y::b,h=>by rw[serG,serG_len a b (fun e=>h (by simp[e])),Bool.and_false]
theorem serG_at {a:List Nd} {b:List Fx} {j:Nat} (h:j<a.length) (k:j<b.length):serG (a.drop j) (b.drop j)=(b[j].g a[j]&&serG (a.drop (j+1)) (b.drop (j+1))):=by
 rw[List.drop_eq_getElem_cons h,List.drop_eq_getElem_cons k,serG]
abbrev FxR (w:À) (P:Nat→Prop) (v:Value) (q:List Fx):Prop:=SlR w P 1 (fun cs x=>cs=[x.v]) v q
theorem fxs_at {w:À} {P:Nat→Prop} {A:Option Addr} {n cap:Nat} {q:List Fx} (h:FxR w P (.slice A n cap) q) {i:Nat} (hi:i<q.length):∃g off,A=some ⟨g,off,none⟩∧P g∧w.cell? ⟨g,off+i,none⟩=some (.func (.func q[i].F) #[] q[i].c):=by
 obtain⟨g,off,cs,hA,hg,hr,_,hc⟩:=SlR.at h hi
 subst hr
 have:=hc 0 _ rfl
 rw[Nat.mul_one] at this
 exact⟨g,off,hA,hg,this⟩
theorem series_any {k:Nat} (q:List Fx) (l:List Nd) (A B:Option Addr) (cap cb d:Nat) (w:À) (hd:d+k=41) (hl:NdsR w (lo w) (.slice A l.length cap) l) (hq:FxR w (lo w) (.slice B q.length cb) q) (hF:∀i (h:i<q.length),FvS k q[i].F q[i].c q[i].g w) :
 Calls prog 154 #[.slice A l.length cap,.int .i64 (d:Int),.slice B q.length cb] w (EqSaid (serG l q) w):=by
 have lm:l.length≤9223372036854775807:=hl.len.2
 have ln:q.length≤9223372036854775807:=hq.len.2
 obtain⟨HL,HR0,HD,HF⟩:=zd4 hl hq hd hF
 obtain⟨tot,HV⟩:∃z,Hid (z=serG l q):=⟨_,rfl⟩
 rw[←HV.o]
 clear hl hd hF hq
 by_cases hlen:l.length=q.length
 · have u5:((l.length:Int) != (q.length:Int))=false:=by simp;omega
   have HE:=η hlen
   clear hlen
   go_in
   go_wp2_with fail
   go_loopw [16] (fun i wr=>∃(j:Nat),j≤q.length∧i=.int .i64 j∧Hid (tot=serG (l.drop j) (q.drop j))∧Hid (Below w.heap.size w wr)) (fun i _=>q.length-(intOf i).toNat)
   case atStart=>exact⟨0,by omega,rfl,HV.o,Below.refl _ _⟩
   case round =>
    obtain⟨j,hj,rfl,HQ,HB⟩:=hrel
    by_cases hlt:j<q.length
    · have hlb:j<l.length:=by have:=HE.o;omega
      have u1:decide ((j:Int)<(q.length:Int))=true:=decide_eq_true ω
      have HAT:=η (HQ.o.trans (serG_at hlb hlt))
      obtain⟨b,off,k1,s1,m1,p1,D1,l1,c1,rfl,hg,hr1,e0,e1,e2,e3,e4⟩:=nds_at (NdsR.to HL.o (sub_lo HB.o)) hlb
      obtain⟨b2,off2,rfl,hg2,f0⟩:=fxs_at (SlR.to' HR0.o (sub_lo HB.o) fun _ _ x=>x) hlt
      have HR:=η hr1
      have j0:(0:Int)≤(j:Int):=by omega
      have j1:(j:Int)<(q.length:Int):=by omega
      have j2:(j:Int)<(l.length:Int):=by omega
      have hcf:=(HF.o j hlt).e
      unfold Ent at hcf
      have HC:=η ((HF.o j hlt).c wr _ _ d HB.o HD.o HR.o)
      generalize hFq:q[j].F=Fq at hcf f0 HC
      generalize hcq:q[j].c=cq at f0 HC
      clear hr1 hg hg2 HQ hFq hcq
      cases hq:q[j].g l[j] with
      | false =>
       have HD2:=η (HAT.o.trans (by rw[hq,Bool.false_and]))
       go_wp2_with fail
       refine HC.o.mono ?_
       rw[hq]
       rintro _ w3 ⟨rfl,hb3⟩
       have B3:=η (bel HB.o hb3)
       clear hb3
       go_wp2
       go_ret
       exact⟨by rw[HD2.o];rfl,B3.o⟩
      | true =>
       have HD2:=η (HAT.o.trans (by rw[hq,Bool.true_and]))
       go_wp2_with fail
       refine HC.o.mono ?_
       rw[hq]
       rintro _ w3 ⟨rfl,hb3⟩
       have B3:=η (bel HB.o hb3)
       clear hb3
       go_wp2_with fail
       exact⟨⟨j+1,by omega,by go_num,HD2.o,B3.o⟩,by simp[intOf];omega⟩
    · have u1:decide ((j:Int)<(q.length:Int))=false:=decide_eq_false ω
      have HX:Hid (tot=true):=by show _=_;rw[HQ.o,List.drop_eq_nil_of_le (by have:=HE.o;omega),List.drop_eq_nil_of_le ω];rfl
      go_wp2
      go_ret
      exact⟨by rw[HX.o];rfl,HB.o⟩
 · have u5:((l.length:Int) != (q.length:Int))=true:=by simp;omega
   have HX:Hid (tot=false):=HV.o.trans (serG_len _ _ hlen)
   clear hlen
   go_in
   go_wp2
   go_ret
   exact⟨by rw[HX.o];rfl,Below.refl _ _⟩
def fromA (A:Option Addr) (cap k size:Nat):Option Addr:=if cap=k then A else A.map (·.add (k*size))
theorem SlR.from {α:Type} {w:À} {P:Nat→Prop} {size:Nat} {R:List Value→α→Prop} {A:Option Addr} {n cap:Nat} {l:List α} (h:SlR w P size R (.slice A n cap) l) (k:Nat) (hk:k≤l.length):SlR w P size R (.slice (fromA A cap k size) (l.drop k).length (cap-k)) (l.drop k):=by
 obtain⟨A',cap',css,e,hl,hr,hkk⟩:=h
 injection e with e1 e2 e3
 subst e1 e2 e3
 refine⟨_,cap-k,fun i=>css (k+i),rfl,⟨by rw[List.length_drop];omega,by rw[List.length_drop];omega⟩,fun hn=>?_,fun i hi=>?_⟩
 · rw[List.length_drop] at hn
   obtain⟨g,off,hA,hg,hc⟩:=hr ω
   refine⟨g,off+k*size,?_,hg,fun i hi=>⟨(hc (k+i) (by rw[List.length_drop] at hi;omega)).1,fun j u hu=>?_⟩⟩
   · unfold fromA;rw[if_neg ω,hA];simp[Addr.add]
   · have:=(hc (k+i) (by rw[List.length_drop] at hi;omega)).2 j u hu
     rw[show off+k*size+i*size+j=off+(k+i)*size+j by rw[Nat.add_mul];omega]
     exact this
 · have hi':k+i<l.length:=by rw[List.length_drop] at hi;omega
   have:=hkk (k+i) hi'
   simpa[List.getElem_drop] using this
theorem SlR.upto {α:Type} {w:À} {P:Nat→Prop} {size:Nat} {R:List Value→α→Prop} {A:Option Addr} {n cap:Nat} {l:List α} (h:SlR w P size R (.slice A n cap) l) (k:Nat) (hk:k≤l.length):SlR w P size R (.slice A (l.take k).length cap) (l.take k):=by
 obtain⟨A',cap',css,e,hl,hr,hkk⟩:=h
 injection e with e1 e2 e3
 subst e1 e2 e3
 refine⟨A,cap,css,rfl,⟨by rw[List.length_take];omega,by rw[List.length_take];omega⟩,fun hn=>?_,fun i hi=>?_⟩
 · rw[List.length_take] at hn
   obtain⟨g,off,hA,hg,hc⟩:=hr ω
   exact⟨g,off,hA,hg,fun i hi=>hc i (by rw[List.length_take] at hi;omega)⟩
 · have hi':i<l.length:=by rw[List.length_take] at hi;omega
   have:=hkk i hi'
   simpa[List.getElem_take] using this
theorem NdsR.from {w:À} {P:Nat→Prop} {A:Option Addr} {n cap:Nat} {l:List Nd} (h:NdsR w P (.slice A n cap) l) (k:Nat) (hk:k≤l.length):NdsR w P (.slice (fromA A cap k 5) (l.length-k) (cap-k)) (l.drop k):=by
 have:=SlR.from h k hk
 rw[List.length_drop] at this
 exact this
theorem NdsR.upto {w:À} {P:Nat→Prop} {A:Option Addr} {n cap:Nat} {l:List Nd} (h:NdsR w P (.slice A n cap) l) (k:Nat) (hk:k≤l.length):NdsR w P (.slice A k cap) (l.take k):=by
 have:=SlR.upto h k hk
 rw[List.length_take,Nat.min_eq_left hk] at this
 exact this
theorem size24 (w:À):(sizeOf 83).run prog w=.ok 5 w:=by kernel_rfl
theorem run_from22 (w:À) (A:Option Addr) (len cap k:Nat) (h:k≤len):(Instr.slice 81 (.slice A len cap) (some (.int .i64 (k:Int))) none none).run prog w=.ok (.slice (fromA A cap k 5) (len-k) (cap-k)) w:=by
 have h2:(0:Int)≤(k:Int)∧(k:Int)≤(len:Int):=by omega
 simp[Instr.slice,run_underlying underlying81,Instr.sliceBounds,Instr.sliceBound,asIntOf,size24,Result.andThen,h,h2,fromA]
theorem run_upto22 (w:À) (A:Option Addr) (len cap k:Nat) (h:k≤len) (hc:len≤cap):(Instr.slice 81 (.slice A len cap) none (some (.int .i64 (k:Int))) none).run prog w=.ok (.slice A k cap) w:=by
 have h2:(0:Int)≤(k:Int)∧(k:Int)≤(cap:Int):=by omega
 simp[Instr.slice,run_underlying underlying81,Instr.sliceBounds,Instr.sliceBound,asIntOf,size24,Result.andThen,h2,show k≤cap by omega]
 cases A with
 | none=>simp
 | some a=>simp[Addr.add]
def endG (l:List Nd) (x:Fx) (q:List Fx):Bool:=decide (q.length≤l.length)&&((l.take (l.length-q.length)).all x.g&&serG (l.drop (l.length-q.length)) q)
def begG (x y:Fx):List Nd→Bool
 | []=>false
 | a::r=>x.g a&&r.all y.g
theorem ended_any {k:Nat} {F:FuncId} {c:Array Value} {g:Nd→Bool} (q:List Fx) (l:List Nd) (A B:Option Addr) (cap cb d:Nat) (w:À) (hd:d+k=41) (hl:NdsR w (lo w) (.slice A l.length cap) l) (hq:FxR w (lo w) (.slice B q.length cb) q) (hx:FvS k F c g w) (hF:∀i (h:i<q.length),FvS k q[i].F q[i].c q[i].g w) :
 Calls prog 105 #[.slice A l.length cap,.int .i64 (d:Int),.func (.func F) #[] c,.slice B q.length cb] w (EqSaid (endG l ⟨F,c,g⟩ q) w):=by
 have lm:l.length≤9223372036854775807:=hl.len.2
 have ln:q.length≤9223372036854775807:=hq.len.2
 have lc:l.length≤cap:=hl.cap
 obtain⟨tot,HV⟩:∃z,Hid (z=endG l ⟨F,c,g⟩ q):=⟨_,rfl⟩
 rw[←HV.o]
 by_cases hlen:q.length≤l.length
 · obtain⟨m,hm⟩:∃m,m=l.length-q.length:=⟨_,rfl⟩
   have hml:m≤l.length:=by omega
   have w1:Hid (IntKind.i64.wrap ((l.length:Int)-(q.length:Int))=(m:Int)):=by show _=_;rw[IntKind.wrap_i64];omega
   have w2:Hid (wrap64 ((l.length:Int)-(q.length:Int))=(m:Int)):=by show _=_;unfold wrap64;omega
   have w3:Hid ((l.length:Int)-(q.length:Int)=(m:Int)):=by show _=_;omega
   have HV2:Hid (tot=((l.take m).all g&&serG (l.drop m) q)):=by
    show _=_
    rw[HV.o];unfold endG;rw[decide_eq_true hlen,Bool.true_and,hm]
   have u1:decide ((0:Int)≤(m:Int))=true:=decide_eq_true ω
   have hs1:∀W,(Instr.slice 81 (.slice A l.length cap) none (some (.int .i64 (m:Int))) none).run prog W=.ok (.slice A m cap) W:=fun W=>run_upto22 W A _ _ _ hml lc
   have hs2:∀W,(Instr.slice 81 (.slice A l.length cap) (some (.int .i64 (m:Int))) none none).run prog W=.ok (.slice (fromA A cap m 5) (l.length-m) (cap-m)) W:=fun W=>run_from22 W A _ _ _ hml
   have C1:=η (all_any (l.take m) A cap d w hd (by rw[List.length_take,Nat.min_eq_left hml];exact NdsR.upto hl m hml) hx)
   rw[List.length_take,Nat.min_eq_left hml] at C1
   have C2:Hid (∀X,Below w.heap.size w X→Calls prog 154 #[.slice (fromA A cap m 5) (l.length-m) (cap-m),.int .i64 (d:Int),.slice B q.length cb] X (EqSaid (serG (l.drop m) q) X)):=fun X hX=>by
    have:=series_any (k:=k) q (l.drop m) (fromA A cap m 5) B (cap-m) cb d X hd (by rw[List.length_drop];exact NdsR.to (NdsR.from hl m hml) (sub_lo hX)) (SlR.to' hq (sub_lo hX) fun _ _ x=>x) (fun i h=>(hF i h).bel hX)
    rw[List.length_drop] at this
    exact this
   clear hd hl hq hx hF hlen hml hm
   go_in
   go_upto_region 2 with fail
   first|rw[w1.o]|rw[w2.o]|rw[w3.o]|skip
   cases h1:(l.take m).all g with
   | false =>
    have H1:Hid (tot=false):=HV2.o.trans (by rw[h1];rfl)
    go_wp2_with (go_at_call 101;refine C1.o.mono ?_;rw[h1];rintro _ X1 ⟨rfl,hb1⟩)
    go_ret
    exact⟨by rw[H1.o];rfl,hb1⟩
   | true =>
    have HV3:Hid (tot=serG (l.drop m) q):=HV2.o.trans (by rw[h1];rfl)
    cases h2:serG (l.drop m) q with
    | false =>
     have H2:Hid (tot=false):=HV3.o.trans h2
     go_wp2_with (first|(go_at_call 101;refine C1.o.mono ?_;rw[h1];rintro _ X1 ⟨rfl,hb1⟩)|(go_at_call 154;refine (C2.o _ hb1).mono ?_;rw[h2];rintro _ X2 ⟨rfl,hb2⟩))
     go_ret
     exact⟨by rw[H2.o];rfl,bel hb1 hb2⟩
    | true =>
     have H2:Hid (tot=true):=HV3.o.trans h2
     go_wp2_with (first|(go_at_call 101;refine C1.o.mono ?_;rw[h1];rintro _ X1 ⟨rfl,hb1⟩)|(go_at_call 154;refine (C2.o _ hb1).mono ?_;rw[h2];rintro _ X2 ⟨rfl,hb2⟩))
     go_ret
     exact⟨by rw[H2.o];rfl,bel hb1 hb2⟩
 · have w1:Hid (IntKind.i64.wrap ((l.length:Int)-(q.length:Int))=(l.length:Int)-(q.length:Int)):=by show _=_;rw[IntKind.wrap_i64];omega
   have w2:Hid (wrap64 ((l.length:Int)-(q.length:Int))=(l.length:Int)-(q.length:Int)):=by show _=_;unfold wrap64;omega
   have u1:decide ((0:Int)≤(l.length:Int)-(q.length:Int))=false:=decide_eq_false ω
   have H1:Hid (tot=false):=by show _=_;rw[HV.o];unfold endG;rw[decide_eq_false hlen];rfl
   clear hd hl hq hx hF
   go_in
   go_upto_region 2 with fail
   first|rw[w1.o]|rw[w2.o]|skip
   go_wp2
   go_ret
   exact⟨by rw[H1.o];rfl,Below.refl _ _⟩
theorem begG_at {x y:Fx} {l:List Nd} (h:0<l.length):begG x y l=(x.g l[0]&&(l.drop 1).all y.g):=by
 cases l with
 | nil=>simp at h
 | cons a r=>rfl
theorem begun_any {k:Nat} {F F':FuncId} {c c':Array Value} {g g':Nd→Bool} (l:List Nd) (A:Option Addr) (cap d:Nat) (w:À) (hd:d+k=41) (hl:NdsR w (lo w) (.slice A l.length cap) l) (hx:FvS k F c g w) (hy:FvS k F' c' g' w) :
 Calls prog 158 #[.slice A l.length cap,.int .i64 (d:Int),.func (.func F) #[] c,.func (.func F') #[] c'] w (EqSaid (begG ⟨F,c,g⟩ ⟨F',c',g'⟩ l) w):=by
 have lm:l.length≤9223372036854775807:=hl.len.2
 obtain⟨tot,HV⟩:∃z,Hid (z=begG ⟨F,c,g⟩ ⟨F',c',g'⟩ l):=⟨_,rfl⟩
 rw[←HV.o]
 by_cases hlen:0<l.length
 · have HV2:Hid (tot=(g l[0]&&(l.drop 1).all g')):=HV.o.trans (begG_at hlen)
   have u1:decide ((0:Int)<(l.length:Int))=true:=decide_eq_true ω
   have hs2:∀W,(Instr.slice 81 (.slice A l.length cap) (some (.int .i64 1)) none none).run prog W=.ok (.slice (fromA A cap 1 5) (l.length-1) (cap-1)) W:=fun W=>run_from22 W A _ _ 1 hlen
   have C2:Hid (∀X,Below w.heap.size w X→Calls prog 101 #[.slice (fromA A cap 1 5) (l.length-1) (cap-1),.int .i64 (d:Int),.func (.func F') #[] c'] X (EqSaid ((l.drop 1).all g') X)):=fun X hX=>by
    have:=all_any (l.drop 1) (fromA A cap 1 5) (cap-1) d X hd (by rw[List.length_drop];exact NdsR.to (NdsR.from hl 1 hlen) (sub_lo hX)) (hy.bel hX)
    rw[List.length_drop] at this
    exact this
   obtain⟨b,off,k1,s1,m1,p1,D1,l1,c1,hA,hg,hr1,e0,e1,e2,e3,e4⟩:=nds_at hl hlen
   have hcf:=hx.e
   unfold Ent at hcf
   have HC:=η (hx.c w _ _ d (Below.refl _ _) hd hr1)
   have j1:(0:Int)<(l.length:Int):=by omega
   simp only[Nat.zero_mul,Nat.add_zero] at e0 e1 e2 e3 e4
   clear hl hx hy hr1 hg hd
   subst hA
   go_in
   cases h1:g l[0] with
   | false =>
    have H1:Hid (tot=false):=HV2.o.trans (by rw[h1];rfl)
    go_wp2_with fail
    refine HC.o.mono ?_
    rw[h1]
    rintro _ X1 ⟨rfl,hb1⟩
    have B1:=η hb1
    clear hb1
    go_wp2
    go_ret
    exact⟨by rw[H1.o];rfl,B1.o⟩
   | true =>
    have HV3:Hid (tot=(l.drop 1).all g'):=HV2.o.trans (by rw[h1];rfl)
    go_wp2_with fail
    refine HC.o.mono ?_
    rw[h1]
    rintro _ X1 ⟨rfl,hb1⟩
    have B1:=η hb1
    clear hb1
    cases h2:(l.drop 1).all g' with
    | false =>
     have H2:Hid (tot=false):=HV3.o.trans h2
     go_wp2_with (go_at_call 101;refine (C2.o _ B1.o).mono ?_;rw[h2];rintro _ X2 ⟨rfl,hb2⟩)
     go_ret
     exact⟨by rw[H2.o];rfl,bel B1.o hb2⟩
    | true =>
     have H2:Hid (tot=true):=HV3.o.trans h2
     go_wp2_with (go_at_call 101;refine (C2.o _ B1.o).mono ?_;rw[h2];rintro _ X2 ⟨rfl,hb2⟩)
     go_ret
     exact⟨by rw[H2.o];rfl,bel B1.o hb2⟩
 · have u1:decide ((0:Int)<(l.length:Int))=false:=decide_eq_false ω
   have H1:Hid (tot=false):=by
    show _=_
    rw[HV.o]
    cases l with
    | nil=>rfl
    | cons a r=>simp at hlen
   clear hl hx hy hd
   go_in
   go_wp2
   go_ret
   exact⟨by rw[H1.o];rfl,Below.refl _ _⟩
def Sh.num:Sh→FuncId
 | .typ=>106
 | .fld=>102
 | .ctor=>103
 | .mem=>108
 | .exp=>107
 | .set=>110
 | .arm=>159
 | .blk=>160
 | .stm=>190
 | .sarm=>213
 | .snd=>214
 | .ans=>112
 | .dcl=>63
 | .chg=>64
 | .leaf _ _=>161
def Sh.pl:Sh→Bool
 | .leaf _ _=>false
 | _=>true
theorem num_ent (s:Sh):Ent s.num:=fun _ _=>by cases s<;>kernel_rfl
def ShSaid (k:Nat) (s:Sh):Prop:=∀(cs:List Value) (t:Nd) (d:Nat) (w:À),d+k=41→NdR w (lo w) cs t→Calls prog s.num #[.agg cs.toArray,.int .i64 (d:Int)] w (EqSaid (shp k s t) w)
def AllS (k:Nat):Prop:=∀s:Sh,s.pl=true→ShSaid k s
theorem AllS.fv {k:Nat} (H:AllS k) (s:Sh) (hs:s.pl=true) (w:À):FvS k s.num #[] (shp k s) w:=⟨num_ent s,fun X cs t d _ hd hn=>H s hs cs t d X hd hn⟩
theorem saidEq {F:FuncId} {args:Array Value} {w w0:À} {o o':Bool} (h:Calls prog F args w (EqSaid o w0)) (e:o=o'):Calls prog F args w (EqSaid o' w0):=e▸h
def Sh.fv (s:Sh):Value:=.func (.func s.num) #[] #[]
theorem serG_B {k:Nat}:∀(a:List Nd) (fs:List Fx) (qs:List Sh),fs.map Fx.g=qs.map (shp k)→serG a fs=serB (shp k) a qs
 | [],[],[],_=>rfl
 | [],[],_::_,h=>by cases h
 | [],_::_,[],h=>by cases h
 | [],_::_,_::_,_=>rfl
 | _::_,[],[],_=>rfl
 | _::_,[],_::_,h=>by cases h
 | _::_,_::_,[],h=>by cases h
 | x::a,f::fs,q::qs,h=>by
  injection h with h1 h2
  rw[serG,serB,serG_B a fs qs h2,h1]
theorem endG_B {k:Nat} (a:List Nd) (x:Fx) (s:Sh) (fs:List Fx) (qs:List Sh) (hx:x.g=shp k s) (h:fs.map Fx.g=qs.map (shp k)):endG a x fs=endB (shp k) a s qs:=by
 have hl:fs.length=qs.length:=by have:=congrArg List.length h;simpa using this
 unfold endG endB
 rw[hx,hl,serG_B _ fs qs h]
theorem begG_B {k:Nat} (a:List Nd) (x y:Fx) (s t:Sh) (hx:x.g=shp k s) (hy:y.g=shp k t):begG x y a=begB (shp k) s t a:=by
 cases a with
 | nil=>rfl
 | cons b a=>rw[begG,begB,hx,hy]
theorem fxs_new (X:À) (q:List Fx) (hl:q.length≤maxLen):FxR (X.alloc (.cells (q.map Fx.v).toArray 209)) (lo (X.alloc (.cells (q.map Fx.v).toArray 209))) (.slice (some ⟨X.heap.size,0,none⟩) q.length q.length) q:=by
 refine⟨_,_,fun i=>[(q.map Fx.v).getD i undef],rfl,⟨hl,Nat.le_refl _⟩,fun _=>⟨X.heap.size,0,rfl,(Hs.new X 209 _).lt,fun i hi=>⟨rfl,fun j u hu=>?_⟩⟩,fun i hi=>?_⟩
 · cases j with
   | succ j=>simp at hu
   | zero =>
    simp only[List.getElem?_cons_zero,Option.some.injEq] at hu
    rw[Hs.cell (Hs.new X 209 _)]
    subst hu
    simp[hi]
 · simp[hi]
theorem all_call {k:Nat} (H:AllS k) (s:Sh) (hs:s.pl=true) {a:List Nd} {A:Option Addr} {cap d:Nat} {X:À} (hd:d+k=41) (ha:NdsR X (lo X) (.slice A a.length cap) a) :
 Calls prog 101 #[.slice A a.length cap,.int .i64 (d:Int),s.fv] X (EqSaid (a.all (shp k s)) X):=all_any a A cap d X hd ha (H.fv s hs X)
theorem beg_call {k:Nat} (H:AllS k) (s t:Sh) (hs:s.pl=true) (ht:t.pl=true) {a:List Nd} {A:Option Addr} {cap d:Nat} {X:À} (hd:d+k=41) (ha:NdsR X (lo X) (.slice A a.length cap) a) :
 Calls prog 158 #[.slice A a.length cap,.int .i64 (d:Int),s.fv,t.fv] X (EqSaid (begB (shp k) s t a) X):=saidEq (begun_any a A cap d X hd ha (H.fv s hs X) (H.fv t ht X)) (begG_B a _ _ s t rfl rfl)
def fxS (k:Nat) (s:Sh):Fx:=⟨s.num,#[],shp k s⟩
theorem ser_call {k:Nat} (H:AllS k) (qs:List Sh) (hs:∀s∈qs,s.pl=true) (hl:qs.length≤maxLen) {a:List Nd} {A:Option Addr} {cap d:Nat} {X:À} (hd:d+k=41) (ha:NdsR X (lo X) (.slice A a.length cap) a) :
 Calls prog 154 #[.slice A a.length cap,.int .i64 (d:Int),.slice (some ⟨X.heap.size,0,none⟩) qs.length qs.length] (X.alloc (.cells (qs.map Sh.fv).toArray 209)) (EqSaid (serB (shp k) a qs) X):=by
 have e:qs.map Sh.fv=(qs.map (fxS k)).map Fx.v:=by rw[List.map_map];rfl
 have hb:Below X.heap.size X (X.alloc (.cells (qs.map Sh.fv).toArray 209)):=belA (belR _) _
 have h:=series_any (k:=k) (qs.map (fxS k)) a A (some ⟨X.heap.size,0,none⟩) cap (qs.map (fxS k)).length d (X.alloc (.cells (qs.map Sh.fv).toArray 209)) hd (NdsR.to ha (sub_lo hb)) (by rw[e];exact fxs_new X _ (by rw[List.length_map];exact hl)) (fun i hi=>by
  have hm:(qs.map (fxS k))[i]=fxS k (qs[i]'(by simpa using hi)):=by simp
  rw[hm];exact H.fv _ (hs _ (List.getElem_mem _)) _)
 rw[List.length_map] at h
 refine (saidEq h (serG_B a _ qs (by rw[List.map_map];rfl))).mono ?_
 rintro e2 w2 ⟨h1,h2⟩
 exact⟨h1,bel hb h2⟩
theorem end_call {k:Nat} (H:AllS k) (s:Sh) (hs0:s.pl=true) (qs:List Sh) (hs:∀s∈qs,s.pl=true) (hl:qs.length≤maxLen) {a:List Nd} {A:Option Addr} {cap d:Nat} {X:À} (hd:d+k=41) (ha:NdsR X (lo X) (.slice A a.length cap) a) :
 Calls prog 105 #[.slice A a.length cap,.int .i64 (d:Int),s.fv,.slice (some ⟨X.heap.size,0,none⟩) qs.length qs.length] (X.alloc (.cells (qs.map Sh.fv).toArray 209)) (EqSaid (endB (shp k) a s qs) X):=by
 have e:qs.map Sh.fv=(qs.map (fxS k)).map Fx.v:=by rw[List.map_map];rfl
 have hb:Below X.heap.size X (X.alloc (.cells (qs.map Sh.fv).toArray 209)):=belA (belR _) _
 have h:=ended_any (k:=k) (qs.map (fxS k)) a A (some ⟨X.heap.size,0,none⟩) cap (qs.map (fxS k)).length d (X.alloc (.cells (qs.map Sh.fv).toArray 209)) hd (NdsR.to ha (sub_lo hb)) (by rw[e];exact fxs_new X _ (by rw[List.length_map];exact hl)) (H.fv s hs0 _) (fun i hi=>by
  have hm:(qs.map (fxS k))[i]=fxS k (qs[i]'(by simpa using hi)):=by simp
  rw[hm];exact H.fv _ (hs _ (List.getElem_mem _)) _)
 rw[List.length_map] at h
 refine (saidEq h (endG_B a _ s _ qs rfl (by rw[List.map_map];rfl))).mono ?_
 rintro e2 w2 ⟨h1,h2⟩
 exact⟨h1,bel hb h2⟩
theorem len0 (n:Nat):((n:Int)==0)=(n==0):=by
 cases n with
 | zero=>rfl
 | succ n=>rw[beq_eq_false_iff_ne.2 ω,beq_eq_false_iff_ne.2 ω]
theorem lenlt (m n:Nat):decide ((m:Int)<(n:Int))=decide (m<n):=by
 by_cases h:m<n
 · rw[decide_eq_true h,decide_eq_true ω]
 · rw[decide_eq_false h,decide_eq_false ω]
end Go.Proofs.YtbmknjfgjphfbaaGreatDoor
