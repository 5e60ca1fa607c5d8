/- Core -/
import Derived.Test.YtjohpidklbhmcaaGreatDoorZ40
import Derived.Test.YtjohpidklbhmcaaGreatDoorCards
import Derived.Test.YtjohpidklbhmcaaGreatDoorTie
import Derived.ProofKit
import Derived.OpenShut
import Derived.ShutString
import Derived.Carry
import Derived.Deep.DeepHandedRow
import Derived.Deep.Fields
import Derived.Deep.Slices
import Derived.Lib.LaidTab
import Derived.LaidSub
namespace Go.Proofs.YtjohpidklbhmcaaGreatDoor
set_option linter.all false
open Go.Proofs.Tryz
set_option maxRecDepth 100000
set_option maxHeartbeats 2000000
open Go.ChangeShapes Go.WideShapes Go.ChangeAt Go.RowKit Go.Deep
theorem pY {α β:Type} {c:α->Nat} {b:β->Nat}:∀(es:List β) (Q:Nat->α->Prop),(∀i (h:i<es.length),∃a,Q i a/\c a<=b es[i])->∃l:List α,l.length=es/\(∀i (h:i<l.length),Q i l[i])/\sumN c l<=(es.map b).sum
 | [],Q,_=>⟨[],rfl,λi h=>by simp at h,υ _⟩
 | e::es,Q,h=>by
  obtain⟨a,h1,h2⟩:=h 0 Θ
  obtain⟨l,k1,k2,k3⟩:=pY es (λi=>Q (i+1)) (λi hi=>h (i+1) (by simpa using hi))
  refine⟨a::l,by simp[k1],λi hi=>?_,?_⟩
  ·cases i with
   | zero=>exact h1
   | succ i=>exact k2 i (by simpa using hi)
  rw[sumN,List.map_cons,List.sum_cons]
  have h2':c a<=b e:=h2
  omega
def bulk_all {H:Type} (l:List (DataW H×List MemPlace)):Rows.uptoBulkAll (l.map (·.1))=(l.map λy=>Rows.uptoBulk y.1).sum:=by
 induction l with
 | nil=>rfl
 | cons x l ih=>rw[List.map_cons,Rows.uptoBulkAll,ih,List.map_cons,List.sum_cons]
section
variable {H:Type} {enc:TypeId×Value->H} {w:World} {sp:Nat->Bool} {held:Bool}
abbrev Tr (enc:TypeId×Value->H) (w:World) (sp:Nat->Bool) (held:Bool) (fuel t:Nat) (cs:List Value) (x:DataW H×List MemPlace):Prop:=DataW.trod enc prog w 0 sp held fuel t cs=some x
def bV {α:Type} {R:List Value->α->Prop} {c:α->Nat} {t e size fuel:Nat} (ht:prog.underlying t=some (.slice e)) (hc:prog.cellsOf e=size) (hs:0<size) {cs:List Value} {x:DataW H×List MemPlace} (h:Tr enc w sp held fuel t cs x)
 (hel:∀n,n<fuel->∀cs' y,Tr enc w sp held n e cs' y->∃a,R cs' a/\c a<=Rows.uptoBulk y.1):∃A cap l,cs=[.slice A l.length cap]/\SlR w (lo w) size R (.slice A l.length cap) l/\sumN c l+1<=Rows.uptoBulk x.1:=by
 rcases DataW.trod_slice ht h with ⟨rfl,rfl⟩|⟨a,len,cap,elems,rest,n,rfl,rfl,rfl,hb,hl,hm,hlen,hat,-,-⟩
 ·exact⟨none,0,[],rfl,SlR.nil,υ _⟩
 obtain⟨l,V,q,U⟩:=pY (c:=c) (b:=λy:DataW H×List MemPlace=>Rows.uptoBulk y.1) elems (λi b=>∃cs',cs'.length=size/\(∀j,j<size->w.cell? ((a.add (i*size)).add j)=cs'[j]?)/\R cs' b) (λi hi=>by
  have r:=hat i ω;rw[ξ hi] at r;obtain⟨cs',G,v⟩:=Option.bind_eq_some_iff.1 r;obtain⟨b,F,k⟩:=hel n ω cs' _ v;obtain⟨_,E,D⟩:=World.cells?_some G;rw[hc] at E D;exact⟨b,⟨cs',E,D,F⟩,k⟩)
 have J:l.length=len:=ω;refine⟨some a,cap,l,by rw[J],⟨some a,cap,λi=>if hi:i<l.length then (q i hi).choose else [],rfl,⟨ω,ω⟩,λr=>?_,λi hi=>?_⟩,?_⟩
 ·obtain⟨O,G,v,F⟩:=q 0 r;have k:=v 0 hs;rw[ξ ω] at k;obtain⟨g,d,B⟩:=a;have I:B=none:=by simpa[Addr.add] using World.cell?_spot k
  subst I;have z:∀i j,((⟨g,d,none⟩:Addr).add i).add j=⟨g,d+i+j,none⟩:=λi j=>by rw[Addr.add_lit,Addr.add_lit]
  refine⟨g,d,rfl,?_,λi hi=>?_⟩
  ·have:=World.block_lt_of_cell? w _ k;unfold lo;simpa[Addr.add] using this
  simp only[dif_pos hi];obtain⟨M,L,T⟩:=(q i hi).choose_spec;refine⟨M,λj u hu=>?_⟩;have N:j<size:=by have:=(List.getElem?_eq_some_iff.1 hu).1;omega
  have:=L j N;rw[z,hu] at this;exact this
 ·simp only[dif_pos hi];exact (q i hi).choose_spec.2.2
 show _<=Rows.uptoBulkAll (elems.map (·.1))+Rows.uptoBulkAll (rest.map (·.1))+1;rw[bulk_all];omega
end
mutual
def cTy:Ty->Nat
 | .mk _ s a=>1+s.size+cTys a
def cTys:List Ty->Nat
 | []=>0
 | x::xs=>cTy x+cTys xs
end
mutual
def cEx:Ex->Nat
 | .mk _ _ _ s a=>1+s.size+cExs a
def cExs:List Ex->Nat
 | []=>0
 | x::xs=>cEx x+cExs xs
end
mutual
def cSt:St->Nat
 | .mk _ _ _ s u xs h e a=>1+s.size+u.size+cExs xs+cSts h+cSts e+cSts a
def cSts:List St->Nat
 | []=>0
 | x::xs=>cSt x+cSts xs
end
def cTys_sum (l:List Ty):cTys l=sumN cTy l:=by
 induction l with
 | nil=>rfl
 | cons x l ih=>rw[cTys,sumN,ih]
def te (l:List Ex):cExs l=sumN cEx l:=by
 induction l with
 | nil=>rfl
 | cons x l ih=>rw[cExs,sumN,ih]
def mn (l:List St):cSts l=sumN cSt l:=by
 induction l with
 | nil=>rfl
 | cons x l ih=>rw[cSts,sumN,ih]
def cFld (f:Fld):Nat:=1+f.name.size+cTy f.type
def cCtr (c:Ctr):Nat:=1+c.name.size+sumN cFld c.fields
def cDcl (c:Dcl):Nat:=1+c.name.size+sumN cCtr c.ctors
def cEff (c:Eff):Nat:=1+c.name.size+sumN cFld c.params+cTy c.answer
def cFn (c:Fn):Nat:=1+c.name.size+sumN cFld c.params+cTy c.result+cEx c.body
def cVr (c:Vr):Nat:=1+c.name.size+cTy c.type+cEx c.init
def cHd (c:Hd):Nat:=1+c.msg.size+sumN cFld c.params+cSts c.body
def cAc (c:Ac):Nat:=1+c.name.size+sumN cFld c.params+sumN cVr c.vars+sumN cHd c.on
def cPg (p:Pg):Nat:=sumN cDcl p.types+sumN cEff p.effects+sumN cFn p.funs+sumN cAc p.actors
def gQ {n:Int} (h:(Lit.int .i64 n).wf=true):i64 n:=by
 simp only[Lit.wf,τ,decide_eq_true_eq] at h;have d:IntKind.i64.min=-9223372036854775808:=by decide
 have a:IntKind.i64.max=9223372036854775807:=by decide
 rw[d,a] at h;exact h
def bR (s:ByteArray):s.data.toList=s.size:=by rw[Array.length_toList];rfl
section
variable {H:Type} {enc:TypeId×Value->H} {w:World} {sp:Nat->Bool} {held:Bool}
def op_ty_k (k:Nat):∀(fuel:Nat),fuel<=k->∀{cs:List Value} {x:DataW H×List MemPlace},Tr enc w sp held fuel 40 cs x->∃a:Ty,TyR w (lo w) cs a/\cTy a<=Rows.uptoBulk x.1:=by
 induction k with
 | zero=>intro fuel E cs x h;obtain rfl:fuel=0:=ω;simp[Tr,DataW.trod] at h
 | succ k ih =>
  intro fuel E cs x h;have j:prog.cellsOf 40=3:=by kernel_rfl
  obtain⟨u,n,T,rfl,t,g,i⟩:=DataW.trod_struct underlying40 h;rw[j] at t;match cs,t with
  | [c0,c1,c2],_ =>
   match u,g with
   | [y0,y1,y2],_ =>
    have I:Tr enc w sp held n 3 [c0] y0:=by have q:Tr enc w sp held n 3 (([c0,c1,c2].drop 0).take (prog.cellsOf 3)) y0:=i 0 _ rfl;rw[(by kernel_rfl:prog.cellsOf 3=1)] at q;exact q
    have G:Tr enc w sp held n 9 [c1] y1:=by have q:Tr enc w sp held n 9 (([c0,c1,c2].drop 1).take (prog.cellsOf 9)) y1:=i 1 _ rfl;rw[(by kernel_rfl:prog.cellsOf 9=1)] at q;exact q
    have F:Tr enc w sp held n 38 [c2] y2:=by have q:Tr enc w sp held n 38 (([c0,c1,c2].drop 2).take (prog.cellsOf 38)) y2:=i 2 _ rfl;rw[(by kernel_rfl:prog.cellsOf 38=1)] at q;exact q
    obtain⟨d,M,rfl,z⟩:=DataW.trod_int underlying3 I;have D:i64 d:=gQ z;obtain rfl:c0=.int .i64 d:=by simpa using M
    obtain⟨l,L,rfl,v⟩:=DataW.trod_string underlying9 G;obtain rfl:c1=.string l:=by simpa using L
    obtain⟨N,B,r,J,A,O⟩:=bV (R:=TyR w (lo w)) (c:=cTy) underlying38 (by kernel_rfl:prog.cellsOf 40=3) π F (λm hm cs y q=>ih m ω q);obtain rfl:c2=.slice N r B:=by simpa using J
    simp only[List.map_cons,List.map_nil,Rows.uptoBulk,Rows.uptoBulkAll,bR];refine⟨.mk d l r,TyR.of D v A,?_⟩;rw[cTy,cTys_sum];omega
variable {cs:List Value} {x:DataW H×List MemPlace}
def op_ty (fuel:Nat) (h:Tr enc w sp held fuel 40 cs x):∃a:Ty,TyR w (lo w) cs a/\cTy a<=Rows.uptoBulk x.1:=op_ty_k fuel fuel (υ _) h
def op_ex_k (k:Nat):∀(fuel:Nat),fuel<=k->∀{cs:List Value} {x:DataW H×List MemPlace},Tr enc w sp held fuel 43 cs x->∃a:Ex,ExR w (lo w) cs a/\cEx a<=Rows.uptoBulk x.1:=by
 induction k with
 | zero=>intro fuel M cs x h;obtain rfl:fuel=0:=ω;simp[Tr,DataW.trod] at h
 | succ k ih =>
  intro fuel M cs x h;have r:prog.cellsOf 43=5:=by kernel_rfl
  obtain⟨z,n,hn,rfl,v,l,d⟩:=DataW.trod_struct underlying43 h;rw[r] at v;match cs,v with
  | [c0,c1,c2,c3,c4],_ =>
   match z,l with
   | [y0,y1,y2,y3,y4],_ =>
    have V:Tr enc w sp held n 3 [c0] y0:=by have q:Tr enc w sp held n 3 (([c0,c1,c2,c3,c4].drop 0).take (prog.cellsOf 3)) y0:=d 0 _ rfl;rw[(by kernel_rfl:prog.cellsOf 3=1)] at q;exact q
    have U:Tr enc w sp held n 3 [c1] y1:=by have q:Tr enc w sp held n 3 (([c0,c1,c2,c3,c4].drop 1).take (prog.cellsOf 3)) y1:=d 1 _ rfl;rw[(by kernel_rfl:prog.cellsOf 3=1)] at q;exact q
    have T:Tr enc w sp held n 3 [c2] y2:=by have q:Tr enc w sp held n 3 (([c0,c1,c2,c3,c4].drop 2).take (prog.cellsOf 3)) y2:=d 2 _ rfl;rw[(by kernel_rfl:prog.cellsOf 3=1)] at q;exact q
    have O:Tr enc w sp held n 9 [c3] y3:=by have q:Tr enc w sp held n 9 (([c0,c1,c2,c3,c4].drop 3).take (prog.cellsOf 9)) y3:=d 3 _ rfl;rw[(by kernel_rfl:prog.cellsOf 9=1)] at q;exact q
    have N:Tr enc w sp held n 41 [c4] y4:=by have q:Tr enc w sp held n 41 (([c0,c1,c2,c3,c4].drop 4).take (prog.cellsOf 41)) y4:=d 4 _ rfl;rw[(by kernel_rfl:prog.cellsOf 41=1)] at q;exact q
    obtain⟨j,e0,rfl,E⟩:=DataW.trod_int underlying3 V;have L:i64 j:=gQ E;obtain rfl:c0=.int .i64 j:=by simpa using e0
    obtain⟨i,Z,rfl,D⟩:=DataW.trod_int underlying3 U;have J:i64 i:=gQ D;obtain rfl:c1=.int .i64 i:=by simpa using Z
    obtain⟨g,Y,rfl,B⟩:=DataW.trod_int underlying3 T;have I:i64 g:=gQ B;obtain rfl:c2=.int .i64 g:=by simpa using Y
    obtain⟨t,X,rfl,A⟩:=DataW.trod_string underlying9 O;obtain rfl:c3=.string t:=by simpa using X
    obtain⟨A4,G,u,W,F,z4⟩:=bV (R:=ExR w (lo w)) (c:=cEx) underlying41 (by kernel_rfl:prog.cellsOf 43=5) π N (λm hm cs y q=>ih m ω q);obtain rfl:c4=.slice A4 u G:=by simpa using W
    simp only[List.map_cons,List.map_nil,Rows.uptoBulk,Rows.uptoBulkAll,bR];refine⟨.mk j i g t u,ExR.of ⟨L,J,I⟩ A F,?_⟩;rw[cEx,te];omega
def op_ex (fuel:Nat) (h:Tr enc w sp held fuel 43 cs x):∃a:Ex,ExR w (lo w) cs a/\cEx a<=Rows.uptoBulk x.1:=op_ex_k fuel fuel (υ _) h
def op_st_k (k:Nat):∀(fuel:Nat),fuel<=k->∀{cs:List Value} {x:DataW H×List MemPlace},Tr enc w sp held fuel 120 cs x->∃a:St,StR w (lo w) cs a/\cSt a<=Rows.uptoBulk x.1:=by
 induction k with
 | zero=>intro fuel hf cs x h;obtain rfl:fuel=0:=ω;simp[Tr,DataW.trod] at h
 | succ k ih =>
  intro fuel hf cs x h;have g:prog.cellsOf 120=9:=by kernel_rfl
  obtain⟨E,n,hn,rfl,D,r,d⟩:=DataW.trod_struct underlying120 h;rw[g] at D;match cs,D with
  | [c0,c1,c2,c3,c4,c5,c6,c7,c8],_ =>
   match E,r with
   | [y0,y1,y2,y3,y4,y5,y6,y7,y8],_ =>
    have g0:Tr enc w sp held n 3 [c0] y0:=by have q:Tr enc w sp held n 3 (([c0,c1,c2,c3,c4,c5,c6,c7,c8].drop 0).take (prog.cellsOf 3)) y0:=d 0 _ rfl;rw[(by kernel_rfl:prog.cellsOf 3=1)] at q;exact q
    have g1:Tr enc w sp held n 3 [c1] y1:=by have q:Tr enc w sp held n 3 (([c0,c1,c2,c3,c4,c5,c6,c7,c8].drop 1).take (prog.cellsOf 3)) y1:=d 1 _ rfl;rw[(by kernel_rfl:prog.cellsOf 3=1)] at q;exact q
    have g2:Tr enc w sp held n 3 [c2] y2:=by have q:Tr enc w sp held n 3 (([c0,c1,c2,c3,c4,c5,c6,c7,c8].drop 2).take (prog.cellsOf 3)) y2:=d 2 _ rfl;rw[(by kernel_rfl:prog.cellsOf 3=1)] at q;exact q
    have g3:Tr enc w sp held n 9 [c3] y3:=by have q:Tr enc w sp held n 9 (([c0,c1,c2,c3,c4,c5,c6,c7,c8].drop 3).take (prog.cellsOf 9)) y3:=d 3 _ rfl;rw[(by kernel_rfl:prog.cellsOf 9=1)] at q;exact q
    have g4:Tr enc w sp held n 9 [c4] y4:=by have q:Tr enc w sp held n 9 (([c0,c1,c2,c3,c4,c5,c6,c7,c8].drop 4).take (prog.cellsOf 9)) y4:=d 4 _ rfl;rw[(by kernel_rfl:prog.cellsOf 9=1)] at q;exact q
    have g5:Tr enc w sp held n 41 [c5] y5:=by have q:Tr enc w sp held n 41 (([c0,c1,c2,c3,c4,c5,c6,c7,c8].drop 5).take (prog.cellsOf 41)) y5:=d 5 _ rfl;rw[(by kernel_rfl:prog.cellsOf 41=1)] at q;exact q
    have g6:Tr enc w sp held n 62 [c6] y6:=by have q:Tr enc w sp held n 62 (([c0,c1,c2,c3,c4,c5,c6,c7,c8].drop 6).take (prog.cellsOf 62)) y6:=d 6 _ rfl;rw[(by kernel_rfl:prog.cellsOf 62=1)] at q;exact q
    have g7:Tr enc w sp held n 62 [c7] y7:=by have q:Tr enc w sp held n 62 (([c0,c1,c2,c3,c4,c5,c6,c7,c8].drop 7).take (prog.cellsOf 62)) y7:=d 7 _ rfl;rw[(by kernel_rfl:prog.cellsOf 62=1)] at q;exact q
    have g8:Tr enc w sp held n 62 [c8] y8:=by have q:Tr enc w sp held n 62 (([c0,c1,c2,c3,c4,c5,c6,c7,c8].drop 8).take (prog.cellsOf 62)) y8:=d 8 _ rfl;rw[(by kernel_rfl:prog.cellsOf 62=1)] at q;exact q
    obtain⟨l,e0,rfl,L⟩:=DataW.trod_int underlying3 g0;have i0:i64 l:=gQ L;obtain rfl:c0=.int .i64 l:=by simpa using e0
    obtain⟨j,e1,rfl,J⟩:=DataW.trod_int underlying3 g1;have Z:i64 j:=gQ J;obtain rfl:c1=.int .i64 j:=by simpa using e1
    obtain⟨i,e2,rfl,I⟩:=DataW.trod_int underlying3 g2;have Y:i64 i:=gQ I;obtain rfl:c2=.int .i64 i:=by simpa using e2
    obtain⟨u,e3,rfl,G⟩:=DataW.trod_string underlying9 g3;obtain rfl:c3=.string u:=by simpa using e3
    obtain⟨t,e4,rfl,F⟩:=DataW.trod_string underlying9 g4;obtain rfl:c4=.string t:=by simpa using e4
    obtain⟨A5,X,B,e5,T,z5⟩:=bV (R:=ExR w (lo w)) (c:=cEx) underlying41 (by kernel_rfl:prog.cellsOf 43=5) π g5 (λm hm cs y q=>op_ex m q);obtain rfl:c5=.slice A5 B X:=by simpa using e5
    obtain⟨A6,W,A,e6,O,z6⟩:=bV (R:=StR w (lo w)) (c:=cSt) underlying62 (by kernel_rfl:prog.cellsOf 120=9) π g6 (λm hm cs y q=>ih m ω q);obtain rfl:c6=.slice A6 A W:=by simpa using e6
    obtain⟨A7,V,z,e7,N,z7⟩:=bV (R:=StR w (lo w)) (c:=cSt) underlying62 (by kernel_rfl:prog.cellsOf 120=9) π g7 (λm hm cs y q=>ih m ω q);obtain rfl:c7=.slice A7 z V:=by simpa using e7
    obtain⟨A8,U,v,e8,M,z8⟩:=bV (R:=StR w (lo w)) (c:=cSt) underlying62 (by kernel_rfl:prog.cellsOf 120=9) π g8 (λm hm cs y q=>ih m ω q);obtain rfl:c8=.slice A8 v U:=by simpa using e8
    simp only[List.map_cons,List.map_nil,Rows.uptoBulk,Rows.uptoBulkAll,bR];refine⟨.mk l j i u t B A z v,StR.of ⟨i0,Z,Y⟩ G F T O N M,?_⟩;rw[cSt,te,mn,mn,mn];omega
def op_st (fuel:Nat) (h:Tr enc w sp held fuel 120 cs x):∃a:St,StR w (lo w) cs a/\cSt a<=Rows.uptoBulk x.1:=op_st_k fuel fuel (υ _) h
def pI:∀(fuel:Nat) {cs:List Value} {x:DataW H×List MemPlace},Tr enc w sp held fuel 118 cs x->∃a:Fld,FldR w (lo w) cs a/\cFld a<=Rows.uptoBulk x.1
 | fuel,cs,x,h=>by
  have c118_:prog.cellsOf 118=4:=by kernel_rfl
  obtain⟨xs,n,hn,rfl,hl,hlen,hg⟩:=DataW.trod_struct underlying118 h
  rw[c118_] at hl
  match cs,hl with
  | [c0,c1,c2,c3],_ =>
   match xs,hlen with
   | [y0,y1],_ =>
    have g0:Tr enc w sp held n 9 [c0] y0:=by have q:Tr enc w sp held n 9 (([c0,c1,c2,c3].drop 0).take (prog.cellsOf 9)) y0:=hg 0 _ rfl;rw[(by kernel_rfl:prog.cellsOf 9=1)] at q;exact q
    have g1:Tr enc w sp held n 40 [c1,c2,c3] y1:=by have q:Tr enc w sp held n 40 (([c0,c1,c2,c3].drop 1).take (prog.cellsOf 40)) y1:=hg 1 _ rfl;rw[(by kernel_rfl:prog.cellsOf 40=3)] at q;exact q
    obtain⟨s0,e0,rfl,w0⟩:=DataW.trod_string underlying9 g0
    obtain rfl:c0=.string s0:=by simpa using e0
    obtain⟨t1,r1,z1⟩:=op_ty n g1
    simp only[List.map_cons,List.map_nil,Rows.uptoBulk,Rows.uptoBulkAll,bR]
    refine⟨⟨s0,t1⟩,⟨_,rfl,w0,r1⟩,?_⟩
    show 1+s0.size+cTy t1<=_;omega
def op_ctr:∀(fuel:Nat) {cs:List Value} {x:DataW H×List MemPlace},Tr enc w sp held fuel 122 cs x->∃a:Ctr,CtrR w (lo w) cs a/\cCtr a<=Rows.uptoBulk x.1
 | fuel,cs,x,h=>by
  have c122_:prog.cellsOf 122=2:=by kernel_rfl
  obtain⟨xs,n,hn,rfl,hl,hlen,hg⟩:=DataW.trod_struct underlying122 h
  rw[c122_] at hl
  match cs,hl with
  | [c0,c1],_ =>
   match xs,hlen with
   | [y0,y1],_ =>
    have g0:Tr enc w sp held n 9 [c0] y0:=by have q:Tr enc w sp held n 9 (([c0,c1].drop 0).take (prog.cellsOf 9)) y0:=hg 0 _ rfl;rw[(by kernel_rfl:prog.cellsOf 9=1)] at q;exact q
    have g1:Tr enc w sp held n 37 [c1] y1:=by have q:Tr enc w sp held n 37 (([c0,c1].drop 1).take (prog.cellsOf 37)) y1:=hg 1 _ rfl;rw[(by kernel_rfl:prog.cellsOf 37=1)] at q;exact q
    obtain⟨s0,e0,rfl,w0⟩:=DataW.trod_string underlying9 g0
    obtain rfl:c0=.string s0:=by simpa using e0
    obtain⟨A1,k1,l1,e1,r1,z1⟩:=bV (R:=FldR w (lo w)) (c:=cFld) underlying37 (by kernel_rfl:prog.cellsOf 118=4) π g1 (λm hm cs y q=>pI m q)
    obtain rfl:c1=.slice A1 l1 k1:=by simpa using e1
    simp only[List.map_cons,List.map_nil,Rows.uptoBulk,Rows.uptoBulkAll,bR]
    refine⟨⟨s0,l1⟩,⟨_,rfl,w0,r1⟩,?_⟩
    show 1+s0.size+sumN cFld l1<=_;omega
def op_dcl:∀(fuel:Nat) {cs:List Value} {x:DataW H×List MemPlace},Tr enc w sp held fuel 48 cs x->∃a:Dcl,DclR w (lo w) cs a/\cDcl a<=Rows.uptoBulk x.1
 | fuel,cs,x,h=>by
  have c48_:prog.cellsOf 48=3:=by kernel_rfl
  obtain⟨xs,n,hn,rfl,hl,hlen,hg⟩:=DataW.trod_struct underlying48 h
  rw[c48_] at hl
  match cs,hl with
  | [c0,c1,c2],_ =>
   match xs,hlen with
   | [y0,y1,y2],_ =>
    have g0:Tr enc w sp held n 9 [c0] y0:=by have q:Tr enc w sp held n 9 (([c0,c1,c2].drop 0).take (prog.cellsOf 9)) y0:=hg 0 _ rfl;rw[(by kernel_rfl:prog.cellsOf 9=1)] at q;exact q
    have g1:Tr enc w sp held n 4 [c1] y1:=by have q:Tr enc w sp held n 4 (([c0,c1,c2].drop 1).take (prog.cellsOf 4)) y1:=hg 1 _ rfl;rw[(by kernel_rfl:prog.cellsOf 4=1)] at q;exact q
    have g2:Tr enc w sp held n 46 [c2] y2:=by have q:Tr enc w sp held n 46 (([c0,c1,c2].drop 2).take (prog.cellsOf 46)) y2:=hg 2 _ rfl;rw[(by kernel_rfl:prog.cellsOf 46=1)] at q;exact q
    obtain⟨s0,e0,rfl,w0⟩:=DataW.trod_string underlying9 g0
    obtain rfl:c0=.string s0:=by simpa using e0
    obtain⟨b1,e1,rfl⟩:=DataW.trod_bool underlying4 g1
    obtain rfl:c1=.bool b1:=by simpa using e1
    obtain⟨A2,k2,l2,e2,r2,z2⟩:=bV (R:=CtrR w (lo w)) (c:=cCtr) underlying46 (by kernel_rfl:prog.cellsOf 122=2) π g2 (λm hm cs y q=>op_ctr m q)
    obtain rfl:c2=.slice A2 l2 k2:=by simpa using e2
    simp only[List.map_cons,List.map_nil,Rows.uptoBulk,Rows.uptoBulkAll,bR]
    refine⟨⟨s0,b1,l2⟩,⟨_,rfl,w0,r2⟩,?_⟩
    show 1+s0.size+sumN cCtr l2<=_;omega
def op_eff:∀(fuel:Nat) {cs:List Value} {x:DataW H×List MemPlace},Tr enc w sp held fuel 50 cs x->∃a:Eff,EffR w (lo w) cs a/\cEff a<=Rows.uptoBulk x.1
 | fuel,cs,x,h=>by
  have c50_:prog.cellsOf 50=5:=by kernel_rfl
  obtain⟨xs,n,hn,rfl,hl,hlen,hg⟩:=DataW.trod_struct underlying50 h
  rw[c50_] at hl
  match cs,hl with
  | [c0,c1,c2,c3,c4],_ =>
   match xs,hlen with
   | [y0,y1,y2],_ =>
    have g0:Tr enc w sp held n 9 [c0] y0:=by have q:Tr enc w sp held n 9 (([c0,c1,c2,c3,c4].drop 0).take (prog.cellsOf 9)) y0:=hg 0 _ rfl;rw[(by kernel_rfl:prog.cellsOf 9=1)] at q;exact q
    have g1:Tr enc w sp held n 37 [c1] y1:=by have q:Tr enc w sp held n 37 (([c0,c1,c2,c3,c4].drop 1).take (prog.cellsOf 37)) y1:=hg 1 _ rfl;rw[(by kernel_rfl:prog.cellsOf 37=1)] at q;exact q
    have g2:Tr enc w sp held n 40 [c2,c3,c4] y2:=by have q:Tr enc w sp held n 40 (([c0,c1,c2,c3,c4].drop 2).take (prog.cellsOf 40)) y2:=hg 2 _ rfl;rw[(by kernel_rfl:prog.cellsOf 40=3)] at q;exact q
    obtain⟨s0,e0,rfl,w0⟩:=DataW.trod_string underlying9 g0
    obtain rfl:c0=.string s0:=by simpa using e0
    obtain⟨A1,k1,l1,e1,r1,z1⟩:=bV (R:=FldR w (lo w)) (c:=cFld) underlying37 (by kernel_rfl:prog.cellsOf 118=4) π g1 (λm hm cs y q=>pI m q)
    obtain rfl:c1=.slice A1 l1 k1:=by simpa using e1
    obtain⟨t2,r2,z2⟩:=op_ty n g2
    simp only[List.map_cons,List.map_nil,Rows.uptoBulk,Rows.uptoBulkAll,bR]
    refine⟨⟨s0,l1,t2⟩,⟨_,_,rfl,w0,r1,r2⟩,?_⟩
    show 1+s0.size+sumN cFld l1+cTy t2<=_;omega
def op_fn:∀(fuel:Nat) {cs:List Value} {x:DataW H×List MemPlace},Tr enc w sp held fuel 45 cs x->∃a:Fn,FnR w (lo w) cs a/\cFn a<=Rows.uptoBulk x.1
 | fuel,cs,x,h=>by
  have c45_:prog.cellsOf 45=11:=by kernel_rfl
  obtain⟨xs,n,hn,rfl,hl,hlen,hg⟩:=DataW.trod_struct underlying45 h
  rw[c45_] at hl
  match cs,hl with
  | [c0,c1,c2,c3,c4,c5,c6,c7,c8,c9,c10],_ =>
   match xs,hlen with
   | [y0,y1,y2,y3,y4],_ =>
    have g0:Tr enc w sp held n 9 [c0] y0:=by have q:Tr enc w sp held n 9 (([c0,c1,c2,c3,c4,c5,c6,c7,c8,c9,c10].drop 0).take (prog.cellsOf 9)) y0:=hg 0 _ rfl;rw[(by kernel_rfl:prog.cellsOf 9=1)] at q;exact q
    have g1:Tr enc w sp held n 37 [c1] y1:=by have q:Tr enc w sp held n 37 (([c0,c1,c2,c3,c4,c5,c6,c7,c8,c9,c10].drop 1).take (prog.cellsOf 37)) y1:=hg 1 _ rfl;rw[(by kernel_rfl:prog.cellsOf 37=1)] at q;exact q
    have g2:Tr enc w sp held n 40 [c2,c3,c4] y2:=by have q:Tr enc w sp held n 40 (([c0,c1,c2,c3,c4,c5,c6,c7,c8,c9,c10].drop 2).take (prog.cellsOf 40)) y2:=hg 2 _ rfl;rw[(by kernel_rfl:prog.cellsOf 40=3)] at q;exact q
    have g3:Tr enc w sp held n 3 [c5] y3:=by have q:Tr enc w sp held n 3 (([c0,c1,c2,c3,c4,c5,c6,c7,c8,c9,c10].drop 5).take (prog.cellsOf 3)) y3:=hg 3 _ rfl;rw[(by kernel_rfl:prog.cellsOf 3=1)] at q;exact q
    have g4:Tr enc w sp held n 43 [c6,c7,c8,c9,c10] y4:=by have q:Tr enc w sp held n 43 (([c0,c1,c2,c3,c4,c5,c6,c7,c8,c9,c10].drop 6).take (prog.cellsOf 43)) y4:=hg 4 _ rfl;rw[(by kernel_rfl:prog.cellsOf 43=5)] at q;exact q
    obtain⟨s0,e0,rfl,w0⟩:=DataW.trod_string underlying9 g0
    obtain rfl:c0=.string s0:=by simpa using e0
    obtain⟨A1,k1,l1,e1,r1,z1⟩:=bV (R:=FldR w (lo w)) (c:=cFld) underlying37 (by kernel_rfl:prog.cellsOf 118=4) π g1 (λm hm cs y q=>pI m q)
    obtain rfl:c1=.slice A1 l1 k1:=by simpa using e1
    obtain⟨t2,r2,z2⟩:=op_ty n g2
    obtain⟨n3,e3,rfl,w3⟩:=DataW.trod_int underlying3 g3
    have i3:i64 n3:=gQ w3
    obtain rfl:c5=.int .i64 n3:=by simpa using e3
    obtain⟨t4,r4,z4⟩:=op_ex n g4
    simp only[List.map_cons,List.map_nil,Rows.uptoBulk,Rows.uptoBulkAll,bR]
    refine⟨⟨s0,l1,t2,n3,t4⟩,⟨_,[c2,c3,c4],[c6,c7,c8,c9,c10],rfl,i3,w0,r1,r2,r4⟩,?_⟩
    show 1+s0.size+sumN cFld l1+cTy t2+cEx t4<=_;omega
def op_vr:∀(fuel:Nat) {cs:List Value} {x:DataW H×List MemPlace},Tr enc w sp held fuel 61 cs x->∃a:Vr,VrR w (lo w) cs a/\cVr a<=Rows.uptoBulk x.1
 | fuel,cs,x,h=>by
  have c61_:prog.cellsOf 61=9:=by kernel_rfl
  obtain⟨xs,n,hn,rfl,hl,hlen,hg⟩:=DataW.trod_struct underlying61 h
  rw[c61_] at hl
  match cs,hl with
  | [c0,c1,c2,c3,c4,c5,c6,c7,c8],_ =>
   match xs,hlen with
   | [y0,y1,y2],_ =>
    have g0:Tr enc w sp held n 9 [c0] y0:=by have q:Tr enc w sp held n 9 (([c0,c1,c2,c3,c4,c5,c6,c7,c8].drop 0).take (prog.cellsOf 9)) y0:=hg 0 _ rfl;rw[(by kernel_rfl:prog.cellsOf 9=1)] at q;exact q
    have g1:Tr enc w sp held n 40 [c1,c2,c3] y1:=by have q:Tr enc w sp held n 40 (([c0,c1,c2,c3,c4,c5,c6,c7,c8].drop 1).take (prog.cellsOf 40)) y1:=hg 1 _ rfl;rw[(by kernel_rfl:prog.cellsOf 40=3)] at q;exact q
    have g2:Tr enc w sp held n 43 [c4,c5,c6,c7,c8] y2:=by have q:Tr enc w sp held n 43 (([c0,c1,c2,c3,c4,c5,c6,c7,c8].drop 4).take (prog.cellsOf 43)) y2:=hg 2 _ rfl;rw[(by kernel_rfl:prog.cellsOf 43=5)] at q;exact q
    obtain⟨s0,e0,rfl,w0⟩:=DataW.trod_string underlying9 g0
    obtain rfl:c0=.string s0:=by simpa using e0
    obtain⟨t1,r1,z1⟩:=op_ty n g1
    obtain⟨t2,r2,z2⟩:=op_ex n g2
    simp only[List.map_cons,List.map_nil,Rows.uptoBulk,Rows.uptoBulkAll,bR]
    refine⟨⟨s0,t1,t2⟩,⟨[c1,c2,c3],[c4,c5,c6,c7,c8],rfl,w0,r1,r2⟩,?_⟩
    show 1+s0.size+cTy t1+cEx t2<=_;omega
def op_hd:∀(fuel:Nat) {cs:List Value} {x:DataW H×List MemPlace},Tr enc w sp held fuel 64 cs x->∃a:Hd,HdR w (lo w) cs a/\cHd a<=Rows.uptoBulk x.1
 | fuel,cs,x,h=>by
  have c64_:prog.cellsOf 64=4:=by kernel_rfl
  obtain⟨xs,n,hn,rfl,hl,hlen,hg⟩:=DataW.trod_struct underlying64 h
  rw[c64_] at hl
  match cs,hl with
  | [c0,c1,c2,c3],_ =>
   match xs,hlen with
   | [y0,y1,y2,y3],_ =>
    have g0:Tr enc w sp held n 9 [c0] y0:=by have q:Tr enc w sp held n 9 (([c0,c1,c2,c3].drop 0).take (prog.cellsOf 9)) y0:=hg 0 _ rfl;rw[(by kernel_rfl:prog.cellsOf 9=1)] at q;exact q
    have g1:Tr enc w sp held n 37 [c1] y1:=by have q:Tr enc w sp held n 37 (([c0,c1,c2,c3].drop 1).take (prog.cellsOf 37)) y1:=hg 1 _ rfl;rw[(by kernel_rfl:prog.cellsOf 37=1)] at q;exact q
    have g2:Tr enc w sp held n 3 [c2] y2:=by have q:Tr enc w sp held n 3 (([c0,c1,c2,c3].drop 2).take (prog.cellsOf 3)) y2:=hg 2 _ rfl;rw[(by kernel_rfl:prog.cellsOf 3=1)] at q;exact q
    have g3:Tr enc w sp held n 62 [c3] y3:=by have q:Tr enc w sp held n 62 (([c0,c1,c2,c3].drop 3).take (prog.cellsOf 62)) y3:=hg 3 _ rfl;rw[(by kernel_rfl:prog.cellsOf 62=1)] at q;exact q
    obtain⟨s0,e0,rfl,w0⟩:=DataW.trod_string underlying9 g0
    obtain rfl:c0=.string s0:=by simpa using e0
    obtain⟨A1,k1,l1,e1,r1,z1⟩:=bV (R:=FldR w (lo w)) (c:=cFld) underlying37 (by kernel_rfl:prog.cellsOf 118=4) π g1 (λm hm cs y q=>pI m q)
    obtain rfl:c1=.slice A1 l1 k1:=by simpa using e1
    obtain⟨n2,e2,rfl,w2⟩:=DataW.trod_int underlying3 g2
    have i2:i64 n2:=gQ w2
    obtain rfl:c2=.int .i64 n2:=by simpa using e2
    obtain⟨A3,k3,l3,e3,r3,z3⟩:=bV (R:=StR w (lo w)) (c:=cSt) underlying62 (by kernel_rfl:prog.cellsOf 120=9) π g3 (λm hm cs y q=>op_st m q)
    obtain rfl:c3=.slice A3 l3 k3:=by simpa using e3
    simp only[List.map_cons,List.map_nil,Rows.uptoBulk,Rows.uptoBulkAll,bR]
    refine⟨⟨s0,l1,n2,l3⟩,⟨_,_,rfl,i2,w0,r1,r3⟩,?_⟩
    show 1+s0.size+sumN cFld l1+cSts l3<=_;rw[mn];omega
def op_ac:∀(fuel:Nat) {cs:List Value} {x:DataW H×List MemPlace},Tr enc w sp held fuel 54 cs x->∃a:Ac,AcR w (lo w) cs a/\cAc a<=Rows.uptoBulk x.1
 | fuel,cs,x,h=>by
  have c54_:prog.cellsOf 54=7:=by kernel_rfl
  obtain⟨xs,n,hn,rfl,hl,hlen,hg⟩:=DataW.trod_struct underlying54 h
  rw[c54_] at hl
  match cs,hl with
  | [c0,c1,c2,c3,c4,c5,c6],_ =>
   match xs,hlen with
   | [y0,y1,y2,y3,y4,y5,y6],_ =>
    have g0:Tr enc w sp held n 9 [c0] y0:=by have q:Tr enc w sp held n 9 (([c0,c1,c2,c3,c4,c5,c6].drop 0).take (prog.cellsOf 9)) y0:=hg 0 _ rfl;rw[(by kernel_rfl:prog.cellsOf 9=1)] at q;exact q
    have g1:Tr enc w sp held n 37 [c1] y1:=by have q:Tr enc w sp held n 37 (([c0,c1,c2,c3,c4,c5,c6].drop 1).take (prog.cellsOf 37)) y1:=hg 1 _ rfl;rw[(by kernel_rfl:prog.cellsOf 37=1)] at q;exact q
    have g2:Tr enc w sp held n 3 [c2] y2:=by have q:Tr enc w sp held n 3 (([c0,c1,c2,c3,c4,c5,c6].drop 2).take (prog.cellsOf 3)) y2:=hg 2 _ rfl;rw[(by kernel_rfl:prog.cellsOf 3=1)] at q;exact q
    have g3:Tr enc w sp held n 51 [c3] y3:=by have q:Tr enc w sp held n 51 (([c0,c1,c2,c3,c4,c5,c6].drop 3).take (prog.cellsOf 51)) y3:=hg 3 _ rfl;rw[(by kernel_rfl:prog.cellsOf 51=1)] at q;exact q
    have g4:Tr enc w sp held n 52 [c4] y4:=by have q:Tr enc w sp held n 52 (([c0,c1,c2,c3,c4,c5,c6].drop 4).take (prog.cellsOf 52)) y4:=hg 4 _ rfl;rw[(by kernel_rfl:prog.cellsOf 52=1)] at q;exact q
    have g5:Tr enc w sp held n 3 [c5] y5:=by have q:Tr enc w sp held n 3 (([c0,c1,c2,c3,c4,c5,c6].drop 5).take (prog.cellsOf 3)) y5:=hg 5 _ rfl;rw[(by kernel_rfl:prog.cellsOf 3=1)] at q;exact q
    have g6:Tr enc w sp held n 3 [c6] y6:=by have q:Tr enc w sp held n 3 (([c0,c1,c2,c3,c4,c5,c6].drop 6).take (prog.cellsOf 3)) y6:=hg 6 _ rfl;rw[(by kernel_rfl:prog.cellsOf 3=1)] at q;exact q
    obtain⟨s0,e0,rfl,w0⟩:=DataW.trod_string underlying9 g0
    obtain rfl:c0=.string s0:=by simpa using e0
    obtain⟨A1,k1,l1,e1,r1,z1⟩:=bV (R:=FldR w (lo w)) (c:=cFld) underlying37 (by kernel_rfl:prog.cellsOf 118=4) π g1 (λm hm cs y q=>pI m q)
    obtain rfl:c1=.slice A1 l1 k1:=by simpa using e1
    obtain⟨n2,e2,rfl,w2⟩:=DataW.trod_int underlying3 g2
    have i2:i64 n2:=gQ w2
    obtain rfl:c2=.int .i64 n2:=by simpa using e2
    obtain⟨A3,k3,l3,e3,r3,z3⟩:=bV (R:=VrR w (lo w)) (c:=cVr) underlying51 (by kernel_rfl:prog.cellsOf 61=9) π g3 (λm hm cs y q=>op_vr m q)
    obtain rfl:c3=.slice A3 l3 k3:=by simpa using e3
    obtain⟨A4,k4,l4,e4,r4,z4⟩:=bV (R:=HdR w (lo w)) (c:=cHd) underlying52 (by kernel_rfl:prog.cellsOf 64=4) π g4 (λm hm cs y q=>op_hd m q)
    obtain rfl:c4=.slice A4 l4 k4:=by simpa using e4
    obtain⟨n5,e5,rfl,w5⟩:=DataW.trod_int underlying3 g5
    have i5:i64 n5:=gQ w5
    obtain rfl:c5=.int .i64 n5:=by simpa using e5
    obtain⟨n6,e6,rfl,w6⟩:=DataW.trod_int underlying3 g6
    have i6:i64 n6:=gQ w6
    obtain rfl:c6=.int .i64 n6:=by simpa using e6
    simp only[List.map_cons,List.map_nil,Rows.uptoBulk,Rows.uptoBulkAll,bR]
    refine⟨⟨s0,l1,n2,l3,l4,n5,n6⟩,⟨_,_,_,rfl,⟨i2,i5,i6⟩,w0,r1,r3,r4⟩,?_⟩
    show 1+s0.size+sumN cFld l1+sumN cVr l3+sumN cHd l4<=_;omega
def op_pg:∀(fuel:Nat) {cs:List Value} {x:DataW H×List MemPlace},Tr enc w sp held fuel 27 cs x->∃a:Pg,PgR w (lo w) cs a/\cPg a<=Rows.uptoBulk x.1
 | fuel,cs,x,h=>by
  have c27_:prog.cellsOf 27=4:=by kernel_rfl
  obtain⟨xs,n,hn,rfl,hl,hlen,hg⟩:=DataW.trod_struct underlying27 h
  rw[c27_] at hl
  match cs,hl with
  | [c0,c1,c2,c3],_ =>
   match xs,hlen with
   | [y0,y1,y2,y3],_ =>
    have g0:Tr enc w sp held n 22 [c0] y0:=by have q:Tr enc w sp held n 22 (([c0,c1,c2,c3].drop 0).take (prog.cellsOf 22)) y0:=hg 0 _ rfl;rw[(by kernel_rfl:prog.cellsOf 22=1)] at q;exact q
    have g1:Tr enc w sp held n 23 [c1] y1:=by have q:Tr enc w sp held n 23 (([c0,c1,c2,c3].drop 1).take (prog.cellsOf 23)) y1:=hg 1 _ rfl;rw[(by kernel_rfl:prog.cellsOf 23=1)] at q;exact q
    have g2:Tr enc w sp held n 24 [c2] y2:=by have q:Tr enc w sp held n 24 (([c0,c1,c2,c3].drop 2).take (prog.cellsOf 24)) y2:=hg 2 _ rfl;rw[(by kernel_rfl:prog.cellsOf 24=1)] at q;exact q
    have g3:Tr enc w sp held n 25 [c3] y3:=by have q:Tr enc w sp held n 25 (([c0,c1,c2,c3].drop 3).take (prog.cellsOf 25)) y3:=hg 3 _ rfl;rw[(by kernel_rfl:prog.cellsOf 25=1)] at q;exact q
    obtain⟨A0,k0,l0,e0,r0,z0⟩:=bV (R:=DclR w (lo w)) (c:=cDcl) underlying22 (by kernel_rfl:prog.cellsOf 48=3) π g0 (λm hm cs y q=>op_dcl m q)
    obtain rfl:c0=.slice A0 l0 k0:=by simpa using e0
    obtain⟨A1,k1,l1,e1,r1,z1⟩:=bV (R:=EffR w (lo w)) (c:=cEff) underlying23 (by kernel_rfl:prog.cellsOf 50=5) π g1 (λm hm cs y q=>op_eff m q)
    obtain rfl:c1=.slice A1 l1 k1:=by simpa using e1
    obtain⟨A2,k2,l2,e2,r2,z2⟩:=bV (R:=FnR w (lo w)) (c:=cFn) underlying24 (by kernel_rfl:prog.cellsOf 45=11) π g2 (λm hm cs y q=>op_fn m q)
    obtain rfl:c2=.slice A2 l2 k2:=by simpa using e2
    obtain⟨A3,k3,l3,e3,r3,z3⟩:=bV (R:=AcR w (lo w)) (c:=cAc) underlying25 (by kernel_rfl:prog.cellsOf 54=7) π g3 (λm hm cs y q=>op_ac m q)
    obtain rfl:c3=.slice A3 l3 k3:=by simpa using e3
    simp only[List.map_cons,List.map_nil,Rows.uptoBulk,Rows.uptoBulkAll,bR]
    refine⟨⟨l0,l1,l2,l3⟩,⟨_,_,_,_,rfl,r0,r1,r2,r3⟩,?_⟩
    show sumN cDcl l0+sumN cEff l1+sumN cFn l2+sumN cAc l3<=_;omega
end
mutual
theorem pz:∀(t:Ty) (d:Int),szTy d t<=1000000*cTy t
 | .mk k s a,d=>by
  rw[szTy,cTy]
  split
  ·omega
  have:=uL a (d-1);omega
theorem uL:∀(l:List Ty) (d:Int),iK d l<=1000000*cTys l
 | [],d=>by rw[iK];exact Nat.zero_le _
 | x::xs,d=>by rw[iK,cTys];have:=pz x d;have:=uL xs d;omega
end
mutual
theorem uv:∀(t:Ex) (d:Int),szEx d t<=1000000*cEx t
 | .mk o n m s a,d=>by
  rw[szEx,cEx]
  split
  ·omega
  have:=qS a (d-1);omega
theorem qS:∀(l:List Ex) (d:Int),fc d l<=1000000*cExs l
 | [],d=>by rw[fc];exact Nat.zero_le _
 | x::xs,d=>by rw[fc,cExs];have:=uv x d;have:=qS xs d;omega
end
mutual
theorem szSt_c:∀(t:St) (d:Int),szSt d t<=3000001*cSt t
 | .mk o n m s u xs h e a,d=>by
  rw[szSt,cSt]
  have:=qS xs d
  have:=mw h (d-1)
  have:=mw e (d-1)
  have:=mw a (d-1)
  split<;>omega
theorem mw:∀(l:List St) (d:Int),eZ d l<=3000001*cSts l
 | [],d=>by rw[eZ];exact Nat.zero_le _
 | x::xs,d=>by rw[eZ,cSts];have:=szSt_c x d;have:=mw xs d;omega
end
theorem oc {α:Type} {f g:α->Nat} (h:∀x,f x<=3000001*g x):∀l:List α,sumN f l<=3000001*sumN g l
 | []=>Nat.zero_le _
 | x::l=>by rw[sumN,sumN];have:=oc h l;have:=h x;omega
theorem iZ:∀l:List Fld,bY l<=1000000*sumN cFld l
 | []=>Nat.zero_le _
 | f::l=>by
  have h1:=iZ l
  have h2:=pz f.type 20
  rw[sumN]
  unfold bY at h1 ⊢
  rw[szFs,δ]
  have h3:cFld f=1+f.name.size+cTy f.type:=rfl
  omega
def Cg (p:Pg):szPg p<=3000001*cPg p:=by
 have q:=oc (f:=hZ) (g:=cDcl) (λd=>by
  have:=oc (f:=jo) (g:=cCtr) (λc=>by rw[lO c];have:=iZ c.fields;have e:cCtr c=1+c.name.size+sumN cFld c.fields:=rfl;omega) d.ctors;rw[i7 d];have e:cDcl d=1+d.name.size+sumN cCtr d.ctors:=rfl;omega) p.types
 have l:=oc (f:=jZ) (g:=cEff) (λd=>by rw[sH d];have:=iZ d.params;have:=pz d.answer 20;have e:cEff d=1+d.name.size+sumN cFld d.params+cTy d.answer:=rfl;omega) p.effects;have k:=oc (f:=szFn) (g:=cFn) (λd=>by rw[qR d];have:=iZ d.params;have:=pz d.result 20;have:=uv d.body 50;have:=qX d.slots;have e:cFn d=1+d.name.size+sumN cFld d.params+cTy d.result+cEx d.body:=rfl;omega) p.funs
 have j:=oc (f:=szAc) (g:=cAc) (λd=>by
  have i:=oc (f:=szVr) (g:=cVr) (λv=>by rw[qP v];have:=pz v.type 20;have:=uv v.init 50;have e:cVr v=1+v.name.size+cTy v.type+cEx v.init:=rfl;omega) d.vars;have h:=oc (f:=szHd) (g:=cHd) (λv=>by rw[qQ v];have:=iZ v.params;have a:ek 50 v.body<=3000001*cSts v.body:=mw v.body 50;have:=qX v.slots;have e:cHd v=1+v.msg.size+sumN cFld v.params+cSts v.body:=rfl;omega) d.on;rw[mx d];have:=iZ d.params;have:=qX d.slots;have e:cAc d=1+d.name.size+sumN cFld d.params+sumN cVr d.vars+sumN cHd d.on:=rfl;omega) p.actors
 unfold szPg cPg;omega
def BY {p:Pg} (h:cPg p<=1048576):szPg p<=4000000000000:=by have:=Cg p;omega
def own:ownKnob prog.godebug=none:=by kernel_rfl
def sn:laidOutB prog=true:=by kernel_rfl
def gTab:prog.globalNamed "retroact/sum.rounds" = some 0:=by kernel_rfl
def Ca:(prog.globals[0]?).map (·.type)=some 212:=by kernel_rfl
def Cb:prog.cellsOf 212=64:=by kernel_rfl
def Cc:prog.cellsOf 180=1:=by kernel_rfl
def wj {W:World} (h:Lib.TabIs prog W "retroact/sum.rounds" .u32 ShaT.kcs):ShaT.Rounds W:=by
 have a:∀j,j<64->W.cell? ⟨0,j,none⟩=some (.int .u32 (ShaT.kcs.getD j 0)):=λj hj=>h.cell gTab j (by rw[ShaT.kcs_length];exact hj);exact⟨block_lt_of_cell (a 0 π),a⟩
noncomputable def mO (os:Os):World:=
 { World.holding prog os ⟨#[],#[],[]⟩ with heap:=(World.holding prog os ⟨#[],#[],[]⟩).heap.modify 0 fun
  | .cells _ t frozen=>.cells (ShaT.i32s ShaT.kcs) t frozen
  | o=>o }
section
variable {H:Type} {enc:TypeId×Value->H} {w:World} {sp:Nat->Bool} {held:Bool}
def Ck {r:Reach} {b0:Nat} {v:Value} {d:DataW H} {p:List MemPlace} (hv:Value.okWide prog w r b0 27 v) (h:DataW.Trod enc prog w 0 sp held 27 v d p) :
 ∃A0 A1 A2 A3 q0 q1 q2 q3 pg,v=.agg #[.slice A0 pg.types.length q0,.slice A1 pg.effects.length q1,.slice A2 pg.funs.length q2,.slice A3 pg.actors.length q3]/\PgAt w A0 A1 A2 A3 q0 q1 q2 q3 pg/\cPg pg<=Rows.uptoBulk d:=by
 obtain⟨x,rfl,y⟩:=okWide_struct underlying27 hv;obtain⟨a,i⟩:=h;obtain⟨pg,g,j⟩:=op_pg a i;obtain⟨A0,q0,A1,q1,A2,q2,A3,q3,e,t,q,l,k⟩:=q7 g;have u:x.toList=[.slice A0 pg.types.length q0,.slice A1 pg.effects.length q1,.slice A2 pg.funs.length q2,.slice A3 pg.actors.length q3]:=by simpa[Value.cells] using e
 exact⟨A0,A1,A2,A3,q0,q1,q2,q3,pg,congrArg Value.agg (Array.toList_inj.1 (u.trans rfl)),⟨t,q,l,k⟩,j⟩
end
end Go.Proofs.YtjohpidklbhmcaaGreatDoor
