/- Core -/
import Derived.Test.YtjohpidklbhmcaaGreatDoorZ1
import Derived.StillTailTactics
import Derived.Laws.CopyOwn
import Derived.Lib.AppendStr
import Derived.Lib.Builder
import Derived.Lib.Walk
import Derived.Lib.Strings
import Derived.Lib.AppendIntMem
namespace Go.Proofs.YtjohpidklbhmcaaGreatDoor
set_option linter.all false
set_option maxRecDepth 100000
set_option maxHeartbeats 2000000
section
open Proofs.Tryz RowKit Maps WideMaps ChangeMaps
def Dcl.nm (f:Dcl):List UInt8:=f.name.data.toList
def Ac.nm (f:Ac):List UInt8:=f.name.data.toList
def Eff.nm (f:Eff):List UInt8:=f.name.data.toList
def Fn.nm (f:Fn):List UInt8:=f.name.data.toList
def ep (p:Pg):List (List UInt8)->List (List UInt8)->List Dcl->Option (List (List UInt8))
 | sN,_,[]=>some sN
 | sN,sC,d::ds=>if (!decide (d.nm∈sN)&&aC d.nm)&&fN p sC d then ep p (d.nm::sN) ((d.ctors.map Ctr.nm).reverse++sC) ds else none
def dF (p:Pg):List (List UInt8)->List Fn->Bool
 | _,[]=>true
 | seen,f::fs=>if bH f.name then funP p f&&dF p seen fs else (!decide (f.nm∈seen)&&aX f.nm)&&(!oz f.nm&&(funP p f&&dF p (f.nm::seen) fs))
def iu (p:Pg) (e:Eff):Bool:=de p e.params&&ci p e.answer
def iO (p:Pg):Bool:=match idxP p.acNames [77,97,105,110] with
 | none=>false
 | some i=>match p.actors[i]? with
  | none=>false
  | some a=>decide (a.params.length=0)
def cH (p:Pg):Bool:=match ep p [] [] p.types with
 | none=>false
 | some sN=>uniq Ac.nm aC (acP p) sN p.actors&&(uniq Eff.nm aX (iu p) [] p.effects&&(dF p [] p.funs&&iO p))
def gO (l:List Dcl):Nat:=(l.map λd=>d.ctors.length).sum
structure Pg.Small (p:Pg):Prop where
 ctors:gO p.types<=1000000
 types:p.types.length<=1000000
 effects:p.effects.length<=1000000
 funs:p.funs.length<=1000000
 actors:p.actors.length<=1000000
def pB {w W:À} {bc:Nat} (h:Below w w W) (hb:w<=bc):Sub (lo w) (im (only bc) W) w W:=λb hl=>⟨⟨ρ hl h.size,λe=>by unfold only at e;unfold lo at hl;omega⟩,h.block b hl⟩
def mE {w W W2:À} {bc:Nat} (h:Below w w W) (k:Stp (only bc) W W2) (hb:w<=bc):Below w w W2:=
 ⟨k.os.trans h.os,k.tape.trans h.tape,k.output.trans h.output,ψ h.size k.size,λi hi=>(k.block i (ρ hi h.size) (λe=>by unfold only at e;omega)).trans (h.block i hi)⟩
variable {sN sC:List (List UInt8)} {l:List Dcl} {j:Nat}
def pR {p:Pg} (h:j<l) (hb:((!decide (l[j].nm∈sN)&&aC l[j].nm)&&fN p sC l[j])=false):ep p sN sC (l.drop j)=none:=by
 rw[bk h,ep,hb];rfl
def vG {p:Pg} (h:j<l) (hb:((!decide (l[j].nm∈sN)&&aC l[j].nm)&&fN p sC l[j])=true):ep p sN sC (l.drop j)=ep p (l[j].nm::sN) ((l[j].ctors.map Ctr.nm).reverse++sC) (l.drop (j+1)):=by
 rw[bk h,ep,hb];rfl
def tm {p:Pg} (h:¬j<l):ep p sN sC (l.drop j)=some sN:=by
 rw[ε ω];rfl
def kX (h:j<l):gO (l.drop j)=l[j].ctors.length+gO (l.drop (j+1)):=by
 unfold gO;rw[bk h,List.map_cons,List.sum_cons]
variable {seen:List (List UInt8)} {l:List Fn}
def wK {p:Pg} (h:¬j<l):dF p seen (l.drop j)=true:=by
 rw[ε ω];rfl
def funsD_e {p:Pg} (h:j<l) (he:bH l[j].name=true):dF p seen (l.drop j)=(funP p l[j]&&dF p seen (l.drop (j+1))):=by
 rw[bk h,dF,if_pos he]
def funsD_n {p:Pg} (h:j<l) (he:bH l[j].name=false):dF p seen (l.drop j)=((!decide (l[j].nm∈seen)&&aX l[j].nm)&&(!oz l[j].nm&&(funP p l[j]&&dF p (l[j].nm::seen) (l.drop (j+1))))):=by
 rw[bk h,dF,if_neg (by simp[he])]
def idx_main (l:List (List UInt8)) (w:À) (b n:Nat) (h:SMap w b n (idxF l l)):(Instr.lookup 101 (.map (some b)) (.string ⟨#[77,97,105,110]⟩) true).run prog w=.ok (.tuple #[(idxF l l [77,97,105,110]).getD (.int .i64 0),.bool (idxF l l [77,97,105,110]).isSome]) w:=ck h π
def fE (c:CB) (p:Pg) (w:À) (hck:ChkR w (lo w) c p) (hsm:p.Small):Calls prog 42 #[c.b] w λe w'=>e=.returned (.bool (cH p))/\Below w w w':=by
 have HV:Hid (cH p=match ep p [] [] p.types with
  | none=>false
  | some J=>uniq Ac.nm aC (acP p) J p.actors&&(uniq Eff.nm aX (iu p) [] p.effects&&(dF p [] p.funs&&iO p))):=rfl
 obtain⟨A0,q0,e0⟩:=hck.types.form;obtain⟨A1,q1,e1⟩:=hck.effects.form;obtain⟨A2,q2,e2⟩:=hck.funs.form;obtain⟨A3,q3,e3⟩:=hck.actors.form;have c0:=hck.c0;rw[e0] at c0;have HT:Hid (SlR w (lo w) 3 (DclR w (lo w)) (.slice A0 p.types q0) p.types):=by rw[<-e0];exact hck.types
 have HE:Hid (SlR w (lo w) 5 (EffR w (lo w)) (.slice A1 p.effects q1) p.effects):=by rw[<-e1];exact hck.effects
 have cp:Hid (SlR w (lo w) 11 (FnR w (lo w)) (.slice A2 p.funs q2) p.funs):=by rw[<-e2];exact hck.funs
 have bx:Hid (SlR w (lo w) 7 (AcR w (lo w)) (.slice A3 p.actors q3) p.actors):=by rw[<-e3];exact hck.actors
 have cs:Hid (w.cell? ⟨c.b,1,none⟩=some (.slice A1 p.effects q1)):=by rw[<-e1];exact hck.c1
 have cr:Hid (w.cell? ⟨c.b,2,none⟩=some (.slice A2 p.funs q2)):=by rw[<-e2];exact hck.c2
 have bv:Hid (w.cell? ⟨c.b,3,none⟩=some (.slice A3 p.actors q3)):=by rw[<-e3];exact hck.c3
 obtain⟨HC,co⟩:=zd2 hck hsm;have s1:=hsm.types;have s2:=hsm.effects;have s3:=hsm.funs;have s4:=hsm.actors;have ce:c.b<w:=hck.qb;have dj:=@run_makeMap prog;go_in;go_wp2_with fail;go_loopw [25] (λi wr=>∃(j:Nat) (J sC:List (List UInt8)),j<=p.types/\i=.int .i64 j/\Hid (ep p [] [] p.types=ep p J sC (p.types.drop j))/\J=j/\Hid (sC.length+gO (p.types.drop j)<=1000000)/\Hid (Below w w wr)/\Hid (SMap wr w J (oneF J))/\Hid (SMap wr (w+1) sC (oneF sC))) (λi _=>p.types.length-(intOf i).toNat)
 case atStart=>exact⟨0,[],[],ω,rfl,rfl,rfl,(by have:=co.ctors;simpa[Hid] using this),ζ2,(mc w).alloc _,kh w _⟩
 case round =>
  obtain⟨j,J,sC,hj,rfl,H,ax,bj,h,L,X⟩:=hrel;have aj:w.heap.size+1<wr:=X.lt;have ap:=η ax;by_cases hlt:j<p.types
  ·obtain⟨g,a7,A,q,rfl,hg,p0,p1,p2,T,O,cf⟩:=fF HT hlt;replace p0:=belC h p0;replace p1:=belC h p1;replace p2:=belC h p2;obtain⟨aa,I⟩:=zd2 T O;have U:J<maxLen:=by have:=ap.o;unfold maxLen;omega
   have Y:=η U;have br:sC.length+p.types[j].ctors.length<maxLen:=by have:=bj.o;rw[kX hlt] at this;unfold maxLen;omega
   have bu:=η br
   cases u:(!decide (p.types[j].nm∈J)&&aC p.types[j].nm) with
   | false =>
    have E:Hid (cH p=false):=by show _=_;rw[HV.o,H.o,pR hlt (by rw[u];rfl)]
    have G:=η u;go_wp2_with (go_at_call 94;refine (once_upper w J p.types[j].name J _ (L.alloc _) Y I).mono ?_;rintro e w1 ⟨y,f,n⟩;rw[show (!decide (p.types[j].name.data.toList∈J)&&aC p.types[j].name.data.toList)=false from G.o] at y;subst y;have t:=η (belG (belA h _) f (υ _)));go_ret;exact⟨by rw[E.o];rfl,t⟩
   | true =>
    have R:=η (ja u)
    cases z:fN p sC p.types[j] with
    | false =>
     have E:Hid (cH p=false):=by show _=_;rw[HV.o,H.o,pR hlt (by rw[z];simp)]
     obtain⟨G,M⟩:=zd2 u z;go_wp2_with (first|(go_at_call 94;refine (once_upper w J p.types[j].name J _ (L.alloc _) Y I).mono ?_;rintro e w1 ⟨y,f,n⟩;rw[show (!decide (p.types[j].name.data.toList∈J)&&aC p.types[j].name.data.toList)=true from G.o] at y;subst y;have t:=η (belG (belA h _) f (υ _));have F:=η (n R);have c0:=f.C wr 0 (.string p.types[j].name);have c1:=f.C wr 1 (.bool p.types[j].record);have V:=f.C wr 2 (.slice A p.types[j].ctors.length q);have bi:=η ((X.alloc _).same (f.block (w+1) Φ Θ)))|(go_at_call 96;refine (tc c p _ p.types[j] (w+1) sC sC _ (HC.to (pB t ω)) (aa.to (pB t ω)) bi bu).mono ?_;rintro e w2 ⟨a1,am,a0⟩;rw[M.o] at a1;subst a1;have B2:=η (mE t am ω)));go_ret;exact⟨by rw[E.o];rfl,B2⟩
    | true =>
     have E:Hid (ep p [] [] p.types=ep p (p.types[j].nm::J) ((p.types[j].ctors.map Ctr.nm).reverse++sC) (p.types.drop (j+1))):=by show _=_;rw[H.o];exact vG hlt (by rw[u,z];rfl)
     obtain⟨G,M⟩:=zd2 u z;go_wp2_with (first|(go_at_call 94;refine (once_upper w J p.types[j].name J _ (L.alloc _) Y I).mono ?_;rintro e w1 ⟨y,f,n⟩;rw[show (!decide (p.types[j].name.data.toList∈J)&&aC p.types[j].name.data.toList)=true from G.o] at y;subst y;have t:=η (belG (belA h _) f (υ _));have F:=η (n R);have c0:=f.C wr 0 (.string p.types[j].name);have c1:=f.C wr 1 (.bool p.types[j].record);have V:=f.C wr 2 (.slice A p.types[j].ctors.length q);have bi:=η ((X.alloc _).same (f.block (w+1) Φ Θ)))|(go_at_call 96;refine (tc c p _ p.types[j] (w+1) sC sC _ (HC.to (pB t ω)) (aa.to (pB t ω)) bi bu).mono ?_;rintro e w2 ⟨a1,am,a0⟩;rw[M.o] at a1;subst a1;have B2:=η (mE t am ω);have W:=η (F.same (am.block w F.lt Ω));have aq:=η a0));go_roundw
     case rel =>
      refine⟨j+1,_,_,ω,by go_num,E,by rw[δ,ap.o],?_,B2,W,?_⟩
      ·have u:=bj.o;have z:=kX hlt;show _+_<=_;simp;omega
      have e5:((p.types[j].ctors.map Ctr.nm).reverse++sC).length=sC.length+p.types[j].ctors.length:=by simp;omega
      rw[e5];exact aq M
     case measure=>simp[intOf];omega
  have a9:Hid (cH p=(uniq Ac.nm aC (acP p) J p.actors&&(uniq Eff.nm aX (iu p) [] p.effects&&(dF p [] p.funs&&iO p)))):=by show _=_;rw[HV.o,H.o,tm hlt]
  have dh:J.length<=1000000:=by rw[ap.o];omega
  have Z:=belC h bv;go_wp2_with fail;obtain⟨wo,rfl⟩:=γ wr
  go_loopw [48] (λi wr=>∃(j:Nat) (seen:List (List UInt8)),j<=p.actors/\i=.int .i64 j/\Hid (uniq Ac.nm aC (acP p) J p.actors=uniq Ac.nm aC (acP p) seen (p.actors.drop j))/\seen.length=J+j/\Hid (Below w w wr)/\Hid (SMap wr w seen (oneF seen))) (λi _=>p.actors.length-(intOf i).toNat)
  case atStart=>exact⟨0,J,ω,rfl,rfl,ω,h,L⟩
  case round =>
   obtain⟨j,seen,hj,rfl,H,ax,h,L⟩:=hrel;have aj:w.heap.size<wr:=L.lt;have ap:=η ax;by_cases hlt:j<p.actors
   ·obtain⟨g,a7,A,q,B,cq,D,d,rfl,hg,p0,p1,p2,p3,p4,p5,p6,T,_,O,_⟩:=fR bx hlt;replace p0:=belC h p0;replace p1:=belC h p1;replace p2:=belC h p2;replace p3:=belC h p3;replace p4:=belC h p4;replace p5:=belC h p5;replace p6:=belC h p6;obtain⟨aa,I⟩:=zd2 T O;have U:seen<maxLen:=by have:=ap.o;unfold maxLen;omega
    have Y:=η U
    cases u:(!decide (p.actors[j].nm∈seen)&&aC p.actors[j].nm) with
    | false =>
     have E:Hid (cH p=false):=by show _=_;rw[a9.o,H.o,iF hlt u];rfl
     have G:=η u;go_wp2_with (go_at_call 94;refine (once_upper w seen p.actors[j].name seen _ (L.alloc _) Y I).mono ?_;rintro e w1 ⟨y,f,n⟩;rw[show (!decide (p.actors[j].name.data.toList∈seen)&&aC p.actors[j].name.data.toList)=false from G.o] at y;subst y;have t:=η (belG (belA h _) f (υ _)));go_ret;exact⟨by rw[E.o];rfl,t⟩
    | true =>
     have R:=η (ja u)
     cases z:acP p p.actors[j] with
     | false =>
      have E:Hid (cH p=false):=by show _=_;rw[a9.o,H.o,ed hlt z];rfl
      obtain⟨G,M⟩:=zd2 u z;go_wp2_with (first|(go_at_call 94;refine (once_upper w seen p.actors[j].name seen _ (L.alloc _) Y I).mono ?_;rintro e w1 ⟨y,f,n⟩;rw[show (!decide (p.actors[j].name.data.toList∈seen)&&aC p.actors[j].name.data.toList)=true from G.o] at y;subst y;have t:=η (belG (belA h _) f (υ _));have c0:=f.C wr 0 (.string p.actors[j].name);have c1:=f.C wr 1 (.slice A p.actors[j].params.length q);have V:=f.C wr 2 (.int .i64 p.actors[j].slots);have Z:=f.C wr 3 (.slice B p.actors[j].vars.length cq);have c4:=f.C wr 4 (.slice D p.actors[j].on.length d);have c5:=f.C wr 5 (.int .i64 p.actors[j].policy);have c6:=f.C wr 6 (.int .i64 p.actors[j].most))|(go_at_call 97;refine (qu c p _ p.actors[j] _ (HC.to (ae t)) (aa.to (ae t))).mono ?_;rw[M.o];rintro e w2 ⟨rfl,l⟩));go_ret;exact⟨by rw[E.o];rfl,bel t l⟩
     | true =>
      have E:Hid (uniq Ac.nm aC (acP p) J p.actors=uniq Ac.nm aC (acP p) (p.actors[j].nm::seen) (p.actors.drop (j+1))):=by show _=_;rw[H.o];exact iG hlt u z
      obtain⟨G,M⟩:=zd2 u z;go_wp2_with (first|(go_at_call 94;refine (once_upper w seen p.actors[j].name seen _ (L.alloc _) Y I).mono ?_;rintro e w1 ⟨y,f,n⟩;rw[show (!decide (p.actors[j].name.data.toList∈seen)&&aC p.actors[j].name.data.toList)=true from G.o] at y;subst y;have t:=η (belG (belA h _) f (υ _));have F:=η (n R);have c0:=f.C wr 0 (.string p.actors[j].name);have c1:=f.C wr 1 (.slice A p.actors[j].params.length q);have V:=f.C wr 2 (.int .i64 p.actors[j].slots);have Z:=f.C wr 3 (.slice B p.actors[j].vars.length cq);have c4:=f.C wr 4 (.slice D p.actors[j].on.length d);have c5:=f.C wr 5 (.int .i64 p.actors[j].policy);have c6:=f.C wr 6 (.int .i64 p.actors[j].most))|(go_at_call 97;refine (qu c p _ p.actors[j] _ (HC.to (ae t)) (aa.to (ae t))).mono ?_;rw[M.o];rintro e w2 ⟨rfl,l⟩));go_roundw
      case rel=>exact⟨j+1,_,ω,by go_num,E,(by rw[δ,ap.o];omega),bel t l,F.below l F.lt⟩
      case measure=>simp[intOf];omega
   have a4:Hid (cH p=(uniq Eff.nm aX (iu p) [] p.effects&&(dF p [] p.funs&&iO p))):=by show _=_;rw[a9.o,H.o,gi hlt];rfl
   have c1:=belC h cs;have di:c.b<wr:=ρ ce h.size;go_wp2_with fail;obtain⟨N,rfl⟩:=γ wr
   have a8:w.heap.size<=N:=h.size;go_loopw [72] (λi wr=>∃(j:Nat) (seen:List (List UInt8)),j<=p.effects/\i=.int .i64 j/\Hid (uniq Eff.nm aX (iu p) [] p.effects=uniq Eff.nm aX (iu p) seen (p.effects.drop j))/\Hid (Below w w wr)/\Hid (SMap wr N j (oneF seen))/\Hid (SMap wr (N+1) 0 (oneF []))) (λi _=>p.effects.length-(intOf i).toNat)
   case atStart=>exact⟨0,[],ω,rfl,rfl,belA (belA h _) _,(mc N).alloc _,kh N _⟩
   case round =>
    obtain⟨j,seen,hj,rfl,H,h,L,X⟩:=hrel;have aj:N.heap.size+1<wr:=X.lt;by_cases hlt:j<p.effects
    ·obtain⟨g,a7,A,q,k,s,a,B,cq,rfl,hg,p0,p1,p2,p3,p4,T,O,bo,bs⟩:=jC HE hlt;replace p0:=belC h p0;replace p1:=belC h p1;replace p2:=belC h p2;replace p3:=belC h p3;replace p4:=belC h p4;obtain⟨bh,bw,I⟩:=zd3 bo bs O;have U:j<maxLen:=by unfold maxLen;omega
     have Y:=η U
     cases u:(!decide (p.effects[j].nm∈seen)&&aX p.effects[j].nm) with
     | false =>
      have E:Hid (cH p=false):=by show _=_;rw[a4.o,H.o,iF hlt u];rfl
      have G:=η u;go_wp2_with (go_at_call 94;refine (once_lower N j p.effects[j].name seen _ (L.alloc _) Y I).mono ?_;rintro e w1 ⟨y,f,n⟩;rw[show (!decide (p.effects[j].name.data.toList∈seen)&&aX p.effects[j].name.data.toList)=false from G.o] at y;subst y;have t:=η (belG (belA h _) f a8));go_ret;exact⟨by rw[E.o];rfl,t⟩
     | true =>
      have R:=η (ja u)
      cases z:de p p.effects[j].params with
      | false =>
       have E:Hid (cH p=false):=by show _=_;rw[a4.o,H.o,ed hlt (by unfold iu;rw[z];rfl)];rfl
       obtain⟨G,M⟩:=zd2 u z;go_wp2_with (first|(go_at_call 94;refine (once_lower N j p.effects[j].name seen _ (L.alloc _) Y I).mono ?_;rintro e w1 ⟨y,f,n⟩;rw[show (!decide (p.effects[j].name.data.toList∈seen)&&aX p.effects[j].name.data.toList)=true from G.o] at y;subst y;have t:=η (belG (belA h _) f a8);have F:=η (n R);have c1:=f.C wr 1 (.slice A p.effects[j].params.length q);have V:=f.C wr 2 (k:Vl);have Z:=f.C wr 3 (s:Vl);have c4:=f.C wr 4 (.slice B a cq);have W:=η ((X.alloc _).same (f.block (N+1) Φ Θ)))|(go_at_call 99;refine (cK c p _ p.effects[j].params _ (HC.to (ae t)) (FldsR.to bh (ae t))).mono ?_;rw[M.o];rintro e w2 ⟨rfl,l⟩;have B2:=η (bel t l)));go_ret;exact⟨by rw[E.o];rfl,B2⟩
      | true =>
       cases h3:ci p p.effects[j].answer with
       | false =>
        have E:Hid (cH p=false):=by show _=_;rw[a4.o,H.o,ed hlt (by unfold iu;rw[h3];simp)];rfl
        obtain⟨G,M,H3⟩:=zd3 u z h3;go_wp2_with (first|(go_at_call 94;refine (once_lower N j p.effects[j].name seen _ (L.alloc _) Y I).mono ?_;rintro e w1 ⟨y,f,n⟩;rw[show (!decide (p.effects[j].name.data.toList∈seen)&&aX p.effects[j].name.data.toList)=true from G.o] at y;subst y;have t:=η (belG (belA h _) f a8);have F:=η (n R);have c1:=f.C wr 1 (.slice A p.effects[j].params.length q);have V:=f.C wr 2 (k:Vl);have Z:=f.C wr 3 (s:Vl);have c4:=f.C wr 4 (.slice B a cq);have W:=η ((X.alloc _).same (f.block (N+1) Φ Θ)))|(go_at_call 99;refine (cK c p _ p.effects[j].params _ (HC.to (ae t)) (FldsR.to bh (ae t))).mono ?_;rw[M.o];rintro e w2 ⟨rfl,l⟩;have B2:=η (bel t l);have f2:=belC l V;have f3:=belC l Z;have f4:=belC l c4)|(go_at_call 100;refine (dQ c p _ p.effects[j].answer _ (HC.to (ae B2)) (bw.to (ae B2))).mono ?_;rw[H3.o];rintro e w3 ⟨rfl,a2⟩));go_ret;exact⟨by rw[E.o];rfl,bel B2 a2⟩
       | true =>
        have E:Hid (uniq Eff.nm aX (iu p) [] p.effects=uniq Eff.nm aX (iu p) (p.effects[j].nm::seen) (p.effects.drop (j+1))):=by show _=_;rw[H.o];exact iG hlt u (by unfold iu;rw[z,h3];rfl)
        obtain⟨G,M,H3⟩:=zd3 u z h3;go_wp2_with (first|(go_at_call 94;refine (once_lower N j p.effects[j].name seen _ (L.alloc _) Y I).mono ?_;rintro e w1 ⟨y,f,n⟩;rw[show (!decide (p.effects[j].name.data.toList∈seen)&&aX p.effects[j].name.data.toList)=true from G.o] at y;subst y;have t:=η (belG (belA h _) f a8);have F:=η (n R);have c1:=f.C wr 1 (.slice A p.effects[j].params.length q);have V:=f.C wr 2 (k:Vl);have Z:=f.C wr 3 (s:Vl);have c4:=f.C wr 4 (.slice B a cq);have W:=η ((X.alloc _).same (f.block (N+1) Φ Θ)))|(go_at_call 99;refine (cK c p _ p.effects[j].params _ (HC.to (ae t)) (FldsR.to bh (ae t))).mono ?_;rw[M.o];rintro e w2 ⟨rfl,l⟩;have B2:=η (bel t l);have f2:=belC l V;have f3:=belC l Z;have f4:=belC l c4;have aq:=η (F.below l F.lt);have bb:=η (W.below l W.lt))|(go_at_call 100;refine (dQ c p _ p.effects[j].answer _ (HC.to (ae B2)) (bw.to (ae B2))).mono ?_;rw[H3.o];rintro e w3 ⟨rfl,a2⟩));go_roundw
        case rel=>exact⟨j+1,_,ω,by go_num,E,bel B2 a2,aq.below a2 aq.lt,bb.below a2 bb.lt⟩
        case measure=>simp[intOf];omega
    have a3:Hid (cH p=(dF p [] p.funs&&iO p)):=by show _=_;rw[a4.o,H.o,gi hlt];rfl
    have V:=belC h cr;go_wp2_with fail;obtain⟨wx,rfl⟩:=γ wr
    go_loopw [102] (λi wr=>∃(j:Nat) (seen:List (List UInt8)),j<=p.funs/\i=.int .i64 j/\Hid (dF p [] p.funs=dF p seen (p.funs.drop j))/\seen<=j/\Hid (Below w w wr)/\Hid (SMap wr (N+1) seen (oneF seen))) (λi _=>p.funs.length-(intOf i).toNat)
    case atStart=>exact⟨0,[],ω,rfl,rfl,by simp,h,X⟩
    case round =>
     obtain⟨j,seen,hj,rfl,H,ax,h,L⟩:=hrel;have aj:N.heap.size+1<wr:=L.lt;by_cases hlt:j<p.funs
     ·obtain⟨g,a7,A,q,k,s,a,B,cq,o,x,m,r,ex,D,d,rfl,hg,p0,p1,p2,p3,p4,p5,p6,p7,p8,p9,bn,T,_,O,_⟩:=jd cp hlt;replace p0:=belC h p0;replace p1:=belC h p1;replace p2:=belC h p2;replace p3:=belC h p3;replace p4:=belC h p4;replace p5:=belC h p5;replace p6:=belC h p6;replace p7:=belC h p7;replace p8:=belC h p8;replace p9:=belC h p9;replace bn:=belC h bn;obtain⟨aa,I⟩:=zd2 T O;have U:seen<maxLen:=by unfold maxLen;omega
      have Y:=η U
      cases h0:bH p.funs[j].name with
      | true =>
       have ao:=η (funsD_e (p:=p) (seen:=seen) hlt h0);obtain⟨z1,z2,z3⟩:=se_t h0
       cases z:funP p p.funs[j] with
       | false =>
        have E:Hid (cH p=false):=by show _=_;rw[a3.o,H.o,ao.o,z];rfl
        have M:=η z;go_wp2_with (go_at_call 102;refine (oL c p _ p.funs[j] _ (HC.to (ae (belA h _))) (aa.to (ae (belA h _)))).mono ?_;rw[M.o];rintro e w2 ⟨rfl,l⟩);go_ret;exact⟨by rw[E.o];rfl,bel (belA h _) l⟩
       | true =>
        have E:Hid (dF p [] p.funs=dF p seen (p.funs.drop (j+1))):=by show _=_;rw[H.o,ao.o,z];rfl
        have M:=η z;go_wp2_with (go_at_call 102;refine (oL c p _ p.funs[j] _ (HC.to (ae (belA h _))) (aa.to (ae (belA h _)))).mono ?_;rw[M.o];rintro e w2 ⟨rfl,l⟩);go_roundw
        case rel=>exact⟨j+1,_,ω,by go_num,E,ω,bel (belA h _) l,(L.alloc _).below l (L.alloc _).lt⟩
        case measure=>simp[intOf];omega
      | false =>
       have ao:=η (funsD_n (p:=p) (seen:=seen) hlt h0);obtain⟨z1,z2,z3⟩:=se_f h0
       cases u:(!decide (p.funs[j].nm∈seen)&&aX p.funs[j].nm) with
       | false =>
        have E:Hid (cH p=false):=by show _=_;rw[a3.o,H.o,ao.o,u];rfl
        have G:=η u;go_wp2_with (go_at_call 94;refine (once_lower (N+1) seen p.funs[j].name seen _ (L.alloc _) Y I).mono ?_;rintro e w1 ⟨y,f,n⟩;rw[show (!decide (p.funs[j].name.data.toList∈seen)&&aX p.funs[j].name.data.toList)=false from G.o] at y;subst y;have t:=η (belG (belA h _) f ω));go_ret;exact⟨by rw[E.o];rfl,t⟩
       | true =>
        have R:=η (ja u)
        cases h3:oz p.funs[j].nm with
        | true =>
         have E:Hid (cH p=false):=by show _=_;rw[a3.o,H.o,ao.o,h3];simp
         obtain⟨G,H3⟩:=zd2 u h3
         go_wp2_with (first|(go_at_call 94;refine (once_lower (N+1) seen p.funs[j].name seen _ (L.alloc _) Y I).mono ?_;rintro e w1 ⟨y,f,n⟩;rw[show (!decide (p.funs[j].name.data.toList∈seen)&&aX p.funs[j].name.data.toList)=true from G.o] at y;subst y;have t:=η (belG (belA h _) f ω);have c0:=f.C wr 0 (.string p.funs[j].name))|(go_at_call 101;refine (ge _ _).mono ?_;rw[show oz p.funs[j].name.data.toList=_ from H3.o];rintro e w' ⟨rfl,rfl⟩));go_ret
         exact⟨by rw[E.o];rfl,t⟩
        | false =>
         cases z:funP p p.funs[j] with
         | false =>
          have E:Hid (cH p=false):=by show _=_;rw[a3.o,H.o,ao.o,z];simp
          obtain⟨G,M,H3⟩:=zd3 u z h3
          go_wp2_with (first|(go_at_call 94;refine (once_lower (N+1) seen p.funs[j].name seen _ (L.alloc _) Y I).mono ?_;rintro e w1 ⟨y,f,n⟩;rw[show (!decide (p.funs[j].name.data.toList∈seen)&&aX p.funs[j].name.data.toList)=true from G.o] at y;subst y;have t:=η (belG (belA h _) f ω);have c0:=f.C wr 0 (.string p.funs[j].name);have c1:=f.C wr 1 (.slice A p.funs[j].params.length q);have V:=f.C wr 2 (k:Vl);have Z:=f.C wr 3 (s:Vl);have c4:=f.C wr 4 (.slice B a cq);have c5:=f.C wr 5 (.int .i64 p.funs[j].slots);have c6:=f.C wr 6 (o:Vl);have c7:=f.C wr 7 (x:Vl);have c8:=f.C wr 8 (m:Vl);have c9:=f.C wr 9 (r:Vl);have bt:=f.C wr 10 (.slice D ex d))|(go_at_call 101;refine (ge _ _).mono ?_;rw[show oz p.funs[j].name.data.toList=_ from H3.o];rintro e w' ⟨rfl,rfl⟩)|(go_at_call 102;refine (oL c p _ p.funs[j] _ (HC.to (ae t)) (aa.to (ae t))).mono ?_;rw[M.o];rintro e w2 ⟨rfl,l⟩))
          go_ret;exact⟨by rw[E.o];rfl,bel t l⟩
         | true =>
          have E:Hid (dF p [] p.funs=dF p (p.funs[j].nm::seen) (p.funs.drop (j+1))):=by show _=_;rw[H.o,ao.o,u,z,h3];rfl
          obtain⟨G,M,H3⟩:=zd3 u z h3
          go_wp2_with (first|(go_at_call 94;refine (once_lower (N+1) seen p.funs[j].name seen _ (L.alloc _) Y I).mono ?_;rintro e w1 ⟨y,f,n⟩;rw[show (!decide (p.funs[j].name.data.toList∈seen)&&aX p.funs[j].name.data.toList)=true from G.o] at y;subst y;have t:=η (belG (belA h _) f ω);have F:=η (n R);have c0:=f.C wr 0 (.string p.funs[j].name);have c1:=f.C wr 1 (.slice A p.funs[j].params.length q);have V:=f.C wr 2 (k:Vl);have Z:=f.C wr 3 (s:Vl);have c4:=f.C wr 4 (.slice B a cq);have c5:=f.C wr 5 (.int .i64 p.funs[j].slots);have c6:=f.C wr 6 (o:Vl);have c7:=f.C wr 7 (x:Vl);have c8:=f.C wr 8 (m:Vl);have c9:=f.C wr 9 (r:Vl);have bt:=f.C wr 10 (.slice D ex d))|(go_at_call 101;refine (ge _ _).mono ?_;rw[show oz p.funs[j].name.data.toList=_ from H3.o];rintro e w' ⟨rfl,rfl⟩)|(go_at_call 102;refine (oL c p _ p.funs[j] _ (HC.to (ae t)) (aa.to (ae t))).mono ?_;rw[M.o];rintro e w2 ⟨rfl,l⟩))
          go_roundw
          case rel=>exact⟨j+1,_,ω,by go_num,E,by simp;omega,bel t l,F.below l F.lt⟩
          case measure=>simp[intOf];omega
     have bg:Hid (cH p=iO p):=by show _=_;rw[a3.o,H.o,wK hlt];rfl
     have c5:=belC h HC.c5;have Z:=belC h bv;have bp:=idx_main p.acNames wr c.ba c.na (HC.to (ae h)).ma;have bd:p.acNames.length=p.actors:=by simp[Pg.acNames]
     cases hix:idxP p.acNames [77,97,105,110] with
     | none =>
      have ef:idxF p.acNames p.acNames [77,97,105,110]=none:=by unfold idxF;rw[show cB p.acNames p.acNames [77,97,105,110]=none from hix];rfl
      rw[ef] at bp;have E:Hid (iO p=false):=by show iO _=_;unfold iO;rw[hix]
      go_wp2;go_ret;exact⟨by rw[bg.o,E.o];rfl,h⟩
     | some i =>
      have ef:idxF p.acNames p.acNames [77,97,105,110]=some (.int .i64 (i:Nat)):=by unfold idxF;rw[show cB p.acNames p.acNames [77,97,105,110]=some i from hix];rfl
      rw[ef] at bp;have bq:i<p.actors.length:=by have:=(cg _ _ _ _ hix).1;omega
      have E:Hid (iO p=decide (p.actors[i].params.length=0)):=by show iO _=_;unfold iO;rw[hix];simp only;rw[ξ bq]
      obtain⟨g,a7,A,q,B,cq,D,d,rfl,hg,p0,p1,p2,p3,p4,p5,p6,T,_,O,_⟩:=fR bx bq;replace p1:=belC h p1;have i1:(0:Int)<=i:=ω
      cases hpl:decide (p.actors[i].params.length=0)
      ·have l1:((p.actors[i].params.length:Int)==0)=false:=beq_eq_false_iff_ne.2 (by simp at hpl;simp;exact hpl);have HP:=η hpl;go_wp2;go_ret;exact⟨by rw[bg.o,E.o,HP.o];rfl,h⟩
      have l1:((p.actors[i].params.length:Int)==0)=true:=beq_iff_eq.2 (by simp at hpl;simp;exact hpl);have HP:=η hpl;go_wp2;go_ret;exact⟨by rw[bg.o,E.o,HP.o];rfl,h⟩
end
section
open Proofs.Tryz
open Go.RowKit
structure Sc where
 slots:Int
 bound:Int->Option Ty
 vars:List Vr
 actor:Int
def Sc.set (sc:Sc) (i:Int) (t:Ty):Sc:={ sc with bound:=λj=>if j=i then some t else sc.bound j }
def Sc.bindB (sc:Sc) (i:Int):Bool:=!((sc.bound i).isSome||decide (i<0)||decide (sc.slots<=i))
def Sc.bind (sc:Sc) (i:Int) (t:Ty):Option Sc:=if sc.bindB i then some (sc.set i t) else none
def nm0:Ê:=⟨#[]⟩
def bTy (k:Int):Ty:=.mk k nm0 []
def cN (s:Ê):Ty:=.mk 6 s []
def refT (s:Ê):Ty:=.mk 7 s []
def nC (t:Ty):Ty:=.mk 5 nm0 [t]
def Ty.args:Ty->List Ty|.mk _ _ a=>a
def Ty.name:Ty->Ê|.mk _ s _=>s
def Ex.kids:Ex->List Ex|.mk _ _ _ _ a=>a
def Ex.op:Ex->Int|.mk o _ _ _ _=>o
def Ex.n:Ex->Int|.mk _ n _ _ _=>n
def Ex.m:Ex->Int|.mk _ _ m _ _=>m
def Ex.s:Ex->Ê|.mk _ _ _ s _=>s
def recP (p:Pg) (t:Ty):Option (List Fld):=
 if t.kind=6 then
  match idxP p.tyNames t.name.data.toList with
  | none=>none
  | some i=>match p.types[i]? with
   | none=>none
   | some d=>if d.record then (match d.ctors with|[]=>none|c::_=>some c.fields) else none
 else none
def varP (p:Pg) (t:Ty):Option (List Ctr):=
 if t.kind=6 then
  match idxP p.tyNames t.name.data.toList with
  | none=>none
  | some i=>match p.types[i]? with
   | none=>none
   | some d=>if d.record then none else some d.ctors
 else none
abbrev EF:Type:=Sc->Ex->Option Ty->Option Ty
def isE (E:EF) (sc:Sc) (e:Ex) (t:Ty):Bool:=(E sc e (some t)).isSome
def bl (E:EF) (sc:Sc):List Ex->List Fld->Bool
 | [],[]=>true
 | e::es,f::fs=>isE E sc e f.type&&bl E sc es fs
 | _,_=>false
def ic (E:EF) (sc:Sc) (k:Int) (kids:List Ex):Bool:=kids.all λe=>isE E sc e (bTy k)
def gd (E:EF) (sc:Sc) (right:Ty->Bool):List Ex->Bool
 | [a,b]=>match E sc a none with
  | none=>false
  | some t=>right t&&isE E sc b t
 | _=>false
def fw (E:EF) (sc:Sc) (kids:List Ex) (want:Option Ty):Option Ty:=
 match want with
 | some (.mk k _ [u])=>if k=5 then (if kids.all (λe=>isE E sc e u) then some (nC u) else none) else none
 | some _=>none
 | none=>match kids with
  | []=>none
  | k0::ks=>match E sc k0 none with
   | none=>none
   | some t=>if ks.all (λe=>isE E sc e t) then some (nC t) else none
def fRec (p:Pg) (E:EF) (sc:Sc) (s:Ê) (kids:List Ex):Option Ty:=
 match recP p (cN s) with
 | none=>none
 | some fs=>if bl E sc kids fs then some (cN s) else none
def fGet (p:Pg) (E:EF) (sc:Sc) (x:Int):List Ex->Option Ty
 | [a]=>match E sc a none with
  | none=>none
  | some t=>match recP p t with
   | none=>none
   | some fs=>if az x fs then (fs[x.toNat]?).map (·.type) else none
 | _=>none
def gL (p:Pg) (E:EF) (sc:Sc) (x:Int) (want:Option Ty):List Ex->Option Ty
 | [a,b]=>match E sc a want with
  | none=>none
  | some t=>match recP p t with
   | none=>none
   | some fs=>if az x fs then (match fs[x.toNat]? with|none=>none|some f=>if isE E sc b f.type then some t else none) else none
 | _=>none
def jx (p:Pg) (E:EF) (sc:Sc) (x:Int) (s:Ê) (kids:List Ex):Option Ty:=
 match varP p (cN s) with
 | none=>none
 | some cs=>if az x cs then (match cs[x.toNat]? with|none=>none|some c=>if bl E sc kids c.fields then some (cN s) else none) else none
def fIf (E:EF) (sc:Sc) (want:Option Ty):List Ex->Option Ty
 | [a,b,c]=>if isE E sc a (bTy 2) then (match E sc b want with|none=>none|some t=>if isE E sc c t then some t else none) else none
 | _=>none
def fLet (E:EF) (sc:Sc) (x:Int) (want:Option Ty):List Ex->Option Ty
 | [a,b]=>match E sc a none with
  | none=>none
  | some t=>match sc.bind x t with
   | none=>none
   | some sc'=>E sc' b want
 | _=>none
def bindAll (sc:Sc):Int->List Fld->Option Sc
 | _,[]=>some sc
 | m,f::fs=>match sc.bind m f.type with
  | none=>none
  | some sc'=>bindAll sc' (m+1) fs
def bz {σ:Type} (sc:Sc) (ctors:List Ctr) (body:σ->Nat->Sc->Option σ):Nat->List Int->σ->List (Int×Int)->Option σ
 | _,seen,st,[]=>if decide (-1∈seen)||decide (seen.length=ctors) then some st else none
 | i,seen,st,(n,m)::rest =>
  if (decide (n≠-1)&&!az n ctors)||decide (m<0)||decide (sc.slots<m)||decide (-1∈seen)||decide (n∈seen) then none
  else match bindAll sc m (if n=-1 then [] else (match ctors[n.toNat]? with|none=>[]|some c=>c.fields)) with
   | none=>none
   | some sc'=>match body st i sc' with
    | none=>none
    | some st'=>bz sc ctors body (i+1) (n::seen) st' rest
def bX {σ:Type} (p:Pg) (sc:Sc) (t:Ty) (body:σ->Nat->Sc->Option σ) (st:σ) (arms:List (Int×Int)):Option σ:=
 match varP p t with
 | none=>none
 | some cs=>if arms.length=0 then none else bz sc cs body 0 [] st arms
def fy (a:Ex):Bool:=decide (a.op=14)&&(bH a.s&&decide (a.kids.length=1))
def cE (E:EF) (want:Option Ty) (arms:List Ex) (st:Ty) (i:Nat) (sc:Sc):Option Ty:=
 match arms[i]? with
 | none=>none
 | some a=>match a.kids with
  | [k]=>if i=0 then E sc k want else if isE E sc k st then some st else none
  | _=>none
def dX (p:Pg) (E:EF) (sc:Sc) (want:Option Ty):List Ex->Option Ty
 | []=>none
 | k0::arms=>match E sc k0 none with
  | none=>none
  | some t=>if arms.all fy then bX p sc t (cE E want arms) (bTy 0) (arms.map λa=>(a.n,a.m)) else none
def fCat (E:EF) (sc:Sc) (want:Option Ty):List Ex->Option Ty
 | [a,b]=>match E sc a want with
  | none=>none
  | some t=>if ju t&&isE E sc b t then some t else none
 | _=>none
def jI (p:Pg) (E:EF) (sc:Sc) (x:Int) (kids:List Ex):Option Ty:=
 if az x p.funs then (match p.funs[x.toNat]? with|none=>none|some f=>if bl E sc kids f.params then some f.result else none) else none
def fFun (p:Pg) (E:EF) (sc:Sc) (x:Int) (kids:List Ex):Option Ty:=
 if az x p.funs then (match p.funs[x.toNat]? with
  | none=>none
  | some f=>if kids.length<=f.params.length then (if bl E sc kids (f.params.take kids) then some (.mk 8 nm0 ((f.params.drop kids).map (·.type)++[f.result])) else none) else none) else none
def aR (E:EF) (sc:Sc):List Ex->List Ty->Bool
 | [],_=>true
 | e::es,t::ts=>isE E sc e t&&aR E sc es ts
 | _,_=>false
def dY (E:EF) (sc:Sc):List Ex->Option Ty
 | []=>none
 | k0::ks=>match E sc k0 none with
  | none=>none
  | some t=>if t.kind=8/\t.args.length=ks.length+1 then (if aR E sc ks t.args then t.args.getLast? else none) else none
def aY (E:EF) (sc:Sc) (x:Int) (want:Option Ty) (k0:Ex):Option Ty:=
 if x=1\/x=2\/x=3\/x=4 then
  match E sc k0 (match want with|none=>none|some u=>if u.kind=5/\(x=3\/x=4) then some u else none) with
  | none=>none
  | some t=>if t.kind=5 then some t else none
 else if x=5\/x=6 then E sc k0 (some (bTy 4))
 else if x=7 then E sc k0 (some (bTy 3))
 else none
def bi (x:Int) (first:Ty):Option (List Ty×Ty):=
 if x=1\/x=5 then some ([],bTy 3)
 else if x=2 then (first.args[0]?).map λa=>([bTy 3],a)
 else if x=3 then (first.args[0]?).map λa=>([bTy 3,a],first)
 else if x=4\/x=6 then some ([bTy 3,bTy 3],first)
 else if x=7 then some ([],bTy 4)
 else none
def aP (E:EF) (sc:Sc) (x:Int) (want:Option Ty):List Ex->Option Ty
 | []=>none
 | k0::ks=>match aY E sc x want k0 with
  | none=>none
  | some t=>match bi x t with
   | none=>none
   | some (others,r)=>if others.length=ks.length then (if aR E sc ks others then some r else none) else none
def bK (op:Int):Option (Int×Bool×Bool):=
 if op=1 then some (0,false,false) else if op=2 then some (0,true,false) else if op=3 then some (0,true,false) else if op=4 then some (0,false,true)
 else if op=5 then some (0,true,false) else if op=6 then some (0,true,false) else if op=7 then some (0,false,false)
 else if op=8 then some (-1,false,false) else if op=9 then some (-1,false,true) else if op=10 then some (1,true,false) else if op=11 then some (2,true,false) else if op=12 then some (-1,true,true)
 else if op=13 then some (-1,false,false) else if op=15 then some (3,false,false) else if op=16 then some (2,false,false) else if op=17 then some (2,false,false) else if op=18 then some (1,false,false) else if op=19 then some (1,false,false)
 else if op=20 then some (2,false,false) else if op=21 then some (2,false,false) else if op=22 then some (2,false,false) else if op=23 then some (2,false,false) else if op=24 then some (2,false,false) else if op=25 then some (2,false,false)
 else if op=26 then some (2,false,false) else if op=27 then some (2,false,false) else if op=28 then some (2,false,false) else if op=29 then some (2,false,false) else if op=30 then some (2,false,false) else if op=31 then some (2,false,false)
 else if op=32 then some (2,true,false) else if op=33 then some (-1,true,false) else if op=34 then some (-1,true,false) else if op=35 then some (-1,false,false) else if op=36 then some (-1,true,false)
 else none
def iL (p:Pg) (sc:Sc):Option Ty:=if sc.actor<0 then none else (p.actors[sc.actor.toNat]?).map λa=>refT a.name
def fixT (k:Int) (b:Bool):Option Ty:=if b then some (bTy k) else none
def bP (p:Pg) (E:EF) (sc:Sc) (op x:Int) (s:Ê) (kids:List Ex) (want:Option Ty):Option Ty:=
 if op=1 then fixT 1 true
 else if op=2 then fixT 2 (decide (x=0)||decide (x=1))
 else if op=3 then fixT 3 (decide (-9007199254740992<=x)&&decide (x<=9007199254740992))
 else if op=4 then fixT 4 (decide (s.size<=4096))
 else if op=5 then sc.bound x
 else if op=6 then (if az x sc.vars then (sc.vars[x.toNat]?).map (·.type) else none)
 else if op=7 then iL p sc
 else if op=8 then fw E sc kids want
 else if op=9 then fRec p E sc s kids
 else if op=10 then fGet p E sc x kids
 else if op=11 then gL p E sc x want kids
 else if op=12 then jx p E sc x s kids
 else if op=13 then dX p E sc want kids
 else if op=15 then fIf E sc want kids
 else if op=16\/op=17\/op=18 then fixT 2 (ic E sc 2 kids)
 else if op=19\/op=20\/op=21\/op=22\/op=23\/op=24 then fixT 3 (ic E sc 3 kids)
 else if op=25 then fCat E sc want kids
 else if op=26\/op=27 then fixT 2 (gd E sc dB kids)
 else if op=28\/op=29\/op=30\/op=31 then fixT 2 (gd E sc cX kids)
 else if op=32 then fLet E sc x want kids
 else if op=33 then jI p E sc x kids
 else if op=34 then fFun p E sc x kids
 else if op=35 then dY E sc kids
 else if op=36 then aP E sc x want kids
 else none
mutual
def bO:Ty->Ty->Bool
 | .mk k s a,.mk k' s' a'=>k==k'&&(s.toList==s'.toList&&cP a a')
def cP:List Ty->List Ty->Bool
 | [],[]=>true
 | x::xs,y::ys=>bO x y&&cP xs ys
 | _,_=>false
end
def bj (k x m:Int) (s:Ê) (len:Nat) (nb sb:Bool):Bool:=
 !(decide (k≠-1)&&decide ((len:Int)≠k))&&!((decide (x≠0)&&!nb)||decide (m≠0)||(!bH s&&!sb))
def l9 (t:Ty):Option Ty->Bool
 | none=>true
 | some u=>bO t u
def aa (p:Pg):Nat->EF
 | 0,_,_,_=>none
 | n+1,sc,.mk op x m s kids,want =>
  match bK op with
  | none=>none
  | some (k,nb,sb) =>
   if bj k x m s kids nb sb then
    match bP p (aa p n) sc op x s kids want with
    | none=>none
    | some t=>if l9 t want then some t else none
   else none
set_option maxRecDepth 100000
set_option maxHeartbeats 2000000
open Go.Maps Go.WideMaps Go.ChangeMaps
abbrev IMap (w:À) (b n:Nat) (f:Int->Option Value):Prop:=MapIs prog 3 (Lit.int .i64) w b n f
variable {w':À}
def sof {own:Nat->Prop} {w:À} (h:Below w w w'):Stp own w w':=Stp.of_below h
def Stp.subO {own:Nat->Prop} {mb:Nat} {w:À} (h:Stp (only mb) w w') (ho:own mb):Sub (im own w) (im own w') w w':=λb hb=>⟨⟨ρ hb.1 h.size,hb.2⟩,h.block b hb.1 (λe=>hb.2 (by unfold only at e;subst e;exact ho))⟩
def MapW (w:À) (mb:Nat):Prop:=∃n f,IMap w mb n f
structure Stm (mb:Nat) (w w':À):Prop where
 s:Stp (only mb) w w'
 m:MapW w mb->MapW w' mb
def Stm.refl (mb:Nat) (w:À):Stm mb w w:=⟨Stp.refl _ _,id⟩
variable {a:À}
def Stm.trans {mb:Nat} {b c:À} (h:Stm mb a b) (k:Stm mb b c):Stm mb a c:=⟨h.s.trans k.s,λx=>k.m (h.m x)⟩
def Stm.of_below {mb:Nat} {w:À} (h:Below w w w'):Stm mb w w':=⟨Stp.of_below h,λ⟨n,f,x⟩=>⟨n,f,x.below h x.lt⟩⟩
def Stm.size {mb:Nat} {w:À} (h:Stm mb w w'):w.heap.size<=w':=h.s.size
def Stm.subO {own:Nat->Prop} {mb:Nat} {w:À} (h:Stm mb w w') (ho:own mb):Sub (im own w) (im own w') w w':=h.s.subO ho
def smA {mb:Nat} {w:À} (h:Stm mb w a) (o:Obj):Stm mb w (a.alloc o):=h.trans (Stm.of_below (belA (belR a) o))
def smO {mb:Nat} {w:À} (h:Stm mb w a) (k:a.grownBy w' (some mb)) (hm:MapW w' mb):Stm mb w w':=⟨stpO h.s k,λ_=>hm⟩
def ValR (w:À) (Q:Nat->Prop):Option Value->Option Ty->Prop
 | none,none=>True
 | some v,some t=>∃k s A n cap,v=.agg #[.int .i64 k,.string s,.slice A n cap]/\TyR w Q [.int .i64 k,.string s,.slice A n cap] t
 | _,_=>False
variable {Q Q':Nat->Prop}
def ValR.to {w:À} {o:Option Value} {t:Option Ty} (h:ValR w Q o t) (hb:Sub Q Q' w w'):ValR w' Q' o t:=by
 match o,t,h with
 | none,none,_=>trivial
 | some _,some _,⟨k,s,A,n,cap,e,hr⟩=>exact⟨k,s,A,n,cap,e,hr.to hb⟩
structure ScR (w:À) (own:Nat->Prop) (mb sb:Nat) (sc:Sc) (n:Nat) (f:Int->Option Value) (va:Value) (ks:List Int):Prop where
 om:own mb
 isb:im own w sb
 c0:w.cell? sb=some (sc.slots:Vl)
 c1:w.cell? ⟨sb,1,none⟩=some (.map (some mb))
 c2:w.cell? ⟨sb,2,none⟩=some va
 c3:w.cell? ⟨sb,3,none⟩=some (sc.actor:Vl)
 vars:VrsR w (im own w) va sc.vars
 map:IMap w mb n f
 val:∀i,ValR w (im own w) (f i) (sc.bound i)
 nd:ks.Nodup
 kl:ks=n
 km:∀i,i∈ks↔(sc.bound i).isSome
 ki:∀i∈ks,0<=i/\i<sc.slots
 sl:sc.slots<=32768
 ac:i64 sc.actor
def ScS (w:À) (own:Nat->Prop) (mb sb:Nat) (sc:Sc):Prop:=∃n f va ks,ScR w own mb sb sc n f va ks
def lZ (N:Nat):∀ks:List Int,ks.Nodup->(∀i∈ks,0<=i/\i<(N:Int))->ks<=N:=by
 induction N with
 | zero=>intro ks _ h;match ks,h with
  | [],_=>simp
  | x::_,h=>have:=h x Θ;omega
 | succ N ih =>
  intro ks b h
  have c:=ih (ks.erase (N:Int)) (b.erase _) (λi hi=>by
   have a:=List.mem_of_mem_erase hi;have:=h i a;have d:i≠(N:Int):=λe=>by subst e;exact (b.not_mem_erase) hi
   omega)
  by_cases a:(N:Int)∈ks
  ·have:=List.length_erase_of_mem a;omega
  rw[List.erase_of_not_mem a] at c;omega
variable {sb:Nat} {sc:Sc} {va:Value} {ks:List Int}
def ScR.n_le {w:À} {own:Nat->Prop} {mb n:Nat} {f:Int->Option Value} (h:ScR w own mb sb sc n f va ks):n<=32768:=by
 have:=lZ sc.slots.toNat ks h.nd (λi hi=>by have:=h.ki i hi;omega);have b:=h.kl;have a:=h.sl;omega
def ScR.below {w:À} {own:Nat->Prop} {mb n:Nat} {f:Int->Option Value} (h:ScR w own mb sb sc n f va ks) (hb:Below w w w'):ScR w' own mb sb sc n f va ks:=
 have S:Sub (im own w) (im own w') w w':=(sof hb).sub
 ⟨h.om,(S _ h.isb).1,au h.c0 S h.isb,au h.c1 S h.isb,au h.c2 S h.isb,au h.c3 S h.isb,VrsR.to h.vars S,h.map.below hb h.map.lt,λi=>(h.val i).to S,h.nd,h.kl,h.km,h.ki,h.sl,h.ac⟩
def ScS.below {w:À} {own:Nat->Prop} {mb:Nat} (h:ScS w own mb sb sc) (hb:Below w w w'):ScS w' own mb sb sc:=by
 obtain⟨n,f,a,b,h⟩:=h;exact⟨n,f,a,b,h.below hb⟩
def Sc.unset (sc:Sc) (i:Int):Sc:={ sc with bound:=λj=>if j=i then none else sc.bound j }
variable {i:Int} {A:Option Addr} {t:Ty}
def ScR.put {w:À} {own:Nat->Prop} {mb n m:Nat} {f:Int->Option Value} {k:Int} {s:Ê} {cap:Nat} (h:ScR w own mb sb sc n f va ks) (hr:TyR w (im own w) [.int .i64 k,.string s,.slice A m cap] t) (hb:sc.bindB i=true) (hg:w.grownBy w' (some mb)) (hm:IMap w' mb (if (f i).isSome then n else n+1) (upd f i (some (.agg #[k,s,.slice A m cap])))):
 ScR w' own mb sb (sc.set i t) (n+1) (upd f i (some (.agg #[k,s,.slice A m cap]))) va (i::ks):=by
 have d:Stp (only mb) w w':=stpO (Stp.refl _ _) hg;have S:=d.subO h.om;simp only[Sc.bindB,Bool.not_eq_true',Bool.or_eq_false_iff,decide_eq_false_iff_not] at hb;obtain⟨⟨b,l⟩,g⟩:=hb;have a:sc.bound i=none:=by cases hx:sc.bound i with|none=>rfl|some _=>rw[hx] at b;cases b
 have c:f i=none:=by
  have:=h.val i;rw[a] at this
  cases hx:f i with
  | none=>rfl
  | some _=>rw[hx] at this;exact this.elim
 rw[c] at hm;refine⟨h.om,(S _ h.isb).1,au h.c0 S h.isb,au h.c1 S h.isb,au h.c2 S h.isb,au h.c3 S h.isb,VrsR.to h.vars S,hm,λj=>?_,?_,?_,λj=>?_,λj hj=>?_,h.sl,h.ac⟩
 ·unfold upd Sc.set;by_cases e:j=i
  ·simp only[if_pos e];exact⟨k,s,A,m,cap,rfl,hr.to S⟩
  simp only[if_neg e];exact (h.val j).to S
 ·exact List.nodup_cons.2 ⟨(λhi=>by rw[h.km i,a] at hi;cases hi),h.nd⟩
 ·rw[δ,h.kl]
 ·unfold Sc.set;by_cases e:j=i
  ·simp[e]
  simp only[List.mem_cons,e,false_or,if_false];exact h.km j
 rcases List.mem_cons.1 hj with rfl|hj
 ·exact⟨ω,by show j<sc.slots;omega⟩
 exact h.ki j hj
def ScR.drop {w:À} {own:Nat->Prop} {mb n n':Nat} {f:Int->Option Value} (h:ScR w own mb sb sc n f va ks) (hg:w.grownBy w' (some mb)) (hn:n'+(if (f i).isSome then 1 else 0)=n) (hm:IMap w' mb n' (upd f i none)):
 ScR w' own mb sb (sc.unset i) n' (upd f i none) va (ks.erase i):=by
 have g:Stp (only mb) w w':=stpO (Stp.refl _ _) hg;have S:=g.subO h.om;refine⟨h.om,(S _ h.isb).1,au h.c0 S h.isb,au h.c1 S h.isb,au h.c2 S h.isb,au h.c3 S h.isb,VrsR.to h.vars S,hm,λj=>?_,h.nd.erase _,?_,λj=>?_,λj hj=>h.ki j (List.mem_of_mem_erase hj),h.sl,h.ac⟩
 ·unfold upd Sc.unset;by_cases e:j=i
  ·simp only[if_pos e];trivial
  simp only[if_neg e];exact (h.val j).to S
 ·have a:=h.val i;have c:=h.km i;have k:=h.kl;by_cases b:i∈ks
  ·rw[List.length_erase_of_mem b];have d:=c.1 b
   have:(f i).isSome=true:=by
    cases hx:f i with
    | some _=>rfl
    | none=>rw[hx] at a;cases hy:sc.bound i with|none=>rw[hy] at d;cases d|some _=>rw[hy] at a;exact a.elim
   rw[this] at hn;simp at hn;omega
  rw[List.erase_of_not_mem b]
  have:(f i).isSome=false:=by
   cases hx:f i with
   | none=>rfl
   | some _=>rw[hx] at a;cases hy:sc.bound i with|none=>rw[hy] at a;exact a.elim|some _=>exact absurd (c.2 (by rw[hy];rfl)) b
  rw[this] at hn;simp at hn;omega
 unfold Sc.unset;by_cases e:j=i
 ·subst e;simp[h.nd.not_mem_erase]
 simp only[e,if_false];rw[List.mem_erase_of_ne e];exact h.km j
def mI (h:sc.bindB i=true):(sc.set i t).unset i=sc:=by
 simp only[Sc.bindB,Bool.not_eq_true',Bool.or_eq_false_iff] at h;have f:sc.bound i=none:=by cases hx:sc.bound i with|none=>rfl|some _=>rw[hx] at h;simp at h
 unfold Sc.set Sc.unset
 cases sc with
 | mk a b c d =>
  simp only[Sc.mk.injEq,true_and,and_true];funext j;by_cases e:j=i
  ·subst e;simp;exact f.symm
  simp[e]
def zeroTy (w:À):(zeroValue 40).run prog w=.ok (.agg #[(0:Int),"",()]) w:=by kernel_rfl
def np {w:À} {b n:Nat} {f:Int->Option Value} (h:IMap w b n f) (hi:i64 i):(Instr.lookup 176 (.map (some b)) (i:Vl) true).run prog w=.ok (.tuple #[(f i).getD (.agg #[(0:Int),"",()]),.bool (f i).isSome]) w:=
 MapIs.lookOk h (bh underlying3) underlying176 (zeroTy w) (aw underlying3 hi)
def ScR.is {w:À} {own:Nat->Prop} {mb n:Nat} {f:Int->Option Value} (h:ScR w own mb sb sc n f va ks) (i:Int):(f i).isSome=(sc.bound i).isSome:=by
 have:=h.val i
 cases hx:f i<;>cases hy:sc.bound i<;>rw[hx,hy] at this<;>first|rfl|exact this.elim
def BindSaid (w:À) (own:Nat->Prop) (mb sb:Nat) (sc:Sc) (i:Int) (t:Ty) (e:Ending) (w':À):Prop:=
 e=.returned (.bool (sc.bindB i))/\Stm mb w w'/\(sc.bindB i=true->ScS w' own mb sb (sc.set i t))/\(sc.bindB i=false->ScS w' own mb sb sc)
def da (own:Nat->Prop) (mb sb:Nat) (sc:Sc) (i:Int) (cs:List Value) (t:Ty) (w:À) (hs:ScS w own mb sb sc) (hi:i64 i) (hr:TyR w (im own w) cs t):Calls prog 178 #[sb,i,cs.toArray] w (BindSaid w own mb sb sc i t):=by
 obtain⟨n,f,va,ks,hs⟩:=hs;obtain⟨k,s,a,A,cap,rfl,J,_,U,M⟩:=ap hr;have z:sc.bindB i=!((f i).isSome||decide (i<0)||decide (sc.slots<=i)):=by rw[hs.is];rfl
 have V:sb<w:=hs.isb.1;have O:=hs.c0;have L:=hs.c1;obtain⟨F,b⟩:=γ (.cells #[k,s,.slice A a cap] 40:Obj)
 have d:=np (hs.map.alloc F) hi;obtain⟨T,x,R,j⟩:=zd4 hi hs hr z
 cases hf:f i with
 | some v =>
  have p:=hs.val i;rw[hf] at p;rw[hf] at d
  cases hy:sc.bound i with
  | none=>rw[hy] at p;exact p.elim
  | some t' =>
   rw[hy] at p;obtain⟨k',s',A',n',N,rfl,G⟩:=p;have c:Hid (sc.bindB i=false):=by show _=_;rw[j.o,hf];rfl
   rw[b] at d;go_in;go_wp2;go_ret;exact⟨by rw[c.o];rfl,smA (smA (Stm.refl _ _) _) _,λh=>by (rw[c.o] at h;cases h),λ_=>⟨_,_,_,_,x.below ζ2⟩⟩
 | none =>
  rw[hf] at d;by_cases q:i<0
  ·have E:decide (i<0)=true:=decide_eq_true q;have c:Hid (sc.bindB i=false):=by show _=_;rw[j.o,E];simp
   rw[b] at d;go_in;go_wp2;go_ret;exact⟨by rw[c.o];rfl,smA (smA (Stm.refl _ _) _) _,λh=>by (rw[c.o] at h;cases h),λ_=>⟨_,_,_,_,x.below ζ2⟩⟩
  have E:decide (i<0)=false:=decide_eq_false q;by_cases u:sc.slots<=i
  ·have D:decide (sc.slots<=i)=true:=decide_eq_true u;have c:Hid (sc.bindB i=false):=by show _=_;rw[j.o,D];simp
   rw[b] at d;go_in;go_wp2;go_ret;exact⟨by rw[c.o];rfl,smA (smA (Stm.refl _ _) _) _,λh=>by (rw[c.o] at h;cases h),λ_=>⟨_,_,_,_,x.below ζ2⟩⟩
  have D:decide (sc.slots<=i)=false:=decide_eq_false u;have c:Hid (sc.bindB i=true):=by show _=_;rw[j.o,E,D,hf];rfl
  rw[b] at d;go_in;go_wp2_with fail;refine wp_region_still_tail 6 Δ Δ ?_;obtain⟨l,g⟩:=γ (((w.alloc (.cells #[k,s,.slice A a cap] 40)).alloc (.cells #[(0:Int),"",()] 40)).drew)
  have y:Below w w l:=by rw[g];exact ζ2.drew
  have d1:=belC y L;have J:l.cell? w=some (k:Vl):=by rw[g];simp
  have e1:l.cell? ⟨w,1,none⟩=some (s:Vl):=by rw[g];simp
  have e2:l.cell? ⟨w,2,none⟩=some (.slice A a cap):=by rw[g];simp
  change wpStill _ _ (World.drew _) (λa'=>wpList _ _ _ _ a' (World.drew _)) _ _;rw[<-g];obtain⟨B,r⟩:=zd2 y (x.below y);simp only[List.take_succ_cons,List.take_zero,List.drop_succ_cons,List.drop_zero];repeat still_step
  refine wpStill_nil ?_;go_wp2_with (refine ak _ rfl _ _ _ 176 (.inl rfl) 40 (bh underlying3) underlying176 mb n f rfl r.map (by have:=r.n_le;unfold maxLen;omega) i (i:Vl) (.agg #[k,s,.slice A a cap]) rfl rfl (aw underlying3 T) ?_;intro Z I H);go_ret;exact⟨by rw[c.o];rfl,smO (Stm.of_below B) H ⟨_,_,I⟩,λ_=>⟨_,_,_,_,r.put (R.to (sof B).sub) c H I⟩,λh=>by rw[c.o] at h;cases h⟩
def FreeSaid (w:À) (own:Nat->Prop) (mb sb:Nat) (sc:Sc) (i:Int) (e:Ending) (w':À):Prop:=
 e=.returned (.tuple #[])/\Stm mb w w'/\ScS w' own mb sb (sc.unset i)
def jS (own:Nat->Prop) (mb sb:Nat) (sc:Sc) (i:Int) (w:À) (hs:ScS w own mb sb sc) (hi:i64 i):Calls prog 144 #[sb,i] w (FreeSaid w own mb sb sc i):=by
 obtain⟨n,f,h,k,hs⟩:=hs;have l:=hs.c1;obtain⟨e,c⟩:=zd2 hi hs;go_in;go_wp2_with (refine jL _ rfl _ _ 176 rfl 40 (bh underlying3) underlying176 mb n f rfl c.map i (i:Vl) rfl (aw underlying3 e) ?_;intro g j d b a);exact bodyPost_ret (v:=.tuple #[]) (by simp[results,results144,go_sem]) rfl ⟨rfl,smO (Stm.refl _ _) a ⟨_,_,b⟩,⟨_,_,_,_,c.drop a d b⟩⟩
mutual
def Ex.deep:Ex->Nat
 | .mk _ _ _ _ a=>Ex.deeps a+1
def Ex.deeps:List Ex->Nat
 | []=>0
 | x::xs=>Ex.deep x+Ex.deeps xs
end
def fY (l:List Ex):∀x∈l,Ex.deep x<=Ex.deeps l:=by
 induction l with
 | nil=>intro x h;cases h
 | cons y l ih =>
  intro x h;rw[Ex.deeps];rcases List.mem_cons.1 h with rfl|h
  ·omega
  have:=ih x h;omega
def ex_kid {op x m:Int} {s:Ê} {kids:List Ex} {n:Nat} (h:Ex.deep (.mk op x m s kids)<=n+1):∀k∈kids,Ex.deep k<=n:=λk hk=>by
 rw[Ex.deep] at h
 have:=fY kids k hk
 omega
def qM (l:List Ex):l<=Ex.deeps l:=by
 induction l with
 | nil=>simp
 | cons y l ih =>
  rw[Ex.deeps,δ]
  cases y with
  | mk a b c d e=>rw[Ex.deep];omega
def ex_len {op x m:Int} {s:Ê} {kids:List Ex} {n:Nat} (h:Ex.deep (.mk op x m s kids)<=n+1):kids<=n:=by
 rw[Ex.deep] at h;have:=qM kids;omega
def WantR (w:À) (Q:Nat->Prop) (v:Value):Option Ty->Prop
 | none=>v=.pointer none
 | some u=>∃g off k s A n cap,v=.pointer (some ⟨g,off,none⟩)/\Q g/\w.cell? ⟨g,off,none⟩=some (.int .i64 k)/\w.cell? ⟨g,off+1,none⟩=some (.string s)/\w.cell? ⟨g,off+2,none⟩=some (.slice A n cap)/\TyR w Q [.int .i64 k,.string s,.slice A n cap] u
variable {v:Value}
def WantR.to {w:À} {o:Option Ty} (h:WantR w Q v o) (hb:Sub Q Q' w w'):WantR w' Q' v o:=by
 match o,h with
 | none,h=>exact h
 | some _,⟨g,off,k,s,A,n,cap,e,hg,h0,h1,h2,hr⟩=>exact⟨g,off,k,s,A,n,cap,e,(hb g hg).1,au h0 hb hg,au h1 hb hg,au h2 hb hg,hr.to hb⟩
def CapR (w:À) (Q:Nat->Prop) (c:CB) (f:FuncId) (fv:Value):Prop:=∃g,fv=.func (.func f) #[] #[.pointer (some ⟨g,0,none⟩)]/\Q g/\w.cell? ⟨g,0,none⟩=some (c.b:Vl)
def BndR (c:CB) (f:FuncId) (fv:Value):Prop:=fv=.func (.func f) #[c.b] #[]
def KidsR (w:À) (Q:Nat->Prop) (c:CB) (k:Int) (fv:Value):Prop:=∃g h,fv=.func (.func 200) #[] #[.pointer (some ⟨g,0,none⟩),.pointer (some ⟨h,0,none⟩)]/\Q g/\Q h/\w.cell? ⟨g,0,none⟩=some (c.b:Vl)/\w.cell? ⟨h,0,none⟩=some (k:Vl)
def PairR (w:À) (Q:Nat->Prop) (c:CB) (f:FuncId) (fv:Value):Prop:=∃g h,fv=.func (.func 201) #[] #[.pointer (some ⟨g,0,none⟩),.pointer (some ⟨h,0,none⟩)]/\Q g/\Q h/\w.cell? ⟨g,0,none⟩=some (c.b:Vl)/\w.cell? ⟨h,0,none⟩=some (.func (.func f) #[] #[])
def FixR (w:À) (Q:Nat->Prop) (k:Int) (right:Value->Prop) (fv:Value):Prop:=∃g h r,fv=.func (.func 197) #[] #[.pointer (some ⟨g,0,none⟩),.pointer (some ⟨h,0,none⟩)]/\Q g/\Q h/\w.cell? ⟨g,0,none⟩=some (k:Vl)/\w.cell? ⟨h,0,none⟩=some r/\right r
def CapR.to {w:À} {c:CB} {f:FuncId} (h:CapR w Q c f v) (hb:Sub Q Q' w w'):CapR w' Q' c f v:=by
 obtain⟨g,e,a,b⟩:=h;exact⟨g,e,(hb g a).1,au b hb a⟩
def KidsR.to {w:À} {c:CB} {f:Int} (h:KidsR w Q c f v) (hb:Sub Q Q' w w'):KidsR w' Q' c f v:=by
 obtain⟨g,h,e,b,a,i,d⟩:=h;exact⟨g,h,e,(hb g b).1,(hb h a).1,au i hb b,au d hb a⟩
def PairR.to {w:À} {c:CB} {f:FuncId} (h:PairR w Q c f v) (hb:Sub Q Q' w w'):PairR w' Q' c f v:=by
 obtain⟨g,h,e,b,a,i,d⟩:=h;exact⟨g,h,e,(hb g b).1,(hb h a).1,au i hb b,au d hb a⟩
def FixR.to {w:À} {k:Int} {r r':Value->Prop} (h:FixR w Q k r v) (hb:Sub Q Q' w w') (hr:∀x,r x->r' x):FixR w' Q' k r' v:=by
 obtain⟨g,h,x,e,b,a,i,f,d⟩:=h;exact⟨g,h,x,e,(hb g b).1,(hb h a).1,au i hb b,au f hb a,hr x d⟩
def CloR (w:À) (Q:Nat->Prop) (c:CB) (op:Int) (fv:Value):Prop:=
 if op=1 then FixR w Q 1 (λr=>r=.func (.func 156) #[] #[]) fv
 else if op=2 then FixR w Q 2 (λr=>r=.func (.func 157) #[] #[]) fv
 else if op=3 then FixR w Q 3 (λr=>r=.func (.func 158) #[] #[]) fv
 else if op=4 then FixR w Q 4 (λr=>r=.func (.func 159) #[] #[]) fv
 else if op=5 then fv=.func (.func 160) #[] #[]
 else if op=6 then fv=.func (.func 161) #[] #[]
 else if op=7 then CapR w Q c 163 fv
 else if op=8 then BndR c 164 fv
 else if op=9 then CapR w Q c 165 fv
 else if op=10 then CapR w Q c 169 fv
 else if op=11 then CapR w Q c 171 fv
 else if op=12 then CapR w Q c 172 fv
 else if op=13 then BndR c 174 fv
 else if op=15 then CapR w Q c 175 fv
 else if op=16\/op=17\/op=18 then FixR w Q 2 (KidsR w Q c 2) fv
 else if op=19\/op=20\/op=21\/op=22\/op=23\/op=24 then FixR w Q 3 (KidsR w Q c 3) fv
 else if op=25 then CapR w Q c 182 fv
 else if op=26\/op=27 then FixR w Q 2 (PairR w Q c 139) fv
 else if op=28\/op=29\/op=30\/op=31 then FixR w Q 2 (PairR w Q c 181) fv
 else if op=32 then CapR w Q c 177 fv
 else if op=33 then CapR w Q c 184 fv
 else if op=34 then CapR w Q c 185 fv
 else if op=35 then CapR w Q c 186 fv
 else if op=36 then BndR c 187 fv
 else False
def ite_to {c:Prop} [Decidable c] {A B A' B':Prop} (h:if c then A else B) (ha:A->A') (hb:B->B'):if c then A' else B':=by
 by_cases e:c
 ·rw[if_pos e] at h ⊢;exact ha h
 rw[if_neg e] at h ⊢;exact hb h
def CloR.to {w:À} {c:CB} {op:Int} (h:CloR w Q c op v) (hb:Sub Q Q' w w'):CloR w' Q' c op v:=by
 unfold CloR at h ⊢;repeat (refine ite_to h (λh=>by first|exact h.to hb (λ_ x=>x)|exact h.to hb (λ_ x=>x.to hb)|exact h.to hb|exact h) (λh=>?_))
 exact h
def RuleR (w:À) (Q:Nat->Prop) (c:CB) (op:Int):Option Value->Prop
 | none=>bK op=none
 | some v=>∃k nb sb fv,v=.agg #[.int .i64 k,.bool nb,.bool sb,fv]/\bK op=some (k,nb,sb)/\CloR w Q c op fv
structure RulesR (w:À) (Q:Nat->Prop) (c:CB) (n:Nat) (f:Int->Option Value):Prop where
 q:Q c.br
 map:IMap w c.br n f
 rule:∀op,RuleR w Q c op (f op)
def RulesR.to {w:À} {c:CB} {n:Nat} {f:Int->Option Value} (h:RulesR w Q c n f) (hb:Sub Q Q' w w'):RulesR w' Q' c n f:=by
 refine⟨(hb _ h.q).1,h.map.to hb h.q,λop=>?_⟩;have:=h.rule op
 cases hf:f op with
 | none=>rw[hf] at this;exact this
 | some v=>rw[hf] at this;obtain⟨k,b,a,i,e,d,g⟩:=this;exact⟨k,b,a,i,e,d,g.to hb⟩
structure Fine (p:Pg):Prop where
 recs:∀(i:Nat) (h:i<p.types),p.types[i].record=true->0<p.types[i].ctors.length
 flds:∀d∈p.types,∀k∈d.ctors,∀f∈k.fields,ag f.type=true
 funs:∀f∈p.funs,(∀q∈f.params,ag q.type=true)/\ag f.result=true/\f.params.length<=1000000
 acts:∀a∈p.actors,(∀q∈a.params,ag q.type=true)/\(∀v∈a.vars,ag v.type=true)/\∀h∈a.on,∀q∈h.params,ag q.type=true
structure ScOk (p:Pg) (sc:Sc):Prop where
 bound:∀i t,sc.bound i=some t->ag t=true
 vars:∀v∈sc.vars,ag v.type=true
 actor:sc.actor<p.actors
structure Env (w:À) (own:Nat->Prop) (mb sb:Nat) (c:CB) (p:Pg) (sc:Sc):Prop where
 chk:ChkR w (im own w) c p
 rul:∃n f,RulesR w (im own w) c n f
 sco:ScS w own mb sb sc
 ol:∀b,own b->b<w.heap.size
def Env.stp {w:À} {own:Nat->Prop} {mb:Nat} {c:CB} {p:Pg} {sc':Sc} (h:Env w own mb sb c p sc) (hs:Stm mb w w') (hsc:ScS w' own mb sb sc'):Env w' own mb sb c p sc':=by
 obtain⟨n,f,d⟩:=h.rul;have a:own mb:=by obtain⟨_,_,_,_,x⟩:=h.sco;exact x.om
 exact⟨h.chk.to (hs.subO a),⟨n,f,d.to (hs.subO a)⟩,hsc,λb hb=>ρ (h.ol b hb) hs.size⟩
def Env.bel {w:À} {own:Nat->Prop} {mb:Nat} {c:CB} {p:Pg} (h:Env w own mb sb c p sc) (hs:Below w w w'):Env w' own mb sb c p sc:=h.stp (Stm.of_below hs) (h.sco.below hs)
def Res (w:À) (own:Nat->Prop) (mb sb:Nat) (sc:Sc) (r:Option Ty) (e:Ending) (w':À):Prop:=
 Stm mb w w'/\match r with
  | none=>e=.returned (.tuple #[.agg #[(0:Int),"",()],false])
  | some t=>∃k s A n cap,e=.returned (.tuple #[.agg #[.int .i64 k,.string s,.slice A n cap],true])/\TyR w' (im own w') [.int .i64 k,.string s,.slice A n cap] t/\ScS w' own mb sb sc
def ResF (w:À) (own:Nat->Prop) (mb sb:Nat) (sc:Sc) (r:Option Ty) (e:Ending) (w':À):Prop:=
 Stm mb w w'/\match r with
  | none=>∃k s A n cap,e=.returned (.tuple #[.agg #[.int .i64 k,.string s,.slice A n cap],false])
  | some t=>∃k s A n cap,e=.returned (.tuple #[.agg #[.int .i64 k,.string s,.slice A n cap],true])/\TyR w' (im own w') [.int .i64 k,.string s,.slice A n cap] t/\ScS w' own mb sb sc
def ResB (w:À) (own:Nat->Prop) (mb sb:Nat) (sc:Sc) (r:Bool) (e:Ending) (w':À):Prop:=
 e=.returned (r:Vl)/\Stm mb w w'/\(r=true->ScS w' own mb sb sc)
def aL (want:Option Ty):Prop:=∀u,want=some u->ag u=true
def xG (c:CB) (p:Pg) (mb n:Nat):Prop:=∀(own:Nat->Prop) (sb:Nat) (sc:Sc) (cs:List Value) (e:Ex) (wv:Value) (want:Option Ty) (w:À),Ex.deep e<=n->Env w own mb sb c p sc->ScOk p sc->ExR w (im own w) cs e->WantR w (im own w) wv want->aL want ->
 Calls prog 141 #[c.b,sb,cs.toArray,wv] w (Res w own mb sb sc (aa p n sc e want))
def Hs (w:À) (g:Nat) (t:TypeId) (cs:Array Value):Prop:=w.heap[g]?=some (.cells cs t (0,0))
section
variable {w w':À} {g:Nat} {t:TypeId} {cs:Array Value}
def Hs.lt (h:Hs w g t cs):g<w:=(Array.getElem?_eq_some_iff.1 h).1
def Hs.cell (h:Hs w g t cs) (i:Nat):w.cell? ⟨g,i,none⟩=cs[i]?:=cell_of_row w g i cs t (0,0) h
def Hs.c (h:Hs w g t cs) (i:Nat) (hv:cs[i]?=some v:=by exact rfl):w.cell? ⟨g,i,none⟩=some v:=(Hs.cell h i).trans hv
def Hs.free (h:Hs w g t cs) (i:Nat):w.frozen? ⟨g,i,none⟩=false:=by unfold Hs at h;simp[World.frozen?,h]
def Hs.new (w:À) (t:TypeId) (cs:Array Value):Hs (w.alloc (.cells cs t)) w t cs:=heap_alloc_new w _
def κ (w:À) (cs:Array Value) (t:TypeId):∃q,q=w.alloc (.cells cs t)/\Below w w q/\Hid (Hs q w t cs):=⟨_,rfl,ζ1,Hs.new _ _ _⟩
def Hs.new' (w:À) (o:Obj) (cs:Array Value):Hs ((w.alloc o).alloc (.cells cs 40)) (w+1) 40 cs:=by
 have:=Hs.new (w.alloc o) 40 cs;simpa using this
def Hs.alloc (h:Hs w g t cs) (o:Obj):Hs (w.alloc o) g t cs:=(Below.heap_alloc w o g h.lt).trans h
def Hs.stp {mb:Nat} (h:Hs w g t cs) (hs:Stm mb w w') (ho:¬only mb g):Hs w' g t cs:=(hs.s.block g h.lt ho).trans h
end
abbrev ty3 (k:Int) (s:Ê) (A:Option Addr) (n cap:Nat):Array Value:=#[k,s,.slice A n cap]
def am {fn:Func} {p u:Tmp} (h:fn.results=#[.cell p 40,.tmp u]) (tmps:Array Value) (w:À) (g:Nat) (k:Int) (s:Ê) (A:Option Addr) (n cap:Nat) (hp:tmps.getD p undef=.pointer (some ⟨g,0,none⟩)) (hg:Hs w g 40 (ty3 k s A n cap)) :
 (results fn tmps).run prog w=.ok (.tuple #[ty3 k s A n cap,tmps.getD u undef]) w:=by
 rw[results_cell_tmp h,hp];have:=run_loadVar_row (P:=prog) w g 40 40 (ty3 k s A n cap) (0,0) _ hg underlying40 rfl (by show _=some 3;kernel_rfl);simp[asAddr,this,Result.andThen]
variable {g:Nat}
def Hs.put {w:À} {t:TypeId} {cs:Array Value} (h:Hs w g t cs) (i:Nat) (u:Value):Hs (w.setCell ⟨g,i,none⟩ u) g t (cs.setIfInBounds i u):=by
 unfold Hs at h ⊢;simp[World.setCell,Array.getElem?_modify,h]
abbrev set3 (w:À) (g:Nat) (k:Int) (s:Ê) (A:Option Addr) (n cap:Nat):À:=((w.setCell g (k:Vl)).setCell ⟨g,1,none⟩ (s:Vl)).setCell ⟨g,2,none⟩ (.slice A n cap)
variable {B:Option Addr}
theorem Hs.set3 {w:À} {a:Int} {b:Ê} {m d:Nat} (h:Hs w g 40 (ty3 a b B m d)) (k:Int) (s:Ê) (A:Option Addr) (n cap:Nat):Hs (set3 w g k s A n cap) g 40 (ty3 k s A n cap):=by
 have:=((h.put 0 (k:Vl)).put 1 (s:Vl)).put 2 (.slice A n cap);simpa using this
def aq (w:À) (g b:Nat) (k:Int) (s:Ê) (A:Option Addr) (n cap:Nat) (h:b≠g):(set3 w g k s A n cap).heap[b]?=w.heap[b]?:=by
 rw[set3,Below.heap_setCell _ _ _ _ h,Below.heap_setCell _ _ _ _ h,Below.heap_setCell _ _ _ _ h]
def bQ (w:À) (g:Nat) (k:Int) (s:Ê) (A:Option Addr) (n cap:Nat):(set3 w g k s A n cap).heap.size=w:=by simp[set3,World.setCell]
def smS {mb:Nat} {w:À} (h:Stm mb w a) (hg:w<=g) (hm:mb≠g) (k:Int) (s:Ê) (A:Option Addr) (n cap:Nat):Stm mb w (set3 a g k s A n cap):=
 ⟨⟨h.s.os,h.s.tape,h.s.output,by rw[bQ];exact h.s.size,λi hi ho=>(aq a g i k s A n cap ω).trans (h.s.block i hi ho)⟩,λx=>by obtain⟨n',f,y⟩:=h.m x;exact⟨n',f,y.same (aq a g mb k s A n cap hm)⟩⟩
def Hs.facts {w:À} {a:Int} {b:Ê} {m d:Nat} (h:Hs w g 40 (ty3 a b B m d)):w.cell? g=some (a:Vl)/\w.cell? ⟨g,1,none⟩=some (b:Vl)/\w.cell? ⟨g,2,none⟩=some (.slice B m d)/\w.frozen? g=false/\w.frozen? ⟨g,1,none⟩=false/\w.frozen? ⟨g,2,none⟩=false:=
 ⟨h.cell 0,h.cell 1,h.cell 2,h.free 0,h.free 1,h.free 2⟩
def plus (own:Nat->Prop) (g:Nat):Nat->Prop:=λb=>own b\/b=g
def aV {own:Nat->Prop} {w:À} (hb:Below w w w') (hg:w<=g):Sub (im own w) (im (plus own g) w') w w':=λb h=>⟨⟨ρ h.1 hb.size,λx=>by rcases x with x|x;exact h.2 x;have:=h.1;omega⟩,hb.block b h.1⟩
def aG {own:Nat->Prop} {w:À} (k:Int) (s:Ê) (A:Option Addr) (n cap:Nat):Sub (im (plus own g) w) (im own (set3 w g k s A n cap)) w (set3 w g k s A n cap):=λb h=>⟨⟨by rw[bQ];exact h.1,λx=>h.2 (.inl x)⟩,aq w g b k s A n cap (λe=>h.2 (.inr e))⟩
variable {own':Nat->Prop}
def ScR.sub {w:À} {own:Nat->Prop} {mb n:Nat} {f:Int->Option Value} (h:ScR w own mb sb sc n f va ks) (S:Sub (im own w) (im own' w') w w') (hm:w'.heap[mb]?=w.heap[mb]?) (ho:own' mb):ScR w' own' mb sb sc n f va ks:=
 ⟨ho,(S _ h.isb).1,au h.c0 S h.isb,au h.c1 S h.isb,au h.c2 S h.isb,au h.c3 S h.isb,VrsR.to h.vars S,h.map.same hm,λi=>(h.val i).to S,h.nd,h.kl,h.km,h.ki,h.sl,h.ac⟩
def ScS.sub {w:À} {own:Nat->Prop} {mb:Nat} (h:ScS w own mb sb sc) (S:Sub (im own w) (im own' w') w w') (hm:w'.heap[mb]?=w.heap[mb]?) (ho:own' mb):ScS w' own' mb sb sc:=by
 obtain⟨n,f,a,b,h⟩:=h;exact⟨n,f,a,b,h.sub S hm ho⟩
def Env.sub {w:À} {own:Nat->Prop} {mb:Nat} {c:CB} {p:Pg} (h:Env w own mb sb c p sc) (S:Sub (im own w) (im own' w') w w') (hm:w'.heap[mb]?=w.heap[mb]?) (ho:own' mb) (hl:∀b,own' b->b<w'.heap.size):Env w' own' mb sb c p sc:=by
 obtain⟨n,f,a⟩:=h.rul;exact⟨h.chk.to S,⟨n,f,a.to S⟩,h.sco.sub S hm ho,hl⟩
theorem Env.plus {w:À} {own:Nat->Prop} {mb:Nat} {c:CB} {p:Pg} (h:Env w own mb sb c p sc) (hb:Below w w w') (hg:w<=g) (hl:g<w'):Env w' (plus own g) mb sb c p sc:=by
 obtain⟨_,_,_,_,x⟩:=h.sco
 exact h.sub (aV hb hg) (hb.block _ x.map.lt) (.inl x.om) λb hx=>by
  rcases hx with hx|hx
  ·exact ρ (h.ol b hx) hb.size
  omega
theorem Env.mb {w:À} {own:Nat->Prop} {mb:Nat} {c:CB} {p:Pg} (h:Env w own mb sb c p sc):own mb/\mb<w:=by
 obtain⟨_,_,_,_,x⟩:=h.sco;exact⟨x.om,x.map.lt⟩
variable {cs:List Value}
def fk {c:CB} {p:Pg} {mb n:Nat} (IH:xG c p mb n) {own:Nat->Prop} {e:Ex} {w:À} (hd:Ex.deep e<=n) (he:Env w own mb sb c p sc) (ho:ScOk p sc) (hr:ExR w (im own w) cs e):
 Calls prog 170 #[c.b,sb,cs.toArray] w (Res w own mb sb sc (aa p n sc e none)):=by
 obtain⟨op,x,m,s,a,A,cap,rfl,N,_⟩:=dJ hr;obtain⟨D,B,z,y,v⟩:=zd5 IH hd he ho hr;have U:=he.mb.2;have T:=η he.mb.1;clear IH hd he ho hr N;have f:Hid (∀o1 o2,Below w w ((w.alloc o1).alloc o2)):=λo1 o2=>belA ζ1 _;obtain⟨r,hr⟩:=γ (aa p n sc e none)
 have q:=η hr;rw[<-hr];clear hr
 cases r with
 | none =>
  go_in;go_wp2_with (go_at_call 141;refine (D (plus own (w+1)) sb sc _ e _ none _ B (z.plus (f _ _) ω Θ) y (v.to (aV (f _ _) ω)) rfl (λu h=>by cases h)).mono ?_;rw[<-q.o];rintro M H ⟨d,rfl⟩;have k:=η d;have g:=η ((Hs.new' w _ _).stp d Ω);obtain⟨G,F,E,L,J,I⟩:=g.facts;clear d);exact bodyPost_ret (am results170 _ _ (w+1) _ _ _ _ _ rfl (g.set3 _ _ _ _ _)) rfl ⟨smS ((Stm.of_below (f _ _)).trans k) ω ω _ _ _ _ _,rfl⟩
 | some t =>
  go_in;go_wp2_with (go_at_call 141;refine (D (plus own (w+1)) sb sc _ e _ none _ B (z.plus (f _ _) ω Θ) y (v.to (aV (f _ _) ω)) rfl (λu h=>by cases h)).mono ?_;rw[<-q.o];rintro M H ⟨d,X,V,Y,W,O,rfl,i,j⟩;have k:=η d;have R:=η i;have l:=η j;have g:=η ((Hs.new' w _ _).stp d Ω);obtain⟨G,F,E,L,J,I⟩:=g.facts;clear d i j);exact bodyPost_ret (am results170 _ _ (w+1) _ _ _ _ _ rfl (g.set3 _ _ _ _ _)) rfl ⟨smS ((Stm.of_below (f _ _)).trans k) ω ω _ _ _ _ _,_,_,_,_,_,rfl,R.to (aG _ _ _ _ _),l.sub (aG _ _ _ _ _) (aq _ _ _ _ _ _ _ _ ω) T⟩
def bA {c:CB} {p:Pg} {mb n:Nat} (IH:xG c p mb n) {own:Nat->Prop} {ct:List Value} {e:Ex} {w:À} (hd:Ex.deep e<=n) (he:Env w own mb sb c p sc) (ho:ScOk p sc) (hr:ExR w (im own w) cs e) (ht:TyR w (im own w) ct t) (hf:ag t=true):
 Calls prog 105 #[c.b,sb,cs.toArray,ct.toArray] w (ResB w own mb sb sc (isE (aa p n) sc e t)):=by
 obtain⟨op,x,m,s,a,A,cap,rfl,W,_⟩:=dJ hr;obtain⟨k,j,l,z,f,rfl,U,_⟩:=ap ht;obtain⟨M,L,y,J,I,Y,H⟩:=zd7 IH hd he ho hr ht hf;have g:Hid (∀o1 o2,Below w w ((w.alloc o1).alloc o2)):=λo1 o2=>belA ζ1 _;obtain⟨r,hr⟩:=γ (aa p n sc e (some t))
 have G:=η hr;have v:Hid (isE (aa p n) sc e t=r.isSome):=by show isE _ _ _ _=_;rw[hr];rfl
 have E:Hid (∀o1,WantR ((w.alloc o1).alloc (.cells (ty3 k j z l f) 40)) (im own ((w.alloc o1).alloc (.cells (ty3 k j z l f) 40))) ((w+1:Nat):Vl) (some t)):=λo1=>by
  have D:=Hs.new' w o1 (ty3 k j z l f);obtain⟨R,O,N,_⟩:=D.facts;refine⟨w+1,0,_,_,_,_,_,rfl,⟨D.lt,?_⟩,R,O,N,Y.to (sof (g _ _)).sub⟩;exact λhx=>by have:=y.ol _ hx;omega
 cases r with
 | none =>
  go_in;go_wp2_with (go_at_call 141;refine (M own sb sc _ e _ (some t) _ L (y.bel (g _ _)) J (I.to (sof (g _ _)).sub) (E _) (λu h=>by injection h with h;rw[<-h];exact H)).mono ?_;rw[<-G.o];rintro V T ⟨d,rfl⟩;have q:=η d);go_ret;exact⟨by rw[v.o];rfl,smA ((Stm.of_below (g _ _)).trans q) _,λh=>by rw[v.o] at h;cases h⟩
 | some t =>
  go_in;go_wp2_with (go_at_call 141;refine (M own sb sc _ e _ (some _) _ L (y.bel (g _ _)) J (I.to (sof (g _ _)).sub) (E _) (λu h=>by injection h with h;rw[<-h];exact H)).mono ?_;rw[<-G.o];rintro V T ⟨d,k1,s1,A1,n1,X,rfl,B,i⟩;have q:=η d;have F:=η i);go_ret;exact⟨by rw[v.o];rfl,smA ((Stm.of_below (g _ _)).trans q) _,λ_=>F.below ζ1⟩
def vX (a:List Ty):∀b,a.length≠b.length->cP a b=false:=by
 induction a with
 | nil=>intro b h;cases b with|nil=>simp at h|cons=>rfl
 | cons x a ih =>
  intro b h
  cases b with
  | nil=>rfl
  | cons y b=>rw[cP,ih b (by simpa using h),Bool.and_false]
def vY (a:List Ty):∀(b:List Ty) (k:Nat) (h:k<a) (h':k<b),bO a[k] b[k]=false->cP a b=false:=by
 induction a with
 | nil=>intro b k h;simp at h
 | cons x a ih =>
  intro b k h h' c
  cases b with
  | nil=>rfl
  | cons y b =>
   rw[cP]
   cases k with
   | zero=>simp at c;rw[c];rfl
   | succ k=>rw[ih b k (by simpa using h) (by simpa using h') (by simpa using c),Bool.and_false]
def tG (a:List Ty):∀(b:List Ty),a.length=b->(∀k (h:k<a.length) (h':k<b.length),bO a[k] b[k]=true)->cP a b=true:=by
 induction a with
 | nil=>intro b h _;cases b with|nil=>rfl|cons=>simp at h
 | cons x a ih =>
  intro b h c
  cases b with
  | nil=>simp at h
  | cons y b =>
   rw[cP,ih b (by simpa using h) (λk h1 h2=>by have:=c (k+1) (by simpa using h1) (by simpa using h2);simpa using this)];have:=c 0 Θ Θ;simp at this;rw[this];rfl
def vH (n:Nat):∀(cs cs':List Value) (t t':Ty) (w:À),SizeOf.sizeOf t<=n->TyR w (lo w) cs t->TyR w (lo w) cs' t'->Calls prog 111 #[cs.toArray,.agg cs'.toArray] w λe w'=>e=.returned (.bool (bO t t'))/\Below w w w':=by
 induction n with
 | zero=>intro cs cs' t t' w I;cases t;simp at I
 | succ n ih =>
  intro cs cs' t t' w I H y;obtain⟨k,s,a,A,cap,rfl,rfl,_,hs,X⟩:=ap H;obtain⟨z,l,c,A',Y,rfl,rfl,_,bc,E⟩:=ap y;have bd:=X.le9;have a0:=E.le9
  have IH:Hid (∀(i:Nat) (h:i<a.length) (cs cs':List Value) (t':Ty) (w W:À) (b:Bool),bO a[i] t'=b->TyR w (lo w) cs a[i]->TyR w (lo w) cs' t'->Below w w W->Calls prog 111 #[cs.toArray,.agg cs'.toArray] W λe w'=>e=.returned (b:Vl)/\Below W W w'):=λi h cs cs' t' w W b hb H y hW=>by
   subst hb;exact ih cs cs' a[i] t' W (by have:=List.sizeOf_lt_of_mem (ν h);simp at I;omega) (H.to (ae hW)) (y.to (ae hW))
  have HA:=η X;have an:=η E;have M:Hid (bO (.mk k s a) (.mk z l c)=(k==z&&(s.toList==l.toList&&cP a c))):=by show bO _ _=_;rw[bO]
  clear ih I H y X E;by_cases L:k=z
  ·subst L
   by_cases v:s.toList=l.toList
   ·have V:(s.toList==l.toList)=true:=by simpa using v
    by_cases J:a.length=c
    ·have t3:((a.length:Int) != (c.length:Int))=false:=by simp;omega
     have f:Hid (bO (.mk k s a) (.mk k l c)=cP a c):=by show _=_;rw[M.o,V];simp
     have HL:=η J;have be:a.length<=c:=ω;clear v J;go_in;go_wp2_with fail;go_loopw [30] (λi wr=>∃j:Nat,j<=a/\i=.int .i64 j/\Hid (∀q (h:q<a.length) (h':q<c.length),q<j->bO a[q] c[q]=true)/\Hid (Below w w wr)/\w.heap.size+1<wr/\Hid (wr.cell? ⟨w,2,none⟩=some (.slice A a cap)/\wr.cell? ⟨w+1,2,none⟩=some (.slice A' c Y))) (λi _=>a.length-(intOf i).toNat)
     case atStart=>exact⟨0,ω,rfl,λq _ _ h=>ω,((Below.refl _ _).alloc (υ _) _).alloc Θ _,by simp,by simp,by simp⟩
     case round =>
      obtain⟨j,hj,rfl,HQ,G,ad,HC⟩:=hrel;by_cases hlt:j<a
      ·have D:j<c:=ω;have u1:=zT j a;obtain⟨g,bb,k1,s1,a1,A1,a6,rfl,hg,e1,p0,p1,p2,U⟩:=cS (TysR.to HA (ae G)) hlt;obtain⟨g',az,k2,s2,a2,A2,a5,rfl,bf,e2,ac,ab,aa,T⟩:=cS (TysR.to an (ae G)) D;have c1:=HC.1;have c2:=HC.2;have i1:(0:Int)<=j:=ω;have i2:(j:Int)<a:=ω;have i3:(j:Int)<c:=ω;obtain⟨T1,T2⟩:=zd2 U T;clear e1 e2 U T;have r:∀(p:Addr) (u:Value),wr.cell? p=some u->∀(d:Nat) (os:Array Obj),(Sort.grow (redrawn wr d) os).cell? p=some u:=λp u hp d os=>((below_regrown wr d os).cell (World.block_lt_of_cell? wr p hp)).trans hp;have x1:=r _ _ c1;have x2:=r _ _ c2;have x3:=r _ _ p0;have x4:=r _ _ p1;have x5:=r _ _ p2;have x6:=r _ _ ac;have x7:=r _ _ ab;have x8:=r _ _ aa;clear r;have N:Hid (∀(d:Nat) (os:Array Obj),Below wr wr (Sort.grow (redrawn wr d) os)):=λd os=>below_regrown wr d os
       cases hsm:bO a[j] c[j] with
       | false =>
        obtain⟨Z,F⟩:=zd2 (vY a c j hlt D hsm) hsm;clear hsm;go_upto_region 6 with fail;refine wp_region_quiet_below Δ Δ ?_;repeat (first|go_big_quiet_step (first|(go_at_call 111;exact Calls.regrown_of (IH j hlt _ _ _ _ _ _ F T1 T2 (N _ _)))))
        refine wpQuiet_nil ?_;intro _ B;obtain⟨⟨dq,R⟩,x⟩:=B;subst x;go_wp2;go_ret;exact⟨by rw[f.o,Z.o];rfl,bel G (N _ _)⟩
       | true =>
        have HN:Hid (∀q (h:q<a.length) (h':q<c.length),q<j+1->bO a[q] c[q]=true):=λq h h' hq=>by
         by_cases e:q=j
         ·subst e;exact hsm
         exact HQ q h h' ω
        have F:=η hsm;clear hsm;go_upto_region 6 with fail;refine wp_region_quiet_below Δ Δ ?_;repeat (first|go_big_quiet_step (first|(go_at_call 111;exact Calls.regrown_of (IH j hlt _ _ _ _ _ _ F T1 T2 (N _ _)))))
        refine wpQuiet_nil ?_;intro _ B;obtain⟨⟨dq,R⟩,x⟩:=B;subst x;go_wp2_with fail;go_roundw
        case rel=>exact⟨j+1,ω,by go_num,HN,bel G (N _ _),ρ ad (below_regrown wr dq R).size,x1 _ _,x2 _ _⟩
        case measure=>simp[intOf];omega
      have Z:=η (tG a c HL λq h h'=>HQ q h h' ω);go_wp2;go_ret;exact⟨by rw[f.o,Z.o];rfl,G⟩
    have t3:((a.length:Int) != (c.length:Int))=true:=by simp;omega
    have f:Hid (bO (.mk k s a) (.mk k l c)=false):=by show _=_;rw[M.o,vX a c J];simp
    clear v J;go_in;go_wp2;go_ret;exact⟨by rw[f.o];rfl,ζ2⟩
   have V:(s.toList==l.toList)=false:=by simpa using v
   have f:Hid (bO (.mk k s a) (.mk k l c)=false):=by show _=_;rw[M.o,V];simp
   clear v;go_in;go_wp2;go_ret;exact⟨by rw[f.o];rfl,ζ2⟩
  have t1:(k != z)=true:=by simpa using L
  have O:(k==z)=false:=by simpa using L
  have f:Hid (bO (.mk k s a) (.mk z l c)=false):=by show _=_;rw[M.o,O];rfl
  clear L O;go_in;go_wp2;go_ret;exact⟨by rw[f.o];rfl,ζ2⟩
def lN {cs':List Value} {t':Ty} {w:À} (hr:TyR w (lo w) cs t) (hr':TyR w (lo w) cs' t'):Calls prog 111 #[cs.toArray,.agg cs'.toArray] w λe w'=>e=.returned (.bool (bO t t'))/\Below w w w':=vH _ cs cs' t t' w (υ _) hr hr'
def dC (slots actor:Int) (l:List Fld):Sc:={ slots:=slots,bound:=λi=>if i<0 then none else (l[i.toNat]?).map (·.type),vars:=[],actor:=actor }
variable {l:List Fld}
def oB {slots actor:Int} {j:Nat} (h:j<l):dC slots actor (l.take (j+1))=(dC slots actor (l.take j)).set (j:Int) l[j].type:=by
 unfold dC Sc.set;congr 1;funext i;by_cases a:i<0
 ·rw[if_pos a,if_neg ω];simp[a]
 rw[if_neg a];by_cases c:i=(j:Int)
 ·subst c;rw[if_pos rfl,Int.toNat_natCast,List.getElem?_take];simp[ξ h]
 rw[if_neg c];simp only[if_neg a];rw[List.getElem?_take,List.getElem?_take];by_cases b:i.toNat<j
 ·rw[if_pos b,if_pos ω]
 rw[if_neg b,if_neg ω]
def oC {slots actor:Int} {j:Nat} (h:j<l) (hs:(l.length:Int)<=slots):(dC slots actor (l.take j)).bindB (j:Int)=true:=by
 unfold Sc.bindB dC;simp[List.getElem?_take];omega
def bEq (a b:Ê):Bool:=a.toList==b.toList
def eqL {α:Type} (f:α->α->Bool):List α->List α->Bool
 | [],[]=>true
 | x::xs,y::ys=>f x y&&eqL f xs ys
 | _,_=>false
variable {α:Type}
def gB (f:α->α->Bool) (a:List α):∀b,a.length≠b.length->eqL f a b=false:=by
 induction a with
 | nil=>intro b h;cases b with|nil=>simp at h|cons=>rfl
 | cons x a ih =>
  intro b h
  cases b with
  | nil=>rfl
  | cons y b=>rw[eqL,ih b (by simpa using h),Bool.and_false]
def gC (f:α->α->Bool) (a:List α):∀(b:List α) (k:Nat) (h:k<a) (h':k<b),f a[k] b[k]=false->eqL f a b=false:=by
 induction a with
 | nil=>intro b k h;simp at h
 | cons x a ih =>
  intro b k h h' c
  cases b with
  | nil=>rfl
  | cons y b =>
   rw[eqL]
   cases k with
   | zero=>simp at c;rw[c];rfl
   | succ k=>rw[ih b k (by simpa using h) (by simpa using h') (by simpa using c),Bool.and_false]
def eC (f:α->α->Bool) (a:List α):∀(b:List α),a.length=b->(∀k (h:k<a.length) (h':k<b.length),f a[k] b[k]=true)->eqL f a b=true:=by
 induction a with
 | nil=>intro b h _;cases b with|nil=>rfl|cons=>simp at h
 | cons x a ih =>
  intro b h c
  cases b with
  | nil=>simp at h
  | cons y b =>
   rw[eqL,ih b (by simpa using h) (λk h1 h2=>by have:=c (k+1) (by simpa using h1) (by simpa using h2);simpa using this)];have:=c 0 Θ Θ;simp at this;rw[this];rfl
mutual
def df:Ex->Ex->Bool
 | .mk o n m s a,.mk o' n' m' s' a'=>(o==o')&&((n==n')&&((m==m')&&(bEq s s'&&ot a a')))
def ot:List Ex->List Ex->Bool
 | [],[]=>true
 | x::xs,y::ys=>df x y&&ot xs ys
 | _,_=>false
end
def wg (a:List Ex):∀b,ot a b=eqL df a b:=by
 induction a with
 | nil=>intro b;cases b<;>rfl
 | cons x a ih=>intro b;cases b with|nil=>rfl|cons y b=>rw[ot,eqL,ih]
mutual
def cU:St->St->Bool
 | .mk o n m s u xs h e a,.mk o' n' m' s' u' xs' h' e' a'=>(o==o')&&((n==n')&&((m==m')&&(bEq s s'&&(bEq u u'&&(eqL df xs xs'&&(kE h h'&&(kE e e'&&kE a a')))))))
def kE:List St->List St->Bool
 | [],[]=>true
 | x::xs,y::ys=>cU x y&&kE xs ys
 | _,_=>false
end
def mL (a:List St):∀b,kE a b=eqL cU a b:=by
 induction a with
 | nil=>intro b;cases b<;>rfl
 | cons x a ih=>intro b;cases b with|nil=>rfl|cons y b=>rw[kE,eqL,ih]
def cy (a b:Fld):Bool:=bEq a.name b.name&&bO a.type b.type
def eQ (a b:Ctr):Bool:=bEq a.name b.name&&eqL cy a.fields b.fields
def eP (a b:Dcl):Bool:=bEq a.name b.name&&((a.record==b.record)&&eqL eQ a.ctors b.ctors)
def eO (a b:Eff):Bool:=bEq a.name b.name&&(eqL cy a.params b.params&&bO a.answer b.answer)
def gY (a b:Fn):Bool:=bEq a.name b.name&&(eqL cy a.params b.params&&(bO a.result b.result&&((a.slots==b.slots)&&df a.body b.body)))
def gW (a b:Vr):Bool:=bEq a.name b.name&&(bO a.type b.type&&df a.init b.init)
def gX (a b:Hd):Bool:=bEq a.msg b.msg&&(eqL cy a.params b.params&&((a.slots==b.slots)&&eqL cU a.body b.body))
def gZ (a b:Ac):Bool:=bEq a.name b.name&&(eqL cy a.params b.params&&((a.slots==b.slots)&&((a.policy==b.policy)&&((a.most==b.most)&&(eqL gW a.vars b.vars&&eqL gX a.on b.on)))))
def rC (a b:Pg):Bool:=eqL eP a.types b.types&&(eqL eO a.effects b.effects&&(eqL gY a.funs b.funs&&eqL gZ a.actors b.actors))
def aE (b:Bool) (w:À) (e:Ending) (w':À):Prop:=e=.returned (b:Vl)/\Below w w w'
def ch2 (a b:Bool):a=false\/(a=true/\b=false)\/(a=true/\b=true):=by cases a<;>cases b<;>simp
def ch3 (a b c:Bool):a=false\/(a=true/\b=false)\/(a=true/\b=true/\c=false)\/(a=true/\b=true/\c=true):=by cases a<;>cases b<;>cases c<;>simp
def ch4 (a b c d:Bool):a=false\/(a=true/\b=false)\/(a=true/\b=true/\c=false)\/(a=true/\b=true/\c=true/\d=false)\/(a=true/\b=true/\c=true/\d=true):=by cases a<;>cases b<;>cases c<;>cases d<;>simp
def ch5 (a b c d e:Bool):a=false\/(a=true/\b=false)\/(a=true/\b=true/\c=false)\/(a=true/\b=true/\c=true/\d=false)\/(a=true/\b=true/\c=true/\d=true/\e=false)\/(a=true/\b=true/\c=true/\d=true/\e=true):=by
 cases a with|false=>simp|true=>simpa using ch4 b c d e
def ch7 (a b c d e f g:Bool):a=false\/(a=true/\b=false)\/(a=true/\b=true/\c=false)\/(a=true/\b=true/\c=true/\d=false)\/(a=true/\b=true/\c=true/\d=true/\e=false)\/(a=true/\b=true/\c=true/\d=true/\e=true/\f=false)\/(a=true/\b=true/\c=true/\d=true/\e=true/\f=true/\g=false)\/(a=true/\b=true/\c=true/\d=true/\e=true/\f=true/\g=true):=by
 cases a with|false=>simp|true=>cases b with|false=>simp|true=>simpa using ch5 c d e f g
def ch9 (a b c d e f g h i:Bool):a=false\/(a=true/\b=false)\/(a=true/\b=true/\c=false)\/(a=true/\b=true/\c=true/\d=false)\/(a=true/\b=true/\c=true/\d=true/\e=false)\/(a=true/\b=true/\c=true/\d=true/\e=true/\f=false)\/(a=true/\b=true/\c=true/\d=true/\e=true/\f=true/\g=false)\/(a=true/\b=true/\c=true/\d=true/\e=true/\f=true/\g=true/\h=false)\/(a=true/\b=true/\c=true/\d=true/\e=true/\f=true/\g=true/\h=true/\i=false)\/(a=true/\b=true/\c=true/\d=true/\e=true/\f=true/\g=true/\h=true/\i=true):=by
 cases a with|false=>simp|true=>cases b with|false=>simp|true=>simpa using ch7 c d e f g h i
def celA {w:À} {a:Addr} (h:w.cell? a=some v) (o:Obj):(w.alloc o).cell? a=some v:=((belA (belR w) o).cell (World.block_lt_of_cell? w a h)).trans h
def pk {w:À} {P:Nat->Prop} {n cap:Nat} (h:FldsR w P (.slice A n cap) l) {i:Nat} (hi:i<l):
 ∃g off k s a B c,A=some ⟨g,off,none⟩/\P g/\w.cell? ⟨g,off+i*4,none⟩=some (.string l[i].name)/\w.cell? ⟨g,off+i*4+1,none⟩=some (.int .i64 k)/\w.cell? ⟨g,off+i*4+2,none⟩=some (.string s)/\w.cell? ⟨g,off+i*4+3,none⟩=some (.slice B a c)/\FldR w P [.string l[i].name,.int .i64 k,.string s,.slice B a c] l[i]/\True:=by
 obtain⟨g,off,k,s,a,B,c,f,e,-,r,q,p,j,d,b⟩:=dw h hi;exact⟨g,off,k,s,_,B,c,f,e,r,q,p,j,⟨_,rfl,d,b⟩,trivial⟩
def qU {w:À} {P:Nat->Prop} {n cap:Nat} {l:List St} (h:StsR w P (.slice A n cap) l) {i:Nat} (hi:i<l):
 ∃g off op x m s u xs thn els arms A0 c0 A1 c1 A2 c2 A3 c3,A=some ⟨g,off,none⟩/\P g/\w.cell? ⟨g,off+i*9,none⟩=some (.int .i64 op)/\w.cell? ⟨g,off+i*9+1,none⟩=some (.int .i64 x)/\w.cell? ⟨g,off+i*9+2,none⟩=some (.int .i64 m)/\w.cell? ⟨g,off+i*9+3,none⟩=some (.string s)/\w.cell? ⟨g,off+i*9+4,none⟩=some (.string u)/\w.cell? ⟨g,off+i*9+5,none⟩=some (.slice A0 xs c0)/\w.cell? ⟨g,off+i*9+6,none⟩=some (.slice A1 thn c1)/\w.cell? ⟨g,off+i*9+7,none⟩=some (.slice A2 els c2)/\w.cell? ⟨g,off+i*9+8,none⟩=some (.slice A3 arms c3)/\StR w P [.int .i64 op,.int .i64 x,.int .i64 m,.string s,.string u,.slice A0 xs c0,.slice A1 thn c1,.slice A2 els c2,.slice A3 arms c3] l[i]/\True:=by
 obtain⟨g,off,q,k,j,f,p,d⟩:=SlR.at h hi;obtain⟨op,x,m,s,u,xs,a,b,c,A0,c0,A1,c1,A2,c2,A3,c3,rfl,e,-⟩:=kA f;exact⟨g,off,op,x,m,s,u,_,_,_,_,A0,c0,A1,c1,A2,c2,A3,c3,k,j,d 0 _ rfl,d 1 _ rfl,d 2 _ rfl,d 3 _ rfl,d 4 _ rfl,d 5 _ rfl,d 6 _ rfl,d 7 _ rfl,d 8 _ rfl,f,trivial⟩
set_option maxRecDepth 1000000 in
def zfEqS {p:Prop} (h:p:=by
 have lm:=h.le9;have a6:=h'.le9;have U:=η h;have L:=η h';have p:=η HC;clear HC h h';by_cases F:a.length=b
 ·have t3:((a.length:Int) != (b.length:Int))=false:=by simp;omega
  have T:=η F;have a8:a.length<=b:=ω;clear F
  first
   | guard_hyp kk0:True
     go_in
   | guard_hyp kk1:True
     go_in
   | guard_hyp kk2:True
     go_in
   | go_in
  go_wp2_with fail
  first
   | guard_hyp kk0:True
     go_loopw [17] (λi wr=>∃j:Nat,j<=a/\i=.int .i64 j/\Hid (∀k (h:k<a.length) (h':k<b.length),k<j->cy a[k] b[k]=true)/\Hid (Below w w wr)) (λi _=>a.length-(intOf i).toNat)
   | guard_hyp kk1:True
     go_loopw [17] (λi wr=>∃j:Nat,j<=a/\i=.int .i64 j/\Hid (∀k (h:k<a.length) (h':k<b.length),k<j->eQ a[k] b[k]=true)/\Hid (Below w w wr)) (λi _=>a.length-(intOf i).toNat)
   | guard_hyp kk2:True
     go_loopw [17] (λi wr=>∃j:Nat,j<=a/\i=.int .i64 j/\Hid (∀k (h:k<a.length) (h':k<b.length),k<j->df a[k] b[k]=true)/\Hid (Below w w wr)) (λi _=>a.length-(intOf i).toNat)
   | go_loopw [17] (λi wr=>∃j:Nat,j<=a/\i=.int .i64 j/\Hid (∀k (h:k<a.length) (h':k<b.length),k<j->cU a[k] b[k]=true)/\Hid (Below w w wr)) (λi _=>a.length-(intOf i).toNat)
  case atStart=>exact⟨0,ω,rfl,λk _ _ h=>ω,belR _⟩
  case round =>
   obtain⟨j,hj,rfl,B,d⟩:=hrel;by_cases hlt:j<a
   ·have c:j<b:=ω;have u1:=zT j a;have i1:(0:Int)<=(j:Int):=ω;have i2:(j:Int)<(a.length:Int):=ω;have i3:(j:Int)<(b.length:Int):=ω
    first
     | guard_hyp kk1:True
       obtain⟨g,O,B1,c1,rfl,-,p0,p1,v,-⟩:=ew (SlR.to' U (ae d) (λ_ _ x=>x.to (ae d))) hlt;obtain⟨g',E,Z,Y,rfl,-,J,I,u,-⟩:=ew (SlR.to' L (ae d) (λ_ _ x=>x.to (ae d))) c
     | guard_hyp kk0:True
       obtain⟨g,O,k1,s1,a1,B1,c1,rfl,-,p0,p1,p2,p3,v,-⟩:=pk (SlR.to' U (ae d) (λ_ _ x=>x.to (ae d))) hlt;obtain⟨g',E,a7,V,aq,Z,Y,rfl,-,J,I,N,M,u,-⟩:=pk (SlR.to' L (ae d) (λ_ _ x=>x.to (ae d))) c
     | guard_hyp kk2:True
       obtain⟨g,O,o1,x1,m1,s1,a1,B1,c1,rfl,-,-,p0,p1,p2,p3,p4,v⟩:=aQ (SlR.to' U (ae d) (λ_ _ x=>x.to (ae d))) hlt;obtain⟨g',E,an,ad,ao,V,aq,Z,Y,rfl,-,-,J,I,N,M,X,u⟩:=aQ (SlR.to' L (ae d) (λ_ _ x=>x.to (ae d))) c
     | obtain⟨g,O,o1,x1,m1,s1,u1,y1,t1,e1,z1,D0,d0,D1,d1,D2,d2,D3,d3,rfl,-,p0,p1,p2,p3,p4,p5,p6,p7,p8,v,-⟩:=qU (SlR.to' U (ae d) (λ_ _ x=>x.to (ae d))) hlt
       obtain⟨g',E,an,ad,ao,V,a4,a3,a5,a9,a2,bh,bd,bg,bc,bf,bb,be,ba,rfl,-,J,I,N,M,X,ak,aj,ai,ah,u,-⟩:=qU (SlR.to' L (ae d) (λ_ _ x=>x.to (ae d))) c
    obtain⟨z,y⟩:=zd2 v u;have z0:=celA J;have z1:=celA I
    first
     | done
     | guard_hyp kk1:True
     | have z2:=celA N
       have z3:=celA M
       first
        | done
        | guard_hyp kk0:True
        | have z4:=celA X
          first
           | done
           | guard_hyp kk2:True
           | have z5:=celA ak
             have z6:=celA aj;have z7:=celA ai;have z8:=celA ah
    clear v u
    first
     | guard_hyp kk3:True
       cases hsm:cU a[j] b[j] with
        | false =>
         have t:Hid (eqL cU a b=false):=gC _ a b j hlt c hsm;have l:=η hsm;clear hsm;go_wp2_with (go_at_call 196;refine (p j hlt c _ _ _ _ l (z.to (ae ζ2)) (y.to (ae ζ2))).mono ?_;rintro G D ⟨rfl,f⟩);go_ret;exact⟨by rw[t.o];first|rfl|(simp;done),bel d (bel ζ2 f)⟩
        | true =>
         have H:Hid (∀k (h:k<a.length) (h':k<b.length),k<j+1->cU a[k] b[k]=true):=λk h h' hk=>by
          by_cases e:k=j
          ·subst e;exact hsm
          exact B k h h' ω
         have l:=η hsm;clear hsm;go_wp2_with (go_at_call 196;refine (p j hlt c _ _ _ _ l (z.to (ae ζ2)) (y.to (ae ζ2))).mono ?_;rintro G D ⟨rfl,f⟩);go_roundw
         case rel=>exact⟨j+1,ω,by go_num,H,bel d (bel ζ2 f)⟩
         case measure=>simp[intOf];omega
     | first
        | guard_hyp kk2:True
          cases hsm:df a[j] b[j] with
           | false =>
            have t:Hid (eqL df a b=false):=gC _ a b j hlt c hsm;have l:=η hsm;clear hsm;go_wp2_with (go_at_call 112;refine (p j hlt c _ _ _ _ l (z.to (ae ζ2)) (y.to (ae ζ2))).mono ?_;rintro G D ⟨rfl,f⟩);go_ret;exact⟨by rw[t.o];first|rfl|(simp;done),bel d (bel ζ2 f)⟩
           | true =>
            have H:Hid (∀k (h:k<a.length) (h':k<b.length),k<j+1->df a[k] b[k]=true):=λk h h' hk=>by
             by_cases e:k=j
             ·subst e;exact hsm
             exact B k h h' ω
            have l:=η hsm;clear hsm;go_wp2_with (go_at_call 112;refine (p j hlt c _ _ _ _ l (z.to (ae ζ2)) (y.to (ae ζ2))).mono ?_;rintro G D ⟨rfl,f⟩);go_roundw
            case rel=>exact⟨j+1,ω,by go_num,H,bel d (bel ζ2 f)⟩
            case measure=>simp[intOf];omega
        | first
           | guard_hyp kk0:True
             cases hsm:cy a[j] b[j] with
              | false =>
               have t:Hid (eqL cy a b=false):=gC _ a b j hlt c hsm;have l:=η hsm;clear hsm;go_wp2_with (go_at_call 147;refine (p j hlt c _ _ _ _ l (z.to (ae ζ2)) (y.to (ae ζ2))).mono ?_;rintro G D ⟨rfl,f⟩);go_ret;exact⟨by rw[t.o];first|rfl|(simp;done),bel d (bel ζ2 f)⟩
              | true =>
               have H:Hid (∀k (h:k<a.length) (h':k<b.length),k<j+1->cy a[k] b[k]=true):=λk h h' hk=>by
                by_cases e:k=j
                ·subst e;exact hsm
                exact B k h h' ω
               have l:=η hsm;clear hsm;go_wp2_with (go_at_call 147;refine (p j hlt c _ _ _ _ l (z.to (ae ζ2)) (y.to (ae ζ2))).mono ?_;rintro G D ⟨rfl,f⟩);go_roundw
               case rel=>exact⟨j+1,ω,by go_num,H,bel d (bel ζ2 f)⟩
               case measure=>simp[intOf];omega
           | cases hsm:eQ a[j] b[j] with
              | false =>
               have t:Hid (eqL eQ a b=false):=gC _ a b j hlt c hsm;have l:=η hsm;clear hsm;go_wp2_with (go_at_call 109;refine (p j hlt c _ _ _ _ l (z.to (ae ζ2)) (y.to (ae ζ2))).mono ?_;rintro G D ⟨rfl,f⟩);go_ret;exact⟨by rw[t.o];first|rfl|(simp;done),bel d (bel ζ2 f)⟩
              | true =>
               have H:Hid (∀k (h:k<a.length) (h':k<b.length),k<j+1->eQ a[k] b[k]=true):=λk h h' hk=>by
                by_cases e:k=j
                ·subst e;exact hsm
                exact B k h h' ω
               have l:=η hsm;clear hsm;go_wp2_with (go_at_call 109;refine (p j hlt c _ _ _ _ l (z.to (ae ζ2)) (y.to (ae ζ2))).mono ?_;rintro G D ⟨rfl,f⟩);go_roundw
               case rel=>exact⟨j+1,ω,by go_num,H,bel d (bel ζ2 f)⟩
               case measure=>simp[intOf];omega
   have u1:=zF j a
   first
    | guard_hyp kk0:True
      have t:Hid (eqL cy a b=true):=eC _ a b T λk h h'=>B k h h' ω
    | guard_hyp kk1:True
      have t:Hid (eqL eQ a b=true):=eC _ a b T λk h h'=>B k h h' ω
    | guard_hyp kk2:True
      have t:Hid (eqL df a b=true):=eC _ a b T λk h h'=>B k h h' ω
    | have t:Hid (eqL cU a b=true):=eC _ a b T λk h h'=>B k h h' ω
   go_wp2;go_ret;exact⟨by rw[t.o];first|rfl|(simp;done),d⟩
 have t3:((a.length:Int) != (b.length:Int))=true:=by simp;omega
 first
  | guard_hyp kk0:True
    have R:Hid (eqL cy a b=false):=gB _ a b F
  | guard_hyp kk1:True
    have R:Hid (eqL eQ a b=false):=gB _ a b F
  | guard_hyp kk2:True
    have R:Hid (eqL df a b=false):=gB _ a b F
  | have R:Hid (eqL cU a b=false):=gB _ a b F
 clear F
 first
  | guard_hyp kk0:True
    go_in
  | guard_hyp kk1:True
    go_in
  | guard_hyp kk2:True
    go_in
  | go_in
 go_wp2;go_ret;exact⟨by rw[R.o];rfl,belR _⟩) :p:=h
variable {A':Option Addr} {q q':Nat}
def eqf_146 {a b:List Fld} {w:À} (h:SlR w (lo w) 4 (FldR w (lo w)) (.slice A a q) a) (h':SlR w (lo w) 4 (FldR w (lo w)) (.slice A' b q') b) (HC:∀(i:Nat) (hi:i<a) (hi':i<b) (cs cs':List Value) (W:À) (r:Bool),cy a[i] b[i]=r->FldR W (lo W) cs a[i]->FldR W (lo W) cs' b[i]->Calls prog 147 #[.agg cs.toArray,.agg cs'.toArray] W (aE r W)):
 Calls prog 146 #[.slice A a q,.slice A' b q',.func (.func 147) #[] #[]] w (aE (eqL cy a b) w):=by
 have kk0:=trivial;exact zfEqS
def eqf_108 {a b:List Ctr} {w:À} (h:SlR w (lo w) 2 (CtrR w (lo w)) (.slice A a q) a) (h':SlR w (lo w) 2 (CtrR w (lo w)) (.slice A' b q') b) (HC:∀(i:Nat) (hi:i<a) (hi':i<b) (cs cs':List Value) (W:À) (r:Bool),eQ a[i] b[i]=r->CtrR W (lo W) cs a[i]->CtrR W (lo W) cs' b[i]->Calls prog 109 #[.agg cs.toArray,.agg cs'.toArray] W (aE r W)):
 Calls prog 108 #[.slice A a q,.slice A' b q',.func (.func 109) #[] #[]] w (aE (eqL eQ a b) w):=by
 have kk1:=trivial;exact zfEqS
def eqf_148 {a b:List Ex} {w:À} (h:SlR w (lo w) 5 (ExR w (lo w)) (.slice A a q) a) (h':SlR w (lo w) 5 (ExR w (lo w)) (.slice A' b q') b) (HC:∀(i:Nat) (hi:i<a) (hi':i<b) (cs cs':List Value) (W:À) (r:Bool),df a[i] b[i]=r->ExR W (lo W) cs a[i]->ExR W (lo W) cs' b[i]->Calls prog 112 #[.agg cs.toArray,.agg cs'.toArray] W (aE r W)):
 Calls prog 148 #[.slice A a q,.slice A' b q',.func (.func 112) #[] #[]] w (aE (eqL df a b) w):=by
 have kk2:=trivial;exact zfEqS
def eqf_195 {a b:List St} {w:À} (h:SlR w (lo w) 9 (StR w (lo w)) (.slice A a q) a) (h':SlR w (lo w) 9 (StR w (lo w)) (.slice A' b q') b) (HC:∀(i:Nat) (hi:i<a) (hi':i<b) (cs cs':List Value) (W:À) (r:Bool),cU a[i] b[i]=r->StR W (lo W) cs a[i]->StR W (lo W) cs' b[i]->Calls prog 196 #[.agg cs.toArray,.agg cs'.toArray] W (aE r W)):
 Calls prog 195 #[.slice A a q,.slice A' b q',.func (.func 196) #[] #[]] w (aE (eqL cU a b) w):=by
 have kk3:=trivial;exact zfEqS
end
section
open Proofs.Tryz RowKit Maps WideMaps ChangeMaps
abbrev ex5 (op x m:Int) (s:Ê) (A:Option Addr) (n cap:Nat):Array Value:=#[op,x,m,s,.slice A n cap]
abbrev z3:Array Value:=ty3 0 ⟨#[]⟩ none 0 0
structure Pre (W:À) (own:Nat->Prop) (mb sb eb rb kc:Nat) (c:CB) (p:Pg) (sc:Sc) (op x m:Int) (s:Ê) (A:Option Addr) (kids:List Ex) (cap:Nat) (wv:Value) (want:Option Ty):Prop where
 env:Env W own mb sb c p sc
 or:own rb
 bx:Hs W eb 43 (ex5 op x m s A kids cap)
 be:¬own eb
 rs:Hs W rb 40 z3
 mr:mb≠rb
 kq:im own W kc
 kc:W.cell? kc=some (c.b:Vl)
 kids:ExsR W (im own W) (.slice A kids cap) kids
 want:WantR W (im own W) wv want
section
variable {W W':À} {own:Nat->Prop} {mb sb eb rb kc:Nat} {c:CB} {p:Pg} {sc sc':Sc} {op x m:Int} {s:Ê} {A:Option Addr} {kids:List Ex} {cap:Nat} {wv:Value} {want:Option Ty}
def Pre.stp (h:Pre W own mb sb eb rb kc c p sc op x m s A kids cap wv want) (hs:Stm mb W W') (hsc:ScS W' own mb sb sc'):Pre W' own mb sb eb rb kc c p sc' op x m s A kids cap wv want:=
 have S:=hs.subO h.env.mb.1
 ⟨h.env.stp hs hsc,h.or,h.bx.stp hs (λe=>h.be (by unfold only at e;rw[e];exact h.env.mb.1)),h.be,h.rs.stp hs (λe=>h.mr (by unfold only at e;exact e.symm)),h.mr,(S _ h.kq).1,au h.kc S h.kq,ExsR.to h.kids S,h.want.to S⟩
def Pre.bel (h:Pre W own mb sb eb rb kc c p sc op x m s A kids cap wv want) (hs:Below W W W'):Pre W' own mb sb eb rb kc c p sc op x m s A kids cap wv want:=h.stp (Stm.of_below hs) (h.env.sco.below hs)
def Pre.start {w:À} (he:Env w own mb sb c p sc) (hk:im own w kc) (hkc:w.cell? kc=some (c.b:Vl)) (hx:ExsR w (im own w) (.slice A kids cap) kids) (hw:WantR w (im own w) wv want) :
 Pre ((w.alloc (.cells (ex5 op x m s A kids cap) 43)).alloc (.cells z3 40)) (plus own (w+1)) mb sb w (w+1) kc c p sc op x m s A kids cap wv want:=by
 have B:Below w w ((w.alloc (.cells (ex5 op x m s A kids cap) 43)).alloc (.cells z3 40)):=belA ζ1 _;have S:=aV (own:=own) (g:=w+1) B ω;have a:=he.mb.2;refine⟨he.plus B ω Θ,.inr rfl,(Hs.new w 43 _).alloc _,?_,Hs.new' w _ _,ω,(S _ hk).1,au hkc S hk,ExsR.to hx S,hw.to S⟩;rintro (h|h)
 ·have:=he.ol _ h;omega
 omega
end
def aO (p:Pg) (n:Nat):Prop:=∀(sc:Sc) (e:Ex) (want:Option Ty) (t:Ty),ScOk p sc->aL want->aa p n sc e want=some t->ag t=true
def cO (w:À) (Q:Nat->Prop) (k:Int) (hk:i64 k):TyR w Q [.int .i64 k,"",.slice none 0 0] (bTy k):=TyR.of hk π SlR.nil
section
variable {w':À}
def Stp.wk {own own':Nat->Prop} {w:À} (h:Stp own w w') (hx:∀b,own b->own' b):Stp own' w w':=⟨h.os,h.tape,h.output,h.size,λk hk ho=>h.block k hk (λx=>ho (hx k x))⟩
def ad (w:À):Below w w w.drew:=(Below.refl _ _).drew
def smDr (mb:Nat) (w:À):Stm mb w w.drew:=Stm.of_below (ad w)
def bq (own:Nat->Prop) (w:À):Stp own w w.drew:=Stp.of_below (ad w)
variable {W0:À} {a:Addr} {v:Value}
def stpC {mb:Nat} (h:W0.cell? a=some v) (hn:a.block≠mb):∀W,Stm mb W0 W->W.cell? a=some v:=λW hs=>(hs.s.cell (World.block_lt_of_cell? W0 a h) (λe=>hn e)).trans h
variable {rb:Nat}
def aD {mb:Nat} (h:W0.cell? a=some v) (hn:a.block≠mb) (hr:a.block≠rb):∀W,Stp (plus (only mb) rb) W0 W->W.cell? a=some v:=λW hs=>(hs.cell (World.block_lt_of_cell? W0 a h) (λe=>by rcases e with e|e;exact hn e;exact hr e)).trans h
variable {W:À}
def stpR {mb:Nat} (h:Stp (plus (only mb) rb) W0 W) (k:Int) (s:Ê) (A:Option Addr) (n cap:Nat):Stp (plus (only mb) rb) W0 (set3 W rb k s A n cap):=
 ⟨h.os,h.tape,h.output,by rw[bQ];exact h.size,λi hi ho=>(aq W rb i k s A n cap (λe=>ho (.inr e))).trans (h.block i hi ho)⟩
variable {sb:Nat} {sc:Sc} {k:Int} {A:Option Addr}
def bo {w:À} {own:Nat->Prop} {mb:Nat} {t:Ty} {s:Ê} {n cap:Nat} (hs:Stm mb w W) (hr:w<=rb) (hmr:mb≠rb) (ho:own mb) (ht:TyR W (im (plus own rb) W) [.int .i64 k,.string s,.slice A n cap] t) (hsc:ScS W (plus own rb) mb sb sc):
 ResF w own mb sb sc (some t) (.returned (.tuple #[ty3 k s A n cap,true])) (set3 W rb k s A n cap):=
 ⟨smS hs hr hmr _ _ _ _ _,_,_,_,_,_,rfl,ht.to (aG _ _ _ _ _),hsc.sub (aG _ _ _ _ _) (aq _ _ _ _ _ _ _ _ hmr) ho⟩
def aB {w:À} {own:Nat->Prop} {mb:Nat} {s:Ê} {n cap:Nat} (hs:Stm mb w W) (hr:w<=rb) (hmr:mb≠rb):ResF w own mb sb sc none (.returned (.tuple #[ty3 k s A n cap,false])) (set3 W rb k s A n cap):=
 ⟨smS hs hr hmr _ _ _ _ _,_,_,_,_,_,rfl⟩
def Got (Wk:À) (own:Nat->Prop) (mb sb:Nat) (sc:Sc) (r:Option Ty) (v1 v2:Value) (W:À):Prop:=
 Stm mb Wk W/\∃b k s A n cap,v1=.pointer (some ⟨b,0,none⟩)/\Wk.heap.size<=b/\Hs W b 40 (ty3 k s A n cap)/\v2=.bool r.isSome/\∀t,r=some t->TyR W (im own W) [.int .i64 k,.string s,.slice A n cap] t/\ScS W own mb sb sc
def rK (Wk:À) (own:Nat->Prop) (mb sb:Nat) (sc:Sc) (r:Option Ty) (e:Ending) (W:À):Prop:=
 ∃k s A n cap,e=.returned (.tuple #[.agg #[.int .i64 k,.string s,.slice A n cap],r.isSome])/\Stm mb Wk W/\∀t,r=some t->TyR W (im own W) [.int .i64 k,.string s,.slice A n cap] t/\ScS W own mb sb sc
def rJ (Wk:À) (own:Nat->Prop) (mb sb:Nat) (sc:Sc) (r:Option Ty) (e:Ending) (W:À):Prop:=
 ∃k s A n cap,e=.returned (.tuple #[.agg #[.int .i64 k,.string s,.slice A n cap],r.isSome])/\Stm mb Wk W/\Hs W Wk 40 z3/\∀t,r=some t->TyR W (im (plus own Wk) W) [.int .i64 k,.string s,.slice A n cap] t/\ScS W (plus own Wk) mb sb sc
variable {Wk:À} {r:Option Ty}
def fV {own:Nat->Prop} {mb:Nat} {e:Ending} {W':À} (h:Res W own mb sb sc r e W') (hb:Below Wk Wk W):rK Wk own mb sb sc r e W':=by
 obtain⟨d,h⟩:=h;have S:=(Stm.of_below (mb:=mb) hb).trans d
 cases r with
 | none=>exact⟨_,_,_,_,_,h,S,λt a=>by cases a⟩
 | some t =>
  obtain⟨k,s,A,n,cap,f,a,b⟩:=h;exact⟨k,s,A,n,cap,f,S,λu hu=>by injection hu with hu;subst hu;exact⟨a,b⟩⟩
def fg {own:Nat->Prop} {mb:Nat} {e:Ending} {W':À} (h:Res (Wk.drew.alloc (.cells z3 40)) (plus own Wk) mb sb sc r e W') (hm:mb<Wk):rJ Wk own mb sb sc r e W':=by
 have j:Below Wk Wk (Wk.drew.alloc (.cells z3 40)):=belA (ad Wk) _;have g:Hs (Wk.drew.alloc (.cells z3 40)) Wk 40 z3:=Hs.new Wk.drew 40 z3;obtain⟨d,h⟩:=h;have S:=(Stm.of_below (mb:=mb) j).trans d;have f:=g.stp d Ω
 cases r with
 | none=>exact⟨_,_,_,_,_,h,S,f,λt a=>by cases a⟩
 | some t =>
  obtain⟨k,s,A,n,cap,i,a,b⟩:=h;exact⟨k,s,A,n,cap,i,S,f,λu hu=>by injection hu with hu;subst hu;exact⟨a,b⟩⟩
def gotA {own:Nat->Prop} {mb:Nat} {s:Ê} {n cap:Nat} (hs:Stm mb Wk W) (ht:∀t,r=some t->TyR W (im own W) [.int .i64 k,.string s,.slice A n cap] t/\ScS W own mb sb sc):
 Got Wk own mb sb sc r (W:Vl) (r.isSome:Vl) (W.alloc (.cells (ty3 k s A n cap) 40)):=
 ⟨smA hs _,_,_,_,_,_,_,rfl,hs.size,Hs.new _ _ _,rfl,λt h=>⟨(ht t h).1.to (sof ζ1).sub,(ht t h).2.below ζ1⟩⟩
def gotB {own:Nat->Prop} {mb:Nat} {s:Ê} {n cap:Nat} (hs:Stm mb Wk W) (hm:mb<Wk) (ho:own mb) (hh:Hs W Wk 40 z3) (ht:∀t,r=some t->TyR W (im (plus own Wk) W) [.int .i64 k,.string s,.slice A n cap] t/\ScS W (plus own Wk) mb sb sc):
 Got Wk own mb sb sc r (Wk:Vl) (r.isSome:Vl) (set3 W Wk k s A n cap):=
 ⟨smS hs (υ _) ω _ _ _ _ _,_,_,_,_,_,_,rfl,υ _,hh.set3 _ _ _ _ _,rfl,λt h=>⟨(ht t h).1.to (aG _ _ _ _ _),(ht t h).2.sub (aG _ _ _ _ _) (aq _ _ _ _ _ _ _ _ ω) ho⟩⟩
section
variable {W:À} {own:Nat->Prop} {mb sb eb rb kc:Nat} {c:CB} {p:Pg} {sc:Sc} {op x m:Int} {s:Ê} {A:Option Addr} {kids:List Ex} {cap:Nat} {wv:Value} {want:Option Ty} {n:Nat}
section
variable {cs:List Value}
def exprA (IH:xG c p mb n) (h:Pre W own mb sb eb rb kc c p sc op x m s A kids cap wv want) (ho:ScOk p sc) (hwo:aL want) {e:Ex} (hd:Ex.deep e<=n) (hr:ExR W (im own W) cs e):
 Calls prog 141 #[c.b,sb,cs.toArray,wv] W.drew (rK W own mb sb sc (aa p n sc e want)):=
 (IH own sb sc cs e wv want _ hd (h.env.bel (ad W)) ho (hr.to (sof (ad W)).sub) (h.want.to (sof (ad W)).sub) hwo).mono λ_ _ hx=>fV hx (ad W)
def exprB (IH:xG c p mb n) (h:Pre W own mb sb eb rb kc c p sc op x m s A kids cap wv want) (ho:ScOk p sc) (hwo:aL want) {e:Ex} (hd:Ex.deep e<=n) (hr:ExR W (im own W) cs e):
 Calls prog 141 #[c.b,sb,cs.toArray,wv] ((W.alloc (.cells z3 40)).drew) (rJ W own mb sb sc (aa p n sc e want)):=
 have B:Below W W ((W.alloc (.cells z3 40)).drew):=belA (ad W) _
 (IH (plus own W) sb sc cs e wv want _ hd (h.env.plus B (υ _) Θ) ho (hr.to (aV B (υ _))) (h.want.to (aV B (υ _))) hwo).mono λ_ _ hx=>fg hx h.env.mb.2
def hasA (IH:xG c p mb n) (h:Pre W own mb sb eb rb kc c p sc op x m s A kids cap wv want) (ho:ScOk p sc) {e:Ex} (hd:Ex.deep e<=n) (hr:ExR W (im own W) cs e):
 Calls prog 170 #[c.b,sb,cs.toArray] W.drew (rK W own mb sb sc (aa p n sc e none)):=
 (fk IH hd (h.env.bel (ad W)) ho (hr.to (sof (ad W)).sub)).mono λ_ _ hx=>fV hx (ad W)
def hasB (IH:xG c p mb n) (h:Pre W own mb sb eb rb kc c p sc op x m s A kids cap wv want) (ho:ScOk p sc) {e:Ex} (hd:Ex.deep e<=n) (hr:ExR W (im own W) cs e):
 Calls prog 170 #[c.b,sb,cs.toArray] ((W.alloc (.cells z3 40)).drew) (rJ W own mb sb sc (aa p n sc e none)):=
 have B:Below W W ((W.alloc (.cells z3 40)).drew):=belA (ad W) _
 (fk IH hd (h.env.plus B (υ _) Θ) ho (hr.to (aV B (υ _)))).mono λ_ _ hx=>fg hx h.env.mb.2
end
end
set_option maxRecDepth 100000
set_option maxHeartbeats 2000000
variable {l:List (List UInt8)}
def qh {s:List UInt8} (h:idxP l s=none):idxF l l s=none:=by unfold idxF;rw[show cB l l s=none from h];rfl
variable {i:Nat}
def uY {s:List UInt8} (h:idxP l s=some i):idxF l l s=some (.int .i64 (i:Nat)):=by unfold idxF;rw[show cB l l s=some i from h];rfl
def ty_lt {p:Pg} {s:List UInt8} (h:idxP p.tyNames s=some i):i<p.types:=by
 have:=(cg _ _ _ _ h).1;simpa[Pg.tyNames] using this
def ac_lt {p:Pg} {s:List UInt8} (h:idxP p.acNames s=some i):i<p.actors:=by
 have:=(cg _ _ _ _ h).1;simpa[Pg.acNames] using this
def RecSaid (w:À) (Q:Nat->Prop) (r:Option (List Fld)) (e:Ending) (w':À):Prop:=
 Below w w w'/\match r with
  | none=>e=.returned (.tuple #[(),false])
  | some fs=>∃A cap,e=.returned (.tuple #[.slice A fs cap,true])/\FldsR w Q (.slice A fs cap) fs
def VarSaid (w:À) (Q:Nat->Prop) (r:Option (List Ctr)) (e:Ending) (w':À):Prop:=
 Below w w w'/\match r with
  | none=>e=.returned (.tuple #[(),false])
  | some fs=>∃A cap,e=.returned (.tuple #[.slice A fs cap,true])/\CtrsR w Q (.slice A fs cap) fs
section
variable (c:CB) (p:Pg) (Q:Nat->Prop) (cs:List Value) (t:Ty) (w:À) (Q':Nat->Prop) (hck:ChkR w Q c p) (hq:c.b<w)
include c p Q cs t w Q' hck hq
theorem xE (hF:Fine p) (hr:TyR w Q' cs t):Calls prog 166 #[c.b,cs.toArray] w (RecSaid w Q (recP p t)):=by
 obtain⟨k,s,a,A,cap,rfl,rfl,_,F,U⟩:=ap hr;have c4:=hck.c4;obtain⟨X,O,z⟩:=hck.types.form;have J:=hck.c0;rw[z] at J;have V:Hid (SlR w Q 3 (DclR w Q) (.slice X p.types O) p.types):=by rw[<-z];exact hck.types
 have B:Hid (recP p (.mk k s a)=if k=6 then (match idxP p.tyNames s.data.toList with|none=>none|some i=>match p.types[i]? with|none=>none|some d=>if d.record then (match d.ctors with|[]=>none|c::_=>some c.fields) else none) else none):=rfl;have u:∀m,(Instr.lookup 101 (.map (some c.bt)) (s:Vl) true).run prog ((w.alloc (.cells #[k,s,.slice A a cap] 40)).drewN m)=.ok (.tuple #[(idxF p.tyNames p.tyNames s.data.toList).getD (.int .i64 0),.bool (idxF p.tyNames p.tyNames s.data.toList).isSome]) ((w.alloc (.cells #[k,s,.slice A a cap] 40)).drewN m):=λm=>ck (fH (hck.mt.alloc _) m) F;by_cases j:k=6
 ·subst j
  cases hix:idxP p.tyNames s.data.toList with
  | none =>
   have e:Hid (recP p (.mk 6 s a)=none):=by show _=_;rw[B.o,if_pos rfl,hix]
   rw[qh hix] at u;go_in;go_wp2_with fail;go_quiet (fail);go_wp2;go_ret2;rw[e.o];exact⟨bM _ ζ1,rfl⟩
  | some i =>
   have f:=ty_lt hix;have l:recP p (.mk 6 s a)=if p.types[i].record then (match p.types[i].ctors with|[]=>none|c::_=>some c.fields) else none:=by rw[B.o,if_pos rfl,hix];simp only;rw[ξ f]
   rw[uY hix] at u;obtain⟨g,Y,A1,q1,rfl,hg,R,E,p2,q,r,h⟩:=fF V f;have I:=World.block_lt_of_cell? w _ R;simp only at I;have i1:(0:Int)<=(i:Int):=ω;have i2:(i:Int)<(p.types.length:Int):=ω
   cases hrec:p.types[i].record with
   | false =>
    have e:Hid (recP p (.mk 6 s a)=none):=by show _=_;rw[l,hrec];rfl
    rw[hrec] at E;go_in;go_wp2_with fail;go_quiet (fail);go_wp2;go_ret2;rw[e.o];exact⟨bM _ ζ1,rfl⟩
   | true =>
    rw[hrec] at E;have x:=hF.recs i f hrec;obtain⟨g2,T,W,N,rfl,aa,D,M,G,H,v⟩:=ew h x;simp only[Nat.zero_mul,Nat.add_zero] at D M;have y:=World.block_lt_of_cell? w _ D;simp only at y
    have e:Hid (recP p (.mk 6 s a)=some p.types[i].ctors[0].fields):=by
     show _=_;rw[l,hrec];match hc:p.types[i].ctors,x with
     | J::rest,_=>simp[hc]
    have L:=η v;go_in;go_wp2_with fail;go_quiet (fail);go_wp2;go_ret2;rw[e.o];exact⟨bM _ ζ1,W,N,rfl,L⟩
 have e:Hid (recP p (.mk k s a)=none):=by show _=_;rw[B.o,if_neg j]
 have Z:(k != 6)=true:=by simpa using j
 go_in;go_wp2;go_ret2;rw[e.o];exact⟨ζ1,rfl⟩
theorem xF (hr:TyR w Q' cs t):Calls prog 173 #[c.b,cs.toArray] w (VarSaid w Q (varP p t)):=by
 obtain⟨k,s,a,A,cap,rfl,rfl,_,z,H⟩:=ap hr;have X:=hck.c4;obtain⟨M,F,v⟩:=hck.types.form;have I:=hck.c0;rw[v] at I;have J:Hid (SlR w Q 3 (DclR w Q) (.slice M p.types F) p.types):=by rw[<-v];exact hck.types
 have x:Hid (varP p (.mk k s a)=if k=6 then (match idxP p.tyNames s.data.toList with|none=>none|some i=>match p.types[i]? with|none=>none|some d=>if d.record then none else some d.ctors) else none):=rfl;have r:∀m,(Instr.lookup 101 (.map (some c.bt)) (s:Vl) true).run prog ((w.alloc (.cells #[k,s,.slice A a cap] 40)).drewN m)=.ok (.tuple #[(idxF p.tyNames p.tyNames s.data.toList).getD (.int .i64 0),.bool (idxF p.tyNames p.tyNames s.data.toList).isSome]) ((w.alloc (.cells #[k,s,.slice A a cap] 40)).drewN m):=λm=>ck (fH (hck.mt.alloc _) m) z;by_cases h:k=6
 ·subst h
  cases hix:idxP p.tyNames s.data.toList with
  | none =>
   have e:Hid (varP p (.mk 6 s a)=none):=by show _=_;rw[x.o,if_pos rfl,hix]
   rw[qh hix] at r;go_in;go_wp2_with fail;go_quiet (fail);go_wp2;go_ret2;rw[e.o];exact⟨bM _ ζ1,rfl⟩
  | some i =>
   have u:=ty_lt hix;have j:varP p (.mk 6 s a)=if p.types[i].record then none else some p.types[i].ctors:=by rw[x.o,if_pos rfl,hix];simp only;rw[ξ u]
   rw[uY hix] at r;obtain⟨g,N,L,E,rfl,W,G,y,R,l,q,f⟩:=fF J u;have B:=World.block_lt_of_cell? w _ G;simp only at B;have V:(0:Int)<=(i:Int):=ω;have U:(i:Int)<(p.types.length:Int):=ω
   cases hrec:p.types[i].record with
   | true =>
    have e:Hid (varP p (.mk 6 s a)=none):=by show _=_;rw[j,hrec];rfl
    rw[hrec] at y;go_in;go_wp2_with fail;go_quiet (fail);go_wp2;go_ret2;rw[e.o];exact⟨bM _ ζ1,rfl⟩
   | false =>
    rw[hrec] at y;have e:Hid (varP p (.mk 6 s a)=some p.types[i].ctors):=by show _=_;rw[j,hrec];rfl
    have D:=η f;go_in;go_wp2_with fail;go_quiet (fail);go_wp2;go_ret2;rw[e.o];exact⟨bM _ ζ1,L,E,rfl,D⟩
 have e:Hid (varP p (.mk k s a)=none):=by show _=_;rw[x.o,if_neg h]
 have O:(k != 6)=true:=by simpa using h
 go_in;go_wp2;go_ret2;rw[e.o];exact⟨ζ1,rfl⟩
end
def fd (A:Option Addr) (cap k size:Nat):Option Addr:=if cap=k then A else A.map (·.add (k*size))
variable {P:Nat->Prop}
def SlR.from {α:Type} {w:À} {size:Nat} {R:List Value->α->Prop} {n cap:Nat} {l:List α} (h:SlR w P size R (.slice A n cap) l) (k:Nat) (hk:k<=l):SlR w P size R (.slice (fd A cap k size) (l.drop k).length (cap-k)) (l.drop k):=by
 obtain⟨y,v,p,e,x,q,b⟩:=h;injection e with e1 e2 e3;subst e1 e2 e3;refine⟨_,cap-k,λi=>p (k+i),rfl,⟨by rw[List.length_drop];omega,by rw[List.length_drop];omega⟩,λhn=>?_,λi hi=>?_⟩
 ·rw[List.length_drop] at hn;obtain⟨g,a,t,r,f⟩:=q ω;refine⟨g,a+k*size,?_,r,λi hi=>⟨(f (k+i) (by rw[List.length_drop] at hi;omega)).1,λj u hu=>?_⟩⟩
  ·unfold fd;rw[if_neg ω,t];simp[Addr.add]
  have:=(f (k+i) (by rw[List.length_drop] at hi;omega)).2 j u hu;rw[show a+k*size+i*size+j=a+(k+i)*size+j by rw[Nat.add_mul];omega];exact this
 have d:k+i<l:=by rw[List.length_drop] at hi;omega
 have:=b (k+i) d;simpa[List.getElem_drop] using this
def SlR.upto {α:Type} {w:À} {size:Nat} {R:List Value->α->Prop} {n cap:Nat} {l:List α} (h:SlR w P size R (.slice A n cap) l) (k:Nat) (hk:k<=l):SlR w P size R (.slice A (l.take k).length cap) (l.take k):=by
 obtain⟨v,t,f,e,u,j,b⟩:=h;injection e with e1 e2 e3;subst e1 e2 e3;refine⟨A,cap,f,rfl,⟨by rw[List.length_take];omega,by rw[List.length_take];omega⟩,λhn=>?_,λi hi=>?_⟩
 ·rw[List.length_take] at hn;obtain⟨g,a,r,p,q⟩:=j ω;exact⟨g,a,r,p,λi hi=>q i (by rw[List.length_take] at hi;omega)⟩
 have d:i<l.length:=by rw[List.length_take] at hi;omega
 have:=b i d;simpa[List.getElem_take] using this
def size43 (w:À):(sizeOf 43).run prog w=.ok 5 w:=by kernel_rfl
def uN (w:À):(sizeOf 118).run prog w=.ok 4 w:=by kernel_rfl
def eH (w:À) (A:Option Addr) (len cap k:Nat) (h:k<=len):(Instr.slice 41 (.slice A len cap) (some (.int .i64 (k:Int))) none none).run prog w=.ok (.slice (fd A cap k 5) (len-k) (cap-k)) w:=by
 have a:(0:Int)<=(k:Int)/\(k:Int)<=(len:Int):=ω;simp[Instr.slice,run_underlying underlying41,Instr.sliceBounds,Instr.sliceBound,asIntOf,size43,Result.andThen,h,a,fd]
def belW (h:W0.cell? a=some v):∀W,Below W0 W0 W->W.cell? a=some v:=λ_ hb=>belC hb h
def belS {g:Nat} (h:Below W0 W0 W) (hg:W0<=g) (k:Int) (s:Ê) (A:Option Addr) (n cap:Nat):Below W0 W0 (set3 W g k s A n cap):=
 ⟨h.os,h.tape,h.output,by rw[bQ];exact h.size,λi hi=>(aq W g i k s A n cap ω).trans (h.block i hi)⟩
def xq {c:CB} {p:Pg} {mb:Nat} {own:Nat->Prop} {op x m:Int} {s:Ê} {kids:List Ex} {cap:Nat} {wv:Value} {w:À} (he:Env w own mb sb c p sc) (hi:i64 x):
 Calls prog 160 #[sb,ex5 op x m s A kids cap,wv] w (ResF w own mb sb sc (sc.bound x)):=by
 have HO:=η he.mb.1;have ae:=he.mb.2;obtain⟨a,b⟩:=γ ((w.alloc (.cells #[op,x,m,.string s,.slice A kids cap] 43)).alloc (.cells #[(0:Int),"",()] 40))
 have I:Below w w a:=by rw[b];exact ζ2
 have F:Hs a w 43 (ex5 op x m s A kids cap):=by rw[b];exact (Hs.new _ _ _).alloc _
 have L:Hs a (w+1) 40 z3:=by rw[b];exact Hs.new' _ _ _
 have ac:w.heap.size+2=a:=by rw[b];simp
 obtain⟨T,H,M,R⟩:=zd4 I L b (he.plus I (g:=w+1) ω ω);obtain⟨nn,i,va,ks,f⟩:=R.sco;have U:=belW f.c1;have X:=belW (F.c 1);have J:∀W,Below a a W->(Instr.lookup 176 (.map (some mb)) (x:Vl) true).run prog W=.ok (.tuple #[(i x).getD (.agg #[(0:Int),"",()]),.bool (i x).isSome]) W:=λW hb=>np (f.below hb).map hi;have d:=f.val x;have O:Hid (ScS a (plus own (w+1)) mb sb sc):=⟨_,_,_,_,f⟩
 clear he hi F I b f;obtain⟨r,j⟩:=γ (sc.bound x)
 rw[<-j] at d;rw[<-j];clear j
 obtain⟨k3,s3,A3,n3,Z,D,E,q⟩:∃k s A n cap,(i x).getD (.agg #[(0:Int),"",()])=.agg #[.int .i64 k,.string s,.slice A n cap]/\(i x).isSome=r.isSome/\∀t,r=some t->TyR a (im (plus own (w+1)) a) [.int .i64 k,.string s,.slice A n cap] t:=by
  cases r with
  | none =>
   have V:i x=none:=by cases hx:i x with|none=>rfl|some _=>rw[hx] at d;exact d.elim
   rw[V];exact⟨0,_,_,_,_,rfl,rfl,λt h=>by cases h⟩
  | some t =>
   cases hx:i x with
   | none=>rw[hx] at d;exact d.elim
   | some v =>
    rw[hx] at d;obtain⟨k,s,A,n,cap,e,j⟩:=d;exact⟨k,s,A,n,cap,by rw[e];rfl,rfl,λu h=>by injection h with h;subst h;exact j⟩
 rw[D,E] at J;have N:=η q;clear d D E q;go_in;go_wp2_with fail;rw[<-M.o];go_cut [8,9] (λv1 v2 W=>Hid (Got a (plus own (w+1)) mb sb sc r v1 v2 W))
 case first =>
  refine tkB (λW=>Below a a W) (ad _) (λhHeld=>?_);refine θ ?_;refine tkE 10 (λK hK=>?_);go_simp;refine tkR hK ?_ (λhHeld=>?_)
  ·exact belA ι _
  clear hK K;refine tkE 11 (λK hK=>?_);go_simp;refine tkR hK ?_ (λhHeld=>?_)
  ·first|exact belA (ad _) _|exact belS ι ω _ _ _ _ _
  clear hK K;refine tkQ 12 ?_;refine tkD ?_;go_wp2;go_meet;exact gotA (smDr mb a) (λt h=>⟨(N t h).to (sof (ad a)).sub,O.below (ad a)⟩)
 case rest =>
 clear J U X;obtain⟨z,tb,k4,s4,A4,n4,Y,rfl,ab,B,rfl,y⟩:=hcut.o;obtain⟨l,G⟩:=zd2 z y;obtain⟨y0,y1,y2,_,_,_⟩:=B.facts;obtain⟨z0,z1,z2,q0,q1,q2⟩:=(H.stp l Ω).facts;clear hcut z B y
 cases r with
 | none =>
  go_wp2;exact bodyPost_ret (am results160 _ _ (w+1) _ _ _ _ _ rfl ((H.stp l Ω).set3 _ _ _ _ _)) rfl (aB ((Stm.of_below T).trans l) ω ω)
 | some t =>
  go_wp2;exact bodyPost_ret (am results160 _ _ (w+1) _ _ _ _ _ rfl ((H.stp l Ω).set3 _ _ _ _ _)) rfl (bo ((Stm.of_below T).trans l) ω ω HO (G t rfl).1 (G t rfl).2)
def clo_if {c:CB} {p:Pg} {mb n:Nat} (IH:xG c p mb n) (hF:aO p n) {own:Nat->Prop} {kc:Nat} {op x m:Int} {s:Ê} {kids:List Ex} {cap:Nat} {wv:Value} {want:Option Ty} {w:À} (hd:∀k∈kids,Ex.deep k<=n) (he:Env w own mb sb c p sc) (ho:ScOk p sc) (hk:im own w kc) (hkc:w.cell? kc=some (c.b:Vl)) (hx:ExsR w (im own w) (.slice A kids cap) kids) (hw:WantR w (im own w) wv want) (hwo:aL want) (hl:kids.length=3):
 Calls prog 175 #[sb,ex5 op x m s A kids cap,wv,kc] w (ResF w own mb sb sc (fIf (aa p n) sc want kids)):=by
 obtain⟨HP,L,HD,HF,E,HO,HW⟩:=zd7 (Pre.start (op:=op) (x:=x) (m:=m) (s:=s) he hk hkc hx hw) IH hd hF ho he.mb.1 hwo;have cg:=he.mb.2;have i0:0<kids.length:=ω;have i1:1<kids.length:=ω;have i2:2<kids.length:=ω;have j0:(0:Int)<(kids.length:Int):=ω;have j1:(1:Int)<(kids.length:Int):=ω;have j2:(2:Int)<(kids.length:Int):=ω
 have HV:Hid (fIf (aa p n) sc want kids=if isE (aa p n) sc kids[0] (bTy 2) then (match aa p n sc kids[1] want with|none=>none|some t=>if isE (aa p n) sc kids[2] t then some t else none) else none):=by
  match kids,hl with
  | [a,b,cc],_=>rfl
 obtain⟨F,U⟩:=γ ((w.alloc (.cells #[op,x,m,s,.slice A kids cap] 43)).alloc (.cells #[(0:Int),"",()] 40))
 replace HP:=η HP.o;have z:Hid (Pre F (plus own (w+1)) mb sb w (w+1) kc c p sc op x m s A kids cap wv want):=by rw[U];exact HP
 have ae:Hid (Stm mb w F):=by rw[U];exact Stm.of_below ζ2
 have bt:w.heap.size+2<=F:=by rw[U];simp
 have bv:=η U;have ak:kc≠mb:=λe=>hk.2 (by rw[e];exact he.mb.1);clear hd he ho hk hkc hx hw hwo hl IH HP U hF;go_in;go_wp2_with fail;rw[<-bv.o];have c1:=stpC (mb:=mb) z.kc ak;have b4:=stpC (mb:=mb) (z.bx.c 4) Φ;obtain⟨g,ab,o1,x1,m1,s1,a1,B1,a7,rfl,hg,Y,u,r,q,l,j,O⟩:=aQ z.kids i0;have d:g≠mb:=λe=>hg.2 (by rw[e];exact .inl HO);simp only[Nat.zero_mul,Nat.add_zero] at u r q l j;replace u:=stpC u d;replace r:=stpC r d;replace q:=stpC q d;replace l:=stpC l d;replace j:=stpC j d;have HR:=η O;clear O Y
 cases h1:isE (aa p n) sc kids[0] (bTy 2) with
 | false =>
  have Z:Hid (fIf (aa p n) sc want kids=none):=by show _=_;rw[HV.o,h1];rfl
  have H1:=η h1;clear h1
  go_region_held3 (λW=>Stm mb F W) (first|exact bq _ _|exact smDr _ _|exact Stm.trans ι (Stm.of_below f)|exact Stm.trans ι B)
   (first|(go_at_call 176;refine (aU _ _).mono ?_;rintro Y w1 ⟨rfl,f⟩)|(go_at_call 105;refine (bA L (HD _ (ν i0)) (z.env.bel (bel (ad _) f)) E (HR.to (sof (bel (ad _) f)).sub) (cO _ _ 2 Ψ) rfl).mono ?_;rw[H1.o];rintro e2 V ⟨rfl,B,M⟩))
  have N:=η ((Stm.of_below (bel (ad F) f)).trans B);obtain⟨z0,z1,z2,q0,q1,q2⟩:=(z.rs.stp N Ω).facts;clear B M c1 b4 u r q l j f;go_wp2;rw[Z.o];exact bodyPost_ret (am results175 _ _ (w+1) _ _ _ _ _ rfl ((z.rs.stp N Ω).set3 _ _ _ _ _)) rfl (aB (ae.trans N) ω ω)
 | true =>
  have a9:Hid (fIf (aa p n) sc want kids=match aa p n sc kids[1] want with|none=>none|some t=>if isE (aa p n) sc kids[2] t then some t else none):=by show _=_;rw[HV.o,h1];rfl
  have H1:=η h1;clear h1
  go_region_held3 (λW=>Stm mb F W) (first|exact bq _ _|exact smDr _ _|exact Stm.trans ι (Stm.of_below f)|exact Stm.trans ι B)
   (first|(go_at_call 176;refine (aU _ _).mono ?_;rintro Y w1 ⟨rfl,f⟩)|(go_at_call 105;refine (bA L (HD _ (ν i0)) (z.env.bel (bel (ad _) f)) E (HR.to (sof (bel (ad _) f)).sub) (cO _ _ 2 Ψ) rfl).mono ?_;rw[H1.o];rintro e2 V ⟨rfl,B,M⟩))
  have N:=η ((Stm.of_below (bel (ad F) f)).trans B);have y:=η (z.stp N (M Υ));clear B M c1 b4 u r q l j f;go_wp2_with fail;have ce:w.heap.size+2<=V:=ψ bt N.size;have c1:=stpC (mb:=mb) y.kc ak;have b4:=stpC (mb:=mb) (y.bx.c 4) Φ;obtain⟨g',X,o1,x1,m1,s1,a1,B1,a7,hA,ac,Y,u,r,q,l,j,O⟩:=aQ y.kids i1;obtain⟨rfl,rfl⟩:g=g'/\ab=X:=by simpa using hA
  simp only[Nat.one_mul] at u r q l j;replace u:=stpC u d;replace r:=stpC r d;replace q:=stpC q d;replace l:=stpC l d;replace j:=stpC j d;have aq:=η O;clear O Y hA ac;obtain⟨r1,a6⟩:=γ (aa p n sc kids[1] want)
  have D:=η a6;clear a6;go_cut [9,10] (λv1 v2 W=>Hid (Got V (plus own (w+1)) mb sb sc r1 v1 v2 W))
  case first =>
   go_region_held3 (λW=>Stm mb V W) (first|exact bq _ _|exact smDr _ _|exact v|exact smA ι _|exact (smA (Stm.refl _ _) _).trans (smDr _ _)|exact smS v (υ _) ω _ _ _ _ _)
    (first|(go_at_call 141;refine (exprB L y E HW (HD _ (ν i1)) aq).mono ?_;rw[<-D.o];rintro e3 w3 ⟨k3,s3,A3,n3,an,rfl,v,R,I⟩;obtain⟨z0,z1,z2,q0,q1,q2⟩:=R.facts)|(go_at_call 141;refine (exprA L y E HW (HD _ (ν i1)) aq).mono ?_;rw[<-D.o];rintro e3 w3 ⟨k3,s3,A3,n3,an,rfl,v,I⟩))
   all_goals
    go_wp2;go_meet;first|exact gotA v I|exact gotB v ω (.inl HO) R I
  case rest =>
  clear c1 b4 u r q l j aq;obtain⟨v,tb,k3,s3,A3,n3,an,rfl,cf,R,rfl,I⟩:=hcut.o;obtain⟨S3,b0,af⟩:=zd3 v R I;clear hcut v R I;have RS:=η (y.rs.stp S3 Ω);obtain⟨y0,y1,y2,_,_,_⟩:=b0.facts;have H:tb≠mb:=ω;have G:tb≠w+1:=ω
  cases r1 with
  | none =>
   have Z:Hid (fIf (aa p n) sc want kids=none):=by show _=_;rw[a9.o,<-D.o]
   obtain⟨z0,z1,z2,q0,q1,q2⟩:=RS.facts;go_wp2_with fail;replace y0:=aD (mb:=mb) (rb:=w+1) y0 H G;replace y1:=aD (mb:=mb) (rb:=w+1) y1 H G;replace y2:=aD (mb:=mb) (rb:=w+1) y2 H G;refine tkB (λW=>Stp (plus (only mb) (w+1)) wc W) (bq _ _) (λhHeld=>?_);refine θ ?_;refine tkE 12 (λK hK=>?_);go_simp;refine tkR hK ?_ (λhHeld=>?_)
   ·exact stpR ι _ _ _ _ _
   clear hK K;refine tkQ 13 ?_;refine tkD ?_;clear hHeld;go_wp2;rw[Z.o];exact bodyPost_ret (am results175 _ _ (w+1) _ _ _ _ _ rfl ((RS.stp (smDr mb _) Ω).set3 _ _ _ _ _)) rfl (aB (((ae.trans N).trans S3).trans (smDr _ _)) ω ω)
  | some t =>
   have a8:Hid (fIf (aa p n) sc want kids=if isE (aa p n) sc kids[2] t then some t else none):=by show _=_;rw[a9.o,<-D.o]
   obtain⟨bb,J⟩:=zd2 (HF sc kids[1] want t E HW D.symm) (y.stp S3 (af t rfl).2);have c1:=aD (mb:=mb) (rb:=w+1) J.kc ak (by show kc≠_;have:=World.block_lt_of_cell? V _ y.kc;exact λe=>J.kq.2 (.inr e));have b4:=aD (mb:=mb) (rb:=w+1) (J.bx.c 4) Φ Θ;obtain⟨g',X,o1,x1,m1,s1,a1,B1,a7,hA,ac,Y,u,r,q,l,j,O⟩:=aQ J.kids i2;obtain⟨rfl,rfl⟩:g=g'/\ab=X:=by simpa using hA
   have T:g≠w+1:=λe=>ac.2 (.inr e);simp only[Nat.reduceMul] at u r q l j;replace u:=aD u d T;replace r:=aD r d T;replace q:=aD q d T;replace l:=aD l d T;replace j:=aD j d T;replace y0:=aD (mb:=mb) (rb:=w+1) y0 H G;replace y1:=aD (mb:=mb) (rb:=w+1) y1 H G;replace y2:=aD (mb:=mb) (rb:=w+1) y2 H G;have ba:=η O;clear O Y hA ac
   cases h4:isE (aa p n) sc kids[2] t with
   | false =>
    have Z:Hid (fIf (aa p n) sc want kids=none):=by show _=_;rw[a8.o,h4];rfl
    have H4:=η h4;clear h4;go_wp2_with fail;refine tkB (λW=>Stp (plus (only mb) (w+1)) wc W) (bq _ _) (λhHeld=>?_);refine θ ?_;refine tkE 10 (λK hK=>?_);go_simp;(refine (bA L (HD _ (ν i2)) (J.env.bel (ad _)) E (ba.to (sof (ad _)).sub) ((af t rfl).1.to (sof (ad _)).sub) bb).mono ?_;rw[H4.o];rintro e4 w4 ⟨rfl,i,aj⟩;obtain⟨z0,z1,z2,q0,q1,q2⟩:=(RS.stp ((smDr mb wc).trans i) Ω).facts);refine tkR hK ?_ (λhHeld=>?_)
    ·exact (hHeld.trans (i.s.wk (λ_ h=>.inl h)))
    clear hK K;refine tkQ 11 ?_;refine tkE 12 (λK hK=>?_);go_simp;refine tkR hK ?_ (λhHeld=>?_)
    ·exact stpR ι _ _ _ _ _
    clear hK K;refine tkQ 13 ?_;refine tkD ?_;clear hHeld;go_wp2;rw[Z.o];exact bodyPost_ret (am results175 _ _ (w+1) _ _ _ _ _ rfl ((RS.stp ((smDr mb wc).trans i) Ω).set3 _ _ _ _ _)) rfl (aB ((((ae.trans N).trans S3).trans (smDr _ _)).trans i) ω ω)
   | true =>
    have Z:Hid (fIf (aa p n) sc want kids=some t):=by show _=_;rw[a8.o,h4];rfl
    have H4:=η h4;clear h4;go_wp2_with fail;refine tkB (λW=>Stp (plus (only mb) (w+1)) wc W) (bq _ _) (λhHeld=>?_);refine θ ?_;refine tkE 10 (λK hK=>?_);go_simp;(refine (bA L (HD _ (ν i2)) (J.env.bel (ad _)) E (ba.to (sof (ad _)).sub) ((af t rfl).1.to (sof (ad _)).sub) bb).mono ?_;rw[H4.o];rintro e4 w4 ⟨rfl,i,aj⟩;obtain⟨z0,z1,z2,q0,q1,q2⟩:=(RS.stp ((smDr mb wc).trans i) Ω).facts);refine tkR hK ?_ (λhHeld=>?_)
    ·exact (hHeld.trans (i.s.wk (λ_ h=>.inl h)))
    clear hK K;refine tkQ 11 ?_;refine tkE 12 (λK hK=>?_);go_simp;refine tkR hK ?_ (λhHeld=>?_)
    ·exact stpR ι _ _ _ _ _
    clear hK K;refine tkQ 13 ?_;refine tkD ?_;clear hHeld;go_wp2;rw[Z.o];exact bodyPost_ret (am results175 _ _ (w+1) _ _ _ _ _ rfl ((RS.stp ((smDr mb wc).trans i) Ω).set3 _ _ _ _ _)) rfl (bo ((((ae.trans N).trans S3).trans (smDr _ _)).trans i) ω ω HO ((af t rfl).1.to (((smDr mb wc).trans i).subO (.inl HO))) (aj Υ))
set_option maxRecDepth 1000000 in
def zfEqT {p:Prop} (h:p:=by
 have lm:=h.le9;have bn:=h'.le9;have Y:=η h;have L:=η h';have p:=η HC;clear HC h h';by_cases M:a.length=b
 ·have t3:((a.length:Int) != (b.length:Int))=false:=by simp;omega
  have X:=η M;have bo:a.length<=b:=ω;clear M
  first
   | guard_hyp kk0:True
     go_in
   | guard_hyp kk1:True
     go_in
   | guard_hyp kk2:True
     go_in
   | guard_hyp kk3:True
     go_in
   | guard_hyp kk4:True
     go_in
   | go_in
  go_wp2_with fail
  first
   | guard_hyp kk0:True
     go_loopw [17] (λi wr=>∃j:Nat,j<=a/\i=.int .i64 j/\Hid (∀k (h:k<a.length) (h':k<b.length),k<j->eP a[k] b[k]=true)/\Hid (Below w w wr)) (λi _=>a.length-(intOf i).toNat)
   | guard_hyp kk1:True
     go_loopw [17] (λi wr=>∃j:Nat,j<=a/\i=.int .i64 j/\Hid (∀k (h:k<a.length) (h':k<b.length),k<j->eO a[k] b[k]=true)/\Hid (Below w w wr)) (λi _=>a.length-(intOf i).toNat)
   | guard_hyp kk2:True
     go_loopw [17] (λi wr=>∃j:Nat,j<=a/\i=.int .i64 j/\Hid (∀k (h:k<a.length) (h':k<b.length),k<j->gY a[k] b[k]=true)/\Hid (Below w w wr)) (λi _=>a.length-(intOf i).toNat)
   | guard_hyp kk3:True
     go_loopw [17] (λi wr=>∃j:Nat,j<=a/\i=.int .i64 j/\Hid (∀k (h:k<a.length) (h':k<b.length),k<j->gZ a[k] b[k]=true)/\Hid (Below w w wr)) (λi _=>a.length-(intOf i).toNat)
   | guard_hyp kk4:True
     go_loopw [17] (λi wr=>∃j:Nat,j<=a/\i=.int .i64 j/\Hid (∀k (h:k<a.length) (h':k<b.length),k<j->gW a[k] b[k]=true)/\Hid (Below w w wr)) (λi _=>a.length-(intOf i).toNat)
   | go_loopw [17] (λi wr=>∃j:Nat,j<=a/\i=.int .i64 j/\Hid (∀k (h:k<a.length) (h':k<b.length),k<j->gX a[k] b[k]=true)/\Hid (Below w w wr)) (λi _=>a.length-(intOf i).toNat)
  case atStart=>exact⟨0,ω,rfl,λk _ _ h=>ω,belR _⟩
  case round =>
   obtain⟨j,hj,rfl,y,d⟩:=hrel;by_cases hlt:j<a
   ·have c:j<b:=ω;have u1:=zT j a;have i1:(0:Int)<=(j:Int):=ω;have i2:(j:Int)<(a.length:Int):=ω;have i3:(j:Int)<(b.length:Int):=ω
    first
     | guard_hyp kk0:True
       obtain⟨g,O,B1,c1,rfl,-,p0,p1,p2,E,-⟩:=fF (SlR.to' Y (ae d) (λ_ _ x=>x.to (ae d))) hlt;obtain⟨g',B,T,R,rfl,-,J,I,H,D,-⟩:=fF (SlR.to' L (ae d) (λ_ _ x=>x.to (ae d))) c
     | guard_hyp kk5:True
       obtain⟨g,O,B0,c0,B1,c1,rfl,-,p0,p1,p2,p3,E,-⟩:=lG (SlR.to' Y (ae d) (λ_ _ x=>x.to (ae d))) hlt;obtain⟨g',B,aj,ah,T,R,rfl,-,J,I,H,N,D,-⟩:=lG (SlR.to' L (ae d) (λ_ _ x=>x.to (ae d))) c
     | guard_hyp kk1:True
       obtain⟨g,O,B0,c0,k1,s1,a1,B1,c1,rfl,-,p0,p1,p2,p3,p4,E,-⟩:=jC (SlR.to' Y (ae d) (λ_ _ x=>x.to (ae d))) hlt;obtain⟨g',B,aj,ah,ao,al,ap,T,R,rfl,-,J,I,H,N,U,D,-⟩:=jC (SlR.to' L (ae d) (λ_ _ x=>x.to (ae d))) c
     | guard_hyp kk3:True
       obtain⟨g,O,B0,c0,B1,c1,B2,c2,rfl,-,p0,p1,p2,p3,p4,p5,p6,E,-⟩:=fR (SlR.to' Y (ae d) (λ_ _ x=>x.to (ae d))) hlt;obtain⟨g',B,aj,ah,T,R,bq,bp,rfl,-,J,I,H,N,U,aa,Z,D,-⟩:=fR (SlR.to' L (ae d) (λ_ _ x=>x.to (ae d))) c
     | guard_hyp kk4:True
       obtain⟨g,O,k1,s1,a1,B1,c1,o1,x1,m1,r1,e1,D1,d1,rfl,-,p0,p1,p2,p3,p4,p5,p6,p7,p8,E,-⟩:=ku (SlR.to' Y (ae d) (λ_ _ x=>x.to (ae d))) hlt;obtain⟨g',B,ao,al,ap,T,R,a3,aw,a4,ay,a6,a9,a7,rfl,-,J,I,H,N,U,aa,Z,an,am,D,-⟩:=ku (SlR.to' L (ae d) (λ_ _ x=>x.to (ae d))) c
     | obtain⟨g,O,B0,c0,k1,s1,a1,B1,c1,o1,x1,m1,r1,e1,D1,d1,rfl,-,p0,p1,p2,p3,p4,p5,p6,p7,p8,p9,bm,E,-⟩:=jd (SlR.to' Y (ae d) (λ_ _ x=>x.to (ae d))) hlt
       obtain⟨g',B,aj,ah,ao,al,ap,T,R,a3,aw,a4,ay,a6,a9,a7,rfl,-,J,I,H,N,U,aa,Z,an,am,az,ar,D,-⟩:=jd (SlR.to' L (ae d) (λ_ _ x=>x.to (ae d))) c
    obtain⟨v,u⟩:=zd2 E D;have z0:=celA J;have z1:=celA I;have z2:=celA H
    first
     | done
     | guard_hyp kk0:True
     | have z3:=celA N
       first
        | done
        | guard_hyp kk5:True
        | have z4:=celA U
          first
           | done
           | guard_hyp kk1:True
           | have z5:=celA aa
             have z6:=celA Z
             first
              | done
              | guard_hyp kk3:True
              | have z7:=celA an
                have z8:=celA am
                first
                 | done
                 | guard_hyp kk4:True
                 | have z9:=celA az
                   have bl:=celA ar
    clear E D
    first
     | guard_hyp kk5:True
       cases hsm:gX a[j] b[j] with
        | false =>
         have t:Hid (eqL gX a b=false):=gC _ a b j hlt c hsm;have l:=η hsm;clear hsm;go_wp2_with (go_at_call 116;refine (p j hlt c _ _ _ _ l (v.to (ae ζ2)) (u.to (ae ζ2))).mono ?_;rintro F z ⟨rfl,f⟩);go_ret;exact⟨by rw[t.o];first|rfl|(simp;done),bel d (bel ζ2 f)⟩
        | true =>
         have G:Hid (∀k (h:k<a.length) (h':k<b.length),k<j+1->gX a[k] b[k]=true):=λk h h' hk=>by
          by_cases e:k=j
          ·subst e;exact hsm
          exact y k h h' ω
         have l:=η hsm;clear hsm;go_wp2_with (go_at_call 116;refine (p j hlt c _ _ _ _ l (v.to (ae ζ2)) (u.to (ae ζ2))).mono ?_;rintro F z ⟨rfl,f⟩);go_roundw
         case rel=>exact⟨j+1,ω,by go_num,G,bel d (bel ζ2 f)⟩
         case measure=>simp[intOf];omega
     | first
        | guard_hyp kk4:True
          cases hsm:gW a[j] b[j] with
           | false =>
            have t:Hid (eqL gW a b=false):=gC _ a b j hlt c hsm;have l:=η hsm;clear hsm;go_wp2_with (go_at_call 114;refine (p j hlt c _ _ _ _ l (v.to (ae ζ2)) (u.to (ae ζ2))).mono ?_;rintro F z ⟨rfl,f⟩);go_ret;exact⟨by rw[t.o];first|rfl|(simp;done),bel d (bel ζ2 f)⟩
           | true =>
            have G:Hid (∀k (h:k<a.length) (h':k<b.length),k<j+1->gW a[k] b[k]=true):=λk h h' hk=>by
             by_cases e:k=j
             ·subst e;exact hsm
             exact y k h h' ω
            have l:=η hsm;clear hsm;go_wp2_with (go_at_call 114;refine (p j hlt c _ _ _ _ l (v.to (ae ζ2)) (u.to (ae ζ2))).mono ?_;rintro F z ⟨rfl,f⟩);go_roundw
            case rel=>exact⟨j+1,ω,by go_num,G,bel d (bel ζ2 f)⟩
            case measure=>simp[intOf];omega
        | first
           | guard_hyp kk3:True
             cases hsm:gZ a[j] b[j] with
              | false =>
               have t:Hid (eqL gZ a b=false):=gC _ a b j hlt c hsm;have l:=η hsm;clear hsm;go_wp2_with (go_at_call 55;refine (p j hlt c _ _ _ _ l (v.to (ae ζ2)) (u.to (ae ζ2))).mono ?_;rintro F z ⟨rfl,f⟩);go_ret;exact⟨by rw[t.o];first|rfl|(simp;done),bel d (bel ζ2 f)⟩
              | true =>
               have G:Hid (∀k (h:k<a.length) (h':k<b.length),k<j+1->gZ a[k] b[k]=true):=λk h h' hk=>by
                by_cases e:k=j
                ·subst e;exact hsm
                exact y k h h' ω
               have l:=η hsm;clear hsm;go_wp2_with (go_at_call 55;refine (p j hlt c _ _ _ _ l (v.to (ae ζ2)) (u.to (ae ζ2))).mono ?_;rintro F z ⟨rfl,f⟩);go_roundw
               case rel=>exact⟨j+1,ω,by go_num,G,bel d (bel ζ2 f)⟩
               case measure=>simp[intOf];omega
           | first
              | guard_hyp kk2:True
                cases hsm:gY a[j] b[j] with
                 | false =>
                  have t:Hid (eqL gY a b=false):=gC _ a b j hlt c hsm;have l:=η hsm;clear hsm;go_wp2_with (go_at_call 53;refine (p j hlt c _ _ _ _ l (v.to (ae ζ2)) (u.to (ae ζ2))).mono ?_;rintro F z ⟨rfl,f⟩);go_ret;exact⟨by rw[t.o];first|rfl|(simp;done),bel d (bel ζ2 f)⟩
                 | true =>
                  have G:Hid (∀k (h:k<a.length) (h':k<b.length),k<j+1->gY a[k] b[k]=true):=λk h h' hk=>by
                   by_cases e:k=j
                   ·subst e;exact hsm
                   exact y k h h' ω
                  have l:=η hsm;clear hsm;go_wp2_with (go_at_call 53;refine (p j hlt c _ _ _ _ l (v.to (ae ζ2)) (u.to (ae ζ2))).mono ?_;rintro F z ⟨rfl,f⟩);go_roundw
                  case rel=>exact⟨j+1,ω,by go_num,G,bel d (bel ζ2 f)⟩
                  case measure=>simp[intOf];omega
              | first
                 | guard_hyp kk0:True
                   cases hsm:eP a[j] b[j] with
                    | false =>
                     have t:Hid (eqL eP a b=false):=gC _ a b j hlt c hsm;have l:=η hsm;clear hsm;go_wp2_with (go_at_call 49;refine (p j hlt c _ _ _ _ l (v.to (ae ζ2)) (u.to (ae ζ2))).mono ?_;rintro F z ⟨rfl,f⟩);go_ret;exact⟨by rw[t.o];first|rfl|(simp;done),bel d (bel ζ2 f)⟩
                    | true =>
                     have G:Hid (∀k (h:k<a.length) (h':k<b.length),k<j+1->eP a[k] b[k]=true):=λk h h' hk=>by
                      by_cases e:k=j
                      ·subst e;exact hsm
                      exact y k h h' ω
                     have l:=η hsm;clear hsm;go_wp2_with (go_at_call 49;refine (p j hlt c _ _ _ _ l (v.to (ae ζ2)) (u.to (ae ζ2))).mono ?_;rintro F z ⟨rfl,f⟩);go_roundw
                     case rel=>exact⟨j+1,ω,by go_num,G,bel d (bel ζ2 f)⟩
                     case measure=>simp[intOf];omega
                 | cases hsm:eO a[j] b[j] with
                    | false =>
                     have t:Hid (eqL eO a b=false):=gC _ a b j hlt c hsm;have l:=η hsm;clear hsm;go_wp2_with (go_at_call 51;refine (p j hlt c _ _ _ _ l (v.to (ae ζ2)) (u.to (ae ζ2))).mono ?_;rintro F z ⟨rfl,f⟩);go_ret;exact⟨by rw[t.o];first|rfl|(simp;done),bel d (bel ζ2 f)⟩
                    | true =>
                     have G:Hid (∀k (h:k<a.length) (h':k<b.length),k<j+1->eO a[k] b[k]=true):=λk h h' hk=>by
                      by_cases e:k=j
                      ·subst e;exact hsm
                      exact y k h h' ω
                     have l:=η hsm;clear hsm;go_wp2_with (go_at_call 51;refine (p j hlt c _ _ _ _ l (v.to (ae ζ2)) (u.to (ae ζ2))).mono ?_;rintro F z ⟨rfl,f⟩);go_roundw
                     case rel=>exact⟨j+1,ω,by go_num,G,bel d (bel ζ2 f)⟩
                     case measure=>simp[intOf];omega
   have u1:=zF j a
   first
    | guard_hyp kk0:True
      have t:Hid (eqL eP a b=true):=eC _ a b X λk h h'=>y k h h' ω
    | guard_hyp kk1:True
      have t:Hid (eqL eO a b=true):=eC _ a b X λk h h'=>y k h h' ω
    | guard_hyp kk2:True
      have t:Hid (eqL gY a b=true):=eC _ a b X λk h h'=>y k h h' ω
    | guard_hyp kk3:True
      have t:Hid (eqL gZ a b=true):=eC _ a b X λk h h'=>y k h h' ω
    | guard_hyp kk4:True
      have t:Hid (eqL gW a b=true):=eC _ a b X λk h h'=>y k h h' ω
    | have t:Hid (eqL gX a b=true):=eC _ a b X λk h h'=>y k h h' ω
   go_wp2;go_ret;exact⟨by rw[t.o];first|rfl|(simp;done),d⟩
 have t3:((a.length:Int) != (b.length:Int))=true:=by simp;omega
 first
  | guard_hyp kk0:True
    have V:Hid (eqL eP a b=false):=gB _ a b M
  | guard_hyp kk1:True
    have V:Hid (eqL eO a b=false):=gB _ a b M
  | guard_hyp kk2:True
    have V:Hid (eqL gY a b=false):=gB _ a b M
  | guard_hyp kk3:True
    have V:Hid (eqL gZ a b=false):=gB _ a b M
  | guard_hyp kk4:True
    have V:Hid (eqL gW a b=false):=gB _ a b M
  | have V:Hid (eqL gX a b=false):=gB _ a b M
 clear M
 first
  | guard_hyp kk0:True
    go_in
  | guard_hyp kk1:True
    go_in
  | guard_hyp kk2:True
    go_in
  | guard_hyp kk3:True
    go_in
  | guard_hyp kk4:True
    go_in
  | go_in
 go_wp2;go_ret;exact⟨by rw[V.o];rfl,belR _⟩) :p:=h
variable {A':Option Addr} {q q':Nat}
def eqf_48 {a b:List Dcl} {w:À} (h:SlR w (lo w) 3 (DclR w (lo w)) (.slice A a q) a) (h':SlR w (lo w) 3 (DclR w (lo w)) (.slice A' b q') b) (HC:∀(i:Nat) (hi:i<a) (hi':i<b) (cs cs':List Value) (W:À) (r:Bool),eP a[i] b[i]=r->DclR W (lo W) cs a[i]->DclR W (lo W) cs' b[i]->Calls prog 49 #[.agg cs.toArray,.agg cs'.toArray] W (aE r W)):
 Calls prog 48 #[.slice A a q,.slice A' b q',.func (.func 49) #[] #[]] w (aE (eqL eP a b) w):=by
 have kk0:=trivial;exact zfEqT
def eqf_50 {a b:List Eff} {w:À} (h:SlR w (lo w) 5 (EffR w (lo w)) (.slice A a q) a) (h':SlR w (lo w) 5 (EffR w (lo w)) (.slice A' b q') b) (HC:∀(i:Nat) (hi:i<a) (hi':i<b) (cs cs':List Value) (W:À) (r:Bool),eO a[i] b[i]=r->EffR W (lo W) cs a[i]->EffR W (lo W) cs' b[i]->Calls prog 51 #[.agg cs.toArray,.agg cs'.toArray] W (aE r W)):
 Calls prog 50 #[.slice A a q,.slice A' b q',.func (.func 51) #[] #[]] w (aE (eqL eO a b) w):=by
 have kk1:=trivial;exact zfEqT
def eqf_52 {a b:List Fn} {w:À} (h:SlR w (lo w) 11 (FnR w (lo w)) (.slice A a q) a) (h':SlR w (lo w) 11 (FnR w (lo w)) (.slice A' b q') b) (HC:∀(i:Nat) (hi:i<a) (hi':i<b) (cs cs':List Value) (W:À) (r:Bool),gY a[i] b[i]=r->FnR W (lo W) cs a[i]->FnR W (lo W) cs' b[i]->Calls prog 53 #[.agg cs.toArray,.agg cs'.toArray] W (aE r W)):
 Calls prog 52 #[.slice A a q,.slice A' b q',.func (.func 53) #[] #[]] w (aE (eqL gY a b) w):=by
 have kk2:=trivial;exact zfEqT
def eqf_54 {a b:List Ac} {w:À} (h:SlR w (lo w) 7 (AcR w (lo w)) (.slice A a q) a) (h':SlR w (lo w) 7 (AcR w (lo w)) (.slice A' b q') b) (HC:∀(i:Nat) (hi:i<a) (hi':i<b) (cs cs':List Value) (W:À) (r:Bool),gZ a[i] b[i]=r->AcR W (lo W) cs a[i]->AcR W (lo W) cs' b[i]->Calls prog 55 #[.agg cs.toArray,.agg cs'.toArray] W (aE r W)):
 Calls prog 54 #[.slice A a q,.slice A' b q',.func (.func 55) #[] #[]] w (aE (eqL gZ a b) w):=by
 have kk3:=trivial;exact zfEqT
def eqf_113 {a b:List Vr} {w:À} (h:SlR w (lo w) 9 (VrR w (lo w)) (.slice A a q) a) (h':SlR w (lo w) 9 (VrR w (lo w)) (.slice A' b q') b) (HC:∀(i:Nat) (hi:i<a) (hi':i<b) (cs cs':List Value) (W:À) (r:Bool),gW a[i] b[i]=r->VrR W (lo W) cs a[i]->VrR W (lo W) cs' b[i]->Calls prog 114 #[.agg cs.toArray,.agg cs'.toArray] W (aE r W)):
 Calls prog 113 #[.slice A a q,.slice A' b q',.func (.func 114) #[] #[]] w (aE (eqL gW a b) w):=by
 have kk4:=trivial;exact zfEqT
def eqf_115 {a b:List Hd} {w:À} (h:SlR w (lo w) 4 (HdR w (lo w)) (.slice A a q) a) (h':SlR w (lo w) 4 (HdR w (lo w)) (.slice A' b q') b) (HC:∀(i:Nat) (hi:i<a) (hi':i<b) (cs cs':List Value) (W:À) (r:Bool),gX a[i] b[i]=r->HdR W (lo W) cs a[i]->HdR W (lo W) cs' b[i]->Calls prog 116 #[.agg cs.toArray,.agg cs'.toArray] W (aE r W)):
 Calls prog 115 #[.slice A a q,.slice A' b q',.func (.func 116) #[] #[]] w (aE (eqL gX a b) w):=by
 have kk5:=trivial;exact zfEqT
def jJ {w1:À} (hb:Below W W w1):∀b o,b<W.heap.size->w1.cell? ⟨b,o,none⟩=W.cell? ⟨b,o,none⟩:=λb o h=>hb.cell (p:=⟨b,o,none⟩) h
variable {r:Bool}
def fB {F:FuncId} {ar:Array Value} {w:À} {b:Bool} (hq:b=r) (h:Calls prog F ar w (aE b w)):Calls prog F ar w (aE r w):=hq▸h
variable {cs cs':List Value}
def nZ {t t':Ty} {w:À} (hq:bO t t'=r) (hr:TyR w (lo w) cs t) (hr':TyR w (lo w) cs' t'):Calls prog 111 #[cs.toArray,.agg cs'.toArray] w (aE r w):=hq▸lN hr hr'
def mh {w:À} {t:Fld} (h:FldR w P cs t):∃(k:Int) (s:Ê) (n:Nat) (B:Option Addr) (c:Nat),cs=[.string t.name,.int .i64 k,.string s,.slice B n c]/\TyR w P [.int .i64 k,.string s,.slice B n c] t.type:=by
 obtain⟨d,rfl,-,b⟩:=h;obtain⟨k,s,a,B,c,rfl,-⟩:=ap b;exact⟨k,s,_,B,c,rfl,b⟩
variable {r_:Bool}
def tH {a b:Fld} {w:À} (hq_:cy a b=r_) (hr:FldR w (lo w) cs a) (hr':FldR w (lo w) cs' b):Calls prog 147 #[cs.toArray,.agg cs'.toArray] w (aE r_ w):=by
 subst hq_;obtain⟨k,s,n,B,c,rfl,l⟩:=mh hr;obtain⟨A,x,y,E,D,rfl,h⟩:=mh hr';obtain⟨d,f⟩:=γ (bEq a.name b.name)
 obtain⟨g,e⟩:=γ (bO a.type b.type)
 have r:Hid (cy a b=(d&&(g))):=by show _=_;rw[f,e];rfl
 have u:(ByteArray.toList a.name==ByteArray.toList b.name)=d:=f.symm;obtain⟨p,q⟩:=zd2 e.symm l;have j:=η h;clear f e l h
 rcases ch2 d g with rfl|⟨rfl,rfl⟩|⟨rfl,rfl⟩ <;>
  (go_in;go_wp2_with (go_at_call 111;refine (nZ p (q.to (ae ζ2)) (j.to (ae ζ2))).mono ?_;rintro v t ⟨rfl,i⟩);go_ret;exact⟨by rw[r.o];first|rfl|(simp;done),by first|exact (bel ζ2 i)|exact ζ2⟩)
def eq {a b:List Fld} {w:À} (hq:eqL cy a b=r) (h:FldsR w (lo w) (.slice A a q) a) (h':FldsR w (lo w) (.slice A' b q') b):Calls prog 110 #[.slice A a q,.slice A' b q'] w (aE r w):=by
 have d:=η (fB hq (eqf_146 h h' (λi hi hi' _ _ W r hq h1 h2=>tH hq h1 h2)));go_in;go_wp2_with (go_at_call 146;refine d.mono ?_;rintro f e ⟨rfl,c⟩);go_ret;exact⟨rfl,c⟩
def rS {a b:Ctr} {w:À} (hq_:eQ a b=r_) (hr:CtrR w (lo w) cs a) (hr':CtrR w (lo w) cs' b):Calls prog 109 #[cs.toArray,.agg cs'.toArray] w (aE r_ w):=by
 subst hq_;obtain⟨A,q,rfl,-,j⟩:=jV hr;obtain⟨y,v,rfl,-,g⟩:=jV hr';obtain⟨c,e⟩:=γ (bEq a.name b.name)
 obtain⟨f,d⟩:=γ (eqL cy a.fields b.fields)
 have p:Hid (eQ a b=(c&&(f))):=by show _=_;rw[e,d];rfl
 have t:(ByteArray.toList a.name==ByteArray.toList b.name)=c:=e.symm;obtain⟨k,l⟩:=zd2 d.symm j;have i:=η g;clear e d j g
 rcases ch2 c f with rfl|⟨rfl,rfl⟩|⟨rfl,rfl⟩ <;>
  (go_in;go_wp2_with (go_at_call 110;refine (eq k (SlR.to' l (ae ζ2) (λ_ _ x=>x.to (ae ζ2))) (SlR.to' i (ae ζ2) (λ_ _ x=>x.to (ae ζ2)))).mono ?_;rintro u r ⟨rfl,h⟩);go_ret;exact⟨by rw[p.o];first|rfl|(simp;done),by first|exact (bel ζ2 h)|exact ζ2⟩)
def tJ {a b:Dcl} {w:À} (hq_:eP a b=r_) (hr:DclR w (lo w) cs a) (hr':DclR w (lo w) cs' b):Calls prog 49 #[cs.toArray,.agg cs'.toArray] w (aE r_ w):=by
 subst hq_;obtain⟨A,q,rfl,-,h⟩:=gG hr;obtain⟨G,F,rfl,-,k⟩:=gG hr';obtain⟨d,g⟩:=γ (bEq a.name b.name)
 obtain⟨c,f⟩:=γ (a.record==b.record)
 obtain⟨j,e⟩:=γ (eqL eQ a.ctors b.ctors)
 have v:Hid (eP a b=(d&&(c&&(j)))):=by show _=_;rw[g,f,e];rfl
 have D:(ByteArray.toList a.name==ByteArray.toList b.name)=d:=g.symm;have B:(a.record==b.record)=c:=f.symm;obtain⟨t,u⟩:=zd2 e.symm h;have p:=η k;clear g f e h k
 rcases ch3 d c j with rfl|⟨rfl,rfl⟩|⟨rfl,rfl,rfl⟩|⟨rfl,rfl,rfl⟩ <;>
  (go_in;go_wp2_with (go_at_call 108;refine (fB t (eqf_108 (SlR.to' u (ae ζ2) (λ_ _ x=>x.to (ae ζ2))) (SlR.to' p (ae ζ2) (λ_ _ x=>x.to (ae ζ2))) (λi hi hi' _ _ W r hq h h2=>rS hq h h2))).mono ?_;rintro E y ⟨rfl,l⟩);go_ret;exact⟨by rw[v.o];first|rfl|(simp;done),by first|exact (bel ζ2 l)|exact ζ2⟩)
def tI {a b:Eff} {w:À} (hq_:eO a b=r_) (hr:EffR w (lo w) cs a) (hr':EffR w (lo w) cs' b):Calls prog 51 #[cs.toArray,.agg cs'.toArray] w (aE r_ w):=by
 subst hq_;obtain⟨A,q,k,s,u,B,c,rfl,-,F,E⟩:=jU hr;obtain⟨A',X,Y,W,V,B',Z,rfl,-,r,p⟩:=jU hr';obtain⟨e,h⟩:=γ (bEq a.name b.name)
 obtain⟨l,g⟩:=γ (eqL cy a.params b.params)
 obtain⟨j,f⟩:=γ (bO a.answer b.answer)
 have L:Hid (eO a b=(e&&(l&&(j)))):=by show _=_;rw[h,g,f];rfl
 have O:(ByteArray.toList a.name==ByteArray.toList b.name)=e:=h.symm;obtain⟨H,G,J⟩:=zd3 g.symm f.symm F;have y:=η r;have I:=η E;have v:=η p;clear h g f F r E p
 rcases ch3 e l j with rfl|⟨rfl,rfl⟩|⟨rfl,rfl,rfl⟩|⟨rfl,rfl,rfl⟩ <;>
  (go_in;go_wp2_with (first|(go_at_call 110;refine (eq H (SlR.to' J (ae ζ2) (λ_ _ x=>x.to (ae ζ2))) (SlR.to' y (ae ζ2) (λ_ _ x=>x.to (ae ζ2)))).mono ?_;rintro T i ⟨rfl,d⟩;have U:=jJ d;have D:w.heap.size+1<i:=(by have:=d.size;simp at this;omega))|(go_at_call 111;refine (nZ G (I.to (ae (bel ζ2 d))) (v.to (ae (bel ζ2 d)))).mono ?_;rintro R N ⟨rfl,t⟩));go_ret;exact⟨by rw[L.o];first|rfl|(simp;done),by first|exact (bel (bel ζ2 d) t)|exact (bel ζ2 d)|exact ζ2⟩)
structure Ch (may:Nat->Obj->Prop) (w w':À):Prop where
 os:w'.os=w.os
 tape:w'.tape=w.tape
 output:w'.output=w.output
 size:w.heap.size<=w'
 block:∀k o,w.heap[k]?=some o->¬may k o->w'.heap[k]?=some o
section
variable {may:Nat->Obj->Prop} {a b c:À}
def Ch.refl (may:Nat->Obj->Prop) (w:À):Ch may w w:=⟨rfl,rfl,rfl,υ _,λ_ _ h _=>h⟩
def Ch.trans (h:Ch may a b) (k:Ch may b c):Ch may a c:=
 ⟨k.os.trans h.os,k.tape.trans h.tape,k.output.trans h.output,ψ h.size k.size,λi o hi hn=>k.block i o (h.block i o hi hn) hn⟩
def Ch.of_below (h:Below a a b):Ch may a b:=
 ⟨h.os,h.tape,h.output,h.size,λk _ hk _=>(h.block k (Array.getElem?_eq_some_iff.1 hk).1).trans hk⟩
def Ch.bel (h:Ch may a b) (k:Below b b c):Ch may a c:=h.trans (Ch.of_below k)
def Ch.mono {may':Nat->Obj->Prop} (h:Ch may a b) (hm:∀k o,may k o->may' k o):Ch may' a b:=⟨h.os,h.tape,h.output,h.size,λk o hk hn=>h.block k o hk λx=>hn (hm k o x)⟩
def Ch.below {B:Nat} (h:Ch may a b) (hm:∀k o,may k o->B<=k) (hB:B<=a):Below B a b:=
 ⟨h.os,h.tape,h.output,h.size,λk hk=>by
  have hlt:k<a.heap.size:=ω
  rw[h.block k _ (Array.getElem?_eq_getElem hlt) (λhmay=>by have:=hm k _ hmay;omega),Array.getElem?_eq_getElem hlt]⟩
def Ch.set {p:Addr} (h:Ch may a b) (v:Value) (hm:∀o,may p.block o):Ch may a (b.setCell p v):=
 h.trans ⟨rfl,rfl,rfl,by simp[World.setCell],λk o hk hn=>(Below.heap_setCell _ _ _ _ (λe=>hn (by rw[e];exact hm o))).trans hk⟩
def Ch.grown {row:Option Nat} (h:Ch may a b) (hg:b.grownBy c row) (hm:∀k o,row=some k->b.heap[k]?=some o->may k o):Ch may a c:=
 h.trans ⟨hg.os,hg.tape,hg.output,hg.size,λk o hk hn=>(hg.block k (Array.getElem?_eq_some_iff.1 hk).1 (λe=>hn (hm k o e.symm hk))).trans hk⟩
end
def uo (may:Nat->Obj->Prop) (w:À) (k:Nat):Prop:=∃o,w.heap[k]?=some o/\¬may k o
variable {may:Nat->Obj->Prop}
def Ch.sub {w:À} (h:Ch may w w'):Sub (uo may w) (uo may w') w w':=λ_ ⟨o,ho,hn⟩=>⟨⟨o,h.block _ o ho hn,hn⟩,(h.block _ o ho hn).trans ho.symm⟩
def Ch.cell {w:À} (h:Ch may w w') {g:Nat} (hg:uo may w g) (i:Nat):w'.cell? ⟨g,i,none⟩=w.cell? ⟨g,i,none⟩:=World.cell?_of_block (w:=w) (a:=⟨g,i,none⟩) (h.sub g hg).2
def wMay (B b k:Nat) (o:Obj):Prop:=B<=k/\(k=b\/∃c fz,o=.cells c 5 fz)
def WrAt (B b:Nat) (fv nv:Value) (out:List UInt8) (w:À):Prop:=
 B<=b/\B<=w/\∃pv v,w.heap[b]?=some (.cells #[pv,v,fv,nv] 84 (0,0))/\(pv=.pointer none\/pv=.pointer (some ⟨b,0,none⟩))/\w.ownsRow B 5 1 v out (Lib.byteCells out)/\v.ownBlock≠some b
variable {B:Nat} {xs:List Value}
def own_keep {w:À} {e size n:Nat} (h:w.ownsRow B e size v n xs) (hk:∀(g:Nat) (c:Array Value),w.heap[g]?=some (Obj.cells c e (0,0))->w'.heap[g]?=some (Obj.cells c e (0,0))):w'.ownsRow B e size v n xs:=by
 refine⟨h.1,?_⟩;rcases h.2 with hn|⟨g,cap,cur,rfl,hbg,hgg,rest⟩
 ·exact .inl hn
 exact .inr ⟨g,cap,cur,rfl,hbg,hk g cur hgg,rest⟩
variable {fv nv:Value} {out:List UInt8}
def WrAt.keep {b:Nat} {w:À} (h:WrAt B b fv nv out w) (hc:Ch may w w') (hb:∀c,¬may b (.cells c 84 (0,0))) (hr:∀k c,¬may k (.cells c 5 (0,0))):WrAt B b fv nv out w':=by
 obtain⟨l,f,i,v,e,j,a,d⟩:=h;exact⟨l,ψ f hc.size,i,v,hc.block _ _ e (hb _),j,own_keep a λg c hg=>hc.block _ _ hg (hr _ _),d⟩
def WrAt.bel {b:Nat} {w:À} (h:WrAt B b fv nv out w) (hc:Below w w w'):WrAt B b fv nv out w':=
 h.keep (Ch.of_below (may:=λ_ _=>False) hc) (λ_ h=>h) (λ_ _ h=>h)
def WrAt.lt {b:Nat} {w:À} (h:WrAt B b fv nv out w):b<w:=by
 obtain⟨_,_,_,_,a,_⟩:=h;exact (Array.getElem?_eq_some_iff.1 a).1
def WrAt.fn {b:Nat} {w:À} (h:WrAt B b fv nv out w):w.cell? ⟨b,2,none⟩=some fv/\w.cell? ⟨b,3,none⟩=some nv:=by
 obtain⟨_,_,_,_,a,_⟩:=h;exact⟨by rw[Lib.cell_of_heap a];rfl,by rw[Lib.cell_of_heap a];rfl⟩
def nQ (b:Nat) (w:À) (h0:w.cell? b=some (b:Vl)) :
 Calls prog 122 #[b] w λe w'=>e=.returned (.tuple #[])/\w=w':=by
 obtain⟨j,a,_⟩:=Option.map_eq_some_iff.1 (show (prog.info? 80).map (·.size)=some 2 by kernel_rfl);go_in;go_wp2;rw[Lib.run_neq_ptr_same w _ underlying77 a];go_wp2;go_end0;exact⟨rfl,rfl⟩
def nE (b:Nat) (w:À) (h0:w.cell? b=some (.pointer none)) (hsh:w.shape? b=some (84,4)) (hfz:w.frozen? b=false) :
 Calls prog 122 #[b] w λe w'=>e=.returned (.tuple #[])/\w'=w.setCell b (b:Vl):=by
 obtain⟨j,c,a⟩:=Option.map_eq_some_iff.1 (show (prog.info? 80).map (·.size)=some 2 by kernel_rfl);go_in;go_wp2;rw[Lib.run_to_unsafe w b underlying77 underlying218 c (by rw[a];decide) hsh (by show 0<4;omega)];simp only[Result.andThen];rw[Oper.upon_value];go_wp2;rw[run_callFunc_extern func151 Δ Δ Δ (e:=Extern.AbiNoEscape.same) Δ];rw[Lib.run_noEscape];simp only[Result.andThen];rw[Oper.upon_value];go_wp2;rw[Lib.run_from_unsafe w b underlying218 underlying77 c hsh Δ];simp only[Result.andThen];rw[Oper.upon_value];go_wp2;go_end0;exact⟨rfl,rfl⟩
def pN {b:Nat} {w:À} (h:WrAt B b fv nv out w):
 Calls prog 122 #[b] w λe w'=>e=.returned (.tuple #[])/\(∃v,w'.heap[b]?=some (.cells #[b,v,fv,nv] 84 (0,0))/\w'.ownsRow B 5 1 v out (Lib.byteCells out)/\v.ownBlock≠some b)/\Ch (wMay B b) w w':=by
 obtain⟨i,j,k,v,a,f,c,d⟩:=h;rcases f with rfl|rfl
 ·refine (nE b w (by rw[Lib.cell_of_heap a];rfl) (by simp[World.shape?,a]) (Lib.frozen_of_heap a 0)).mono ?_;rintro e w' ⟨rfl,rfl⟩;refine⟨rfl,⟨v,by simp[World.setCell,Array.getElem?_modify,a],?_,d⟩,(Ch.refl _ _).set (p:=⟨b,0,none⟩) _ λ_=>⟨i,.inl rfl⟩⟩;refine⟨c.1,?_⟩;rcases c.2 with hn|⟨g,cap,cur,rfl,hbg,hgg,rest⟩
  ·exact .inl hn
  refine .inr ⟨g,cap,cur,rfl,hbg,?_,rest⟩;rw[Below.heap_setCell w _ _ g (λe=>d (by rw[e];rfl))];exact hgg
 refine (nQ b w (by rw[Lib.cell_of_heap a];rfl)).mono ?_;rintro e w' ⟨rfl,rfl⟩;exact⟨rfl,⟨v,a,c,d⟩,Ch.refl _ _⟩
def info5:(prog.info? 5).map (λi=>(i.zero,i.size,i.bytes))=some (some (.int .u8 0),1,1):=by kernel_rfl
def eB {w:À} {base E size n:Nat} (h:w.ownsRow base E size v n xs):∀g,v.ownBlock=some g->base<=g/\∃c fz,w.heap[g]?=some (.cells c E fz):=by
 intro k a;rcases h.2 with ⟨rfl,_⟩|⟨g,cap,cur,rfl,hb,hg,_⟩
 ·simp[Value.ownBlock] at a
 simp[Value.ownBlock] at a;subst a;exact⟨hb,_,_,hg⟩
def WrSaid (B b:Nat) (fv nv:Value) (out:List UInt8) (v:Value) (w:À) (e:Ending) (w':À):Prop:=e=.returned v/\WrAt B b fv nv out w'/\Ch (wMay B b) w w'
def gb {b:Nat} {l:List UInt8} (s:Ê) {w:À} (h:WrAt B b fv nv l w) (hlen:l.length+s.size<=140737488355328):
 Calls prog 76 #[b,.string s] w (WrSaid B b fv nv (l++s.data.toList) (.tuple #[.int .i64 s.size,.nilIface]) w):=by
 obtain⟨R,T,I,H,G⟩:=info_parts info5;have D:=η h.2.1;have M:=h.1;obtain⟨W,V⟩:=zd2 (Lib.byteCells_length l) (pN h);go_in;go_wp2_with (go_at_call 122;refine V.o.mono ?_);rintro e E ⟨rfl,⟨v,j,r,J⟩,A⟩;have u:=η A
 have c1:E.cell? ⟨b,1,none⟩=some v:=by rw[Lib.cell_of_heap j];rfl
 go_wp2_with (at_builtin;refine Lib.wpList_append_own_string _ rfl _ _ 78 9 rfl B 5 R underlying78 underlying9 T I H G _ _ _ rfl r s rfl ?c3 ?c4 ?c5 ?_)
 case c3=>unfold maxLen;omega
 case c4=>omega
 case c5=>have:=u.o.size;have:=D.o;omega
 intro O q a d _;have hlt:b<E.heap.size:=(Array.getElem?_eq_some_iff.1 j).1
 have i:q.heap[b]?=some (.cells #[b,v,fv,nv] 84 (0,0)):=by
  rw[d.block b hlt (λe=>J e.symm)];exact j
 have d1:q.cell? ⟨b,1,none⟩=some v:=by rw[Lib.cell_of_heap i];rfl
 have f1:q.frozen? ⟨b,1,none⟩=false:=Lib.frozen_of_heap i 1
 obtain⟨z,x,cap,rfl⟩:∃z x cap,O=.slice z x cap:=by
  rcases a.2 with ⟨hv,_⟩|⟨g,cap,cur,hv,_⟩
  ·exact⟨_,_,_,hv⟩
  exact⟨_,_,_,hv⟩
 go_wp2;go_ret2
 have t:(Value.slice z x cap).ownBlock≠some b:=by
  intro e;obtain⟨_,c,N,f⟩:=eB a _ e;rw[i] at f;injection f with f;injection f with _ f;exact absurd f π
 refine⟨rfl,⟨M,?_,.pointer (some ⟨b,0,none⟩),.slice z x cap,by simp[World.setCell,Array.getElem?_modify,i],.inr rfl,?_,t⟩,(u.o.grown d ?_).set (p:=⟨b,1,none⟩) _ λ_=>⟨M,.inl rfl⟩⟩
 ·have X:=d.size;simp[World.setCell];omega
 ·have U:(l++s.data.toList).length=l.length+s.size:=by simp
  rw[U,Lib.byteCells_append,<-Lib.strCells_eq];refine⟨a.1,?_⟩;rcases a.2 with hn|⟨g,cap,cur,e2,hbg,hgg,rest⟩
  ·exact .inl hn
  refine .inr ⟨g,cap,cur,e2,hbg,?_,rest⟩;rw[Below.heap_setCell q _ _ g (λe=>t (by rw[e2];show some g=some b;rw[e]))];exact hgg
 intro k o f y;obtain⟨F,c,N,L⟩:=eB r k f;rw[L] at y;injection y with y;exact⟨F,.inr ⟨c,N,y.symm⟩⟩
end
end
