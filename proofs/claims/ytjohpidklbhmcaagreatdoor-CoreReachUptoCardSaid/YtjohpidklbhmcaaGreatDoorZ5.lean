/- Core -/
import Derived.Test.YtjohpidklbhmcaaGreatDoorZ4
namespace Go.Proofs.YtjohpidklbhmcaaGreatDoor
set_option linter.all false
open Go.Proofs.Tryz
set_option maxRecDepth 100000
set_option maxHeartbeats 2000000
open Go.RowKit Go.Maps Go.WideMaps Go.ChangeMaps
def Dcl.nm (f:Dcl):List UInt8:=f.name.data.toList
def Ac.nm (f:Ac):List UInt8:=f.name.data.toList
def Eff.nm (f:Eff):List UInt8:=f.name.data.toList
def Fn.nm (f:Fn):List UInt8:=f.name.data.toList
def ep (p:Pg):List (List UInt8)->List (List UInt8)->List Dcl->Option (List (List UInt8))
 | sN,_,[]=>some sN
 | sN,sC,d::ds=>if (!decide (d.nm∈sN)&&aC d.nm)&&fN p sC d then ep p (d.nm::sN) ((d.ctors.map Ctr.nm).reverse++sC) ds else none
def dF (p:Pg):List (List UInt8)->List Fn->Bool
 | _,[]=>true
 | seen,f::fs=>if bH f.name then funP p f&&dF p seen fs else (!decide (f.nm∈seen)&&aX f.nm)&&(!oz f.nm&&(funP p f&&dF p (f.nm::seen) fs))
def iu (p:Pg) (e:Eff):Bool:=de p e.params&&ci p e.answer
def iO (p:Pg):Bool:=match idxP p.acNames [77,97,105,110] with
 | none=>false
 | some i=>match p.actors[i]? with
  | none=>false
  | some a=>decide (a.params.length=0)
def cH (p:Pg):Bool:=match ep p [] [] p.types with
 | none=>false
 | some sN=>uniq Ac.nm aC (acP p) sN p.actors&&(uniq Eff.nm aX (iu p) [] p.effects&&(dF p [] p.funs&&iO p))
def gO (l:List Dcl):Nat:=(l.map λd=>d.ctors.length).sum
structure Pg.Small (p:Pg):Prop where
 ctors:gO p.types<=1000000
 types:p.types.length<=1000000
 effects:p.effects.length<=1000000
 funs:p.funs.length<=1000000
 actors:p.actors.length<=1000000
def pB {w W:World} {bc:Nat} (h:Below w w W) (hb:w<=bc):Sub (lo w) (im (only bc) W) w W:=λb hl=>⟨⟨ρ hl h.size,λe=>by unfold only at e;unfold lo at hl;omega⟩,h.block b hl⟩
def mE {w W W2:World} {bc:Nat} (h:Below w w W) (k:Stp (only bc) W W2) (hb:w<=bc):Below w w W2:=
 ⟨k.os.trans h.os,k.tape.trans h.tape,k.output.trans h.output,ψ h.size k.size,λi hi=>(k.block i (ρ hi h.size) (λe=>by unfold only at e;omega)).trans (h.block i hi)⟩
variable {sN sC:List (List UInt8)} {l:List Dcl} {j:Nat}
def pR {p:Pg} (h:j<l) (hb:((!decide (l[j].nm∈sN)&&aC l[j].nm)&&fN p sC l[j])=false):ep p sN sC (l.drop j)=none:=by
 rw[bk h,ep,hb];rfl
def vG {p:Pg} (h:j<l) (hb:((!decide (l[j].nm∈sN)&&aC l[j].nm)&&fN p sC l[j])=true):ep p sN sC (l.drop j)=ep p (l[j].nm::sN) ((l[j].ctors.map Ctr.nm).reverse++sC) (l.drop (j+1)):=by
 rw[bk h,ep,hb];rfl
def tm {p:Pg} (h:¬j<l):ep p sN sC (l.drop j)=some sN:=by
 rw[ε ω];rfl
def kX (h:j<l):gO (l.drop j)=l[j].ctors.length+gO (l.drop (j+1)):=by
 unfold gO;rw[bk h,List.map_cons,List.sum_cons]
variable {seen:List (List UInt8)} {l:List Fn}
def wK {p:Pg} (h:¬j<l):dF p seen (l.drop j)=true:=by
 rw[ε ω];rfl
def funsD_e {p:Pg} (h:j<l) (he:bH l[j].name=true):dF p seen (l.drop j)=(funP p l[j]&&dF p seen (l.drop (j+1))):=by
 rw[bk h,dF,if_pos he]
def funsD_n {p:Pg} (h:j<l) (he:bH l[j].name=false):dF p seen (l.drop j)=((!decide (l[j].nm∈seen)&&aX l[j].nm)&&(!oz l[j].nm&&(funP p l[j]&&dF p (l[j].nm::seen) (l.drop (j+1))))):=by
 rw[bk h,dF,if_neg (by simp[he])]
def idx_main (l:List (List UInt8)) (w:World) (b n:Nat) (h:SMap w b n (idxF l l)):(Instr.lookup 101 (.map (some b)) (.string ⟨#[77,97,105,110]⟩) true).run prog w=.ok (.tuple #[(idxF l l [77,97,105,110]).getD (.int .i64 0),.bool (idxF l l [77,97,105,110]).isSome]) w:=ck h π
def fE (c:CB) (p:Pg) (w:World) (hck:ChkR w (lo w) c p) (hsm:p.Small):Calls prog 42 #[c.b] w λe w'=>e=.returned (.bool (cH p))/\Below w w w':=by
 have HV:Hid (cH p=match ep p [] [] p.types with
  | none=>false
  | some J=>uniq Ac.nm aC (acP p) J p.actors&&(uniq Eff.nm aX (iu p) [] p.effects&&(dF p [] p.funs&&iO p))):=rfl
 obtain⟨A0,q0,e0⟩:=hck.types.form;obtain⟨A1,q1,e1⟩:=hck.effects.form;obtain⟨A2,q2,e2⟩:=hck.funs.form;obtain⟨A3,q3,e3⟩:=hck.actors.form;have c0:=hck.c0;rw[e0] at c0;have HT:Hid (SlR w (lo w) 3 (DclR w (lo w)) (.slice A0 p.types q0) p.types):=by rw[<-e0];exact hck.types
 have HE:Hid (SlR w (lo w) 5 (EffR w (lo w)) (.slice A1 p.effects q1) p.effects):=by rw[<-e1];exact hck.effects
 have cp:Hid (SlR w (lo w) 11 (FnR w (lo w)) (.slice A2 p.funs q2) p.funs):=by rw[<-e2];exact hck.funs
 have bx:Hid (SlR w (lo w) 7 (AcR w (lo w)) (.slice A3 p.actors q3) p.actors):=by rw[<-e3];exact hck.actors
 have cs:Hid (w.cell? ⟨c.b,1,none⟩=some (.slice A1 p.effects q1)):=by rw[<-e1];exact hck.c1
 have cr:Hid (w.cell? ⟨c.b,2,none⟩=some (.slice A2 p.funs q2)):=by rw[<-e2];exact hck.c2
 have bv:Hid (w.cell? ⟨c.b,3,none⟩=some (.slice A3 p.actors q3)):=by rw[<-e3];exact hck.c3
 obtain⟨HC,co⟩:=zd2 hck hsm;have s1:=hsm.types;have s2:=hsm.effects;have s3:=hsm.funs;have s4:=hsm.actors;have ce:c.b<w:=hck.qb;clear hck hsm e0 e1 e2 e3;have dj:=@run_makeMap prog;go_enter func42,ntmps42;go_wp2_with fail;go_loopw [25] (λi wr=>∃(j:Nat) (J sC:List (List UInt8)),j<=p.types/\i=.int .i64 j/\Hid (ep p [] [] p.types=ep p J sC (p.types.drop j))/\J=j/\Hid (sC.length+gO (p.types.drop j)<=1000000)/\Hid (Below w w wr)/\Hid (SMap wr w J (oneF J))/\Hid (SMap wr (w+1) sC (oneF sC))) (λi _=>p.types.length-(intOf i).toNat)
 case atStart=>exact⟨0,[],[],ω,rfl,rfl,rfl,(by have:=co.ctors;simpa[Hid] using this),ζ2,(mc w).alloc _,kh w _⟩
 case round =>
  obtain⟨j,J,sC,hj,rfl,H,ax,bj,h,L,X⟩:=hrel;have aj:w.heap.size+1<wr:=X.lt;have ap:=η ax;clear ax;by_cases hlt:j<p.types
  ·have u1:=zT j p.types;obtain⟨g,a7,A,q,rfl,hg,p0,p1,p2,T,O,cf⟩:=fF HT hlt;replace p0:=belC h p0;replace p1:=belC h p1;replace p2:=belC h p2;obtain⟨aa,I⟩:=zd2 T O;have U:J<maxLen:=by have:=ap.o;unfold maxLen;omega
   have Y:=η U;have br:sC.length+p.types[j].ctors.length<maxLen:=by have:=bj.o;rw[kX hlt] at this;unfold maxLen;omega
   have bu:=η br;clear T O U br cf
   cases u:(!decide (p.types[j].nm∈J)&&aC p.types[j].nm) with
   | false =>
    have E:Hid (cH p=false):=by show _=_;rw[HV.o,H.o,pR hlt (by rw[u];rfl)]
    have G:=η u;clear u;go_wp2_with (go_at_call 94;refine (once_upper w J p.types[j].name J _ (L.alloc _) Y I).mono ?_;rintro e w1 ⟨y,f,n⟩;rw[show (!decide (p.types[j].name.data.toList∈J)&&aC p.types[j].name.data.toList)=false from G.o] at y;subst y;have t:=η (belG (belA h _) f (υ _)));go_ret;exact⟨by rw[E.o];rfl,t⟩
   | true =>
    have R:=η (ja u)
    cases z:fN p sC p.types[j] with
    | false =>
     have E:Hid (cH p=false):=by show _=_;rw[HV.o,H.o,pR hlt (by rw[z];simp)]
     obtain⟨G,M⟩:=zd2 u z;clear u z;go_wp2_with (first|(go_at_call 94;refine (once_upper w J p.types[j].name J _ (L.alloc _) Y I).mono ?_;rintro e w1 ⟨y,f,n⟩;rw[show (!decide (p.types[j].name.data.toList∈J)&&aC p.types[j].name.data.toList)=true from G.o] at y;subst y;have t:=η (belG (belA h _) f (υ _));have F:=η (n R);have c0:=f.C wr 0 (.string p.types[j].name);have c1:=f.C wr 1 (.bool p.types[j].record);have V:=f.C wr 2 (.slice A p.types[j].ctors.length q);have bi:=η ((X.alloc _).same (f.block (w+1) Φ Θ));clear n f)|(go_at_call 96;refine (tc c p _ p.types[j] (w+1) sC sC _ (HC.to (pB t ω)) (aa.to (pB t ω)) bi bu).mono ?_;rintro e w2 ⟨a1,am,a0⟩;rw[M.o] at a1;subst a1;have B2:=η (mE t am ω);have W:=η (F.same (am.block w F.lt Ω));have aq:=η a0;clear a0 am));go_ret;exact⟨by rw[E.o];rfl,B2⟩
    | true =>
     have E:Hid (ep p [] [] p.types=ep p (p.types[j].nm::J) ((p.types[j].ctors.map Ctr.nm).reverse++sC) (p.types.drop (j+1))):=by show _=_;rw[H.o];exact vG hlt (by rw[u,z];rfl)
     obtain⟨G,M⟩:=zd2 u z;clear u z;go_wp2_with (first|(go_at_call 94;refine (once_upper w J p.types[j].name J _ (L.alloc _) Y I).mono ?_;rintro e w1 ⟨y,f,n⟩;rw[show (!decide (p.types[j].name.data.toList∈J)&&aC p.types[j].name.data.toList)=true from G.o] at y;subst y;have t:=η (belG (belA h _) f (υ _));have F:=η (n R);have c0:=f.C wr 0 (.string p.types[j].name);have c1:=f.C wr 1 (.bool p.types[j].record);have V:=f.C wr 2 (.slice A p.types[j].ctors.length q);have bi:=η ((X.alloc _).same (f.block (w+1) Φ Θ));clear n f)|(go_at_call 96;refine (tc c p _ p.types[j] (w+1) sC sC _ (HC.to (pB t ω)) (aa.to (pB t ω)) bi bu).mono ?_;rintro e w2 ⟨a1,am,a0⟩;rw[M.o] at a1;subst a1;have B2:=η (mE t am ω);have W:=η (F.same (am.block w F.lt Ω));have aq:=η a0;clear a0 am));go_roundw
     case rel =>
      refine⟨j+1,_,_,ω,by go_num,E,by rw[δ,ap.o],?_,B2,W,?_⟩
      ·have u:=bj.o;have z:=kX hlt;show _+_<=_;simp;omega
      have e5:((p.types[j].ctors.map Ctr.nm).reverse++sC).length=sC.length+p.types[j].ctors.length:=by simp;omega
      rw[e5];exact aq M
     case measure=>simp[intOf];omega
  have u1:=zF j p.types;have a9:Hid (cH p=(uniq Ac.nm aC (acP p) J p.actors&&(uniq Eff.nm aX (iu p) [] p.effects&&(dF p [] p.funs&&iO p)))):=by show _=_;rw[HV.o,H.o,tm hlt]
  have dh:J.length<=1000000:=by rw[ap.o];omega
  have Z:=belC h bv;go_wp2_with fail;clear u1 c0 hlt hj H bj X HV;obtain⟨wo,rfl⟩:=γ wr
  clear Z;go_loopw [48] (λi wr=>∃(j:Nat) (seen:List (List UInt8)),j<=p.actors/\i=.int .i64 j/\Hid (uniq Ac.nm aC (acP p) J p.actors=uniq Ac.nm aC (acP p) seen (p.actors.drop j))/\seen.length=J+j/\Hid (Below w w wr)/\Hid (SMap wr w seen (oneF seen))) (λi _=>p.actors.length-(intOf i).toNat)
  case atStart=>exact⟨0,J,ω,rfl,rfl,ω,h,L⟩
  case round =>
   clear h L aj;obtain⟨j,seen,hj,rfl,H,ax,h,L⟩:=hrel;have aj:w.heap.size<wr:=L.lt;have ap:=η ax;clear ax;by_cases hlt:j<p.actors
   ·have u1:=zT j p.actors;obtain⟨g,a7,A,q,B,cq,D,d,rfl,hg,p0,p1,p2,p3,p4,p5,p6,T,_,O,_⟩:=fR bx hlt;replace p0:=belC h p0;replace p1:=belC h p1;replace p2:=belC h p2;replace p3:=belC h p3;replace p4:=belC h p4;replace p5:=belC h p5;replace p6:=belC h p6;obtain⟨aa,I⟩:=zd2 T O;have U:seen<maxLen:=by have:=ap.o;unfold maxLen;omega
    have Y:=η U;clear T O U
    cases u:(!decide (p.actors[j].nm∈seen)&&aC p.actors[j].nm) with
    | false =>
     have E:Hid (cH p=false):=by show _=_;rw[a9.o,H.o,iF hlt u];rfl
     have G:=η u;clear u;go_wp2_with (go_at_call 94;refine (once_upper w seen p.actors[j].name seen _ (L.alloc _) Y I).mono ?_;rintro e w1 ⟨y,f,n⟩;rw[show (!decide (p.actors[j].name.data.toList∈seen)&&aC p.actors[j].name.data.toList)=false from G.o] at y;subst y;have t:=η (belG (belA h _) f (υ _)));go_ret;exact⟨by rw[E.o];rfl,t⟩
    | true =>
     have R:=η (ja u)
     cases z:acP p p.actors[j] with
     | false =>
      have E:Hid (cH p=false):=by show _=_;rw[a9.o,H.o,ed hlt z];rfl
      obtain⟨G,M⟩:=zd2 u z;clear u z;go_wp2_with (first|(go_at_call 94;refine (once_upper w seen p.actors[j].name seen _ (L.alloc _) Y I).mono ?_;rintro e w1 ⟨y,f,n⟩;rw[show (!decide (p.actors[j].name.data.toList∈seen)&&aC p.actors[j].name.data.toList)=true from G.o] at y;subst y;have t:=η (belG (belA h _) f (υ _));have F:=η (n R);have c0:=f.C wr 0 (.string p.actors[j].name);have c1:=f.C wr 1 (.slice A p.actors[j].params.length q);have V:=f.C wr 2 (.int .i64 p.actors[j].slots);have Z:=f.C wr 3 (.slice B p.actors[j].vars.length cq);have c4:=f.C wr 4 (.slice D p.actors[j].on.length d);have c5:=f.C wr 5 (.int .i64 p.actors[j].policy);have c6:=f.C wr 6 (.int .i64 p.actors[j].most);clear n f)|(go_at_call 97;refine (qu c p _ p.actors[j] _ (HC.to (ae t)) (aa.to (ae t))).mono ?_;rw[M.o];rintro e w2 ⟨rfl,l⟩));go_ret;exact⟨by rw[E.o];rfl,bel t l⟩
     | true =>
      have E:Hid (uniq Ac.nm aC (acP p) J p.actors=uniq Ac.nm aC (acP p) (p.actors[j].nm::seen) (p.actors.drop (j+1))):=by show _=_;rw[H.o];exact iG hlt u z
      obtain⟨G,M⟩:=zd2 u z;clear u z;go_wp2_with (first|(go_at_call 94;refine (once_upper w seen p.actors[j].name seen _ (L.alloc _) Y I).mono ?_;rintro e w1 ⟨y,f,n⟩;rw[show (!decide (p.actors[j].name.data.toList∈seen)&&aC p.actors[j].name.data.toList)=true from G.o] at y;subst y;have t:=η (belG (belA h _) f (υ _));have F:=η (n R);have c0:=f.C wr 0 (.string p.actors[j].name);have c1:=f.C wr 1 (.slice A p.actors[j].params.length q);have V:=f.C wr 2 (.int .i64 p.actors[j].slots);have Z:=f.C wr 3 (.slice B p.actors[j].vars.length cq);have c4:=f.C wr 4 (.slice D p.actors[j].on.length d);have c5:=f.C wr 5 (.int .i64 p.actors[j].policy);have c6:=f.C wr 6 (.int .i64 p.actors[j].most);clear n f)|(go_at_call 97;refine (qu c p _ p.actors[j] _ (HC.to (ae t)) (aa.to (ae t))).mono ?_;rw[M.o];rintro e w2 ⟨rfl,l⟩));go_roundw
      case rel=>exact⟨j+1,_,ω,by go_num,E,(by rw[δ,ap.o];omega),bel t l,F.below l F.lt⟩
      case measure=>simp[intOf];omega
   have u1:=zF j p.actors;have a4:Hid (cH p=(uniq Eff.nm aX (iu p) [] p.effects&&(dF p [] p.funs&&iO p))):=by show _=_;rw[a9.o,H.o,gi hlt];rfl
   have c1:=belC h cs;have di:c.b<wr:=ρ ce h.size;go_wp2_with fail;clear u1 hlt hj H a9 L ap;obtain⟨N,rfl⟩:=γ wr
   clear c1;have a8:w.heap.size<=N:=h.size;go_loopw [72] (λi wr=>∃(j:Nat) (seen:List (List UInt8)),j<=p.effects/\i=.int .i64 j/\Hid (uniq Eff.nm aX (iu p) [] p.effects=uniq Eff.nm aX (iu p) seen (p.effects.drop j))/\Hid (Below w w wr)/\Hid (SMap wr N j (oneF seen))/\Hid (SMap wr (N+1) 0 (oneF []))) (λi _=>p.effects.length-(intOf i).toNat)
   case atStart=>exact⟨0,[],ω,rfl,rfl,belA (belA h _) _,(mc N).alloc _,kh N _⟩
   case round =>
    clear h aj;obtain⟨j,seen,hj,rfl,H,h,L,X⟩:=hrel;have aj:N.heap.size+1<wr:=X.lt;by_cases hlt:j<p.effects
    ·have u1:=zT j p.effects;obtain⟨g,a7,A,q,k,s,a,B,cq,rfl,hg,p0,p1,p2,p3,p4,T,O,bo,bs⟩:=jC HE hlt;replace p0:=belC h p0;replace p1:=belC h p1;replace p2:=belC h p2;replace p3:=belC h p3;replace p4:=belC h p4;obtain⟨bh,bw,I⟩:=zd3 bo bs O;have U:j<maxLen:=by unfold maxLen;omega
     have Y:=η U;clear T O U bo bs
     cases u:(!decide (p.effects[j].nm∈seen)&&aX p.effects[j].nm) with
     | false =>
      have E:Hid (cH p=false):=by show _=_;rw[a4.o,H.o,iF hlt u];rfl
      have G:=η u;clear u;go_wp2_with (go_at_call 94;refine (once_lower N j p.effects[j].name seen _ (L.alloc _) Y I).mono ?_;rintro e w1 ⟨y,f,n⟩;rw[show (!decide (p.effects[j].name.data.toList∈seen)&&aX p.effects[j].name.data.toList)=false from G.o] at y;subst y;have t:=η (belG (belA h _) f a8));go_ret;exact⟨by rw[E.o];rfl,t⟩
     | true =>
      have R:=η (ja u)
      cases z:de p p.effects[j].params with
      | false =>
       have E:Hid (cH p=false):=by show _=_;rw[a4.o,H.o,ed hlt (by unfold iu;rw[z];rfl)];rfl
       obtain⟨G,M⟩:=zd2 u z;clear u z;go_wp2_with (first|(go_at_call 94;refine (once_lower N j p.effects[j].name seen _ (L.alloc _) Y I).mono ?_;rintro e w1 ⟨y,f,n⟩;rw[show (!decide (p.effects[j].name.data.toList∈seen)&&aX p.effects[j].name.data.toList)=true from G.o] at y;subst y;have t:=η (belG (belA h _) f a8);have F:=η (n R);have c1:=f.C wr 1 (.slice A p.effects[j].params.length q);have V:=f.C wr 2 (k:Vl);have Z:=f.C wr 3 (s:Vl);have c4:=f.C wr 4 (.slice B a cq);have W:=η ((X.alloc _).same (f.block (N+1) Φ Θ));clear n f)|(go_at_call 99;refine (cK c p _ p.effects[j].params _ (HC.to (ae t)) (FldsR.to bh (ae t))).mono ?_;rw[M.o];rintro e w2 ⟨rfl,l⟩;have B2:=η (bel t l);have f2:=belC l V;have f3:=belC l Z;have f4:=belC l c4;have aq:=η (F.below l F.lt);have bb:=η (W.below l W.lt);clear l c1 V Z c4));go_ret;exact⟨by rw[E.o];rfl,B2⟩
      | true =>
       cases h3:ci p p.effects[j].answer with
       | false =>
        have E:Hid (cH p=false):=by show _=_;rw[a4.o,H.o,ed hlt (by unfold iu;rw[h3];simp)];rfl
        obtain⟨G,M,H3⟩:=zd3 u z h3;clear u z h3;go_wp2_with (first|(go_at_call 94;refine (once_lower N j p.effects[j].name seen _ (L.alloc _) Y I).mono ?_;rintro e w1 ⟨y,f,n⟩;rw[show (!decide (p.effects[j].name.data.toList∈seen)&&aX p.effects[j].name.data.toList)=true from G.o] at y;subst y;have t:=η (belG (belA h _) f a8);have F:=η (n R);have c1:=f.C wr 1 (.slice A p.effects[j].params.length q);have V:=f.C wr 2 (k:Vl);have Z:=f.C wr 3 (s:Vl);have c4:=f.C wr 4 (.slice B a cq);have W:=η ((X.alloc _).same (f.block (N+1) Φ Θ));clear n f)|(go_at_call 99;refine (cK c p _ p.effects[j].params _ (HC.to (ae t)) (FldsR.to bh (ae t))).mono ?_;rw[M.o];rintro e w2 ⟨rfl,l⟩;have B2:=η (bel t l);have f2:=belC l V;have f3:=belC l Z;have f4:=belC l c4;have aq:=η (F.below l F.lt);have bb:=η (W.below l W.lt);clear l c1 V Z c4)|(go_at_call 100;refine (dQ c p _ p.effects[j].answer _ (HC.to (ae B2)) (bw.to (ae B2))).mono ?_;rw[H3.o];rintro e w3 ⟨rfl,a2⟩));go_ret;exact⟨by rw[E.o];rfl,bel B2 a2⟩
       | true =>
        have E:Hid (uniq Eff.nm aX (iu p) [] p.effects=uniq Eff.nm aX (iu p) (p.effects[j].nm::seen) (p.effects.drop (j+1))):=by show _=_;rw[H.o];exact iG hlt u (by unfold iu;rw[z,h3];rfl)
        obtain⟨G,M,H3⟩:=zd3 u z h3;clear u z h3;go_wp2_with (first|(go_at_call 94;refine (once_lower N j p.effects[j].name seen _ (L.alloc _) Y I).mono ?_;rintro e w1 ⟨y,f,n⟩;rw[show (!decide (p.effects[j].name.data.toList∈seen)&&aX p.effects[j].name.data.toList)=true from G.o] at y;subst y;have t:=η (belG (belA h _) f a8);have F:=η (n R);have c1:=f.C wr 1 (.slice A p.effects[j].params.length q);have V:=f.C wr 2 (k:Vl);have Z:=f.C wr 3 (s:Vl);have c4:=f.C wr 4 (.slice B a cq);have W:=η ((X.alloc _).same (f.block (N+1) Φ Θ));clear n f)|(go_at_call 99;refine (cK c p _ p.effects[j].params _ (HC.to (ae t)) (FldsR.to bh (ae t))).mono ?_;rw[M.o];rintro e w2 ⟨rfl,l⟩;have B2:=η (bel t l);have f2:=belC l V;have f3:=belC l Z;have f4:=belC l c4;have aq:=η (F.below l F.lt);have bb:=η (W.below l W.lt);clear l c1 V Z c4)|(go_at_call 100;refine (dQ c p _ p.effects[j].answer _ (HC.to (ae B2)) (bw.to (ae B2))).mono ?_;rw[H3.o];rintro e w3 ⟨rfl,a2⟩));go_roundw
        case rel=>exact⟨j+1,_,ω,by go_num,E,bel B2 a2,aq.below a2 aq.lt,bb.below a2 bb.lt⟩
        case measure=>simp[intOf];omega
    have u1:=zF j p.effects;have a3:Hid (cH p=(dF p [] p.funs&&iO p)):=by show _=_;rw[a4.o,H.o,gi hlt];rfl
    have V:=belC h cr;go_wp2_with fail;clear u1 hlt hj H a4 L;obtain⟨wx,rfl⟩:=γ wr
    clear V aj;go_loopw [102] (λi wr=>∃(j:Nat) (seen:List (List UInt8)),j<=p.funs/\i=.int .i64 j/\Hid (dF p [] p.funs=dF p seen (p.funs.drop j))/\seen<=j/\Hid (Below w w wr)/\Hid (SMap wr (N+1) seen (oneF seen))) (λi _=>p.funs.length-(intOf i).toNat)
    case atStart=>exact⟨0,[],ω,rfl,rfl,by simp,h,X⟩
    case round =>
     clear h X;obtain⟨j,seen,hj,rfl,H,ax,h,L⟩:=hrel;have aj:N.heap.size+1<wr:=L.lt;by_cases hlt:j<p.funs
     ·have u1:=zT j p.funs;obtain⟨g,a7,A,q,k,s,a,B,cq,o,x,m,r,ex,D,d,rfl,hg,p0,p1,p2,p3,p4,p5,p6,p7,p8,p9,bn,T,_,O,_⟩:=jd cp hlt;replace p0:=belC h p0;replace p1:=belC h p1;replace p2:=belC h p2;replace p3:=belC h p3;replace p4:=belC h p4;replace p5:=belC h p5;replace p6:=belC h p6;replace p7:=belC h p7;replace p8:=belC h p8;replace p9:=belC h p9;replace bn:=belC h bn;obtain⟨aa,I⟩:=zd2 T O;have U:seen<maxLen:=by unfold maxLen;omega
      have Y:=η U;clear T O U
      cases h0:bH p.funs[j].name with
      | true =>
       have ao:=η (funsD_e (p:=p) (seen:=seen) hlt h0);obtain⟨z1,z2,z3⟩:=se_t h0;have z4:(p.funs[j].name.toList != [])=false:=by simpa using z1
       clear h0
       cases z:funP p p.funs[j] with
       | false =>
        have E:Hid (cH p=false):=by show _=_;rw[a3.o,H.o,ao.o,z];rfl
        have M:=η z;clear z;go_wp2_with (go_at_call 102;refine (oL c p _ p.funs[j] _ (HC.to (ae (belA h _))) (aa.to (ae (belA h _)))).mono ?_;rw[M.o];rintro e w2 ⟨rfl,l⟩);go_ret;exact⟨by rw[E.o];rfl,bel (belA h _) l⟩
       | true =>
        have E:Hid (dF p [] p.funs=dF p seen (p.funs.drop (j+1))):=by show _=_;rw[H.o,ao.o,z];rfl
        have M:=η z;clear z;go_wp2_with (go_at_call 102;refine (oL c p _ p.funs[j] _ (HC.to (ae (belA h _))) (aa.to (ae (belA h _)))).mono ?_;rw[M.o];rintro e w2 ⟨rfl,l⟩);go_roundw
        case rel=>exact⟨j+1,_,ω,by go_num,E,ω,bel (belA h _) l,(L.alloc _).below l (L.alloc _).lt⟩
        case measure=>simp[intOf];omega
      | false =>
       have ao:=η (funsD_n (p:=p) (seen:=seen) hlt h0);obtain⟨z1,z2,z3⟩:=se_f h0;have z4:(p.funs[j].name.toList != [])=true:=by simpa using z1
       clear h0
       cases u:(!decide (p.funs[j].nm∈seen)&&aX p.funs[j].nm) with
       | false =>
        have E:Hid (cH p=false):=by show _=_;rw[a3.o,H.o,ao.o,u];rfl
        have G:=η u;clear u;go_wp2_with (go_at_call 94;refine (once_lower (N+1) seen p.funs[j].name seen _ (L.alloc _) Y I).mono ?_;rintro e w1 ⟨y,f,n⟩;rw[show (!decide (p.funs[j].name.data.toList∈seen)&&aX p.funs[j].name.data.toList)=false from G.o] at y;subst y;have t:=η (belG (belA h _) f ω));go_ret;exact⟨by rw[E.o];rfl,t⟩
       | true =>
        have R:=η (ja u)
        cases h3:oz p.funs[j].nm with
        | true =>
         have E:Hid (cH p=false):=by show _=_;rw[a3.o,H.o,ao.o,h3];simp
         obtain⟨G,H3⟩:=zd2 u h3;clear u h3
         go_wp2_with (first|(go_at_call 94;refine (once_lower (N+1) seen p.funs[j].name seen _ (L.alloc _) Y I).mono ?_;rintro e w1 ⟨y,f,n⟩;rw[show (!decide (p.funs[j].name.data.toList∈seen)&&aX p.funs[j].name.data.toList)=true from G.o] at y;subst y;have t:=η (belG (belA h _) f ω);have F:=η (n R);have c0:=f.C wr 0 (.string p.funs[j].name);have c1:=f.C wr 1 (.slice A p.funs[j].params.length q);have V:=f.C wr 2 (k:Vl);have Z:=f.C wr 3 (s:Vl);have c4:=f.C wr 4 (.slice B a cq);have c5:=f.C wr 5 (.int .i64 p.funs[j].slots);have c6:=f.C wr 6 (o:Vl);have c7:=f.C wr 7 (x:Vl);have c8:=f.C wr 8 (m:Vl);have c9:=f.C wr 9 (r:Vl);have bt:=f.C wr 10 (.slice D ex d);clear n f)|(go_at_call 101;refine (ge _ _).mono ?_;rw[show oz p.funs[j].name.data.toList=_ from H3.o];rintro e w' ⟨rfl,rfl⟩));go_ret
         exact⟨by rw[E.o];rfl,t⟩
        | false =>
         cases z:funP p p.funs[j] with
         | false =>
          have E:Hid (cH p=false):=by show _=_;rw[a3.o,H.o,ao.o,z];simp
          obtain⟨G,M,H3⟩:=zd3 u z h3;clear u z h3
          go_wp2_with (first|(go_at_call 94;refine (once_lower (N+1) seen p.funs[j].name seen _ (L.alloc _) Y I).mono ?_;rintro e w1 ⟨y,f,n⟩;rw[show (!decide (p.funs[j].name.data.toList∈seen)&&aX p.funs[j].name.data.toList)=true from G.o] at y;subst y;have t:=η (belG (belA h _) f ω);have F:=η (n R);have c0:=f.C wr 0 (.string p.funs[j].name);have c1:=f.C wr 1 (.slice A p.funs[j].params.length q);have V:=f.C wr 2 (k:Vl);have Z:=f.C wr 3 (s:Vl);have c4:=f.C wr 4 (.slice B a cq);have c5:=f.C wr 5 (.int .i64 p.funs[j].slots);have c6:=f.C wr 6 (o:Vl);have c7:=f.C wr 7 (x:Vl);have c8:=f.C wr 8 (m:Vl);have c9:=f.C wr 9 (r:Vl);have bt:=f.C wr 10 (.slice D ex d);clear n f)|(go_at_call 101;refine (ge _ _).mono ?_;rw[show oz p.funs[j].name.data.toList=_ from H3.o];rintro e w' ⟨rfl,rfl⟩)|(go_at_call 102;refine (oL c p _ p.funs[j] _ (HC.to (ae t)) (aa.to (ae t))).mono ?_;rw[M.o];rintro e w2 ⟨rfl,l⟩))
          go_ret;exact⟨by rw[E.o];rfl,bel t l⟩
         | true =>
          have E:Hid (dF p [] p.funs=dF p (p.funs[j].nm::seen) (p.funs.drop (j+1))):=by show _=_;rw[H.o,ao.o,u,z,h3];rfl
          obtain⟨G,M,H3⟩:=zd3 u z h3;clear u z h3
          go_wp2_with (first|(go_at_call 94;refine (once_lower (N+1) seen p.funs[j].name seen _ (L.alloc _) Y I).mono ?_;rintro e w1 ⟨y,f,n⟩;rw[show (!decide (p.funs[j].name.data.toList∈seen)&&aX p.funs[j].name.data.toList)=true from G.o] at y;subst y;have t:=η (belG (belA h _) f ω);have F:=η (n R);have c0:=f.C wr 0 (.string p.funs[j].name);have c1:=f.C wr 1 (.slice A p.funs[j].params.length q);have V:=f.C wr 2 (k:Vl);have Z:=f.C wr 3 (s:Vl);have c4:=f.C wr 4 (.slice B a cq);have c5:=f.C wr 5 (.int .i64 p.funs[j].slots);have c6:=f.C wr 6 (o:Vl);have c7:=f.C wr 7 (x:Vl);have c8:=f.C wr 8 (m:Vl);have c9:=f.C wr 9 (r:Vl);have bt:=f.C wr 10 (.slice D ex d);clear n f)|(go_at_call 101;refine (ge _ _).mono ?_;rw[show oz p.funs[j].name.data.toList=_ from H3.o];rintro e w' ⟨rfl,rfl⟩)|(go_at_call 102;refine (oL c p _ p.funs[j] _ (HC.to (ae t)) (aa.to (ae t))).mono ?_;rw[M.o];rintro e w2 ⟨rfl,l⟩))
          go_roundw
          case rel=>exact⟨j+1,_,ω,by go_num,E,by simp;omega,bel t l,F.below l F.lt⟩
          case measure=>simp[intOf];omega
     have u1:=zF j p.funs;have bg:Hid (cH p=iO p):=by show _=_;rw[a3.o,H.o,wK hlt];rfl
     have c5:=belC h HC.c5;have Z:=belC h bv;have bp:=idx_main p.acNames wr c.ba c.na (HC.to (ae h)).ma;have bd:p.acNames.length=p.actors:=by simp[Pg.acNames]
     cases hix:idxP p.acNames [77,97,105,110] with
     | none =>
      have ef:idxF p.acNames p.acNames [77,97,105,110]=none:=by unfold idxF;rw[show cB p.acNames p.acNames [77,97,105,110]=none from hix];rfl
      rw[ef] at bp;have E:Hid (iO p=false):=by show iO _=_;unfold iO;rw[hix]
      clear hix ef bd;go_wp2_with fail;go_ret;exact⟨by rw[bg.o,E.o];rfl,h⟩
     | some i =>
      have ef:idxF p.acNames p.acNames [77,97,105,110]=some (.int .i64 (i:Nat)):=by unfold idxF;rw[show cB p.acNames p.acNames [77,97,105,110]=some i from hix];rfl
      rw[ef] at bp;have bq:i<p.actors.length:=by have:=(cg _ _ _ _ hix).1;omega
      have E:Hid (iO p=decide (p.actors[i].params.length=0)):=by show iO _=_;unfold iO;rw[hix];simp only;rw[ξ bq]
      obtain⟨g,a7,A,q,B,cq,D,d,rfl,hg,p0,p1,p2,p3,p4,p5,p6,T,_,O,_⟩:=fR bx bq;replace p1:=belC h p1;clear hix ef bd p0 p2 p3 p4 p5 p6 T O;have i1:(0:Int)<=i:=ω
      cases hpl:decide (p.actors[i].params.length=0)
      ·have l1:((p.actors[i].params.length:Int)==0)=false:=beq_eq_false_iff_ne.2 (by simp at hpl;simp;exact hpl);have HP:=η hpl;clear hpl;go_wp2_with fail;go_ret;exact⟨by rw[bg.o,E.o,HP.o];rfl,h⟩
      have l1:((p.actors[i].params.length:Int)==0)=true:=beq_iff_eq.2 (by simp at hpl;simp;exact hpl);have HP:=η hpl;clear hpl;go_wp2_with fail;go_ret;exact⟨by rw[bg.o,E.o,HP.o];rfl,h⟩
end Go.Proofs.YtjohpidklbhmcaaGreatDoor
