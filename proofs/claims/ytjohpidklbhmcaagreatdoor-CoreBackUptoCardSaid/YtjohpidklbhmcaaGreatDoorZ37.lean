/- Core -/
import Derived.Test.YtjohpidklbhmcaaGreatDoorZ6
namespace Go.Proofs.YtjohpidklbhmcaaGreatDoor
set_option linter.all false
open Go.Proofs.Tryz
def zz (a:ByteArray):bEq a a=true:=by unfold bEq;simp
theorem zy {α:Type} {f:α->α->Bool}:∀{l:List α},(∀x∈l,f x x=true)->eqL f l l=true
 | [],_=>rfl
 | x::l,h=>by rw[eqL,h x List.mem_cons_self,zy λy hy=>h y (List.mem_cons_of_mem _ hy)];rfl
mutual
theorem zC:∀t:Ty,bO t t=true
 | .mk k s a=>by rw[bO,zV a];simp
theorem zV:∀l:List Ty,cP l l=true
 | []=>by rw[cP]
 | x::l=>by rw[cP,zC x,zV l];rfl
end
mutual
theorem zH:∀t:Ex,df t t=true
 | .mk o n m s a=>by rw[df,zz,zW a];simp
theorem zW:∀l:List Ex,ot l l=true
 | []=>by rw[ot]
 | x::l=>by rw[ot,zH x,zW l];rfl
end
mutual
theorem zZ:∀t:St,cU t t=true
 | .mk o n m s u xs h e a=>by rw[cU,zz,zz,zy λx _=>zH x,zD h,zD e,zD a];simp
theorem zD:∀l:List St,kE l l=true
 | []=>by rw[kE]
 | x::l=>by rw[kE,zZ x,zD l];rfl
end
def zx (l:List Fld):eqL cy l l=true:=zy λx _=>by unfold cy;rw[zz,zC];rfl
def AN (p:Pg):rC p p=true:=by
 unfold rC;rw[zy λx _=>?_,zy λx _=>?_,zy λx _=>?_,zy λx _=>?_]
 ·rfl
 ·unfold gZ;rw[zz,zx,zy λx _=>by unfold gW;rw[zz,zC,zH];rfl,zy λx _=>by unfold gX;rw[zz,zx,zy λx _=>zZ x];simp];simp
 ·unfold gY;rw[zz,zx,zC,zH];simp
 ·unfold eO;rw[zz,zx,zC];rfl
 unfold eP;rw[zz,zy λx _=>by unfold eQ;rw[zz,zx];rfl];simp
end Go.Proofs.YtjohpidklbhmcaaGreatDoor
