/- Core -/
import Derived.Test.YtjohpidklbhmcaaGreatDoorZ5
namespace Go.Proofs.YtjohpidklbhmcaaGreatDoor
set_option linter.all false
open Proofs.Tryz RowKit Maps WideMaps ChangeMaps
set_option maxRecDepth 100000
set_option maxHeartbeats 2000000
def jF (op:Int):Option (Bool×Bool×Bool×Bool×Bool×Bool×Bool×Int×Int):=
 if op=1 then some (true,false,false,false,false,false,false,1,1)
 else if op=2 then some (true,false,false,false,false,false,false,1,1)
 else if op=3 then some (false,false,false,false,true,true,false,1,1)
 else if op=4 then some (false,false,false,false,false,false,true,1,1)
 else if op=6 then some (true,false,false,false,true,false,false,1,1)
 else if op=7 then some (false,false,true,false,false,false,false,1,0)
 else if op=8 then some (false,false,true,false,false,false,false,2,0)
 else if op=9 then some (true,true,true,false,false,false,false,0,0)
 else if op=10 then some (false,false,true,true,false,false,false,0,0)
 else if op=11 then some (false,false,false,false,false,false,false,0,0)
 else if op=12 then some (false,false,false,false,false,false,false,1,1)
 else if op=5 then some (true,true,false,false,true,false,false,0,1)
 else none
def aK (fn fm fs ft fh fe fa:Bool) (n m:Int) (s u:Ê) (h e a:Nat):Bool:=
 (fn||(n==0))&&((fm||(m==0))&&((fs||bH s)&&((ft||bH u)&&((fh||decide (h=0))&&((fe||decide (e=0))&&(fa||decide (a=0)))))))
def aj (s:Ê):bH s=decide (s.toList=[]):=by
 rw[ByteArray.toList_eq];unfold bH;rw[Bool.eq_iff_iff];simp
def aJ:St->Bool
 | .mk op n m s u xs h e a=>match jF op with
  | none=>false
  | some (fn,fm,fs,ft,fh,fe,fa,least,most) =>
   !(decide (op=11)&&decide (0<xs.length))&&!(decide (op=5)&&decide (0<xs.length))&&!(decide ((xs.length:Int)<least)||(decide (0<most)&&decide (most<(xs.length:Int))))&&aK fn fm fs ft fh fe fa n m s u h e a
set_option maxRecDepth 1000000 in
def zfShap {p:Prop} (h:p:=by
 first
  | guard_hyp kk7:True
    have d:Hid (∀(n m:Int) (s u:Ê) (xs:List Ex) (h e a:List St),aJ (.mk 9 n m s u xs h e a)=(!(decide ((9:Int)=11)&&decide (0<xs.length))&&!(decide ((9:Int)=5)&&decide (0<xs.length))&&!(decide ((xs.length:Int)<0)||(decide ((0:Int)<0)&&decide ((0:Int)<(xs.length:Int))))&&aK true true true false false false false n m s u h e a)):=λ_ _ _ _ _ _ _ _=>rfl
  | guard_hyp kk11:True
    have d:Hid (∀(n m:Int) (s u:Ê) (xs:List Ex) (h e a:List St),aJ (.mk 5 n m s u xs h e a)=(!(decide ((5:Int)=11)&&decide (0<xs.length))&&!(decide ((5:Int)=5)&&decide (0<xs.length))&&!(decide ((xs.length:Int)<0)||(decide ((0:Int)<1)&&decide ((1:Int)<(xs.length:Int))))&&aK true true false false true false false n m s u h e a)):=λ_ _ _ _ _ _ _ _=>rfl
  | guard_hyp kk2:True
    have d:Hid (∀(n m:Int) (s u:Ê) (xs:List Ex) (h e a:List St),aJ (.mk 3 n m s u xs h e a)=(!(decide ((3:Int)=11)&&decide (0<xs.length))&&!(decide ((3:Int)=5)&&decide (0<xs.length))&&!(decide ((xs.length:Int)<1)||(decide ((0:Int)<1)&&decide ((1:Int)<(xs.length:Int))))&&aK false false false false true true false n m s u h e a)):=λ_ _ _ _ _ _ _ _=>rfl
  | guard_hyp kk4:True
    have d:Hid (∀(n m:Int) (s u:Ê) (xs:List Ex) (h e a:List St),aJ (.mk 6 n m s u xs h e a)=(!(decide ((6:Int)=11)&&decide (0<xs.length))&&!(decide ((6:Int)=5)&&decide (0<xs.length))&&!(decide ((xs.length:Int)<1)||(decide ((0:Int)<1)&&decide ((1:Int)<(xs.length:Int))))&&aK true false false false true false false n m s u h e a)):=λ_ _ _ _ _ _ _ _=>rfl
  | guard_hyp kk0:True
    have d:Hid (∀(n m:Int) (s u:Ê) (xs:List Ex) (h e a:List St),aJ (.mk 1 n m s u xs h e a)=(!(decide ((1:Int)=11)&&decide (0<xs.length))&&!(decide ((1:Int)=5)&&decide (0<xs.length))&&!(decide ((xs.length:Int)<1)||(decide ((0:Int)<1)&&decide ((1:Int)<(xs.length:Int))))&&aK true false false false false false false n m s u h e a)):=λ_ _ _ _ _ _ _ _=>rfl
  | guard_hyp kk1:True
    have d:Hid (∀(n m:Int) (s u:Ê) (xs:List Ex) (h e a:List St),aJ (.mk 2 n m s u xs h e a)=(!(decide ((2:Int)=11)&&decide (0<xs.length))&&!(decide ((2:Int)=5)&&decide (0<xs.length))&&!(decide ((xs.length:Int)<1)||(decide ((0:Int)<1)&&decide ((1:Int)<(xs.length:Int))))&&aK true false false false false false false n m s u h e a)):=λ_ _ _ _ _ _ _ _=>rfl
  | guard_hyp kk3:True
    have d:Hid (∀(n m:Int) (s u:Ê) (xs:List Ex) (h e a:List St),aJ (.mk 4 n m s u xs h e a)=(!(decide ((4:Int)=11)&&decide (0<xs.length))&&!(decide ((4:Int)=5)&&decide (0<xs.length))&&!(decide ((xs.length:Int)<1)||(decide ((0:Int)<1)&&decide ((1:Int)<(xs.length:Int))))&&aK false false false false false false true n m s u h e a)):=λ_ _ _ _ _ _ _ _=>rfl
  | guard_hyp kk5:True
    have d:Hid (∀(n m:Int) (s u:Ê) (xs:List Ex) (h e a:List St),aJ (.mk 7 n m s u xs h e a)=(!(decide ((7:Int)=11)&&decide (0<xs.length))&&!(decide ((7:Int)=5)&&decide (0<xs.length))&&!(decide ((xs.length:Int)<1)||(decide ((0:Int)<0)&&decide ((0:Int)<(xs.length:Int))))&&aK false false true false false false false n m s u h e a)):=λ_ _ _ _ _ _ _ _=>rfl
  | guard_hyp kk6:True
    have d:Hid (∀(n m:Int) (s u:Ê) (xs:List Ex) (h e a:List St),aJ (.mk 8 n m s u xs h e a)=(!(decide ((8:Int)=11)&&decide (0<xs.length))&&!(decide ((8:Int)=5)&&decide (0<xs.length))&&!(decide ((xs.length:Int)<2)||(decide ((0:Int)<0)&&decide ((0:Int)<(xs.length:Int))))&&aK false false true false false false false n m s u h e a)):=λ_ _ _ _ _ _ _ _=>rfl
  | guard_hyp kk8:True
    have d:Hid (∀(n m:Int) (s u:Ê) (xs:List Ex) (h e a:List St),aJ (.mk 10 n m s u xs h e a)=(!(decide ((10:Int)=11)&&decide (0<xs.length))&&!(decide ((10:Int)=5)&&decide (0<xs.length))&&!(decide ((xs.length:Int)<0)||(decide ((0:Int)<0)&&decide ((0:Int)<(xs.length:Int))))&&aK false false true true false false false n m s u h e a)):=λ_ _ _ _ _ _ _ _=>rfl
  | guard_hyp kk9:True
    have d:Hid (∀(n m:Int) (s u:Ê) (xs:List Ex) (h e a:List St),aJ (.mk 11 n m s u xs h e a)=(!(decide ((11:Int)=11)&&decide (0<xs.length))&&!(decide ((11:Int)=5)&&decide (0<xs.length))&&!(decide ((xs.length:Int)<0)||(decide ((0:Int)<0)&&decide ((0:Int)<(xs.length:Int))))&&aK false false false false false false false n m s u h e a)):=λ_ _ _ _ _ _ _ _=>rfl
  | have d:Hid (∀(n m:Int) (s u:Ê) (xs:List Ex) (h e a:List St),aJ (.mk 12 n m s u xs h e a)=(!(decide ((12:Int)=11)&&decide (0<xs.length))&&!(decide ((12:Int)=5)&&decide (0<xs.length))&&!(decide ((xs.length:Int)<1)||(decide ((0:Int)<1)&&decide ((1:Int)<(xs.length:Int))))&&aK false false false false false false false n m s u h e a)):=λ_ _ _ _ _ _ _ _=>rfl
 go_in;go_wp2_with fail;all_goals (go_ret;refine⟨?_,ζ1⟩;rw[d.o])
 all_goals clear d
 all_goals first
  | (refine congrArg (λb=>Ending.returned (Value.bool b)) (?_:false=_);symm;first|(simp[aK,aj, *];done)|(simp[aK,aj, *];omega)|(exfalso;omega))
  | (refine congrArg (λb=>Ending.returned (Value.bool b)) (?_:true=_);symm;first|(simp[aK,aj, *];done)|(simp[aK,aj, *];omega))
  | (refine congrArg (λb=>Ending.returned (Value.bool b)) ?_;rw[Bool.eq_iff_iff];first|(simp[aK,aj, *];done)|(simp[aK,aj, *];omega))) :p:=h
section
variable (c:CB) (n m:Int) (s u:Ê) (xs:List Ex) (h e a:List St) (A0 A1 A2 A3:Option Addr) (c0 c1 c2 c3:Nat) (w:À) (hxl:xs.length<=9223372036854775807)
include c n m s u xs h e a A0 A1 A2 A3 c0 c1 c2 c3 w hxl
theorem shaped_1:Calls prog 142 #[c.b,.agg #[(1:Int),n,m,s,u,.slice A0 xs c0,.slice A1 h c1,.slice A2 e c2,.slice A3 a c3]] w λe' w'=>e'=.returned (.bool (aJ (.mk 1 n m s u xs h e a)))/\Below w w w':=by
 have kk0:=trivial;exact zfShap
theorem shaped_2:Calls prog 142 #[c.b,.agg #[(2:Int),n,m,s,u,.slice A0 xs c0,.slice A1 h c1,.slice A2 e c2,.slice A3 a c3]] w λe' w'=>e'=.returned (.bool (aJ (.mk 2 n m s u xs h e a)))/\Below w w w':=by
 have kk1:=trivial;exact zfShap
theorem shaped_3:Calls prog 142 #[c.b,.agg #[(3:Int),n,m,s,u,.slice A0 xs c0,.slice A1 h c1,.slice A2 e c2,.slice A3 a c3]] w λe' w'=>e'=.returned (.bool (aJ (.mk 3 n m s u xs h e a)))/\Below w w w':=by
 have kk2:=trivial;exact zfShap
theorem shaped_4:Calls prog 142 #[c.b,.agg #[(4:Int),n,m,s,u,.slice A0 xs c0,.slice A1 h c1,.slice A2 e c2,.slice A3 a c3]] w λe' w'=>e'=.returned (.bool (aJ (.mk 4 n m s u xs h e a)))/\Below w w w':=by
 have kk3:=trivial;exact zfShap
theorem shaped_6:Calls prog 142 #[c.b,.agg #[(6:Int),n,m,s,u,.slice A0 xs c0,.slice A1 h c1,.slice A2 e c2,.slice A3 a c3]] w λe' w'=>e'=.returned (.bool (aJ (.mk 6 n m s u xs h e a)))/\Below w w w':=by
 have kk4:=trivial;exact zfShap
theorem shaped_7:Calls prog 142 #[c.b,.agg #[(7:Int),n,m,s,u,.slice A0 xs c0,.slice A1 h c1,.slice A2 e c2,.slice A3 a c3]] w λe' w'=>e'=.returned (.bool (aJ (.mk 7 n m s u xs h e a)))/\Below w w w':=by
 have kk5:=trivial;exact zfShap
theorem shaped_8:Calls prog 142 #[c.b,.agg #[(8:Int),n,m,s,u,.slice A0 xs c0,.slice A1 h c1,.slice A2 e c2,.slice A3 a c3]] w λe' w'=>e'=.returned (.bool (aJ (.mk 8 n m s u xs h e a)))/\Below w w w':=by
 have kk6:=trivial;exact zfShap
theorem shaped_9:Calls prog 142 #[c.b,.agg #[(9:Int),n,m,s,u,.slice A0 xs c0,.slice A1 h c1,.slice A2 e c2,.slice A3 a c3]] w λe' w'=>e'=.returned (.bool (aJ (.mk 9 n m s u xs h e a)))/\Below w w w':=by
 have kk7:=trivial;exact zfShap
theorem shaped_10:Calls prog 142 #[c.b,.agg #[(10:Int),n,m,s,u,.slice A0 xs c0,.slice A1 h c1,.slice A2 e c2,.slice A3 a c3]] w λe' w'=>e'=.returned (.bool (aJ (.mk 10 n m s u xs h e a)))/\Below w w w':=by
 have kk8:=trivial;exact zfShap
theorem shaped_11:Calls prog 142 #[c.b,.agg #[(11:Int),n,m,s,u,.slice A0 xs c0,.slice A1 h c1,.slice A2 e c2,.slice A3 a c3]] w λe' w'=>e'=.returned (.bool (aJ (.mk 11 n m s u xs h e a)))/\Below w w w':=by
 have kk9:=trivial;exact zfShap
theorem shaped_12:Calls prog 142 #[c.b,.agg #[(12:Int),n,m,s,u,.slice A0 xs c0,.slice A1 h c1,.slice A2 e c2,.slice A3 a c3]] w λe' w'=>e'=.returned (.bool (aJ (.mk 12 n m s u xs h e a)))/\Below w w w':=by
 have kk10:=trivial;exact zfShap
theorem shaped_5:Calls prog 142 #[c.b,.agg #[(5:Int),n,m,s,u,.slice A0 xs c0,.slice A1 h c1,.slice A2 e c2,.slice A3 a c3]] w λe' w'=>e'=.returned (.bool (aJ (.mk 5 n m s u xs h e a)))/\Below w w w':=by
 have kk11:=trivial;exact zfShap
end
def rQ {op:Int} (h:jF op=none):op≠1/\op≠2/\op≠3/\op≠4/\op≠6/\op≠7/\op≠8/\op≠9/\op≠10/\op≠11/\op≠12/\op≠5:=by
 refine⟨?_,?_,?_,?_,?_,?_,?_,?_,?_,?_,?_,?_⟩<;>(rintro rfl;simp[jF] at h)
def qB (c:CB) (op n m:Int) (s u:Ê) (xs:List Ex) (h e a:List St) (A0 A1 A2 A3:Option Addr) (c0 c1 c2 c3:Nat) (w:À) (ho:jF op=none):Calls prog 142 #[c.b,.agg #[op,n,m,s,u,.slice A0 xs c0,.slice A1 h c1,.slice A2 e c2,.slice A3 a c3]] w λe' w'=>e'=.returned (.bool (aJ (.mk op n m s u xs h e a)))/\Below w w w':=by
 have x:Hid (aJ (.mk op n m s u xs h e a)=false):=by show aJ _=false;simp only[aJ,ho]
 obtain⟨v,t,r,q,p,l,k,j,i,g,f,d⟩:=rQ ho;have L:(op==1)=false:=beq_eq_false_iff_ne.2 v;have J:(op==2)=false:=beq_eq_false_iff_ne.2 t;have I:(op==3)=false:=beq_eq_false_iff_ne.2 r;have H:(op==4)=false:=beq_eq_false_iff_ne.2 q;have G:(op==5)=false:=beq_eq_false_iff_ne.2 d;have F:(op==6)=false:=beq_eq_false_iff_ne.2 p;have E:(op==7)=false:=beq_eq_false_iff_ne.2 l;have D:(op==8)=false:=beq_eq_false_iff_ne.2 k;have B:(op==9)=false:=beq_eq_false_iff_ne.2 j;have A:(op==10)=false:=beq_eq_false_iff_ne.2 i;have z:(op==11)=false:=beq_eq_false_iff_ne.2 g;have y:(op==12)=false:=beq_eq_false_iff_ne.2 f;go_in;go_wp2_with fail;all_goals (go_ret;refine⟨?_,ζ1⟩;rw[x.o];rfl)
def kb (c:CB) (op n m:Int) (s u:Ê) (xs:List Ex) (h e a:List St) (A0 A1 A2 A3:Option Addr) (c0 c1 c2 c3:Nat) (w:À) (hxl:xs.length<=9223372036854775807):Calls prog 142 #[c.b,.agg #[op,n,m,s,u,.slice A0 xs c0,.slice A1 h c1,.slice A2 e c2,.slice A3 a c3]] w λe' w'=>e'=.returned (.bool (aJ (.mk op n m s u xs h e a)))/\Below w w w':=by
 cases h0:jF op with
 | none=>exact qB c op n m s u xs h e a A0 A1 A2 A3 c0 c1 c2 c3 w h0
 | some v =>
  by_cases x:op=1
  ·subst x;exact shaped_1 c n m s u xs h e a A0 A1 A2 A3 c0 c1 c2 c3 w hxl
  by_cases t:op=2
  ·subst t;exact shaped_2 c n m s u xs h e a A0 A1 A2 A3 c0 c1 c2 c3 w hxl
  by_cases r:op=3
  ·subst r;exact shaped_3 c n m s u xs h e a A0 A1 A2 A3 c0 c1 c2 c3 w hxl
  by_cases q:op=4
  ·subst q;exact shaped_4 c n m s u xs h e a A0 A1 A2 A3 c0 c1 c2 c3 w hxl
  by_cases l:op=6
  ·subst l;exact shaped_6 c n m s u xs h e a A0 A1 A2 A3 c0 c1 c2 c3 w hxl
  by_cases k:op=7
  ·subst k;exact shaped_7 c n m s u xs h e a A0 A1 A2 A3 c0 c1 c2 c3 w hxl
  by_cases j:op=8
  ·subst j;exact shaped_8 c n m s u xs h e a A0 A1 A2 A3 c0 c1 c2 c3 w hxl
  by_cases i:op=9
  ·subst i;exact shaped_9 c n m s u xs h e a A0 A1 A2 A3 c0 c1 c2 c3 w hxl
  by_cases g:op=10
  ·subst g;exact shaped_10 c n m s u xs h e a A0 A1 A2 A3 c0 c1 c2 c3 w hxl
  by_cases f:op=11
  ·subst f;exact shaped_11 c n m s u xs h e a A0 A1 A2 A3 c0 c1 c2 c3 w hxl
  by_cases d:op=12
  ·subst d;exact shaped_12 c n m s u xs h e a A0 A1 A2 A3 c0 c1 c2 c3 w hxl
  by_cases p:op=5
  ·subst p;exact shaped_5 c n m s u xs h e a A0 A1 A2 A3 c0 c1 c2 c3 w hxl
  simp[jF, *] at h0
