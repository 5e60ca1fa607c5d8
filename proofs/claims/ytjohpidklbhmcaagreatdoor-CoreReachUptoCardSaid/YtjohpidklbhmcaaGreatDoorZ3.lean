/- Core -/
import Derived.Test.YtjohpidklbhmcaaGreatDoorZ1
namespace Go.Proofs.YtjohpidklbhmcaaGreatDoor
set_option linter.all false
open Go.Proofs.Tryz
set_option maxRecDepth 100000
set_option maxHeartbeats 2000000
open Go.RowKit
def yW (s:ByteArray) (h:0<s.size) (hm:s.size<=9223372036854775807) (w:World) (hlo:65<=s[0].toNat) (hhi:s[0].toNat<=90) :
 Calls prog 202 #[s] w λe w'=>e=.returned (.bool (fo s.data.toList 65 90))/\w=w':=by
 have G:decide ((s[0].toNat:Int)<65)=false:=decide_eq_false ω;have F:decide ((90:Int)<(s[0].toNat:Int))=false:=decide_eq_false ω;have E:decide (s[0].toNat<65)=false:=decide_eq_false ω;have D:decide (90<s[0].toNat)=false:=decide_eq_false ω;have n:¬s.toList=[]:=by rw[ByteArray.toList_eq];obtain⟨t,e⟩:=ej h;rw[e];simp
 have L:(s.toList==[])=false:=by simpa using n
 have J:s.toList.isEmpty=false:=by simpa using n
 obtain⟨q,r,H⟩:=zd3 hlo hhi h;clear hlo hhi;go_enter func202,ntmps202;go_upto_region 4 with fail;go_loopw [19] (λi wr=>∃k:Nat,k<=s.size/\i=.int .i64 k/\Hid (∀j (h:j<s.size),j<k->em s[j]=true)/\wr=w) (λi _=>s.size-(intOf i).toNat)
 case atStart=>exact⟨0,ω,rfl,λj _ hj=>ω,rfl⟩
 case round =>
  obtain⟨k,I,rfl,b,rfl⟩:=hrel;by_cases hlt:k<s.size
  ·have l:decide ((k:Int)<s.size)=true:=decide_eq_true ω
   have m:Hid (em s[k]=true->∀j (h:j<s.size),j<k+1->em s[j]=true):=λhx j h hj=>by
    by_cases e:j=k
    ·subst e;exact hx
    exact b j h ω
   have p:Hid (em s[k]=false->fo s.data.toList 65 90=false):=λhx=>sq hlt hx;have c:em s[k]=((decide (97<=s[k].toNat)&&decide (s[k].toNat<=122))||(decide (65<=s[k].toNat)&&decide (s[k].toNat<=90))||(decide (48<=s[k].toNat)&&decide (s[k].toNat<=57))||(s[k].toNat==95)):=rfl;have d:=η c;clear c;have a:(s[k].toNat<48)\/(48<=s[k].toNat/\s[k].toNat<=57)\/(58<=s[k].toNat/\s[k].toNat<=64)\/(65<=s[k].toNat/\s[k].toNat<=90)\/(91<=s[k].toNat/\s[k].toNat<=96/\s[k].toNat≠95)\/(s[k].toNat=95)\/(97<=s[k].toNat/\s[k].toNat<=122)\/(123<=s[k].toNat):=ω;rcases a with a|a|a|a|a|a|a|a
   all_goals
    first|(have B:((s[k].toNat:Int)==95)=true:=by simp;omega)|(have B:((s[k].toNat:Int)==95)=false:=by simp;omega)
    first|(have A:decide ((97:Int)<=s[k].toNat)=true:=decide_eq_true ω)|(have A:decide ((97:Int)<=s[k].toNat)=false:=decide_eq_false ω)
    first|(have z:decide ((s[k].toNat:Int)<=122)=true:=decide_eq_true ω)|(have z:decide ((s[k].toNat:Int)<=122)=false:=decide_eq_false ω)
    first|(have y:decide ((65:Int)<=s[k].toNat)=true:=decide_eq_true ω)|(have y:decide ((65:Int)<=s[k].toNat)=false:=decide_eq_false ω)
    first|(have x:decide ((s[k].toNat:Int)<=90)=true:=decide_eq_true ω)|(have x:decide ((s[k].toNat:Int)<=90)=false:=decide_eq_false ω)
    first|(have v:decide ((48:Int)<=s[k].toNat)=true:=decide_eq_true ω)|(have v:decide ((48:Int)<=s[k].toNat)=false:=decide_eq_false ω)
    first|(have u:decide ((s[k].toNat:Int)<=57)=true:=decide_eq_true ω)|(have u:decide ((s[k].toNat:Int)<=57)=false:=decide_eq_false ω)
    first
    | (have g:Hid (em s[k]=true):=by
        show em s[k]=true;rw[d.o];simp;omega
       clear a;go_wp2_with fail;go_roundw
       case rel=>exact⟨k+1,ω,by go_num,m g,trivial⟩
       case measure=>simp[intOf];omega)
    | (have g:Hid (em s[k]=false):=by
        show em s[k]=false;rw[d.o];simp;omega
       clear a;go_wp2_with fail;go_ret;exact⟨by rw[p.o g.o];rfl,rfl⟩)
  obtain rfl:k=s.size:=ω;have l:decide ((s.size:Int)<s.size)=false:=decide_eq_false ω;have f:=η (pQ H q r λj h=>b j h h);go_wp2_with fail;go_ret;exact⟨by rw[f.o];rfl,rfl⟩
def tt (s:ByteArray) (w:World) (hm:s.size<=maxLen) :
 Calls prog 202 #[s] w λe w'=>e=.returned (.bool (fo s.data.toList 65 90))/\w=w':=by
 unfold maxLen at hm;by_cases h:0<s.size
 ·by_cases k:65<=s[0].toNat
  ·by_cases j:s[0].toNat<=90
   ·exact yW s h hm w k j
   have d:=η (jk (a:=65) (b:=90) h (λx=>j x.2));have i:decide ((s[0].toNat:Int)<65)=false:=decide_eq_false ω;have p:decide ((90:Int)<(s[0].toNat:Int))=true:=decide_eq_true ω;have g:decide (s[0].toNat<65)=false:=decide_eq_false ω;have n:decide (90<s[0].toNat)=true:=decide_eq_true ω;have c:¬s.toList=[]:=by rw[ByteArray.toList_eq];obtain⟨t,e⟩:=ej h;rw[e];simp
   have m:(s.toList==[])=false:=by simpa using c
   have l:s.toList.isEmpty=false:=by simpa using c
   go_enter func202,ntmps202;go_wp2_with fail;go_ret;exact⟨by rw[d.o];rfl,rfl⟩
  have d:=η (jk (a:=65) (b:=90) h (λx=>k x.1));have i:decide ((s[0].toNat:Int)<65)=true:=decide_eq_true ω;have g:decide (s[0].toNat<65)=true:=decide_eq_true ω;have c:¬s.toList=[]:=by rw[ByteArray.toList_eq];obtain⟨t,e⟩:=ej h;rw[e];simp
  have m:(s.toList==[])=false:=by simpa using c
  have l:s.toList.isEmpty=false:=by simpa using c
  go_enter func202,ntmps202;go_wp2_with fail;go_ret;exact⟨by rw[d.o];rfl,rfl⟩
 have f:s.data.toList=[]:=by
  have:s.data.toList.length=0:=by have:s.data.size=0:=by (have:s.size=s.data.size:=rfl);omega
                                  simpa using this
  exact List.length_eq_zero_iff.1 this
 have d:Hid (fo s.data.toList 65 90=false):=by show fo _ _ _=_;rw[f];rfl
 have c:s.toList=[]:=by rw[ByteArray.toList_eq];exact f
 have m:(s.toList==[])=true:=by simpa using c
 have l:s.toList.isEmpty=true:=by simpa using c
 clear f;go_enter func202,ntmps202;go_wp2_with fail;go_ret;exact⟨by rw[d.o];rfl,rfl⟩
open Go.Maps Go.WideMaps Go.ChangeMaps
def cB (l:List (List UInt8)):Nat->List UInt8->Option Nat
 | 0,_=>none
 | k+1,s=>if l[k]?=some s then some k else cB l k s
def idxP (l:List (List UInt8)) (s:List UInt8):Option Nat:=cB l l s
def idxF (l:List (List UInt8)) (k:Nat) (s:List UInt8):Option Value:=(cB l k s).map λi=>.int .i64 (i:Nat)
theorem cg (l:List (List UInt8)):∀k s i,cB l k s=some i->i<k/\l[i]?=some s
 | 0,_,_,h=>by simp[cB] at h
 | k+1,s,i,h=>by
  rw[cB] at h
  split at h
  ·injection h with h;subst h;exact⟨ω,by assumption⟩
  have:=cg l k s i h;exact⟨ω,this.2⟩
abbrev SMap (w:World) (b n:Nat) (f:List UInt8->Option Value):Prop:=MapIs prog 9 Lit.string w b n f
def Pg.tyNames (p:Pg):List (List UInt8):=p.types.map λd=>d.name.data.toList
def Pg.acNames (p:Pg):List (List UInt8):=p.actors.map λd=>d.name.data.toList
def Pg.efNames (p:Pg):List (List UInt8):=p.effects.map λd=>d.name.data.toList
structure CB where
 (b bt ba be br nt na ne:Nat)
 (v0 v1 v2 v3:Value)
structure ChkR (w:World) (Q:Nat->Prop) (c:CB) (p:Pg):Prop where
 qb:Q c.b
 qt:Q c.bt
 qa:Q c.ba
 qe:Q c.be
 c0:w.cell? c.b=some c.v0
 c1:w.cell? ⟨c.b,1,none⟩=some c.v1
 c2:w.cell? ⟨c.b,2,none⟩=some c.v2
 c3:w.cell? ⟨c.b,3,none⟩=some c.v3
 c4:w.cell? ⟨c.b,4,none⟩=some (.map (some c.bt))
 c5:w.cell? ⟨c.b,5,none⟩=some (.map (some c.ba))
 c6:w.cell? ⟨c.b,6,none⟩=some (.map (some c.be))
 c7:w.cell? ⟨c.b,7,none⟩=some (.map (some c.br))
 types:SlR w Q 3 (DclR w Q) c.v0 p.types
 effects:SlR w Q 5 (EffR w Q) c.v1 p.effects
 funs:SlR w Q 11 (FnR w Q) c.v2 p.funs
 actors:SlR w Q 7 (AcR w Q) c.v3 p.actors
 mt:SMap w c.bt c.nt (idxF p.tyNames p.tyNames)
 ma:SMap w c.ba c.na (idxF p.acNames p.acNames)
 me:SMap w c.be c.ne (idxF p.efNames p.efNames)
section
variable {Q':Nat->Prop}
def au {w w':World} {Q:Nat->Prop} {a:Addr} {v:Value} (h:w.cell? a=some v) (hb:Sub Q Q' w w') (hq:Q a.block):w'.cell? a=some v:=(World.cell?_of_block (w:=w) (hb a.block hq).2).trans h
def ChkR.to {w w':World} {Q:Nat->Prop} {c:CB} {p:Pg} (h:ChkR w Q c p) (hb:Sub Q Q' w w'):ChkR w' Q' c p:=
 ⟨(hb _ h.qb).1,(hb _ h.qt).1,(hb _ h.qa).1,(hb _ h.qe).1,au h.c0 hb h.qb,au h.c1 hb h.qb,au h.c2 hb h.qb,au h.c3 hb h.qb,au h.c4 hb h.qb,au h.c5 hb h.qb,au h.c6 hb h.qb,au h.c7 hb h.qb,
  h.types.to' hb λ_ _ x=>x.to hb,h.effects.to' hb λ_ _ x=>x.to hb,h.funs.to' hb λ_ _ x=>x.to hb,h.actors.to' hb λ_ _ x=>x.to hb,h.mt.to hb h.qt,h.ma.to hb h.qa,h.me.to hb h.qe⟩
def nS (w:World):(zeroValue 3).run prog w=.ok (.int .i64 0) w:=by kernel_rfl
def ck {w:World} {b n:Nat} {f:List UInt8->Option Value} (h:SMap w b n f) {s:ByteArray} (hs:s.size<=maxLen):(Instr.lookup 101 (.map (some b)) (s:Vl) true).run prog w=.ok (.tuple #[(f s.data.toList).getD (.int .i64 0),.bool (f s.data.toList).isSome]) w:=
 MapIs.lookOk h (fL underlying9) underlying101 (nS w) (keyOf_string_mk underlying9 hs)
def cR {w:World} {b n:Nat} {f:List UInt8->Option Value} (h:SMap w b n f) {s:ByteArray} (hs:s.size<=maxLen):(Instr.lookup 101 (.map (some b)) (s:Vl) false).run prog w=.ok ((f s.data.toList).getD (.int .i64 0)) w:=
 MapIs.look h (fL underlying9) underlying101 (nS w) (keyOf_string_mk underlying9 hs)
def fH {w:World} {b n:Nat} {f:List UInt8->Option Value} (h:SMap w b n f) (k:Nat):SMap (w.drewN k) b n f:=h.same rfl
mutual
def cd (p:Pg):Ty->Bool
 | .mk k s a=>(if k=6 then (idxP p.tyNames s.data.toList).isSome else if k=7 then (idxP p.acNames s.data.toList).isSome else true)&&kJ p a
def kJ (p:Pg):List Ty->Bool
 | []=>true
 | x::xs=>cd p x&&kJ p xs
end
def rU (p:Pg) (l:List Ty):kJ p l=l.all (cd p):=by
 induction l with
 | nil=>rfl
 | cons x l ih=>rw[kJ,List.all_cons,ih]
def eU (l:List (List UInt8)) (s:List UInt8):(idxF l l s).isSome=(idxP l s).isSome:=by unfold idxF idxP;cases cB l l s<;>rfl
def bH (s:ByteArray):Bool:=s.data.toList.isEmpty
def se_t {s:ByteArray} (h:bH s=true):s.toList=[]/\(s.toList==[])=true/\s.toList.isEmpty=true:=by
 have:s.toList=[]:=by rw[ByteArray.toList_eq];simpa[bH] using h
 exact⟨this,by rw[this];rfl,by rw[this];rfl⟩
def se_f {s:ByteArray} (h:bH s=false):¬s.toList=[]/\(s.toList==[])=false/\s.toList.isEmpty=false:=by
 have:¬s.toList=[]:=by rw[ByteArray.toList_eq];simpa[bH] using h
 exact⟨this,by simpa using this,by simpa using this⟩
mutual
def ag:Ty->Bool
 | .mk k s a =>
  if k=1\/k=2\/k=3\/k=4 then bH s&&decide (a.length=0)
  else if k=6\/k=7 then aC s.data.toList&&decide (a.length=0)
  else if k=5 then bH s&&decide (a.length=1)&&eh a
  else if k=8 then bH s&&!decide (a.length=0)&&eh a
  else false
def eh:List Ty->Bool
 | []=>true
 | x::xs=>ag x&&eh xs
end
def fi (l:List Ty):eh l=l.all ag:=by
 induction l with
 | nil=>rfl
 | cons x l ih=>rw[eh,List.all_cons,ih]
def all_one {α:Type} (f:α->Bool) (l:List α) (h:l.length=1):l.all f=f (l[0]'ω):=by
 match l,h with
 | [x],_=>simp
def tY (n:Nat):∀(cs:List Value) (t:Ty) (w:World),SizeOf.sizeOf t<=n->TyR w (lo w) cs t->Calls prog 188 #[.agg cs.toArray] w λe w'=>e=.returned (.bool (ag t))/\Below w w w':=by
 induction n with
 | zero=>intro cs t w H;cases t;simp at H
 | succ n ih =>
  intro cs t w H G;obtain⟨k,s,a,A,cap,rfl,rfl,_,b,J⟩:=ap G;have al:=J.le9;have O:Hid (∀(i:Nat) (h:i<a.length) (cs:List Value) (w:World),TyR w (lo w) cs a[i]->Calls prog 188 #[.agg cs.toArray] w λe w'=>e=.returned (.bool (ag a[i]))/\Below w w w'):=λi h cs w G=>ih cs a[i] w (by have:=List.sizeOf_lt_of_mem (ν h);simp at H;omega) G;obtain⟨HA,HS⟩:=zd2 J b;clear ih H G J b;by_cases m:k=1\/k=2\/k=3\/k=4
  ·have d:Hid (ag (.mk k s a)=(bH s&&decide (a.length=0))):=by show ag _=_;rw[ag,if_pos m]
   cases b:bH s<;>cases c:decide (a.length=0)
   all_goals
    first|(obtain⟨x,E,D⟩:=se_f b)|(obtain⟨x,E,D⟩:=se_t b)
    first|(have v:((a.length:Int)==0)=false:=by simp at c;simp;exact c)|(have v:((a.length:Int)==0)=true:=by simp at c;simp;exact c)
    obtain⟨f,F⟩:=zd2 b c;clear b c;rcases m with rfl|rfl|rfl|rfl
    all_goals
     go_enter func188,ntmps188;go_wp2_with fail;go_ret;exact⟨by rw[d.o,f.o,F.o];rfl,ζ1⟩
  by_cases u:k=6\/k=7
  ·have d:Hid (ag (.mk k s a)=(aC s.data.toList&&decide (a.length=0))):=by show ag _=_;rw[ag,if_neg m,if_pos u]
   clear m
   cases b:aC s.data.toList<;>cases c:decide (a.length=0)
   all_goals
    first|(have v:((a.length:Int)==0)=false:=by simp at c;simp;exact c)|(have v:((a.length:Int)==0)=true:=by simp at c;simp;exact c)
    obtain⟨f,F⟩:=zd2 b c;clear b c;rcases u with rfl|rfl
    all_goals
     go_enter func188,ntmps188;go_wp2_with (go_at_call 202;refine (tt s _ HS).mono ?_;rw[show fo s.data.toList 65 90=aC s.data.toList from rfl,f.o];rintro e w' ⟨rfl,rfl⟩);go_ret;exact⟨by rw[d.o,f.o,F.o];rfl,ζ1⟩
  by_cases B:k=5
  ·subst B;have d:Hid (ag (.mk 5 s a)=(bH s&&decide (a.length=1)&&a.all ag)):=by show ag _=_;rw[ag,if_neg m,if_neg u,if_pos rfl,fi]
   clear m u
   cases b:bH s
   ·obtain⟨x,E,D⟩:=se_f b;have f:=η b;clear b;go_enter func188,ntmps188;go_wp2_with fail;go_ret;exact⟨by rw[d.o,f.o];rfl,ζ1⟩
   obtain⟨x,E,D⟩:=se_t b;have f:=η b;clear b;by_cases c:a.length=1
   ·have v:((a.length:Int)==1)=true:=by simp;omega
    have hlt:0<a.length:=ω;obtain⟨g,X,Y,s1,a1,A1,N,rfl,hg,M,W,V,U,r⟩:=cS (TysR.to HA (ae (belA (belR w) (.cells #[(5:Int),s,.slice A a cap] 40)))) hlt;have F:Hid (a.all ag=ag a[0]):=all_one _ a c;have l:Hid (decide (a.length=1)=true):=decide_eq_true c;have y:=η r;simp only[Nat.zero_mul,Nat.add_zero] at W V U;clear r M c
    cases hsm:ag a[0]
    all_goals
     have p:=η hsm;clear hsm;go_enter func188,ntmps188;go_wp2_with (go_at_call 188;refine (O 0 hlt _ _ y).mono ?_;rw[p.o];rintro e T ⟨rfl,z⟩);go_ret;exact⟨by rw[d.o,f.o,l.o,F.o,p.o];rfl,bel ζ1 z⟩
   have v:((a.length:Int)==1)=false:=by simp;omega
   have l:Hid (decide (a.length=1)=false):=decide_eq_false c;clear c;go_enter func188,ntmps188;go_wp2_with fail;go_ret;exact⟨by rw[d.o,f.o,l.o];rfl,ζ1⟩
  by_cases L:k=8
  ·subst L;have d:Hid (ag (.mk 8 s a)=(bH s&&!decide (a.length=0)&&a.all ag)):=by show ag _=_;rw[ag,if_neg m,if_neg u,if_neg B,if_pos rfl,fi]
   clear m u B
   cases b:bH s
   ·obtain⟨x,E,D⟩:=se_f b;have e4:(s.toList != [])=true:=by simpa using x
    have f:=η b;clear b;go_enter func188,ntmps188;go_wp2_with fail;go_ret;exact⟨by rw[d.o,f.o];rfl,ζ1⟩
   obtain⟨x,E,D⟩:=se_t b;have e4:(s.toList != [])=false:=by simpa using x
   have f:=η b;clear b;by_cases c:a.length=0
   ·have v:((a.length:Int)==0)=true:=beq_iff_eq.2 ω;have l:Hid (decide (a.length=0)=true):=decide_eq_true c;clear c;go_enter func188,ntmps188;go_wp2_with fail;go_ret;exact⟨by rw[d.o,f.o,l.o];rfl,ζ1⟩
   have v:((a.length:Int)==0)=false:=beq_eq_false_iff_ne.2 ω;have l:Hid (decide (a.length=0)=false):=decide_eq_false c;clear c;go_enter func188,ntmps188;go_wp2_with fail;go_loopw [65] (λi wr=>∃j:Nat,j<=a/\i=.int .i64 j/\Hid (∀q (h:q<a.length),q<j->ag a[q]=true)/\Hid (Below w w wr)) (λi _=>a.length-(intOf i).toNat)
   case atStart=>exact⟨0,ω,rfl,λq _ h=>ω,ζ1⟩
   case round =>
    obtain⟨j,hj,rfl,Z,I⟩:=hrel;by_cases hlt:j<a
    ·have u1:=zT j a;obtain⟨g,X,Y,s1,a1,A1,N,rfl,hg,M,W,V,U,r⟩:=cS (TysR.to HA (ae I)) hlt;have y:=η r;clear r M
     cases hsm:ag a[j] with
     | false =>
      have R:Hid (a.all ag=false):=iJ _ _ j hlt hsm;have p:=η hsm;clear hsm;go_wp2_with (go_at_call 188;refine (O j hlt _ _ (y.to (ae ζ1))).mono ?_;rw[p.o];rintro e T ⟨rfl,z⟩);go_ret;exact⟨by rw[d.o,R.o];simp,bel (belA I _) z⟩
     | true =>
      have HN:Hid (∀q (h:q<a.length),q<j+1->ag a[q]=true):=λq h hq=>by
       by_cases e:q=j
       ·subst e;exact hsm
       exact Z q h ω
      have p:=η hsm;clear hsm;go_wp2_with (go_at_call 188;refine (O j hlt _ _ (y.to (ae ζ1))).mono ?_;rw[p.o];rintro e T ⟨rfl,z⟩);go_roundw
      case rel=>exact⟨j+1,ω,by go_num,HN,bel (belA I _) z⟩
      case measure=>simp[intOf];omega
    have u1:=zF j a;have R:Hid (a.all ag=true):=ik _ _ λq h=>Z q h ω;go_wp2_with fail;go_ret;exact⟨by rw[d.o,R.o,f.o,l.o];rfl,I⟩
  have d:Hid (ag (.mk k s a)=false):=by show ag _=_;rw[ag,if_neg m,if_neg u,if_neg B,if_neg L]
  have Y:(k==1)=false:=by simp;omega
  have k2:(k==2)=false:=by simp;omega
  have k3:(k==3)=false:=by simp;omega
  have k4:(k==4)=false:=by simp;omega
  have k5:(k==5)=false:=by simp;omega
  have k6:(k==6)=false:=by simp;omega
  have k7:(k==7)=false:=by simp;omega
  have k8:(k==8)=false:=by simp;omega
  clear m u B L;go_enter func188,ntmps188;go_wp2_with fail;go_ret;exact⟨by rw[d.o];rfl,ζ1⟩
def bM {w a:World} (n:Nat) (h:Below w w a):Below w w (a.drewN n):=⟨h.os,h.tape,h.output,h.size,h.block⟩
def wI (c:CB) (p:Pg) (n:Nat):∀(cs:List Value) (t:Ty) (w:World),SizeOf.sizeOf t<=n->ChkR w (lo w) c p->TyR w (lo w) cs t->Calls prog 189 #[c.b,.agg cs.toArray] w λe w'=>e=.returned (.bool (cd p t))/\Below w w w':=by
 induction n with
 | zero=>intro cs t w M;cases t;simp at M
 | succ n ih =>
  intro cs t w M l L;obtain⟨k,s,a,A,cap,rfl,rfl,_,T,U⟩:=ap L;have ak:=U.le9;have E:Hid (∀(i:Nat) (h:i<a.length) (cs:List Value) (w:World),ChkR w (lo w) c p->TyR w (lo w) cs a[i]->Calls prog 189 #[c.b,.agg cs.toArray] w λe w'=>e=.returned (.bool (cd p a[i]))/\Below w w w'):=λi h cs w l L=>ih cs a[i] w (by have:=List.sizeOf_lt_of_mem (ν h);simp at M;omega) l L;obtain⟨W,V⟩:=zd2 U l;have aj:c.b<w:=l.qb;have c4:=l.c4;have c5:=l.c5;have R:∀m,(Instr.lookup 101 (.map (some c.bt)) (s:Vl) true).run prog ((w.alloc (.cells #[k,s,.slice A a cap] 40)).drewN m)=.ok (.tuple #[(idxF p.tyNames p.tyNames s.data.toList).getD (.int .i64 0),.bool (idxF p.tyNames p.tyNames s.data.toList).isSome]) ((w.alloc (.cells #[k,s,.slice A a cap] 40)).drewN m):=λm=>ck (fH (l.mt.alloc _) m) T;have O:∀m,(Instr.lookup 101 (.map (some c.ba)) (s:Vl) true).run prog ((w.alloc (.cells #[k,s,.slice A a cap] 40)).drewN m)=.ok (.tuple #[(idxF p.acNames p.acNames s.data.toList).getD (.int .i64 0),.bool (idxF p.acNames p.acNames s.data.toList).isSome]) ((w.alloc (.cells #[k,s,.slice A a cap] 40)).drewN m):=λm=>ck (fH (l.ma.alloc _) m) T
  have z:Hid (cd p (.mk k s a)=((if k=6 then (idxF p.tyNames p.tyNames s.data.toList).isSome else if k=7 then (idxF p.acNames p.acNames s.data.toList).isSome else true)&&a.all (cd p))):=by show cd _ _=_;rw[cd,rU,eU,eU]
  clear ih M L U l T;have hk:k=6\/k=7\/(k≠6/\k≠7):=ω;rcases hk with rfl|rfl|⟨hk6,hk7⟩
  ·cases hx:(idxF p.tyNames p.tyNames s.data.toList).isSome
   ·have D:=η hx;rw[hx] at R;clear hx;go_enter func189,ntmps189;go_wp2_with fail;go_quiet (fail);go_wp2_with fail;go_ret;exact⟨by rw[z.o];simp[D.o],bM _ ζ1⟩
   have D:=η hx;rw[hx] at R;clear hx;go_enter func189,ntmps189;go_wp2_with fail;go_quiet (fail);go_wp2_with fail;go_loopw [39] (λi wr=>∃j:Nat,j<=a/\i=.int .i64 j/\Hid (∀q (h:q<a.length),q<j->cd p a[q]=true)/\Hid (Below w w wr)) (λi _=>a.length-(intOf i).toNat)
   case atStart=>exact⟨0,ω,rfl,λq _ h=>ω,bM _ ζ1⟩
   case round =>
    obtain⟨j,hj,rfl,B,f⟩:=hrel;by_cases hlt:j<a
    ·have G:=zT j a;obtain⟨g,N,k1,X,a1,A1,I,rfl,hg,H,p0,Z,Y,r⟩:=cS (TysR.to W (ae f)) hlt;obtain⟨u,v⟩:=zd2 r (V.to (ae f));clear r H
     cases hsm:cd p a[j] with
     | false =>
      have y:Hid (a.all (cd p)=false):=iJ _ _ j hlt hsm;have d:=η hsm;clear hsm;go_wp2_with (go_at_call 189;refine (E j hlt _ _ (v.to (ae ζ1)) (u.to (ae ζ1))).mono ?_;rw[d.o];rintro e F ⟨rfl,x⟩);go_ret;exact⟨by rw[z.o,y.o];simp,bel (belA f _) x⟩
     | true =>
      have J:Hid (∀q (h:q<a.length),q<j+1->cd p a[q]=true):=λq h hq=>by
       by_cases e:q=j
       ·subst e;exact hsm
       exact B q h ω
      have d:=η hsm;clear hsm;go_wp2_with (go_at_call 189;refine (E j hlt _ _ (v.to (ae ζ1)) (u.to (ae ζ1))).mono ?_;rw[d.o];rintro e F ⟨rfl,x⟩);go_roundw
      case rel=>exact⟨j+1,ω,by go_num,J,bel (belA f _) x⟩
      case measure=>simp[intOf];omega
    have G:=zF j a;have y:Hid (a.all (cd p)=true):=ik _ _ λq h=>B q h ω;go_wp2_with fail;go_ret;exact⟨by rw[z.o,y.o];simp[D.o],f⟩
  ·cases hx:(idxF p.acNames p.acNames s.data.toList).isSome
   ·have D:=η hx;rw[hx] at O;clear hx;go_enter func189,ntmps189;go_wp2_with fail;go_quiet (fail);go_wp2_with fail;go_ret;exact⟨by rw[z.o];simp[D.o],bM _ ζ1⟩
   have D:=η hx;rw[hx] at O;clear hx;go_enter func189,ntmps189;go_wp2_with fail;go_quiet (fail);go_wp2_with fail;go_loopw [39] (λi wr=>∃j:Nat,j<=a/\i=.int .i64 j/\Hid (∀q (h:q<a.length),q<j->cd p a[q]=true)/\Hid (Below w w wr)) (λi _=>a.length-(intOf i).toNat)
   case atStart=>exact⟨0,ω,rfl,λq _ h=>ω,bM _ ζ1⟩
   case round =>
    obtain⟨j,hj,rfl,B,f⟩:=hrel;by_cases hlt:j<a
    ·have G:=zT j a;obtain⟨g,N,k1,X,a1,A1,I,rfl,hg,H,p0,Z,Y,r⟩:=cS (TysR.to W (ae f)) hlt;obtain⟨u,v⟩:=zd2 r (V.to (ae f));clear r H
     cases hsm:cd p a[j] with
     | false =>
      have y:Hid (a.all (cd p)=false):=iJ _ _ j hlt hsm;have d:=η hsm;clear hsm;go_wp2_with (go_at_call 189;refine (E j hlt _ _ (v.to (ae ζ1)) (u.to (ae ζ1))).mono ?_;rw[d.o];rintro e F ⟨rfl,x⟩);go_ret;exact⟨by rw[z.o,y.o];simp,bel (belA f _) x⟩
     | true =>
      have J:Hid (∀q (h:q<a.length),q<j+1->cd p a[q]=true):=λq h hq=>by
       by_cases e:q=j
       ·subst e;exact hsm
       exact B q h ω
      have d:=η hsm;clear hsm;go_wp2_with (go_at_call 189;refine (E j hlt _ _ (v.to (ae ζ1)) (u.to (ae ζ1))).mono ?_;rw[d.o];rintro e F ⟨rfl,x⟩);go_roundw
      case rel=>exact⟨j+1,ω,by go_num,J,bel (belA f _) x⟩
      case measure=>simp[intOf];omega
    have G:=zF j a;have y:Hid (a.all (cd p)=true):=ik _ _ λq h=>B q h ω;go_wp2_with fail;go_ret;exact⟨by rw[z.o,y.o];simp[D.o],f⟩
  have k6:(k==6)=false:=by simpa using hk6
  have k7:(k==7)=false:=by simpa using hk7
  have HK:Hid (k≠6/\k≠7):=⟨hk6,hk7⟩
  clear hk6 hk7;go_enter func189,ntmps189;go_wp2_with fail;go_loopw [39] (λi wr=>∃j:Nat,j<=a/\i=.int .i64 j/\Hid (∀q (h:q<a.length),q<j->cd p a[q]=true)/\Hid (Below w w wr)) (λi _=>a.length-(intOf i).toNat)
  case atStart=>exact⟨0,ω,rfl,λq _ h=>ω,ζ1⟩
  case round =>
   obtain⟨j,hj,rfl,B,f⟩:=hrel;by_cases hlt:j<a
   ·have G:=zT j a;obtain⟨g,N,k1,X,a1,A1,I,rfl,hg,H,p0,Z,Y,r⟩:=cS (TysR.to W (ae f)) hlt;obtain⟨u,v⟩:=zd2 r (V.to (ae f));clear r H
    cases hsm:cd p a[j] with
    | false =>
     have y:Hid (a.all (cd p)=false):=iJ _ _ j hlt hsm;have d:=η hsm;clear hsm;go_wp2_with (go_at_call 189;refine (E j hlt _ _ (v.to (ae ζ1)) (u.to (ae ζ1))).mono ?_;rw[d.o];rintro e F ⟨rfl,x⟩);go_ret;exact⟨by rw[z.o,y.o];simp,bel (belA f _) x⟩
    | true =>
     have J:Hid (∀q (h:q<a.length),q<j+1->cd p a[q]=true):=λq h hq=>by
      by_cases e:q=j
      ·subst e;exact hsm
      exact B q h ω
     have d:=η hsm;clear hsm;go_wp2_with (go_at_call 189;refine (E j hlt _ _ (v.to (ae ζ1)) (u.to (ae ζ1))).mono ?_;rw[d.o];rintro e F ⟨rfl,x⟩);go_roundw
     case rel=>exact⟨j+1,ω,by go_num,J,bel (belA f _) x⟩
     case measure=>simp[intOf];omega
   have G:=zF j a;have y:Hid (a.all (cd p)=true):=ik _ _ λq h=>B q h ω;go_wp2_with fail;go_ret;exact⟨by rw[z.o,y.o];simp[HK.o.1,HK.o.2],f⟩
def cZ (p:Pg) (t:Ty):Bool:=ag t&&cd p t
def ci (p:Pg) (t:Ty):Bool:=cZ p t&&dB t
variable {cs:List Value}
def known_at {c:CB} {p:Pg} {t:Ty} {w:World} (hc:ChkR w (lo w) c p) (hr:TyR w (lo w) cs t):Calls prog 189 #[c.b,.agg cs.toArray] w λe w'=>e=.returned (.bool (cd p t))/\Below w w w':=wI c p _ cs t w (υ _) hc hr
def wO {t:Ty} {w:World} (hr:TyR w (lo w) cs t):Calls prog 188 #[.agg cs.toArray] w λe w'=>e=.returned (.bool (ag t))/\Below w w w':=tY _ cs t w (υ _) hr
def qW {t:Ty} {w:World} (hr:TyR w (lo w) cs t):Calls prog 139 #[.agg cs.toArray] w λe w'=>e=.returned (.bool (dB t))/\Below w w w':=stor_any _ cs t w (υ _) hr
end
section
variable (c:CB) (p:Pg) (cs:List Value) (t:Ty) (w:World) (hck:ChkR w (lo w) c p) (hr:TyR w (lo w) cs t)
include c p cs t w hck hr
theorem gM:Calls prog 138 #[c.b,.agg cs.toArray] w λe w'=>e=.returned (.bool (cZ p t))/\Below w w w':=by
 obtain⟨k,s,a,A,cap,rfl,h,_,u,m⟩:=ap hr;have i:Hid (cZ p t=(ag t&&cd p t)):=rfl;obtain⟨n,j⟩:=zd2 hck hr;clear hck hr m h
 cases h1:ag t<;>cases h2:cd p t
 all_goals
  obtain⟨f,l⟩:=zd2 h1 h2;clear h1 h2;go_enter func138,ntmps138;go_wp2_with (first|(go_at_call 188;refine (wO (j.to (ae ζ1))).mono ?_;rw[f.o];rintro e r ⟨rfl,d⟩;have h:=(d.cell (p:=⟨w,0,none⟩) Θ);have x:=(d.cell (p:=⟨w,1,none⟩) Θ);have v:=(d.cell (p:=⟨w,2,none⟩) Θ))|(go_at_call 189;refine (known_at (n.to (ae (bel ζ1 d))) (j.to (ae (bel ζ1 d)))).mono ?_;rw[l.o];rintro e q ⟨rfl,g⟩));go_ret;first
  | exact⟨by rw[i.o,f.o,l.o];rfl,bel (bel ζ1 d) g⟩
  | exact⟨by rw[i.o,f.o];rfl,bel ζ1 d⟩
theorem dQ:Calls prog 100 #[c.b,.agg cs.toArray] w λe w'=>e=.returned (.bool (ci p t))/\Below w w w':=by
 obtain⟨k,s,a,A,cap,rfl,h,_,u,m⟩:=ap hr;have i:Hid (ci p t=(cZ p t&&dB t)):=rfl;obtain⟨n,j⟩:=zd2 hck hr;clear hck hr m h
 cases h1:cZ p t<;>cases h2:dB t
 all_goals
  obtain⟨f,l⟩:=zd2 h1 h2;clear h1 h2;go_enter func100,ntmps100;go_wp2_with (first|(go_at_call 138;refine (gM c p _ t _ (n.to (ae ζ1)) (j.to (ae ζ1))).mono ?_;rw[f.o];rintro e r ⟨rfl,d⟩;have h:=(d.cell (p:=⟨w,0,none⟩) Θ);have x:=(d.cell (p:=⟨w,1,none⟩) Θ);have v:=(d.cell (p:=⟨w,2,none⟩) Θ))|(go_at_call 139;refine (qW (j.to (ae (bel ζ1 d)))).mono ?_;rw[l.o];rintro e q ⟨rfl,g⟩));go_ret;first
  | exact⟨by rw[i.o,f.o,l.o];rfl,bel (bel ζ1 d) g⟩
  | exact⟨by rw[i.o,f.o];rfl,bel ζ1 d⟩
end
def oneF (seen:List (List UInt8)) (s:List UInt8):Option Value:=if s∈seen then some (.int .i64 1) else none
def pe (seen:List (List UInt8)) (s:List UInt8) (t:List UInt8):upd (oneF seen) s (some (.int .i64 1)) t=oneF (s::seen) t:=by
 unfold upd oneF;by_cases h:t=s<;>simp[h]
def pu (w:World) (b n:Nat) (seen:List (List UInt8)) (s:List UInt8) (r:Bool) (e:Ending) (w':World):Prop:=
 e=.returned (.bool (!decide (s∈seen)&&r))/\w.grownBy w' (some b)/\(s∉seen->SMap w' b (n+1) (oneF (s::seen)))
set_option maxRecDepth 1000000 in
def zfOnce {p:Prop} (h:p:=by
 obtain⟨m,l,f⟩:=zd3 hm hn hs;have r:=cR hm hs;clear hm hn hs;by_cases d:s.data.toList∈seen
 ·have k:(oneF seen s.data.toList).getD (.int .i64 0)=.int .i64 1:=by unfold oneF;rw[if_pos d];rfl
  rw[k] at r;have q:=η d;clear d k;go_enter func94,ntmps94;go_wp2_with (refine ak _ rfl _ _ _ 101 (.inl rfl) 3 (fL underlying9) underlying101 b n _ rfl m l s.data.toList (s:Vl) (.int .i64 2) rfl rfl (keyOf_string_mk underlying9 f) ?_;intro a g j;have i:(Instr.lookup 101 (.map (some b)) (s:Vl) false).run prog a=.ok (.int .i64 2) a:=by (rw[cR g f.o];unfold upd;rw[if_pos rfl];rfl));go_ret;exact⟨by rw[decide_eq_true q.o];rfl,j,λh=>absurd q.o h⟩
 have k:(oneF seen s.data.toList).getD (.int .i64 0)=.int .i64 0:=by unfold oneF;rw[if_neg d];rfl
 have v:(oneF seen s.data.toList).isSome=false:=by unfold oneF;rw[if_neg d];rfl
 rw[k] at r;obtain⟨x,q⟩:=zd2 v d;clear d k v
 first
  | guard_hyp kk0:True
    cases hr:aX s.data.toList
  | guard_hyp kk1:True
    cases hr:aC s.data.toList
  | cases hr:fJ s.data.toList
 all_goals
  have u:=η hr;clear hr;go_enter func94,ntmps94
  first
   | guard_hyp kk0:True
     go_wp2_with (first|(refine ak _ rfl _ _ _ 101 (.inl rfl) 3 (fL underlying9) underlying101 b n _ rfl m l s.data.toList (s:Vl) (.int .i64 1) rfl rfl (keyOf_string_mk underlying9 f) ?_;intro a g j;have i:(Instr.lookup 101 (.map (some b)) (s:Vl) false).run prog a=.ok (.int .i64 1) a:=by (rw[cR g f.o];unfold upd;rw[if_pos rfl];rfl))|(go_at_call 98;refine (nl s _ f).mono ?_;rw[u.o];rintro e w' ⟨rfl,rfl⟩))
   | guard_hyp kk1:True
     go_wp2_with (first|(refine ak _ rfl _ _ _ 101 (.inl rfl) 3 (fL underlying9) underlying101 b n _ rfl m l s.data.toList (s:Vl) (.int .i64 1) rfl rfl (keyOf_string_mk underlying9 f) ?_;intro a g j;have i:(Instr.lookup 101 (.map (some b)) (s:Vl) false).run prog a=.ok (.int .i64 1) a:=by (rw[cR g f.o];unfold upd;rw[if_pos rfl];rfl))|(go_at_call 95;refine (rV s _ f).mono ?_;rw[u.o];rintro e w' ⟨rfl,rfl⟩))
   | go_wp2_with (first|(refine ak _ rfl _ _ _ 101 (.inl rfl) 3 (fL underlying9) underlying101 b n _ rfl m l s.data.toList (s:Vl) (.int .i64 1) rfl rfl (keyOf_string_mk underlying9 f) ?_;intro a g j;have i:(Instr.lookup 101 (.map (some b)) (s:Vl) false).run prog a=.ok (.int .i64 1) a:=by (rw[cR g f.o];unfold upd;rw[if_pos rfl];rfl))|(go_at_call 140;refine (rW s _ f).mono ?_;rw[u.o];rintro e w' ⟨rfl,rfl⟩))
  go_ret;exact⟨by rw[decide_eq_false q.o];rfl,j,λ_=>by rw[x.o] at g;exact g.congr (pe _ _)⟩) :p:=h
section
variable (b n:Nat) (s:ByteArray) (seen:List (List UInt8)) (w:World) (hm:SMap w b n (oneF seen)) (hn:n<maxLen) (hs:s.size<=maxLen)
include b n s seen w hm hn hs
theorem once_lower:Calls prog 94 #[.map (some b),s,.func (.func 98) #[] #[]] w (pu w b n seen s.data.toList (aX s.data.toList)):=by
 have kk0:=trivial;exact zfOnce
theorem once_upper:Calls prog 94 #[.map (some b),s,.func (.func 95) #[] #[]] w (pu w b n seen s.data.toList (aC s.data.toList)):=by
 have kk1:=trivial;exact zfOnce
theorem once_param:Calls prog 94 #[.map (some b),s,.func (.func 140) #[] #[]] w (pu w b n seen s.data.toList (fJ s.data.toList)):=by
 have kk2:=trivial;exact zfOnce
end
end Go.Proofs.YtjohpidklbhmcaaGreatDoor
