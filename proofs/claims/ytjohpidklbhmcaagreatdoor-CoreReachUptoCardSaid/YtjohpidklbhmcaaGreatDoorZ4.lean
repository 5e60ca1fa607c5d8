/- Core -/
import Derived.Test.YtjohpidklbhmcaaGreatDoorZ3
namespace Go.Proofs.YtjohpidklbhmcaaGreatDoor
set_option linter.all false
open Go.Proofs.Tryz
set_option maxRecDepth 100000
set_option maxHeartbeats 2000000
open Go.RowKit Go.Maps Go.WideMaps Go.ChangeMaps
def uniq {α:Type} (nm:α->List UInt8) (right:List UInt8->Bool) (ok:α->Bool):List (List UInt8)->List α->Bool
 | _,[]=>true
 | seen,x::xs=>(!decide (nm x∈seen)&&right (nm x))&&(ok x&&uniq nm right ok (nm x::seen) xs)
variable {α:Type} {j:Nat}
def bk {l:List α} (h:j<l):l.drop j=l[j]::l.drop (j+1):=(List.drop_eq_getElem_cons h)
variable {right:List UInt8->Bool} {seen:List (List UInt8)}
def iF {nm:α->List UInt8} {ok:α->Bool} {l:List α} (h:j<l) (hb:(!decide (nm l[j]∈seen)&&right (nm l[j]))=false):uniq nm right ok seen (l.drop j)=false:=by
 rw[bk h,uniq,hb];rfl
def ed {nm:α->List UInt8} {ok:α->Bool} {l:List α} (h:j<l) (hb:ok l[j]=false):uniq nm right ok seen (l.drop j)=false:=by
 rw[bk h,uniq,hb];simp
def iG {nm:α->List UInt8} {ok:α->Bool} {l:List α} (h:j<l) (h1:(!decide (nm l[j]∈seen)&&right (nm l[j]))=true) (h2:ok l[j]=true):uniq nm right ok seen (l.drop j)=uniq nm right ok (nm l[j]::seen) (l.drop (j+1)):=by
 rw[bk h,uniq,h1,h2];rfl
def gi {nm:α->List UInt8} {ok:α->Bool} {l:List α} (h:¬j<l):uniq nm right ok seen (l.drop j)=true:=by
 rw[ε ω];rfl
def ja {a:Bool} {s:List UInt8} (h:(!decide (s∈seen)&&a)=true):s∉seen:=by
 intro b;rw[decide_eq_true b] at h;exact absurd h Θ
variable {a:World}
def belG {w b:World} {r:Nat} (h:Below w w a) (hg:a.grownBy b (some r)) (hr:w<=r):Below w w b:=
 h.grown hg h.size λk e=>by injection e with e;omega
def belC {w wr:World} (hb:Below w w wr) {a:Addr} {v:Value} (h:w.cell? a=some v):wr.cell? a=some v:=(hb.cell (World.block_lt_of_cell? w a h)).trans h
def mc (w:World):SMap (w.alloc (.map #[] 0)) w 0 (oneF []):=(MapIs.made prog 9 Lit.string w).congr λs=>by simp[oneF]
def kh (w:World) (ob:Obj):SMap ((w.alloc ob).alloc (.map #[] 0)) (w+1) 0 (oneF []):=by
 have:=mc (w.alloc ob);simpa using this
def Fld.nm (f:Fld):List UInt8:=f.name.data.toList
def de (p:Pg) (l:List Fld):Bool:=uniq Fld.nm aX (λf=>ci p f.type) [] l
def funP (p:Pg) (f:Fn):Bool:=uniq Fld.nm fJ (λf=>cZ p f.type) [] f.params&&(cZ p f.result&&gg f.slots f.params)
def cK (c:CB) (p:Pg) (v:Value) (l:List Fld) (w:World) (hck:ChkR w (lo w) c p) (hf:FldsR w (lo w) v l):Calls prog 99 #[c.b,v] w λe w'=>e=.returned (.bool (de p l))/\Below w w w':=by
 obtain⟨A,cap,rfl⟩:=hf.form;have ak:=hf.le9;obtain⟨X,HF⟩:=zd2 hck hf;clear hck hf;have aj:=@run_makeMap prog;go_enter func99,ntmps99;go_wp2_with fail;go_loopw [11] (λi wr=>∃(j:Nat) (d:List (List UInt8)),j<=l/\i=.int .i64 j/\Hid (de p l=uniq Fld.nm aX (λf=>ci p f.type) d (l.drop j))/\Hid (Below w w wr)/\Hid (SMap wr w j (oneF d))) (λi _=>l.length-(intOf i).toNat)
 case atStart=>exact⟨0,[],ω,rfl,rfl,ζ1,(MapIs.made prog 9 Lit.string w).congr λs=>by simp[oneF]⟩
 case round =>
  obtain⟨j,d,hj,rfl,z,n,B⟩:=hrel;have ab:w.heap.size<wr:=B.lt;by_cases hlt:j<l
  ·have u1:=zT j l;obtain⟨g,ai,U,M,V,Y,u,rfl,hg,ee,T,R,O,N,E,D⟩:=dw HF hlt;replace T:=belC n T;replace R:=belC n R;replace O:=belC n O;replace N:=belC n N;obtain⟨G,x⟩:=zd2 D E;have F:j<maxLen:=by unfold maxLen;omega
   have I:=η F;clear D ee E F
   cases h1:(!decide (l[j].nm∈d)&&aX l[j].nm) with
   | false =>
    have q:Hid (de p l=false):=by show _=_;rw[z.o];exact iF hlt h1
    have y:=η h1;clear h1;go_wp2_with (go_at_call 94;refine (once_lower w j l[j].name d _ (B.alloc _) I x).mono ?_;rintro e L ⟨m,h,k⟩;rw[show (!decide (l[j].name.data.toList∈d)&&aX l[j].name.data.toList)=false from y.o] at m;subst m);go_ret;exact⟨by rw[q.o];rfl,belG (belA n _) h (υ _)⟩
   | true =>
    have W:=η (ja h1)
    cases h2:ci p l[j].type with
    | false =>
     have q:Hid (de p l=false):=by show _=_;rw[z.o];exact ed hlt h2
     obtain⟨y,J⟩:=zd2 h1 h2;clear h1 h2;go_wp2_with (first|(go_at_call 94;refine (once_lower w j l[j].name d _ (B.alloc _) I x).mono ?_;rintro e L ⟨m,h,k⟩;rw[show (!decide (l[j].name.data.toList∈d)&&aX l[j].name.data.toList)=true from y.o] at m;subst m;have r:=η (belG (belA n _) h (υ _));have e1:=h.C wr 1 (U:Vl);have e2:=h.C wr 2 (M:Vl);have e3:=h.C wr 3 (.slice Y V u);clear k h)|(go_at_call 100;refine (dQ c p _ l[j].type _ (X.to (ae r)) (G.to (ae r))).mono ?_;rw[J.o];rintro e Z ⟨rfl,t⟩));go_ret;exact⟨by rw[q.o];rfl,bel r t⟩
    | true =>
     have q:Hid (de p l=uniq Fld.nm aX (λf=>ci p f.type) (l[j].nm::d) (l.drop (j+1))):=by show _=_;rw[z.o];exact iG hlt h1 h2
     obtain⟨y,J⟩:=zd2 h1 h2;clear h1 h2;go_wp2_with (first|(go_at_call 94;refine (once_lower w j l[j].name d _ (B.alloc _) I x).mono ?_;rintro e L ⟨m,h,k⟩;rw[show (!decide (l[j].name.data.toList∈d)&&aX l[j].name.data.toList)=true from y.o] at m;subst m;have r:=η (belG (belA n _) h (υ _));have e1:=h.C wr 1 (U:Vl);have e2:=h.C wr 2 (M:Vl);have e3:=h.C wr 3 (.slice Y V u);have H:=η (k W);clear k h)|(go_at_call 100;refine (dQ c p _ l[j].type _ (X.to (ae r)) (G.to (ae r))).mono ?_;rw[J.o];rintro e Z ⟨rfl,t⟩));go_roundw
     case rel=>exact⟨j+1,_,ω,by go_num,q,bel r t,H.below t H.lt⟩
     case measure=>simp[intOf];omega
  have u1:=zF j l;have q:Hid (de p l=true):=by show _=_;rw[z.o];exact gi hlt
  go_wp2_with fail;go_ret;exact⟨by rw[q.o];rfl,n⟩
def oL (c:CB) (p:Pg) (cs:List Value) (f:Fn) (w:World) (hck:ChkR w (lo w) c p) (hf:FnR w (lo w) cs f):Calls prog 102 #[c.b,.agg cs.toArray] w λe w'=>e=.returned (.bool (funP p f))/\Below w w w':=by
 obtain⟨A,q,k,s,a,B,cp,o,x,m,r,e,D,d,rfl,aw,J,R,ag,_⟩:=jB hf;have ax:=R.le9;obtain⟨HC,HF,HR⟩:=zd3 hck R ag;have HV:Hid (funP p f=(uniq Fld.nm fJ (λf=>cZ p f.type) [] f.params&&(cZ p f.result&&gg f.slots f.params))):=rfl;clear hck hf R ag J aw;obtain⟨l,hl⟩:=γ f.params
 rw[<-hl] at HV HF ax;rw[<-hl];have HL:=η hl;clear hl;obtain⟨n,y⟩:=γ (.cells #[f.name,.slice A l q,k,s,.slice B a cp,f.slots,o,x,m,r,.slice D e d] 45:Obj)
 have az:=η y;have X:(w.alloc n).cell? ⟨w,2,none⟩=some (k:Vl):=by rw[y];simp
 have W:(w.alloc n).cell? ⟨w,3,none⟩=some (s:Vl):=by rw[y];simp
 have V:(w.alloc n).cell? ⟨w,4,none⟩=some (.slice B a cp):=by rw[y];simp
 have M:(w.alloc n).cell? ⟨w,5,none⟩=some (f.slots:Vl):=by rw[y];simp
 have N:(w.alloc n).cell? ⟨w,1,none⟩=some (.slice A l q):=by rw[y];simp
 have a2:Hid ((w.alloc n).cell? ⟨w,1,none⟩=some (.slice A l q)/\(w.alloc n).cell? ⟨w,2,none⟩=some (k:Vl)/\(w.alloc n).cell? ⟨w,3,none⟩=some (s:Vl)/\(w.alloc n).cell? ⟨w,4,none⟩=some (.slice B a cp)/\(w.alloc n).cell? ⟨w,5,none⟩=some (f.slots:Vl)):=⟨N,X,W,V,M⟩
 clear N X W V M y;have bd:=@run_makeMap prog;go_enter func102,ntmps102;go_wp2_with fail;rw[<-az.o];go_loopw [12] (λi wr=>∃(j:Nat) (h:List (List UInt8)),j<=l/\i=.int .i64 j/\Hid (uniq Fld.nm fJ (λf=>cZ p f.type) [] l=uniq Fld.nm fJ (λf=>cZ p f.type) h (l.drop j))/\Hid (Below (w.alloc n).heap.size (w.alloc n) wr)/\Hid (SMap wr (w+1) j (oneF h))) (λi _=>l.length-(intOf i).toNat)
 case atStart=>exact⟨0,[],ω,rfl,rfl,ζ1,kh w n⟩
 case round =>
  obtain⟨j,h,hj,rfl,HU,E,HM⟩:=hrel;have a6:w.heap.size+1<wr:=HM.lt;by_cases hlt:j<l
  ·have u1:=zT j l;obtain⟨g,bc,k1,s1,a1,A1,U,rfl,hg,ee,p0,p1,p2,p3,J,af⟩:=dw HF hlt;have u:=η (bel (belA (belR w) n) E);replace p0:=belC u p0;replace p1:=belC u p1;replace p2:=belC u p2;replace p3:=belC u p3;obtain⟨ai,Y⟩:=zd2 af J;have ah:j<maxLen:=by unfold maxLen;omega
   have HJ:=η ah;clear af ee J ah
   cases h1:(!decide (l[j].nm∈h)&&fJ l[j].nm) with
   | false =>
    have I:Hid (funP p f=false):=by show _=_;rw[HV.o,HU.o,iF hlt h1];rfl
    have H:=η h1;clear h1;go_wp2_with (go_at_call 94;refine (once_param (w+1) j l[j].name h _ (HM.alloc _) HJ Y).mono ?_;rintro e w1 ⟨G,t,F⟩;rw[show (!decide (l[j].name.data.toList∈h)&&fJ l[j].name.data.toList)=false from H.o] at G;subst G;have z:=η (belG (belA E _) t Θ));go_ret;exact⟨by rw[I.o];rfl,bel ζ1 z⟩
   | true =>
    have aj:=η (ja h1)
    cases h2:cZ p l[j].type with
    | false =>
     have I:Hid (funP p f=false):=by show _=_;rw[HV.o,HU.o,ed hlt h2];rfl
     obtain⟨H,O⟩:=zd2 h1 h2;clear h1 h2;go_wp2_with (first|(go_at_call 94;refine (once_param (w+1) j l[j].name h _ (HM.alloc _) HJ Y).mono ?_;rintro e w1 ⟨G,t,F⟩;rw[show (!decide (l[j].name.data.toList∈h)&&fJ l[j].name.data.toList)=true from H.o] at G;subst G;have z:=η (belG (belA E _) t Θ);have e1:=t.C wr 1 (k1:Vl);have e2:=t.C wr 2 (s1:Vl);have e3:=t.C wr 3 (.slice A1 a1 U);have Z:=η (F aj);clear F t)|(go_at_call 138;refine (gM c p _ l[j].type _ (HC.to (ae (bel (belA (belR w) n) z))) (ai.to (ae (bel (belA (belR w) n) z)))).mono ?_;rw[O.o];rintro e w2 ⟨rfl,L⟩));go_ret;exact⟨by rw[I.o];rfl,bel ζ1 (bel z L)⟩
    | true =>
     have I:Hid (uniq Fld.nm fJ (λf=>cZ p f.type) [] l=uniq Fld.nm fJ (λf=>cZ p f.type) (l[j].nm::h) (l.drop (j+1))):=by show _=_;rw[HU.o];exact iG hlt h1 h2
     obtain⟨H,O⟩:=zd2 h1 h2;clear h1 h2;go_wp2_with (first|(go_at_call 94;refine (once_param (w+1) j l[j].name h _ (HM.alloc _) HJ Y).mono ?_;rintro e w1 ⟨G,t,F⟩;rw[show (!decide (l[j].name.data.toList∈h)&&fJ l[j].name.data.toList)=true from H.o] at G;subst G;have z:=η (belG (belA E _) t Θ);have e1:=t.C wr 1 (k1:Vl);have e2:=t.C wr 2 (s1:Vl);have e3:=t.C wr 3 (.slice A1 a1 U);have Z:=η (F aj);clear F t)|(go_at_call 138;refine (gM c p _ l[j].type _ (HC.to (ae (bel (belA (belR w) n) z))) (ai.to (ae (bel (belA (belR w) n) z)))).mono ?_;rw[O.o];rintro e w2 ⟨rfl,L⟩));go_roundw
     case rel=>exact⟨j+1,_,ω,by go_num,I,bel z L,Z.below L Z.lt⟩
     case measure=>simp[intOf];omega
  have u1:=zF j l;have I:Hid (funP p f=(cZ p f.result&&gg f.slots l)):=by show _=_;rw[HV.o,HU.o,gi hlt];rfl
  obtain⟨N,X,W,V,M⟩:=a2.o;replace N:=belC E N;replace X:=belC E X;replace W:=belC E W;replace V:=belC E V;replace M:=belC E M;have u:=η (bel (belA (belR w) n) E)
  cases h1:cZ p f.result<;>cases h2:gg f.slots l
  all_goals
   obtain⟨H,O⟩:=zd2 h1 h2;clear h1 h2;go_wp2_with (first|(go_at_call 138;refine (gM c p _ f.result _ (HC.to (ae u)) (HR.to (ae u))).mono ?_;rw[H.o];rintro e w1 ⟨rfl,T⟩;have z:=η (bel u T);have d1:=belC T N;have d5:=belC T M)|(go_at_call 136;refine (jT _ _ _).mono ?_;rw[O.o];rintro e w' ⟨rfl,rfl⟩));go_ret
   exact⟨by rw[I.o,H.o];try rw[O.o]
            try rfl,z⟩
def only (b:Nat):Nat->Prop:=λk=>k=b
def Stp.imlo {own:Nat->Prop} {w w':World} (h:Stp own w w'):Sub (im own w) (lo w') w w':=λb hb=>⟨ρ hb.1 h.size,h.block b hb.1 hb.2⟩
def stpD {own:Nat->Prop} {w:World} (h:Stp own w a) (n:Nat):Stp own w (a.drewN n):=⟨h.os,h.tape,h.output,h.size,h.block⟩
def stpO {b:Nat} {w w':World} (h:Stp (only b) w a) (k:a.grownBy w' (some b)):Stp (only b) w w':=stpG h k λr e=>.inl (by injection e with e;exact e.symm)
def Ctr.nm (f:Ctr):List UInt8:=f.name.data.toList
def nD (p:Pg) (f:Fld):Bool:=bH f.name&&ci p f.type
def xH (p:Pg) (rec:Bool) (k:Ctr):Bool:=if rec then de p k.fields else k.fields.all (nD p)
def ie (d:Dcl):Bool:=match d.ctors with
 | []=>true
 | c0::rest=>d.record&&(!rest.isEmpty||(c0.name.toList != d.name.toList))
def fN (p:Pg) (seen:List (List UInt8)) (d:Dcl):Bool:=!ie d&&uniq Ctr.nm aC (xH p d.record) seen d.ctors
def gH (w:World) (bc n:Nat) (p:Pg) (seen:List (List UInt8)) (d:Dcl) (e:Ending) (w':World):Prop:=
 e=.returned (.bool (fN p seen d))/\Stp (only bc) w w'/\(fN p seen d=true->SMap w' bc (n+d.ctors) (oneF ((d.ctors.map Ctr.nm).reverse++seen)))
variable {seen':List (List UInt8)}
def pW {nm:α->List UInt8} {l:List α} (h:j<l) (e:seen'=((l.take j).map nm).reverse++seen):nm l[j]::seen'=((l.take (j+1)).map nm).reverse++seen:=by
 rw[List.take_succ_eq_append_getElem h,e,List.map_append,List.reverse_append];rfl
def sM {nm:α->List UInt8} {l:List α} (h:¬j<l) (e:seen'=((l.take j).map nm).reverse++seen):seen'=(l.map nm).reverse++seen:=by
 rw[List.take_of_length_le ω] at e;exact e
section
variable (c:CB) (p:Pg) (d:Dcl) (A:Option Addr) (q bc n:Nat) (seen:List (List UInt8)) (w:World)
def decl_bad (hd:DclR w (im (only bc) w) [.string d.name,.bool d.record,.slice A d.ctors q] d) (hb:ie d=true):Calls prog 96 #[c.b,.agg #[d.name,d.record,.slice A d.ctors q],.map (some bc)] w (gH w bc n p seen d):=by
 obtain⟨B,s,e,E,a⟩:=gG hd;obtain⟨rfl,rfl⟩:A=B/\q=s:=by simpa using e
 have f:Hid (fN p seen d=false):=by show fN _ _ _=_;unfold fN;rw[hb];rfl
 have F:=a.le9;clear hd e;by_cases l:d.ctors.length=0
 ·have y:((d.ctors.length:Int)==0)=true:=beq_iff_eq.2 ω;clear l hb a;go_enter func96,ntmps96;go_wp2_with fail;go_quiet (fail);go_wp2_with fail;go_ret;exact⟨by rw[f.o];rfl,stpD (stpA (Stp.refl _ _) _) _,λh=>by rw[f.o] at h;cases h⟩
 have y:((d.ctors.length:Int)==0)=false:=beq_eq_false_iff_ne.2 ω;have hlt:0<d.ctors.length:=ω
 have m:d.record=true/\(1<d.ctors.length\/(d.ctors[0].name.toList != d.name.toList)=true):=by
  unfold ie at hb;match hc:d.ctors,hlt with
  | c0::rest,_ =>
   simp only[hc] at hb;simp only[τ,Bool.or_eq_true] at hb;refine⟨hb.1,?_⟩;rcases hb.2 with h|h
   ·left;cases rest with|nil=>simp at h|cons=>simp
   right;simpa using h
 obtain⟨k,i⟩:=m;obtain⟨g,D,J,H,rfl,z,u,t,j,_⟩:=ew a hlt;simp only[Nat.zero_mul,Nat.add_zero] at u t;have G:g<w:=z.1;rw[k];by_cases r:1<d.ctors.length
 ·have x:decide ((1:Int)<(d.ctors.length:Int))=true:=decide_eq_true ω;clear i hb l a j k;go_enter func96,ntmps96;go_wp2_with fail;go_quiet (fail);go_wp2_with fail;go_ret;exact⟨by rw[f.o];rfl,stpD (stpA (Stp.refl _ _) _) _,λh=>by rw[f.o] at h;cases h⟩
 have x:decide ((1:Int)<(d.ctors.length:Int))=false:=decide_eq_false ω;have v:(d.ctors[0].name.toList != d.name.toList)=true:=by rcases i with h|h;exact absurd h r;exact h
 have I:(d.ctors[0].name.toList==d.name.toList)=false:=by simpa using v
 clear i hb l a j k r;go_enter func96,ntmps96;go_wp2_with fail;go_quiet (fail);go_wp2_with fail;go_ret;exact⟨by rw[f.o];rfl,stpD (stpA (Stp.refl _ _) _) _,λh=>by rw[f.o] at h;cases h⟩
def qj (hb:ie d=false):0<d.ctors.length/\(d.record=true->d.ctors.length=1/\∀h:0<d.ctors.length,(d.ctors[0].name.toList != d.name.toList)=false):=by
 unfold ie at hb;match hc:d.ctors with
 | []=>simp[hc] at hb
 | c0::rest =>
  simp only[hc] at hb;refine⟨by simp,λhr=>?_⟩;rw[hr] at hb;simp only[Bool.true_and,Bool.or_eq_false_iff] at hb;obtain⟨b,a⟩:=hb
  cases rest with
  | nil=>exact⟨rfl,λ_=>by simpa using a⟩
  | cons=>simp at b
set_option maxRecDepth 1000000 in
def zfDecl {p:Prop} (h:p:=by
 obtain⟨v',e,L,x⟩:=hd;have x:CtrsR w (im (only bc) w) (.slice A d.ctors q) d.ctors:=by simp at e;rw[e.2];exact x
 first
  | guard_hyp kk0:True
    have HV:Hid (fN p seen d=uniq Ctr.nm aC (xH p true) seen d.ctors):=by show fN _ _ _=_;unfold fN;rw[hb,hr];rfl
  | have HV:Hid (fN p seen d=uniq Ctr.nm aC (xH p false) seen d.ctors):=by show fN _ _ _=_;unfold fN;rw[hb,hr];rfl
 have ar:=x.le9;obtain⟨T,O⟩:=qj d hb;have l1:((d.ctors.length:Int)==0)=false:=beq_eq_false_iff_ne.2 ω
 first
  | done
  | guard_hyp kk1:True
  | have l2:decide ((1:Int)<(d.ctors.length:Int))=false:=by have:=(O hr).1;exact decide_eq_false ω
    have l3:=(O hr).2 T;have l4:(d.ctors[0].name.toList==d.name.toList)=true:=by simpa using l3
    obtain⟨g0,ae,b8,b5,hA,bf,bd,bb,_⟩:=ew x T;simp only[Nat.zero_mul,Nat.add_zero] at bd bb;have bx:g0<w:=bf.1;subst hA
 obtain⟨l,U⟩:=γ d.ctors
 first
  | guard_hyp kk1:True
    have F:Hid (∀e G,(e=.returned (.bool (uniq Ctr.nm aC (xH p false) seen l))/\Stp (only bc) w G/\(uniq Ctr.nm aC (xH p false) seen l=true->SMap G bc (n+l) (oneF ((l.map Ctr.nm).reverse++seen))))->gH w bc n p seen d e G):=by
     intro e G h;unfold gH;rw[HV.o,<-U];exact h
    rw[<-U] at x ar hn l1
  | have F:Hid (∀e G,(e=.returned (.bool (uniq Ctr.nm aC (xH p true) seen l))/\Stp (only bc) w G/\(uniq Ctr.nm aC (xH p true) seen l=true->SMap G bc (n+l) (oneF ((l.map Ctr.nm).reverse++seen))))->gH w bc n p seen d e G):=by
     intro e G h;unfold gH;rw[HV.o,<-U];exact h
    rw[<-U] at x ar hn l1 l2
 rw[<-U];have b7:0<l.length:=by rw[U];exact T
 obtain⟨HC,HF,az,HN⟩:=zd4 hck x hm hn;clear hck x hm hn U HV hb hr O e
 first
  | guard_hyp kk1:True
    obtain⟨y,J⟩:=γ (.cells #[d.name,false,.slice A l q] 48:Obj)
  | obtain⟨y,J⟩:=γ (.cells #[d.name,true,.slice (some ⟨g0,ae,none⟩) l q] 48:Obj)
 have bk:=η J
 first
  | guard_hyp kk0:True
    have V:(w.alloc y).cell? ⟨w,1,none⟩=some (true:Vl):=by rw[J];simp
  | have V:(w.alloc y).cell? ⟨w,1,none⟩=some (false:Vl):=by rw[J];simp
 have bm:=η V;clear V J;go_enter func96,ntmps96;go_wp2_with fail;go_quiet (fail);go_wp2_with fail;rw[<-bk.o]
 first
  | guard_hyp kk0:True
    go_loopw [38] (λi wr=>∃(j:Nat) (seen':List (List UInt8)),j<=l/\i=.int .i64 j/\Hid (uniq Ctr.nm aC (xH p true) seen l=uniq Ctr.nm aC (xH p true) seen' (l.drop j))/\Hid (seen'=((l.take j).map Ctr.nm).reverse++seen)/\Hid (Stp (only bc) (w.alloc y) wr)/\Hid (SMap wr bc (n+j) (oneF seen'))) (λi _=>l.length-(intOf i).toNat)
  | go_loopw [38] (λi wr=>∃(j:Nat) (seen':List (List UInt8)),j<=l/\i=.int .i64 j/\Hid (uniq Ctr.nm aC (xH p false) seen l=uniq Ctr.nm aC (xH p false) seen' (l.drop j))/\Hid (seen'=((l.take j).map Ctr.nm).reverse++seen)/\Hid (Stp (only bc) (w.alloc y) wr)/\Hid (SMap wr bc (n+j) (oneF seen'))) (λi _=>l.length-(intOf i).toNat)
 case atStart=>exact⟨0,seen,ω,rfl,rfl,rfl,stpD (Stp.refl _ _) _,fH (az.alloc _) _⟩
 case round =>
  obtain⟨j,seen',hj,rfl,H,HS,HB,HM⟩:=hrel;have B:=η ((stpA (Stp.refl (only bc) w) y).trans HB);have bz:bc<w:=az.lt;have b6:w.heap.size<wr:=by have:=HB.size;simp at this;omega
  by_cases hlt:j<l
  ·have u1:=zT j l
   first
    | guard_hyp kk1:True
      obtain⟨g,aq,A1,q1,rfl,hg,p0,Z,I,L,u⟩:=ew HF hlt
    | obtain⟨g,aq,A1,q1,hA,hg,p0,Z,I,L,u⟩:=ew HF hlt
      obtain⟨rfl,rfl⟩:g0=g/\ae=aq:=by simpa using hA
      clear hA
   replace p0:=au p0 B.sub hg;replace Z:=au Z B.sub hg;have V:=au (Q:=im (only bc) (w.alloc y)) bm HB.sub ⟨by simp,by unfold only;simp;omega⟩;obtain⟨M,Y⟩:=zd2 u L;have av:n+j<maxLen:=by have:=HN.o;omega
   have HJ:=η av;clear I L av u
   cases h1:(!decide (l[j].nm∈seen')&&aC l[j].nm) with
    | false =>
     first
      | guard_hyp kk0:True
        have m:Hid (uniq Ctr.nm aC (xH p true) seen l=false):=by show _=_;rw[H.o];exact iF hlt h1
      | have m:Hid (uniq Ctr.nm aC (xH p false) seen l=false):=by show _=_;rw[H.o];exact iF hlt h1
     have N:=η h1;clear h1;go_wp2_with (go_at_call 94;refine (once_upper bc (n+j) l[j].name seen' _ (HM.alloc _) HJ Y).mono ?_;rintro e w1 ⟨z,f,s⟩;rw[show (!decide (l[j].name.data.toList∈seen')&&aC l[j].name.data.toList)=false from N.o] at z;subst z;have D:=η (stpO (stpA B _) f));go_ret;exact F _ _ ⟨by rw[m.o];rfl,D,λh=>by rw[m.o] at h;cases h⟩
    | true =>
     obtain⟨ah,ax⟩:=zd2 (ja h1) (pW (nm:=Ctr.nm) hlt HS)
     first
      | guard_hyp kk0:True
        cases h2:de p l[j].fields with
         | false =>
          have m:Hid (uniq Ctr.nm aC (xH p true) seen l=false):=by show _=_;rw[H.o];exact ed hlt h2
          obtain⟨N,H2⟩:=zd2 h1 h2;clear h1 h2;go_wp2_with (first|(go_at_call 94;refine (once_upper bc (n+j) l[j].name seen' _ (HM.alloc _) HJ Y).mono ?_;rintro e w1 ⟨z,f,s⟩;rw[show (!decide (l[j].name.data.toList∈seen')&&aC l[j].name.data.toList)=true from N.o] at z;subst z;have D:=η (stpO (stpA B _) f);have B2:=η (stpO (stpA HB _) f);have e1:=f.C wr 1 (.slice A1 l[j].fields.length q1);have aw:=f.cell (a:=⟨w,1,none⟩) (v:=.bool true) (belC (belA (belR wr) _) V) Φ;have E:=η (s ah);clear s f)|(go_at_call 99;refine (cK c p _ l[j].fields _ (HC.to D.imlo) (FldsR.to M D.imlo)).mono ?_;rw[H2.o];rintro e w2 ⟨rfl,X⟩));go_ret;exact F _ _ ⟨by rw[m.o];rfl,stpB D X,λh=>by rw[m.o] at h;cases h⟩
         | true =>
          have m:Hid (uniq Ctr.nm aC (xH p true) seen l=uniq Ctr.nm aC (xH p true) (l[j].nm::seen') (l.drop (j+1))):=by show _=_;rw[H.o];exact iG hlt h1 h2
          obtain⟨N,H2⟩:=zd2 h1 h2;clear h1 h2;go_wp2_with (first|(go_at_call 94;refine (once_upper bc (n+j) l[j].name seen' _ (HM.alloc _) HJ Y).mono ?_;rintro e w1 ⟨z,f,s⟩;rw[show (!decide (l[j].name.data.toList∈seen')&&aC l[j].name.data.toList)=true from N.o] at z;subst z;have D:=η (stpO (stpA B _) f);have B2:=η (stpO (stpA HB _) f);have e1:=f.C wr 1 (.slice A1 l[j].fields.length q1);have aw:=f.cell (a:=⟨w,1,none⟩) (v:=.bool true) (belC (belA (belR wr) _) V) Φ;have E:=η (s ah);clear s f)|(go_at_call 99;refine (cK c p _ l[j].fields _ (HC.to D.imlo) (FldsR.to M D.imlo)).mono ?_;rw[H2.o];rintro e w2 ⟨rfl,X⟩));go_roundw
          case rel=>exact⟨j+1,_,ω,by go_num,m,ax,stpB B2 X,E.below X E.lt⟩
          case measure=>simp[intOf];omega
      | have a3:=M.le9
        have N:=η h1;clear h1;go_wp2_with (go_at_call 94;refine (once_upper bc (n+j) l[j].name seen' _ (HM.alloc _) HJ Y).mono ?_;rintro e w1 ⟨z,f,s⟩;rw[show (!decide (l[j].name.data.toList∈seen')&&aC l[j].name.data.toList)=true from N.o] at z;subst z;have D:=η (stpO (stpA B _) f);have B2:=η (stpO (stpA HB _) f);have e1:=f.C wr 1 (.slice A1 l[j].fields.length q1);have aw:=f.cell (a:=⟨w,1,none⟩) (v:=.bool false) (belC (belA (belR wr) _) V) Φ;have E:=η (s ah);clear s f);obtain⟨wo,rfl⟩:=γ wr
        obtain⟨k,u⟩:=γ (l[j].fields)
        have a5:Hid (FldsR w (im (only bc) w) (.slice A1 k q1) k):=by rw[u];exact M
        have ag:Hid (xH p false l[j]=k.all (nD p)):=by rw[u];rfl
        rw[<-u];rw[<-u] at a3;clear u M;go_loopw [57] (λi wr=>∃(t:Nat),t<=k/\i=.int .i64 t/\Hid (∀q (h:q<k.length),q<t->nD p k[q]=true)/\Hid (Below w1 w1 wr)) (λi _=>k.length-(intOf i).toNat)
        case atStart=>exact⟨0,ω,rfl,λq _ h=>ω,belR _⟩
        case round =>
         obtain⟨t,ht,rfl,HQ,HT⟩:=hrel;have r:=η (stpB D HT);by_cases R:t<k
         ·have u2:=zT t k;obtain⟨g2,bu,k1,s1,a1,A2,b2,rfl,W,ee,p0,Z,p2,p3,L,I⟩:=dw a5 R;replace p0:=au p0 r.sub W;replace Z:=au Z r.sub W;replace p2:=au p2 r.sub W;replace p3:=au p3 r.sub W;have ay:=η I;clear I ee
          cases h3:bH k[t].name with
           | false =>
            obtain⟨z1,z2,z3⟩:=se_f h3;have z4:(k[t].name.toList != [])=true:=by simpa using z1
            have m:Hid (uniq Ctr.nm aC (xH p false) seen l=false):=by
             show _=_;rw[H.o];exact ed hlt (by rw[ag.o];exact iJ _ _ t R (by unfold nD;rw[h3];rfl))
            clear h3;go_wp2_with fail;go_ret;exact F _ _ ⟨by rw[m.o];rfl,stpA r _,λh=>by rw[m.o] at h;cases h⟩
           | true =>
            obtain⟨z1,z2,z3⟩:=se_t h3;have z4:(k[t].name.toList != [])=false:=by simpa using z1
            cases h4:ci p k[t].type with
             | false =>
              have m:Hid (uniq Ctr.nm aC (xH p false) seen l=false):=by
               show _=_;rw[H.o];exact ed hlt (by rw[ag.o];exact iJ _ _ t R (by unfold nD;rw[h4];simp))
              have H4:=η h4;clear h3 h4;go_wp2_with (go_at_call 100;refine (dQ c p _ k[t].type _ (HC.to (stpA r _).imlo) (ay.to (stpA r _).imlo)).mono ?_;rw[H4.o];rintro e w3 ⟨rfl,af⟩);go_ret;exact F _ _ ⟨by rw[m.o];rfl,stpB (stpA r _) af,λh=>by rw[m.o] at h;cases h⟩
             | true =>
              have bi:Hid (∀q (h:q<k.length),q<t+1->nD p k[q]=true):=λq h hq=>by
               by_cases e:q=t
               ·subst e;unfold nD;rw[h3,h4];rfl
               exact HQ q h ω
              have H4:=η h4;clear h3 h4;go_wp2_with (go_at_call 100;refine (dQ c p _ k[t].type _ (HC.to (stpA r _).imlo) (ay.to (stpA r _).imlo)).mono ?_;rw[H4.o];rintro e w3 ⟨rfl,af⟩);go_roundw
              case rel=>exact⟨t+1,ω,by go_num,bi,bel (belA HT _) af⟩
              case measure=>simp[intOf];omega
         have u2:=zF t k
         have m:Hid (uniq Ctr.nm aC (xH p false) seen l=uniq Ctr.nm aC (xH p false) (l[j].nm::seen') (l.drop (j+1))):=by
          show _=_;rw[H.o];exact iG hlt N (by rw[ag.o];exact ik _ _ λq h=>HQ q h ω)
         go_wp2_with fail;go_roundw
         case rel=>exact⟨j+1,_,ω,by go_num,m,ax,stpB B2 HT,E.below HT E.lt⟩
         case measure=>simp[intOf];omega
  have u1:=zF j l
  first
   | guard_hyp kk0:True
     have m:Hid (uniq Ctr.nm aC (xH p true) seen l=true):=by show _=_;rw[H.o];exact gi hlt
   | have m:Hid (uniq Ctr.nm aC (xH p false) seen l=true):=by show _=_;rw[H.o];exact gi hlt
  have HE:=η (sM hlt HS);obtain rfl:j=l:=ω;go_wp2_with fail;go_ret;exact F _ _ ⟨by rw[m.o];rfl,B,λ_=>by rw[<-HE.o];exact HM⟩) :p:=h
def decl_rec (hck:ChkR w (im (only bc) w) c p) (hd:DclR w (im (only bc) w) [.string d.name,.bool true,.slice A d.ctors q] d) (hm:SMap w bc n (oneF seen)) (hn:n+d.ctors<maxLen) (hb:ie d=false) (hr:d.record=true):Calls prog 96 #[c.b,.agg #[d.name,true,.slice A d.ctors q],.map (some bc)] w (gH w bc n p seen d):=by
 have kk0:=trivial;exact zfDecl
def decl_var (hck:ChkR w (im (only bc) w) c p) (hd:DclR w (im (only bc) w) [.string d.name,.bool false,.slice A d.ctors q] d) (hm:SMap w bc n (oneF seen)) (hn:n+d.ctors<maxLen) (hb:ie d=false) (hr:d.record=false):Calls prog 96 #[c.b,.agg #[d.name,false,.slice A d.ctors q],.map (some bc)] w (gH w bc n p seen d):=by
 have kk1:=trivial;exact zfDecl
end
def tc (c:CB) (p:Pg) (cs:List Value) (d:Dcl) (bc n:Nat) (seen:List (List UInt8)) (w:World) (hck:ChkR w (im (only bc) w) c p) (hd:DclR w (im (only bc) w) cs d) (hm:SMap w bc n (oneF seen)) (hn:n+d.ctors<maxLen) :
 Calls prog 96 #[c.b,.agg cs.toArray,.map (some bc)] w (gH w bc n p seen d):=by
 obtain⟨A,q,rfl,_⟩:=gG hd
 cases hb:ie d with
 | true=>exact decl_bad c p d A q bc n seen w hd hb
 | false =>
  cases hr:d.record with
  | true=>rw[hr] at hd;exact decl_rec c p d A q bc n seen w hck hd hm hn hb hr
  | false=>rw[hr] at hd;exact decl_var c p d A q bc n seen w hck hd hm hn hb hr
def uz {w w1:World} {ob:Obj} (h:Below (w.alloc ob).heap.size (w.alloc ob) w1):w.heap.size<w1:=by
 have:=h.size;simp at this;omega
def Vr.nm (f:Vr):List UInt8:=f.name.data.toList
def Hd.nm (f:Hd):List UInt8:=f.msg.data.toList
def hdOk (p:Pg) (h:Hd):Bool:=de p h.params&&gg h.slots h.params
def cQ (pol most:Int):Bool:=if pol=0\/pol=2 then most==0 else if pol=1 then decide (1<=most)&&decide (most<=100) else false
def acP (p:Pg) (a:Ac):Bool:=(de p a.params&&gg a.slots a.params)&&(uniq Vr.nm aX (λv=>ci p v.type) [] a.vars&&(uniq Hd.nm aC (hdOk p) [] a.on&&cQ a.policy a.most))
def qu (c:CB) (p:Pg) (cs:List Value) (f:Ac) (w:World) (hck:ChkR w (lo w) c p) (hf:AcR w (lo w) cs f):Calls prog 97 #[c.b,.agg cs.toArray] w λe w'=>e=.returned (.bool (acP p f))/\Below w w w':=by
 obtain⟨A,q,B,cp,D,d,rfl,ca,U,bh,az,a2⟩:=jD hf;have cb:=az.le9;have bl:=a2.le9;obtain⟨HC,HF,bj,bk⟩:=zd4 hck bh az a2;have HV:Hid (acP p f=((de p f.params&&gg f.slots f.params)&&(uniq Vr.nm aX (λv=>ci p v.type) [] f.vars&&(uniq Hd.nm aC (hdOk p) [] f.on&&cQ f.policy f.most)))):=rfl;clear hck hf bh U ca az a2;obtain⟨t,am⟩:=γ f.vars
 obtain⟨n,an⟩:=γ f.on
 rw[<-am] at HV bj cb;rw[<-an] at HV bk bl;rw[<-am,<-an];obtain⟨HL,cm⟩:=zd2 am an;clear am an;obtain⟨y,R⟩:=γ (.cells #[f.name,.slice A f.params q,f.slots,.slice B t cp,.slice D n d,f.policy,f.most] 54:Obj)
 have a7:=η R;have X:(w.alloc y).cell? ⟨w,1,none⟩=some (.slice A f.params q):=by rw[R];simp
 have W:(w.alloc y).cell? ⟨w,2,none⟩=some (f.slots:Vl):=by rw[R];simp
 have V:(w.alloc y).cell? ⟨w,3,none⟩=some (.slice B t cp):=by rw[R];simp
 have L:(w.alloc y).cell? ⟨w,4,none⟩=some (.slice D n d):=by rw[R];simp
 have H:(w.alloc y).cell? ⟨w,5,none⟩=some (f.policy:Vl):=by rw[R];simp
 have M:(w.alloc y).cell? ⟨w,6,none⟩=some (f.most:Vl):=by rw[R];simp
 have aj:Hid ((w.alloc y).cell? ⟨w,1,none⟩=some (.slice A f.params q)/\(w.alloc y).cell? ⟨w,2,none⟩=some (f.slots:Vl)/\(w.alloc y).cell? ⟨w,3,none⟩=some (.slice B t cp)/\(w.alloc y).cell? ⟨w,4,none⟩=some (.slice D n d)/\(w.alloc y).cell? ⟨w,5,none⟩=some (f.policy:Vl)/\(w.alloc y).cell? ⟨w,6,none⟩=some (f.most:Vl)):=⟨X,W,V,L,H,M⟩
 clear X W V L H M R;have cl:=@run_makeMap prog
 cases h1:de p f.params with
 | false =>
  have I:Hid (acP p f=false):=by show _=_;rw[HV.o,h1];rfl
  have E:=η h1;clear h1;go_enter func97,ntmps97;go_wp2_with (go_at_call 99;rw[<-a7.o];refine (cK c p _ f.params _ (HC.to (ae ζ1)) (FldsR.to HF (ae ζ1))).mono ?_;rw[E.o];rintro e G ⟨rfl,m⟩;have B1:=η m;have bi:=uz m;obtain⟨X,W,V,L,H,M⟩:=aj.o;have d1:=belC m X;have d2:=belC m W;have d3:=belC m V;have d4:=belC m L;have d5:=belC m H;have d6:=belC m M;clear X W V L H M m);go_ret;exact⟨by rw[I.o];rfl,bel ζ1 B1⟩
 | true =>
  cases h2:gg f.slots f.params with
  | false =>
   have I:Hid (acP p f=false):=by show _=_;rw[HV.o,h2];simp
   obtain⟨E,O⟩:=zd2 h1 h2;clear h1 h2;go_enter func97,ntmps97;go_wp2_with (first|(go_at_call 99;rw[<-a7.o];refine (cK c p _ f.params _ (HC.to (ae ζ1)) (FldsR.to HF (ae ζ1))).mono ?_;rw[E.o];rintro e G ⟨rfl,m⟩;have B1:=η m;have bi:=uz m;obtain⟨X,W,V,L,H,M⟩:=aj.o;have d1:=belC m X;have d2:=belC m W;have d3:=belC m V;have d4:=belC m L;have d5:=belC m H;have d6:=belC m M;clear X W V L H M m)|(go_at_call 136;refine (jT _ _ _).mono ?_;rw[O.o];rintro e w' ⟨rfl,rfl⟩));go_ret;exact⟨by rw[I.o];rfl,bel ζ1 B1⟩
  | true =>
   have a6:Hid (acP p f=(uniq Vr.nm aX (λv=>ci p v.type) [] t&&(uniq Hd.nm aC (hdOk p) [] n&&cQ f.policy f.most))):=by show _=_;rw[HV.o,h1,h2];rfl
   obtain⟨E,O⟩:=zd2 h1 h2;clear h1 h2 HV;go_enter func97,ntmps97;go_wp2_with (first|(go_at_call 99;rw[<-a7.o];refine (cK c p _ f.params _ (HC.to (ae ζ1)) (FldsR.to HF (ae ζ1))).mono ?_;rw[E.o];rintro e G ⟨rfl,m⟩;have B1:=η m;have bi:=uz m;obtain⟨X,W,V,L,H,M⟩:=aj.o;have d1:=belC m X;have d2:=belC m W;have d3:=belC m V;have d4:=belC m L;have d5:=belC m H;have d6:=belC m M;clear X W V L H M m)|(go_at_call 136;refine (jT _ _ _).mono ?_;rw[O.o];rintro e w' ⟨rfl,rfl⟩));clear d1 d2 d4 d5 d6;go_loopw [30] (λi wr=>∃(j:Nat) (k:List (List UInt8)),j<=t/\i=.int .i64 j/\Hid (uniq Vr.nm aX (λv=>ci p v.type) [] t=uniq Vr.nm aX (λv=>ci p v.type) k (t.drop j))/\Hid (Below (w.alloc y).heap.size (w.alloc y) wr)/\Hid (SMap wr G j (oneF k))/\Hid (SMap wr (G+1) 0 (oneF []))) (λi _=>t.length-(intOf i).toNat)
   case atStart=>exact⟨0,[],ω,rfl,rfl,belA (belA B1 _) _,(mc G).alloc _,kh G _⟩
   case round =>
    obtain⟨j,k,hj,rfl,Y,N,Z,af⟩:=hrel;have a3:G.heap.size<wr:=Z.lt;have s:=η (bel (belA (belR w) y) N);by_cases hlt:j<t
    ·have u1:=zT j t;obtain⟨g,b8,k1,s1,a1,A1,a5,o1,x1,m1,r1,e1,D1,d1,rfl,hg,p0,p1,p2,p3,p4,p5,p6,p7,p8,a0,U,bf,_⟩:=ku bj hlt;replace p0:=belC s p0;replace p1:=belC s p1;replace p2:=belC s p2;replace p3:=belC s p3;replace p4:=belC s p4;replace p5:=belC s p5;replace p6:=belC s p6;replace p7:=belC s p7;replace p8:=belC s p8;obtain⟨ac,T⟩:=zd2 bf U;have ag:j<maxLen:=by unfold maxLen;omega
     have HJ:=η ag;clear a0 U ag bf
     cases h1:(!decide (t[j].nm∈k)&&aX t[j].nm) with
     | false =>
      have I:Hid (acP p f=false):=by show _=_;rw[a6.o,Y.o,iF hlt h1];rfl
      have E:=η h1;clear h1;go_wp2_with (go_at_call 94;refine (once_lower G j t[j].name k _ (Z.alloc _) HJ T).mono ?_;rintro e w2 ⟨z,h,u⟩;rw[show (!decide (t[j].name.data.toList∈k)&&aX t[j].name.data.toList)=false from E.o] at z;subst z;have x:=η (belG (belA s _) h ω));go_ret;exact⟨by rw[I.o];rfl,x⟩
     | true =>
      have ad:=η (ja h1)
      cases h2:ci p t[j].type with
      | false =>
       have I:Hid (acP p f=false):=by show _=_;rw[a6.o,Y.o,ed hlt h2];rfl
       obtain⟨E,O⟩:=zd2 h1 h2;clear h1 h2;go_wp2_with (first|(go_at_call 94;refine (once_lower G j t[j].name k _ (Z.alloc _) HJ T).mono ?_;rintro e w2 ⟨z,h,u⟩;rw[show (!decide (t[j].name.data.toList∈k)&&aX t[j].name.data.toList)=true from E.o] at z;subst z;have x:=η (belG (belA s _) h ω);have B3:=η (belG (belA N _) h Φ);have c1:=h.C wr 1 (k1:Vl);have c2:=h.C wr 2 (s1:Vl);have c3:=h.C wr 3 (.slice A1 a1 a5);have F:=η (u ad);have a9:=η ((af.alloc _).same (h.block (G+1) (by have:=af.lt;simp;omega) Θ));clear u h)|(go_at_call 100;refine (dQ c p _ t[j].type _ (HC.to (ae x)) (ac.to (ae x))).mono ?_;rw[O.o];rintro e w3 ⟨rfl,r⟩));go_ret;exact⟨by rw[I.o];rfl,bel x r⟩
      | true =>
       have I:Hid (uniq Vr.nm aX (λv=>ci p v.type) [] t=uniq Vr.nm aX (λv=>ci p v.type) (t[j].nm::k) (t.drop (j+1))):=by show _=_;rw[Y.o];exact iG hlt h1 h2
       obtain⟨E,O⟩:=zd2 h1 h2;clear h1 h2;go_wp2_with (first|(go_at_call 94;refine (once_lower G j t[j].name k _ (Z.alloc _) HJ T).mono ?_;rintro e w2 ⟨z,h,u⟩;rw[show (!decide (t[j].name.data.toList∈k)&&aX t[j].name.data.toList)=true from E.o] at z;subst z;have x:=η (belG (belA s _) h ω);have B3:=η (belG (belA N _) h Φ);have c1:=h.C wr 1 (k1:Vl);have c2:=h.C wr 2 (s1:Vl);have c3:=h.C wr 3 (.slice A1 a1 a5);have F:=η (u ad);have a9:=η ((af.alloc _).same (h.block (G+1) (by have:=af.lt;simp;omega) Θ));clear u h)|(go_at_call 100;refine (dQ c p _ t[j].type _ (HC.to (ae x)) (ac.to (ae x))).mono ?_;rw[O.o];rintro e w3 ⟨rfl,r⟩));go_roundw
       case rel=>exact⟨j+1,_,ω,by go_num,I,bel B3 r,F.below r F.lt,a9.below r a9.lt⟩
       case measure=>simp[intOf];omega
    have u1:=zF j t;have ap:Hid (acP p f=(uniq Hd.nm aC (hdOk p) [] n&&cQ f.policy f.most)):=by show _=_;rw[a6.o,Y.o,gi hlt];rfl
    obtain⟨_,_,_,L,_,_⟩:=aj.o;replace L:=belC N L;go_wp2_with fail;obtain⟨wo,rfl⟩:=γ wr
    clear u1;go_loopw [50] (λi wr=>∃(j:Nat) (k:List (List UInt8)),j<=n/\i=.int .i64 j/\Hid (uniq Hd.nm aC (hdOk p) [] n=uniq Hd.nm aC (hdOk p) k (n.drop j))/\Hid (Below (w.alloc y).heap.size (w.alloc y) wr)/\Hid (SMap wr (G+1) j (oneF k))) (λi _=>n.length-(intOf i).toNat)
    case atStart=>exact⟨0,[],ω,rfl,rfl,N,af⟩
    case round =>
     clear N Z af Y s a3 L hj hlt;obtain⟨j,k,hj,rfl,Y,N,Z⟩:=hrel;have a3:G.heap.size+1<wr:=Z.lt;have s:=η (bel (belA (belR w) y) N);by_cases hlt:j<n
     ·have u1:=zT j n;obtain⟨g,b8,A1,q1,D1,d1,rfl,hg,p0,p1,p2,p3,a0,_,U,bg,_⟩:=lG bk hlt;replace p0:=belC s p0;replace p1:=belC s p1;replace p2:=belC s p2;replace p3:=belC s p3;obtain⟨ac,T⟩:=zd2 bg U;have ag:j<maxLen:=by unfold maxLen;omega
      have HJ:=η ag;clear a0 U ag bg
      cases h1:(!decide (n[j].nm∈k)&&aC n[j].nm) with
      | false =>
       have I:Hid (acP p f=false):=by show _=_;rw[ap.o,Y.o,iF hlt h1];rfl
       have E:=η h1;clear h1;go_wp2_with (go_at_call 94;refine (once_upper (G+1) j n[j].msg k _ (Z.alloc _) HJ T).mono ?_;rintro e w2 ⟨z,h,u⟩;rw[show (!decide (n[j].msg.data.toList∈k)&&aC n[j].msg.data.toList)=false from E.o] at z;subst z;have x:=η (belG (belA s _) h ω));go_ret;exact⟨by rw[I.o];rfl,x⟩
      | true =>
       have ad:=η (ja h1)
       cases h2:de p n[j].params with
       | false =>
        have I:Hid (acP p f=false):=by show _=_;rw[ap.o,Y.o,ed hlt (by unfold hdOk;rw[h2];rfl)];rfl
        obtain⟨E,O⟩:=zd2 h1 h2;clear h1 h2;go_wp2_with (first|(go_at_call 94;refine (once_upper (G+1) j n[j].msg k _ (Z.alloc _) HJ T).mono ?_;rintro e w2 ⟨z,h,u⟩;rw[show (!decide (n[j].msg.data.toList∈k)&&aC n[j].msg.data.toList)=true from E.o] at z;subst z;have x:=η (belG (belA s _) h ω);have B3:=η (belG (belA N _) h Φ);have c1:=h.C wr 1 (.slice A1 n[j].params.length q1);have c2:=h.C wr 2 (.int .i64 n[j].slots);have F:=η (u ad);clear u h)|(go_at_call 99;refine (cK c p _ n[j].params _ (HC.to (ae x)) (FldsR.to ac (ae x))).mono ?_;rw[O.o];rintro e w3 ⟨rfl,r⟩;have B4:=η (bel x r);have B5:=η (bel B3 r);have a8:=η (F.below r F.lt);have f1:=belC r c1;have f2:=belC r c2;clear r c1 c2));go_ret;exact⟨by rw[I.o];rfl,B4⟩
       | true =>
        cases h3:gg n[j].slots n[j].params.length with
        | false =>
         have I:Hid (acP p f=false):=by show _=_;rw[ap.o,Y.o,ed hlt (by unfold hdOk;rw[h3];simp)];rfl
         obtain⟨E,O,H3⟩:=zd3 h1 h2 h3;clear h1 h2 h3;go_wp2_with (first|(go_at_call 94;refine (once_upper (G+1) j n[j].msg k _ (Z.alloc _) HJ T).mono ?_;rintro e w2 ⟨z,h,u⟩;rw[show (!decide (n[j].msg.data.toList∈k)&&aC n[j].msg.data.toList)=true from E.o] at z;subst z;have x:=η (belG (belA s _) h ω);have B3:=η (belG (belA N _) h Φ);have c1:=h.C wr 1 (.slice A1 n[j].params.length q1);have c2:=h.C wr 2 (.int .i64 n[j].slots);have F:=η (u ad);clear u h)|(go_at_call 99;refine (cK c p _ n[j].params _ (HC.to (ae x)) (FldsR.to ac (ae x))).mono ?_;rw[O.o];rintro e w3 ⟨rfl,r⟩;have B4:=η (bel x r);have B5:=η (bel B3 r);have a8:=η (F.below r F.lt);have f1:=belC r c1;have f2:=belC r c2;clear r c1 c2)|(go_at_call 136;refine (jT _ _ _).mono ?_;rw[H3.o];rintro e w' ⟨rfl,rfl⟩));go_ret;exact⟨by rw[I.o];rfl,B4⟩
        | true =>
         have I:Hid (uniq Hd.nm aC (hdOk p) [] n=uniq Hd.nm aC (hdOk p) (n[j].nm::k) (n.drop (j+1))):=by show _=_;rw[Y.o];exact iG hlt h1 (by unfold hdOk;rw[h2,h3];rfl)
         obtain⟨E,O,H3⟩:=zd3 h1 h2 h3;clear h1 h2 h3;go_wp2_with (first|(go_at_call 94;refine (once_upper (G+1) j n[j].msg k _ (Z.alloc _) HJ T).mono ?_;rintro e w2 ⟨z,h,u⟩;rw[show (!decide (n[j].msg.data.toList∈k)&&aC n[j].msg.data.toList)=true from E.o] at z;subst z;have x:=η (belG (belA s _) h ω);have B3:=η (belG (belA N _) h Φ);have c1:=h.C wr 1 (.slice A1 n[j].params.length q1);have c2:=h.C wr 2 (.int .i64 n[j].slots);have F:=η (u ad);clear u h)|(go_at_call 99;refine (cK c p _ n[j].params _ (HC.to (ae x)) (FldsR.to ac (ae x))).mono ?_;rw[O.o];rintro e w3 ⟨rfl,r⟩;have B4:=η (bel x r);have B5:=η (bel B3 r);have a8:=η (F.below r F.lt);have f1:=belC r c1;have f2:=belC r c2;clear r c1 c2)|(go_at_call 136;refine (jT _ _ _).mono ?_;rw[H3.o];rintro e w' ⟨rfl,rfl⟩));go_roundw
         case rel=>exact⟨j+1,_,ω,by go_num,I,B5,a8⟩
         case measure=>simp[intOf];omega
     have u1:=zF j n;have ao:Hid (acP p f=cQ f.policy f.most):=by show _=_;rw[ap.o,Y.o,gi hlt];rfl
     obtain⟨_,_,_,_,H,M⟩:=aj.o;replace H:=belC N H;replace M:=belC N M;have J:f.policy=0\/f.policy=2\/f.policy=1\/(f.policy≠0/\f.policy≠2/\f.policy≠1):=ω;rcases J with J|J|J|⟨J,hp2,hp1⟩
     ·have HP:Hid (cQ f.policy f.most=(f.most==0)):=by show cQ _ _=_;unfold cQ;rw[if_pos (.inl J)]
      rw[J] at H;clear J
      cases hmo:(f.most==0)
      all_goals
       go_wp2_with fail;go_ret;exact⟨by rw[ao.o,HP.o,hmo];rfl,s⟩
     ·have HP:Hid (cQ f.policy f.most=(f.most==0)):=by show cQ _ _=_;unfold cQ;rw[if_pos (.inr J)]
      rw[J] at H;clear J
      cases hmo:(f.most==0)
      all_goals
       go_wp2_with fail;go_ret;exact⟨by rw[ao.o,HP.o,hmo];rfl,s⟩
     ·have HP:Hid (cQ f.policy f.most=(decide (1<=f.most)&&decide (f.most<=100))):=by show cQ _ _=_;unfold cQ;rw[if_neg ω,if_pos J]
      rw[J] at H;clear J
      cases hmo:decide (1<=f.most)<;>cases hmo2:decide (f.most<=100)
      all_goals
       go_wp2_with fail;go_ret
       exact⟨by rw[ao.o,HP.o,hmo];try rw[hmo2]
                try rfl,s⟩
     have HP:Hid (cQ f.policy f.most=false):=by show cQ _ _=_;unfold cQ;rw[if_neg ω,if_neg hp1]
     have q0:(f.policy==0)=false:=by simpa using J
     have q1:(f.policy==1)=false:=by simpa using hp1
     have q2:(f.policy==2)=false:=by simpa using hp2
     clear J hp1 hp2;go_wp2_with fail;go_ret;exact⟨by rw[ao.o,HP.o];rfl,s⟩
end Go.Proofs.YtjohpidklbhmcaaGreatDoor
