import Derived.WalkKit
import Derived.Lib.ItoaNum
import Derived.Test.YtbmknjfgjphfbaaGreatDoorRows
import Derived.Lib.Hide
import Derived.WalkSpells
import Derived.WalkLawsBesides
import Derived.Deep.DeepCutAuto
import Derived.Deep.QuietTactic
import Derived.BigQuiet
import Derived.Lib.QuietBelow
import Derived.Maps.OwnSet
import Derived.Maps.OwnOps
import Derived.StringKeys
import Derived.StillTailTactics
import Derived.Deep.RegionHeld3
import Derived.Recover
import Derived.OwnWalk
import Derived.Maps.AppendAt
import Derived.Defers
import Derived.Test.YtbmknjfgjphfbaaGreatDoorHd
set_option linter.all false
namespace Go.Proofs.YtbmknjfgjphfbaaGreatDoor
set_option maxRecDepth 100000
set_option maxHeartbeats 8000000
section
open Proofs.Tryz RowKit
structure Tk where
 kind:Int
 text:Ê
 n:Int
 pos:Int
inductive Nd where
 | mk (kind:Int) (text:Ê) (n pos:Int) (kids:List Nd)
inductive Re (α:Type) where
 | out
 | bad (r:List Tk)
 | ok (a:α) (r:List Tk)
def M (α:Type):=List Tk→Re α
def M.ret {α:Type} (a:α):M α:=fun ts=>.ok a ts
def Re.bd {α β:Type} (x:Re α) (f:α→M β):Re β:=
 match x with
 | .out=>.out
 | .bad r=>.bad r
 | .ok a r=>f a r
def M.bd {α β:Type} (m:M α) (f:α→M β):M β:=fun ts=>(m ts).bd f
instance:Monad M where
 pure:=M.ret
 bind:=M.bd
def nameC (c:UInt8):Bool:=(decide (97≤c.toNat)&&decide (c.toNat≤122))||(decide (65≤c.toNat)&&decide (c.toNat≤90))||(decide (48≤c.toNat)&&decide (c.toNat≤57))||(c.toNat==95)
def wordP (l:List UInt8) (a b:Nat):Bool:=
 match l with
 | []=>false
 | c::_=>decide (a≤c.toNat)&&decide (c.toNat≤b)&&l.all nameC
def resWords:List (List UInt8):=[[114,101,99,111,114,100],[118,97,114,105,97,110,116],[101,102,102,101,99,116],[102,117,110],[97,99,116,111,114],[114,101,115,116,97,114,116],[101,115,99,97,108,97,116,101],[115,116,97,116,101],[111,110],[108,101,116],[105,110],[105,102],[116,104,101,110],[101,108,115,101],[109,97,116,99,104],[119,105,116,104],[97,110,100],[111,114],[110,111,116],[116,114,117,101],[102,97,108,115,101],[115,101,108,102],[102,111,114],[115,101,110,100],[97,102,116,101,114],[115,112,97,119,110],[100,111],[115,116,111,112],[102,97,105,108],[114,101,102],[105,110,116],[98,111,111,108],[116,101,120,116],[117,110,105,116]]
def resB (l:List UInt8):Bool:=resWords.contains l
def basB (l:List UInt8):Bool:=l==[105,110,116]||l==[98,111,111,108]||l==[116,101,120,116]||l==[117,110,105,116]
def lowB (l:List UInt8):Bool:=wordP l 97 122&&!resB l
def uppB (l:List UInt8):Bool:=wordP l 65 90
def msgB (l:List UInt8):Bool:=l==[105,110,105,116]||uppB l
def bndB (l:List UInt8):Bool:=l==[95]||lowB l
def patB (l:List UInt8):Bool:=l==[95]||uppB l
def typB (l:List UInt8):Bool:=basB l||uppB l
def levP (l:List UInt8):Option Nat:=
 if l==[111,114] then some 1 else if l==[97,110,100] then some 2
 else if l==[61,61]||l==[33,61]||l==[60]||l==[60,61]||l==[62]||l==[62,61] then some 4
 else if l==[43,43] then some 5 else if l==[43]||l==[45] then some 6
 else if l==[42]||l==[47]||l==[37] then some 7 else none
def e0:Ê:=ByteArray.empty
def kd:List Tk→Int
 | []=>0
 | t::_=>t.kind
def tx:List Tk→Ê
 | []=>e0
 | t::_=>t.text
def nm:List Tk→Int
 | []=>0
 | t::_=>t.n
def wrd (ts:List Tk):Ê:=if kd ts=1∨kd ts=4 then tx ts else e0
def wl (ts:List Tk):List UInt8:=(wrd ts).data.toList
def offP (e:Int):List Tk→Int
 | []=>e
 | t::_=>t.pos
def failP {α:Type}:M α:=fun ts=>.bad ts
def outP {α:Type}:M α:=fun _=>.out
def acc {α:Type} (w:List UInt8) (y n:M α):M α:=fun ts=>if wl ts==w then y ts.tail else n ts
def expect (w:List UInt8):M Unit:=fun ts=>if wl ts==w then .ok () ts.tail else .bad ts
def name (p:List UInt8→Bool):M Ê:=fun ts=>if p (wl ts) then .ok (wrd ts) ts.tail else .bad ts
def intP:M Int:=fun ts=>if kd ts=2 then .ok (nm ts) ts.tail else .bad ts
def look {α:Type} (f:List Tk→M α):M α:=fun ts=>f ts ts
def nextP {α:Type} (m:M α):M α:=fun ts =>
 match ts with
 | []=>.out
 | _::r=>m r
def tailP (m:M Nd):Nat→M (List Nd)
 | 0=>outP
 | n+1=>acc [44] (do let a ←m;let l ←tailP m n;pure (a::l)) (pure [])
def itemsP (w:List UInt8) (m:M Nd) (n:Nat):M (List Nd):=do
 let a ←m
 let l ←tailP m n
 expect w
 pure (a::l)
def listP (w:List UInt8) (m:M Nd) (n:Nat):M (List Nd):=acc w (pure []) (itemsP w m n)
def untilP (w:List UInt8) (m:M Nd):Nat→M (List Nd)
 | 0=>outP
 | n+1=>acc w (pure []) (do let a ←m;let l ←untilP w m n;pure (a::l))
section
variable (e:Int)
def typP:Nat→M Nd
 | 0=>outP
 | n+1=>look fun t0 =>
  acc [91] (do let x ←typP n;expect [93];pure (.mk 13 e0 0 (offP e t0) [x])) <|
  acc [114,101,102] (do let s ←name uppB;pure (.mk 14 s 0 (offP e t0) [])) <|
  acc [102,117,110] (do expect [40];let l ←listP [41] (typP n) n;expect [58];let x ←typP n;pure (.mk 15 e0 0 (offP e t0) (l++[x]))) <|
  (do let s ←name typB;pure (.mk 12 s 0 (offP e t0) []))
def fieldP (n:Nat):M Nd:=look fun t0=>do let s ←name lowB;expect [58];let x ←typP e n;pure (.mk 7 s 0 (offP e t0) [x])
def fieldsP (n:Nat):M (List Nd):=do expect [40];listP [41] (fieldP e n) n
def bindP:M Nd:=look fun t0=>do let s ←name bndB;pure (.mk 40 s 0 (offP e t0) [])
def patP (k:Int) (n:Nat):M Nd:=look fun t0=>do
 let s ←name patB
 if s.data.toList==[95] then pure (.mk k s 0 (offP e t0) [])
 else acc [40] (do let l ←itemsP [41] (bindP e) n;pure (.mk k s 0 (offP e t0) l)) (pure (.mk k s 0 (offP e t0) []))
def ctorP (n:Nat):M Nd:=look fun t0=>do
 let s ←name uppB
 acc [40] (do let l ←itemsP [41] (typP e n) n;pure (.mk 8 s 0 (offP e t0) l)) (pure (.mk 8 s 0 (offP e t0) []))
def addK (l:List Nd):Nd→Nd
 | .mk k s n p q=>.mk k s n p (q++l)
def binP (lv:Nat) (m:M Nd) (at_:Int):Nat→Nd→M Nd
 | 0,_=>outP
 | n+1,a=>look fun t0 =>
  if levP (wl t0)=some lv then nextP (do
   let b ←m
   if lv=4 then pure (.mk 35 (wrd t0) 0 at_ [a,b]) else binP lv m at_ n (.mk 35 (wrd t0) 0 at_ [a,b]))
  else pure a
def argsP (m:M Nd) (n:Nat):M (List Nd):=do expect [40];listP [41] m n
def setP (m:M Nd):M Nd:=look fun t0=>do let s ←name lowB;expect [61];let x ←m;pure (.mk 28 s 0 (offP e t0) [x])
def armP (m:M Nd) (n:Nat):M Nd:=do let a ←patP e 39 n;expect [61,62];let x ←m;pure (addK [x] a)
def tailsP (m:M Nd) (at_:Int):Nat→Nd→M Nd
 | 0,_=>outP
 | n+1,a=>look fun t0 =>
  if wl t0==[40] then (do let l ←argsP m n;tailsP m at_ n (.mk 32 e0 0 at_ (a::l)))
  else acc [46] (do let s ←name lowB;tailsP m at_ n (.mk 30 s 0 at_ [a])) <|
  acc [119,105,116,104] (do expect [123];let l ←itemsP [125] (setP e m) n;tailsP m at_ n (.mk 31 e0 0 at_ (a::l))) <|
  pure a
def functionP (m:M Nd) (n:Nat):M (List Nd):=do
 let l ←fieldsP e n
 expect [58]
 let t ←typP e n
 expect [61]
 let x ←m
 pure (l++[t,x])
def consP (x:M Nd) (n:Nat) (s:Ê) (at_:Int):M Nd:=acc [40] (do let l ←itemsP [41] x n;pure (.mk 29 s 0 at_ l)) (pure (.mk 29 s 0 at_ []))
def primP (x:M Nd) (n:Nat) (h:Bool):M Nd:=look fun t0 =>
 if kd t0=2 then nextP (pure (.mk 20 e0 (nm t0) (offP e t0) []))
 else if kd t0=3 then nextP (pure (.mk 21 (tx t0) 0 (offP e t0) []))
 else
  acc [116,114,117,101] (pure (.mk 22 e0 1 (offP e t0) [])) <|
  acc [102,97,108,115,101] (pure (.mk 22 e0 0 (offP e t0) [])) <|
  acc [115,101,108,102] (pure (.mk 25 e0 0 (offP e t0) [])) <|
  acc [91] (do let l ←listP [93] x n;pure (.mk 26 e0 0 (offP e t0) l)) <|
  acc [40] (acc [41] (pure (.mk 23 e0 0 (offP e t0) [])) (do let a ←x;expect [41];pure a)) <|
  if lowB (wl t0) then nextP (pure (.mk 24 (wrd t0) 0 (offP e t0) []))
  else do
   let s ←name uppB
   if h then consP x n s (offP e t0)
   else acc [123] (do let l ←listP [125] (setP e x) n;pure (.mk 27 s 0 (offP e t0) l)) (consP x n s (offP e t0))
mutual
def exprP:Nat→Bool→M Nd
 | 0,_=>outP
 | n+1,h=>look fun t0 =>
  acc [108,101,116] (do let s ←name lowB;expect [61];let a ←exprP n h;expect [105,110];let b ←exprP n h;pure (.mk 37 s 0 (offP e t0) [a,b])) <|
  acc [105,102] (do let a ←exprP n h;expect [116,104,101,110];let b ←exprP n h;expect [101,108,115,101];let c ←exprP n h;pure (.mk 36 e0 0 (offP e t0) [a,b,c])) <|
  acc [109,97,116,99,104] (do let a ←exprP n true;expect [123];let l ←itemsP [125] (armP e (exprP n false) n) n;pure (.mk 38 e0 0 (offP e t0) (a::l))) <|
  acc [102,117,110] (do let l ←functionP e (exprP n h) n;pure (.mk 41 e0 0 (offP e t0) l)) <|
  operP n h 1
def operP:Nat→Bool→Nat→M Nd
 | 0,_,_=>outP
 | n+1,h,lv=>look fun t0 =>
  if lv=3 then acc [110,111,116] (do let a ←operP n h 3;pure (.mk 34 e0 0 (offP e t0) [a])) (operP n h 4)
  else if lv=8 then acc [45] (do let a ←operP n h 8;pure (.mk 33 e0 0 (offP e t0) [a])) (do
   let a ←primP e (exprP n false) n h
   tailsP e (exprP n false) (offP e t0) n a)
  else do
   let a ←operP n h (lv+1)
   binP lv (operP n h (lv+1)) (offP e t0) n a
end
def sendP (n:Nat):M Nd:=look fun t0=>do
 expect [115,101,110,100]
 let a ←exprP e n false
 let s ←name uppB
 let l ←argsP (exprP e n false) n
 pure (.mk 56 s 0 (offP e t0) (a::l))
def spawnP (n:Nat) (at_:Int) (b:Nd):M Nd:=do
 expect [115,112,97,119,110]
 let s ←name uppB
 let l ←argsP (exprP e n false) n
 acc [111,110] (do let x ←exprP e n false;pure (.mk 58 s 1 at_ (b::(l++[x])))) (pure (.mk 58 s 0 at_ (b::l)))
def letP (n:Nat):M Nd:=look fun t0=>do
 expect [108,101,116]
 look fun t1=>do
  let s ←name lowB
  expect [61]
  look fun t2 =>
   if wl t2==[115,112,97,119,110] then spawnP e n (offP e t0) (.mk 40 s 0 (offP e t1) [])
   else do let x ←exprP e n false;pure (.mk 50 s 0 (offP e t0) [x])
def doP (n:Nat):M Nd:=look fun t0=>do
 expect [100,111]
 let s ←name lowB
 let l ←argsP (exprP e n false) n
 expect [116,104,101,110]
 look fun t1=>do
  let u ←name uppB
  pure (.mk 59 s 0 (offP e t0) (l++[.mk 75 u 0 (offP e t1) []]))
def blockP (s:M Nd) (n:Nat):M Nd:=look fun t0=>do expect [123];let l ←untilP [125] s n;pure (.mk 11 e0 0 (offP e t0) l)
def branchP (s:M Nd) (n:Nat):M Nd:=look fun t0=>do
 expect [105,102]
 let a ←exprP e n true
 let b ←blockP e s n
 acc [101,108,115,101] (do let c ←blockP e s n;pure (.mk 52 e0 0 (offP e t0) [a,b,c])) (pure (.mk 52 e0 0 (offP e t0) [a,b]))
def sarmP (s:M Nd) (n:Nat):M Nd:=do let a ←patP e 54 n;let b ←blockP e s n;pure (addK [b] a)
def casesP (s:M Nd) (n:Nat):M Nd:=look fun t0=>do
 expect [109,97,116,99,104]
 let a ←exprP e n true
 expect [123]
 let b ←sarmP e s n
 let l ←untilP [125] (sarmP e s n) n
 pure (.mk 53 e0 0 (offP e t0) (a::b::l))
def stmtP:Nat→M Nd
 | 0=>outP
 | n+1=>look fun t0 =>
  if wl t0==[108,101,116] then letP e n
  else if wl t0==[115,112,97,119,110] then spawnP e n (offP e t0) (.mk 40 (ByteArray.mk #[95]) 0 (offP e t0) [])
  else if wl t0==[105,102] then branchP e (stmtP n) n
  else if wl t0==[109,97,116,99,104] then casesP e (stmtP n) n
  else if wl t0==[102,111,114] then nextP (do
   let s ←name lowB
   expect [105,110]
   let a ←exprP e n true
   let b ←blockP e (stmtP n) n
   pure (.mk 55 s 0 (offP e t0) [a,b]))
  else if wl t0==[115,101,110,100] then sendP e n
  else if wl t0==[97,102,116,101,114] then nextP (do let a ←exprP e n false;let b ←sendP e n;pure (.mk 57 e0 0 (offP e t0) [a,b]))
  else if wl t0==[100,111] then doP e n
  else if wl t0==[115,116,111,112] then nextP (pure (.mk 60 e0 0 (offP e t0) []))
  else if wl t0==[102,97,105,108] then nextP (do let a ←exprP e n false;pure (.mk 61 e0 0 (offP e t0) [a]))
  else do let s ←name lowB;expect [61];let a ←exprP e n false;pure (.mk 51 s 0 (offP e t0) [a])
def memberP (n:Nat):M Nd:=look fun t0 =>
 acc [115,116,97,116,101] (do
  let s ←name lowB
  expect [58]
  let t ←typP e n
  expect [61]
  let x ←exprP e n false
  pure (.mk 9 s 0 (offP e t0) [t,x])) (do
  expect [111,110]
  let s ←name uppB
  let l ←fieldsP e n
  let b ←blockP e (stmtP e n) n
  pure (.mk 10 s 0 (offP e t0) (l++[b])))
def policyP:M Int:=acc [101,115,99,97,108,97,116,101] (pure (-1)) (acc [114,101,115,116,97,114,116] (do let k ←intP;pure (k+1)) (pure 0))
def declP (n:Nat):M Nd:=look fun t0 =>
 acc [114,101,99,111,114,100] (do let s ←name uppB;expect [123];let l ←listP [125] (fieldP e n) n;pure (.mk 2 s 0 (offP e t0) l)) <|
 acc [118,97,114,105,97,110,116] (do let s ←name uppB;expect [123];let l ←itemsP [125] (ctorP e n) n;pure (.mk 3 s 0 (offP e t0) l)) <|
 acc [101,102,102,101,99,116] (do let s ←name lowB;let l ←fieldsP e n;expect [58];let t ←typP e n;pure (.mk 4 s 0 (offP e t0) (l++[t]))) <|
 acc [102,117,110] (do let s ←name lowB;let l ←functionP e (exprP e n false) n;pure (.mk 5 s 0 (offP e t0) l)) <|
 acc [97,99,116,111,114] (do
  let s ←name uppB
  let l ←fieldsP e n
  let k ←policyP
  expect [123]
  let q ←untilP [125] (memberP e n) n
  pure (.mk 6 s k (offP e t0) (l++q))) failP
def convTypeP (at_:Int) (n:Nat):M Nd:=do
 let s ←name uppB
 acc [46] (look fun t1=>do
  let u ←name uppB
  let l ←fieldsP e n
  expect [61]
  let x ←exprP e n false
  pure (.mk 70 s 1 at_ (.mk 24 u 0 (offP e t1) []::(l++[x])))) (do
  let l ←fieldsP e n
  expect [61]
  let x ←exprP e n false
  pure (.mk 70 s 0 at_ (l++[x])))
def changeP (n:Nat):M Nd:=look fun t0 =>
 acc [109,111,118,101] (do let s ←name uppB;expect [116,111];let k ←intP;pure (.mk 73 s k (offP e t0) [])) <|
 acc [100,114,111,112] (do let s ←name uppB;pure (.mk 74 s 0 (offP e t0) []))<|do
 expect [99,111,110,118,101,114,116]
 acc [116,121,112,101] (convTypeP e (offP e t0) n) <|
  acc [97,99,116,111,114] (do
   let s ←name uppB
   let l ←fieldsP e n
   expect [123]
   let q ←listP [125] (setP e (exprP e n false)) n
   pure (.mk 71 s 0 (offP e t0) (l++q)))<|do
  expect [109,101,115,115,97,103,101]
  let s ←name uppB
  expect [46]
  look fun t1=>do
   let u ←name msgB
   let l ←fieldsP e n
   expect [61]
   look fun t2=>do
    let v ←name msgB
    let q ←argsP (exprP e n false) n
    pure (.mk 72 s 0 (offP e t0) (.mk 24 u 0 (offP e t1) []::(l++[.mk 75 v 0 (offP e t2) q])))
def chgB (l:List UInt8):Bool:=l==[99,111,110,118,101,114,116]||l==[109,111,118,101]||l==[100,114,111,112]
def oneP (patch:Bool) (n:Nat):M Nd:=look fun t0=>if (patch&&chgB (wl t0))=true then changeP e n else declP e n
def progP (patch:Bool) (n:Nat):Nat→M (List Nd)
 | 0=>outP
 | k+1=>fun ts =>
  match ts with
  | []=>.ok [] []
  | t::r=>(do let a ←oneP e patch n;let l ←progP patch n k;pure (a::l):M (List Nd)) (t::r)
end
mutual
/-- the offset of the first node whose depth is too large -/
def deepP:Nat→Nd→Option Int
 | d,.mk _ _ _ p l=>if 40<d then some p else deepL (d+1) l
def deepL:Nat→List Nd→Option Int
 | _,[]=>none
 | d,x::l=>match deepP d x with
  | some q=>some q
  | none=>deepL d l
end
end
section
open Proofs.Tryz RowKit
def accN:List UInt8→Int→Option Int
 | [],n=>some n
 | c::cs,n=>if c.toNat<48∨57<c.toNat then none else if n<(-9223372036854775808+((c.toNat:Int)-48)).tdiv 10 then none else accN cs (n*10-((c.toNat:Int)-48))
def finN (neg:Bool) (n lo hi:Int):Option Int:=
 if neg=false∧n=-9223372036854775808 then none else
 if (if neg then n else -n)<lo∨hi<(if neg then n else -n) then none else some (if neg then n else -n)
def numP (l:List UInt8) (lo hi:Int):Option Int:=
 if l.head?=some 45 then
  (if l.tail=[]∨l.tail.head?=some 48 then none else (accN l.tail 0).bind fun n=>finN true n lo hi)
 else if l=[]∨(l.head?=some 48∧l≠[48]) then none else (accN l 0).bind fun n=>finN false n lo hi
def letC (c:UInt8):Bool:=(decide (97≤c.toNat)&&decide (c.toNat≤122))||(decide (65≤c.toNat)&&decide (c.toNat≤90))
def digC (c:UInt8):Bool:=decide (48≤c.toNat)&&decide (c.toNat≤57)
def blankC (c:UInt8):Bool:=c.toNat==9||c.toNat==10||c.toNat==13||c.toNat==32
def markWords:List (List UInt8):=[[40],[41],[123],[125],[91],[93],[44],[46],[58],[59],[63],[95],[61],[43],[45],[42],[47],[37],[60],[62],[61,61],[33,61],[60,61],[62,61],[43,43],[61,62],[58,45]]
def markB (l:List UInt8):Bool:=markWords.contains l
def nameB (l:List UInt8):Bool:=
 match l with
 | []=>false
 | c::_=>letC c&&l.all nameC
def skipL:Bool→List UInt8→List UInt8
 | _,[]=>[]
 | true,c::r=>if c.toNat=10 then skipL false r else skipL true r
 | false,c::r=>if blankC c then skipL false r else if c.toNat=47∧r.head?=some 47 then skipL true r else c::r
def unesc (c:UInt8):Option UInt8:=
 if c.toNat=110 then some 10 else if c.toNat=116 then some 9 else if c.toNat=34∨c.toNat=92 then some c else none
def textL (a:List UInt8):List UInt8→Except Int (List UInt8×List UInt8)
 | []=>.error 2
 | c::r =>
  if c.toNat=10 then .error 2
  else if c.toNat=34 then (if 4096<a.length then .error 15 else .ok (a,r))
  else if c.toNat=92 then
   match r with
   | []=>.error 2
   | d::r2=>match unesc d with
    | none=>.error 2
    | some x=>textL (a++[x]) r2
  else textL (a++[c]) r
def str (l:List UInt8):Ê:=⟨l.toArray⟩
def intL (l:List UInt8):Except Int Int:=
 if l.all digC=false then .error 2
 else if l.head?=some 48∧l≠[48] then .error 2
 else match numP l 0 9007199254740992 with
  | none=>.error 6
  | some n=>.ok n
def tokL (at_:Int) (l:List UInt8):Except Int (Tk×List UInt8):=
 match l with
 | []=>.error 2
 | c::r =>
  if letC c then .ok (⟨1,str (l.takeWhile nameC),0,at_⟩,l.dropWhile nameC)
  else if digC c then
   match intL (l.takeWhile nameC) with
   | .error x=>.error x
   | .ok n=>.ok (⟨2,e0,n,at_⟩,l.dropWhile nameC)
  else if c.toNat=34 then
   match textL [] r with
   | .error x=>.error x
   | .ok (a,q)=>.ok (⟨3,str a,0,at_⟩,q)
  else if 2≤l.length∧markB (l.take 2)=true then .ok (⟨4,str (l.take 2),0,at_⟩,l.drop 2)
  else if markB (l.take 1) then .ok (⟨4,str (l.take 1),0,at_⟩,l.drop 1)
  else .error 2
inductive LexR where
 | err (e at_:Int)
 | ok (l:List Tk)
def scanL (N:Nat):Nat→List UInt8→LexR
 | 0,_=>.err 0 0
 | n+1,l =>
  match skipL false l with
  | []=>.ok []
  | c::r=>match tokL ((N:Int)-((c::r).length:Int)) (c::r) with
   | .error x=>.err x ((N:Int)-((c::r).length:Int))
   | .ok (t,q)=>match scanL N n q with
    | .err x p=>.err x p
    | .ok ts=>.ok (t::ts)
def scanP (l:List UInt8):LexR:=if 32768<l.length then .err 15 0 else scanL l.length (l.length+1) l
def quoteC (c:UInt8):List UInt8:=if c.toNat=10 then [92,110] else if c.toNat=9 then [92,116] else if c.toNat=34∨c.toNat=92 then [92,c] else [c]
def quoteL (l:List UInt8):List UInt8:=34::(l.flatMap quoteC++[34])
def tokB (t:Tk):Bool:=
 if t.kind=1 then nameB t.text.data.toList&&t.n==0
 else if t.kind=2 then t.text.data.toList==[]&&decide (0≤t.n)&&decide (t.n≤9007199254740992)
 else if t.kind=3 then decide (t.text.size≤4096)&&t.n==0
 else if t.kind=4 then markB t.text.data.toList&&t.n==0
 else false
def wTk (t:Tk):List UInt8:=
 if t.kind=2 then Lib.itoa t.n
 else if t.kind=3 then quoteL t.text.data.toList
 else t.text.data.toList
def wTks:List Tk→List UInt8
 | []=>[]
 | [t]=>wTk t
 | t::r=>wTk t++32::wTks r
def writeL (l:List Tk):List UInt8:=if l.all tokB then wTks l else []
inductive RunR where
 | err (e at_:Int)
 | ok (n:Nd)
def runP (patch:Bool) (l:List UInt8):RunR:=
 match scanP l with
 | .err x p=>.err x p
 | .ok ts=>match progP (l.length:Int) patch (20*ts.length+1) (ts.length+1) ts with
  | .out=>.err 0 0
  | .bad r=>.err 2 (offP (l.length:Int) r)
  | .ok q _=>match deepP 0 (.mk 1 e0 0 0 q) with
   | some p=>.err 10 p
   | none=>.ok (.mk 1 e0 0 0 q)
end
end Go.Proofs.YtbmknjfgjphfbaaGreatDoor
set_option linter.unusedVariables false
namespace Go.Proofs.YtbmknjfgjphfbaaGreatDoor
open Go.RowKit Go.Maps Go.WideMaps Go.ChangeMaps
def i64 (n:Int):Prop:=-9223372036854775808≤n∧n≤9223372036854775807
def RowAt (w:À) (P:Nat→Prop) (size n:Nat) (A:Option Addr) (css:Nat→List Value):Prop:=
 0<n→∃g off,A=some ⟨g,off,none⟩∧P g∧∀i,i<n→(css i).length=size∧∀j u,(css i)[j]?=some u→w.cell? ⟨g,off+i*size+j,none⟩=some u
def Sub (P P':Nat→Prop) (w w':À):Prop:=∀b,P b→P' b∧w'.heap[b]?=w.heap[b]?
theorem RowAt.to {w w':À} {P P':Nat→Prop} {size n:Nat} {A:Option Addr} {css:Nat→List Value} (h:RowAt w P size n A css) (hb:Sub P P' w w'):RowAt w' P' size n A css:=by
 intro hn
 obtain⟨g,off,hA,hg,hc⟩:=h hn
 exact⟨g,off,hA,(hb g hg).1,fun i hi=>⟨(hc i hi).1,fun j u hu=>(World.cell?_of_block (w:=w) (w':=w') (a:=⟨g,off+i*size+j,none⟩) (hb g hg).2).trans ((hc i hi).2 j u hu)⟩⟩
def SlR {α:Type} (w:À) (P:Nat→Prop) (size:Nat) (R:List Value→α→Prop) (v:Value) (l:List α):Prop:=
 ∃A cap css,v=.slice A l.length cap∧(l.length≤maxLen∧l.length≤cap)∧RowAt w P size l.length A css∧∀i (h:i<l.length),R (css i) l[i]
theorem SlR.to' {α:Type} {w w':À} {P P':Nat→Prop} {size:Nat} {R R':List Value→α→Prop} {v:Value} {l:List α} (h:SlR w P size R v l) (hb:Sub P P' w w') (hR:∀cs a,R cs a→R' cs a):SlR w' P' size R' v l:=by
 obtain⟨A,cap,css,rfl,hl,h1,h2⟩:=h
 exact⟨A,cap,css,rfl,hl,h1.to hb,fun i hi=>hR _ _ (h2 i hi)⟩
def lo (w:À) (b:Nat):Prop:=b<w.heap.size
theorem sub_lo {w w':À} (h:Below w.heap.size w w'):Sub (lo w) (lo w') w w':=fun b hb=>⟨Nat.lt_of_lt_of_le hb h.size,h.block b hb⟩
def im (own:Nat→Prop) (w:À) (b:Nat):Prop:=b<w.heap.size∧¬own b
structure Stp (own:Nat→Prop) (w w':À):Prop where
 os:w'.os=w.os
 tape:w'.tape=w.tape
 output:w'.output=w.output
 size:w.heap.size≤w'.heap.size
 block:∀k,k<w.heap.size→¬own k→w'.heap[k]?=w.heap[k]?
theorem Stp.refl (own:Nat→Prop) (w:À):Stp own w w:=⟨rfl,rfl,rfl,Nat.le_refl _,fun _ _ _=>rfl⟩
theorem Stp.trans {own:Nat→Prop} {a b c:À} (h:Stp own a b) (k:Stp own b c):Stp own a c:=
 ⟨k.os.trans h.os,k.tape.trans h.tape,k.output.trans h.output,Nat.le_trans h.size k.size,fun i hi ho=>(k.block i (Nat.lt_of_lt_of_le hi h.size) ho).trans (h.block i hi ho)⟩
theorem Stp.of_below {own:Nat→Prop} {w w':À} (h:Below w.heap.size w w'):Stp own w w':=⟨h.os,h.tape,h.output,h.size,fun k hk _=>h.block k hk⟩
theorem Stp.sub {own:Nat→Prop} {w w':À} (h:Stp own w w'):Sub (im own w) (im own w') w w':=fun b hb=>⟨⟨Nat.lt_of_lt_of_le hb.1 h.size,hb.2⟩,h.block b hb.1 hb.2⟩
theorem Stp.cell {own:Nat→Prop} {w w':À} (h:Stp own w w') {p:Addr} (hp:p.block<w.heap.size) (ho:¬own p.block):w'.cell? p=w.cell? p:=World.cell?_of_block (w:=w) (h.block p.block hp ho)
theorem SlR.at {α:Type} {w:À} {P:Nat→Prop} {size:Nat} {R:List Value→α→Prop} {A:Option Addr} {n cap:Nat} {l:List α} (h:SlR w P size R (.slice A n cap) l) {i:Nat} (hi:i<l.length) :
 ∃g off cs,A=some ⟨g,off,none⟩∧P g∧R cs l[i]∧cs.length=size∧∀j u,cs[j]?=some u→w.cell? ⟨g,off+i*size+j,none⟩=some u:=by
 obtain⟨A',cap',css,e,hl,hr,hk⟩:=h
 injection e with e1 e2 e3
 subst e1 e2 e3
 obtain⟨g,off,hA,hg,hc⟩:=hr ω
 exact⟨g,off,css i,hA,hg,hk i hi,(hc i hi).1,(hc i hi).2⟩
theorem SlR.len {α:Type} {w:À} {P:Nat→Prop} {size:Nat} {R:List Value→α→Prop} {A:Option Addr} {n cap:Nat} {l:List α} (h:SlR w P size R (.slice A n cap) l):n=l.length∧l.length≤maxLen:=by
 obtain⟨A',cap',css,e,hl,hr,hk⟩:=h
 injection e with e1 e2 e3
 exact⟨e2,hl.1⟩
theorem SlR.cap {α:Type} {w:À} {P:Nat→Prop} {size:Nat} {R:List Value→α→Prop} {A:Option Addr} {n cap:Nat} {l:List α} (h:SlR w P size R (.slice A n cap) l):l.length≤cap:=by
 obtain⟨A',cap',css,e,hl,hr,hk⟩:=h
 injection e with e1 e2 e3
 rw[e3];exact hl.2
theorem SlR.form {α:Type} {w:À} {P:Nat→Prop} {size:Nat} {R:List Value→α→Prop} {v:Value} {l:List α} (h:SlR w P size R v l):∃A cap,v=.slice A l.length cap:=by
 obtain⟨A',cap',css,e,hl,hr,hk⟩:=h
 exact⟨_,_,e⟩
theorem SlR.nil {α:Type} {w:À} {P:Nat→Prop} {size:Nat} {R:List Value→α→Prop}:SlR w P size R (.slice none 0 0) []:=⟨none,0,fun _=>[],rfl,by simp,fun h=>absurd h (by simp),fun i h=>absurd h (by simp)⟩
theorem bel {w a b:À} (h:Below w.heap.size w a) (k:Below a.heap.size a b):Below w.heap.size w b:=h.trans (k.mono h.size)
theorem belA {w a:À} (h:Below w.heap.size w a) (o:Obj):Below w.heap.size w (a.alloc o):=h.alloc h.size o
theorem belR (w:À):Below w.heap.size w w:=Below.refl _ _
section
variable {w:À} {o1 o2 o3 o4 o5 o6:Obj}
theorem ζ1:Below w.heap.size w (w.alloc o1):=belA (belR _) _
end
section
variable {w:À} {o1 o2 o3 o4 o5 o6:Obj}
end
section
variable {w:À} {o1 o2 o3 o4 o5 o6:Obj}
end
section
variable {w:À} {o1 o2 o3 o4 o5 o6:Obj}
end
section
variable {w:À} {o1 o2 o3 o4 o5 o6:Obj}
end
section
variable {w:À} {o1 o2 o3 o4 o5 o6:Obj}
end
theorem stpA {own:Nat→Prop} {w a:À} (h:Stp own w a) (o:Obj):Stp own w (a.alloc o):=h.trans (Stp.of_below (belA (belR a) o))
theorem stpB {own:Nat→Prop} {w a b:À} (h:Stp own w a) (k:Below a.heap.size a b):Stp own w b:=h.trans (Stp.of_below k)
theorem belC {w wr:À} (hb:Below w.heap.size w wr) {a:Addr} {v:Value} (h:w.cell? a=some v):wr.cell? a=some v:=(hb.cell (World.block_lt_of_cell? w a h)).trans h
def only (b:Nat):Nat→Prop:=fun k=>k=b
theorem celA {w:À} {a:Addr} {v:Value} (h:w.cell? a=some v) (o:Obj):(w.alloc o).cell? a=some v:=((belA (belR w) o).cell (World.block_lt_of_cell? w a h)).trans h
def Hs (w:À) (g:Nat) (t:TypeId) (cs:Array Value):Prop:=w.heap[g]?=some (.cells cs t (0,0))
section
variable {w w':À} {g:Nat} {t:TypeId} {cs:Array Value}
theorem Hs.lt (h:Hs w g t cs):g<w.heap.size:=(Array.getElem?_eq_some_iff.1 h).1
end
section
variable {w w':À} {g:Nat} {t:TypeId} {cs:Array Value}
theorem Hs.cell (h:Hs w g t cs) (i:Nat):w.cell? ⟨g,i,none⟩=cs[i]?:=cell_of_row w g i cs t (0,0) h
end
section
variable {w w':À} {g:Nat} {t:TypeId} {cs:Array Value}
theorem Hs.c (h:Hs w g t cs) (i:Nat) {v:Value} (hv:cs[i]?=some v:=by exact rfl):w.cell? ⟨g,i,none⟩=some v:=(Hs.cell h i).trans hv
end
section
variable {w w':À} {g:Nat} {t:TypeId} {cs:Array Value}
theorem Hs.free (h:Hs w g t cs) (i:Nat):w.frozen? ⟨g,i,none⟩=false:=by unfold Hs at h;simp[World.frozen?,h]
end
section
variable {w w':À} {g:Nat} {t:TypeId} {cs:Array Value}
theorem Hs.new (w:À) (t:TypeId) (cs:Array Value):Hs (w.alloc (.cells cs t)) w.heap.size t cs:=heap_alloc_new w _
end
section
variable {w w':À} {g:Nat} {t:TypeId} {cs:Array Value}
end
section
variable {w w':À} {g:Nat} {t:TypeId} {cs:Array Value}
theorem Hs.alloc (h:Hs w g t cs) (o:Obj):Hs (w.alloc o) g t cs:=(Below.heap_alloc w o g h.lt).trans h
end
theorem Hs.put {w:À} {g:Nat} {t:TypeId} {cs:Array Value} (h:Hs w g t cs) (i:Nat) (u:Value):Hs (w.setCell ⟨g,i,none⟩ u) g t (cs.setIfInBounds i u):=by
 unfold Hs at h ⊢
 simp[World.setCell,Array.getElem?_modify,h]
theorem belW {W0:À} {a:Addr} {v:Value} (h:W0.cell? a=some v):∀W,Below W0.heap.size W0 W→W.cell? a=some v:=fun _ hb=>belC hb h
theorem hs_stp {P:Nat→Prop} {w w':À} {g:Nat} {t:TypeId} {cs:Array Value} (h:Hs w g t cs) (hs:Stp P w w') (hP:¬P g):Hs w' g t cs:=(hs.block g h.lt hP).trans h
section
variable {Q:Nat→Prop} {w w':À}
theorem hs_al {w:À} {g:Nat} {t:TypeId} {cs:Array Value} (h:Hs w g t cs) (o:Obj):Hs (w.alloc o) g t cs:=((belA (belR w) o).block g h.lt).trans h
end
def nb (base:Nat) (v:Value) (w:À) (k:Nat):Prop:=base≤k∧k<w.heap.size∧v.ownBlock≠some k
def nw (base:Nat) (w:À) (k:Nat):Prop:=base≤k∧k<w.heap.size
def RowG {α:Type} (size:Nat) (R:List Value→α→Prop) (xs:List Value) (l:List α):Prop:=xs.length=l.length*size∧∀i (hi:i<l.length),R ((xs.drop (i*size)).take size) l[i]
section
variable {α:Type} {size:Nat} {R:À→(Nat→Prop)→List Value→α→Prop}
theorem RowG.nil (Q:List Value→α→Prop):RowG size Q [] []:=⟨by simp,fun i hi=>absurd hi (by simp)⟩
end
section
variable {α:Type} {size:Nat} {R:À→(Nat→Prop)→List Value→α→Prop}
theorem RowG.snoc {Q:List Value→α→Prop} {xs cs:List Value} {l:List α} {a:α} (h:RowG size Q xs l) (hc:cs.length=size) (ha:Q cs a):RowG size Q (xs++cs) (l++[a]):=by
 refine⟨by simp[h.1,hc];rw[Nat.add_mul,Nat.one_mul],fun i hi=>?_⟩
 by_cases hl:i<l.length
 · have hx:=h.1
   have h1:(i+1)*size≤l.length*size:=Nat.mul_le_mul_right _ hl
   rw[Nat.add_mul,Nat.one_mul] at h1
   rw[List.drop_append_of_le_length ω,List.take_append_of_le_length (by rw[List.length_drop];omega),List.getElem_append_left hl]
   exact h.2 i hl
 · have hi':i=l.length:=by simp at hi;omega
   subst hi'
   have e1:(xs++cs).drop (l.length*size)=cs:=by rw[←h.1,List.drop_append_of_le_length (Nat.le_refl _),List.drop_length,List.nil_append]
   have e2:(l++[a])[l.length]'hi=a:=by simp
   rw[e1,e2,List.take_of_length_le ω]
   exact ha
end
section
variable {α:Type} {size:Nat} {R:À→(Nat→Prop)→List Value→α→Prop}
theorem RowG.to {Q Q':List Value→α→Prop} {xs:List Value} {l:List α} (h:RowG size Q xs l) (hq:∀cs a,Q cs a→Q' cs a):RowG size Q' xs l:=⟨h.1,fun i hi=>hq _ _ (h.2 i hi)⟩
end
section
variable {α:Type} {size:Nat} {R:À→(Nat→Prop)→List Value→α→Prop}
theorem RowG.sl {w:À} {P:Nat→Prop} {Q:List Value→α→Prop} {xs:List Value} {l:List α} {base e:Nat} {v:Value} (h:RowG size Q xs l) (ho:w.ownsRow base e size v l.length xs) (hq:∀g,v.ownBlock=some g→P g):SlR w P size Q v l:=by
 have hc:=fun g hg=>ho.cells (g:=g) hg
 obtain⟨hx,hv⟩:=ho
 rcases hv with ⟨rfl,h0⟩|⟨g,cap,cur,rfl,hb,hh,hnc,hcm,hcs,hct⟩
 · have:l=[]:=List.eq_nil_of_length_eq_zero h0
   subst this
   exact SlR.nil
 · refine⟨some ⟨g,0,none⟩,cap,fun i=>(xs.drop (i*size)).take size,rfl,⟨Nat.le_trans hnc hcm,hnc⟩,fun _=>⟨g,0,rfl,hq g rfl,fun i hi=>⟨?_,fun j u hu=>?_⟩⟩,fun i hi=>h.2 i hi⟩
   · have h1:(i+1)*size≤l.length*size:=Nat.mul_le_mul_right _ hi
     rw[Nat.add_mul,Nat.one_mul] at h1
     rw[List.length_take,List.length_drop]
     omega
   · rw[List.getElem?_take] at hu
     split at hu
     · rw[List.getElem?_drop] at hu
       have:=hc g rfl _ _ hu
       have e:(⟨g,0,none⟩:Addr).add (i*size+j)=⟨g,0+i*size+j,none⟩:=by
        unfold Addr.add;split
        · rename_i h;simp at h;simp[h]
        · simp
       rw[e] at this;exact this
     · cases hu
end
section
variable {α:Type} {size:Nat} {R:À→(Nat→Prop)→List Value→α→Prop}
theorem sub_push {base:Nat} {v v':Value} {w2 w5:À} {ob:Obj} (hg:(w2.alloc ob).grownBy w5 v.ownBlock) (hvb:v'.ownBlock=v.ownBlock∨v'.ownBlock=some (w2.alloc ob).heap.size):Sub (nb base v w2) (nb base v' w5) w2 w5:=fun k hk=>by
 have h1:k<(w2.alloc ob).heap.size:=by have:=hk.2.1;simp;omega
 refine⟨⟨hk.1,Nat.lt_of_lt_of_le h1 hg.size,fun e=>?_⟩,?_⟩
 · rcases hvb with x|x
   · exact hk.2.2 (by rw[←x,e])
   · rw[e] at x;injection x with x;omega
 · exact (hg.block k h1 (fun e=>hk.2.2 e.symm)).trans ((belA (belR w2) ob).block k hk.2.1)
end
theorem size_set (w:À) (a:Addr) (v:Value):(w.setCell a v).heap.size=w.heap.size:=by simp[World.setCell]
theorem hs_put {w:À} {g t i:Nat} {cs:Array Value} {v:Value} (h:Hs w g t cs):Hs (w.setCell ⟨g,i,none⟩ v) g t (cs.setIfInBounds i v):=heap_setCell_same _ _ _ _ _ _ h
theorem hs_oth {w:À} {g g' t i:Nat} {cs:Array Value} {v:Value} (h:Hs w g t cs) (hn:g≠g'):Hs (w.setCell ⟨g',i,none⟩ v) g t cs:=(Below.heap_setCell _ _ _ _ (fun e=>hn e)).trans h
theorem stp_setO {O:Nat→Prop} {w w':À} (h:Stp O w w') {g:Nat} (hg:w.heap.size≤g) (i:Nat) (v:Value):Stp O w (w'.setCell ⟨g,i,none⟩ v):=
 ⟨h.os,h.tape,h.output,by rw[size_set];exact h.size,fun k hk hn=>(Below.heap_setCell _ _ _ _ (fun e=>by simp at e;omega)).trans (h.block k hk hn)⟩
theorem stp_row {O:Nat→Prop} {w w':À} (h:Stp O w w') {g:Nat} (hg:w.heap.size≤g) (cs:Array Value):Stp O w (w'.setRow g cs):=
 ⟨h.os,h.tape,h.output,by simp;exact h.size,fun k hk hn=>(setRow_other _ _ _ _ ω).trans (h.block k hk hn)⟩
section
variable {rb db tid:Nat} {Z:List Value} {w0:À} {q:Nat} {K:À→Prop} {cs:List Value} {l l':List UInt8} {d:Int} {W W':À}
end
theorem hs_bel {w w1:À} {g:Nat} {ty:TypeId} {cs:Array Value} (h:Hs w g ty cs) (hb:Below w.heap.size w w1):Hs w1 g ty cs:=(hb.block g h.lt).trans h
def nbq (Q:Nat→Prop) (v:Value) (w:À) (k:Nat):Prop:=Q k∧k<w.heap.size∧v.ownBlock≠some k
def nwq (Q:Nat→Prop) (w:À) (k:Nat):Prop:=Q k∧k<w.heap.size
theorem sub_nbB {Q:Nat→Prop} {v:Value} {w w':À} (h:Below w.heap.size w w'):Sub (nbq Q v w) (nbq Q v w') w w':=fun k hk =>
 ⟨⟨hk.1,Nat.lt_of_lt_of_le hk.2.1 h.size,hk.2.2⟩,h.block k hk.2.1⟩
theorem sub_pushq {Q:Nat→Prop} {v v':Value} {w2 w5:À} {ob:Obj} (hg:(w2.alloc ob).grownBy w5 v.ownBlock) (hvb:v'.ownBlock=v.ownBlock∨v'.ownBlock=some (w2.alloc ob).heap.size):Sub (nbq Q v w2) (nbq Q v' w5) w2 w5:=fun k hk=>by
 obtain⟨h1,h2⟩:=sub_push hg hvb k ⟨Nat.zero_le k,hk.2⟩
 exact⟨⟨hk.1,h1.2⟩,h2⟩
theorem bel_push {v:Value} {w w2 w5:À} {ob:Obj} (h:Below w.heap.size w w2) (hg:(w2.alloc ob).grownBy w5 v.ownBlock) (hv:∀g,v.ownBlock=some g→w.heap.size≤g):Below w.heap.size w w5:=by
 have h1:=belA h ob
 exact⟨hg.os.trans h1.os,hg.tape.trans h1.tape,hg.output.trans h1.output,Nat.le_trans h1.size hg.size,fun k hk=>(hg.block k (Nat.lt_of_lt_of_le hk h1.size) (fun e=>by have:=hv k e.symm;omega)).trans (h1.block k hk)⟩
def CpL {α β:Type} (R:À→(Nat→Prop)→List Value→β→Prop) (z ty:Nat) (g:α→β) (l:List α) (Q:Nat→Prop) (j:Nat) (v:Value) (W0 wr:À):Prop:=
 ∃xs,wr.ownsRow W0.heap.size ty z v j xs∧RowG z (R wr (nbq Q v wr)) xs ((l.take j).map g)∧Below W0.heap.size W0 wr
theorem CpL.start {α β:Type} (R:À→(Nat→Prop)→List Value→β→Prop) (z ty:Nat) (g:α→β) (l:List α) (Q:Nat→Prop) {W0:À}:Hid (CpL R z ty g l Q 0 (.slice none 0 0) W0 W0):=⟨[],⟨by simp,.inl ⟨rfl,rfl⟩⟩,RowG.nil _,belR _⟩
theorem CpL.push {α β:Type} {R:À→(Nat→Prop)→List Value→β→Prop} {z ty:Nat} {g:α→β} {l:List α} {Q:Nat→Prop} {j:Nat} {v v5:Value} {W0 wr W2 w5:À} {ob:Obj} {xs cs:List Value}
 (hto:∀{w w':À} {P P':Nat→Prop} {cs:List Value} {a:β},R w P cs a→Sub P P' w w'→R w' P' cs a)
 (hx:wr.ownsRow W0.heap.size ty z v j xs) (hrow:RowG z (R wr (nbq Q v wr)) xs ((l.take j).map g)) (hb:Below W0.heap.size W0 wr) (h2:Below wr.heap.size wr W2) (hj:j<l.length) (hcs:cs.length=z) (hr:R W2 (nbq Q v W2) cs (g l[j]))
 (hown:w5.ownsRow W0.heap.size ty z v5 (j+1) (xs++cs)) (hgrow:(W2.alloc ob).grownBy w5 v.ownBlock) (hvb:v5.ownBlock=v.ownBlock∨v5.ownBlock=some (W2.alloc ob).heap.size):Hid (CpL R z ty g l Q (j+1) v5 W0 w5):=by
 refine⟨_,hown,?_,bel_push (bel hb h2) hgrow (fun k hk=>(hx.lt k hk).1)⟩
 have e:(l.take (j+1)).map g=(l.take j).map g++[g l[j]]:=by rw[List.take_succ_eq_append_getElem hj,List.map_append];rfl
 rw[e]
 exact ((hrow.to fun cs a x=>hto x (sub_nbB h2)).snoc hcs hr).to fun cs a x=>hto x (sub_pushq hgrow hvb)
theorem CpL.sl {α β:Type} {R:À→(Nat→Prop)→List Value→β→Prop} {z ty:Nat} {g:α→β} {l:List α} {Q:Nat→Prop} {v:Value} {W0 wr:À}
 (hto:∀{w w':À} {P P':Nat→Prop} {cs:List Value} {a:β},R w P cs a→Sub P P' w w'→R w' P' cs a)
 (h:CpL R z ty g l Q l.length v W0 wr) (hb:∀k,W0.heap.size≤k→Q k):SlR wr (nwq Q wr) z (R wr (nwq Q wr)) v (l.map g):=by
 obtain⟨xs,hown,hrow,hbel⟩:=h
 rw[List.take_length] at hrow
 have hown':wr.ownsRow W0.heap.size ty z v (l.map g).length xs:=by rw[List.length_map];exact hown
 exact (hrow.to fun cs a x=>hto x (fun k hk=>⟨⟨hk.1,hk.2.1⟩,rfl⟩)).sl hown' (fun k hk=>by have:=hown.lt k hk;exact⟨hb k this.1,this.2⟩)
theorem below_dwN {w a:À} (n:Nat) (h:Below w.heap.size w a):Below w.heap.size w (a.drewN n):=⟨h.os,h.tape,h.output,h.size,h.block⟩
theorem belDr (w:À):Below w.heap.size w w.drew:=(Below.refl _ _).drew
theorem row_form {w:À} {base size:Nat} {e:TypeId} {v:Value} {n:Nat} {xs:List Value} (h:w.ownsRow base e size v n xs):∃A c,v=.slice A n c:=by
 obtain⟨_,⟨rfl,rfl⟩|⟨g,c,_,rfl,_⟩⟩:=h
 · exact⟨_,_,rfl⟩
 · exact⟨_,_,rfl⟩
theorem row_stp {P:Nat→Prop} {w w':À} {base size n:Nat} {e:TypeId} {v:Value} {xs:List Value} (h:w.ownsRow base e size v n xs) (hs:Stp P w w') (hP:∀b,v.ownBlock=some b→¬P b):w'.ownsRow base e size v n xs:=by
 refine⟨h.1,?_⟩
 rcases h.2 with hn|⟨g,cap,cur,rfl,hb,hgg,rest⟩
 · exact .inl hn
 · exact .inr ⟨g,cap,cur,rfl,hb,(hs.block g (Array.getElem?_eq_some_iff.1 hgg).1 (hP g rfl)).trans hgg,rest⟩
section
variable {α:Type} {size:Nat} {R:À→(Nat→Prop)→List Value→α→Prop}
theorem sub_nw_nb {base:Nat} {v:Value} {w w':À} (hv:∀g,v.ownBlock=some g→g<w.heap.size) (hb:base≤w.heap.size):Sub (nw w.heap.size w') (nb base v w') w' w':=fun k hk =>
 ⟨⟨Nat.le_trans hb hk.1,hk.2,fun e=>by have:=hv k e;have:=hk.1;omega⟩,rfl⟩
end
section
variable {α:Type} {size:Nat} {R:À→(Nat→Prop)→List Value→α→Prop}
theorem stp_push {O:Nat→Prop} {v:Value} {w w2 w5:À} {ob:Obj} (h:Stp O w w2) (hg:(w2.alloc ob).grownBy w5 v.ownBlock) (hv:∀g,v.ownBlock=some g→w.heap.size≤g):Stp O w w5:=by
 have h1:=stpA h ob
 exact⟨hg.os.trans h1.os,hg.tape.trans h1.tape,hg.output.trans h1.output,Nat.le_trans h1.size hg.size,fun k hk hn=>(hg.block k (Nat.lt_of_lt_of_le hk h1.size) (fun e=>by have:=hv k e.symm;omega)).trans (h1.block k hk hn)⟩
end
theorem row_al {w:À} {b:Nat} {t:TypeId} {z:Nat} {v:Value} {j:Nat} {xs:List Value} (h:w.ownsRow b t z v j xs) (o:Obj):(w.alloc o).ownsRow b t z v j xs:=row_stp h (stpA (Stp.refl (fun _=>False) w) _) (fun _ _ e=>e)
theorem sz_al {w:À} {n:Nat} (h:n≤w.heap.size) (o:Obj):n≤(w.alloc o).heap.size:=by simp;omega
inductive NdR (w:À) (P:Nat→Prop):List Value→Nd→Prop where
 | mk (k:Int) (s:Ê) (n p:Int) (kids:List Nd) (A:Option Addr) (cap:Nat) (css:Nat→List Value) (hi:i64 k∧i64 n∧i64 p) (hs:s.size≤maxLen) (hl:kids.length≤maxLen∧kids.length≤cap) (hr:RowAt w P 5 kids.length A css) (hk:∀i (h:i<kids.length),NdR w P (css i) kids[i]) :
  NdR w P [.int .i64 k,.string s,.int .i64 n,.int .i64 p,.slice A kids.length cap] (.mk k s n p kids)
theorem NdR.to {w w':À} {P P':Nat→Prop} {cs:List Value} {t:Nd} (h:NdR w P cs t) (hb:Sub P P' w w'):NdR w' P' cs t:=by
 induction h with
 | mk k s n p kids A cap css hi hs hl hr hk ih=>exact .mk k s n p kids A cap css hi hs hl (hr.to hb) ih
abbrev NdsR (w:À) (P:Nat→Prop) (v:Value) (l:List Nd):Prop:=SlR w P 5 (NdR w P) v l
theorem NdsR.to {w w':À} {P P':Nat→Prop} {v:Value} {l:List Nd} (h:NdsR w P v l) (hb:Sub P P' w w'):NdsR w' P' v l:=SlR.to' h hb fun _ _ x=>x.to hb
theorem nd_form {w:À} {P:Nat→Prop} {cs:List Value} {t:Nd} (h:NdR w P cs t):∃k s n p a A cap,cs=[.int .i64 k,.string s,.int .i64 n,.int .i64 p,.slice A a.length cap]∧t=.mk k s n p a∧(i64 k∧i64 n∧i64 p)∧s.size≤maxLen∧NdsR w P (.slice A a.length cap) a:=by
 cases h with
 | mk k s n p kids A cap css hi hs hl hr hk=>exact⟨k,s,n,p,kids,A,cap,rfl,rfl,hi,hs,A,cap,css,rfl,hl,hr,hk⟩
theorem NdR.of {w:À} {P:Nat→Prop} {k n p:Int} {s:Ê} {a:List Nd} {v:Value} (hi:i64 k∧i64 n∧i64 p) (hs:s.size≤maxLen) (h:NdsR w P v a):NdR w P [.int .i64 k,.string s,.int .i64 n,.int .i64 p,v] (.mk k s n p a):=by
 obtain⟨A,cap,css,rfl,hl,hr,hk⟩:=h
 exact .mk k s n p a A cap css hi hs hl hr hk
def TkR (cs:List Value) (t:Tk):Prop:=cs=[.int .i64 t.kind,.string t.text,.int .i64 t.n,.int .i64 t.pos]∧i64 t.kind∧(0≤t.n∧t.n≤9007199254740992)∧i64 t.pos∧t.text.size≤maxLen
end Go.Proofs.YtbmknjfgjphfbaaGreatDoor
namespace Go.Proofs.YtbmknjfgjphfbaaGreatDoor
end Go.Proofs.YtbmknjfgjphfbaaGreatDoor
