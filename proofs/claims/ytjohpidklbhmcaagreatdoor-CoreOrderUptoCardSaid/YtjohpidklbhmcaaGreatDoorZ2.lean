/- Core -/
import Derived.Test.YtjohpidklbhmcaaGreatDoorRows
import Derived.WalkKit
import Derived.WalkSpells
import Derived.WalkLawsBesides
import Derived.Deep.DeepCutAuto
import Derived.Deep.QuietTactic
import Derived.BigQuiet
import Derived.StillTailTactics
import Derived.Shelf.Small.Strs
import Derived.Test.YtjohpidklbhmcaaGreatDoorHd
namespace Go.Proofs.YtjohpidklbhmcaaGreatDoor
set_option linter.all false
open Proofs.Tryz
namespace ShaT
set_option maxRecDepth 100000
set_option maxHeartbeats 2000000
open Go.RowKit
def stp (c:Nat):Nat:=if c%2=1 then (c/2)^^^2197175160 else c/2
def four (j:Nat):Nat:=stp (stp (stp (stp j)))
def bytes_lt (l:List UInt8):∀b∈l.map UInt8.toNat,b<256:=by
 intro b a;obtain⟨x,_,rfl⟩:=List.mem_map.1 a;exact x.toNat_lt
def u8s (l:List Nat):Array Value:=(l.map λ(n:Nat)=>Value.int .u8 n).toArray
def z32:Array Value:=u8s (List.replicate 32 0)
def z32_lit:#[Value.int IntKind.u8 0,Value.int IntKind.u8 0,Value.int IntKind.u8 0,Value.int IntKind.u8 0,Value.int IntKind.u8 0,Value.int IntKind.u8 0,Value.int IntKind.u8 0,Value.int IntKind.u8 0,Value.int IntKind.u8 0,Value.int IntKind.u8 0,Value.int IntKind.u8 0,Value.int IntKind.u8 0,Value.int IntKind.u8 0,Value.int IntKind.u8 0,Value.int IntKind.u8 0,Value.int IntKind.u8 0,Value.int IntKind.u8 0,Value.int IntKind.u8 0,Value.int IntKind.u8 0,Value.int IntKind.u8 0,Value.int IntKind.u8 0,Value.int IntKind.u8 0,Value.int IntKind.u8 0,Value.int IntKind.u8 0,Value.int IntKind.u8 0,Value.int IntKind.u8 0,Value.int IntKind.u8 0,Value.int IntKind.u8 0,Value.int IntKind.u8 0,Value.int IntKind.u8 0,Value.int IntKind.u8 0,Value.int IntKind.u8 0]=z32:=rfl
def info23:(prog.info? 34).map (·.size)=some 32:=by kernel_rfl
def u8s_size (l:List Nat):(u8s l).size=l:=by simp[u8s]
def u8s_one (l:List Nat):(u8s l).all (·.oneCell')=true:=by simp[u8s,Value.oneCell']
def hv (c:Nat):Nat:=if 48<=c/\c<=57 then c-48 else if 97<=c/\c<=102 then c-87 else 16
def nats (s:Ê):List Nat:=s.data.toList.map UInt8.toNat
def wC (s:Ê) (k:Nat) (h:k<s.size):(nats s).getD k 0=s[k].toNat:=by
 have a:k<s.data.toList:=by simpa using h
 simp only[nats,List.getD,List.getElem?_map,ξ a,Option.map_some,Option.getD_some];rfl
def bv (s:Ê):(nats s).length=s.size:=by simp[nats]
def hx (n:Nat):Nat:=if n<10 then 48+n else 87+n
def ho (d:List Nat) (k:Nat):List Nat:=(List.range 64).map λj=>if j<2*k then hx (if j%2=0 then d.getD (j/2) 0/16 else d.getD (j/2) 0%16) else 0
def nz (l:List Nat):Ê:=⟨(l.map UInt8.ofNat).toArray⟩
def tZ (l:List Nat):∀s:Ê,(l.map λn:Nat=>(n:Int)).foldl (λr n=>r.push (UInt8.ofNat n.toNat)) s=⟨s.data++(l.map UInt8.ofNat).toArray⟩:=by
 induction l with
 | nil=>intro s;simp
 | cons x l ih=>intro s;rw[List.map_cons,List.foldl_cons,ih];simp[ByteArray.push]
def pF (w:À) (g:Nat) (l:List Nat) (t:TypeId) (fr:Nat×Nat) (hg:w.heap[g]?=some (.cells (u8s l) t fr)) (off len cap:Nat) (h:off+len<=l) :
 (convert 78 9 (.slice (some ⟨g,off,none⟩) len cap)).run prog w=.ok (.string (nz ((l.drop off).take len))) w:=by
 rw[run_convert_bytes_string w 78 9 5 _ _ _ underlying78 underlying5 underlying9];have c:((l.drop off).take len).length=len:=by simp;omega
 have b:=run_loadCells_list (P:=prog) w ⟨g,off,none⟩ ((((l.drop off).take len).map λn:Nat=>(n:Int)).map (Value.int .u8)) (λj v hv=>by
  have a:(⟨g,off,none⟩:Addr).add j=⟨g,off+j,none⟩:=by unfold Addr.add;split<;>simp_all
  rw[a,cell_of_row w g _ _ t fr hg];simp only[u8s,List.getElem?_toArray,List.getElem?_map] at hv ⊢;rw[List.getElem?_take] at hv;split at hv
  ·rw[List.getElem?_drop] at hv;rw[<-hv,Option.map_map];rfl
  simp at hv)
 rw[List.length_map,List.length_map,c] at b;rw[run_bytesToString w _ len cap _ b,tZ];simp[nz]
def u8s_at (l:List Nat) (k:Nat) (h:k<l):(u8s l)[k]?=some (.int .u8 (l.getD k 0)):=by simp[u8s,h,List.getD]
def rr (n:Nat) (x:Int):Int:=bits .or .u32 (x*2 ^ (32-n)%4294967296) (x/2 ^ n)
section
variable (x:Int) (w:À)
include x w
theorem rot7:Calls prog 145 #[.int .u32 x,.int .i64 (-7)] w λe w'=>e=.returned (.int .u32 (rr 7 x))/\w=w':=by
 have a:bits .and .u64 (IntKind.u64.wrap (-7)) 31=25:=by decide +kernel
 go_in;go_wp2;go_ret;exact⟨rfl,rfl⟩
theorem rot18:Calls prog 145 #[.int .u32 x,.int .i64 (-18)] w λe w'=>e=.returned (.int .u32 (rr 18 x))/\w=w':=by
 have a:bits .and .u64 (IntKind.u64.wrap (-18)) 31=14:=by decide +kernel
 go_in;go_wp2;go_ret;exact⟨rfl,rfl⟩
theorem rot17:Calls prog 145 #[.int .u32 x,.int .i64 (-17)] w λe w'=>e=.returned (.int .u32 (rr 17 x))/\w=w':=by
 have a:bits .and .u64 (IntKind.u64.wrap (-17)) 31=15:=by decide +kernel
 go_in;go_wp2;go_ret;exact⟨rfl,rfl⟩
theorem rot19:Calls prog 145 #[.int .u32 x,.int .i64 (-19)] w λe w'=>e=.returned (.int .u32 (rr 19 x))/\w=w':=by
 have a:bits .and .u64 (IntKind.u64.wrap (-19)) 31=13:=by decide +kernel
 go_in;go_wp2;go_ret;exact⟨rfl,rfl⟩
theorem rot6:Calls prog 145 #[.int .u32 x,.int .i64 (-6)] w λe w'=>e=.returned (.int .u32 (rr 6 x))/\w=w':=by
 have a:bits .and .u64 (IntKind.u64.wrap (-6)) 31=26:=by decide +kernel
 go_in;go_wp2;go_ret;exact⟨rfl,rfl⟩
theorem rot11:Calls prog 145 #[.int .u32 x,.int .i64 (-11)] w λe w'=>e=.returned (.int .u32 (rr 11 x))/\w=w':=by
 have a:bits .and .u64 (IntKind.u64.wrap (-11)) 31=21:=by decide +kernel
 go_in;go_wp2;go_ret;exact⟨rfl,rfl⟩
theorem rot25:Calls prog 145 #[.int .u32 x,.int .i64 (-25)] w λe w'=>e=.returned (.int .u32 (rr 25 x))/\w=w':=by
 have a:bits .and .u64 (IntKind.u64.wrap (-25)) 31=7:=by decide +kernel
 go_in;go_wp2;go_ret;exact⟨rfl,rfl⟩
theorem rot2:Calls prog 145 #[.int .u32 x,.int .i64 (-2)] w λe w'=>e=.returned (.int .u32 (rr 2 x))/\w=w':=by
 have a:bits .and .u64 (IntKind.u64.wrap (-2)) 31=30:=by decide +kernel
 go_in;go_wp2;go_ret;exact⟨rfl,rfl⟩
theorem rot13:Calls prog 145 #[.int .u32 x,.int .i64 (-13)] w λe w'=>e=.returned (.int .u32 (rr 13 x))/\w=w':=by
 have a:bits .and .u64 (IntKind.u64.wrap (-13)) 31=19:=by decide +kernel
 go_in;go_wp2;go_ret;exact⟨rfl,rfl⟩
theorem rot22:Calls prog 145 #[.int .u32 x,.int .i64 (-22)] w λe w'=>e=.returned (.int .u32 (rr 22 x))/\w=w':=by
 have a:bits .and .u64 (IntKind.u64.wrap (-22)) 31=10:=by decide +kernel
 go_in;go_wp2;go_ret;exact⟨rfl,rfl⟩
end
def i32s (l:List Int):Array Value:=(l.map (Value.int .u32)).toArray
def bs (l:List Int):(i32s l).size=l:=by simp[i32s]
def jc (l:List Int):(i32s l).all (·.oneCell')=true:=by simp[i32s,Value.oneCell']
def rj (l:List Int) (k:Nat) (h:k<l):(i32s l)[k]?=some (.int .u32 (l.getD k 0)):=by simp[i32s,h,List.getD]
def zw (l:List Int):List Int:=l++List.replicate (64-l) 0
def zw_lit:#[Value.int .u32 0,.int .u32 0,.int .u32 0,.int .u32 0,.int .u32 0,.int .u32 0,.int .u32 0,.int .u32 0,.int .u32 0,.int .u32 0,.int .u32 0,.int .u32 0,.int .u32 0,.int .u32 0,.int .u32 0,.int .u32 0,.int .u32 0,.int .u32 0,.int .u32 0,.int .u32 0,.int .u32 0,.int .u32 0,.int .u32 0,.int .u32 0,.int .u32 0,.int .u32 0,.int .u32 0,.int .u32 0,.int .u32 0,.int .u32 0,.int .u32 0,.int .u32 0,.int .u32 0,.int .u32 0,.int .u32 0,.int .u32 0,.int .u32 0,.int .u32 0,.int .u32 0,.int .u32 0,.int .u32 0,.int .u32 0,.int .u32 0,.int .u32 0,.int .u32 0,.int .u32 0,.int .u32 0,.int .u32 0,.int .u32 0,.int .u32 0,.int .u32 0,.int .u32 0,.int .u32 0,.int .u32 0,.int .u32 0,.int .u32 0,.int .u32 0,.int .u32 0,.int .u32 0,.int .u32 0,.int .u32 0,.int .u32 0,.int .u32 0,.int .u32 0]=i32s (zw []):=rfl
def un:#[Value.int IntKind.u32 0,Value.int IntKind.u32 0,Value.int IntKind.u32 0,Value.int IntKind.u32 0,Value.int IntKind.u32 0,Value.int IntKind.u32 0,Value.int IntKind.u32 0,Value.int IntKind.u32 0]=i32s (List.replicate 8 0):=rfl
def hC:(prog.info? 181).map (·.size)=some 8:=by kernel_rfl
def word (s:List Nat) (i:Nat):Int:=bits .or .u32 (bits .or .u32 (bits .or .u32 ((s.getD (4*i) 0:Int)%4294967296*16777216%4294967296) ((s.getD (4*i+1) 0:Int)%4294967296*65536%4294967296)) ((s.getD (4*i+2) 0:Int)%4294967296*256%4294967296)) ((s.getD (4*i+3) 0:Int)%4294967296)
def sig0 (x:Int):Int:=bits .xor .u32 (bits .xor .u32 (rr 7 x) (rr 18 x)) (x/8)
def sig1 (y:Int):Int:=bits .xor .u32 (bits .xor .u32 (rr 17 y) (rr 19 y)) (y/1024)
def next (l:List Int) (k:Nat):Int:=(l.getD (k-16) 0+sig0 (l.getD (k-15) 0)+l.getD (k-7) 0+sig1 (l.getD (k-2) 0))%4294967296
def wl (s:List Nat):Nat->List Int
 | 0=>[]
 | k+1=>wl s k++[if k<16 then word s k else next (wl s k) k]
def xI (s:List Nat) (k:Nat):(wl s k).length=k:=by induction k with|zero=>rfl|succ k ih=>simp[wl,ih]
def vy (l:List Int) (h:l.length<=64):(zw l).length=64:=by simp[zw];omega
def zw_cell (l:List Int) (k:Nat) (h:k<64) (hl:l.length<=64):∃v,(i32s (zw l))[k]?=some v:=by
 have:k<(i32s (zw l)).size:=by rw[bs,vy l hl];omega
 exact⟨_,Array.getElem?_eq_getElem this⟩
def zw_at (l:List Int) (k:Nat) (h:k<l):(i32s (zw l))[k]?=some (.int .u32 (l.getD k 0)):=by
 rw[rj _ _ (by simp[zw];omega)];congr 2;simp only[zw,List.getD,List.getElem?_append_left h]
def zw_set (l:List Int) (h:l.length<64) (x:Int):(i32s (zw l)).setIfInBounds l (.int .u32 x)=i32s (zw (l++[x])):=by
 have e:64-l=(64-(l++[x]).length)+1:=by simp;omega
 simp only[i32s,zw];rw[e,List.replicate_succ];simp
def rnd (v:List Int) (kc wi:Int):List Int:=
 match v with
 | [v0,v1,v2,v3,v4,v5,v6,v7] =>
  let s1:=bits .xor .u32 (bits .xor .u32 (rr 6 v4) (rr 11 v4)) (rr 25 v4)
  let ch:=bits .xor .u32 (bits .and .u32 v4 v5) (bits .and .u32 (bits .xor .u32 IntKind.u32.max v4) v6)
  let t1:=v7+s1+ch+kc+wi
  let s0:=bits .xor .u32 (bits .xor .u32 (rr 2 v0) (rr 13 v0)) (rr 22 v0)
  let mj:=bits .xor .u32 (bits .xor .u32 (bits .and .u32 v0 v1) (bits .and .u32 v0 v2)) (bits .and .u32 v1 v2)
  [(t1+s0+mj)%4294967296,v0,v1,v2,(v3+t1)%4294967296,v4,v5,v6]
 | _=>[]
def kcs:List Int:=[1116352408,1899447441,3049323471,3921009573,961987163,1508970993,2453635748,2870763221,3624381080,310598401,607225278,1426881987,1925078388,2162078206,2614888103,3248222580,3835390401,4022224774,264347078,604807628,770255983,1249150122,1555081692,1996064986,2554220882,2821834349,2952996808,3210313671,3336571891,3584528711,113926993,338241895,666307205,773529912,1294757372,1396182291,1695183700,1986661051,2177026350,2456956037,2730485921,2820302411,3259730800,3345764771,3516065817,3600352804,4094571909,275423344,430227734,506948616,659060556,883997877,958139571,1322822218,1537002063,1747873779,1955562222,2024104815,2227730452,2361852424,2428436474,2756734187,3204031479,3329325298]
def kcs_length:kcs.length=64:=rfl
def vs (h w:List Int):Nat->List Int
 | 0=>h
 | k+1=>rnd (vs h w k) (kcs.getD k 0) (w.getD k 0)
def heap3 (w:À) (A B C:Obj):(((w.alloc A).alloc B).alloc C).heap[w.heap.size]?=some A/\(((w.alloc A).alloc B).alloc C).heap[w.heap.size+1]?=some B/\(((w.alloc A).alloc B).alloc C).heap[w.heap.size+1+1]?=some C/\(((w.alloc A).alloc B).alloc C).heap.size=w+3:=by
 have e:(((w.alloc A).alloc B).alloc C).heap=((w.heap.push A).push B).push C:=rfl;rw[e];refine⟨?_,?_,?_,by simp⟩
 ·rw[Array.getElem?_push,if_neg Φ,Array.getElem?_push,if_neg Θ,Array.getElem?_push,if_pos rfl]
 ·rw[Array.getElem?_push,if_neg Θ,Array.getElem?_push,if_pos Θ]
 rw[Array.getElem?_push,if_pos Θ]
structure St (w wr:À) (h l:List Int):Prop where
 a:wr.heap[w.heap.size]?=some (.cells (i32s h) 181)
 b:wr.heap[w.heap.size+1]?=some (.cells (i32s (List.replicate 8 0)) 181)
 c:wr.heap[w.heap.size+1+1]?=some (.cells (i32s (zw l)) 212)
 size:wr.heap.size=w+3
 below:Below w w wr
def St.start (w:À) (h:List Int):St w (((w.alloc (.cells (i32s h) 181)).alloc (.cells (i32s (List.replicate 8 0)) 181)).alloc (.cells (i32s (zw [])) 212)) h []:=by
 have a:=heap3 w (.cells (i32s h) 181) (.cells (i32s (List.replicate 8 0)) 181) (.cells (i32s (zw [])) 212);exact⟨a.1,a.2.1,a.2.2.1,a.2.2.2,(((Below.refl _ _).alloc (υ _) _).alloc Θ _).alloc Φ _⟩
section
variable {wr:À} {h l:List Int}
def St.drew {w:À} (s:St w wr h l):St w wr.drew h l:=⟨s.a,s.b,s.c,s.size,s.below.drew⟩
def St.drewN {w:À} (s:St w wr h l) (n:Nat):St w (wr.drewN n) h l:=⟨s.a,s.b,s.c,s.size,below_drewN s.below n⟩
def St.set {w:À} (s:St w wr h l) (k:Nat) (hk:l=k) (h64:k<64) (x:Int):St w (wr.setCell ⟨w+1+1,k,none⟩ (.int .u32 x)) h (l++[x]):=by
 subst hk;refine⟨?_,?_,?_,?_,s.below.setCell (by show w.heap.size<=w+1+1;omega) _⟩
 ·rw[heap_setCell_other _ _ _ _ (by show w.heap.size≠w+1+1;omega)];exact s.a
 ·rw[heap_setCell_other _ _ _ _ (by show w.heap.size+1≠w+1+1;omega)];exact s.b
 ·rw[heap_setCell_same _ _ _ _ _ _ s.c,zw_set l h64]
 rw[<-s.size];simp[World.setCell]
def St.get {w:À} (s:St w wr h l) (k:Nat) (hk:k<l):wr.cell? ⟨w+1+1,k,none⟩=some (.int .u32 (l.getD k 0)):=
 (cell_of_row wr _ k _ _ _ s.c).trans (zw_at l k hk)
def St.room {w:À} (s:St w wr h l) (k:Nat) (hk:k<64) (hl:l.length<=64):∃v,wr.cell? ⟨w+1+1,k,none⟩=some v:=by
 obtain⟨v,hv⟩:=zw_cell l k hk hl;exact⟨v,(cell_of_row wr _ k _ _ _ s.c).trans hv⟩
def St.free {w:À} (s:St w wr h l) (k:Nat):wr.frozen? ⟨w+1+1,k,none⟩=false:=frozen_of_row wr _ k _ _ s.c
structure St4 (w wr:À) (h l v:List Int):Prop where
 a:wr.heap[w.heap.size]?=some (.cells (i32s h) 181)
 b:wr.heap[w.heap.size+1]?=some (.cells (i32s (List.replicate 8 0)) 181)
 c:wr.heap[w.heap.size+1+1]?=some (.cells (i32s (zw l)) 212)
 d:wr.heap[w.heap.size+3]?=some (.cells (i32s v) 181)
 below:Below w w wr
def St.four {w:À} (s:St w wr h l) (z v:List Int) (_hz:z.length=v):St4 w ((wr.alloc (.cells (i32s z) 181)).setRow (w+3) (i32s v)) h l v:=by
 have e:=s.size;refine⟨?_,?_,?_,?_,?_⟩
 ·rw[setRow_other _ _ _ _ ω,heap_alloc_old _ _ ω];exact s.a
 ·rw[setRow_other _ _ _ _ ω,heap_alloc_old _ _ ω];exact s.b
 ·rw[setRow_other _ _ _ _ ω,heap_alloc_old _ _ ω];exact s.c
 ·rw[<-e];exact setRow_heap _ _ _ _ _ _ (heap_alloc_new wr _)
 exact (s.below.alloc ω _).trans ⟨rfl,rfl,rfl,by simp,λk hk=>setRow_other _ _ _ _ ω⟩
variable {v:List Int}
def St4.drew {w:À} (s:St4 w wr h l v):St4 w wr.drew h l v:=⟨s.a,s.b,s.c,s.d,s.below.drew⟩
def St4.drewN {w:À} (s:St4 w wr h l v) (n:Nat):St4 w (wr.drewN n) h l v:=⟨s.a,s.b,s.c,s.d,below_drewN s.below n⟩
def St4.get {w:À} (s:St4 w wr h l v) (k:Nat) (hk:k<l):wr.cell? ⟨w+1+1,k,none⟩=some (.int .u32 (l.getD k 0)):=
 (cell_of_row wr _ k _ _ _ s.c).trans (zw_at l k hk)
def St4.gv {w:À} (s:St4 w wr h l v) (k:Nat) (hk:k<v):wr.cell? ⟨w+3,k,none⟩=some (.int .u32 (v.getD k 0)):=
 (cell_of_row wr _ k _ _ _ s.d).trans (rj v k hk)
def St4.setv {w:À} (s:St4 w wr h l v) (u:List Int):St4 w (wr.setRow (w+3) (i32s u)) h l u:=by
 refine⟨?_,?_,?_,setRow_heap _ _ _ _ _ _ s.d,s.below.trans ⟨rfl,rfl,rfl,by simp,λk hk=>setRow_other _ _ _ _ ω⟩⟩
 ·rw[setRow_other _ _ _ _ ω];exact s.a
 ·rw[setRow_other _ _ _ _ ω];exact s.b
 rw[setRow_other _ _ _ _ ω];exact s.c
def Rounds (w:À):Prop:=0<w.heap.size/\∀j,j<64->w.cell? ⟨0,j,none⟩=some (.int .u32 (kcs.getD j 0))
def Rounds.mono {w:À} (h:Rounds w) (b:Below w w wr):Rounds wr:=⟨ρ h.1 b.size,λj hj=>(b.cell (p:=⟨0,j,none⟩) h.1).trans (h.2 j hj)⟩
def tR (v:List Int) (h:v.length=8) (a b:Int):(rnd v a b).length=8:=by
 match v,h with
 | [_,_,_,_,_,_,_,_],_=>rfl
def mH (h w:List Int) (h8:h.length=8) (k:Nat):(vs h w k).length=8:=by
 induction k with
 | zero=>exact h8
 | succ k ih=>exact tR _ ih _ _
def eight (v:List Int) (h:v.length=8):∃v0 v1 v2 v3 v4 v5 v6 v7,v=[v0,v1,v2,v3,v4,v5,v6,v7]:=by
 match v,h with
 | [v0,v1,v2,v3,v4,v5,v6,v7],_=>exact⟨v0,v1,v2,v3,v4,v5,v6,v7,rfl⟩
def eK (h v:List Int):List Int:=List.zipWith (λa b=>(a+b)%4294967296) h v
def js (h v:List Int) (k:Nat):List Int:=(eK h v).take k++h.drop k
def qI (h v:List Int) (hl:h.length=8) (vl:v.length=8) (k:Nat):(js h v k).length=8:=by simp[js,eK,hl,vl];omega
def tU (h v:List Int):js h v 0=h:=by simp[js]
end
section
variable (h v:List Int) (hl:h.length=8) (vl:v.length=8)
include h v hl vl
theorem wE:js h v 8=eK h v:=by
 rw[js,List.take_of_length_le (by simp[eK,hl,vl]),List.drop_of_length_le ω,List.append_nil]
theorem mixTo_at (k:Nat) (hk:k<8):(js h v k).getD k 0=h.getD k 0:=by
 have e:((eK h v).take k).length=k:=by simp[eK,hl,vl];omega
 simp only[js,List.getD];rw[List.getElem?_append_right ω,e,Nat.sub_self,List.getElem?_drop];rfl
theorem wD (k:Nat) (hk:k<8):(i32s (js h v k)).setIfInBounds k (.int .u32 ((h.getD k 0+v.getD k 0)%4294967296))=i32s (js h v (k+1)):=by
 have e:((eK h v).take k).length=k:=by simp[eK,hl,vl];omega
 have d:k<(eK h v).length:=by simp[eK,hl,vl];omega
 have i:h.drop k=h.getD k 0::h.drop (k+1):=by
  rw[List.drop_eq_getElem_cons ω];simp[List.getD,show k<h.length by omega]
 have g:(eK h v).take (k+1)=(eK h v).take k++[(h.getD k 0+v.getD k 0)%4294967296]:=by
  rw[List.take_succ_eq_append_getElem d];simp[eK,List.getD,show k<h.length by omega,show k<v.length by omega]
 have c:∀(a b:List Int) (x y:Int),a.length=k->(i32s (a++x::b)).setIfInBounds k (.int .u32 y)=i32s (a++[y]++b):=by
  intro a b x y f;subst f;simp[i32s]
 rw[js,js,i,g];exact c _ _ _ _ e
end
section
variable {wr:À} {h l v:List Int}
def St4.gh {w:À} (s:St4 w wr h l v) (k:Nat) (hk:k<h):wr.cell? ⟨w,k,none⟩=some (.int .u32 (h.getD k 0)):=
 (cell_of_row wr _ k _ _ _ s.a).trans (rj h k hk)
def St4.fh {w:À} (s:St4 w wr h l v) (k:Nat):wr.frozen? ⟨w,k,none⟩=false:=frozen_of_row wr _ k _ _ s.a
def St4.seth {w:À} {u:List Int} (s:St4 w wr h l v) (k:Nat) (x:Value) (hu:(i32s h).setIfInBounds k x=i32s u):St4 w (wr.setCell ⟨w,k,none⟩ x) u l v:=by
 refine⟨?_,?_,?_,?_,s.below.setCell (υ _) _⟩
 ·rw[heap_setCell_same _ _ _ _ _ _ s.a,hu]
 ·rw[heap_setCell_other _ _ _ _ (by show w.heap.size+1≠w;omega)];exact s.b
 ·rw[heap_setCell_other _ _ _ _ (by show w.heap.size+1+1≠w;omega)];exact s.c
 rw[heap_setCell_other _ _ _ _ (by show w.heap.size+3≠w;omega)];exact s.d
def St4.o {w:À} (s:St4 w wr h l v) (u:List Int):(wr.setRow (w+1) (i32s u)).heap[w.heap.size+1]?=some (.cells (i32s u) 181)/\Below w w (wr.setRow (w+1) (i32s u)):=
 ⟨setRow_heap _ _ _ _ _ _ s.b,s.below.trans ⟨rfl,rfl,rfl,by simp,λk hk=>setRow_other _ _ _ _ ω⟩⟩
def dL (h:List Int) (s:List Nat):List Int:=eK h (vs h (wl s 64) 64)
def dW (h:List Int) (s:List Nat) (h8:h.length=8):(dL h s).length=8:=by simp[dL,eK,h8,mH h _ h8]
def St.new {w:À} (s:St w wr h l) {o:Obj}:(wr.alloc o).heap[w.heap.size+1+1+1]?=some o:=by
 have:=heap_alloc_new wr o;rw[s.size] at this;exact this
def wl_word (s:List Nat) (k:Nat) (h:k<16):wl s (k+1)=wl s k++[word s k]:=by rw[wl,if_pos h]
def wl_next (s:List Nat) (k:Nat) (h:¬k<16):wl s (k+1)=wl s k++[next (wl s k) k]:=by rw[wl,if_neg h]
def kr (s:Ê) (k:Nat) (h:k<s.size):((nats s).getD k 0:Int)=(s[k].toNat:Int):=by rw[wC s k h]
def lr (h:List Int) (s:Ê) (h8:h.length=8) (hs:s.size=64) (w:À) (hR:Rounds w) :
 Calls prog 107 #[i32s h,s] w λe w'=>e=.returned (.agg (i32s (dL h (nats s))))/\Below w w w':=by
 obtain⟨Hs,g⟩:=zd2 hs h8;have l1:s.size<=64:=ω;have l2:64<=s.size:=ω;clear hs h8;go_in;go_upto_region 2 with fail;rw[zw_lit,un];go_wp2_with fail;go_loopw [22] (λi wr=>∃k:Nat,k<=16/\i=.int .i64 k/\St w wr h (wl (nats s) k)) (λi _=>16-(intOf i).toNat)
 case atStart=>exact⟨0,ω,rfl,St.start w h⟩
 case round =>
  obtain⟨k,l,rfl,c⟩:=hrel;by_cases hlt:k<16
  ·
   have a0:(0:Int)<=4*(k:Int):=ω;have a1:(0:Int)<=4*(k:Int)+1:=ω;have a2:(0:Int)<=4*(k:Int)+2:=ω;have a3:(0:Int)<=4*(k:Int)+3:=ω;have b0:4*(k:Int)<s.size:=ω;have b1:4*(k:Int)+1<s.size:=ω;have b2:4*(k:Int)+2<s.size:=ω;have b3:4*(k:Int)+3<s.size:=ω;have D:(k:Int)<16:=ω;have B:(k:Int)<64:=ω;obtain⟨n0,n1,n2,n3⟩:=zd4 (kr s (4*k) ω) (kr s (4*k+1) ω) (kr s (4*k+2) ω) (kr s (4*k+3) ω);have e0:=IntWalk.i64_in (4*(k:Int)) ω;have e1:=IntWalk.i64_in (4*(k:Int)+1) ω;have e2:=IntWalk.i64_in (4*(k:Int)+2) ω;have e3:=IntWalk.i64_in (4*(k:Int)+3) ω;have f0:(4*(k:Int)).toNat=4*k:=ω;have f1:(4*(k:Int)+1).toNat=4*k+1:=ω;have f2:(4*(k:Int)+2).toNat=4*k+2:=ω;have f3:(4*(k:Int)+3).toNat=4*k+3:=ω;go_wp2_with fail;go_still_tail 31,Δ
   change wpList _ _ _ _ _ wr.drew;generalize s[4*k].toNat=z at *;generalize s[4*k+1].toNat=u at *;generalize s[4*k+2].toNat=t at *;generalize s[4*k+3].toNat=r at *;clear a0 a1 a2 a3 b0 b1 b2 b3 e0 e1 e2 e3 f0 f1 f2 f3 D B;have f:=c.drew;generalize wr.drew=w2 at *;obtain⟨v,hc⟩:=f.room k ω (by rw[xI];omega);have hf:=f.free k;go_wp2_with fail;go_roundw
   case rel =>
    refine⟨k+1,ω,by go_num,?_⟩;rw[wl_word _ _ hlt];have:=f.set k (xI _ _) ω (word (nats s) k);rw[word,n0.o,n1.o,n2.o,n3.o] at this ⊢;exact this
   case measure=>simp[intOf];omega
  obtain rfl:k=16:=ω;clear hlt l;rw[show ((16:Nat):Int)=16 from rfl];go_wp2_with fail;go_loopw [7] (λi wr=>∃k:Nat,16<=k/\k<=64/\i=.int .i64 k/\St w wr h (wl (nats s) k)) (λi _=>64-(intOf i).toNat)
  case atStart=>exact⟨16,ω,ω,rfl,c⟩
  case round =>
   clear c;obtain⟨k,l,ah,rfl,c⟩:=hrel;by_cases hlt:k<64
   ·have q:decide ((k:Int)<64)=true:=by simp;omega
    have N:=xI (nats s) k;have n:=c.get (k-16) ω;have aj:=c.get (k-15) ω;have E:=c.get (k-7) ω;have g2:=c.get (k-2) ω;have j:=η (wl_next (nats s) k ω);rw[next] at j;generalize hx16:(wl (nats s) k).getD (k-16) 0=x16 at *;have ak:=η hx16;clear hx16;generalize (wl (nats s) k).getD (k-15) 0=x15 at *;generalize hx7:(wl (nats s) k).getD (k-7) 0=x7 at *;have X7:=η hx7;clear hx7;generalize (wl (nats s) k).getD (k-2) 0=x2 at *;clear N;go_wp2_with fail;have j1:(k:Int)-15<64:=ω;have Y:(k:Int)-2<64:=ω;have X:=IntWalk.i64_in ((k:Int)-15) ω;have W:=IntWalk.i64_in ((k:Int)-2) ω;have U:((k:Int)-15).toNat=k-15:=ω;have T:((k:Int)-2).toNat=k-2:=ω;go_quiet (fail);clear j1 Y X W U T;go_wp2_with (first|(go_at_call 145;(with_reducible refine (rot7 _ _).mono ?_);rintro e w' ⟨rfl,rfl⟩)|(go_at_call 145;(with_reducible refine (rot18 _ _).mono ?_);rintro e w' ⟨rfl,rfl⟩)|(go_at_call 145;(with_reducible refine (rot17 _ _).mono ?_);rintro e w' ⟨rfl,rfl⟩)|(go_at_call 145;(with_reducible refine (rot19 _ _).mono ?_);rintro e w' ⟨rfl,rfl⟩));have M:=c.drewN nq;clear c n aj E g2;generalize wr.drewN nq=w1 at *;have j1:(k:Int)-16<64:=ω;have Y:(k:Int)-7<64:=ω;have X:=IntWalk.i64_in ((k:Int)-16) ω;have W:=IntWalk.i64_in ((k:Int)-7) ω;have U:((k:Int)-16).toNat=k-16:=ω;have T:((k:Int)-7).toNat=k-7:=ω;have j8:(0:Int)<=(k:Int):=ω;have j9:(k:Int)<64:=ω
    have i0:(16:Int)<=(k:Int):=ω;have i1:(7:Int)<=(k:Int):=ω;have y0:k-16<(wl (nats s) k).length:=by rw[xI];omega
    have y1:k-7<(wl (nats s) k).length:=by rw[xI];omega
    refine wp_region_still_tail 15 Δ Δ ?_;have f:=M.drew;change wpStill _ _ w1.drew (λa'=>wpList _ _ _ _ a' w1.drew) _ _;generalize w1.drew=w2 at *;clear M;have n:=f.get (k-16) y0;have E:=f.get (k-7) y1;rw[ak.o] at n;rw[X7.o] at E;clear y0 y1;simp only[List.take_succ_cons,List.take_zero,List.drop_succ_cons,List.drop_zero];repeat still_step
    refine wpStill_nil ?_;clear j1 Y X W U T j8 j9 n E i0 i1;obtain⟨v,hc⟩:=f.room k ω (by rw[xI];omega);have hf:=f.free k;go_wp2_with fail;go_roundw
    case rel =>
     refine⟨k+1,ω,ω,by go_num,?_⟩;rw[j.o];exact f.set k (xI _ _) ω _
    case measure=>simp[intOf];omega
   obtain rfl:k=64:=ω;clear hlt l ah;rw[show ((64:Nat):Int)=64 from rfl];have gs:=c.size;go_wp2_with (first|(refine wpList_load_row rfl 181 _ rfl w rfl 181 _ _ _ c.a underlying181 rfl (by rw[bs,g.o];exact hC) ?_)|(refine wpList_store_row rfl 181 _ _ rfl (w+1+1+1) (i32s h) rfl rfl 181 (i32s (List.replicate 8 0)) (St.new c) (by rw[bs,g.o];exact hC) (by rw[bs,bs,g.o];rfl) (jc _) ?_));rw[un];have J:=c.four (List.replicate 8 0) h (by rw[g.o];rfl);clear gs c;generalize ((wr.alloc (Obj.cells (i32s (List.replicate 8 0)) 181)).setRow (w+3) (i32s h))=w4 at *;go_loopw [101] (λi wr=>∃k:Nat,k<=64/\i=.int .i64 k/\St4 w wr h (wl (nats s) 64) (vs h (wl (nats s) 64) k)) (λi _=>64-(intOf i).toNat)
   case atStart=>exact⟨0,ω,rfl,J⟩
   case round =>
    clear J;obtain⟨k,l,rfl,c⟩:=hrel;by_cases hlt:k<64
    ·
     have O:=mH h (wl (nats s) 64) g.o k;obtain⟨v0,v1,v2,v3,v4,v5,v6,v7,hv⟩:=eight _ O;have j:Hid (vs h (wl (nats s) 64) (k+1)=rnd (vs h (wl (nats s) 64) k) (kcs.getD k 0) ((wl (nats s) 64).getD k 0)):=rfl;have gk:=(hR.mono c.below).2 k hlt;have gw:=c.get k (by rw[xI];exact hlt);generalize kcs.getD k 0=kc at *;generalize (wl (nats s) 64).getD k 0=wi at *;rw[hv] at c j;have z:=c.gv 0 Θ;have u:=c.gv 1 Θ;have t:=c.gv 2 Θ;have r:=c.gv 3 Θ;have I:=c.gv 4 Θ;have H:=c.gv 5 Θ;have G:=c.gv 6 Θ;have F:=c.gv 7 Θ;simp only[List.getD_cons_zero,List.getD_cons_succ] at z u t r I H G F;clear O hv;have D:(0:Int)<=(k:Int):=ω;have B:(k:Int)<64:=ω;go_wp2_with fail;go_quiet (fail);rename Nat=>nq1;go_wp2_with (first|(go_at_call 145;(with_reducible refine (rot6 _ _).mono ?_);rintro e w' ⟨rfl,rfl⟩)|(go_at_call 145;(with_reducible refine (rot11 _ _).mono ?_);rintro e w' ⟨rfl,rfl⟩)|(go_at_call 145;(with_reducible refine (rot25 _ _).mono ?_);rintro e w' ⟨rfl,rfl⟩));go_quiet (fail);clear z u t r I H G F gk gw;have c:=(c.drewN nq1).drewN nq;generalize (wr.drewN nq1).drewN nq=w1 at *;have z:=c.gv 0 Θ;have u:=c.gv 1 Θ;have t:=c.gv 2 Θ;have r:=c.gv 3 Θ;have I:=c.gv 4 Θ;have H:=c.gv 5 Θ;have G:=c.gv 6 Θ;have F:=c.gv 7 Θ;simp only[List.getD_cons_zero,List.getD_cons_succ] at z u t r I H G F
     go_wp2_with (first|(go_at_call 145;(with_reducible refine (rot2 _ _).mono ?_);rintro e w' ⟨rfl,rfl⟩)|(go_at_call 145;(with_reducible refine (rot13 _ _).mono ?_);rintro e w' ⟨rfl,rfl⟩)|(go_at_call 145;(with_reducible refine (rot22 _ _).mono ?_);rintro e w' ⟨rfl,rfl⟩)|(refine wpList_store_row rfl 181 _ _ rfl (w+3) (i32s [_,_,_,_,_,_,_,_]) rfl rfl 181 (i32s [v0,v1,v2,v3,v4,v5,v6,v7]) c.d hC rfl (jc _) ?_));go_roundw
     case rel =>
      refine⟨k+1,ω,by go_num,?_⟩;rw[j.o];exact c.setv _
     case measure=>simp[intOf];omega
    obtain rfl:k=64:=ω;clear hlt l;rw[show ((64:Nat):Int)=64 from rfl];have vl:=mH h (wl (nats s) 64) g.o 64;have p:Hid (dL h (nats s)=eK h (vs h (wl (nats s) 64) 64)):=rfl;generalize vs h (wl (nats s) 64) 64=V at *;generalize wl (nats s) 64=L at *;have A:=η vl;clear vl;go_wp2_with fail;go_loopw [184] (λi wr=>∃k:Nat,k<=8/\i=.int .i64 k/\St4 w wr (js h V k) L V) (λi _=>8-(intOf i).toNat)
    case atStart=>exact⟨0,ω,rfl,by rw[tU];exact c⟩
    case round =>
     clear c;obtain⟨k,l,rfl,c⟩:=hrel;by_cases hlt:k<8
     ·have q:decide ((k:Int)<8)=true:=by simp;omega
      have q1:k<(js h V k).length:=by rw[qI h V g.o A.o];exact hlt
      have q2:k<V:=by rw[A.o];exact hlt
      obtain⟨q3,q4⟩:=zd2 (mixTo_at h V g.o A.o k hlt) (wD h V g.o A.o k hlt);go_wp2_with fail;have D:(0:Int)<=(k:Int):=ω;have B:(k:Int)<8:=ω;refine wp_region_still_tail 8 Δ Δ ?_;have f:=c.drew;change wpStill _ _ wr.drew (λa'=>wpList _ _ _ _ a' wr.drew) _ _;generalize wr.drew=w2 at *;have gh:=f.gh k q1;have gv:=f.gv k q2;rw[q3.o] at gh;clear q1 q2;generalize h.getD k 0=x at *;generalize V.getD k 0=y at *;have hf:=f.fh k;simp only[List.take_succ_cons,List.take_zero,List.drop_succ_cons,List.drop_zero];repeat still_step
      refine wpStill_nil ?_;clear D B;go_wp2_with fail;go_roundw
      case rel=>exact⟨k+1,ω,by go_num,f.seth k _ q4.o⟩
      case measure=>simp[intOf];omega
     obtain rfl:k=8:=ω;clear hlt l;rw[wE h V g.o A.o,<-p.o] at c;have m:=η (dW h (nats s) g.o);clear p;generalize hRR:dL h (nats s)=R at *;have al:=η hRR;clear hRR;go_wp2_with (first|(refine wpList_load_row rfl 181 _ rfl w rfl 181 _ _ _ c.a underlying181 rfl (by rw[bs,m.o];exact hC) ?_)|(refine wpList_store_row rfl 181 _ _ rfl (w+1) (i32s R) rfl rfl 181 (i32s (List.replicate 8 0)) c.b (by rw[bs,m.o];exact hC) (by rw[bs,bs,m.o];rfl) (jc _) ?_));exact bodyPost_ret (results_cell_row results107 _ _ (w+1) 181 (i32s R) _ _ rfl (c.o R).1 underlying181 rfl (by rw[bs,m.o];exact hC)) rfl ⟨by rw[al.o],(c.o R).2⟩
def iE {P:Program} {ops:Array Oper} {w:À} {Q:Act->Prop} {a:Act} {o:Oper} {rest:List Oper} (hgd:o.guard=none) (ty:TypeId) (x:Operand) (ho:o.op=.load ty x)
 (g:Nat) (hx:a.eval x=.pointer (some ⟨g,0,none⟩)) (t:TypeId) (cs:Array Value) (fr:Nat×Nat) (d:TypeDesc) (hg:w.heap[g]?=some (.cells cs t fr))
 (hu:P.underlying ty=some d) (hd:(match d with|.struct _|.array _ _=>true|_=>false)=true) (hi:(P.info? ty).map (·.size)=some cs.size)
 (h:wpStill P ops w Q rest (a.put o.dst (.agg cs))):wpStill P ops w Q (o::rest) a:=by
 refine wpStill_step λK hK=>?_;have b:Region.wanted o (yielded ops a.tmps)=true:=by simp[Region.wanted,hgd]
 rw[if_pos b];unfold Oper.still execOp;simp only[ho,hx,Instr.loadAt,Instr.sureAddr,Sem.run_bind,Sem.run_pure,Result.andThen_ok,run_loadVar_row w g t ty cs fr d hg hu hd hi];exact⟨rfl,hK _ h⟩
def tv (l:List Nat):(nz l).size=l:=by simp[nz,ByteArray.size]
def tT (l:List Nat) (h:∀x∈l,x<256):nats (nz l)=l:=by
 simp only[nats,nz,List.map_map];conv=>rhs;rw[<-List.map_id l]
 apply List.map_congr_left;intro x hx;simpa using Nat.mod_eq_of_lt (h x hx)
def ln (s:Ê) (a b:Nat):nats (s.extract a b)=((nats s).drop a).take (b-a):=by
 simp[nats,ByteArray.extract,ByteArray.copySlice]
def info5:(prog.info? 5).map (·.size)=some 1:=by kernel_rfl
def nB (w:À) (g dLen dCap:Nat) (s:Ê) (cur:List Nat) (t:TypeId) (hg:w.heap[g]?=some (.cells (u8s cur) t (0,0))) (h1:s.size<=dLen) (h2:s.size<=cur) (ty:TypeId) :
 (Builtin.copy_ #[78,9] ty #[.slice g dLen dCap,s]).run prog w=.ok (goInt s.size) (w.setRow g (u8s (nats s++cur.drop s.size))):=by
 have a:=run_storeCells_at prog g 0 t (s.data.toList.map λb=>Value.int .u8 b.toNat) 0 (u8s cur) w hg (by simp[u8s_size];exact h2) (λv hv=>by simp at hv;obtain⟨b,_,rfl⟩:=hv;rfl)
 have h:(s.extract 0 (Nat.min s.size dLen)).data=s.data:=by
  rw[show Nat.min s.size dLen=s.size from Nat.min_eq_left h1];simp
 have c:(Nat.min s.size dLen:Nat)=s.size:=Nat.min_eq_left h1;have d:(s.data.map λb=>Value.int .u8 b.toNat).toList=s.data.toList.map λb=>Value.int .u8 b.toNat:=by simp
 have e:(List.take (0+0) (u8s cur).toList++(s.data.toList.map λb=>Value.int .u8 b.toNat)++List.drop (0+0+(s.data.toList.map λb=>Value.int .u8 b.toNat).length) (u8s cur).toList).toArray=u8s (nats s++cur.drop s.size):=by
  simp[u8s,nats,Function.comp_def]
 rw[e] at a
 cases hq:prog.info? 5 with
 | none=>have:=info5;rw[hq] at this;cases this
 | some i =>
  simp[Builtin.copy_,run_underlying underlying78,Builtin.lenOf,Builtin.firstCells,sizeOf,typeInfo,hq,c];rw[List.take_of_length_le Θ,a];rfl
def zl128:List Nat:=List.replicate 128 0
def z128:Array Value:=u8s zl128
def zero46 (w:À):(zeroValue 184).run prog w=.ok (.agg z128) w:=by kernel_rfl
def beTo (L k:Nat):List Nat:=(List.range k).reverse.map λi=>L/2 ^ (8*i)%256
def fG (r:List Nat) (L size k:Nat):List Nat:=r++[128]++List.replicate (size-1-r-k) 0++beTo L k++List.replicate (128-size) 0
def sj (L k:Nat):(beTo L k).length=k:=by simp[beTo]
def xz (L k:Nat):beTo L (k+1)=(L/2 ^ (8*k)%256)::beTo L k:=by simp[beTo,List.range_succ]
def kx (r:List Nat) (L size k:Nat) (h1:r+1+k<=size) (h2:size<=128):(fG r L size k).length=128:=by simp[fG,sj];omega
def uH (l:List Nat) (k x:Nat):(u8s l).setIfInBounds k (.int .u8 x)=u8s (l.set k x):=by simp[u8s,List.map_set]
def uO (a b:List Nat) (x y k:Nat) (h:k=a):(a++x::b).set k y=a++y::b:=by subst h;simp
def yV (r:List Nat) (h:r.length<128):(r++zl128.drop r).set r 128=r++[128]++List.replicate (127-r) 0:=by
 have e:zl128.drop r=0::List.replicate (127-r) (0:Nat):=by
  rw[zl128,List.drop_replicate,show 128-r.length=(127-r.length)+1 by omega,List.replicate_succ]
 rw[e,uO _ _ _ _ _ rfl];simp
def rM (r:List Nat) (L size:Nat) (h1:r+1<=size) (h2:size<=128):r++[128]++List.replicate (127-r) 0=fG r L size 0:=by
 simp only[fG,beTo,List.range_zero,List.reverse_nil,List.map_nil,List.append_nil,Nat.sub_zero];rw[χ (r++[128]),List.replicate_append_replicate];congr 2;omega
def tq (r:List Nat) (L size k:Nat) (h1:r+1+k<size):(fG r L size k).set (size-1-k) (L/2 ^ (8*k)%256)=fG r L size (k+1):=by
 have e:List.replicate (size-1-r-k) (0:Nat)=List.replicate (size-1-r.length-(k+1)) 0++[0]:=by
  rw[<-List.replicate_succ',show size-1-r.length-k=size-1-r-(k+1)+1 by omega]
 rw[fG,fG,e,xz];have:=uO (r++[128]++List.replicate (size-1-r.length-(k+1)) 0) (beTo L k++List.replicate (128-size) 0) 0 (L/2 ^ (8*k)%256) (size-1-k) Φ;simpa[χ] using this
def qy (r:Ê) (L size k:Nat):∀x∈fG (nats r) L size k,x<256:=by
 intro x hx;simp only[fG,List.mem_append,List.mem_replicate,List.mem_singleton,beTo,List.mem_map] at hx;rcases hx with (((hx|hx)|hx)|⟨i,_,rfl⟩)|hx
 ·exact bytes_lt _ x hx
 ·omega
 ·omega
 ·exact Nat.mod_lt _ π
 omega
def strLen:Value->Nat
 | .string s=>s.size
 | _=>0
def H0:List Int:=[1779033703,3144134277,1013904242,2773480762,1359893119,2600822924,528734635,1541459225]
def ey:Nat->List Int->List Nat->List Int
 | 0,H,_=>H
 | n+1,H,l=>dL (ey n H l) ((l.drop (64*n)).take 64)
def iB (n:Nat) (H:List Int) (l:List Nat) (h:H.length=8):(ey n H l).length=8:=by
 induction n with
 | zero=>exact h
 | succ n ih=>exact dW _ _ ih
structure Sh (w wr:À) (H:List Int):Prop where
 a:wr.heap[w.heap.size]?=some (.cells z32 34)
 b:wr.heap[w.heap.size+1]?=some (.cells (i32s H) 181)
 size:w.heap.size+2<=wr
 below:Below w w wr
def Sh.start (w:À) (z:Array Value) (H:List Int):Sh w (((w.alloc (.cells z32 34)).alloc (.cells z 181)).setRow (w+1) (i32s H)) H:=by
 refine⟨?_,?_,by simp,?_⟩
 ·rw[setRow_other _ _ _ _ ω];exact heap_alloc2_old _ _ _
 ·exact setRow_heap _ _ _ _ _ _ (heap_alloc2_new _ _ _)
 exact (((Below.refl _ _).alloc (υ _) _).alloc Θ _).trans ⟨rfl,rfl,rfl,by simp,λk hk=>setRow_other _ _ _ _ ω⟩
variable {H:List Int}
def Sh.drew {w:À} (s:Sh w wr H):Sh w wr.drew H:=⟨s.a,s.b,s.size,s.below.drew⟩
def Sh.mono {w w1:À} (s:Sh w wr H) (hb:Below wr wr w1):Sh w w1 H:=by
 have:=s.size;exact⟨(hb.block _ ω).trans s.a,(hb.block _ ω).trans s.b,ψ s.size hb.size,s.below.trans (hb.mono ω)⟩
def Sh.set {w:À} (s:Sh w wr H) (K:List Int):Sh w (wr.setRow (w+1) (i32s K)) K:=
 ⟨by rw[setRow_other _ _ _ _ ω];exact s.a,setRow_heap _ _ _ _ _ _ s.b,by simpa using s.size,s.below.trans ⟨rfl,rfl,rfl,by simp,λk hk=>setRow_other _ _ _ _ ω⟩⟩
structure Tl (w wr:À) (b:Nat) (H:List Int) (T:List Nat):Prop where
 sh:Sh w wr H
 c:wr.heap[b]?=some (.cells (u8s T) 184)
 hb:w+2<=b
variable {T:List Nat}
def Tl.lt {w:À} {b:Nat} (s:Tl w wr b H T):b<wr:=(Array.getElem?_eq_some_iff.1 s.c).1
def Tl.start {w:À} (s:Sh w wr H) (z:Array Value) (T:List Nat):Tl w ((wr.alloc (.cells z 184)).setRow wr (u8s T)) wr H T:=by
 have:=s.size;refine⟨⟨?_,?_,by simp;omega,?_⟩,setRow_heap _ _ _ _ _ _ (heap_alloc_new _ _),s.size⟩
 ·rw[setRow_other _ _ _ _ ω,heap_alloc_old _ _ ω];exact s.a
 ·rw[setRow_other _ _ _ _ ω,heap_alloc_old _ _ ω];exact s.b
 exact (s.below.alloc ω _).trans ⟨rfl,rfl,rfl,by simp,λk hk=>setRow_other _ _ _ _ ω⟩
section
variable {w wr:À} {b:Nat} {H:List Int} {T:List Nat} (s:Tl w wr b H T)
include s
theorem Tl.drew:Tl w wr.drew b H T:=⟨s.sh.drew,s.c,s.hb⟩
theorem Tl.put (k x:Nat):Tl w (wr.setCell ⟨b,k,none⟩ (.int .u8 x)) b H (T.set k x):=by
 have:=s.hb;refine⟨⟨?_,?_,?_,s.sh.below.setCell (by show w.heap.size<=b;omega) _⟩,?_,s.hb⟩
 ·rw[heap_setCell_other _ _ _ _ (by show w.heap.size≠b;omega)];exact s.sh.a
 ·rw[heap_setCell_other _ _ _ _ (by show w.heap.size+1≠b;omega)];exact s.sh.b
 ·have:=s.sh.size;simpa[World.setCell] using this
 rw[heap_setCell_same _ _ _ _ _ _ s.c,uH]
theorem Tl.room (k:Nat) (hk:k<T):∃v,wr.cell? ⟨b,k,none⟩=some v:=
 ⟨_,(cell_of_row wr b k _ _ _ s.c).trans (u8s_at T k hk)⟩
theorem Tl.free (k:Nat):wr.frozen? ⟨b,k,none⟩=false:=frozen_of_row wr b k _ _ s.c
theorem Tl.mono {w1:À} (h:Below wr wr w1):Tl w w1 b H T:=⟨s.sh.mono h,(h.block b s.lt).trans s.c,s.hb⟩
theorem Tl.set (K:List Int):Tl w (wr.setRow (w+1) (i32s K)) b K T:=by
 have:=s.hb;exact⟨s.sh.set K,by rw[setRow_other _ _ _ _ ω];exact s.c,s.hb⟩
end
def pO (H:List Int) (q:Nat):Nat:=(H.getD (q/4) 0/2 ^ (24-8*(q%4))%256).toNat
def dgTo (H:List Int) (n:Nat):List Nat:=(List.range 32).map λq=>if q<n then pO H q else 0
def xn (H:List Int):u8s (dgTo H 0)=z32:=by unfold dgTo z32;congr 1
def dgTo_length (H:List Int) (n:Nat):(dgTo H n).length=32:=by simp[dgTo]
def dgTo_set (H:List Int) (n:Nat) (h:n<32):(dgTo H n).set n (pO H n)=dgTo H (n+1):=by
 apply List.ext_getElem?;intro i;simp only[dgTo,List.getElem?_set,List.getElem?_map,List.length_map,List.length_range];by_cases a:i<32
 ·simp only[List.getElem?_range a,Option.map_some];by_cases e:n=i
  ·subst e;simp[h]
  simp[e,show (i<n+1)↔i<n by omega]
 simp[a,show n≠i by omega]
structure Dg (w wr:À) (g:Nat) (H:List Int) (D:List Nat):Prop where
 a:wr.heap[w.heap.size]?=some (.cells z32 34)
 b:wr.heap[w.heap.size+1]?=some (.cells (i32s H) 181)
 c:wr.heap[g]?=some (.cells (u8s D) 34)
 hb:w+2<=g
 below:Below w w wr
def Dg.start {w:À} (s:Sh w wr H):Dg w (wr.alloc (.cells z32 34)) wr H (dgTo H (4*0)):=by
 have:=s.size;refine⟨?_,?_,?_,s.size,s.below.alloc ω _⟩
 ·rw[heap_alloc_old _ _ ω];exact s.a
 ·rw[heap_alloc_old _ _ ω];exact s.b
 rw[xn];exact heap_alloc_new _ _
def Dg.put {w:À} {b:Nat} (s:Dg w wr b H T) (k x:Nat):Dg w (wr.setCell ⟨b,k,none⟩ (.int .u8 x)) b H (T.set k x):=by
 have:=s.hb;refine⟨?_,?_,?_,s.hb,s.below.setCell (by show w.heap.size<=b;omega) _⟩
 ·rw[heap_setCell_other _ _ _ _ (by show w.heap.size≠b;omega)];exact s.a
 ·rw[heap_setCell_other _ _ _ _ (by show w.heap.size+1≠b;omega)];exact s.b
 rw[heap_setCell_same _ _ _ _ _ _ s.c,uH]
def Dg.room {w:À} {b:Nat} (s:Dg w wr b H T) (k:Nat) (hk:k<T):∃v,wr.cell? ⟨b,k,none⟩=some v:=
 ⟨_,(cell_of_row wr b k _ _ _ s.c).trans (u8s_at T k hk)⟩
def Dg.free {w:À} {b:Nat} (s:Dg w wr b H T) (k:Nat):wr.frozen? ⟨b,k,none⟩=false:=frozen_of_row wr b k _ _ s.c
def nK (l:List Int) (k:Nat) (h:k<8) (hl:l.length=8) (w:À):(Instr.index 181 (.agg (i32s l)) (.int .i64 k)).run prog w=.ok (.int .u32 (l.getD k 0)) w:=by
 have a:(0:Int)<=k/\(k:Int)<(8:Nat):=ω;simp only[Instr.index,asIntOf,run_underlying underlying181,Sem.run_bind,Sem.run_pure,Result.andThen_ok];rw[if_pos a];simp[sizeOf180,part,isAgg180,i32s,show k<l.length by omega,List.getD]
def lS (l:List Nat):List Int:=
 let j:=l.length/64
 let r:=l.drop (64*j)
 let sz:=if r.length<=55 then 64 else 128
 ey (sz/64) (ey j H0 l) (fG r (l.length*8) sz 8)
def vU (l:List Nat) (j m:Nat) (r:List Nat) (h:64*j+r.length=l) (h2:r.length<64) (hr:r=l.drop (64*j)) (A:List Int) (hA:ey j H0 l=A) (T:List Nat) (hT:fG r (l.length*8) (64*m) 8=T) (hm:64*m=if r.length<=55 then 64 else 128):ey m A T=lS l:=by
 have e:l.length/64=j:=ω;unfold lS;simp only[e,<-hr,<-hm];rw[hA,hT,Nat.mul_div_cancel_left m π]
def shaS (l:List Nat):List Nat:=dgTo (lS l) 32
def sha_any (s:Ê) (hs:s.size<=1000000) (w:À) (hR:Rounds w) :
 Calls prog 47 #[s] w λe w'=>e=.returned (.agg (u8s (shaS (nats s))))/\Below w w w':=by
 go_in;go_upto_region 2 with (refine wpList_store_row rfl 181 _ _ rfl (w+1) (i32s H0) rfl rfl 181 (i32s (List.replicate 8 0)) (heap_alloc2_new _ _ _) hC rfl (jc _) ?_);rw[z32_lit];rw[un];have l:=Sh.start w (i32s (List.replicate 8 0)) H0;generalize (((w.alloc (.cells z32 34)).alloc (.cells (i32s (List.replicate 8 0)) 181)).setRow (w+1) (i32s H0))=w0 at *;go_wp2_with fail;go_loopw [0] (λv wr=>∃(j:Nat) (r:Ê),v=.string r/\64*j+r.size=s.size/\Hid (nats r=(nats s).drop (64*j))/\Sh w wr (ey j H0 (nats s))) (λv _=>strLen v)
 case atStart=>exact⟨0,s,rfl,ω,by simp[Hid],l⟩
 case round =>
  clear l;obtain⟨j,r,rfl,X,M,l⟩:=hrel;have U:=η X;have bc:r.size<=1000000:=ω;clear X;by_cases bf:64<=r.size
  ·have hd:decide ((64:Int)<=r.size)=true:=by simp;omega
   go_wp2_with fail;refine wp_region_still_tail 3 Δ Δ ?_;have E:=l.drew;change wpStill _ _ wr.drew (λa'=>wpList _ _ _ _ a' wr.drew) _ _;generalize wr.drew=w2 at *;have aa:=iB j H0 (nats s) rfl;have y:Hid (ey (j+1) H0 (nats s)=dL (ey j H0 (nats s)) (((nats s).drop (64*j)).take 64)):=rfl;generalize ey j H0 (nats s)=A at *;have q:=η aa;clear aa l;simp only[List.take_succ_cons,List.take_zero,List.drop_succ_cons,List.drop_zero];refine iE rfl 181 _ rfl (w+1) rfl 181 _ _ _ E.b underlying181 rfl (by rw[bs,q.o];exact hC) ?_;have x1:(0:Int)<=64:=by decide
   have x2:(64:Int)<=r.size:=ω;repeat still_step
   refine wpStill_nil ?_;go_wp2_with fail;refine (lr A _ q.o (by rw[ByteArray.size_extract];omega) _ (hR.mono E.below)).mono ?_;rintro e w1 ⟨rfl,O⟩;have u:=E.mono O;have z:=dW A (nats (r.extract 0 64)) q.o;have HB:Hid (nats (r.extract 0 64)=((nats s).drop (64*j)).take 64):=by rw[ln,M.o];rfl
   rw[<-HB.o] at y;generalize dL A (nats (r.extract 0 64))=R at *;have V:=η z;clear z E O;go_wp2_with (refine wpList_store_row rfl 181 _ _ rfl (w+1) (i32s R) rfl rfl 181 (i32s A) u.b (by rw[bs,V.o];exact hC) (by rw[bs,bs,V.o,q.o]) (jc _) ?_);go_roundw
   case rel =>
    refine⟨j+1,r.extract 64 r.size,rfl,?_,?_,?_⟩
    ·have:=U.o;rw[ByteArray.size_extract];omega
    ·show nats (r.extract 64 r.size)=_;rw[ln,M.o,List.drop_drop,List.take_of_length_le (by have:=U.o;simp[bv];omega)];congr 1
    rw[y.o];exact u.set R
   case measure=>simp[strLen];omega
  have hd:decide ((64:Int)<=r.size)=false:=by simp;omega
  have q:=η (iB j H0 (nats s) rfl);have hz:=zero46;have ap:=nB (wr.alloc (.cells z128 184)) wr 128 128 r zl128 184 (heap_alloc_new _ _) ω (by simp[zl128];omega);go_upto_region 8 with fail;have f:=Tl.start l z128 (nats r++zl128.drop r.size);have aq:=f.hb;have F:=yV (nats r) (by rw[bv];omega);rw[bv] at F;have Y:r.size<(nats r++zl128.drop r.size).length:=by simp[zl128,bv];omega
  generalize (wr.alloc (.cells z128 184)).setRow wr (u8s (nats r++zl128.drop r.size))=w8 at *;generalize nats r++zl128.drop r.size=T0 at *;clear ap hz l;generalize wr.heap.size=b at *;have av:=η F;obtain⟨v,hc⟩:=f.room r.size Y;have hf:=f.free r.size;have h:=f.put r.size 128;rw[F] at h;clear f F aq av;generalize hS:ey j H0 (nats s)=A at *;have HS:=η hS;clear hS;have e9:=IntWalk.i64_in ((r.size:Int)+9) ω;go_upto_if 36 with fail;clear e9;clear hc hf Y;rw[show ((128:Nat):Int)=128 from rfl] at h;generalize w8.setCell ⟨b,r.size,none⟩ (Value.int .u8 128)=w9 at *;go_cut [6] (λs6 wx=>∃d:Nat,s6=.int .i64 d/\Hid (d=if r.size<=55 then 64 else 128)/\Tl w wx b A (nats r++[128]++List.replicate (127-r.size) 0))
  case first =>
   by_cases ab:r.size<=55
   ·have h1:decide ((64:Int)<(r.size:Int)+9)=false:=by simp;omega
    go_wp2;go_meet;exact⟨64,rfl,by rw[if_pos ab];rfl,h⟩
   have h1:decide ((64:Int)<(r.size:Int)+9)=true:=by simp;omega
   go_wp2;go_meet;exact⟨128,rfl,by rw[if_neg ab];rfl,h⟩
  case rest =>
   obtain⟨d,rfl,H,f⟩:=hcut;have z1:r.size+9<=d:=by rw[H.o];split<;>omega
   have z2:d<=128:=by rw[H.o];split<;>omega
   have I:=rM (nats r) (s.size*8) d (by rw[bv];omega) z2;rw[bv] at I;rw[I] at f;clear I h;go_wp2_with fail;go_loopw [37] (λi wr=>∃k:Nat,k<=8/\i=.int .i64 k/\Tl w wr b A (fG (nats r) (s.size*8) d k)) (λi _=>8-(intOf i).toNat)
   case atStart=>exact⟨0,ω,rfl,f⟩
   case round =>
    clear f;obtain⟨k,hk,rfl,f⟩:=hrel;by_cases hlt:k<8
    ·have N:decide ((k:Int)<8)=true:=by simp;omega
     have t:=kx (nats r) (s.size*8) d k (by rw[bv];omega) z2;obtain⟨v,hc⟩:=f.room (d-1-k) ω;have hf:=f.free (d-1-k);have W:=η (tq (nats r) (s.size*8) d k (by rw[bv];omega));have tp:=f.put (d-1-k) (s.size*8/2 ^ (8*k)%256);rw[W.o] at tp;have e1:((d:Int)-1-k).toNat=d-1-k:=ω;have ev:((s.size*8/2 ^ (8*k)%256:Nat):Int)=(s.size:Int)*8/2 ^ (8*k)%256:=by simp
     rw[ev] at tp;clear W t f ev;go_wp2_with fail;go_roundw
     case rel=>exact⟨k+1,ω,by go_num,tp⟩
     case measure=>simp[intOf];omega
    obtain rfl:k=8:=ω;clear hlt hk;rw[show ((8:Nat):Int)=8 from rfl];obtain⟨t,an⟩:=zd2 (kx (nats r) (s.size*8) d 8 (by rw[bv];omega) z2) (qy r (s.size*8) d 8);generalize hT:fG (nats r) (s.size*8) d 8=T at *;have HT:=η hT;clear hT;go_wp2_with fail;go_loopw [8] (λi wr=>∃m:Nat,64*m<=d/\i=.int .i64 (64*(m:Int))/\Tl w wr b (ey m A T) T) (λi _=>128-(intOf i).toNat)
    case atStart=>exact⟨0,ω,rfl,f⟩
    case round =>
     clear f;obtain⟨m,hm,rfl,f⟩:=hrel;have p:=η (iB m A T q.o);by_cases hlt:64*m<d
     ·have a5:64*m+64<=d:=by
       have:=H.o;split at this<;>omega
      have N:decide (64*(m:Int)<(d:Int))=true:=by simp;omega
      have y:Hid (ey (m+1) A T=dL (ey m A T) ((T.drop (64*m)).take 64)):=rfl;generalize ey m A T=B at *;go_wp2_with fail;have x1:(0:Int)<=64*(m:Int):=ω;have x2:64*(m:Int)<=64*(m:Int)+64:=ω;have x3:64*(m:Int)+64<=128:=ω;have x4:=IntWalk.i64_in (64*(m:Int)+64) ω;have x5:(64*(m:Int)).toNat=64*m:=ω;have x6:(64*(m:Int)+64).toNat=64*m+64:=ω;have x7:64*m+64<=T.length:=by rw[t.o];omega
      have x8:64*m+64-64*m=64:=ω;have x9:¬(128=64*m):=ω;refine wp_region_still_tail 6 Δ Δ ?_;have h:=f.drew;change wpStill _ _ wr.drew (λa'=>wpList _ _ _ _ a' wr.drew) _ _;generalize wr.drew=w2 at *;have ao:=λcap=>pF w2 b T 184 (0,0) h.c (64*m) 64 cap x7;clear x7;simp only[List.take_succ_cons,List.take_zero,List.drop_succ_cons,List.drop_zero];refine iE rfl 181 _ rfl (w+1) rfl 181 _ _ _ h.sh.b underlying181 rfl (by rw[bs,p.o];exact hC) ?_;repeat still_step
      refine wpStill_nil ?_;clear x1 x2 x3 x4 x5 x6 x8 x9 ao f;go_wp2_with fail;have J:=tv ((T.drop (64*m)).take 64);have Z:nats (nz ((T.drop (64*m)).take 64))=(T.drop (64*m)).take 64:=tT _ (λx hx=>an.o x (List.mem_of_mem_drop (List.mem_of_mem_take hx)));rw[List.length_take,List.length_drop,t.o] at J;refine (lr B _ p.o (by rw[J];omega) _ (hR.mono h.sh.below)).mono ?_;rintro e w1 ⟨rfl,O⟩;have u:=h.mono O;have z:=dW B (nats (nz ((T.drop (64*m)).take 64))) p.o;rw[<-Z] at y;clear J Z h O;generalize dL B (nats (nz ((T.drop (64*m)).take 64)))=R at *;have V:=η z;clear z;go_wp2_with (refine wpList_store_row rfl 181 _ _ rfl (w+1) (i32s R) rfl rfl 181 (i32s B) u.sh.b (by rw[bs,V.o];exact hC) (by rw[bs,bs,V.o,p.o]) (jc _) ?_);go_roundw
      case rel=>exact⟨m+1,ω,by go_num,by rw[y.o];exact u.set R⟩
      case measure=>simp[intOf];omega
     obtain rfl:d=64*m:=ω;have N:decide (64*(m:Int)<((64*m:Nat):Int))=false:=by simp
     have ae:Hid (ey m A T=lS (nats s)):=vU (nats s) j m (nats r) (by rw[bv,bv];exact U.o) (by rw[bv];omega) M.o A HS.o T (by rw[bv];exact HT.o) (by rw[bv];exact H.o);clear HT;generalize ey m A T=R at *;have l:=f.sh;clear f;go_upto_region 22 with fail;rw[z32_lit];have g:=Dg.start l;generalize wr.alloc (.cells z32 34)=w21 at *;generalize wr.heap.size=b9 at *;clear l;go_wp2_with (refine wpList_load_row rfl 181 _ rfl (w+1) rfl 181 _ _ _ g.b underlying181 rfl (by rw[bs,p.o];exact hC) ?_);go_loopw [64] (λi wr=>∃k:Nat,k<=8/\i=.int .i64 k/\Dg w wr b9 R (dgTo R (4*k))) (λi _=>8-(intOf i).toNat)
     case atStart=>exact⟨0,ω,rfl,g⟩
     case round =>
      clear g;obtain⟨k,hk,rfl,g⟩:=hrel;by_cases hlt:k<8
      ·have N:decide ((k:Int)<8)=true:=by simp;omega
       have be:=λw=>nK R k hlt p.o w;generalize hx:R.getD k 0=x at *;have Hx:=η hx;clear hx;go_wp2_with fail;go_loopw [68] (λi wr=>∃n:Nat,n<=4/\i=.int .i64 n/\Dg w wr b9 R (dgTo R (4*k+n))) (λi _=>4-(intOf i).toNat)
       case atStart=>exact⟨0,ω,rfl,g⟩
       case round =>
        clear g;obtain⟨n,hn,rfl,g⟩:=hrel;by_cases bd:n<4
        ·have bg:decide ((n:Int)<4)=true:=by simp;omega
         obtain⟨v,hc⟩:=g.room (4*k+n) (by rw[dgTo_length];omega);have hf:=g.free (4*k+n);have dp:=g.put (4*k+n) (pO R (4*k+n));rw[dgTo_set _ _ ω] at dp
         have eb:((pO R (4*k+n):Nat):Int)=x/2 ^ (24-8*n)%256:=by
          rw[pO,show (4*k+n)/4=k by omega,show (4*k+n)%4=n by omega,Hx.o];exact Int.toNat_of_nonneg (Int.emod_nonneg _ π)
         rw[eb] at dp;clear eb g;go_wp2_with fail;go_roundw
         case rel=>exact⟨n+1,ω,by go_num,dp⟩
         case measure=>simp[intOf];omega
        obtain rfl:n=4:=ω;go_wp2_with fail;go_roundw
        case rel=>exact⟨k+1,ω,by go_num,g⟩
        case measure=>simp[intOf];omega
      obtain rfl:k=8:=ω;have G:=η (dgTo_length R 32);have ag:Hid (shaS (nats s)=dgTo R 32):=by rw[shaS,<-ae.o];rfl
      have g:Dg w wr b9 R (dgTo R 32):=g;generalize dgTo R 32=D at *;have L:Hid (∀hh:True,(wr.setRow w (u8s D)).heap[w.heap.size]?=some (.cells (u8s D) 34)/\Below w w (wr.setRow w (u8s D))):=λ_=>⟨setRow_heap _ _ _ _ _ _ g.a,g.below.trans ⟨rfl,rfl,rfl,by simp,λk hk=>setRow_other _ _ _ _ ω⟩⟩
      go_wp2_with (first|(refine wpList_load_row rfl 34 _ rfl b9 rfl 34 _ _ _ g.c underlying34 rfl (by rw[u8s_size,G.o];exact info23) ?_)|(refine wpList_store_row rfl 34 _ _ rfl w (u8s D) rfl rfl 34 z32 g.a (by rw[u8s_size,G.o];exact info23) (by rw[u8s_size,G.o];rfl) (u8s_one _) ?_));exact bodyPost_ret (results_cell_row results47 _ _ w 34 (u8s D) _ _ rfl (L.o trivial).1 underlying34 rfl (by rw[u8s_size,G.o];exact info23)) rfl ⟨by rw[ag.o],(L.o trivial).2⟩
end
end ShaT
