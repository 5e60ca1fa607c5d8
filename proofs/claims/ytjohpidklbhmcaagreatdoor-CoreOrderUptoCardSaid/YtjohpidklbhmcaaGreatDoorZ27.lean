/- Core -/
import Derived.Test.YtjohpidklbhmcaaGreatDoorZ24
import Derived.Test.YtjohpidklbhmcaaGreatDoorZ18
import Derived.Test.YtjohpidklbhmcaaGreatDoorZ14
import Derived.Maps.AppendAt
namespace Go.Proofs.YtjohpidklbhmcaaGreatDoor
set_option linter.all false
open Proofs.Tryz RowKit Maps WideMaps ChangeMaps
set_option maxRecDepth 100000
set_option maxHeartbeats 2000000
section
def Qr (w:À) (rb:Nat) (b:Nat):Prop:=rb<b/\b<w
section
variable {w':À}
def RuleR.to {w:À} {Q Q':Nat->Prop} {c:CB} {op:Int} {v:Option Value} (h:RuleR w Q c op v) (hb:Sub Q Q' w w'):RuleR w' Q' c op v:=by
 cases v with
 | none=>exact h
 | some v=>obtain⟨k,b,a,g,e,d,f⟩:=h;exact⟨k,b,a,g,e,d,f.to hb⟩
structure RB (B:Nat) (w0 w:À) (c:CB) (rb n:Nat) (f:Int->Option Value) (L:List Int):Prop where
 bel:Below B w0 w
 szB:B<=rb
 szw:B<=w
 map:IMap w rb n f
 len:n<=L
 rule:∀op,(op∈L->∃v,f op=some v/\RuleR w (Qr w rb) c op (some v))/\(op∉L->f op=none)
variable {w1:À} {rb:Nat}
def lD {w:À} (h:Below w w w1):Sub (Qr w rb) (Qr w1 rb) w w1:=λb hb=>⟨⟨hb.1,ρ hb.2 h.size⟩,h.block b hb.2⟩
def sub_qg {w:À} (h:w.grownBy w1 (some rb)):Sub (Qr w rb) (Qr w1 rb) w w1:=λb hb=>⟨⟨hb.1,ρ hb.2 h.size⟩,h.block b hb.2 (λe=>by injection e with e;have:=hb.1;omega)⟩
variable {B:Nat} {w0:À} {L:List Int} {k:Int}
def RB.put {w w2:À} {c:CB} {n:Nat} {f:Int->Option Value} {op:Int} {nb sb:Bool} {fv:Value} (h:RB B w0 w c rb n f L) (hb:Below w w w1) (hk:bK op=some (k,nb,sb)) (hc:CloR w1 (Qr w1 rb) c op fv) (hM:IMap w2 rb (if (f op).isSome then n else n+1) (upd f op (some (.agg #[k,nb,sb,fv])))) (hg:w1.grownBy w2 (some rb)):RB B w0 w2 c rb (if (f op).isSome then n else n+1) (upd f op (some (.agg #[k,nb,sb,fv]))) (op::L):=by
 have a:Below B w0 w1:=h.bel.trans (hb.mono h.szw);refine⟨⟨hg.os.trans a.os,hg.tape.trans a.tape,hg.output.trans a.output,ψ a.size hg.size,λi hi=>(hg.block i (ρ hi (ψ h.szw hb.size)) (λe=>by injection e with e;have:=h.szB;omega)).trans (a.block i hi)⟩,h.szB,ψ h.szw (ψ hb.size hg.size),hM,?_,λo=>⟨λho=>?_,λho=>?_⟩⟩
 ·have:=h.len;simp only[δ];split<;>omega
 ·unfold upd;by_cases e:o=op
  ·subst e;exact⟨_,if_pos rfl,k,nb,sb,fv,rfl,hk,hc.to (sub_qg hg)⟩
  rcases List.mem_cons.1 ho with e'|ho
  ·exact absurd e' e
  obtain⟨v,b,d⟩:=(h.rule o).1 ho;exact⟨v,by rw[if_neg e];exact b,(d.to (lD hb)).to (sub_qg hg)⟩
 unfold upd;simp only[List.mem_cons,not_or] at ho;rw[if_neg ho.1];exact (h.rule o).2 ho.2
def dK (k:Int) (fn:Go.Fn) (a b:Array Value) (w:À):Calls prog 155 #[k,.func fn a b] w λe w'=>e=.returned (.func (.func 197) #[] #[w,(w+1:Nat)])/\Below w w w'/\Hs w' w 3 #[k]/\Hs w' (w+1) 221 #[.func fn a b]:=by
 have d:Hid (∀o1 o2,Below w w ((w.alloc o1).alloc o2)):=λo1 o2=>belA ζ1 _;have g:Hid (∀o2,Hs ((w.alloc (.cells #[k] 3)).alloc o2) w 3 #[k]):=λo2=>(Hs.new w 3 _).alloc _;have f:Hid (∀o1,Hs ((w.alloc o1).alloc (.cells #[.func fn a b] 221)) (w+1) 221 #[.func fn a b]):=λo1=>dI w _ 221 _;go_in;go_wp2;go_ret;exact⟨rfl,d _ _,g _,f _⟩
def jt (cp:Option Addr) (k:Int) (w:À):Calls prog 179 #[.pointer cp,k] w λe w'=>e=.returned (.func (.func 200) #[] #[w,(w+1:Nat)])/\Below w w w'/\Hs w' w 99 #[.pointer cp]/\Hs w' (w+1) 3 #[k]:=by
 have a:Hid (∀o1 o2,Below w w ((w.alloc o1).alloc o2)):=λo1 o2=>belA ζ1 _;have d:Hid (∀o2,Hs ((w.alloc (.cells #[.pointer cp] 99)).alloc o2) w 99 #[.pointer cp]):=λo2=>(Hs.new w 99 _).alloc _;have b:Hid (∀o1,Hs ((w.alloc o1).alloc (.cells #[k] 3)) (w+1) 3 #[k]):=λo1=>dI w _ 3 _;go_in;go_wp2;go_ret;exact⟨rfl,a _ _,d _,b _⟩
def oA (cp:Option Addr) (fn:Go.Fn) (a b:Array Value) (w:À):Calls prog 180 #[.pointer cp,.func fn a b] w λe w'=>e=.returned (.func (.func 201) #[] #[w,(w+1:Nat)])/\Below w w w'/\Hs w' w 99 #[.pointer cp]/\Hs w' (w+1) 166 #[.func fn a b]:=by
 have d:Hid (∀o1 o2,Below w w ((w.alloc o1).alloc o2)):=λo1 o2=>belA ζ1 _;have g:Hid (∀o2,Hs ((w.alloc (.cells #[.pointer cp] 99)).alloc o2) w 99 #[.pointer cp]):=λo2=>(Hs.new w 99 _).alloc _;have f:Hid (∀o1,Hs ((w.alloc o1).alloc (.cells #[.func fn a b] 166)) (w+1) 166 #[.func fn a b]):=λo1=>dI w _ 166 _;go_in;go_wp2;go_ret;exact⟨rfl,d _ _,g _,f _⟩
variable {g:Nat} {cs:Array Value}
def aN {w:À} {ty:TypeId} (h:Hs w g ty cs) (hg:w.grownBy w1 (some rb)) (hne:g≠rb):Hs w1 g ty cs:=(hg.block g h.lt (λe=>hne (by injection e))).trans h
def aH {w:À} {ty:TypeId} (h:Hs w g ty cs) (hb:Below w w w1):Hs w1 g ty cs:=(hb.block g h.lt).trans h
def mG (B:Nat) (w0:À) (c:CB) (rb:Nat) (L:List Int) (e:Ending) (w':À):Prop:=e=.returned (.tuple #[])/\∃n f,RB B w0 w' c rb n f L
section
variable {wc w1 w3:À} {c:CB} (hb1:Below wc wc w1) (hb3:Below w1 w1 w3) (hg1:Hs w1 wc 99 #[c.b])
include hb1 hb3 hg1
theorem gP (hh1:Hs w1 (wc+1) 3 #[k]) (hg3:Hs w3 w1 3 #[k]) (hh3:Hs w3 (w1+1) 221 #[.func (.func 200) #[] #[wc,(wc+1:Nat)]]) (hr:rb<wc):
 FixR w3 (Qr w3 rb) k (KidsR w3 (Qr w3 rb) c k) (.func (.func 197) #[] #[w1,(w1+1:Nat)]):=by
 have d:=aH hg1 hb3;have a:=aH hh1 hb3;have e:=hb1.size;exact⟨_,_,_,rfl,⟨ω,hg3.lt⟩,⟨ω,hh3.lt⟩,hg3.cell 0,hh3.cell 0,_,_,rfl,⟨ω,d.lt⟩,⟨ω,a.lt⟩,d.cell 0,a.cell 0⟩
theorem lu {fn:FuncId} (hh1:Hs w1 (wc+1) 166 #[.func (.func fn) #[] #[]]) (hg3:Hs w3 w1 3 #[(2:Int)]) (hh3:Hs w3 (w1+1) 221 #[.func (.func 201) #[] #[wc,(wc+1:Nat)]]) (hr:rb<wc):
 FixR w3 (Qr w3 rb) 2 (PairR w3 (Qr w3 rb) c fn) (.func (.func 197) #[] #[w1,(w1+1:Nat)]):=by
 have d:=aH hg1 hb3;have a:=aH hh1 hb3;have e:=hb1.size;exact⟨_,_,_,rfl,⟨ω,hg3.lt⟩,⟨ω,hh3.lt⟩,hg3.cell 0,hh3.cell 0,_,_,rfl,⟨ω,d.lt⟩,⟨ω,a.lt⟩,d.cell 0,a.cell 0⟩
end
set_option maxRecDepth 1000000 in
def zfCond {p:Prop} (h:p:=by
 obtain⟨wc,F,E,_⟩:=κ w #[.pointer (some ⟨c.b,0,none⟩)] 99
 have d:Hid (RB B w0 wc c rb n f L):=⟨h.bel.trans (E.mono h.szw),h.szB,ψ h.szw E.size,h.map.below E h.map.lt,h.len,λop=>⟨λho=>by obtain⟨v,N,hr⟩:=(h.rule op).1 ho;exact⟨v,N,hr.to (lD E)⟩,(h.rule op).2⟩⟩
 obtain⟨u,G⟩:=γ w.heap.size
 have g:Hid (Hs wc u 99 #[.pointer (some ⟨c.b,0,none⟩)]):=by rw[F,G];exact Hs.new _ _ _
 have y:u≠rb:=by have:=h.map.lt;omega
 have A:rb<u:=by have:=h.map.lt;omega
 obtain⟨z,I,J⟩:=zd3 hl F G;clear h hl F E G;obtain⟨i,rfl⟩:=γ n
 obtain⟨p,rfl⟩:=γ f
 first
  | guard_hyp kk0:True
    go_in
  | guard_hyp kk1:True
    go_in
  | guard_hyp kk2:True
    go_in
  | go_in
 go_upto_region 1 with fail;rw[<-I.o,<-J.o];clear I J
 first
  | guard_hyp kk0:True
    have j:=η d.o.map;have t:Hid (i<maxLen):=by have x:=d.o.len;have D:=z.o;(try simp only[δ] at x);show i<maxLen;unfold maxLen;omega
    go_upto_region 2 with (first|(go_at_call 155;refine (dK 1 (.func 156) #[] #[] _).mono ?_;rintro M w1 ⟨rfl,hb1,hg1,hh1⟩;have j:=η (j.o.below hb1 j.o.lt))|(refine ak _ rfl _ _ _ 157 (.inl rfl) 223 (bh underlying3) underlying157 rb i p rfl j.o t.o 1 (.int .i64 1) (.agg #[.int .i64 0,.bool false,.bool false,.func (.func 197) #[] #[.pointer (some ⟨wc.heap.size,0,none⟩),.pointer (some ⟨wc.heap.size+1,0,none⟩)]]) rfl rfl (aw underlying3 Ψ) ?_;intro w2 hM hg));have r:=η (d.o.put (op:=1) hb1 rfl (show CloR _ _ c 1 _ from⟨wc.heap.size,wc.heap.size+1,_,rfl,⟨by have:=d.o.map.lt;omega,hg1.lt⟩,⟨by have:=d.o.map.lt;omega,hh1.lt⟩,hg1.cell 0,hh1.cell 0,rfl⟩) hM hg);have l:=η (aN (aH g.o hb1) hg y);clear j t d g hM hg hb1 hg1 hh1;have d:=r;have g:=l;clear r l;obtain⟨wc,rfl⟩:=γ w2
    revert d;generalize (if (p 1).isSome then i else i+1)=n1;generalize upd p 1 _=f1;intro d;obtain⟨i,rfl⟩:=γ n1
    obtain⟨p,rfl⟩:=γ f1
    have j:=η d.o.map;have t:Hid (i<maxLen):=by have x:=d.o.len;have D:=z.o;(try simp only[δ] at x);show i<maxLen;unfold maxLen;omega
    go_upto_region 3 with (first|(go_at_call 155;refine (dK 2 (.func 157) #[] #[] _).mono ?_;rintro M w1 ⟨rfl,hb1,hg1,hh1⟩;have j:=η (j.o.below hb1 j.o.lt))|(refine ak _ rfl _ _ _ 157 (.inl rfl) 223 (bh underlying3) underlying157 rb i p rfl j.o t.o 2 (.int .i64 2) (.agg #[.int .i64 0,.bool true,.bool false,.func (.func 197) #[] #[.pointer (some ⟨wc.heap.size,0,none⟩),.pointer (some ⟨wc.heap.size+1,0,none⟩)]]) rfl rfl (aw underlying3 Ψ) ?_;intro w2 hM hg));have r:=η (d.o.put (op:=2) hb1 rfl (show CloR _ _ c 2 _ from⟨wc.heap.size,wc.heap.size+1,_,rfl,⟨by have:=d.o.map.lt;omega,hg1.lt⟩,⟨by have:=d.o.map.lt;omega,hh1.lt⟩,hg1.cell 0,hh1.cell 0,rfl⟩) hM hg);have l:=η (aN (aH g.o hb1) hg y);clear j t d g hM hg hb1 hg1 hh1;have d:=r;have g:=l;clear r l;obtain⟨wc,rfl⟩:=γ w2
    revert d;generalize (if (p 2).isSome then i else i+1)=n1;generalize upd p 2 _=f1;intro d;obtain⟨i,rfl⟩:=γ n1
    obtain⟨p,rfl⟩:=γ f1
    have j:=η d.o.map;have t:Hid (i<maxLen):=by have x:=d.o.len;have D:=z.o;(try simp only[δ] at x);show i<maxLen;unfold maxLen;omega
    go_upto_region 4 with (first|(go_at_call 155;refine (dK 3 (.func 158) #[] #[] _).mono ?_;rintro M w1 ⟨rfl,hb1,hg1,hh1⟩;have j:=η (j.o.below hb1 j.o.lt))|(refine ak _ rfl _ _ _ 157 (.inl rfl) 223 (bh underlying3) underlying157 rb i p rfl j.o t.o 3 (.int .i64 3) (.agg #[.int .i64 0,.bool true,.bool false,.func (.func 197) #[] #[.pointer (some ⟨wc.heap.size,0,none⟩),.pointer (some ⟨wc.heap.size+1,0,none⟩)]]) rfl rfl (aw underlying3 Ψ) ?_;intro w2 hM hg));have r:=η (d.o.put (op:=3) hb1 rfl (show CloR _ _ c 3 _ from⟨wc.heap.size,wc.heap.size+1,_,rfl,⟨by have:=d.o.map.lt;omega,hg1.lt⟩,⟨by have:=d.o.map.lt;omega,hh1.lt⟩,hg1.cell 0,hh1.cell 0,rfl⟩) hM hg);have l:=η (aN (aH g.o hb1) hg y);clear j t d g hM hg hb1 hg1 hh1;have d:=r;have g:=l;clear r l;obtain⟨wc,rfl⟩:=γ w2
    revert d;generalize (if (p 3).isSome then i else i+1)=n1;generalize upd p 3 _=f1;intro d;obtain⟨i,rfl⟩:=γ n1
    obtain⟨p,rfl⟩:=γ f1
    have j:=η d.o.map;have t:Hid (i<maxLen):=by have x:=d.o.len;have D:=z.o;(try simp only[δ] at x);show i<maxLen;unfold maxLen;omega
    go_upto_region 5 with (first|(go_at_call 155;refine (dK 4 (.func 159) #[] #[] _).mono ?_;rintro M w1 ⟨rfl,hb1,hg1,hh1⟩;have j:=η (j.o.below hb1 j.o.lt))|(refine ak _ rfl _ _ _ 157 (.inl rfl) 223 (bh underlying3) underlying157 rb i p rfl j.o t.o 4 (.int .i64 4) (.agg #[.int .i64 0,.bool false,.bool true,.func (.func 197) #[] #[.pointer (some ⟨wc.heap.size,0,none⟩),.pointer (some ⟨wc.heap.size+1,0,none⟩)]]) rfl rfl (aw underlying3 Ψ) ?_;intro w2 hM hg));have r:=η (d.o.put (op:=4) hb1 rfl (show CloR _ _ c 4 _ from⟨wc.heap.size,wc.heap.size+1,_,rfl,⟨by have:=d.o.map.lt;omega,hg1.lt⟩,⟨by have:=d.o.map.lt;omega,hh1.lt⟩,hg1.cell 0,hh1.cell 0,rfl⟩) hM hg);have l:=η (aN (aH g.o hb1) hg y);clear j t d g hM hg hb1 hg1 hh1;have d:=r;have g:=l;clear r l;obtain⟨wc,rfl⟩:=γ w2
    revert d;generalize (if (p 4).isSome then i else i+1)=n1;generalize upd p 4 _=f1;intro d;obtain⟨i,rfl⟩:=γ n1
    obtain⟨p,rfl⟩:=γ f1
    have j:=η d.o.map;have t:Hid (i<maxLen):=by have x:=d.o.len;have D:=z.o;(try simp only[δ] at x);show i<maxLen;unfold maxLen;omega
    go_upto_region 6 with (refine ak _ rfl _ _ _ 157 (.inl rfl) 223 (bh underlying3) underlying157 rb i p rfl j.o t.o 5 (.int .i64 5) (.agg #[.int .i64 0,.bool true,.bool false,.func (.func 160) #[] #[]]) rfl rfl (aw underlying3 Ψ) ?_;intro w2 hM hg);have r:=η (d.o.put (op:=5) (belR _) rfl (show CloR _ _ c 5 _ from rfl) hM hg);have l:=η (aN g.o hg y);clear j t d g hM hg;have d:=r;have g:=l;clear r l;obtain⟨wc,rfl⟩:=γ w2
    revert d;generalize (if (p 5).isSome then i else i+1)=n1;generalize upd p 5 _=f1
  | first
     | done
     | guard_hyp kk3:True
     | have H:=g.o.c 0
    have j:=η d.o.map;have t:Hid (i<maxLen):=by have x:=d.o.len;have D:=z.o;(try simp only[δ] at x);show i<maxLen;unfold maxLen;omega
    first
     | guard_hyp kk2:True
       go_upto_region 2 with (refine ak _ rfl _ _ _ 157 (.inl rfl) 223 (bh underlying3) underlying157 rb i p rfl j.o t.o 13 (.int .i64 13) (.agg #[.int .i64 (-1),.bool false,.bool false,.func (.func 174) #[.pointer (some ⟨c.b,0,none⟩)] #[]]) rfl rfl (aw underlying3 Ψ) ?_;intro w2 hM hg);have r:=η (d.o.put (op:=13) (belR _) rfl (show CloR _ _ c 13 _ from rfl) hM hg);have l:=η (aN g.o hg y);clear j t d g hM hg;clear H;have d:=r;have g:=l;clear r l;obtain⟨wc,rfl⟩:=γ w2
       revert d;generalize (if (p 13).isSome then i else i+1)=n1;generalize upd p 13 _=f1
     | guard_hyp kk3:True
       go_upto_region 2 with (refine ak _ rfl _ _ _ 157 (.inl rfl) 223 (bh underlying3) underlying157 rb i p rfl j.o t.o 33 (.int .i64 33) (.agg #[.int .i64 (-1),.bool true,.bool false,.func (.func 184) #[] #[.pointer (some ⟨u,0,none⟩)]]) rfl rfl (aw underlying3 Ψ) ?_;intro w2 hM hg);have r:=η (d.o.put (op:=33) (belR _) rfl (show CloR _ _ c 33 _ from⟨u,rfl,⟨A,g.o.lt⟩,g.o.cell 0⟩) hM hg);have l:=η (aN g.o hg y);clear j t d g hM hg;have d:=r;have g:=l;clear r l;obtain⟨wc,rfl⟩:=γ w2
       revert d;generalize (if (p 33).isSome then i else i+1)=n1;generalize upd p 33 _=f1;intro d;obtain⟨i,rfl⟩:=γ n1
       obtain⟨p,rfl⟩:=γ f1
       have j:=η d.o.map;have t:Hid (i<maxLen):=by have x:=d.o.len;have D:=z.o;(try simp only[δ] at x);show i<maxLen;unfold maxLen;omega
       go_upto_region 3 with (refine ak _ rfl _ _ _ 157 (.inl rfl) 223 (bh underlying3) underlying157 rb i p rfl j.o t.o 34 (.int .i64 34) (.agg #[.int .i64 (-1),.bool true,.bool false,.func (.func 185) #[] #[.pointer (some ⟨u,0,none⟩)]]) rfl rfl (aw underlying3 Ψ) ?_;intro w2 hM hg);have r:=η (d.o.put (op:=34) (belR _) rfl (show CloR _ _ c 34 _ from⟨u,rfl,⟨A,g.o.lt⟩,g.o.cell 0⟩) hM hg);have l:=η (aN g.o hg y);clear j t d g hM hg;have d:=r;have g:=l;clear r l;obtain⟨wc,rfl⟩:=γ w2
       revert d;generalize (if (p 34).isSome then i else i+1)=n1;generalize upd p 34 _=f1
     | go_upto_region 2 with (refine ak _ rfl _ _ _ 157 (.inl rfl) 223 (bh underlying3) underlying157 rb i p rfl j.o t.o 8 (.int .i64 8) (.agg #[.int .i64 (-1),.bool false,.bool false,.func (.func 164) #[.pointer (some ⟨c.b,0,none⟩)] #[]]) rfl rfl (aw underlying3 Ψ) ?_;intro w2 hM hg)
       have r:=η (d.o.put (op:=8) (belR _) rfl (show CloR _ _ c 8 _ from rfl) hM hg);have l:=η (aN g.o hg y);clear j t d g hM hg;clear H;have d:=r;have g:=l;clear r l;obtain⟨wc,rfl⟩:=γ w2
       revert d;generalize (if (p 8).isSome then i else i+1)=n1;generalize upd p 8 _=f1;intro d;obtain⟨i,rfl⟩:=γ n1
       obtain⟨p,rfl⟩:=γ f1
       have j:=η d.o.map;have t:Hid (i<maxLen):=by have x:=d.o.len;have D:=z.o;(try simp only[δ] at x);show i<maxLen;unfold maxLen;omega
       go_upto_region 3 with (refine ak _ rfl _ _ _ 157 (.inl rfl) 223 (bh underlying3) underlying157 rb i p rfl j.o t.o 9 (.int .i64 9) (.agg #[.int .i64 (-1),.bool false,.bool true,.func (.func 165) #[] #[.pointer (some ⟨u,0,none⟩)]]) rfl rfl (aw underlying3 Ψ) ?_;intro w2 hM hg);have r:=η (d.o.put (op:=9) (belR _) rfl (show CloR _ _ c 9 _ from⟨u,rfl,⟨A,g.o.lt⟩,g.o.cell 0⟩) hM hg);have l:=η (aN g.o hg y);clear j t d g hM hg;have d:=r;have g:=l;clear r l;obtain⟨wc,rfl⟩:=γ w2
       revert d;generalize (if (p 9).isSome then i else i+1)=n1;generalize upd p 9 _=f1;intro d;obtain⟨i,rfl⟩:=γ n1
       obtain⟨p,rfl⟩:=γ f1
       have j:=η d.o.map;have t:Hid (i<maxLen):=by have x:=d.o.len;have D:=z.o;(try simp only[δ] at x);show i<maxLen;unfold maxLen;omega
       go_upto_region 4 with (refine ak _ rfl _ _ _ 157 (.inl rfl) 223 (bh underlying3) underlying157 rb i p rfl j.o t.o 10 (.int .i64 10) (.agg #[.int .i64 1,.bool true,.bool false,.func (.func 169) #[] #[.pointer (some ⟨u,0,none⟩)]]) rfl rfl (aw underlying3 Ψ) ?_;intro w2 hM hg);have r:=η (d.o.put (op:=10) (belR _) rfl (show CloR _ _ c 10 _ from⟨u,rfl,⟨A,g.o.lt⟩,g.o.cell 0⟩) hM hg);have l:=η (aN g.o hg y);clear j t d g hM hg;have d:=r;have g:=l;clear r l;obtain⟨wc,rfl⟩:=γ w2
       revert d;generalize (if (p 10).isSome then i else i+1)=n1;generalize upd p 10 _=f1
 intro d;obtain⟨i,rfl⟩:=γ n1
 obtain⟨p,rfl⟩:=γ f1
 have j:=η d.o.map;have t:Hid (i<maxLen):=by have x:=d.o.len;have D:=z.o;(try simp only[δ] at x);show i<maxLen;unfold maxLen;omega
 first
  | guard_hyp kk0:True
    go_upto_region 7 with (refine ak _ rfl _ _ _ 157 (.inl rfl) 223 (bh underlying3) underlying157 rb i p rfl j.o t.o 6 (.int .i64 6) (.agg #[.int .i64 0,.bool true,.bool false,.func (.func 161) #[] #[]]) rfl rfl (aw underlying3 Ψ) ?_;intro w2 hM hg);have r:=η (d.o.put (op:=6) (belR _) rfl (show CloR _ _ c 6 _ from rfl) hM hg)
  | guard_hyp kk1:True
    go_upto_region 5 with (refine ak _ rfl _ _ _ 157 (.inl rfl) 223 (bh underlying3) underlying157 rb i p rfl j.o t.o 11 (.int .i64 11) (.agg #[.int .i64 2,.bool true,.bool false,.func (.func 171) #[] #[.pointer (some ⟨u,0,none⟩)]]) rfl rfl (aw underlying3 Ψ) ?_;intro w2 hM hg);have r:=η (d.o.put (op:=11) (belR _) rfl (show CloR _ _ c 11 _ from⟨u,rfl,⟨A,g.o.lt⟩,g.o.cell 0⟩) hM hg)
  | guard_hyp kk2:True
    go_upto_region 3 with (refine ak _ rfl _ _ _ 157 (.inl rfl) 223 (bh underlying3) underlying157 rb i p rfl j.o t.o 15 (.int .i64 15) (.agg #[.int .i64 3,.bool false,.bool false,.func (.func 175) #[] #[.pointer (some ⟨u,0,none⟩)]]) rfl rfl (aw underlying3 Ψ) ?_;intro w2 hM hg);have r:=η (d.o.put (op:=15) (belR _) rfl (show CloR _ _ c 15 _ from⟨u,rfl,⟨A,g.o.lt⟩,g.o.cell 0⟩) hM hg)
  | go_upto_region 4 with (refine ak _ rfl _ _ _ 157 (.inl rfl) 223 (bh underlying3) underlying157 rb i p rfl j.o t.o 35 (.int .i64 35) (.agg #[.int .i64 (-1),.bool false,.bool false,.func (.func 186) #[] #[.pointer (some ⟨u,0,none⟩)]]) rfl rfl (aw underlying3 Ψ) ?_;intro w2 hM hg)
    have r:=η (d.o.put (op:=35) (belR _) rfl (show CloR _ _ c 35 _ from⟨u,rfl,⟨A,g.o.lt⟩,g.o.cell 0⟩) hM hg)
 have l:=η (aN g.o hg y);clear j t d g hM hg;have d:=r;have g:=l;clear r l;obtain⟨wc,rfl⟩:=γ w2
 revert d
 first
  | guard_hyp kk0:True
    generalize (if (p 6).isSome then i else i+1)=n1;generalize upd p 6 _=f1
  | guard_hyp kk1:True
    generalize (if (p 11).isSome then i else i+1)=n1;generalize upd p 11 _=f1
  | guard_hyp kk2:True
    generalize (if (p 15).isSome then i else i+1)=n1;generalize upd p 15 _=f1
  | generalize (if (p 35).isSome then i else i+1)=n1
    generalize upd p 35 _=f1
 intro d;obtain⟨i,rfl⟩:=γ n1
 obtain⟨p,rfl⟩:=γ f1
 first
  | guard_hyp kk3:True
    have H:=g.o.c 0
  | skip
 have j:=η d.o.map;have t:Hid (i<maxLen):=by have x:=d.o.len;have D:=z.o;(try simp only[δ] at x);show i<maxLen;unfold maxLen;omega
 first
  | guard_hyp kk3:True
    go_wp2_with (refine ak _ rfl _ _ _ 157 (.inl rfl) 223 (bh underlying3) underlying157 rb i p rfl j.o t.o 36 (.int .i64 36) (.agg #[.int .i64 (-1),.bool true,.bool false,.func (.func 187) #[.pointer (some ⟨c.b,0,none⟩)] #[]]) rfl rfl (aw underlying3 Ψ) ?_;intro w2 hM hg);have r:=η (d.o.put (op:=36) (belR _) rfl (show CloR _ _ c 36 _ from rfl) hM hg)
  | guard_hyp kk0:True
    go_wp2_with (refine ak _ rfl _ _ _ 157 (.inl rfl) 223 (bh underlying3) underlying157 rb i p rfl j.o t.o 7 (.int .i64 7) (.agg #[.int .i64 0,.bool false,.bool false,.func (.func 163) #[] #[.pointer (some ⟨u,0,none⟩)]]) rfl rfl (aw underlying3 Ψ) ?_;intro w2 hM hg);have r:=η (d.o.put (op:=7) (belR _) rfl (show CloR _ _ c 7 _ from⟨u,rfl,⟨A,g.o.lt⟩,g.o.cell 0⟩) hM hg)
  | guard_hyp kk2:True
    go_wp2_with (refine ak _ rfl _ _ _ 157 (.inl rfl) 223 (bh underlying3) underlying157 rb i p rfl j.o t.o 32 (.int .i64 32) (.agg #[.int .i64 2,.bool true,.bool false,.func (.func 177) #[] #[.pointer (some ⟨u,0,none⟩)]]) rfl rfl (aw underlying3 Ψ) ?_;intro w2 hM hg);have r:=η (d.o.put (op:=32) (belR _) rfl (show CloR _ _ c 32 _ from⟨u,rfl,⟨A,g.o.lt⟩,g.o.cell 0⟩) hM hg)
  | go_wp2_with (refine ak _ rfl _ _ _ 157 (.inl rfl) 223 (bh underlying3) underlying157 rb i p rfl j.o t.o 12 (.int .i64 12) (.agg #[.int .i64 (-1),.bool true,.bool true,.func (.func 172) #[] #[.pointer (some ⟨u,0,none⟩)]]) rfl rfl (aw underlying3 Ψ) ?_;intro w2 hM hg)
    have r:=η (d.o.put (op:=12) (belR _) rfl (show CloR _ _ c 12 _ from⟨u,rfl,⟨A,g.o.lt⟩,g.o.cell 0⟩) hM hg)
 have l:=η (aN g.o hg y);clear j t d g hM hg
 first
  | guard_hyp kk3:True
    clear H
  | skip
 have d:=r;have g:=l;clear r l;obtain⟨wc,rfl⟩:=γ w2
 revert d
 first
  | guard_hyp kk0:True
    generalize (if (p 7).isSome then i else i+1)=n1;generalize upd p 7 _=f1
  | guard_hyp kk1:True
    generalize (if (p 12).isSome then i else i+1)=n1;generalize upd p 12 _=f1
  | guard_hyp kk2:True
    generalize (if (p 32).isSome then i else i+1)=n1;generalize upd p 32 _=f1
  | generalize (if (p 36).isSome then i else i+1)=n1
    generalize upd p 36 _=f1
 intro d;obtain⟨i,rfl⟩:=γ n1
 obtain⟨p,rfl⟩:=γ f1
 first
  | guard_hyp kk0:True
    exact bodyPost_ret (v:=.tuple #[]) (by simp[results,results130,go_sem]) rfl ⟨rfl,_,_,d.o⟩
  | guard_hyp kk1:True
    exact bodyPost_ret (v:=.tuple #[]) (by simp[results,results131,go_sem]) rfl ⟨rfl,_,_,d.o⟩
  | guard_hyp kk2:True
    exact bodyPost_ret (v:=.tuple #[]) (by simp[results,results132,go_sem]) rfl ⟨rfl,_,_,d.o⟩
  | exact bodyPost_ret (v:=.tuple #[]) (by simp[results,results134,go_sem]) rfl ⟨rfl,_,_,d.o⟩) :p:=h
section
variable {B:Nat} {w0 w:À} {c:CB} {rb n:Nat} {f:Int->Option Value} {L:List Int} (h:RB B w0 w c rb n f L) (hl:L.length<=1000)
include h hl
theorem constants_any:Calls prog 130 #[c.b,.map (some rb)] w (mG B w0 c rb ([7,6,5,4,3,2,1]++L)):=by
 have kk0:=trivial;exact zfCond
theorem structures_any:Calls prog 131 #[c.b,.map (some rb)] w (mG B w0 c rb ([12,11,10,9,8]++L)):=by
 have kk1:=trivial;exact zfCond
theorem choices_any:Calls prog 132 #[c.b,.map (some rb)] w (mG B w0 c rb ([32,15,13]++L)):=by
 have kk2:=trivial;exact zfCond
theorem calls_any:Calls prog 134 #[c.b,.map (some rb)] w (mG B w0 c rb ([36,35,34,33]++L)):=by
 have kk3:=trivial;exact zfCond
end
def RB.bels {w wc:À} {c:CB} {n:Nat} {f:Int->Option Value} (h:RB B w0 w c rb n f L) (bwc:Below w w wc):RB B w0 wc c rb n f L:=
 ⟨h.bel.trans (bwc.mono h.szw),h.szB,ψ h.szw bwc.size,h.map.below bwc h.map.lt,h.len,λop=>⟨λho=>by obtain⟨v,hv,hr⟩:=(h.rule op).1 ho;exact⟨v,hv,hr.to (lD bwc)⟩,(h.rule op).2⟩⟩
def pH {w:À} {c:CB} {n:Nat} {f:Int->Option Value} (h:RB B w0 w c rb n f L) (hl:L.length<=1000):Calls prog 133 #[.pointer (some ⟨c.b,0,none⟩),.map (some rb)] w (mG B w0 c rb ([25,31,30,29,28,27,26,24,23,22,21,20,17,16,19,18]++L)):=by
 obtain⟨y,aq,an,_⟩:=κ w #[.pointer (some ⟨c.b,0,none⟩)] 99
 have a:Hid (RB B w0 y c rb n f L):=⟨h.bel.trans (an.mono h.szw),h.szB,ψ h.szw an.size,h.map.below an h.map.lt,h.len,λop=>⟨λR=>by obtain⟨v,hv,hr⟩:=(h.rule op).1 R;exact⟨v,hv,hr.to (lD an)⟩,(h.rule op).2⟩⟩
 obtain⟨bx,ax⟩:=γ w.heap.size
 have k:Hid (Hs y bx 99 #[.pointer (some ⟨c.b,0,none⟩)]):=by rw[aq,ax];exact Hs.new _ _ _
 have ab:bx≠rb:=by have:=h.map.lt;omega
 have a5:rb<bx:=by have:=h.map.lt;omega
 obtain⟨af,a0,a1⟩:=zd3 hl aq ax;clear h hl aq an ax;obtain⟨p,rfl⟩:=γ n
 obtain⟨M,rfl⟩:=γ f
 go_in;go_upto_region 1 with fail;rw[<-a0.o,<-a1.o];clear a0 a1;have bc:=k.o.c 0;have g:=η a.o.map;have A:Hid (p<maxLen):=by have h1:=a.o.len;have h2:=af.o;(try simp only[δ] at h1);show p<maxLen;unfold maxLen;omega
 go_upto_region 2 with (first|(go_at_call 179;refine (jt _ 2 _).mono ?_;rintro e1 O ⟨rfl,e,J,H⟩)|(go_at_call 155;refine (dK 2 (.func 200) #[] _ _).mono ?_;rintro e3 w3 ⟨rfl,d,I,G⟩;have g:=η (g.o.below (bel e d) g.o.lt))|(refine ak _ rfl _ _ _ 157 (.inl rfl) 223 (bh underlying3) underlying157 rb p M rfl g.o A.o 18 (.int .i64 18) (.agg #[.int .i64 1,.bool false,.bool false,.func (.func 197) #[] #[.pointer (some ⟨O.heap.size,0,none⟩),.pointer (some ⟨O.heap.size+1,0,none⟩)]]) rfl rfl (aw underlying3 Ψ) ?_;intro w2 X x));have z:=η (a.o.put (op:=18) (bel e d) rfl (show CloR _ _ c 18 _ from gP e d J H I G a.o.map.lt) X x);have r:=η (aN (aH k.o (bel e d)) x ab);clear g A a k X x e J H d I G;clear bc;have a:=z;have k:=r;clear z r;obtain⟨y,rfl⟩:=γ w2
 revert a;generalize (if (M 18).isSome then p else p+1)=n1;generalize upd M 18 _=f1;intro a;obtain⟨p,rfl⟩:=γ n1
 obtain⟨M,rfl⟩:=γ f1
 have bc:=k.o.c 0;have g:=η a.o.map;have A:Hid (p<maxLen):=by have h1:=a.o.len;have h2:=af.o;(try simp only[δ] at h1);show p<maxLen;unfold maxLen;omega
 go_upto_region 3 with (first|(go_at_call 179;refine (jt _ 3 _).mono ?_;rintro e1 O ⟨rfl,e,J,H⟩)|(go_at_call 155;refine (dK 3 (.func 200) #[] _ _).mono ?_;rintro e3 w3 ⟨rfl,d,I,G⟩;have g:=η (g.o.below (bel e d) g.o.lt))|(refine ak _ rfl _ _ _ 157 (.inl rfl) 223 (bh underlying3) underlying157 rb p M rfl g.o A.o 19 (.int .i64 19) (.agg #[.int .i64 1,.bool false,.bool false,.func (.func 197) #[] #[.pointer (some ⟨O.heap.size,0,none⟩),.pointer (some ⟨O.heap.size+1,0,none⟩)]]) rfl rfl (aw underlying3 Ψ) ?_;intro w2 X x));have z:=η (a.o.put (op:=19) (bel e d) rfl (show CloR _ _ c 19 _ from gP e d J H I G a.o.map.lt) X x);have r:=η (aN (aH k.o (bel e d)) x ab);clear g A a k X x e J H d I G;clear bc;have a:=z;have k:=r;clear z r;obtain⟨y,rfl⟩:=γ w2
 revert a;generalize (if (M 19).isSome then p else p+1)=n1;generalize upd M 19 _=f1;intro a;obtain⟨p,rfl⟩:=γ n1
 obtain⟨M,rfl⟩:=γ f1
 go_wp2_with fail;obtain⟨Z,t,E,_⟩:=κ y #[.int .i64 16,.int .i64 17] 3
 obtain⟨N,D⟩:=γ y.heap.size
 rw[<-t,<-D]
 have l:Hid (Hs Z N 3 #[.int .i64 16,.int .i64 17]):=by rw[t,D];exact Hs.new _ _ _
 obtain⟨V,F⟩:=zd2 (a.o.bels E) (aH k.o E);have aa:N≠rb:=by have:=a.o.map.lt;omega
 clear a k t D E;go_loopw [24] (λi wr=>∃(j n1:Nat) (f1:Int->Option Value),j<=2/\i=.int .i64 j/\Hid (RB B w0 wr c rb n1 f1 (([16,17].take j).reverse++(19::18::L)))/\Hid (Hs wr bx 99 #[.pointer (some ⟨c.b,0,none⟩)])/\Hid (Hs wr N 3 #[.int .i64 16,.int .i64 17])) (λi _=>2-(intOf i).toNat)
 case atStart=>exact⟨0,_,_,ω,rfl,V.o,F.o,l.o⟩
 case round =>
  clear V F l;obtain⟨j,p,M,hj,rfl,a,k,l⟩:=hrel;by_cases hlt:j<2
  ·have u1:decide ((j:Int)<2)=true:=decide_eq_true ω;obtain⟨o,u⟩:=γ ([16,17].getD j 0:Int)
   have av:wr.cell? ⟨N,j,none⟩=some (.int .i64 o):=by
    rw[l.o.cell,u];match j,hlt with
    | 0,_=>rfl
    | 1,_=>rfl
   have R:o=16\/o=17:=by
    rw[u];match j,hlt with
    | 0,_=>simp
    | 1,_=>simp
   have ae:Hid (([16,17].take (j+1)).reverse++(19::18::L)=o::(([16,17].take j).reverse++(19::18::L))):=by
    show _=_;rw[u];match j,hlt with
    | 0,_=>rfl
    | 1,_=>rfl
   have ad:Hid (i64 o):=by show i64 o;unfold i64;omega
   have ac:Hid (bK o=some (2,false,false)):=by rcases R with rfl|rfl<;>rfl
   have ah:Hid (∀(W:À) (Q:Nat->Prop) (v:Value),FixR W Q 2 (KidsR W Q c 2) v->CloR W Q c o v):=λW Q v hv=>by rcases R with rfl|rfl<;>exact hv
   have j0:(0:Int)<=(j:Int):=ω;have j1:(j:Int)<2:=ω;have bc:=k.o.c 0
   have ag:Hid ((([16,17].take j).reverse++(19::18::L)).length<=1100):=by
    show _<=_;have:=af.o;simp only[μ,List.length_reverse,List.length_take,δ,List.length_nil];omega
   clear R u;have g:=η a.o.map;have A:Hid (p<maxLen):=by have h1:=a.o.len;have h2:=ag.o;show p<maxLen;unfold maxLen;omega
   go_wp2_with (first|(go_at_call 179;refine (jt _ 2 _).mono ?_;rintro e1 O ⟨rfl,e,J,H⟩)|(go_at_call 155;refine (dK 2 (.func 200) #[] _ _).mono ?_;rintro e3 w3 ⟨rfl,d,I,G⟩;have g:=η (g.o.below (bel e d) g.o.lt))|(refine ak _ rfl _ _ _ 157 (.inl rfl) 223 (bh underlying3) underlying157 rb p M rfl g.o A.o o (.int .i64 o) (.agg #[.int .i64 2,.bool false,.bool false,.func (.func 197) #[] #[.pointer (some ⟨O.heap.size,0,none⟩),.pointer (some ⟨O.heap.size+1,0,none⟩)]]) rfl rfl (aw underlying3 ad.o) ?_;intro w2 X x));have z:=η (a.o.put (op:=o) (bel e d) ac.o (ah.o _ _ _ (gP e d J H I G a.o.map.lt)) X x);have r:=η (aN (aH k.o (bel e d)) x ab);have Y:=η (aN (aH l.o (bel e d)) x aa);have U:=z.o;rw[<-ae.o] at U;exact⟨⟨j+1,_,_,ω,by go_num,U,r.o,Y.o⟩,by simp[intOf];omega⟩
  have u1:decide ((j:Int)<2)=false:=decide_eq_false ω
  have T:([16,17].take j).reverse++(19::18::L)=17::16::19::18::L:=by
   obtain rfl:j=2:=ω;rfl
  rw[T] at a;obtain⟨y,rfl⟩:=γ wr
  clear l T;go_wp2_with fail;obtain⟨Z,t,E,_⟩:=κ y #[.int .i64 20,.int .i64 21,.int .i64 22,.int .i64 23,.int .i64 24] 3
  obtain⟨N,D⟩:=γ y.heap.size
  rw[<-t,<-D]
  have l:Hid (Hs Z N 3 #[.int .i64 20,.int .i64 21,.int .i64 22,.int .i64 23,.int .i64 24]):=by rw[t,D];exact Hs.new _ _ _
  obtain⟨V,F⟩:=zd2 (a.o.bels E) (aH k.o E);have aa:N≠rb:=by have:=a.o.map.lt;omega
  clear a k t D E;go_loopw [37] (λi wr=>∃(j n1:Nat) (f1:Int->Option Value),j<=5/\i=.int .i64 j/\Hid (RB B w0 wr c rb n1 f1 (([20,21,22,23,24].take j).reverse++(17::16::19::18::L)))/\Hid (Hs wr bx 99 #[.pointer (some ⟨c.b,0,none⟩)])/\Hid (Hs wr N 3 #[.int .i64 20,.int .i64 21,.int .i64 22,.int .i64 23,.int .i64 24])) (λi _=>5-(intOf i).toNat)
  case atStart=>exact⟨0,_,_,ω,rfl,V.o,F.o,l.o⟩
  case round =>
   clear V F l;obtain⟨j,p,M,hj,rfl,a,k,l⟩:=hrel;by_cases hlt:j<5
   ·have u1:decide ((j:Int)<5)=true:=decide_eq_true ω;obtain⟨o,u⟩:=γ ([20,21,22,23,24].getD j 0:Int)
    have av:wr.cell? ⟨N,j,none⟩=some (.int .i64 o):=by
     rw[l.o.cell,u];match j,hlt with
     | 0,_=>rfl
     | 1,_=>rfl
     | 2,_=>rfl
     | 3,_=>rfl
     | 4,_=>rfl
    have R:o=20\/o=21\/o=22\/o=23\/o=24:=by
     rw[u];match j,hlt with
     | 0,_=>simp
     | 1,_=>simp
     | 2,_=>simp
     | 3,_=>simp
     | 4,_=>simp
    have ae:Hid (([20,21,22,23,24].take (j+1)).reverse++(17::16::19::18::L)=o::(([20,21,22,23,24].take j).reverse++(17::16::19::18::L))):=by
     show _=_;rw[u];match j,hlt with
     | 0,_=>rfl
     | 1,_=>rfl
     | 2,_=>rfl
     | 3,_=>rfl
     | 4,_=>rfl
    have ad:Hid (i64 o):=by show i64 o;unfold i64;omega
    have ac:Hid (bK o=some (2,false,false)):=by rcases R with rfl|rfl|rfl|rfl|rfl<;>rfl
    have ah:Hid (∀(W:À) (Q:Nat->Prop) (v:Value),FixR W Q 3 (KidsR W Q c 3) v->CloR W Q c o v):=λW Q v hv=>by rcases R with rfl|rfl|rfl|rfl|rfl<;>exact hv
    have j0:(0:Int)<=(j:Int):=ω;have j1:(j:Int)<5:=ω;have bc:=k.o.c 0
    have ag:Hid ((([20,21,22,23,24].take j).reverse++(17::16::19::18::L)).length<=1100):=by
     show _<=_;have:=af.o;simp only[μ,List.length_reverse,List.length_take,δ,List.length_nil];omega
    clear R u;have g:=η a.o.map;have A:Hid (p<maxLen):=by have h1:=a.o.len;have h2:=ag.o;show p<maxLen;unfold maxLen;omega
    go_wp2_with (first|(go_at_call 179;refine (jt _ 3 _).mono ?_;rintro e1 O ⟨rfl,e,J,H⟩)|(go_at_call 155;refine (dK 3 (.func 200) #[] _ _).mono ?_;rintro e3 w3 ⟨rfl,d,I,G⟩;have g:=η (g.o.below (bel e d) g.o.lt))|(refine ak _ rfl _ _ _ 157 (.inl rfl) 223 (bh underlying3) underlying157 rb p M rfl g.o A.o o (.int .i64 o) (.agg #[.int .i64 2,.bool false,.bool false,.func (.func 197) #[] #[.pointer (some ⟨O.heap.size,0,none⟩),.pointer (some ⟨O.heap.size+1,0,none⟩)]]) rfl rfl (aw underlying3 ad.o) ?_;intro w2 X x));have z:=η (a.o.put (op:=o) (bel e d) ac.o (ah.o _ _ _ (gP e d J H I G a.o.map.lt)) X x);have r:=η (aN (aH k.o (bel e d)) x ab);have Y:=η (aN (aH l.o (bel e d)) x aa);have U:=z.o;rw[<-ae.o] at U;exact⟨⟨j+1,_,_,ω,by go_num,U,r.o,Y.o⟩,by simp[intOf];omega⟩
   have u1:decide ((j:Int)<5)=false:=decide_eq_false ω
   have T:([20,21,22,23,24].take j).reverse++(17::16::19::18::L)=24::23::22::21::20::17::16::19::18::L:=by
    obtain rfl:j=5:=ω;rfl
   rw[T] at a;obtain⟨y,rfl⟩:=γ wr
   clear l T;go_wp2_with fail;obtain⟨Z,t,E,_⟩:=κ y #[.int .i64 26,.int .i64 27] 3
   obtain⟨N,D⟩:=γ y.heap.size
   rw[<-t,<-D]
   have l:Hid (Hs Z N 3 #[.int .i64 26,.int .i64 27]):=by rw[t,D];exact Hs.new _ _ _
   obtain⟨V,F⟩:=zd2 (a.o.bels E) (aH k.o E);have aa:N≠rb:=by have:=a.o.map.lt;omega
   clear a k t D E;go_loopw [50] (λi wr=>∃(j n1:Nat) (f1:Int->Option Value),j<=2/\i=.int .i64 j/\Hid (RB B w0 wr c rb n1 f1 (([26,27].take j).reverse++(24::23::22::21::20::17::16::19::18::L)))/\Hid (Hs wr bx 99 #[.pointer (some ⟨c.b,0,none⟩)])/\Hid (Hs wr N 3 #[.int .i64 26,.int .i64 27])) (λi _=>2-(intOf i).toNat)
   case atStart=>exact⟨0,_,_,ω,rfl,V.o,F.o,l.o⟩
   case round =>
    clear V F l;obtain⟨j,p,M,hj,rfl,a,k,l⟩:=hrel;by_cases hlt:j<2
    ·have u1:decide ((j:Int)<2)=true:=decide_eq_true ω;obtain⟨o,u⟩:=γ ([26,27].getD j 0:Int)
     have av:wr.cell? ⟨N,j,none⟩=some (.int .i64 o):=by
      rw[l.o.cell,u];match j,hlt with
      | 0,_=>rfl
      | 1,_=>rfl
     have R:o=26\/o=27:=by
      rw[u];match j,hlt with
      | 0,_=>simp
      | 1,_=>simp
     have ae:Hid (([26,27].take (j+1)).reverse++(24::23::22::21::20::17::16::19::18::L)=o::(([26,27].take j).reverse++(24::23::22::21::20::17::16::19::18::L))):=by
      show _=_;rw[u];match j,hlt with
      | 0,_=>rfl
      | 1,_=>rfl
     have ad:Hid (i64 o):=by show i64 o;unfold i64;omega
     have ac:Hid (bK o=some (2,false,false)):=by rcases R with rfl|rfl<;>rfl
     have ah:Hid (∀(W:À) (Q:Nat->Prop) (v:Value),FixR W Q 2 (PairR W Q c 139) v->CloR W Q c o v):=λW Q v hv=>by rcases R with rfl|rfl<;>exact hv
     have j0:(0:Int)<=(j:Int):=ω;have j1:(j:Int)<2:=ω;have bc:=k.o.c 0
     have ag:Hid ((([26,27].take j).reverse++(24::23::22::21::20::17::16::19::18::L)).length<=1100):=by
      show _<=_;have:=af.o;simp only[μ,List.length_reverse,List.length_take,δ,List.length_nil];omega
     clear R u;have g:=η a.o.map;have A:Hid (p<maxLen):=by have h1:=a.o.len;have h2:=ag.o;show p<maxLen;unfold maxLen;omega
     go_wp2_with (first|(go_at_call 180;refine (oA _ (.func 139) #[] #[] _).mono ?_;rintro e1 O ⟨rfl,e,J,H⟩)|(go_at_call 155;refine (dK 2 (.func 201) #[] _ _).mono ?_;rintro e3 w3 ⟨rfl,d,I,G⟩;have g:=η (g.o.below (bel e d) g.o.lt))|(refine ak _ rfl _ _ _ 157 (.inl rfl) 223 (bh underlying3) underlying157 rb p M rfl g.o A.o o (.int .i64 o) (.agg #[.int .i64 2,.bool false,.bool false,.func (.func 197) #[] #[.pointer (some ⟨O.heap.size,0,none⟩),.pointer (some ⟨O.heap.size+1,0,none⟩)]]) rfl rfl (aw underlying3 ad.o) ?_;intro w2 X x));have z:=η (a.o.put (op:=o) (bel e d) ac.o (ah.o _ _ _ (lu e d J H I G a.o.map.lt)) X x);have r:=η (aN (aH k.o (bel e d)) x ab);have Y:=η (aN (aH l.o (bel e d)) x aa);have U:=z.o;rw[<-ae.o] at U;exact⟨⟨j+1,_,_,ω,by go_num,U,r.o,Y.o⟩,by simp[intOf];omega⟩
    have u1:decide ((j:Int)<2)=false:=decide_eq_false ω
    have T:([26,27].take j).reverse++(24::23::22::21::20::17::16::19::18::L)=27::26::24::23::22::21::20::17::16::19::18::L:=by
     obtain rfl:j=2:=ω;rfl
    rw[T] at a;obtain⟨y,rfl⟩:=γ wr
    clear l T;go_wp2_with fail;obtain⟨Z,t,E,_⟩:=κ y #[.int .i64 28,.int .i64 29,.int .i64 30,.int .i64 31] 3
    obtain⟨N,D⟩:=γ y.heap.size
    rw[<-t,<-D]
    have l:Hid (Hs Z N 3 #[.int .i64 28,.int .i64 29,.int .i64 30,.int .i64 31]):=by rw[t,D];exact Hs.new _ _ _
    obtain⟨V,F⟩:=zd2 (a.o.bels E) (aH k.o E);have aa:N≠rb:=by have:=a.o.map.lt;omega
    clear a k t D E;go_loopw [63] (λi wr=>∃(j n1:Nat) (f1:Int->Option Value),j<=4/\i=.int .i64 j/\Hid (RB B w0 wr c rb n1 f1 (([28,29,30,31].take j).reverse++(27::26::24::23::22::21::20::17::16::19::18::L)))/\Hid (Hs wr bx 99 #[.pointer (some ⟨c.b,0,none⟩)])/\Hid (Hs wr N 3 #[.int .i64 28,.int .i64 29,.int .i64 30,.int .i64 31])) (λi _=>4-(intOf i).toNat)
    case atStart=>exact⟨0,_,_,ω,rfl,V.o,F.o,l.o⟩
    case round =>
     clear V F l;obtain⟨j,p,M,hj,rfl,a,k,l⟩:=hrel;by_cases hlt:j<4
     ·have u1:decide ((j:Int)<4)=true:=decide_eq_true ω;obtain⟨o,u⟩:=γ ([28,29,30,31].getD j 0:Int)
      have av:wr.cell? ⟨N,j,none⟩=some (.int .i64 o):=by
       rw[l.o.cell,u];match j,hlt with
       | 0,_=>rfl
       | 1,_=>rfl
       | 2,_=>rfl
       | 3,_=>rfl
      have R:o=28\/o=29\/o=30\/o=31:=by
       rw[u];match j,hlt with
       | 0,_=>simp
       | 1,_=>simp
       | 2,_=>simp
       | 3,_=>simp
      have ae:Hid (([28,29,30,31].take (j+1)).reverse++(27::26::24::23::22::21::20::17::16::19::18::L)=o::(([28,29,30,31].take j).reverse++(27::26::24::23::22::21::20::17::16::19::18::L))):=by
       show _=_;rw[u];match j,hlt with
       | 0,_=>rfl
       | 1,_=>rfl
       | 2,_=>rfl
       | 3,_=>rfl
      have ad:Hid (i64 o):=by show i64 o;unfold i64;omega
      have ac:Hid (bK o=some (2,false,false)):=by rcases R with rfl|rfl|rfl|rfl<;>rfl
      have ah:Hid (∀(W:À) (Q:Nat->Prop) (v:Value),FixR W Q 2 (PairR W Q c 181) v->CloR W Q c o v):=λW Q v hv=>by rcases R with rfl|rfl|rfl|rfl<;>exact hv
      have j0:(0:Int)<=(j:Int):=ω;have j1:(j:Int)<4:=ω;have bc:=k.o.c 0
      have ag:Hid ((([28,29,30,31].take j).reverse++(27::26::24::23::22::21::20::17::16::19::18::L)).length<=1100):=by
       show _<=_;have:=af.o;simp only[μ,List.length_reverse,List.length_take,δ,List.length_nil];omega
      clear R u;have g:=η a.o.map;have A:Hid (p<maxLen):=by have h1:=a.o.len;have h2:=ag.o;show p<maxLen;unfold maxLen;omega
      go_wp2_with (first|(go_at_call 180;refine (oA _ (.func 181) #[] #[] _).mono ?_;rintro e1 O ⟨rfl,e,J,H⟩)|(go_at_call 155;refine (dK 2 (.func 201) #[] _ _).mono ?_;rintro e3 w3 ⟨rfl,d,I,G⟩;have g:=η (g.o.below (bel e d) g.o.lt))|(refine ak _ rfl _ _ _ 157 (.inl rfl) 223 (bh underlying3) underlying157 rb p M rfl g.o A.o o (.int .i64 o) (.agg #[.int .i64 2,.bool false,.bool false,.func (.func 197) #[] #[.pointer (some ⟨O.heap.size,0,none⟩),.pointer (some ⟨O.heap.size+1,0,none⟩)]]) rfl rfl (aw underlying3 ad.o) ?_;intro w2 X x));have z:=η (a.o.put (op:=o) (bel e d) ac.o (ah.o _ _ _ (lu e d J H I G a.o.map.lt)) X x);have r:=η (aN (aH k.o (bel e d)) x ab);have Y:=η (aN (aH l.o (bel e d)) x aa);have U:=z.o;rw[<-ae.o] at U;exact⟨⟨j+1,_,_,ω,by go_num,U,r.o,Y.o⟩,by simp[intOf];omega⟩
     have u1:decide ((j:Int)<4)=false:=decide_eq_false ω
     have T:([28,29,30,31].take j).reverse++(27::26::24::23::22::21::20::17::16::19::18::L)=31::30::29::28::27::26::24::23::22::21::20::17::16::19::18::L:=by
      obtain rfl:j=4:=ω;rfl
     rw[T] at a;obtain⟨y,rfl⟩:=γ wr
     clear l T;have g:=η a.o.map;have A:Hid (p<maxLen):=by have h1:=a.o.len;have h2:=af.o;(try simp only[δ] at h1);show p<maxLen;unfold maxLen;omega
     go_wp2_with (refine ak _ rfl _ _ _ 157 (.inl rfl) 223 (bh underlying3) underlying157 rb p M rfl g.o A.o 25 (.int .i64 25) (.agg #[.int .i64 2,.bool false,.bool false,.func (.func 182) #[] #[.pointer (some ⟨bx,0,none⟩)]]) rfl rfl (aw underlying3 Ψ) ?_;intro w2 X x);have z:=η (a.o.put (op:=25) (belR _) rfl (show CloR _ _ c 25 _ from⟨bx,rfl,⟨a5,k.o.lt⟩,k.o.cell 0⟩) X x);have r:=η (aN k.o x ab);clear g A a k X x;have a:=z;have k:=r;clear z r;obtain⟨y,rfl⟩:=γ w2
     revert a;generalize (if (M 25).isSome then p else p+1)=n1;generalize upd M 25 _=f1;intro a;obtain⟨p,rfl⟩:=γ n1
     obtain⟨M,rfl⟩:=γ f1
     exact bodyPost_ret (v:=.tuple #[]) (by simp[results,results133,go_sem]) rfl ⟨rfl,_,_,a.o⟩
def ScN (w0 w:À) (sc:Sc):Prop:=∃n f va ks,ScR w (only w0.heap.size) w0 (w0+1) sc n f va ks/\∀i,ValR w (lo w0) (f i) (sc.bound i)
variable {wr:À}
def sub_ll {w:À} (h:Below w w wr):Sub (lo w) (lo w) w wr:=λb hb=>⟨hb,h.block b hb⟩
def sub_l3 {w W2:À} (h:Below w w wr) (k:Below wr wr W2):Sub (lo w) (im (only w.heap.size) W2) wr W2:=λb hb=>by
 unfold lo at hb
 exact⟨⟨ρ hb (ψ h.size k.size),λe=>by unfold only at e;omega⟩,k.block b (ρ hb h.size)⟩
variable {A:Option Addr}
def val_put {w W2 w3:À} {f:Int->Option Value} {g:Int->Option Ty} {i:Int} {s:Ê} {m cap:Nat} {t:Ty} (hv:∀i,ValR wr (lo w) (f i) (g i)) (hb:Below w w wr) (hb2:Below wr wr W2) (hg:W2.grownBy w3 (some w)) (ht:TyR wr (lo w) [.int .i64 k,.string s,.slice A m cap] t):
 ∀j,ValR w3 (lo w) (upd f i (some (.agg #[k,s,.slice A m cap])) j) (if j=i then some t else g j):=by
 have S:Sub (lo w) (lo w) wr w3:=λb h=>⟨h,by
  unfold lo at h;exact (hg.block b (ρ h (ψ hb.size hb2.size)) (λe=>by injection e with e;omega)).trans (hb2.block b (ρ h hb.size))⟩
 intro j;unfold upd;by_cases e:j=i
 ·simp only[if_pos e];exact⟨k,s,A,m,cap,rfl,ht.to S⟩
 simp only[if_neg e];exact (hv j).to S
variable {sc:Sc}
def ScN.scs {w:À} (h:ScN w0 w sc):ScS w (only w0.heap.size) w0 (w0+1) sc:=by
 obtain⟨n,f,a,b,h,_⟩:=h;exact⟨n,f,a,b,h⟩
variable {v:Value}
theorem ScN.vars {w:À} {l:List Vr} (h:ScN w0 w sc) (hb:Below w0 w0 w) (hx:Hs w (w0+1) 178 cs) (hc:cs.size=4) (hl:VrsR w0 (lo w0) v l):
 ScS (w.setCell ⟨w0+1,2,none⟩ v) (only w0.heap.size) w0 (w0+1) { sc with vars:=l }:=by
 obtain⟨n,f,u,q,h,t⟩:=h;have d:∀b,b≠w0.heap.size+1->(w.setCell ⟨w0+1,2,none⟩ v).heap[b]?=w.heap[b]?:=λb hb=>Below.heap_setCell _ _ _ _ hb;have g:(w.setCell ⟨w0+1,2,none⟩ v).heap.size=w:=by simp[World.setCell]
 have S:Sub (lo w0) (im (only w0.heap.size) (w.setCell ⟨w0+1,2,none⟩ v)) w (w.setCell ⟨w0+1,2,none⟩ v):=λb hb'=>by
  unfold lo at hb';exact⟨⟨by rw[g];exact ρ hb' hb.size,λe=>by unfold only at e;omega⟩,d b ω⟩
 have a:=hx.put 2 v;have p:=h.c0;have k:=h.c1;have j:=h.c3;rw[hx.cell] at p k j;refine⟨n,f,v,q,h.om,⟨by rw[g];exact h.isb.1,h.isb.2⟩,?_,?_,?_,?_,VrsR.to hl (λb hb'=>let r:=S b hb';⟨r.1,r.2.trans (hb.block b hb')⟩),h.map.same (d _ ω),λi=>(t i).to S,h.nd,h.kl,h.km,h.ki,h.sl,h.ac⟩
 ·rw[a.cell];simpa using p
 ·rw[a.cell];simpa using k
 ·rw[a.cell];simp[hc]
 rw[a.cell];simpa using j
def NewSaid2 (w:À) (slots actor:Int) (l:List Fld) (e:Ending) (w':À):Prop:=
 e=.returned ((w+1:Nat):Vl)/\Below w w w'/\ScN w w' (dC slots actor l)/\Hs w' (w+1) 178 #[slots,.map (some w),(),actor]
def iz (slots actor:Int) (v:Value) (l:List Fld) (w:À) (hl:FldsR w (lo w) v l) (hs:(l.length:Int)<=slots) (hs2:slots<=32768) (hac:i64 actor):Calls prog 104 #[slots,v,actor] w (NewSaid2 w slots actor l):=by
 obtain⟨A,cap,rfl⟩:=hl.form;have al:=hl.le9;obtain⟨HL,X,R,an⟩:=zd4 hl hac hs hs2;have I:=@run_makeMap prog;clear hl hac;go_in;go_wp2_with fail
 have HI:Hid (ScN w ((w.alloc (.map #[] 0)).alloc (.cells #[slots,.map (some w),(),actor] 178)) (dC slots actor (l.take 0))):=by
  have hh:(((w.alloc (.map #[] 0)).alloc (.cells #[slots,.map (some w),(),actor] 178))).heap[w.heap.size+1]?=some (.cells #[slots,.map (some w),(),actor] 178 (0,0)):=by
   have:=heap_alloc_new (w.alloc (.map #[] 0)) (.cells #[slots,.map (some w),(),actor] 178);simpa using this
  have q:=λi=>cell_of_row _ (w+1) i _ 178 (0,0) hh;refine⟨0,λ_=>none,.slice none 0 0,[],⟨rfl,⟨by simp,λe=>by unfold only at e;omega⟩,q 0,q 1,q 2,q 3,SlR.nil,?_,λi=>?_,List.nodup_nil,rfl,λi=>?_,λi hi=>(by cases hi),hs2,X⟩,λi=>by simp[dC,ValR]⟩
  ·exact (MapIs.alloc ((MapIs.made prog 3 (Lit.int .i64) w)) _).congr λs=>by simp
  ·simp[dC,ValR]
  simp[dC]
 have W:Hid (Below w w ((w.alloc (.map #[] 0)).alloc (.cells #[slots,.map (some w),(),actor] 178))):=belA ζ1 _;have M:Hid (Hs ((w.alloc (.map #[] 0)).alloc (.cells #[slots,.map (some w),(),actor] 178)) (w+1) 178 #[slots,.map (some w),(),actor]):=dI w _ 178 _;clear hs hs2 I;go_loopw [17] (λi wr=>∃j:Nat,j<=l/\i=.int .i64 j/\Hid (Below w w wr)/\Hid (ScN w wr (dC slots actor (l.take j)))/\Hid (Hs wr (w+1) 178 #[slots,.map (some w),(),actor])) (λi _=>l.length-(intOf i).toNat)
 case atStart=>exact⟨0,ω,rfl,W,HI,M⟩
 case round =>
  obtain⟨j,hj,rfl,k,y,x⟩:=hrel;by_cases hlt:j<l
  ·obtain⟨T,V⟩:=zd2 (oB (slots:=slots) (actor:=actor) hlt) (oC (actor:=actor) hlt R);obtain⟨n,f,va,ks,b,t⟩:=y.o;have N:=η t;clear t;have O:=η b;obtain⟨g1,ad,D,B,F,G,E,rfl,am,e1,v0,v1,Z,Y,H,u⟩:=dw (FldsR.to HL (sub_ll k)) hlt;have z:=η u;have L:=b.c1;clear u e1 H b;go_upto_region 5 with fail;refine wp_region_still_tail 7 Δ Δ ?_;obtain⟨g,a⟩:=γ ((wr.alloc (.cells #[.string l[j].name,D,B,.slice G F E] 118)).drew)
   have r:Below wr wr g:=by rw[a];exact ζ1.drew
   have d0:=belC r L;have f0:g.cell? ⟨wr,1,none⟩=some (D:Vl):=by rw[a];simp
   have f1:g.cell? ⟨wr,2,none⟩=some (B:Vl):=by rw[a];simp
   have f2:g.cell? ⟨wr,3,none⟩=some (.slice G F E):=by rw[a];simp
   change wpStill _ _ (World.drew _) (λa'=>wpList _ _ _ _ a' (World.drew _)) _ _;rw[<-a];obtain⟨d,h⟩:=zd2 r (O.below r);have U:Hid (i64 (j:Int)):=by show i64 _;unfold i64;omega
   clear a r L v0 v1 Z Y;simp only[List.take_succ_cons,List.take_zero,List.drop_succ_cons,List.drop_zero];repeat still_step
   refine wpStill_nil ?_;go_wp2_with (refine ak _ rfl _ _ _ 176 (.inl rfl) 40 (bh underlying3) underlying176 w n f rfl h.map (by have:=h.n_le;unfold maxLen;omega) (j:Int) (.int .i64 (j:Int)) (.agg #[D,B,.slice G F E]) rfl rfl (aw underlying3 U) ?_;intro w3 J p);refine⟨⟨j+1,ω,by go_num,mE (bel k d) (smO (Stm.refl _ _) p ⟨_,_,J⟩).s (υ _),?_,aN (aH x d) p ω⟩,by simp[intOf];omega⟩;show ScN _ _ _;rw[T.o];exact⟨_,_,_,_,h.put (z.to (sub_l3 k d)) V p J,val_put N k d p z⟩
  have HF:Hid (ScN w wr (dC slots actor l)):=by
   have:=y.o;rw[List.take_of_length_le ω] at this;exact this
  go_wp2;go_ret;exact⟨rfl,k,HF,x⟩
variable {P:Nat->Prop} {i:Nat}
def pD {w:À} {n cap:Nat} {l:List St} (h:StsR w P (.slice A n cap) l) (hi:i<l):
 ∃g off op x m s u xs thn els arms A0 c0 A1 c1 A2 c2 A3 c3,A=some ⟨g,off,none⟩/\P g/\l[i]=.mk op x m s u xs thn els arms/\w.cell? ⟨g,off+i*9,none⟩=some (.int .i64 op)/\w.cell? ⟨g,off+i*9+1,none⟩=some (.int .i64 x)/\w.cell? ⟨g,off+i*9+2,none⟩=some (.int .i64 m)/\w.cell? ⟨g,off+i*9+3,none⟩=some (.string s)/\w.cell? ⟨g,off+i*9+4,none⟩=some (.string u)/\w.cell? ⟨g,off+i*9+5,none⟩=some (.slice A0 xs.length c0)/\w.cell? ⟨g,off+i*9+6,none⟩=some (.slice A1 thn.length c1)/\w.cell? ⟨g,off+i*9+7,none⟩=some (.slice A2 els.length c2)/\w.cell? ⟨g,off+i*9+8,none⟩=some (.slice A3 arms.length c3) /\
  (i64 op/\i64 x/\i64 m)/\s.size<=maxLen/\u.size<=maxLen/\ExsR w P (.slice A0 xs.length c0) xs/\StsR w P (.slice A1 thn.length c1) thn/\StsR w P (.slice A2 els.length c2) els/\StsR w P (.slice A3 arms.length c3) arms:=by
 obtain⟨g,off,D,k,j,f,B,d⟩:=SlR.at h hi;obtain⟨op,x,m,s,u,xs,a,b,c,A0,c0,A1,c1,A2,c2,A3,c3,rfl,e,z,y,v,t,r,q,p⟩:=kA f;exact⟨g,off,op,x,m,s,u,xs,a,b,c,A0,c0,A1,c1,A2,c2,A3,c3,k,j,e,d 0 _ rfl,d 1 _ rfl,d 2 _ rfl,d 3 _ rfl,d 4 _ rfl,d 5 _ rfl,d 6 _ rfl,d 7 _ rfl,d 8 _ rfl,z,y,v,t,r,q,p⟩
def stm_arm {mb:Nat} {own:Nat->Prop} (hm:own mb):ArmRel mb own (Stm mb) where
 refl w:=Stm.refl _ _
 trans h k:=h.trans k
 bel h k:=⟨⟨k.os.trans h.s.os,k.tape.trans h.s.tape,k.output.trans h.s.output,ψ h.s.size k.size,λb hb ho=>(k.block b hb).trans (h.s.block b hb ho)⟩,λx=>(h.m x).same (k.block mb x.lt)⟩
 stm h k:=h.trans k
 stp h:=h.s.wk λb x=>by unfold only at x;rw[x];exact hm
def InvT (_:Nat) (_:Nat->Prop) (_:Unit) (_:À):Prop:=True
variable {B:Sc->List St->Bool} {arms:List St}
def si (hi:i<arms):dr B arms () i sc=if B sc arms[i].thn then some () else none:=by
 unfold dr;rw[ξ hi]
def body203 {c:CB} {p:Pg} {mb M n:Nat} (IS:eY c p mb M n) {O:Nat->Prop} {sb b1 b2 b3:Nat} {cap:Nat} {w:À} (he:Env w O mb sb c p sc) (ho:ScOk p sc) (ha0:0<=sc.actor) (h1:im O w b1) (c1:w.cell? b1=some (c.b:Vl)) (h2:im O w b2) (c2:w.cell? b2=some (sb:Vl)) (h3:im O w b3) (c3:w.cell? ⟨b3,8,none⟩=some (.slice A arms.length cap)) (hx:StsR w (im O w) (.slice A arms.length cap) arms) (hi:i<arms.length) (hd:St.deeps arms[i].thn<=n):
 Calls prog 203 #[.int .i64 i,b1,b2,b3] w (kO O mb sb (Stm mb) (InvT (i+1)) sc w (dr (aF p M n) arms () i sc)):=by
 have k:=η (si (B:=aF p M n) (sc:=sc) hi);have a:=he.mb;obtain⟨g,ac,op,x,m,s,u,xs,thn,ag,ar,A0,c0,A1,aj,A2,ai,A3,ah,rfl,t,D,X,V,U,T,R,N,l,L,J,_,_,_,_,q,_,_⟩:=pD hx hi;rw[D] at k hd;have r:g≠mb:=λe=>t.2 (by rw[e];exact a.1);have z:b1≠mb:=λe=>h1.2 (by rw[e];exact a.1);have y:b2≠mb:=λe=>h2.2 (by rw[e];exact a.1);have v:b3≠mb:=λe=>h3.2 (by rw[e];exact a.1);replace l:=stpC l r;replace c1:=stpC c1 z;replace c2:=stpC c2 y;replace c3:=stpC c3 v;obtain⟨H,Z,G,HA,Y,HD⟩:=zd6 IS he ho ha0 q hd;have j0:(0:Int)<=(i:Int):=ω;have j1:(i:Int)<(arms.length:Int):=ω;obtain⟨E,f⟩:=γ (aF p M n sc thn)
 have F:Hid (dr (aF p M n) arms () i sc=if E then some () else none):=by show _=_;rw[k.o,f];rfl
 have I:=η f.symm;clear IS he ho ha0 a hx q hd h1 h2 h3 t D X V U T R N L J k f;go_in;go_upto_region 1 with fail
 go_region_held3 (λW=>Stm mb w W) (first|exact smDr _ _|exact Stm.trans ι d)
  (first|(go_at_call 106;refine (H.o O sb sc _ thn _ HD.o (Z.o.bel (ad _)) G.o HA.o (StsR.to Y.o (sof (ad _)).sub)).mono ?_;rw[I.o];rintro e2 w5 ⟨rfl,d,j⟩))
 go_wp2;go_ret;rw[F.o]
 cases E with
 | false=>exact⟨(smDr _ _).trans d,rfl,λ_ h=>by cases h⟩
 | true=>exact⟨(smDr _ _).trans d,rfl,λ_ _=>⟨trivial,j rfl⟩⟩
variable {base:Nat} {xs:List Value}
def Two.bel {W0 W W':À} {vn vm:Value} {jn jm:Nat} {ys:List Value} (h:Two base W0 W vn vm jn jm xs ys) (k:Below W W W'):Two base W0 W' vn vm jn jm xs ys:=
 have g:W.grownBy W' none:=⟨k.os,k.tape,k.output,k.size,λb hb _=>k.block b hb⟩
 ⟨h.b.trans (k.mono h.s),ψ h.s k.size,h.on.kept g (by cases hx:vn.ownBlock<;>simp),h.om.kept g (by cases hx:vm.ownBlock<;>simp),h.ne⟩
def TwoS (W0 W:À) (An Am:Option Addr) (cn cm j:Nat) (ks:List St):Prop:=Two W0 W0 W (.slice An j cn) (.slice Am j cm) j j (((ks.take j).map St.n).map (Value.int .i64)) (((ks.take j).map St.m).map (Value.int .i64))
structure MidS (base:Nat) (W0:À) (bx:Nat) (cs:Array Value) (vn vm:Value) (jn jm:Nat) (xs ys:List Value) (W:À):Prop where
 two:Two base W0 W vn vm jn jm xs ys
 hb:Hs W bx 120 cs
 bn:∀g,vn.ownBlock=some g->g≠bx
 bm:∀g,vm.ownBlock=some g->g≠bx
section
variable {base bx:Nat} {cs:Array Value} {W0 W W':À} {vn vm v:Value} {jn jm j:Nat} {xs ys zs:List Value}
def MidS.alloc (h:MidS base W0 bx cs vn vm jn jm xs ys W) (o:Obj):MidS base W0 bx cs vn vm jn jm xs ys (W.alloc o):=⟨h.two.alloc o,h.hb.alloc o,h.bn,h.bm⟩
def MidS.n (h:MidS base W0 bx cs vn vm jn jm xs ys W) (hg:W.grownBy W' vn.ownBlock) {cap k:Nat} (ho:W'.ownsRow base 3 1 (.slice g k cap) j zs) (ha:vn.ownBlock=some g\/g=W):MidS base W0 bx cs (.slice g k cap) vm j jm zs ys W':=
 ⟨h.two.n hg ho (λq e=>by injection e with e;subst e;exact ha),(hg.block bx h.hb.lt (λe=>h.bn bx e.symm rfl)).trans h.hb,λq e=>by injection e with e;subst e;rcases ha with ha|ha;(exact h.bn _ ha);(have:=h.hb.lt;intro e;simp at e;omega),h.bm⟩
def MidS.m (h:MidS base W0 bx cs vn vm jn jm xs ys W) (hg:W.grownBy W' vm.ownBlock) {cap k:Nat} (ho:W'.ownsRow base 3 1 (.slice g k cap) j zs) (ha:vm.ownBlock=some g\/g=W):MidS base W0 bx cs vn (.slice g k cap) jn j xs zs W':=
 ⟨h.two.m hg ho (λq e=>by injection e with e;subst e;exact ha),(hg.block bx h.hb.lt (λe=>h.bm bx e.symm rfl)).trans h.hb,h.bn,λq e=>by injection e with e;subst e;rcases ha with ha|ha;(exact h.bm _ ha);(have:=h.hb.lt;intro e;simp at e;omega)⟩
end
def sts_i64 {w:À} {n cap:Nat} {l:List St} (h:StsR w P (.slice A n cap) l):∀e∈l,i64 e.n/\i64 e.m:=by
 intro e d;obtain⟨i,b,rfl⟩:=List.getElem_of_mem d;obtain⟨g,j,op,x,m,s,u,p,thn,k,y,E,v,D,t,B,r,z,q,_,_,f,_,_,_,_,_,_,_,_,_,a,_⟩:=pD h b;rw[f];exact a.2
def xu {p:Pg} {E:EF} {xs:List Ex} (h:0<xs.length):fO p E B sc xs arms=match E sc xs[0] none with|none=>false|some t=>arms.all fP&&(bX p sc t (dr B arms) () (arms.map λa=>(a.n,a.m))).isSome:=by
 match xs,h with
 | x::ys,_=>rfl
def zip_st (l:List St):(l.map λa=>(a.n,a.m))=(l.map St.n).zip (l.map St.m):=by
 induction l with
 | nil=>rfl
 | cons x l ih=>simp[ih]
structure FSt where
 needs:List (Nat×Int)
 fin:List Bool
 wait:List (List Nat)
 ready:List Nat
abbrev wrapI (x:Int):Int:=wrap64 x
def FSt.settle (S:FSt) (o:Nat):FSt:=if S.fin.getD o false then S else { S with fin:=S.fin.set o true,ready:=S.ready++[o] }
def FSt.waitOn (S:FSt) (j:Nat):FSt:={ S with wait:=S.wait.set j (S.wait.getD j []++[S.needs.length]) }
def fC (p:Pg) (q:FSt×Int) (f:Fld):FSt×Int:=
 if f.type.kind=6 then (q.1.waitOn ((idxP p.tyNames f.type.name.data.toList).getD 0),wrapI (q.2+1)) else q
def FSt.need (S:FSt) (i:Nat) (l:Int):FSt:={ S with needs:=S.needs++[(i,l)] }
def gJ (i:Nat) (q:FSt×Int):FSt:=if q.2=0 then (q.1.need i q.2).settle i else q.1.need i q.2
def mD (p:Pg) (i:Nat) (S:FSt) (c:Ctr):FSt:=gJ i (c.fields.foldl (fC p) (S,0))
def uI (p:Pg) (i:Nat) (S:FSt) (d:Dcl):FSt:=d.ctors.foldl (mD p i) S
def gU (p:Pg):Nat->List Dcl->FSt->FSt
 | _,[],S=>S
 | i,d::ds,S=>gU p (i+1) ds (uI p i S d)
def FSt.dec (S:FSt) (n:Nat):FSt:={ S with needs:=S.needs.set n ((S.needs.getD n (0,0)).1,wrapI ((S.needs.getD n (0,0)).2-1)) }
def gt (S:FSt) (n:Nat):FSt:=if ((S.dec n).needs.getD n (0,0)).2=0 then (S.dec n).settle ((S.dec n).needs.getD n (0,0)).1 else S.dec n
def gI:Nat->Nat->FSt->FSt
 | 0,_,S=>S
 | k+1,at_,S=>if at_<S.ready.length then gI k (at_+1) ((S.wait.getD (S.ready.getD at_ 0) []).foldl gt S) else S
def FSt.start (T:Nat):FSt:=⟨[],List.replicate T false,List.replicate T [],[]⟩
def finP (p:Pg):Bool:=decide ((gI (p.types+1) 0 (gU p 0 p.types (FSt.start p.types))).ready.length=p.types)
def bC:List (Nat×Int)->List Value
 | []=>[]
 | q::l=>.int .i64 (q.1:Nat)::.int .i64 q.2::bC l
def ints (l:List Nat):List Value:=l.map λn=>.int .i64 ((n:Nat):Int)
def aI {w:À} {size n:Nat} {e:TypeId} (h:w.ownsRow base e size v n xs) (hs:Stp P w w') (hP:∀b,v.ownBlock=some b->¬P b):w'.ownsRow base e size v n xs:=by
 refine⟨h.1,?_⟩;rcases h.2 with hn|⟨g,cap,cur,rfl,hb,hgg,rest⟩
 ·exact .inl hn
 exact .inr ⟨g,cap,cur,rfl,hb,(hs.block g (Array.getElem?_eq_some_iff.1 hgg).1 (hP g rfl)).trans hgg,rest⟩
def bp {w:À} {t:TypeId} (h:Hs w g t cs) (hs:Stp P w w') (hP:¬P g):Hs w' g t cs:=(hs.block g h.lt hP).trans h
def cu (w:À) (a:Addr) (u:Value):Stp (only a.block) w (w.setCell a u):=⟨rfl,rfl,rfl,by simp[World.setCell],λk _ hk=>Below.heap_setCell _ _ _ _ (λe=>hk (by unfold only;exact e))⟩
def pE {w:À} (h:w.grownBy w' v.ownBlock):Stp (λb=>v.ownBlock=some b) w w':=⟨h.os,h.tape,h.output,h.size,λk hk hn=>h.block k hk (λe=>hn e.symm)⟩
section
variable {w:À} {base n size g cap:Nat} {e:TypeId} {xs:List Value} (h:w.ownsRow base e size (.slice g n cap) n xs)
include h
variable {j:Nat}
theorem iH {u:Value} (hj:j<n*size):(w.setCell ⟨g,j,none⟩ u).ownsRow base e size (.slice g n cap) n (xs.set j u):=by
 obtain⟨a,b⟩:=h;refine⟨by simpa using a,?_⟩;rcases b with ⟨e1,_⟩|⟨g',cap',cur,e1,hb,hg,hc1,hc2,hc3,hc4⟩
 ·cases e1
 injection e1 with e1 e2 e3;injection e1 with e1;injection e1 with e1 _ _;subst e1 e3;refine .inr ⟨g,cap,cur.setIfInBounds j u,rfl,hb,?_,hc1,hc2,by simpa using hc3,?_⟩
 ·simp[World.setCell,Array.getElem?_modify,hg]
 rw[Array.toList_setIfInBounds,List.take_set,hc4]
theorem dk {u:Value} (hj:xs[j]?=some u):w.cell? ⟨g,j,none⟩=some u:=by
 have:=h.cells (g:=g) rfl j u hj;by_cases a:j=0
 ·subst a;simpa[Addr.add] using this
 simpa[Addr.add,a] using this
theorem lT:w.frozen? ⟨g,j,none⟩=false:=by
 rcases h.2 with ⟨e1,_⟩|⟨g',cap',cur,e1,hb,hg,_⟩
 ·cases e1
 injection e1 with e1 e2 e3;injection e1 with e1;injection e1 with e1 _ _;subst e1;simp[World.frozen?,hg]
end
def ez {w:À} {n size:Nat} {e:TypeId} (h:w.ownsRow base e size v n xs) (hn:0<n):∃g cap,v=.slice (some ⟨g,0,none⟩) n cap/\base<=g/\g<w.heap.size:=by
 rcases h.2 with ⟨_,e1⟩|⟨g,cap,cur,e1,hb,hg,_⟩
 ·omega
 exact⟨g,cap,e1,hb,(Array.getElem?_eq_some_iff.1 hg).1⟩
def pK (l:List (Nat×Int)) (q:Nat×Int):bC (l++[q])=bC l++[.int .i64 (q.1:Nat),.int .i64 q.2]:=by
 induction l with
 | nil=>rfl
 | cons x l ih=>simp[bC,ih]
def ji (l:List (Nat×Int)):∀{n:Nat} (_:n<l),(bC l)[n*2]?=some (.int .i64 ((l.getD n (0,0)).1:Nat))/\(bC l)[n*2+1]?=some (.int .i64 (l.getD n (0,0)).2):=by
 induction l with
 | nil=>intro n h;simp at h
 | cons x l ih =>
  intro n h
  cases n with
  | zero=>exact⟨rfl,rfl⟩
  | succ n =>
   have:=ih (n:=n) (by simpa using h);rw[show (n+1)*2=n*2+1+1 by omega,show n*2+1+1+1=(n*2+1)+1+1 by omega];simpa[bC] using this
def pJ (l:List (Nat×Int)):∀{n:Nat} {x:Int} (_:n<l),(bC l).set (n*2+1) (x:Vl)=bC (l.set n ((l.getD n (0,0)).1,x)):=by
 induction l with
 | nil=>intro n x h;simp at h
 | cons y l ih =>
  intro n x h
  cases n with
  | zero=>rfl
  | succ n =>
   have:=ih (n:=n) (x:=x) (by simpa using h);rw[show (n+1)*2+1=(n*2+1)+1+1 by omega];simp only[bC,List.set_cons_succ,this];rfl
def sU (l:List Nat) (n:Nat):ints (l++[n])=ints l++[.int .i64 ((n:Nat):Int)]:=by simp[ints]
structure FM (B:Nat) (w0 w:À) (T fb cb:Nat) (v1 v2 v3 vr:Value) (vw:Nat->Value) (S:FSt) (lim:Nat) (X:Nat->Prop):Prop where
 bel:Below B w0 w
 szB:B<=w
 hf:Hs w fb 169 #[v1]
 hfB:B<=fb
 hc:Hs w cb 104 #[vr]
 hcB:B<=cb
 r1:w.ownsRow B 4 1 v1 T (S.fin.map Value.bool)
 r2:w.ownsRow B 104 1 v2 T ((List.range T).map vw)
 r3:w.ownsRow B 172 2 v3 S.needs (bC S.needs)
 rr:w.ownsRow B 3 1 vr S.ready (ints S.ready)
 rw:∀j,j<T->w.ownsRow B 3 1 (vw j) (S.wait.getD j []).length (ints (S.wait.getD j []))
 tags:∃tag:Nat->Nat,tag fb=0/\tag cb=1/\(∀b,v1.ownBlock=some b->tag b=2)/\(∀b,v2.ownBlock=some b->tag b=3)/\(∀b,v3.ownBlock=some b->tag b=4)/\(∀b,vr.ownBlock=some b->tag b=5)/\(∀j b,j<T->(vw j).ownBlock=some b->tag b=6+j)/\∀b,X b->6+T<=tag b
 xl:∀b,X b->b<w.heap.size
 lf:S.fin=T
 lw:S.wait=T
 own:∀q∈S.needs,q.1<T
 wl:∀l∈S.wait,∀n∈l,n<lim
 nd:S.ready.Nodup
 rl:∀x∈S.ready,x<T/\S.fin.getD x false=true
section
variable {B:Nat} {w0 w w':À} {T fb cb:Nat} {v1 v2 v3 vr v':Value} {vw:Nat->Value} {S:FSt} {lim:Nat} {X:Nat->Prop}
def FM.bels (h:FM B w0 w T fb cb v1 v2 v3 vr vw S lim X) (hb:Below w w w'):FM B w0 w' T fb cb v1 v2 v3 vr vw S lim X:=by
 have a:Stp (λ_=>False) w w':=Stp.of_below hb;exact⟨h.bel.trans (hb.mono h.szB),ψ h.szB hb.size,bp h.hf a id,h.hfB,bp h.hc a id,h.hcB,aI h.r1 a (λ_ _=>id),aI h.r2 a (λ_ _=>id),aI h.r3 a (λ_ _=>id),aI h.rr a (λ_ _=>id),λj hj=>aI (h.rw j hj) a (λ_ _=>id),h.tags,λb hb'=>ρ (h.xl b hb') hb.size,h.lf,h.lw,h.own,h.wl,h.nd,h.rl⟩
def kL (h:Below B w0 w) (hz:B<=w) (hs:Stp P w w') (hP:∀b,P b->B<=b):Below B w0 w':=
 ⟨hs.os.trans h.os,hs.tape.trans h.tape,hs.output.trans h.output,ψ h.size hs.size,λi hi=>(hs.block i (ρ hi hz) (λe=>by have:=hP i e;omega)).trans (h.block i hi)⟩
def FM.flag (h:FM B w0 w T fb cb v1 v2 v3 vr vw S lim X) {g1 cap o:Nat} (hv:v1=.slice g1 T cap) (ho:o<T):FM B w0 (w.setCell ⟨g1,o,none⟩ (true:Vl)) T fb cb v1 v2 v3 vr vw { S with fin:=S.fin.set o true } lim X/\∀b,X b->(w.setCell ⟨g1,o,none⟩ (true:Vl)).heap[b]?=w.heap[b]?:=by
 obtain⟨f,y,v,t,r,q,p,l,i⟩:=h.tags;have D:f g1=2:=t g1 (by rw[hv];rfl);have a:=cu w ⟨g1,o,none⟩ (true:Vl);have d:∀b k,f b=k->k≠2->¬only g1 b:=λb k g h2 e=>by unfold only at e;subst e;omega
 have A:B<=g1:=(h.r1.lt g1 (by rw[hv];rfl)).1;refine⟨⟨kL h.bel h.szB a (λb e=>by unfold only at e;simp at e;omega),by simp[World.setCell];exact h.szB,bp h.hf a (d _ _ y ω),h.hfB,bp h.hc a (d _ _ v ω),h.hcB,?_,aI h.r2 a (λb e=>d b _ (r b e) ω),aI h.r3 a (λb e=>d b _ (q b e) ω),aI h.rr a (λb e=>d b _ (p b e) ω),λj hj=>aI (h.rw j hj) a (λb e=>d b _ (l j b hj e) ω),⟨f,y,v,t,r,q,p,l,i⟩,λb hb=>by simp[World.setCell];exact h.xl b hb,by simp[h.lf],h.lw,h.own,h.wl,h.nd,λx hx=>⟨(h.rl x hx).1,?_⟩⟩,λb hb=>(a.block b (h.xl b hb) (λe=>by unfold only at e;simp at e;have:=i b hb;rw[e] at this;omega))⟩
 ·have z:=h.r1;rw[hv] at z ⊢;have:=iH (u:=.bool true) z (j:=o) ω;rw[List.map_set];exact this
 have g:=(h.rl x hx).2;simp only[List.getD_eq_getElem?_getD,List.getElem?_set] at g ⊢;split
 ·split<;>simp_all
 exact g
def FM.push (h:FM B w0 w T fb cb v1 v2 v3 vr vw S lim X) {o:Nat} (ho:o<T) (hn:o∉S.ready) (hf:S.fin.getD o false=true) (hrow:w'.ownsRow B 3 1 v' (S.ready+1) (ints S.ready++[.int .i64 ((o:Nat):Int)])) (hg:w.grownBy w' vr.ownBlock) (hv:v'.ownBlock=vr.ownBlock\/v'.ownBlock=some w) :
 FM B w0 (w'.setCell cb v') T fb cb v1 v2 v3 v' vw { S with ready:=S.ready++[o] } lim X/\∀b,X b->(w'.setCell cb v').heap[b]?=w.heap[b]?:=by
 obtain⟨f,E,L,I,H,G,r,F,D⟩:=h.tags;have p:=pE hg;have l:=cu w' cb v';have N:=h.hc.lt;have J:Hs w' cb 104 #[vr]:=bp h.hc p (λe=>by have:=r cb e;omega);have t:=hg.size;have z:∀b k,f b=k->k≠5->¬(vr.ownBlock=some b):=λb k h1 h2 e=>by have:=r b e;omega
 have u:∀b k,f b=k->k≠1->¬only cb b:=λb k h1 h2 e=>by unfold only at e;subst e;omega
 have A:∀b,v'.ownBlock=some b->f b=5\/b=w.heap.size:=λb e=>by
  rcases hv with x|x
  ·exact .inl (r b (by rw[<-x];exact e))
  rw[x] at e;injection e with e;exact .inr e.symm
 have g:∀{e:TypeId} {size n:Nat} {v:Value} {xs:List Value} {k:Nat},w.ownsRow B e size v n xs->(∀b,v.ownBlock=some b->f b=k)->k≠5->k≠1->(w'.setCell cb v').ownsRow B e size v n xs:=λhr ht h5 h1 =>
  aI (aI hr p (λb e=>z b _ (ht b e) h5)) l (λb e=>u b _ (ht b e) h1)
 have hlt:∀{e:TypeId} {size n:Nat} {v:Value} {xs:List Value},w.ownsRow B e size v n xs->∀b,v.ownBlock=some b->b≠w.heap.size:=λhr b e=>by have:=(hr.lt b e).2;omega
 have M:∀b,X b->b<(w'.setCell cb v').heap.size:=λb d=>by simp[World.setCell];exact ρ (h.xl b d) t
 refine⟨⟨kL (kL h.bel h.szB p (λb e=>(h.rr.lt b e).1)) (ψ h.szB t) l (λb e=>by unfold only at e;simp at e;rw[e];exact h.hcB),by simp[World.setCell];exact ψ h.szB t,bp (bp h.hf p (z _ _ E ω)) l (u _ _ E ω),h.hfB,?_,h.hcB,g h.r1 I ω ω,g h.r2 H ω ω,g h.r3 G ω ω,?_,λj q=>g (h.rw j q) (λb e=>F j b q e) ω ω,⟨λb=>if b=w.heap.size then 5 else f b,?_,?_,?_,?_,?_,?_,?_,?_⟩,M,h.lf,h.lw,h.own,h.wl,?_,?_⟩,λb d=>(l.block b (ρ (h.xl b d) t) (λe=>by unfold only at e;simp at e;have:=D b d;rw[e] at this;omega)).trans (p.block b (h.xl b d) (λe=>by have:=D b d;have:=r b e;omega))⟩
 ·have:=J.put 0 v';simpa using this
 ·rw[sU,μ]
  exact aI hrow l (λb e=>λx=>by
   unfold only at x;simp at x;rw[x] at e;rcases A cb e with y|y
   ·omega
   omega)
 ·simp only[];rw[if_neg (by have:=h.hf.lt;omega)];exact E
 ·simp only[];rw[if_neg ω];exact L
 ·intro b e;simp only[];rw[if_neg (hlt h.r1 b e)];exact I b e
 ·intro b e;simp only[];rw[if_neg (hlt h.r2 b e)];exact H b e
 ·intro b e;simp only[];rw[if_neg (hlt h.r3 b e)];exact G b e
 ·intro b e;simp only[];rcases A b e with y|y
  ·split<;>omega
  rw[if_pos y]
 ·intro j b q e;simp only[];rw[if_neg (hlt (h.rw j q) b e)];exact F j b q e
 ·intro b d;simp only[];rw[if_neg (by have:=h.xl b d;omega)];exact D b d
 ·exact List.nodup_append.2 ⟨h.nd,by simp,λa ha b d=>by simp at d;subst d;intro e;subst e;exact hn ha⟩
 intro x i;rcases List.mem_append.1 i with i|i
 ·exact h.rl x i
 simp at i;subst i;exact⟨ho,hf⟩
def FM.need (h:FM B w0 w T fb cb v1 v2 v3 vr vw S (S.needs+1) X) {l:Int} (hi:i<T) (hrow:w'.ownsRow B 172 2 v' (S.needs+1) (bC S.needs++[.int .i64 ((i:Nat):Int),.int .i64 l])) (hg:w.grownBy w' v3.ownBlock) (hv:v'.ownBlock=v3.ownBlock\/v'.ownBlock=some w):
 FM B w0 w' T fb cb v1 v2 v' vr vw (S.need i l) (S.need i l).needs.length X/\∀b,X b->w'.heap[b]?=w.heap[b]?:=by
 obtain⟨p,G,F,E,D,t,A,z,u⟩:=h.tags;have d:=pE hg;have H:=hg.size;have a:∀b k,p b=k->k≠4->¬(v3.ownBlock=some b):=λb k h1 h2 e=>by have:=t b e;omega
 have I:∀b,v'.ownBlock=some b->p b=4\/b=w.heap.size:=λb e=>by
  rcases hv with x|x
  ·exact .inl (t b (by rw[<-x];exact e))
  rw[x] at e;injection e with e;exact .inr e.symm
 have hlt:∀{e:TypeId} {size n:Nat} {v:Value} {xs:List Value},w.ownsRow B e size v n xs->∀b,v.ownBlock=some b->b≠w.heap.size:=λhr b e=>by have:=(hr.lt b e).2;omega
 have M:∀b,X b->b<w'.heap.size:=λb f=>ρ (h.xl b f) H;refine⟨⟨kL h.bel h.szB d (λb e=>(h.r3.lt b e).1),ψ h.szB H,bp h.hf d (a _ _ G ω),h.hfB,bp h.hc d (a _ _ F ω),h.hcB,aI h.r1 d (λb e=>a b _ (E b e) ω),aI h.r2 d (λb e=>a b _ (D b e) ω),?_,aI h.rr d (λb e=>a b _ (A b e) ω),λj r=>aI (h.rw j r) d (λb e=>a b _ (z j b r e) ω),⟨λb=>if b=w.heap.size then 4 else p b,?_,?_,?_,?_,?_,?_,?_,?_⟩,M,h.lf,h.lw,?_,?_,h.nd,h.rl⟩,λb f=>d.block b (h.xl b f) (λe=>by have:=u b f;have:=t b e;omega)⟩
 ·show w'.ownsRow B 172 2 v' (S.needs++[(i,l)]).length (bC (S.needs++[(i,l)]));rw[pK,μ];exact hrow
 ·simp only[];rw[if_neg (by have:=h.hf.lt;omega)];exact G
 ·simp only[];rw[if_neg (by have:=h.hc.lt;omega)];exact F
 ·intro b e;simp only[];rw[if_neg (hlt h.r1 b e)];exact E b e
 ·intro b e;simp only[];rw[if_neg (hlt h.r2 b e)];exact D b e
 ·intro b e;simp only[];rcases I b e with y|y
  ·split<;>omega
  rw[if_pos y]
 ·intro b e;simp only[];rw[if_neg (hlt h.rr b e)];exact A b e
 ·intro j b r e;simp only[];rw[if_neg (hlt (h.rw j r) b e)];exact z j b r e
 ·intro b f;simp only[];rw[if_neg (by have:=h.xl b f;omega)];exact u b f
 ·intro q g;rcases List.mem_append.1 g with g|g
  ·exact h.own q g
  simp at g;subst g;exact hi
 intro x J n L;have:=h.wl x J n L;show n<(S.needs++[(i,l)]).length;simp;omega
def FM.decr (h:FM B w0 w T fb cb v1 v2 v3 vr vw S lim X) {g3 cap n:Nat} (hv:v3=.slice g3 S.needs cap) (hn:n<S.needs):FM B w0 (w.setCell ⟨g3,n*2+1,none⟩ (.int .i64 (wrapI ((S.needs.getD n (0,0)).2-1)))) T fb cb v1 v2 v3 vr vw (S.dec n) lim X/\∀b,X b->(w.setCell ⟨g3,n*2+1,none⟩ (.int .i64 (wrapI ((S.needs.getD n (0,0)).2-1)))).heap[b]?=w.heap[b]?:=by
 obtain⟨f,y,x,v,t,r,p,l,i⟩:=h.tags;have F:f g3=4:=r g3 (by rw[hv];rfl);have a:=cu w ⟨g3,n*2+1,none⟩ (.int .i64 (wrapI ((S.needs.getD n (0,0)).2-1)));have d:∀b k,f b=k->k≠4->¬only g3 b:=λb k h1 h2 e=>by unfold only at e;subst e;omega
 have E:B<=g3:=(h.r3.lt g3 (by rw[hv];rfl)).1;refine⟨⟨kL h.bel h.szB a (λb e=>by unfold only at e;simp at e;omega),by simp[World.setCell];exact h.szB,bp h.hf a (d _ _ y ω),h.hfB,bp h.hc a (d _ _ x ω),h.hcB,aI h.r1 a (λb e=>d b _ (v b e) ω),aI h.r2 a (λb e=>d b _ (t b e) ω),?_,aI h.rr a (λb e=>d b _ (p b e) ω),λj hj=>aI (h.rw j hj) a (λb e=>d b _ (l j b hj e) ω),⟨f,y,x,v,t,r,p,l,i⟩,λb hb=>by simp[World.setCell];exact h.xl b hb,h.lf,h.lw,?_,h.wl,h.nd,h.rl⟩,λb hb=>(a.block b (h.xl b hb) (λe=>by unfold only at e;simp at e;have:=i b hb;rw[e] at this;omega))⟩
 ·have z:=h.r3;have D:(S.dec n).needs.length=S.needs:=by simp[FSt.dec]
  rw[D];rw[hv] at z ⊢;have:=iH (u:=.int .i64 (wrapI ((S.needs.getD n (0,0)).2-1))) z (j:=n*2+1) ω;rw[pJ _ hn] at this;exact this
 intro q g;rcases List.mem_or_eq_of_mem_set g with g|g
 ·exact h.own q g
 subst g
 have A:S.needs.getD n (0,0)∈S.needs:=by
  rw[List.getD_eq_getElem?_getD,ξ hn];exact ν hn
 show (S.needs.getD n (0,0)).1<T;exact h.own _ A
def FM.wait (h:FM B w0 w T fb cb v1 v2 v3 vr vw S (S.needs+1) X) {g2 cap j:Nat} (hv2:v2=.slice g2 T cap) (hj:j<T) (hrow:w'.ownsRow B 3 1 v' ((S.wait.getD j []).length+1) (ints (S.wait.getD j [])++[.int .i64 ((S.needs.length:Nat):Int)])) (hg:w.grownBy w' (vw j).ownBlock) (hv:v'.ownBlock=(vw j).ownBlock\/v'.ownBlock=some w) :
 FM B w0 (w'.setCell ⟨g2,j,none⟩ v') T fb cb v1 v2 v3 vr (λi=>if i=j then v' else vw i) (S.waitOn j) ((S.waitOn j).needs.length+1) X/\∀b,X b->(w'.setCell ⟨g2,j,none⟩ v').heap[b]?=w.heap[b]?:=by
 obtain⟨d,M,L,U,J,R,O,D,I⟩:=h.tags;have r:=pE hg;have q:=cu w' ⟨g2,j,none⟩ v';have F:=hg.size;have ae:d g2=3:=J g2 (by rw[hv2];rfl);have ad:B<=g2:=(h.r2.lt g2 (by rw[hv2];rfl)).1;have p:∀b k,d b=k->k≠6+j->¬((vw j).ownBlock=some b):=λb k G N e=>by have:=D j b hj e;omega
 have E:∀b k,d b=k->k≠3->¬only g2 b:=λb k G N e=>by unfold only at e;subst e;omega
 have H:∀b,v'.ownBlock=some b->d b=6+j\/b=w.heap.size:=λb e=>by
  rcases hv with x|x
  ·exact .inl (D j b hj (by rw[<-x];exact e))
  rw[x] at e;injection e with e;exact .inr e.symm
 have g:∀{e:TypeId} {size n:Nat} {v:Value} {xs:List Value} {k:Nat},w.ownsRow B e size v n xs->(∀b,v.ownBlock=some b->d b=k)->k≠6+j->k≠3->(w'.setCell ⟨g2,j,none⟩ v').ownsRow B e size v n xs:=λt ht h5 G =>
  aI (aI t r (λb e=>p b _ (ht b e) h5)) q (λb e=>E b _ (ht b e) G)
 have hlt:∀{e:TypeId} {size n:Nat} {v:Value} {xs:List Value},w.ownsRow B e size v n xs->∀b,v.ownBlock=some b->b≠w.heap.size:=λt b e=>by have:=(t.lt b e).2;omega
 have aa:g2<w:=(h.r2.lt g2 (by rw[hv2];rfl)).2
 have V:(S.waitOn j).wait.getD j []=S.wait.getD j []++[S.needs.length]:=by
  unfold FSt.waitOn;simp[List.getD_eq_getElem?_getD,List.getElem?_set,h.lw,hj]
 have W:∀i,i≠j->(S.waitOn j).wait.getD i []=S.wait.getD i []:=λi a=>by
  unfold FSt.waitOn;simp[List.getD_eq_getElem?_getD,List.getElem?_set,Ne.symm a]
 have XL:∀b,X b->b<(w'.setCell ⟨g2,j,none⟩ v').heap.size:=λb f=>by simp[World.setCell];exact ρ (h.xl b f) F
 refine⟨⟨kL (kL h.bel h.szB r (λb e=>((h.rw j hj).lt b e).1)) (ψ h.szB F) q (λb e=>by unfold only at e;simp at e;omega),by simp[World.setCell];exact ψ h.szB F,bp (bp h.hf r (p _ _ M ω)) q (E _ _ M ω),h.hfB,bp (bp h.hc r (p _ _ L ω)) q (E _ _ L ω),h.hcB,g h.r1 U ω ω,?_,g h.r3 R ω ω,g h.rr O ω ω,?_,⟨λb=>if b=w.heap.size then 6+j else d b,?_,?_,?_,?_,?_,?_,?_,?_⟩,XL,h.lf,?_,h.own,?_,h.nd,h.rl⟩,λb f=>(q.block b (ρ (h.xl b f) F) (λe=>by unfold only at e;simp at e;have:=I b f;rw[e] at this;omega)).trans (r.block b (h.xl b f) (λe=>by have:=I b f;have:=D j b hj e;omega))⟩
 ·have t:=aI h.r2 r (λb e=>p b _ (J b e) ω);rw[hv2] at t ⊢;have:=iH (u:=v') t (j:=j) ω
  have he:((List.range T).map vw).set j v'=(List.range T).map (λi=>if i=j then v' else vw i):=by
   apply List.ext_getElem?;intro i;simp only[List.getElem?_set,List.length_map,List.length_range,List.getElem?_map];by_cases a:j=i
   ·subst a;simp[hj]
   simp only[if_neg a]
   cases hx:(List.range T)[i]? with
   | none=>rfl
   | some y =>
    have:y=i:=by have:=List.getElem?_eq_some_iff.1 hx;obtain⟨G,N⟩:=this;simpa using N.symm
    subst this;simp[Ne.symm a]
  rw[he] at this;exact this
 ·intro i a;by_cases e:i=j
  ·subst e;simp only[if_pos];rw[V,μ,sU]
   exact aI hrow q (λb eb=>λx=>by
    unfold only at x;simp at x;subst x;rcases H b eb with y|y
    ·omega
    omega)
  simp only[if_neg e];rw[W i e];exact g (h.rw i a) (λb eb=>D i b a eb) ω ω
 ·simp only[];rw[if_neg (by have:=h.hf.lt;omega)];exact M
 ·simp only[];rw[if_neg (by have:=h.hc.lt;omega)];exact L
 ·intro b e;simp only[];rw[if_neg (hlt h.r1 b e)];exact U b e
 ·intro b e;simp only[];rw[if_neg (hlt h.r2 b e)];exact J b e
 ·intro b e;simp only[];rw[if_neg (hlt h.r3 b e)];exact R b e
 ·intro b e;simp only[];rw[if_neg (hlt h.rr b e)];exact O b e
 ·intro i b a e;simp only[];by_cases Y:i=j
  ·subst Y;simp only[if_pos] at e;rcases H b e with y|y
   ·split<;>omega
   rw[if_pos y]
  simp only[if_neg Y] at e;rw[if_neg (hlt (h.rw i a) b e)];exact D i b a e
 ·intro b f;simp only[];rw[if_neg (by have:=h.xl b f;omega)];exact I b f
 ·unfold FSt.waitOn;simp[h.lw]
 intro l A n z;show n<S.needs+1;unfold FSt.waitOn at A;rcases List.mem_or_eq_of_mem_set A with A|A
 ·exact h.wl l A n z
 subst A;rcases List.mem_append.1 z with z|z
 ·have Z:S.wait.getD j []∈S.wait:=by
   rw[List.getD_eq_getElem?_getD,ξ (by rw[h.lw];exact hj)];exact ν _
  exact h.wl _ Z n z
 simp at z;omega
def FM.more (h:FM B w0 w T fb cb v1 v2 v3 vr vw S lim X) {lim':Nat} (hl:lim<=lim'):FM B w0 w T fb cb v1 v2 v3 vr vw S lim' X:=
 ⟨h.bel,h.szB,h.hf,h.hfB,h.hc,h.hcB,h.r1,h.r2,h.r3,h.rr,h.rw,h.tags,h.xl,h.lf,h.lw,h.own,λl hl' n hn=>ρ (h.wl l hl' n hn) hl,h.nd,h.rl⟩
def FM.box (h:FM B w0 w T fb cb v1 v2 v3 vr vw S lim X) (o:Obj):FM B w0 (w.alloc o) T fb cb v1 v2 v3 vr vw S lim (λb=>X b\/b=w.heap.size):=by
 obtain⟨d,u,t,r,q,p,l,i,g⟩:=h.tags;have k:=h.bels (belA (belR w) o);have hlt:∀{e:TypeId} {size n:Nat} {v:Value} {xs:List Value},w.ownsRow B e size v n xs->∀b,v.ownBlock=some b->b≠w.heap.size:=λhr b e=>by have:=(hr.lt b e).2;omega
 refine⟨k.bel,k.szB,k.hf,k.hfB,k.hc,k.hcB,k.r1,k.r2,k.r3,k.rr,k.rw,⟨λb=>if b=w.heap.size then 6+T else d b,?_,?_,?_,?_,?_,?_,?_,?_⟩,λb a=>?_,k.lf,k.lw,k.own,k.wl,k.nd,k.rl⟩
 ·simp only[];rw[if_neg (by have:=h.hf.lt;omega)];exact u
 ·simp only[];rw[if_neg (by have:=h.hc.lt;omega)];exact t
 ·intro b e;simp only[];rw[if_neg (hlt h.r1 b e)];exact r b e
 ·intro b e;simp only[];rw[if_neg (hlt h.r2 b e)];exact q b e
 ·intro b e;simp only[];rw[if_neg (hlt h.r3 b e)];exact p b e
 ·intro b e;simp only[];rw[if_neg (hlt h.rr b e)];exact l b e
 ·intro j b f e;simp only[];rw[if_neg (hlt (h.rw j f) b e)];exact i j b f e
 ·intro b a;simp only[];by_cases e:b=w.heap.size
  ·rw[if_pos e];exact υ _
  rw[if_neg e];rcases a with a|a
  ·exact g b a
  exact absurd a e
 rcases a with a|a
 ·have:=h.xl b a;simp;omega
 simp;omega
def FM.less (h:FM B w0 w T fb cb v1 v2 v3 vr vw S lim X) {X':Nat->Prop} (hx:∀b,X' b->X b):FM B w0 w T fb cb v1 v2 v3 vr vw S lim X':=by
 obtain⟨a,l,k,j,i,g,f,e,d⟩:=h.tags;exact⟨h.bel,h.szB,h.hf,h.hfB,h.hc,h.hcB,h.r1,h.r2,h.r3,h.rr,h.rw,⟨a,l,k,j,i,g,f,e,λb hb=>d b (hx b hb)⟩,λb hb=>h.xl b (hx b hb),h.lf,h.lw,h.own,h.wl,h.nd,h.rl⟩
end
end
end
section
def allS_at {f:St->Bool} {l:List St} {j:Nat} (h:j<l):(l.drop j).all f=(f l[j]&&(l.drop (j+1)).all f):=by
 rw[bk h,List.all_cons]
def cases_at {c:CB} {p:Pg} {mb M n:Nat} (IH:xG c p mb M) (hFi:Fine p) (IS:eY c p mb M n) {own:Nat->Prop} {sb:Nat} {sc:Sc} {op x m:Int} {s u:Ê} {A0 A1 A2 A3:Option Addr} {xs:List Ex} {thn els arms:List St} {c0 c1 c2 c3:Nat} {w:À}
 (hx0:0<xs.length) (hd:∀e∈xs,Ex.deep e<=M) (hda:∀a∈arms,St.deeps a.thn<=n) (hal:arms.length<=1000000000) (he:Env w own mb sb c p sc) (ho:ScOk p sc) (ha0:0<=sc.actor) (hx:ExsR w (im own w) (.slice A0 xs c0) xs) (ha:StsR w (im own w) (.slice A3 arms c3) arms) :
 Calls prog 190 #[c.b,sb,st9 op x m s u A0 xs c0 A1 thn c1 A2 els c2 A3 arms c3] w (ResB w own mb sb sc (fO p (aa p M) (aF p M n) sc xs arms)):=by
 have HV:=η (xu (p:=p) (E:=aa p M) (B:=aF p M n) (sc:=sc) (arms:=arms) hx0);have bs:=hx.le9;obtain⟨c9,ey,dd,e5,ez,b3,fa,HO⟩:=zd8 IH IS (hd _ (ν hx0)) hda hFi ho ha0 he.mb.1;have f7:=he.mb.2;obtain⟨H,V⟩:=γ (((w.alloc (.cells #[c.b] 99)).alloc (.cells #[sb] 173)).alloc (.cells (st9 op x m s u A0 xs c0 A1 thn c1 A2 els c2 A3 arms c3) 120))
 have B0:Below w w H:=by rw[V];exact ζ3
 have f6:w.heap.size+3=H:=by rw[V];simp
 have e0:Hs H w 99 #[c.b]:=by rw[V];exact ((Hs.new w 99 _).alloc _).alloc _
 have e1:Hs H (w+1) 173 #[sb]:=by rw[V];exact (dI w _ 173 _).alloc _
 have e2:Hs H (w+1+1) 120 (st9 op x m s u A0 xs c0 A1 thn c1 A2 els c2 A3 arms c3):=by rw[V];exact kK w _ _ 120 _
 obtain⟨b9,dc,e7,e6,cy,b8,ep,dx⟩:=zd8 (e0.c 0) (e1.c 0) (e2.c 5) (e2.c 8) (Stm.of_below (mb:=mb) B0) (he.bel B0) (ExsR.to hx (sof (own:=own) B0).sub) (StsR.to ha (sof (own:=own) B0).sub);obtain⟨eq,c8⟩:=zd2 V he.ol;clear hd hda he ho hx ha IH IS hFi V B0 e0 e1 e2 ha0;obtain⟨g,f3,o1,v,k,T,a1,B1,gb,rfl,hg,e1,p0,p1,p2,p3,p4,hr⟩:=aQ ep hx0;have F:g≠mb:=λe=>hg.2 (by rw[e];exact HO);simp only[Nat.zero_mul,Nat.add_zero] at p0 p1 p2 p3 p4;replace p0:=stpC p0 F;replace p1:=stpC p1 F;replace p2:=stpC p2 F;replace p3:=stpC p3 F;replace p4:=stpC p4 F;have HR:=η hr;clear hr e1 hg;have q1:=stpC (mb:=mb) b9 Φ;have q2:=stpC (mb:=mb) dc Φ;have q5:=stpC (mb:=mb) e7 Φ;obtain⟨r1,br⟩:=γ (aa p M sc xs[0] none)
 have cl:=η br;rw[<-br] at HV;clear br;go_in;go_upto_region 1 with fail;rw[<-eq.o];go_cut [7,8] (λv1 v2 W=>Hid (Got H own mb sb sc r1 v1 v2 W))
 case first =>
  go_region_held3 (λW=>Stm mb H W) (first|exact bq _ _|exact smDr _ _|exact I|exact smA ι _|exact (smA (Stm.refl _ _) _).trans (smDr _ _)|exact smS I (υ _) ω _ _ _ _ _)
   (first|(go_at_call 170;refine (hasB2 c9 b8 b3 dd HR).mono ?_;rw[<-cl.o];rintro e3 w3 ⟨k3,s3,A3,n3,dl,rfl,I,al,ag⟩;obtain⟨z0,z1,z2,q0,q1,q2⟩:=al.facts)|(go_at_call 170;refine (hasA2 c9 b8 b3 dd HR).mono ?_;rw[<-cl.o];rintro e3 w3 ⟨k3,s3,A3,n3,dl,rfl,I,ag⟩))
  all_goals
   go_wp2;go_meet;first|exact gotA I ag|exact gotB I ω HO al ag
 case rest =>
 clear q1 q2 q5 p0 p1 p2 p3 p4 HR;obtain⟨I,d4,k2,s2,fb,n2,dm,rfl,fr,al,rfl,ag⟩:=hcut.o;obtain⟨S2,da,c5⟩:=zd3 I al ag;clear hcut I al ag;obtain⟨r,rfl⟩:=γ wc
 have fv:d4<r:=da.lt
 cases r1 with
 | none =>
  go_wp2;go_ret;rw[HV.o];exact du (cy.trans S2)
 | some t =>
  have bz:Hid (fO p (aa p M) (aF p M n) sc xs arms=(arms.all fP&&(bX p sc t (dr (aF p M n) arms) () ((arms.map St.n).zip (arms.map St.m))).isSome)):=by show _=_;rw[HV.o,<-zip_st]
  obtain⟨e4,b6,bv⟩:=zd3 (b8.stp S2 (c5 t rfl).2) (StsR.to dx (S2.subO HO)) (cy.trans S2);obtain⟨io,cv,ct,cu,cw⟩:=jz;have d:Hid (prog.info? 3=some io/\io.zero=some (.int .i64 0)/\io.size=1/\io.bytes=8):=⟨cv,ct,cu,cw⟩
  have q8:r.cell? ⟨w+1+1,8,none⟩=some (.slice A3 arms c3):=stpC (mb:=mb) e6 Φ r S2;obtain⟨c7,ev,eu⟩:=zd3 (show r.cell? w=some (c.b:Vl) from stpC (mb:=mb) b9 Φ r S2) (show r.cell? (w+1:Nat)=some (sb:Vl) from stpC (mb:=mb) dc Φ r S2) q8;clear cv ct cu cw HV;simp only[Option.isSome_some];go_upto_region 6 with fail;clear q8;go_loopw [28,9,10] (λi v13 v14 wr=>∃(j:Nat) (L N:Option Addr) (z A:Nat),j<=arms/\i=.int .i64 j/\v13=.slice L j z/\v14=.slice N j A/\Hid (arms.all fP=(arms.drop j).all fP)/\Hid (TwoS r wr L N z A j arms)) (λi _ _ _=>arms.length-(intOf i).toNat)
  case atStart=>exact⟨0,none,none,0,0,ω,rfl,rfl,rfl,rfl,⟨Below.refl _ _,υ _,World.ownsRow_nil _ _ _ _,World.ownsRow_nil _ _ _ _,λg h=>by cases h⟩⟩
  case round =>
   obtain⟨j,L,N,z,A,hj,rfl,rfl,rfl,HU,b1⟩:=hrel;have l:Hid (Two r r wr (.slice L j z) (.slice N j A) j j (((arms.take j).map St.n).map (Value.int .i64)) (((arms.take j).map St.m).map (Value.int .i64))):=b1.o;clear b1;have f4:r.heap.size<=wr:=l.s;by_cases hlt:j<arms
   ·have cb:=η (allS_at (f:=fP) hlt);obtain⟨g1,fl,o1,v,k,T,Y,R,Z,el,ar,D0,d0,D1,d1,D2,d2,D3,d3,rfl,ga,e1,p0,p1,p2,p3,p4,p5,p6,p7,p8,eh,_,_,co,_,_,_⟩:=pD (StsR.to b6 (sof l.b).sub) hlt;have cp:=co.le9;have db:=η e1;have bf:Hid (fP arms[j]=(decide (o1=5)&&aJ (.mk o1 v k T Y R Z el ar))):=by show _=_;rw[e1];rfl
    have cx:wr.cell? w=some (c.b:Vl):=belC l.b c7;have f8:w.heap.size<wr:=ω;have dn:∀o,(wr.alloc o).cell? w=some (c.b:Vl):=λo=>belC ζ1 cx;clear e1 co eh;by_cases h5:o1=5
    ·have k5:(o1 != 5)=false:=by simpa using h5
     subst h5;obtain⟨bS,bt⟩:=γ (aJ (.mk 5 v k T Y R Z el ar))
     have cc:Hid (fP arms[j]=bS):=by show _=_;rw[bf.o,bt];simp
     have de:=η bt.symm;clear bt bf
     cases bS with
     | false =>
      have HX:Hid (fO p (aa p M) (aF p M n) sc xs arms=false):=by show _=_;rw[bz.o,HU.o,cb.o,cc.o];rfl
      go_wp2_with (go_at_call 142;refine (kb c 5 v k T Y R Z el ar D0 D1 D2 D3 d0 d1 d2 d3 _ cp).mono ?_;rw[de.o];rintro e9 y ⟨rfl,ah⟩);go_ret;rw[HX.o];exact du (bv.trans ((Stm.of_below (mb:=mb) l.b).trans (Stm.of_below (bel ζ1 ah))))
     | true =>
      have HX:Hid (arms.all fP=(arms.drop (j+1)).all fP):=by show _=_;rw[HU.o,cb.o,cc.o];rfl
      go_upto_region 10 with (go_at_call 142;refine (kb c 5 v k T Y R Z el ar D0 D1 D2 D3 d0 d1 d2 d3 _ cp).mono ?_;rw[de.o];rintro e9 y ⟨rfl,ah⟩);have et:=η ((l.alloc (.cells (st9 5 v k T Y D0 R d0 D1 Z d1 D2 el d2 D3 ar d3) 120)).bel ah);have c4:Hid (Hs y wr 120 (st9 5 v k T Y D0 R d0 D1 Z d1 D2 el d2 D3 ar d3)):=(ah.block _ Θ).trans (Hs.new _ _ _);have d7:wr.heap.size+1<=y:=by have:=ah.size;simpa using this
      clear ah p0 p1 p2 p3 p4 p5 p6 p7 p8 cx dn;obtain⟨bx,am⟩:=γ wr
      rw[<-am] at c4 d7 ⊢;have bb:Hid (∀q,(Value.slice L j z).ownBlock=some q->q<bx):=λq e=>by rw[am];exact (l.on.lt _ e).2
      have dt:Hid (∀q,(Value.slice N j A).ownBlock=some q->q<bx):=λq e=>by rw[am];exact (l.om.lt _ e).2
      clear am;have bc:Hid (MidS r r bx (st9 5 v k T Y D0 R d0 D1 Z d1 D2 el d2 D3 ar d3) (.slice L j z) (.slice N j A) j j (((arms.take j).map St.n).map (Value.int .i64)) (((arms.take j).map St.m).map (Value.int .i64)) y.drew):=⟨et.drew,c4,λq e=>by have:=bb q e;omega,λq e=>by have:=dt q e;omega⟩
      have k1:∀W,Hs W bx 120 (st9 5 v k T Y D0 R d0 D1 Z d1 D2 el d2 D3 ar d3)->W.cell? ⟨bx,1,none⟩=some (v:Vl):=λW h=>h.cell 1;have k2:∀W,Hs W bx 120 (st9 5 v k T Y D0 R d0 D1 Z d1 D2 el d2 D3 ar d3)->W.cell? ⟨bx,2,none⟩=some (k:Vl):=λW h=>h.cell 2;have b4:Hid ((((arms.take (j+1)).map St.n).map (Value.int .i64))=(((arms.take j).map St.n).map (Value.int .i64))++[.int .i64 v]):=by show _=_;rw[List.take_add_one,ξ hlt,db.o];simp[St.n]
      have b5:Hid ((((arms.take (j+1)).map St.m).map (Value.int .i64))=(((arms.take j).map St.m).map (Value.int .i64))++[.int .i64 k]):=by show _=_;rw[List.take_add_one,ξ hlt,db.o];simp[St.m]
      refine tkB (λW=>Hs W bx 120 (st9 5 v k T Y D0 R d0 D1 Z d1 D2 el d2 D3 ar d3)) (bc.hb) (λhHeld=>?_);refine θ ?_;refine wpAnyH_ready (rs:=[3,8]) Δ Θ ?_;refine (AllReadyH.cons (o:={ dst:=some 44,op:=Op.buildSlice 104 1 #[(0,Operand.tmp 43)],type:=104,pos:= "stmts.go:116",after:=#[{ on:=2,ground:=Ground.data }],guard:=none }) rfl (λK hK=>?_) (AllReadyH.cons (o:={ dst:=some 49,op:=Op.buildSlice 104 1 #[(0,Operand.tmp 48)],type:=104,pos:= "stmts.go:116",after:=#[{ on:=7,ground:=Ground.data }],guard:=none }) rfl (λK hK=>?_) AllReadyH.nil))
      ·go_simp;refine tkR hK (Hs.alloc hHeld _) (λhHeld=>?_);clear hK K;have ai:=η (bc.alloc (.cells #[v] 3));have N3:Hid (Hs (y.drew.alloc (.cells #[v] 3)) y 3 #[v]):=Hs.new y.drew 3 _;refine wpAnyH_ready (rs:=[4,8]) Δ Θ ?_;refine (AllReadyH.cons (o:={ dst:=some 45,op:=Op.call { callee:=Callee.builtin Builtin.append,args:=#[Operand.tmp 41,Operand.tmp 44],argTypes:=#[104,104] },type:=104,pos:= "stmts.go:116",after:=#[{ on:=0,ground:=Ground.data },{ on:=3,ground:=Ground.data }],guard:=none }) rfl (λK hK=>?_) (AllReadyH.cons (o:={ dst:=some 49,op:=Op.buildSlice 104 1 #[(0,Operand.tmp 48)],type:=104,pos:= "stmts.go:116",after:=#[{ on:=7,ground:=Ground.data }],guard:=none }) rfl (λK hK=>?_) AllReadyH.nil))
       ·refine step_append_lies _ rfl (.tmp 41) (.tmp 44) 104 rfl r 3 io (.int .i64 0) 1 8 underlying104 d.1 d.2.1 d.2.2.1 d.2.2.2 rfl π (.slice L j z) j (((arms.take j).map St.n).map (Value.int .i64)) rfl ai.two.on y 1 1 [.int .i64 v] rfl rfl (ib N3) one1 π Ξ ω ai.two.s _ rfl ?_;intro gn z w1 aj U an cs;have G:=η (ai.n U aj an);refine tkR hK G.hb (λhHeld=>?_);clear hK K;refine tkE 8 (λK hK=>?_);go_simp;refine tkR hK (Hs.alloc hHeld _) (λhHeld=>?_);clear hK K;have D:=η (G.alloc (.cells #[k] 3));have N8:Hid (Hs (w1.alloc (.cells #[k] 3)) w1 3 #[k]):=Hs.new _ _ _;refine tkE 9 (λK hK=>?_);refine step_append_lies _ rfl (.tmp 46) (.tmp 49) 104 rfl r 3 io (.int .i64 0) 1 8 underlying104 d.1 d.2.1 d.2.2.1 d.2.2.2 rfl π (.slice N j A) j (((arms.take j).map St.m).map (Value.int .i64)) rfl D.two.om w1 1 1 [.int .i64 k] rfl rfl (ib N8) one1 π Ξ ω D.two.s _ rfl ?_;intro gm A w2 ak F ao bs;have J:=η (D.m F ak ao);refine tkR hK J.hb (λhHeld=>?_);clear hK K;refine θ ?_;refine tkD ?_;have X:Hid (TwoS r w2 (some ⟨gn,0,none⟩) (some ⟨gm,0,none⟩) z A (j+1) arms):=by show Two _ _ _ _ _ _ _ _ _;rw[b4.o,b5.o];exact J.two
        go_wp2_with fail;go_roundw
        case rel =>
         refine⟨j+1,some ⟨gn,0,none⟩,some ⟨gm,0,none⟩,z,A,ω,?_,rfl,rfl,HX,X⟩;go_num
        case measure=>simp[intOf];omega
       go_simp;refine tkR hK (Hs.alloc hHeld _) (λhHeld=>?_);clear hK K;have G:=η (ai.alloc (.cells #[k] 3));have N8:Hid (Hs ((y.drew.alloc (.cells #[v] 3)).alloc (.cells #[k] 3)) (y+1) 3 #[k]):=dI y.drew _ 3 _;have eo:=η (N3.alloc (.cells #[k] 3));refine tkE 4 (λK hK=>?_);refine step_append_lies _ rfl (.tmp 41) (.tmp 44) 104 rfl r 3 io (.int .i64 0) 1 8 underlying104 d.1 d.2.1 d.2.2.1 d.2.2.2 rfl π (.slice L j z) j (((arms.take j).map St.n).map (Value.int .i64)) rfl G.two.on y 1 1 [.int .i64 v] rfl rfl (ib eo) one1 π Ξ ω G.two.s _ rfl ?_;intro gn z w1 aj U an cs;have D:=η (G.n U aj an);refine tkR hK D.hb (λhHeld=>?_);clear hK K;have bw:Hid (Hs w1 (y+1) 3 #[k]):=(U.block _ N8.lt (λe=>by have:=bb _ e.symm;first|omega|(simp at this;done)|(simp at this;omega))).trans N8;refine tkE 9 (λK hK=>?_);refine step_append_lies _ rfl (.tmp 46) (.tmp 49) 104 rfl r 3 io (.int .i64 0) 1 8 underlying104 d.1 d.2.1 d.2.2.1 d.2.2.2 rfl π (.slice N j A) j (((arms.take j).map St.m).map (Value.int .i64)) rfl D.two.om ⟨(y+1),0,none⟩ 1 1 [.int .i64 k] rfl rfl (ib bw) one1 π Ξ ω D.two.s _ rfl ?_;intro gm A w2 ak F ao bs;have J:=η (D.m F ak ao);refine tkR hK J.hb (λhHeld=>?_)
       clear hK K;refine θ ?_;refine tkD ?_;have X:Hid (TwoS r w2 (some ⟨gn,0,none⟩) (some ⟨gm,0,none⟩) z A (j+1) arms):=by show Two _ _ _ _ _ _ _ _ _;rw[b4.o,b5.o];exact J.two
       go_wp2_with fail;go_roundw
       case rel =>
        refine⟨j+1,some ⟨gn,0,none⟩,some ⟨gm,0,none⟩,z,A,ω,?_,rfl,rfl,HX,X⟩;go_num
       case measure=>simp[intOf];omega
      go_simp;refine tkR hK (Hs.alloc hHeld _) (λhHeld=>?_);clear hK K;have ai:=η (bc.alloc (.cells #[k] 3));have N8:Hid (Hs (y.drew.alloc (.cells #[k] 3)) y 3 #[k]):=Hs.new y.drew 3 _;refine tkE 3 (λK hK=>?_);go_simp;refine tkR hK (Hs.alloc hHeld _) (λhHeld=>?_);clear hK K;have G:=η (ai.alloc (.cells #[v] 3));have N3:Hid (Hs ((y.drew.alloc (.cells #[k] 3)).alloc (.cells #[v] 3)) (y+1) 3 #[v]):=dI y.drew _ 3 _;have cz:=η (N8.alloc (.cells #[v] 3));refine tkE 4 (λK hK=>?_);refine step_append_lies _ rfl (.tmp 41) (.tmp 44) 104 rfl r 3 io (.int .i64 0) 1 8 underlying104 d.1 d.2.1 d.2.2.1 d.2.2.2 rfl π (.slice L j z) j (((arms.take j).map St.n).map (Value.int .i64)) rfl G.two.on ⟨(y+1),0,none⟩ 1 1 [.int .i64 v] rfl rfl (ib N3) one1 π Ξ ω G.two.s _ rfl ?_;intro gn z w1 aj U an cs;have D:=η (G.n U aj an);refine tkR hK D.hb (λhHeld=>?_);clear hK K;have bw:Hid (Hs w1 y 3 #[k]):=(U.block _ cz.lt (λe=>by have:=bb _ e.symm;first|omega|(simp at this;done)|(simp at this;omega))).trans cz;refine tkE 9 (λK hK=>?_)
      refine step_append_lies _ rfl (.tmp 46) (.tmp 49) 104 rfl r 3 io (.int .i64 0) 1 8 underlying104 d.1 d.2.1 d.2.2.1 d.2.2.2 rfl π (.slice N j A) j (((arms.take j).map St.m).map (Value.int .i64)) rfl D.two.om y 1 1 [.int .i64 k] rfl rfl (ib bw) one1 π Ξ ω D.two.s _ rfl ?_;intro gm A w2 ak F ao bs;have J:=η (D.m F ak ao);refine tkR hK J.hb (λhHeld=>?_);clear hK K;refine θ ?_;refine tkD ?_;have X:Hid (TwoS r w2 (some ⟨gn,0,none⟩) (some ⟨gm,0,none⟩) z A (j+1) arms):=by show Two _ _ _ _ _ _ _ _ _;rw[b4.o,b5.o];exact J.two
      go_wp2_with fail;go_roundw
      case rel =>
       refine⟨j+1,some ⟨gn,0,none⟩,some ⟨gm,0,none⟩,z,A,ω,?_,rfl,rfl,HX,X⟩;go_num
      case measure=>simp[intOf];omega
    have k5:(o1 != 5)=true:=by simpa using h5
    have HX:Hid (fO p (aa p M) (aF p M n) sc xs arms=false):=by show _=_;rw[bz.o,HU.o,cb.o,bf.o,decide_eq_false h5];rfl
    clear h5 bf;go_wp2;go_ret;rw[HX.o];exact du (bv.trans (smA (Stm.of_below (mb:=mb) l.b) _))
   have dz:=zF j arms;obtain rfl:j=arms:=ω;clear hj hlt;have dy:Hid (arms.all fP=true):=by show _=_;rw[HU.o,List.drop_length];rfl
   have er:Hid (fO p (aa p M) (aF p M n) sc xs arms=(bX p sc t (dr (aF p M n) arms) () ((arms.map St.n).zip (arms.map St.m))).isSome):=by show _=_;rw[bz.o,dy.o];simp
   obtain⟨B6,a2,es,ex,b7⟩:=zd5 l.b (e4.bel l.b) ((c5 t rfl).1.to (sof (own:=own) l.b).sub) (StsR.to b6 (sof (own:=own) l.b).sub) (sts_i64 b6)
   have b2:Hid (Two r r wr (.slice L arms z) (.slice N arms A) arms arms ((arms.map St.n).map (Value.int .i64)) ((arms.map St.m).map (Value.int .i64))):=by
    have:=l.o;rw[List.take_length] at this;exact this
   have a9:∀q,r.heap.size<=q->q<wr.heap.size->im own wr q:=λq h1 h2=>⟨h2,λh=>by have:=c8 q h;omega⟩
   have ew:Hid (IntsR wr (im own wr) (.slice L (arms.map St.n).length z) (arms.map St.n)):=by
    rw[List.length_map];exact fW b2.on Θ Ξ a9 (λx hx=>by obtain⟨e,he,rfl⟩:=List.mem_map.1 hx;exact (b7 e he).1)
   have dw:Hid (IntsR wr (im own wr) (.slice N (arms.map St.m).length A) (arms.map St.m)):=by
    rw[List.length_map];exact fW b2.om Θ Ξ a9 (λx hx=>by obtain⟨e,he,rfl⟩:=List.mem_map.1 hx;exact (b7 e he).2)
   have q1:wr.cell? w=some (c.b:Vl):=belC l.b c7;have q2:wr.cell? (w+1:Nat)=some (sb:Vl):=belC l.b ev;have q8:wr.cell? ⟨w+1+1,8,none⟩=some (.slice A3 arms c3):=belC l.b eu;have bd:∀b,(w.heap.size<=b/\b<w.heap.size+3)->im own wr b:=λb hb=>⟨ω,λh=>by have:=c8 b h;omega⟩
   have I0:=bd w ω;have I1:=bd (w+1) ω;have I2:=bd (w+1+1) ω;have c6:Hid (ArmRel mb own (Stm mb)):=stm_arm HO
   have ck:Hid (mq (λi W Q=>Calls prog 203 #[i,w,(w+1:Nat),(w+1+1:Nat)] W Q) (arms.map St.n).length p own mb sb (Stm mb) InvT (dr (aF p M n) arms) wr):=by
    intro i g' bo f2 W hi ee f9 hrel fu cq ed;have SS:=dE (g:=g') (c6.stp hrel) ee;rw[List.length_map] at hi;obtain⟨n',f',df⟩:=a2.rul
    have eg:Env W (plus own g') mb sb c p bo:=⟨a2.chk.to SS,⟨n',f',df.to SS⟩,cq,λb hb=>by
     rcases hb with hb|hb
     ·exact ρ (a2.ol b hb) hrel.s.size
     omega⟩
    have dh:0<=bo.actor:=by
     obtain⟨_,_,_,_,ea⟩:=cq;obtain⟨_,_,_,_,cr⟩:=a2.sco;have h3:=ea.c3;have h4:=au cr.c3 SS cr.isb;rw[h3] at h4;have h5:bo.actor=sc.actor:=by simpa using h4
     rw[h5];exact fa
    exact body203 ey eg ed dh (SS _ I0).1 (au q1 SS I0) (SS _ I1).1 (au q2 SS I1) (SS _ I2).1 (au q8 SS I2) (StsR.to ex SS) hi (e5 _ (ν hi))
   have be:=η (arms203 (st0:=()) a2 b3 ez es ew dw Θ c6 (λi O O' st w w' h _ _ _=>trivial) ck trivial)
   have ca:Hid (Calls prog 198 #[c.b,sb,.agg #[k2,s2,.slice fb n2 dm],.slice L arms z,.slice N arms A,.func (.func 203) #[] #[w,(w+1:Nat),(w+1+1:Nat)]] wr (λe w'=>Stm mb wr w'/\e=.returned (.bool (fO p (aa p M) (aF p M n) sc xs arms))/\(fO p (aa p M) (aF p M n) sc xs arms=true->ScS w' own mb sb sc))):=by
    have:=be.o;rw[List.length_map,List.length_map] at this;rw[er.o];refine this.mono ?_;rintro e8 w8 ⟨h1,h2,h3⟩
    exact⟨h1,h2,λh=>by
     obtain⟨st,d9⟩:=Option.isSome_iff_exists.1 h;exact (h3 st d9).2⟩
   have bu:=da.stp (mb:=mb) (Stm.of_below l.b) Ω;obtain⟨y0,y1,y2,_,_,_⟩:=bu.facts;clear a9 be bu bd b2 l HU I0 I1 I2 q8;go_wp2_with (go_at_call 198;refine ca.mono ?_;rintro e8 w8 ⟨eb,rfl,d8⟩);go_ret;exact i8 (bv.trans ((Stm.of_below (mb:=mb) B6).trans eb)) d8
end
