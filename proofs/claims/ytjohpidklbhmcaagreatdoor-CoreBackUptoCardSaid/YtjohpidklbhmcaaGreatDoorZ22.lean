/- Core -/
import Derived.Test.YtjohpidklbhmcaaGreatDoorZ15
namespace Go.Proofs.YtjohpidklbhmcaaGreatDoor
set_option linter.all false
open Go.Proofs.Tryz
set_option maxRecDepth 100000
set_option maxHeartbeats 16000000
open Go.RowKit Go.Maps Go.WideMaps Go.ChangeMaps
set_option maxRecDepth 1000000 in
def zfFixT {p:Prop} (h:p:=by
 have D:=η he.mb.1;have G:=he.mb.2;have y:gk≠mb:=λe=>hg.2 (by rw[e];exact he.mb.1);have v:gr≠mb:=λe=>hh.2 (by rw[e];exact he.mb.1);have H:gk<w.heap.size:=hg.1;have F:gr<w.heap.size:=hh.1;obtain⟨a,i⟩:=γ ((w.alloc (.cells #[.int .i64 op,.int .i64 x,.int .i64 m,.string s,.slice A kids.length cap] 43)).alloc (.cells #[.int .i64 0,.string ⟨#[]⟩,.slice none 0 0] 40))
 have j:Below w.heap.size w a:=by rw[i];exact ζ2
 have g:Hs a w.heap.size 43 (ex5 op x m s A kids.length cap):=by rw[i];exact (Hs.new _ _ _).alloc _
 have l:Hs a (w.heap.size+1) 40 z3:=by rw[i];exact Hs.new' _ _ _
 have u:w.heap.size+1<a.heap.size:=by rw[i];simp
 obtain⟨t,r,E,B,z⟩:=zd5 j l hi hc i;have V:=aD (mb:=mb) (rb:=w.heap.size+1) (belC j hgk) y (by simp;omega);have O:=aD (mb:=mb) (rb:=w.heap.size+1) (belC j hgr) v (by simp;omega);have d0:=aD (mb:=mb) (rb:=w.heap.size+1) (g.c 0) (by simp;omega) (by simp);have d1:=aD (mb:=mb) (rb:=w.heap.size+1) (g.c 1) (by simp;omega) (by simp);have d2:=aD (mb:=mb) (rb:=w.heap.size+1) (g.c 2) (by simp;omega) (by simp);have d3:=aD (mb:=mb) (rb:=w.heap.size+1) (g.c 3) (by simp;omega) (by simp);have Z:=aD (mb:=mb) (rb:=w.heap.size+1) (g.c 4) (by simp;omega) (by simp);clear he hx hi hg hh hgk hgr hc j g l i
 cases b
 all_goals
  go_enter func197,ntmps197;go_wp2_with fail;rw[<-z.o];refine tkB (λW=>Stp (plus (only mb) (w.heap.size+1)) a W) (by first|exact bq _ _|exact smDr _ _) (λhHeld=>?_);refine θ ?_;refine tkE 1 (λK hK=>?_);go_simp;(refine (aU _ _).mono ?_;rintro Y N ⟨rfl,d⟩);refine tkR hK ?_ (λhHeld=>?_)
  ·first|exact hHeld.trans (Stm.of_below d)|exact hHeld.trans (Stp.of_below d)
  clear hK K;refine tkE 5 (λK hK=>?_);go_simp;(refine (B.o _ (bel t.o (bel (ad _) d)) (ρ u (bel (ad _) d).size)).mono ?_;rintro X M ⟨rfl,f,q⟩;obtain⟨L,J,I,U,T,R⟩:=(r.o.stp ((Stm.of_below (bel (ad a) d)).trans f) (by unfold only;omega)).facts);refine tkR hK ?_ (λhHeld=>?_)
  ·exact hHeld.trans (f.s.wk (λ_ h=>.inl h))
  clear hK K;refine tkE 6 (λK hK=>?_);go_simp;refine tkR hK ?_ (λhHeld=>?_)
  ·exact stpR (by assumption) _ _ _ _ _
  clear hK K;refine tkQ 7 ?_;refine tkD ?_;clear hHeld;go_wp2_with fail;first
  | exact bodyPost_ret (am results197 _ _ (w.heap.size+1) _ _ _ _ _ rfl ((r.o.stp ((Stm.of_below (bel (ad a) d)).trans f) (by unfold only;omega)).set3 _ _ _ _ _)) rfl (aB ((Stm.of_below t.o).trans ((Stm.of_below (bel (ad a) d)).trans f)) ω ω)
  | exact bodyPost_ret (am results197 _ _ (w.heap.size+1) _ _ _ _ _ rfl ((r.o.stp ((Stm.of_below (bel (ad a) d)).trans f) (by unfold only;omega)).set3 _ _ _ _ _)) rfl (bo ((Stm.of_below t.o).trans ((Stm.of_below (bel (ad a) d)).trans f)) ω ω D.o (cO _ _ k E.o) (q (by first|rfl|trivial)))) :p:=h
section
variable {c:CB} {p:Pg} {mb:Nat} {own:Nat->Prop} {sb gk gr:Nat} {sc:Sc} {k:Int} {A:Option Addr} {kids:List Ex} {cap:Nat} {w:World} (he:Env w own mb sb c p sc) (hx:ExsR w (im own w) (.slice A kids.length cap) kids) (hi:i64 k) (hg:im own w gk) (hh:im own w gr) (hgk:w.cell? ⟨gk,0,none⟩=some (.int .i64 k))
include he hx hi hg hh hgk
theorem fixed200 {op x m:Int} {s:ByteArray} {wv:Value} {b:Bool} {g1 g2:Nat} (hgr:w.cell? ⟨gr,0,none⟩=some (.func (.func 200) #[] #[.pointer (some ⟨g1,0,none⟩),.pointer (some ⟨g2,0,none⟩)])) (hc:∀W,Below w.heap.size w W->w.heap.size+1<W.heap.size->Calls prog 200 #[.pointer (some ⟨sb,0,none⟩),.agg (ex5 op x m s A kids.length cap),.pointer (some ⟨g1,0,none⟩),.pointer (some ⟨g2,0,none⟩)] W (ResB W (plus own (w.heap.size+1)) mb sb sc b)):
 Calls prog 197 #[.pointer (some ⟨sb,0,none⟩),.agg (ex5 op x m s A kids.length cap),wv,.pointer (some ⟨gk,0,none⟩),.pointer (some ⟨gr,0,none⟩)] w (ResF w own mb sb sc (fixT k b)):=by
 have kk0:=trivial;exact zfFixT
theorem fixed201 {op x m:Int} {s:ByteArray} {wv:Value} {b:Bool} {g1 g2:Nat} (hgr:w.cell? ⟨gr,0,none⟩=some (.func (.func 201) #[] #[.pointer (some ⟨g1,0,none⟩),.pointer (some ⟨g2,0,none⟩)])) (hc:∀W,Below w.heap.size w W->w.heap.size+1<W.heap.size->Calls prog 201 #[.pointer (some ⟨sb,0,none⟩),.agg (ex5 op x m s A kids.length cap),.pointer (some ⟨g1,0,none⟩),.pointer (some ⟨g2,0,none⟩)] W (ResB W (plus own (w.heap.size+1)) mb sb sc b)):
 Calls prog 197 #[.pointer (some ⟨sb,0,none⟩),.agg (ex5 op x m s A kids.length cap),wv,.pointer (some ⟨gk,0,none⟩),.pointer (some ⟨gr,0,none⟩)] w (ResF w own mb sb sc (fixT k b)):=by
 have kk1:=trivial;exact zfFixT
end
end Go.Proofs.YtjohpidklbhmcaaGreatDoor
