import Derived.Test.YtbmknjfgjphfbaaGreatDoorZ21
set_option linter.all false
namespace Go.Proofs.YtbmknjfgjphfbaaGreatDoor
open Proofs.Tryz RowKit Maps WideMaps ChangeMaps
set_option maxRecDepth 100000
set_option maxHeartbeats 8000000
section
theorem scan_len {N:Nat}:∀(n:Nat) (l:List UInt8) (ts:List Tk),scanL N n l=.ok ts→ts.length<n
 | 0,l,ts,h=>by cases h
 | n+1,l,ts,h=>by
  rw[scanL] at h
  split at h
  · injection h with h;subst h;exact Nat.succ_pos _
  · split at h
    · cases h
    · split at h
      · cases h
      · rename_i hq
        injection h with h
        subst h
        have:=scan_len n _ _ hq
        simp;omega
theorem prog_in {e:Int} {patch:Bool} {ts:List Tk}:progP e patch (20*ts.length+1) (ts.length+1) ts≠.out:=fun h=>by
 have:=prog_G (e:=e) patch (20*ts.length+1) (ts.length+1) ts.length (Nat.lt_succ_self _) (Nat.lt_succ_self _) ts (Nat.le_refl _)
 unfold G at this
 rw[h] at this
 exact this
theorem tok_errs {at_:Int} {l:List UInt8} {x:Int} (h:tokL at_ l=.error x):x≠0:=by
 unfold tokL at h
 split at h
 · injection h with h;omega
 · split at h
   · cases h
   · split at h
     · split at h
       · rename_i hi;injection h with h;rcases int_errs hi with e|e<;>omega
       · cases h
     · split at h
       · split at h
         · rename_i hi;injection h with h;rcases text_errs _ _ _ hi with e|e<;>omega
         · cases h
       · split at h
         · cases h
         · split at h
           · cases h
           · injection h with h;omega
theorem skip_le:∀(b:Bool) (l:List UInt8),(skipL b l).length≤l.length
 | _,[]=>by unfold skipL;exact Nat.le_refl _
 | true,c::r=>by
  unfold skipL
  split
  · have:=skip_le false r;simp;omega
  · have:=skip_le true r;simp;omega
 | false,c::r=>by
  unfold skipL
  split
  · have:=skip_le false r;simp;omega
  · split
    · have:=skip_le true r;simp;omega
    · exact Nat.le_refl _
theorem text_less:∀(l a b q:List UInt8),textL a l=.ok (b,q)→q.length<l.length:=by
 intro l
 induction hl:l.length using Nat.strongRecOn generalizing l with
 | _ n ih =>
  intro a b q h
  cases l with
  | nil=>rw[textL_nil] at h;cases h
  | cons c r =>
   have hn:n=r.length+1:=by rw[←hl];rfl
   rw[textL_cons] at h
   split at h
   · cases h
   · split at h
     · split at h
       · cases h
       · injection h with h;injection h with h1 h2;subst h2;omega
     · split at h
       · cases r with
         | nil=>cases h
         | cons d r2 =>
          rw[textE_cons] at h
          cases hu:unesc d with
          | none=>rw[hu] at h;cases h
          | some y=>rw[hu] at h;have:=ih r2.length (by rw[hn];simp;omega) r2 rfl _ _ _ h;rw[hn];simp;omega
       · have:=ih r.length ω r rfl _ _ _ h;omega
theorem drop_less {c:UInt8} {r:List UInt8} (h:nameC c=true):((c::r).dropWhile nameC).length<(c::r).length:=by
 rw[List.dropWhile_cons_of_pos h]
 have:=(List.dropWhile_sublist nameC (l:=r)).length_le
 simp;omega
theorem tok_less {at_:Int} {l q:List UInt8} {t:Tk} (h:tokL at_ l=.ok (t,q)):q.length<l.length:=by
 unfold tokL at h
 split at h
 · cases h
 · rename_i c r
   split at h
   · rename_i hl;injection h with h;injection h with h1 h2;subst h2;exact drop_less (by rw[name_or,hl];rfl)
   · split at h
     · rename_i hg
       split at h
       · cases h
       · injection h with h;injection h with h1 h2;subst h2;exact drop_less (by rw[name_or,hg];simp)
     · split at h
       · split at h
         · cases h
         · rename_i ht;injection h with h;injection h with h1 h2;subst h2;have:=text_less _ _ _ _ ht;simp;omega
       · split at h
         · rename_i hm;injection h with h;injection h with h1 h2;subst h2;simp at hm ⊢;omega
         · split at h
           · injection h with h;injection h with h1 h2;subst h2;simp
           · cases h
theorem scan_errs {N:Nat}:∀(n:Nat) (l:List UInt8) (x p:Int),l.length<n→scanL N n l=.err x p→x≠0
 | 0,l,x,p,hl,_=>absurd hl (Nat.not_lt_zero _)
 | n+1,l,x,p,hl,h=>by
  rw[scanL] at h
  split at h
  · cases h
  · rename_i c r hs
    split at h
    · rename_i ht;injection h with h1 h2;subst h1;exact tok_errs ht
    · rename_i t q ht
      split at h
      · rename_i hq
        injection h with h1 h2
        subst h1
        refine scan_errs n q _ _ ?_ hq
        have h1:=tok_less ht
        have h2:=skip_le false l
        rw[hs] at h2
        omega
      · cases h
def RunS (w:À) (a b d:Nat) (x p:Int) (X:À):Prop:=Hs X a 83 zero5∧Hs X b 31 #[.int .i64 x]∧Hs X d 3 #[.int .i64 p]∧Below w.heap.size w X
section
variable {w X:À} {a b d:Nat} {x p:Int}
theorem RunS.dr (h:RunS w a b d x p X):RunS w a b d x p X.drew:=⟨hs_bel h.1 (belDr X),hs_bel h.2.1 (belDr X),hs_bel h.2.2.1 (belDr X),h.2.2.2.drew⟩
theorem RunS.only {own:Nat→Prop} {Y:À} (h:RunS w a b d x p X) (st:Stp own X Y) (h1:¬own a) (h2:¬own b) (h3:¬own d) (h4:∀k,k<w.heap.size→¬own k):RunS w a b d x p Y:=
 ⟨hs_stp h.1 st h1,hs_stp h.2.1 st h2,hs_stp h.2.2.1 st h3,⟨st.os.trans h.2.2.2.os,st.tape.trans h.2.2.2.tape,st.output.trans h.2.2.2.output,Nat.le_trans h.2.2.2.size st.size,fun k hk=>(st.block k (Nat.lt_of_lt_of_le hk h.2.2.2.size) (h4 k hk)).trans (h.2.2.2.block k hk)⟩⟩
theorem RunS.row (h:RunS w a b d x p X) (h1:a≠b) (h2:a≠d) (ha:w.heap.size≤a):RunS w a b d x p (X.setRow a zero5):=
 ⟨setRow_heap _ _ _ _ _ _ h.1,(setRow_other _ _ _ _ (Ne.symm h1)).trans h.2.1,(setRow_other _ _ _ _ (Ne.symm h2)).trans h.2.2.1,bel_row h.2.2.2 ha _⟩
theorem RunS.stb (h:RunS w a b d x p X) (h1:a≠b) (h2:b≠d) (hb:w.heap.size≤b):RunS w a b d x p (X.setCell ⟨b,0,none⟩ (.int .i64 x)):=
 ⟨hs_oth h.1 h1,hs_put h.2.1,hs_oth h.2.2.1 (Ne.symm h2),h.2.2.2.setCell (p:=⟨b,0,none⟩) hb _⟩
theorem RunS.std (h:RunS w a b d x p X) (h1:a≠d) (h2:b≠d) (hd:w.heap.size≤d):RunS w a b d x p (X.setCell ⟨d,0,none⟩ (.int .i64 p)):=
 ⟨hs_oth h.1 h1,hs_oth h.2.1 h2,hs_put h.2.2.1,h.2.2.2.setCell (p:=⟨d,0,none⟩) hd _⟩
end
theorem fell_is {w X:À} {a b d:Nat} {x p:Int} (h:RunS w a b d x p X) (at_:Int) (h1:a≠b) (h2:a≠d) (h3:b≠d) (ha:w.heap.size≤a) (hb:w.heap.size≤b) (hd:w.heap.size≤d):RunS w a b d 2 at_ (fellW a b d at_ X):=by
 unfold fellW
 have e1:=h.row h1 h2 ha
 have e2:Hs ((X.setRow a zero5).setCell ⟨b,0,none⟩ (.int .i64 2)) b 31 #[.int .i64 2]:=hs_put e1.2.1
 have e3:=hs_oth (i:=0) (v:=.int .i64 2) (g':=b) e1.1 h1
 have e4:=hs_oth (i:=0) (v:=.int .i64 2) (g':=b) e1.2.2.1 (Ne.symm h3)
 exact⟨hs_oth (hs_oth e3 h2) h2,hs_oth (hs_oth e2 h3) h3,hs_put (hs_put e4),((e1.2.2.2.setCell (p:=⟨b,0,none⟩) hb _).setCell (p:=⟨d,0,none⟩) hd _).setCell (p:=⟨d,0,none⟩) hd _⟩
section
variable {P:Program} {md:Region.Mode} {ops:Array Oper} {Q:Exit→Act→À→Prop} {S:À→Prop} {fuel:Nat} {listed:Array Bool} {a:Act} {w:À}
theorem tkE2 (i j:Nat) {oi oj:Oper}
 (h1:∀K':Act→À→Prop,Shut (∀a w,S w→(S w→wpAnyH P md ops Q S fuel (listed.setIfInBounds i true) a w)→K' a w)→if Region.wanted oi (yielded ops a.tmps)=true then Oper.wp P oi a w K' Q else K' (a.put oi.dst undef) w)
 (h2:∀K':Act→À→Prop,Shut (∀a w,S w→(S w→wpAnyH P md ops Q S fuel (listed.setIfInBounds j true) a w)→K' a w)→if Region.wanted oj (yielded ops a.tmps)=true then Oper.wp P oj a w K' Q else K' (a.put oj.dst undef) w)
 (hi:nthO ops.toList i=some oi:=by exact rfl) (hj:nthO ops.toList j=some oj:=by exact rfl)
 (hr:Region.ready md ops listed=[i,j]:=by kernel_rfl):wpAnyH P md ops Q S (fuel+1) listed a w:=
 wpAnyH_ready hr (by simp) (AllReadyH.cons (nthO_eq hi) h1 (AllReadyH.cons (nthO_eq hj) h2 AllReadyH.nil))
end
theorem leaves_congr {P:Program} {fn:Func} {t1 t2:Array Value} {R:Ending→À→Prop} (hr:∀w,(results fn t1).run P w=(results fn t2).run P w):∀(ds:List Deferred) (u:FrameMode) (w:À),Leaves P fn t1 R ds u w→Leaves P fn t2 R ds u w
 | [],.returning,w,⟨v,h1,h2⟩=>⟨v,(hr w).symm.trans h1,h2⟩
 | [],.panicking _,w,h=>h
 | [],.run,w,h=>h.elim
 | d::ds,u,w,⟨hu,fv,cap,f,args,h1,h2,h3⟩=>⟨hu,fv,cap,f,args,h1,h2,h3.mono fun e u' w' h=>by
  cases e with
  | returned v=>exact leaves_congr hr ds _ _ h
  | panicked c=>exact leaves_congr hr ds _ _ h
  | outgrown=>exact h⟩
theorem leaves_put {R:Ending→À→Prop} {ds:List Deferred} {u:FrameMode} {w:À} {a:Array Value} {v:Value} (k:Nat) (h4:k≠4) (h5:k≠5) (h6:k≠6) (h:Leaves prog Tryz.f30 (a.setIfInBounds k v) R ds u w):Leaves prog Tryz.f30 a R ds u w:=
 leaves_congr (fun w=>by simp only[results,results30];simp[Sem.run_bind,Array.getElem?_setIfInBounds_ne h4,Array.getElem?_setIfInBounds_ne h5,Array.getElem?_setIfInBounds_ne h6]) ds u w h
def RunT (cs:Array Value) (w:À) (a b d:Nat) (x p:Int) (X:À):Prop:=Hs X a 83 cs∧Hs X b 31 #[.int .i64 x]∧Hs X d 3 #[.int .i64 p]∧Below w.heap.size w X
section
variable {w X:À} {a b d:Nat} {x p:Int} {cs:Array Value}
theorem RunS.rowT (h:RunS w a b d x p X) (h1:a≠b) (h2:a≠d) (ha:w.heap.size≤a) (cs:Array Value) (hc:cs.size=5):RunT cs w a b d x p (X.setRow a cs):=
 ⟨setRow_heap _ _ _ _ _ _ h.1,(setRow_other _ _ _ _ (Ne.symm h1)).trans h.2.1,(setRow_other _ _ _ _ (Ne.symm h2)).trans h.2.2.1,bel_row h.2.2.2 ha _⟩
theorem RunT.row (h:RunT cs w a b d x p X) (h1:a≠b) (h2:a≠d) (ha:w.heap.size≤a) (ct:Array Value):RunT ct w a b d x p (X.setRow a ct):=
 ⟨setRow_heap _ _ _ _ _ _ h.1,(setRow_other _ _ _ _ (Ne.symm h1)).trans h.2.1,(setRow_other _ _ _ _ (Ne.symm h2)).trans h.2.2.1,bel_row h.2.2.2 ha _⟩
theorem RunT.stb (h:RunT cs w a b d x p X) (h1:a≠b) (h2:b≠d) (hb:w.heap.size≤b) (y:Int):RunT cs w a b d y p (X.setCell ⟨b,0,none⟩ (.int .i64 y)):=
 ⟨hs_oth h.1 h1,hs_put h.2.1,hs_oth h.2.2.1 (Ne.symm h2),h.2.2.2.setCell (p:=⟨b,0,none⟩) hb _⟩
theorem RunT.std (h:RunT cs w a b d x p X) (h1:a≠d) (h2:b≠d) (hd:w.heap.size≤d) (y:Int):RunT cs w a b d x y (X.setCell ⟨d,0,none⟩ (.int .i64 y)):=
 ⟨hs_oth h.1 h1,hs_oth h.2.1 h2,hs_put h.2.2.1,h.2.2.2.setCell (p:=⟨d,0,none⟩) hd _⟩
theorem RunT.bel {Y:À} (h:RunT cs w a b d x p X) (k:Below X.heap.size X Y):RunT cs w a b d x p Y:=⟨hs_bel h.1 k,hs_bel h.2.1 k,hs_bel h.2.2.1 k,Proofs.YtbmknjfgjphfbaaGreatDoor.bel h.2.2.2 k⟩
end
def RunV (w:À) (R:RunR) (e:Ending) (w':À):Prop:=
 match R with
 | .err x p=>e=.returned (.tuple #[.agg zero5,.int .i64 x,.int .i64 p])∧Below w.heap.size w w'
 | .ok n=>∃k s m p D l c,e=.returned (.tuple #[.agg (cl k s m p D l c).toArray,.int .i64 0,.int .i64 0])∧Below w.heap.size w w'∧NdR w' (nw w.heap.size w') (cl k s m p D l c) n
theorem res3 {fn:Func} {p q r:Tmp} (h:fn.results=#[.cell p 83,.cell q 31,.cell r 3]) (tmps:Array Value) (w:À) (a b d:Nat) (cs:Array Value) (x y:Int) (ha:tmps.getD p undef=.pointer (some ⟨a,0,none⟩)) (hb:tmps.getD q undef=.pointer (some ⟨b,0,none⟩)) (hd:tmps.getD r undef=.pointer (some ⟨d,0,none⟩)) (h1:Hs w a 83 cs) (hc:cs.size=5) (h2:Hs w b 31 #[.int .i64 x]) (h3:Hs w d 3 #[.int .i64 y]) :
 (results fn tmps).run prog w=.ok (.tuple #[.agg cs,.int .i64 x,.int .i64 y]) w:=by
 have e1:=run_loadVar_row (P:=prog) w a 83 83 cs (0,0) _ h1 underlying83 rfl (by rw[hc];kernel_rfl)
 have c2:w.cell? ⟨b,0,none⟩=some (.int .i64 x):=h2.cell 0
 have c3:w.cell? ⟨d,0,none⟩=some (.int .i64 y):=h3.cell 0
 have e2:(loadVar 31 ⟨b,0,none⟩).run prog w=.ok (.int .i64 x) w:=by
  simp[go_sem,c2]
 have e3:(loadVar 3 ⟨d,0,none⟩).run prog w=.ok (.int .i64 y) w:=by
  simp[go_sem,c3]
 rw[Array.getD_eq_getD_getElem?] at ha hb hd
 simp only[results,h]
 simp[Sem.run_bind,ha,hb,hd,asAddr,e1,e2,e3,Result.andThen]
theorem run_any (s:Ê) (patch:Bool) (w:À) (hs:s.size≤maxLen):Calls prog 30 #[.string s,.bool patch] w (RunV w (runP patch s.data.toList)):=by
 have hmf:=hmf
 obtain⟨W3,HW3⟩:∃W3,Hid (W3=((w.alloc (.cells zero5 83)).alloc (.cells #[.int .i64 0] 31)).alloc (.cells #[.int .i64 0] 3)):=⟨_,rfl⟩
 obtain⟨a,ha⟩:∃a,Hid (a=w.heap.size):=⟨_,rfl⟩
 obtain⟨b,hb⟩:∃b,Hid (b=w.heap.size+1):=⟨_,rfl⟩
 obtain⟨d,hd⟩:∃d,Hid (d=w.heap.size+1+1):=⟨_,rfl⟩
 have A3:Hid (Hs W3 a 83 zero5):=by show Hs _ _ _ _;rw[HW3.o,ha.o];exact ((Hs.new _ _ _).alloc _).alloc _
 have B3:Hid (Hs W3 b 31 #[.int .i64 0]):=by show Hs _ _ _ _;rw[HW3.o,hb.o];have:=(Hs.new (w.alloc (.cells zero5 83)) 31 #[.int .i64 0]).alloc (.cells #[.int .i64 0] 3);simpa using this
 have D3:Hid (Hs W3 d 3 #[.int .i64 0]):=by show Hs _ _ _ _;rw[HW3.o,hd.o];have:=Hs.new ((w.alloc (.cells zero5 83)).alloc (.cells #[.int .i64 0] 31)) 3 #[.int .i64 0];simpa using this
 have BW3:Hid (Below w.heap.size w W3):=by show Below _ _ _;rw[HW3.o];exact belA (belA (belA (belR _) _) _) _
 have SZ3:Hid (W3.heap.size=w.heap.size+3):=by show _=_;rw[HW3.o];simp
 go_enter_defers func30,ntmps30
 go_upto_region 1 with fail
 rw[←HW3.o,←hd.o,←hb.o,←ha.o]
 go_wp2_with fail
 refine (scan_any s W3 hs).mono ?_
 unfold ScV
 cases hsc:scanP s.data.toList with
 | err x p =>
  rintro _ W4 ⟨rfl,bw⟩
  obtain⟨A4,B4,D4⟩:=zd3 (hs_bel A3.o bw) (hs_bel B3.o bw) (hs_bel D3.o bw)
  have b0:W4.cell? ⟨b,0,none⟩=some (.int .i64 0):=B4.o.cell 0
  have bf:W4.frozen? ⟨b,0,none⟩=false:=B4.o.free 0
  have d0:W4.cell? ⟨d,0,none⟩=some (.int .i64 0):=D4.o.cell 0
  have df:W4.frozen? ⟨d,0,none⟩=false:=D4.o.free 0
  have n1:b≠d:=by have:=hb.o;have:=hd.o;omega
  have n2:d≠b:=by omega
  go_upto_region 3 with fail
  obtain⟨W5,HW5⟩:∃W5,Hid (W5=(W4.setCell ⟨b,0,none⟩ (.int .i64 x)).setCell ⟨d,0,none⟩ (.int .i64 p)):=⟨_,rfl⟩
  have S5:Hid (RunS w a b d x p W5):=by
   show RunS _ _ _ _ _ _ _
   rw[HW5.o]
   have m1:a≠b:=by have:=ha.o;have:=hb.o;omega
   have m2:a≠d:=by have:=ha.o;have:=hd.o;omega
   refine⟨hs_oth (hs_oth A4.o m1) m2,hs_oth (hs_put B4.o) n1,hs_put (hs_oth D4.o n2),?_⟩
   have h1:=bel BW3.o bw
   exact (h1.setCell (p:=⟨b,0,none⟩) (by have:=hb.o;simp;omega) _).setCell (p:=⟨d,0,none⟩) (by have:=hd.o;simp;omega) _
  rw[←HW5.o]
  clear b0 bf d0 df HW5 bw
  have NE:Hid (a≠b∧a≠d∧b≠d∧w.heap.size≤a∧w.heap.size≤b∧w.heap.size≤d):=⟨by have:=ha.o;have:=hb.o;omega,by have:=ha.o;have:=hd.o;omega,n1,by have:=ha.o;omega,by have:=hb.o;omega,by have:=hd.o;omega⟩
  have hx:x≠0:=by
   unfold scanP at hsc
   split at hsc
   · injection hsc with h;omega
   · exact scan_errs _ _ _ _ (Nat.lt_succ_self _) hsc
  have qx:(x != 0)=true:=by simpa using hx
  have qx2:(x==0)=false:=by simpa using hx
  have b0:=S5.o.2.1.c 0
  have HR:Hid (runP patch s.data.toList=.err x p):=by show _=_;unfold runP;rw[hsc]
  clear hsc hx n1 n2
  go_wp2_with fail
  have hs3:∀X,RunS w a b d x p X→RunS w a b d x p (X.setRow a zero5):=fun X h=>h.row NE.o.1 NE.o.2.1 NE.o.2.2.2.1
  have hs4:∀X,RunS w a b d x p X→RunS w a b d x p (X.setCell ⟨b,0,none⟩ (.int .i64 x)):=fun X h=>h.stb NE.o.1 NE.o.2.2.1 NE.o.2.2.2.2.1
  have hs5:∀X,RunS w a b d x p X→RunS w a b d x p (X.setCell ⟨d,0,none⟩ (.int .i64 p)):=fun X h=>h.std NE.o.2.1 NE.o.2.2.1 NE.o.2.2.2.2.2
  refine tkB (fun X=>RunS w a b d x p X) (S5.o.dr) (fun HS=>?_)
  generalize W5.drew=X0 at HS ⊢
  refine tkQ 0 ?_ (hQ:=by intro c a w h;exact leaves_put 20 π π π h)
  refine tkQ 1 ?_ (hQ:=by intro c a w h;exact leaves_put 21 π π π h) (hy:=fun w hS=>by have q0:=hS.2.1.c 0;go_simp;first|done|with_reducible rfl)
  refine tkQ 2 ?_ (hQ:=by intro c a w h;exact leaves_put 22 π π π h) (hy:=fun w hS=>by have q0:=hS.2.2.1.c 0;go_simp;first|done|with_reducible rfl)
  refine tkE 3 (fun K hK=>?_)
  rw[if_pos (by rfl)]
  refine wp_store_row 83 _ _ rfl a zero5 rfl rfl 83 _ HS.1 Δ rfl (by simp[Value.oneCell']) ?_
  have HS:=hs3 _ HS
  refine tkR hK HS (fun _=>?_)
  clear hK K
  generalize X0.setRow a zero5=X3 at HS ⊢
  refine tkE 4 (fun K hK=>?_)
  have q0:=HS.2.1.c 0
  have qf:=HS.2.1.free 0
  go_simp
  have HS:=hs4 _ HS
  clear q0 qf
  refine tkR hK HS (fun _=>?_)
  clear hK K
  generalize X3.setCell ⟨b,0,none⟩ (.int .i64 x)=X4 at HS ⊢
  refine tkE 5 (fun K hK=>?_)
  have q0:=HS.2.2.1.c 0
  have qf:=HS.2.2.1.free 0
  go_simp
  have HS:=hs5 _ HS
  clear q0 qf
  refine tkR hK HS (fun _=>?_)
  clear hK K
  generalize X4.setCell ⟨d,0,none⟩ (.int .i64 p)=X5 at HS ⊢
  refine tkD ?_
  go_wp2_with fail
  refine leaves_cons (f:=54) (args:=#[.pointer (some ⟨a,0,none⟩),.pointer (some ⟨b,0,none⟩),.pointer (some ⟨d,0,none⟩)]) (by simp) (by simp[go_sem]) ?_
  refine (catch_idle a b d _).mono ?_
  rintro e u' w'' ⟨rfl,rfl,rfl⟩
  exact⟨_,res3 results30 _ _ a b d zero5 x p rfl rfl rfl HS.1 rfl HS.2.1 HS.2.2.1,by unfold RunV;rw[HR.o];exact⟨rfl,HS.2.2.2⟩⟩
 | ok ts =>
  have HL:Hid (ts.length≤32768∧s.size≤32768):=by
   unfold scanP at hsc
   split at hsc
   · cases hsc
   · rename_i hb
     have h1:=scan_len _ _ _ hsc
     simp at h1 hb
     exact⟨by omega,by omega⟩
  have HR:Hid (runP patch s.data.toList=match progP (s.size:Int) patch (20*ts.length+1) (ts.length+1) ts with|.out=>.err 0 0|.bad r=>.err 2 (offP (s.size:Int) r)|.ok q _=>match deepP 0 (.mk 1 e0 0 0 q) with|some p=>.err 10 p|none=>.ok (.mk 1 e0 0 0 q)):=by show _=_;unfold runP;rw[hsc];simp only[Array.length_toList];rfl
  clear hsc
  rintro _ W4 ⟨A,cap,rfl,bw,hsl⟩
  have NE:Hid (a≠b∧a≠d∧b≠d∧w.heap.size≤a∧w.heap.size≤b∧w.heap.size≤d∧d<W3.heap.size):=⟨by have:=ha.o;have:=hb.o;omega,by have:=ha.o;have:=hd.o;omega,by have:=hb.o;have:=hd.o;omega,by have:=ha.o;omega,by have:=hb.o;omega,by have:=hd.o;omega,by have:=hd.o;have:=SZ3.o;omega⟩
  have S4:Hid (RunS w a b d 0 0 W4):=⟨hs_bel A3.o bw,hs_bel B3.o bw,hs_bel D3.o bw,bel BW3.o bw⟩
  have SL:=η hsl
  have BZ:=η bw.size
  clear hsl bw
  have b0:=S4.o.2.1.c 0
  have bf:=S4.o.2.1.free 0
  have d0:=S4.o.2.2.1.c 0
  have df:=S4.o.2.2.1.free 0
  have n1:=NE.o.2.2.1
  have n2:=NE.o.2.2.1.symm
  go_upto_region 3 with fail
  obtain⟨W5,HW5⟩:∃W5,Hid (W5=(W4.setCell ⟨b,0,none⟩ (.int .i64 0)).setCell ⟨d,0,none⟩ (.int .i64 0)):=⟨_,rfl⟩
  have S5:Hid (RunS w a b d 0 0 W5):=by show RunS _ _ _ _ _ _ _;rw[HW5.o];exact (S4.o.stb NE.o.1 NE.o.2.2.1 NE.o.2.2.2.2.1).std NE.o.2.1 NE.o.2.2.1 NE.o.2.2.2.2.2.1
  have SL5:Hid (SlR W5 (nw W3.heap.size W5) 4 TkR (.slice A ts.length cap) ts):=by
   show SlR _ _ _ _ _ _
   rw[HW5.o]
   exact SlR.to' SL.o (fun k hk=>⟨⟨hk.1,by have:=hk.2;simp[World.setCell];exact this⟩,(Below.heap_setCell _ _ _ _ (fun e=>by have:=NE.o.2.2.2.2.2.2;have:=hk.1;simp at e;omega)).trans (Below.heap_setCell _ _ _ _ (fun e=>by have:=NE.o.2.2.2.2.2.2;have:=hb.o;have:=hd.o;have:=hk.1;simp at e;omega))⟩) fun _ _ x=>x
  have BZ5:Hid (W3.heap.size≤W5.heap.size):=by show _≤_;rw[HW5.o];simp[World.setCell];exact BZ.o
  rw[←HW5.o]
  clear b0 bf d0 df HW5 n1 n2
  have b0:=S5.o.2.1.c 0
  go_wp2_with fail
  refine (operators_any W5).mono ?_
  rintro _ W6 ⟨mb,n0,rfl,b6,m1,m2,hm⟩
  clear b0
  obtain⟨W7,HW7⟩:∃W7,Hid (W7=W6.alloc (.cells #[.slice A ts.length cap,.int .i64 0,.int .i64 (s.size:Int),.bool false,.map (some mb)] 148)):=⟨_,rfl⟩
  have B67:Hid (Below W6.heap.size W6 W7):=by show Below _ _ _;rw[HW7.o];exact belA (belR _) _
  have B57:=η (bel b6 B67.o)
  have Z7:Hid (W7.heap.size=W6.heap.size+1):=by show _=_;rw[HW7.o];simp
  have PWk:Hid (PW ⟨W6.heap.size,ts,(s.size:Int),mb,A,cap,W7.heap.size⟩ W7 ts false):=by
   refine⟨?_,?_,?_,?_,⟨n0,hm.same (B67.o.block mb m2)⟩,List.suffix_refl _,?_⟩
   · show Hs W7 W6.heap.size 148 _;rw[HW7.o];have:=Hs.new W6 148 #[.slice A ts.length cap,.int .i64 0,.int .i64 (s.size:Int),.bool false,.map (some mb)];simpa using this
   · exact SlR.to' SL5.o (fun k hk=>⟨⟨by have h1:=hk.2;have h2:=b6.size;have h3:=Z7.o;show k<W7.heap.size;omega,fun e=>by have h1:=hk.2;have h2:=b6.size;have e:k=W6.heap.size:=e;omega⟩,B57.o.block k hk.2⟩) fun _ _ x=>x
   · show mb≠W6.heap.size;omega
   · exact⟨by show W6.heap.size<W7.heap.size;have:=Z7.o;omega,by show mb<W7.heap.size;have:=Z7.o;omega,Nat.le_refl _⟩
   · show i64 (s.size:Int);have:=HL.o.2;unfold i64;omega
  have S7:Hid (RunS w a b d 0 0 W7):=⟨hs_bel S5.o.1 B57.o,hs_bel S5.o.2.1 B57.o,hs_bel S5.o.2.2.1 B57.o,bel S5.o.2.2.2 B57.o⟩
  have PB:Hid (d<W6.heap.size∧a<W6.heap.size∧b<W6.heap.size∧w.heap.size≤W6.heap.size):=by have h1:=NE.o;have h2:=BZ5.o;have h3:=b6.size;have h4:=ha.o;have h5:=hb.o;have h6:=hd.o;exact⟨by omega,by omega,by omega,by omega⟩
  clear b6 m1 m2 hm
  have PR:=η (prog_said ⟨W6.heap.size,ts,(s.size:Int),mb,A,cap,W7.heap.size⟩ patch (n:=20*ts.length+1) (k:=ts.length+1) (by have:=HL.o.1;omega) (by have:=HL.o.1;omega))
  go_upto_region 6 with fail
  rw[←HW7.o]
  clear HW7
  go_wp2_with fail
  cases hp:progP (s.size:Int) patch (20*ts.length+1) (ts.length+1) ts with
  | out=>exact absurd hp prog_in
  | bad q =>
   have HV:Hid (runP patch s.data.toList=.err 2 (offP (s.size:Int) q)):=HR.o.trans (by rw[hp])
   refine (Said.bad PR.o PWk.o (bd_bad hp)).mono ?_
   rintro _ W8 ⟨rfl,st⟩
   have S8:Hid (RunS w a b d 0 0 W8):=S7.o.only st (fun e=>by have e:a=W6.heap.size:=e;have:=PB.o;omega) (fun e=>by have e:b=W6.heap.size:=e;have:=PB.o;omega) (fun e=>by have e:d=W6.heap.size:=e;have:=PB.o;omega) (fun k hk e=>by have e:k=W6.heap.size:=e;have:=PB.o;omega)
   refine leaves_cons (f:=54) (args:=#[.pointer (some ⟨a,0,none⟩),.pointer (some ⟨b,0,none⟩),.pointer (some ⟨d,0,none⟩)]) (by simp) (by simp[go_sem]) ?_
   refine (catch_fell a b d _ 0 0 W8 S8.o.1 S8.o.2.1 S8.o.2.2.1 ⟨NE.o.1,NE.o.2.1,NE.o.2.2.1⟩).mono ?_
   rintro e u' w'' ⟨rfl,rfl,rfl⟩
   have F:=fell_is S8.o (offP (s.size:Int) q) NE.o.1 NE.o.2.1 NE.o.2.2.1 NE.o.2.2.2.1 NE.o.2.2.2.2.1 NE.o.2.2.2.2.2.1
   exact⟨_,res3 results30 _ _ a b d zero5 2 (offP (s.size:Int) q) rfl rfl rfl F.1 rfl F.2.1 F.2.2.1,by unfold RunV;rw[HV.o];exact⟨rfl,F.2.2.2⟩⟩
  | ok l q =>
   have HV0:Hid (runP patch s.data.toList=match deepP 0 (.mk 1 e0 0 0 l) with|some p=>.err 10 p|none=>.ok (.mk 1 e0 0 0 l)):=HR.o.trans (by rw[hp])
   refine (Said.ok PR.o PWk.o (bd_ok hp)).mono ?_
   rintro _ W8 ⟨v,rfl,hv,st,pw⟩
   obtain⟨k1,s1,m1,p1,D1,l1,c1,rfl,hr⟩:=hv
   have S8:Hid (RunS w a b d 0 0 W8):=S7.o.only st (fun e=>by have e:a=W6.heap.size:=e;have:=PB.o;omega) (fun e=>by have e:b=W6.heap.size:=e;have:=PB.o;omega) (fun e=>by have e:d=W6.heap.size:=e;have:=PB.o;omega) (fun k hk e=>by have e:k=W6.heap.size:=e;have:=PB.o;omega)
   obtain⟨W9,HW9⟩:∃W9,Hid (W9=W8.setRow a (cl k1 s1 m1 p1 D1 l1 c1).toArray):=⟨_,rfl⟩
   have T9:Hid (RunT (cl k1 s1 m1 p1 D1 l1 c1).toArray w a b d 0 0 W9):=by show RunT _ _ _ _ _ _ _ _;rw[HW9.o];exact S8.o.rowT NE.o.1 NE.o.2.1 NE.o.2.2.2.1 _ rfl
   have NR9:Hid (NdR W9 (nw W7.heap.size W9) (cl k1 s1 m1 p1 D1 l1 c1) (.mk 1 e0 0 0 l)):=by
    show NdR _ _ _ _
    rw[HW9.o]
    exact NdR.to hr fun k hk=>⟨⟨hk.1,by have:=hk.2;simp[World.setRow];exact this⟩,setRow_other _ _ _ _ (fun e=>by have h1:=hk.1;have h2:=PB.o;have h3:=Z7.o;omega)⟩
   have LOW:Hid (a<W7.heap.size∧b<W7.heap.size∧d<W7.heap.size∧w.heap.size≤W7.heap.size):=by have h2:=PB.o;have h3:=Z7.o;exact⟨by omega,by omega,by omega,by omega⟩
   have DA:Hid (Calls prog 58 #[.agg (cl k1 s1 m1 p1 D1 l1 c1).toArray,.int .i64 0] W9 (DpSaid (deepP 0 (.mk 1 e0 0 0 l)) W9)):=deep_any 41 (cl k1 s1 m1 p1 D1 l1 c1) (.mk 1 e0 0 0 l) 0 W9 rfl (NdR.to NR9.o fun k hk=>⟨hk.2,rfl⟩)
   clear hr st pw
   cases hd:deepP 0 (.mk 1 e0 0 0 l) with
   | none =>
    have HV:Hid (runP patch s.data.toList=.ok (.mk 1 e0 0 0 l)):=HV0.o.trans (by rw[hd])
    go_upto_region 10 with (first|(refine wpList_store_row rfl 83 _ _ rfl a (cl k1 s1 m1 p1 D1 l1 c1).toArray rfl rfl 83 _ S8.o.1 Δ rfl (by simp[Value.oneCell']) ?_;rw[←HW9.o])|(refine wpList_load_row rfl 83 _ rfl a rfl 83 _ _ _ T9.o.1 underlying83 rfl Δ ?_)|(go_at_call 58;refine DA.o.mono ?_;rw[hd];rintro _ W10 ⟨rfl,bw⟩))
    have T10:=η (T9.o.bel bw)
    obtain⟨W11,HW11⟩:∃W11,Hid (W11=W10.setRow a (cl k1 s1 m1 p1 D1 l1 c1).toArray):=⟨_,rfl⟩
    have T11:Hid (RunT (cl k1 s1 m1 p1 D1 l1 c1).toArray w a b d 0 0 W11):=by show RunT _ _ _ _ _ _ _ _;rw[HW11.o];exact T10.o.row NE.o.1 NE.o.2.1 NE.o.2.2.2.1 _
    have b0:=T11.o.2.1.c 0
    have bf:=T11.o.2.1.free 0
    have d0:=T11.o.2.2.1.c 0
    have df:=T11.o.2.2.1.free 0
    have n1:=NE.o.2.2.1
    have n2:=NE.o.2.2.1.symm
    go_wp2_with (first|(refine wpList_load_row rfl 83 _ rfl a rfl 83 _ _ _ T10.o.1 underlying83 rfl Δ ?_)|(refine wpList_store_row rfl 83 _ _ rfl a (cl k1 s1 m1 p1 D1 l1 c1).toArray rfl rfl 83 _ T10.o.1 Δ rfl (by simp[Value.oneCell']) ?_;rw[←HW11.o]))
    have F:=η ((T11.o.stb NE.o.1 NE.o.2.2.1 NE.o.2.2.2.2.1 0).std NE.o.2.1 NE.o.2.2.1 NE.o.2.2.2.2.2.1 0)
    refine leaves_cons (f:=54) (args:=#[.pointer (some ⟨a,0,none⟩),.pointer (some ⟨b,0,none⟩),.pointer (some ⟨d,0,none⟩)]) (by simp) (by simp[go_sem]) ?_
    refine (catch_idle a b d _).mono ?_
    rintro e u' w'' ⟨rfl,rfl,rfl⟩
    exact⟨_,res3 results30 _ _ a b d (cl k1 s1 m1 p1 D1 l1 c1).toArray 0 0 rfl rfl rfl F.o.1 rfl F.o.2.1 F.o.2.2.1,by unfold RunV;rw[HV.o];exact⟨k1,s1,m1,p1,D1,l1,c1,rfl,F.o.2.2.2,NdR.to (P:=nw W7.heap.size W9) NR9.o fun k hk=>⟨⟨by have:=hk.1;have:=LOW.o;omega,by have h1:=Nat.lt_of_lt_of_le hk.2 bw.size;rw[HW11.o];simp[World.setCell,World.setRow];exact h1⟩,(Below.heap_setCell _ _ _ _ (fun e=>by have:=hk.1;have:=LOW.o;simp at e;omega)).trans ((Below.heap_setCell _ _ _ _ (fun e=>by have:=hk.1;have:=LOW.o;simp at e;omega)).trans ((show W11.heap[k]?=W10.heap[k]? by rw[HW11.o];exact setRow_other _ _ _ _ (fun e=>by have:=hk.1;have:=LOW.o;omega)).trans (bw.block k hk.2)))⟩⟩⟩
   | some q =>
    have HV:Hid (runP patch s.data.toList=.err 10 q):=HV0.o.trans (by rw[hd])
    go_upto_region 9 with (first|(refine wpList_store_row rfl 83 _ _ rfl a (cl k1 s1 m1 p1 D1 l1 c1).toArray rfl rfl 83 _ S8.o.1 Δ rfl (by simp[Value.oneCell']) ?_;rw[←HW9.o])|(refine wpList_load_row rfl 83 _ rfl a rfl 83 _ _ _ T9.o.1 underlying83 rfl Δ ?_)|(go_at_call 58;refine DA.o.mono ?_;rw[hd];rintro _ W10 ⟨rfl,bw⟩))
    have T10:=η (T9.o.bel bw)
    obtain⟨W11,HW11⟩:∃W11,Hid (W11=W10.setRow a zero5):=⟨_,rfl⟩
    have T11:Hid (RunT zero5 w a b d 0 0 W11):=by show RunT _ _ _ _ _ _ _ _;rw[HW11.o];exact T10.o.row NE.o.1 NE.o.2.1 NE.o.2.2.2.1 _
    have b0:=T11.o.2.1.c 0
    have bf:=T11.o.2.1.free 0
    have d0:=T11.o.2.2.1.c 0
    have df:=T11.o.2.2.1.free 0
    have n1:=NE.o.2.2.1
    have n2:=NE.o.2.2.1.symm
    go_wp2_with (refine wpList_store_row rfl 83 _ _ rfl a zero5 rfl rfl 83 _ T10.o.1 Δ rfl (by simp[Value.oneCell']) ?_;rw[←HW11.o])
    have F:=η ((T11.o.stb NE.o.1 NE.o.2.2.1 NE.o.2.2.2.2.1 10).std NE.o.2.1 NE.o.2.2.1 NE.o.2.2.2.2.2.1 q)
    refine leaves_cons (f:=54) (args:=#[.pointer (some ⟨a,0,none⟩),.pointer (some ⟨b,0,none⟩),.pointer (some ⟨d,0,none⟩)]) (by simp) (by simp[go_sem]) ?_
    refine (catch_idle a b d _).mono ?_
    rintro e u' w'' ⟨rfl,rfl,rfl⟩
    exact⟨_,res3 results30 _ _ a b d zero5 10 q rfl rfl rfl F.o.1 rfl F.o.2.1 F.o.2.2.1,by unfold RunV;rw[HV.o];exact⟨rfl,F.o.2.2.2⟩⟩
end
theorem res24 {fn:Func} {p q r:Tmp} (h:fn.results=#[.cell p 83,.tmp q,.tmp r]) (tmps:Array Value) (w:À) (a:Nat) (cs:Array Value) (x y:Value) (ha:tmps.getD p undef=.pointer (some ⟨a,0,none⟩)) (hb:tmps.getD q undef=x) (hd:tmps.getD r undef=y) (h1:Hs w a 83 cs) (hc:cs.size=5) :
 (results fn tmps).run prog w=.ok (.tuple #[.agg cs,x,y]) w:=by
 have e1:=run_loadVar_row (P:=prog) w a 83 83 cs (0,0) _ h1 underlying83 rfl (by rw[hc];kernel_rfl)
 rw[Array.getD_eq_getD_getElem?] at ha hb hd
 simp only[results,h]
 simp[Sem.run_bind,ha,hb,hd,asAddr,e1,Result.andThen]
theorem parse_any (s:Ê) (w:À) (hs:s.size≤maxLen):Calls prog 13 #[.string s] w (RunV w (runP false s.data.toList)):=by
 obtain⟨W1,hW1⟩:∃q,Hid (q=w.alloc (.cells zero5 83)):=⟨_,rfl⟩
 have B1:Hid (Below w.heap.size w W1):=by show Below _ _ _;rw[hW1.o];exact belA (belR _) _
 have A1:Hid (Hs W1 w.heap.size 83 zero5):=by show Hs _ _ _ _;rw[hW1.o];exact Hs.new _ _ _
 have R:=η (run_any s false W1 hs)
 clear hs
 go_in
 go_upto_region 1 with fail
 rw[←hW1.o]
 clear hW1
 go_wp2_with fail
 refine R.out.mono ?_
 cases hr:runP false s.data.toList with
 | err x p =>
  rintro _ W2 ⟨rfl,bw⟩
  obtain⟨A2,BB⟩:=zd2 (hs_bel A1.o bw) (bel_row (bel B1.o bw) (Nat.le_refl _) zero5)
  have O:=setRow_heap _ _ _ zero5 _ _ A2.o
  clear bw
  go_wp2_with (refine wpList_store_row rfl 83 _ _ rfl w.heap.size zero5 rfl rfl 83 _ A2.o Δ rfl (by simp[Value.oneCell']) ?_)
  exact bodyPost_ret (res24 results13 _ _ w.heap.size zero5 (.int .i64 x) (.int .i64 p) rfl rfl rfl O rfl) rfl (by rw[hr];exact⟨rfl,BB.o⟩)
 | ok t =>
  rintro _ W2 ⟨k1,s1,m1,p1,D1,l1,c1,rfl,bw,hn⟩
  obtain⟨A2,BB⟩:=zd2 (hs_bel A1.o bw) (bel_row (bel B1.o bw) (Nat.le_refl _) (cl k1 s1 m1 p1 D1 l1 c1).toArray)
  have O:=setRow_heap _ _ _ (cl k1 s1 m1 p1 D1 l1 c1).toArray _ _ A2.o
  have NN:Hid (NdR (W2.setRow w.heap.size (cl k1 s1 m1 p1 D1 l1 c1).toArray) (nw w.heap.size (W2.setRow w.heap.size (cl k1 s1 m1 p1 D1 l1 c1).toArray)) (cl k1 s1 m1 p1 D1 l1 c1) t):=
   NdR.to hn fun k hk=>⟨⟨Nat.le_trans B1.o.size hk.1,by have:=hk.2;simp[World.setRow];exact this⟩,setRow_other _ _ _ _ (fun e=>by have h1:=hk.1;have h2:=A1.o.lt;omega)⟩
  clear bw hn
  go_wp2_with (refine wpList_store_row rfl 83 _ _ rfl w.heap.size (cl k1 s1 m1 p1 D1 l1 c1).toArray rfl rfl 83 _ A2.o Δ rfl (by simp[Value.oneCell']) ?_)
  exact bodyPost_ret (res24 results13 _ _ w.heap.size (cl k1 s1 m1 p1 D1 l1 c1).toArray (.int .i64 0) (.int .i64 0) rfl rfl rfl O rfl) rfl (by rw[hr];exact⟨k1,s1,m1,p1,D1,l1,c1,rfl,BB.o,NN.o⟩)
end Go.Proofs.YtbmknjfgjphfbaaGreatDoor
