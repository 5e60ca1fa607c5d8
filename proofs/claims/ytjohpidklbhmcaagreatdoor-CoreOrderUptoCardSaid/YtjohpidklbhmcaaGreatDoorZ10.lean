/- Core -/
import Derived.Test.YtjohpidklbhmcaaGreatDoorZ5
import Derived.Laws.Bits128
import Derived.Laws.BytesString
namespace Go.Proofs.YtjohpidklbhmcaaGreatDoor
set_option linter.all false
open Proofs.Tryz RowKit Maps WideMaps ChangeMaps
set_option maxRecDepth 100000
set_option maxHeartbeats 2000000
section
variable {E:EF} {sc:Sc} {l:List Ex} {j:Nat}
def gE {ts:List Ty} (h:j<l) (h':j<ts):aR E sc (l.drop j) (ts.drop j)=(isE E sc l[j] ts[j]&&aR E sc (l.drop (j+1)) (ts.drop (j+1))):=by
 rw[bk h,bk h',aR]
def eX {ts:List Ty} (h:¬j<l):aR E sc (l.drop j) (ts.drop j)=true:=by
 rw[ε ω];rfl
variable {k:Int}
def eM {s:Ê} {a:List Ty} (h:ag (.mk k s a)=true):∀x∈a,ag x=true:=by
 rw[ag] at h;split at h
 ·simp at h;intro x b;rw[h.2] at b;cases b
 split at h
 ·simp at h;intro x b;rw[h.2] at b;cases b
 split at h
 ·simp only[τ] at h;rw[fi,List.all_eq_true] at h;exact h.2
 split at h
 ·simp only[τ] at h;rw[fi,List.all_eq_true] at h;exact h.2
 cases h
def xe {kids:List Ex} (h:0<kids.length):dY E sc kids=match E sc kids[0] none with|none=>none|some t=>if t.kind=8/\t.args.length=kids.length then (if aR E sc (kids.drop 1) t.args then t.args.getLast? else none) else none:=by
 match kids,h with
 | k0::ks,_=>rfl
variable {sb kc:Nat} {x:Int} {A:Option Addr} {wv:Value} {want:Option Ty}
def xr {c:CB} {p:Pg} {mb n:Nat} (IH:xG c p mb n) (hF:aO p n) (hFi:Fine p) {own:Nat->Prop} {op m:Int} {s:Ê} {kids:List Ex} {cap:Nat} {w:À} (hd:∀k∈kids,Ex.deep k<=n) (he:Env w own mb sb c p sc) (ho:ScOk p sc) (hk:im own w kc) (hkc:w.cell? kc=some (c.b:Vl)) (hx:ExsR w (im own w) (.slice A kids cap) kids) (hw:WantR w (im own w) wv want) (hwo:aL want) (hix:i64 x) (hss:s.size<=maxLen):
 Calls prog 186 #[sb,ex5 op x m s A kids cap,wv,kc] w (ResF w own mb sb sc (dY (aa p n) sc kids)):=by
 obtain⟨HP,al,HD,HF,eg,T,HO,HW⟩:=zd8 (Pre.start (op:=op) (x:=x) (m:=m) (s:=s) he hk hkc hx hw) IH hd hF hFi ho he.mb.1 hwo;have d9:=he.mb.2;obtain⟨D,N⟩:=γ ((w.alloc (.cells #[op,x,m,s,.slice A kids cap] 43)).alloc (.cells #[(0:Int),"",()] 40))
 have f:Hid (Pre D (plus own (w+1)) mb sb w (w+1) kc c p sc op x m s A kids cap wv want):=by rw[N];exact HP
 have z:Hid (Stm mb w D):=by rw[N];exact Stm.of_below ζ2
 have d7:w.heap.size+2<=D:=by rw[N];simp
 have c3:=η N;have b5:kc≠mb:=λe=>hk.2 (by rw[e];exact he.mb.1);clear hd he ho hk hkc hx hw hwo IH HP N hF hFi hix hss;go_in;go_upto_region 1 with fail;rw[<-c3.o];have b4:=f.bx.c 4;have c7:=f.kids.cap;by_cases h0:kids.length=0
 ·have l:Hid (dY (aa p n) sc kids=none):=by
   show _=_;match kids,h0 with
   | [],_=>rfl
  have l1:((kids.length:Int)==0)=true:=beq_iff_eq.2 ω;clear h0;obtain⟨z0,z1,z2,q0,q1,q2⟩:=f.rs.facts;go_wp2;rw[l.o];exact bodyPost_ret (am results186 _ _ (w+1) _ _ _ _ _ rfl (f.rs.set3 _ _ _ _ _)) rfl (aB (z) ω ω)
 have l1:((kids.length:Int)==0)=false:=beq_eq_false_iff_ne.2 ω;have i0:0<kids.length:=ω;have HV:=η (xe (E:=aa p n) (sc:=sc) i0);clear h0;go_upto_region 3 with fail;clear b4;have c1:=stpC (mb:=mb) f.kc b5;obtain⟨g,af,o1,x1,m1,s1,a1,B1,aj,rfl,hg,e1,p0,p1,p2,p3,p4,hr⟩:=aQ f.kids i0;have M:g≠mb:=λe=>hg.2 (by rw[e];exact .inl HO);simp only[Nat.zero_mul,Nat.add_zero] at p0 p1 p2 p3 p4;replace p0:=stpC p0 M;replace p1:=stpC p1 M;replace p2:=stpC p2 M;replace p3:=stpC p3 M;replace p4:=stpC p4 M;have HR:=η hr;clear hr e1;have b4:=stpC (mb:=mb) (f.bx.c 4) Φ;obtain⟨r1,b2⟩:=γ (aa p n sc kids[0] none)
 have G:=η b2;clear b2;go_cut [9,10] (λv1 v2 W=>Hid (Got D (plus own (w+1)) mb sb sc r1 v1 v2 W))
 case first =>
  go_region_held3 (λW=>Stm mb D W) (first|exact bq _ _|exact smDr _ _|exact q|exact smA ι _|exact (smA (Stm.refl _ _) _).trans (smDr _ _)|exact smS q (υ _) ω _ _ _ _ _)
   (first|(go_at_call 170;refine (hasB al f T (HD _ (ν i0)) HR).mono ?_;rw[<-G.o];rintro e3 w3 ⟨k3,s3,A3,n3,cn,rfl,q,L,v⟩;obtain⟨z0,z1,z2,q0,q1,q2⟩:=L.facts)|(go_at_call 170;refine (hasA al f T (HD _ (ν i0)) HR).mono ?_;rw[<-G.o];rintro e3 w3 ⟨k3,s3,A3,n3,cn,rfl,q,v⟩))
  all_goals
   go_wp2;go_meet;first|exact gotA q v|exact gotB q ω (.inl HO) L v
 case rest =>
 clear c1 b4 p0 p1 p2 p3 p4 HR;obtain⟨q,ae,k2,s2,A2,n2,Z,rfl,dp,L,rfl,v⟩:=hcut.o;obtain⟨O,ca,bk⟩:=zd3 q L v;clear hcut q L v;obtain⟨w2,rfl⟩:=γ wc
 have d6:D.heap.size<=w2:=O.size;have B:=η (f.rs.stp O Ω);have dn:ae≠mb:=ω
 cases r1 with
 | none =>
  have l:Hid (dY (aa p n) sc kids=none):=by show _=_;rw[HV.o,<-G.o]
  obtain⟨z0,z1,z2,q0,q1,q2⟩:=B.facts;go_wp2;rw[l.o];exact bodyPost_ret (am results186 _ _ (w+1) _ _ _ _ _ rfl (B.set3 _ _ _ _ _)) rfl (aB (z.trans O) ω ω)
 | some t =>
  have bi:Hid (dY (aa p n) sc kids=if t.kind=8/\t.args.length=kids.length then (if aR (aa p n) sc (kids.drop 1) t.args then t.args.getLast? else none) else none):=by show _=_;rw[HV.o,<-G.o]
  obtain⟨c6,bl⟩:=zd2 (HF sc kids[0] none t T (λu h=>by cases h) G.symm) (f.stp O (bk t rfl).2);obtain⟨k',s',a,A',co,ee,rfl,_,_,b1⟩:=ap (bk t rfl).1;obtain⟨rfl,rfl,rfl,rfl,rfl⟩:k2=k'/\s2=s'/\A2=A'/\n2=a/\Z=co:=by simpa using ee
  have bj:=η b1;clear ee b1;obtain⟨y0,y1,y2,_,_,_⟩:=ca.facts;have b4:=bl.bx.c 4;by_cases h8:k2=8
  ·subst h8;by_cases ah:a.length=kids
   ·have t2:((a.length:Int) != (kids.length:Int))=false:=by simp;omega
    have bh:Hid (dY (aa p n) sc kids=if aR (aa p n) sc (kids.drop 1) a then a.getLast? else none):=by show _=_;rw[bi.o,if_pos ⟨rfl,ah⟩];rfl
    obtain⟨d,J⟩:=γ (kids.drop 1)
    rw[<-J] at bh;have cj:d.length=kids-1:=by rw[J,List.length_drop]
    have bn:Hid (ExsR w2 (im (plus own (w+1)) w2) (.slice (fd (some ⟨g,af,none⟩) cap 1 5) d (cap-1)) d):=by rw[J];exact SlR.from bl.kids 1 ω
    have cc:Hid (∀k∈d,Ex.deep k<=n):=λk hk=>HD k (by rw[J] at hk;exact List.mem_of_mem_drop hk);obtain⟨A1,be⟩:=γ (fd (some ⟨g,af,none⟩) cap 1 5)
    obtain⟨cp,bd⟩:=γ (cap-1)
    have cx:∀W,(Instr.slice 41 (.slice (some ⟨g,af,none⟩) kids cap) (some (.int .i64 1)) none none).run prog W=.ok (.slice A1 d cp) W:=λW=>by
     rw[be,bd,cj];exact eH W _ _ _ 1 ω
    rw[<-be,<-bd] at bn;have dr:=bn.le9;have dq:d.length+1=a:=ω;clear be bd J ah;go_upto_region 7 with fail;clear cx y0 y1 y2 b4 t2;go_loopw [49] (λi wr=>∃j:Nat,j<=d/\i=.int .i64 j/\Hid (aR (aa p n) sc d a=aR (aa p n) sc (d.drop j) (a.drop j))/\Hid (Stm mb w2 wr)/\Hid (ScS wr (plus own (w+1)) mb sb sc)) (λi _=>d.length-(intOf i).toNat)
    case atStart=>exact⟨0,ω,rfl,rfl,Stm.refl _ _,(bk _ rfl).2⟩
    case round =>
     obtain⟨j,hj,rfl,HU,F,b8⟩:=hrel;have R:=η (bl.stp F b8);have d5:w2.heap.size<=wr:=F.size;have ag:=ca.stp F Ω;by_cases hlt:j<d
     ·have X:j<a:=ω;have cw:(0:Int)<=(j:Int):=ω;have dz:(j:Int)<(a.length:Int):=ω;have cd:=η (gE (E:=aa p n) (sc:=sc) hlt X);obtain⟨g1,dh,o1,x1,m1,s1,a1,B1,aj,rfl,ec,e1,p0,p1,p2,p3,p4,hr⟩:=aQ (ExsR.to bn (F.subO (.inl HO))) hlt;obtain⟨g3,U,k3,s3,a3,B3,c0,rfl,b6,e3,v0,v1,v2,I⟩:=cS (TysR.to bj (F.subO (.inl HO))) X;have Y:g3≠mb:=λe=>b6.2 (by rw[e];exact .inl HO);obtain⟨HR,ak,cb⟩:=zd3 hr I (eM c6 _ (ν X));clear hr I e1 e3;obtain⟨ob,bb⟩:=γ (.cells #[o1,x1,m1,s1,.slice B1 a1 aj] 43:Obj)
      obtain⟨r,ai⟩:=γ (wr.alloc ob)
      have BW:Below wr wr r:=by rw[ai];exact ζ1
      have y:Hs r wr 43 #[o1,x1,m1,s1,.slice B1 a1 aj]:=by rw[ai,bb];exact Hs.new _ _ _
      obtain⟨BB,bm⟩:=zd2 BW (R.bel BW);have c1:=stpC (mb:=mb) bm.kc b5;have t0:=stpC (mb:=mb) (belC BW (ag.c 2)) Φ;have r0:=stpC (mb:=mb) (belC BW v0) Y;have r1:=stpC (mb:=mb) (belC BW v1) Y;have r2:=stpC (mb:=mb) (belC BW v2) Y;have d0:=stpC (mb:=mb) (y.c 0) Φ;have d1:=stpC (mb:=mb) (y.c 1) Φ;have d2:=stpC (mb:=mb) (y.c 2) Φ;have d3:=stpC (mb:=mb) (y.c 3) Φ;have d4:=stpC (mb:=mb) (y.c 4) Φ;obtain⟨b7,b9⟩:=zd2 ai bb;clear y BW v0 v1 v2 ai bb ag
      cases h4:isE (aa p n) sc d[j] a[j] with
      | false =>
       have l:Hid (dY (aa p n) sc kids=none):=by show _=_;rw[bh.o,HU.o,cd.o,h4];rfl
       have H4:=η h4;clear h4;go_wp2_with fail;rw[<-b9.o,<-b7.o]
       go_region_held3 (λW=>Stm mb r W) (first|exact smDr _ _|exact Stm.trans ι H)
        (first|(go_at_call 105;refine (bA al (cc _ (ν hlt)) (bm.env.bel (ad _)) T (HR.to (sof (bel BB (ad _))).sub) (ak.to (sof (bel BB (ad _))).sub) cb).mono ?_;rw[H4.o];rintro e2 w5 ⟨rfl,H,a9⟩))
       have S5:=η ((Stm.of_below (mb:=mb) (bel BB (ad _))).trans H);obtain⟨z0,z1,z2,q0,q1,q2⟩:=(R.rs.stp S5 Ω).facts;go_wp2;rw[l.o];exact bodyPost_ret (am results186 _ _ (w+1) _ _ _ _ _ rfl ((R.rs.stp S5 Ω).set3 _ _ _ _ _)) rfl (aB (((z.trans O).trans F).trans S5) ω ω)
      | true =>
       have l:Hid (aR (aa p n) sc d a=aR (aa p n) sc (d.drop (j+1)) (a.drop (j+1))):=by show _=_;rw[HU.o,cd.o,h4];rfl
       have H4:=η h4;clear h4;go_wp2_with fail;rw[<-b9.o,<-b7.o]
       go_region_held3 (λW=>Stm mb r W) (first|exact smDr _ _|exact Stm.trans ι H)
        (first|(go_at_call 105;refine (bA al (cc _ (ν hlt)) (bm.env.bel (ad _)) T (HR.to (sof (bel BB (ad _))).sub) (ak.to (sof (bel BB (ad _))).sub) cb).mono ?_;rw[H4.o];rintro e2 w5 ⟨rfl,H,a9⟩))
       go_wp2_with fail;go_roundw
       case rel =>
        refine⟨_,_,_,_,_,_,_,_,_,_,_,_,_,_,_,_,_,_,_,_,⟨j+1,ω,?_,l,F.trans ((Stm.of_below (mb:=mb) (bel BB (ad _))).trans H),a9 Υ⟩,rfl⟩;go_num
       case measure=>simp[intOf];omega
     obtain⟨V,bc⟩:∃V,a.length=V+1:=⟨a-1,ω⟩
     have b3:V<a.length:=ω
     have l:Hid (dY (aa p n) sc kids=some a[V]):=by
      show _=_;rw[bh.o,HU.o,eX hlt,if_pos rfl,List.getLast?_eq_getElem?,bc,Nat.add_sub_cancel,ξ b3]
     obtain⟨g3,U,k3,s3,a3,B3,c0,rfl,b6,e3,v0,v1,v2,I⟩:=cS (TysR.to bj (F.subO (.inl HO))) b3;have ak:=η I;have t0:wr.cell? ⟨ae,2,none⟩=some (.slice (some ⟨g3,U,none⟩) (V+1) Z):=by rw[<-bc];exact ag.cell 2
     have d8:V<=9223372036854775806:=by have:=bj.len.2;unfold maxLen at this;omega
     clear I e3 bc ag;obtain⟨z0,z1,z2,q0,q1,q2⟩:=R.rs.facts;go_wp2;rw[l.o];exact bodyPost_ret (am results186 _ _ (w+1) _ _ _ _ _ rfl (R.rs.set3 _ _ _ _ _)) rfl (bo ((z.trans O).trans F) ω ω HO (ak) (b8))
   have t2:((a.length:Int) != (kids.length:Int))=true:=by simp;omega
   have l:Hid (dY (aa p n) sc kids=none):=by show _=_;rw[bi.o,if_neg (λh=>ah h.2)]
   clear ah;obtain⟨z0,z1,z2,q0,q1,q2⟩:=B.facts;go_wp2;rw[l.o];exact bodyPost_ret (am results186 _ _ (w+1) _ _ _ _ _ rfl (B.set3 _ _ _ _ _)) rfl (aB (z.trans O) ω ω)
  have t1:(k2 != 8)=true:=by simpa using h8
  have l:Hid (dY (aa p n) sc kids=none):=by show _=_;rw[bi.o,if_neg (λh=>h8 h.1)]
  clear h8;obtain⟨z0,z1,z2,q0,q1,q2⟩:=B.facts;go_wp2;rw[l.o];exact bodyPost_ret (am results186 _ _ (w+1) _ _ _ _ _ rfl (B.set3 _ _ _ _ _)) rfl (aB (z.trans O) ω ω)
variable {fs:List Fld}
def kQ {p:Pg} (hF:Fine p) {t:Ty} (h:recP p t=some fs) {y:Nat} (hy:y<fs):ag fs[y].type=true:=by
 unfold recP at h;split at h
 ·split at h
  ·cases h
  rename_i i g;split at h
  ·cases h
  rename_i d b;split at h
  ·split at h
   ·cases h
   rename_i f a e;injection h with h;subst h;exact hF.flds d (List.mem_of_getElem? b) f (by rw[e];simp) _ (ν hy)
  cases h
 cases h
def clo_with {c:CB} {p:Pg} {mb n:Nat} (IH:xG c p mb n) (hF:aO p n) (hFi:Fine p) {own:Nat->Prop} {op m:Int} {s:Ê} {kids:List Ex} {cap:Nat} {w:À} (hd:∀k∈kids,Ex.deep k<=n) (he:Env w own mb sb c p sc) (ho:ScOk p sc) (hk:im own w kc) (hkc:w.cell? kc=some (c.b:Vl)) (hx:ExsR w (im own w) (.slice A kids cap) kids) (hw:WantR w (im own w) wv want) (hwo:aL want) (hix:i64 x) (hss:s.size<=maxLen) (hl:kids.length=2):
 Calls prog 171 #[sb,.agg (ex5 op x m s A kids cap),wv,kc] w (ResF w own mb sb sc (gL p (aa p n) sc x want kids)):=by
 obtain⟨HP,aj,HD,HF,ak,V,HO,HW⟩:=zd8 (Pre.start (op:=op) (x:=x) (m:=m) (s:=s) he hk hkc hx hw) IH hd hF hFi ho he.mb.1 hwo;obtain⟨dj,dh⟩:=zd2 hix hss;have de:=he.mb.2;have df:kc<w:=hk.1;have i0:0<kids.length:=ω;have i1:1<kids.length:=ω;have j0:(0:Int)<(kids.length:Int):=ω;have j1:(1:Int)<(kids.length:Int):=ω
 have HV:Hid (gL p (aa p n) sc x want kids=match aa p n sc kids[0] want with|none=>none|some t=>match recP p t with|none=>none|some fs=>if az x fs then (match fs[x.toNat]? with|none=>none|some f=>if isE (aa p n) sc kids[1] f.type then some t else none) else none):=by
  match kids,hl with
  | [a,b],_=>rfl
 obtain⟨D,O⟩:=γ ((w.alloc (.cells #[op,x,m,s,.slice A kids cap] 43)).alloc (.cells #[(0:Int),"",()] 40))
 have v:Hid (Pre D (plus own (w+1)) mb sb w (w+1) kc c p sc op x m s A kids cap wv want):=by rw[O];exact HP
 have R:Hid (Stm mb w D):=by rw[O];exact Stm.of_below ζ2
 have dd:w.heap.size+2<=D:=by rw[O];simp
 have ch:=η O;have bc:kc≠mb:=λe=>hk.2 (by rw[e];exact he.mb.1);clear hd he ho hk hkc hx hw hwo IH HP O hF hFi hix hss hl;go_in;go_upto_region 1 with fail;rw[<-ch.o];have c1:=stpC (mb:=mb) v.kc bc;obtain⟨g,ao,o1,x1,m1,s1,a1,B1,cf,rfl,hg,e1,L,J,I,H,G,hr⟩:=aQ v.kids i0;have j:g≠mb:=λe=>hg.2 (by rw[e];exact .inl HO);have N:g≠w+1:=λe=>hg.2 (.inr e);simp only[Nat.zero_mul,Nat.add_zero] at L J I H G;replace L:=stpC L j;replace J:=stpC J j;replace I:=stpC I j;replace H:=stpC H j;replace G:=stpC G j;have HR:=η hr;clear hr e1;have b4:=stpC (mb:=mb) (v.bx.c 4) Φ;obtain⟨r1,bb⟩:=γ (aa p n sc kids[0] want)
 have F:=η bb;clear bb;go_cut [9,10] (λv1 v2 W=>Hid (Got D (plus own (w+1)) mb sb sc r1 v1 v2 W))
 case first =>
  go_region_held3 (λW=>Stm mb D W) (first|exact bq _ _|exact smDr _ _|exact q|exact smA ι _|exact (smA (Stm.refl _ _) _).trans (smDr _ _)|exact smS q (υ _) ω _ _ _ _ _)
   (first|(go_at_call 141;refine (exprB aj v V HW (HD _ (ν i0)) HR).mono ?_;rw[<-F.o];rintro e3 w3 ⟨k3,s3,A3,n3,bv,rfl,q,M,z⟩;obtain⟨Z,Y,X,q0,q1,q2⟩:=M.facts)|(go_at_call 141;refine (exprA aj v V HW (HD _ (ν i0)) HR).mono ?_;rw[<-F.o];rintro e3 w3 ⟨k3,s3,A3,n3,bv,rfl,q,z⟩))
  all_goals
   go_wp2;go_meet;first|exact gotA q z|exact gotB q ω (.inl HO) M z
 case rest =>
 clear c1 b4 L J I H G HR;obtain⟨q,ba,k2,s2,A2,n2,c3,rfl,cy,M,rfl,z⟩:=hcut.o;obtain⟨T,ck,U⟩:=zd3 q M z;clear hcut q M z;obtain⟨w2,rfl⟩:=γ wc
 have dc:D.heap.size<=w2:=T.size;have r:=η (v.rs.stp T Ω);have ag:ba≠mb:=ω;have af:ba≠w+1:=ω
 cases r1 with
 | none =>
  have E:Hid (gL p (aa p n) sc x want kids=none):=by show _=_;rw[HV.o,<-F.o]
  obtain⟨Z,Y,X,q0,q1,q2⟩:=r.facts;go_wp2;rw[E.o];exact bodyPost_ret (am results171 _ _ (w+1) _ _ _ _ _ rfl (r.set3 _ _ _ _ _)) rfl (aB (R.trans T) ω ω)
 | some t =>
  have bj:Hid (gL p (aa p n) sc x want kids=match recP p t with|none=>none|some fs=>if az x fs then (match fs[x.toNat]? with|none=>none|some f=>if isE (aa p n) sc kids[1] f.type then some t else none) else none):=by show _=_;rw[HV.o,<-F.o]
  obtain⟨dk,l⟩:=zd2 (HF sc kids[0] want t V HW F.symm) (v.stp T (U t rfl).2);have di:=η l.o.env.chk.qb.1;obtain⟨y0,y1,y2,_,_,_⟩:=ck.facts;have c1:=l.kc;have b1:=l.bx.c 1
  cases h4:recP p t with
  | none =>
   have E:Hid (gL p (aa p n) sc x want kids=none):=by show _=_;rw[bj.o,h4]
   have H4:=η h4;clear h4;go_wp2_with (go_at_call 166;refine (xE c p (im (plus own (w+1)) w2) _ t _ _ l.env.chk l.env.chk.qb.1 ak (U t rfl).1).mono ?_;rw[H4.o];rintro e4 u ⟨d,rfl⟩;obtain⟨Z,Y,X,q0,q1,q2⟩:=(r.stp (Stm.of_below (mb:=mb) d) Ω).facts);rw[E.o];exact bodyPost_ret (am results171 _ _ (w+1) _ _ _ _ _ rfl ((r.stp (Stm.of_below (mb:=mb) d) Ω).set3 _ _ _ _ _)) rfl (aB ((R.trans T).trans (Stm.of_below d)) ω ω)
  | some fs =>
   have bi:Hid (gL p (aa p n) sc x want kids=if az x fs then (match fs[x.toNat]? with|none=>none|some f=>if isE (aa p n) sc kids[1] f.type then some t else none) else none):=by show _=_;rw[bj.o,h4]
   have H4:=η h4;clear h4;by_cases h5:az x fs=true
   ·have b8:0<=x/\x<fs:=by simpa[az] using h5
    obtain⟨y,rfl⟩:∃y:Nat,x=(y:Int):=⟨x.toNat,ω⟩
    have ap:y<fs:=ω;have da:(0:Int)<=(y:Int):=ω;have c9:(y:Int)<(fs.length:Int):=ω;have H5:=η h5;have bh:Hid (gL p (aa p n) sc (y:Int) want kids=if isE (aa p n) sc kids[1] fs[y].type then some t else none):=by show _=_;rw[bi.o,if_pos H5.o,Int.toNat_natCast,ξ ap]
    clear h5 b8;go_upto_region 7 with (first|(go_at_call 166;refine (xE c p (im (plus own (w+1)) w2) _ t _ _ l.env.chk l.env.chk.qb.1 ak (U t rfl).1).mono ?_;rw[H4.o];rintro e4 u ⟨d,A4,bu,rfl,ah⟩;obtain⟨Z,Y,X,q0,q1,q2⟩:=(r.stp (Stm.of_below (mb:=mb) d) Ω).facts;have bg:=belC d b1)|(go_at_call 162;refine (ay _ _ _).mono ?_;rw[H5.o];rintro e w' ⟨rfl,rfl⟩));obtain⟨S4,cl,B⟩:=zd3 (Stm.of_below (mb:=mb) d) d (l.bel d);have be:=FldsR.to ah (sof (own:=(plus own (w+1))) d).sub;obtain⟨g4,ct,k4,s4,a4,B4,dg,rfl,bd,cd,v0,v1,v2,v3,bs,aq⟩:=dw be ap;have aw:g4≠mb:=λe=>bd.2 (by rw[e];exact .inl HO);have au:g4≠w+1:=λe=>bd.2 (.inr e);obtain⟨bk,bm⟩:=zd2 aq (kQ ak H4 ap);replace y0:=aD (mb:=mb) (rb:=w+1) (belC d y0) ag af;replace y1:=aD (mb:=mb) (rb:=w+1) (belC d y1) ag af;replace y2:=aD (mb:=mb) (rb:=w+1) (belC d y2) ag af;replace v1:=aD (mb:=mb) (rb:=w+1) v1 aw au;replace v2:=aD (mb:=mb) (rb:=w+1) v2 aw au;replace v3:=aD (mb:=mb) (rb:=w+1) v3 aw au;have db:w2.heap.size<=u:=d.size;clear be aq bs cd v0 ah c1 b1 bg Z Y X q0 q1 q2;have c1:=aD (mb:=mb) (rb:=w+1) B.kc bc Φ;have b4:=aD (mb:=mb) (rb:=w+1) (B.bx.c 4) Φ Θ
    have b1:=aD (mb:=mb) (rb:=w+1) (B.bx.c 1) Φ Θ;obtain⟨g',bn,o1,x1,m1,s1,a1,B1,cf,hA,b9,e1,L,J,I,H,G,hr⟩:=aQ B.kids i1;obtain⟨rfl,rfl⟩:g=g'/\ao=bn:=by simpa using hA
    simp only[Nat.one_mul] at L J I H G;replace L:=aD L j N;replace J:=aD J j N;replace I:=aD I j N;replace H:=aD H j N;replace G:=aD G j N;have bl:=η hr;clear hr e1 hA b9;have ai:=η (r.stp S4 Ω);clear d
    cases h6:isE (aa p n) sc kids[1] fs[y].type with
    | false =>
     have E:Hid (gL p (aa p n) sc (y:Int) want kids=none):=by show _=_;rw[bh.o,h6];rfl
     have H6:=η h6;clear h6;refine tkB (λW=>Stp (plus (only mb) (w+1)) u W) Λ (λhHeld=>?_);refine θ ?_;refine tkE 13 (λK hK=>?_);go_simp;(refine (bA aj (HD _ (ν i1)) (B.env.bel (ad _)) V (bl.to (sof (ad _)).sub) (bk.to (sof (ad _)).sub) bm).mono ?_;rw[H6.o];rintro e5 w5 ⟨rfl,i,ar⟩;obtain⟨Z,Y,X,q0,q1,q2⟩:=(ai.stp ((smDr mb u).trans i) Ω).facts);refine tkR hK ?_ (λhHeld=>?_)
     ·exact hHeld.trans (i.s.wk (λ_ h=>.inl h))
     clear hK K;refine tkE 14 (λK hK=>?_);go_simp;refine tkR hK ?_ (λhHeld=>?_)
     ·exact stpR ι _ _ _ _ _
     clear hK K;refine tkQ 15 ?_;refine tkD ?_;clear hHeld;go_wp2;rw[E.o];exact bodyPost_ret (am results171 _ _ (w+1) _ _ _ _ _ rfl ((ai.stp ((smDr mb u).trans i) Ω).set3 _ _ _ _ _)) rfl (aB ((((R.trans T).trans S4).trans (smDr _ _)).trans i) ω ω)
    | true =>
     have E:Hid (gL p (aa p n) sc (y:Int) want kids=some t):=by show _=_;rw[bh.o,h6];rfl
     have H6:=η h6;clear h6;refine tkB (λW=>Stp (plus (only mb) (w+1)) u W) Λ (λhHeld=>?_);refine θ ?_;refine tkE 13 (λK hK=>?_);go_simp;(refine (bA aj (HD _ (ν i1)) (B.env.bel (ad _)) V (bl.to (sof (ad _)).sub) (bk.to (sof (ad _)).sub) bm).mono ?_;rw[H6.o];rintro e5 w5 ⟨rfl,i,ar⟩;obtain⟨Z,Y,X,q0,q1,q2⟩:=(ai.stp ((smDr mb u).trans i) Ω).facts);refine tkR hK ?_ (λhHeld=>?_)
     ·exact hHeld.trans (i.s.wk (λ_ h=>.inl h))
     clear hK K;refine tkE 14 (λK hK=>?_);go_simp;refine tkR hK ?_ (λhHeld=>?_)
     ·exact stpR ι _ _ _ _ _
     clear hK K;refine tkQ 15 ?_;refine tkD ?_;clear hHeld;go_wp2;rw[E.o];exact bodyPost_ret (am results171 _ _ (w+1) _ _ _ _ _ rfl ((ai.stp ((smDr mb u).trans i) Ω).set3 _ _ _ _ _)) rfl (bo ((((R.trans T).trans S4).trans (smDr _ _)).trans i) ω ω HO (((U t rfl).1.to (sof cl).sub).to (((smDr mb u).trans i).subO (.inl HO))) (ar Υ))
   have bf:az x fs=false:=by simpa using h5
   have E:Hid (gL p (aa p n) sc x want kids=none):=by show _=_;rw[bi.o,if_neg h5]
   have H5:=η bf;clear h5 bf;go_wp2_with (first|(go_at_call 166;refine (xE c p (im (plus own (w+1)) w2) _ t _ _ l.env.chk l.env.chk.qb.1 ak (U t rfl).1).mono ?_;rw[H4.o];rintro e4 u ⟨d,A4,bu,rfl,ah⟩;obtain⟨Z,Y,X,q0,q1,q2⟩:=(r.stp (Stm.of_below (mb:=mb) d) Ω).facts;have bg:=belC d b1)|(go_at_call 162;refine (ay _ _ _).mono ?_;rw[H5.o];rintro e w' ⟨rfl,rfl⟩));rw[E.o];exact bodyPost_ret (am results171 _ _ (w+1) _ _ _ _ _ rfl ((r.stp (Stm.of_below (mb:=mb) d) Ω).set3 _ _ _ _ _)) rfl (aB ((R.trans T).trans (Stm.of_below d)) ω ω)
theorem qn {E:EF} {sc:Sc}:∀{l:List Ex} {fs:List Fld},l.length≠fs->bl E sc l fs=false
 | [],[],h=>by simp at h
 | [],_::_,_=>rfl
 | _::_,[],_=>rfl
 | e::l,f::fs,h=>by rw[bl,qn (l:=l) (fs:=fs) (by simpa using h),Bool.and_false]
def eachE_at (h:j<l) (h':j<fs):bl E sc (l.drop j) (fs.drop j)=(isE E sc l[j] fs[j].type&&bl E sc (l.drop (j+1)) (fs.drop (j+1))):=by
 rw[bk h,bk h',bl]
def xj (h:¬j<l) (h':¬j<fs):bl E sc (l.drop j) (fs.drop j)=true:=by
 rw[ε ω,ε ω];rfl
def fD {c:CB} {p:Pg} {mb n:Nat} (IH:xG c p mb n) {own:Nat->Prop} {v1 v2:Value} {w:À} (hd:∀e∈l,Ex.deep e<=n) (he:Env w own mb sb c p sc) (ho:ScOk p sc) (hl:ExsR w (im own w) v1 l) (hf:FldsR w (im own w) v2 fs) (hff:∀f∈fs,ag f.type=true):
 Calls prog 168 #[c.b,sb,v1,v2] w (ResB w own mb sb sc (bl (aa p n) sc l fs)):=by
 obtain⟨A,cap,rfl⟩:=hl.form;obtain⟨A',a3,rfl⟩:=hf.form;have a9:=hl.le9;obtain⟨N,HD,R,L,HL,HF,O,HO⟩:=zd8 IH hd he ho hl hf hff he.mb.1;clear IH hd he ho hl hf hff;by_cases u:l.length=fs
 ·have t1:((l.length:Int) != (fs.length:Int))=false:=by simp;omega
  have ba:l.length<=fs:=ω;have bb:fs.length<=l:=ω;clear u;go_in;go_wp2_with fail;go_loopw [18] (λi wr=>∃j:Nat,j<=l/\i=.int .i64 j/\Hid (bl (aa p n) sc l fs=bl (aa p n) sc (l.drop j) (fs.drop j))/\Hid (Stm mb w wr)/\Hid (ScS wr own mb sb sc)) (λi _=>l.length-(intOf i).toNat)
  case atStart=>exact⟨0,ω,rfl,rfl,Stm.refl _ _,R.sco⟩
  case round =>
   obtain⟨j,hj,rfl,HV,y,I⟩:=hrel;have HE:=η (R.stp y I);have a7:mb<wr:=HE.mb.2;by_cases hlt:j<l
   ·have k:j<fs:=ω;have j0:(0:Int)<=(j:Int):=ω;have j1:(j:Int)<(fs.length:Int):=ω;have j2:(j:Int)<(l.length:Int):=ω;have T:=η (eachE_at (E:=aa p n) (sc:=sc) hlt k);obtain⟨g,a6,Y,U,Z,V,a1,B1,D,rfl,hg,e1,p0,p1,p2,p3,p4,hr⟩:=aQ (ExsR.to HL (y.subO HO)) hlt;obtain⟨g2,ay,k2,s2,a2,B2,bc,rfl,ap,e2,q0,q1,q2,q3,ao,G⟩:=dw (FldsR.to HF (y.subO HO)) k;have v:g2≠mb:=λe=>ap.2 (by rw[e];exact HO);obtain⟨HR,J⟩:=zd2 hr G;clear hr G e1 e2 q0 ao;obtain⟨X,B⟩:=γ (.cells #[Y,U,Z,V,.slice B1 a1 D] 43:Obj)
    obtain⟨a,x⟩:=γ (wr.alloc X)
    have F:Below wr wr a:=by rw[x];exact ζ1
    have d:Hs a wr 43 #[Y,U,Z,V,.slice B1 a1 D]:=by rw[x,B];exact Hs.new _ _ _
    have t:=η F;have r1:=stpC (mb:=mb) (belC F q1) (by exact v);have r2:=stpC (mb:=mb) (belC F q2) (by exact v);have r3:=stpC (mb:=mb) (belC F q3) (by exact v);have d0:=stpC (mb:=mb) (d.c 0) Φ;have d1:=stpC (mb:=mb) (d.c 1) Φ;have d2:=stpC (mb:=mb) (d.c 2) Φ;have d3:=stpC (mb:=mb) (d.c 3) Φ;have d4:=stpC (mb:=mb) (d.c 4) Φ;obtain⟨H,M⟩:=zd2 x B;clear d F q1 q2 q3 x B
    cases h4:isE (aa p n) sc l[j] fs[j].type with
    | false =>
     have q:Hid (bl (aa p n) sc l fs=false):=by show _=_;rw[HV.o,T.o,h4];rfl
     have H4:=η h4;clear h4;go_wp2_with fail;rw[<-M.o,<-H.o]
     go_region_held3 (λW=>Stm mb a W) (first|exact bq _ _|exact smDr _ _|exact Stm.trans ι r)
      (first|(go_at_call 105;refine (bA N (HD _ (ν hlt)) (HE.bel (bel t (ad _))) L (HR.to (sof (bel t (ad _))).sub) (J.to (sof (bel t (ad _))).sub) (O _ (ν k))).mono ?_;rw[H4.o];rintro e2 w2 ⟨rfl,r,z⟩))
     go_wp2;go_ret;exact⟨by rw[q.o];rfl,(y.trans (Stm.of_below t)).trans ((smDr _ _).trans r),λh=>by rw[q.o] at h;cases h⟩
    | true =>
     have q:Hid (bl (aa p n) sc l fs=bl (aa p n) sc (l.drop (j+1)) (fs.drop (j+1))):=by show _=_;rw[HV.o,T.o,h4];rfl
     have H4:=η h4;clear h4;go_wp2_with fail;rw[<-M.o,<-H.o]
     go_region_held3 (λW=>Stm mb a W) (first|exact bq _ _|exact smDr _ _|exact Stm.trans ι r)
      (first|(go_at_call 105;refine (bA N (HD _ (ν hlt)) (HE.bel (bel t (ad _))) L (HR.to (sof (bel t (ad _))).sub) (J.to (sof (bel t (ad _))).sub) (O _ (ν k))).mono ?_;rw[H4.o];rintro e2 w2 ⟨rfl,r,z⟩))
     go_wp2_with fail;go_roundw
     case rel=>exact⟨j+1,ω,by go_num,q,(y.trans (Stm.of_below t)).trans ((smDr _ _).trans r),z Υ⟩
     case measure=>simp[intOf];omega
   have q:Hid (bl (aa p n) sc l fs=true):=by show _=_;rw[HV.o];exact xj hlt ω
   go_wp2;go_ret;exact⟨by rw[q.o];rfl,y,λ_=>I⟩
 have t1:((l.length:Int) != (fs.length:Int))=true:=by simp;omega
 have q:Hid (bl (aa p n) sc l fs=false):=qn u;clear u;go_in;go_wp2;go_ret;exact⟨by rw[q.o];rfl,Stm.refl _ _,λh=>by rw[q.o] at h;cases h⟩
def clo_call {c:CB} {p:Pg} {mb n:Nat} (IH:xG c p mb n) (hF:aO p n) (hFi:Fine p) {own:Nat->Prop} {op m:Int} {s:Ê} {kids:List Ex} {cap:Nat} {w:À} (hd:∀k∈kids,Ex.deep k<=n) (he:Env w own mb sb c p sc) (ho:ScOk p sc) (hk:im own w kc) (hkc:w.cell? kc=some (c.b:Vl)) (hx:ExsR w (im own w) (.slice A kids cap) kids) (hw:WantR w (im own w) wv want) (hwo:aL want) (hix:i64 x) (hss:s.size<=maxLen):
 Calls prog 184 #[sb,ex5 op x m s A kids cap,wv,kc] w (ResF w own mb sb sc (jI p (aa p n) sc x kids)):=by
 obtain⟨HP,be,HD,HF,bh,bd,HO,HW⟩:=zd8 (Pre.start (op:=op) (x:=x) (m:=m) (s:=s) he hk hkc hx hw) IH hd hF hFi ho he.mb.1 hwo;obtain⟨cl,ck⟩:=zd2 hix hss;have cf:=he.mb.2;have cg:kc<w:=hk.1;have HV:Hid (jI p (aa p n) sc x kids=if az x p.funs then (match p.funs[x.toNat]? with|none=>none|some f=>if bl (aa p n) sc kids f.params then some f.result else none) else none):=rfl;obtain⟨a,z⟩:=γ ((w.alloc (.cells #[op,x,m,s,.slice A kids cap] 43)).alloc (.cells #[(0:Int),"",()] 40))
 have d:Hid (Pre a (plus own (w+1)) mb sb w (w+1) kc c p sc op x m s A kids cap wv want):=by rw[z];exact HP
 have L:Hid (Stm mb w a):=by rw[z];exact Stm.of_below ζ2
 have ce:w.heap.size+2<=a:=by rw[z];simp
 have a7:=η z;have a3:kc≠mb:=λe=>hk.2 (by rw[e];exact he.mb.1);clear hd he ho hk hkc hx hw hwo IH HP z hF hFi hix hss;go_in;go_upto_region 1 with fail;rw[<-a7.o];obtain⟨Af,qf,ef⟩:=d.env.chk.funs.form;have M:=d.env.chk.c2;rw[ef] at M;have bf:Hid (SlR a (im (plus own (w+1)) a) 11 (FnR a (im (plus own (w+1)) a)) (.slice Af p.funs qf) p.funs):=by rw[<-ef];exact d.env.chk.funs
 have N:=d.kc;have b1:=d.bx.c 1;clear ef;by_cases B:az x p.funs=true
 ·have a1:0<=x/\x<p.funs.length:=by simpa[az] using B
  obtain⟨y,rfl⟩:∃y:Nat,x=(y:Int):=⟨x.toNat,ω⟩
  have G:y<p.funs:=ω;have cc:(0:Int)<=(y:Int):=ω;have cb:(y:Int)<(p.funs.length:Int):=ω;have a8:Hid (jI p (aa p n) sc (y:Int) kids=if bl (aa p n) sc kids p.funs[y].params then some p.funs[y].result else none):=by show _=_;rw[HV.o,if_pos B,Int.toNat_natCast,ξ G]
  have H5:=η B;clear B a1;go_quiet ((go_at_call 162;exact Calls.quiet_of_same ((ay _ _ _).mono (λe w' h=>by rw[H5.o] at h;exact⟨h.1,h.2.symm⟩))));go_wp2_with fail;have r:Below a a (a.drewN nq):=bM nq (belR a);obtain⟨u,J⟩:=γ (a.drewN nq)
  rw[<-J] at r;rw[<-J];obtain⟨T,bb,ar⟩:=zd3 r (d.bel r) (SlR.to' bf (sof (own:=(plus own (w+1))) r).sub (λ_ _ x=>x.to (sof (own:=(plus own (w+1))) r).sub));have b3:a.heap.size<=u:=r.size;replace M:=belW (belC r M);replace N:=belW (belC r N);replace b1:=belW (belC r b1);obtain⟨g,ca,A6,q6,k6,s6,a6,B6,R,o6,x6,m6,r6,a4,D6,d6,rfl,hg,p0,p1,p2,p3,p4,Z,Y,X,V,U,F,a2,ah,aj,I,H,ak⟩:=jd ar G;replace p0:=belW p0;replace p1:=belW p1;replace p2:=belW p2;replace p3:=belW p3;replace p4:=belW p4;replace Z:=belW Z;replace Y:=belW Y;replace X:=belW X;replace V:=belW V;replace U:=belW U;replace F:=belW F;obtain⟨bg,ba⟩:=zd2 I H;clear a2 ah aj I H ak J r;go_cut [9] (λv1 W=>Hid (Below u u W/\∃q,v1=.pointer (some ⟨q,0,none⟩)/\u.heap.size<=q/\Hs W q 45 #[.string p.funs[y].name,.slice A6 p.funs[y].params.length q6,k6,s6,.slice B6 a6 R,.int .i64 p.funs[y].slots,o6,x6,m6,r6,.slice D6 a4 d6]))
  case first =>
   refine tkB (λW=>Below u u W) (ad _) (λhHeld=>?_);refine θ ?_;refine tkE 9 (λK hK=>?_);go_simp;refine tkR hK ?_ (λhHeld=>?_)
   ·exact belA ι _
   clear hK K;refine tkE 10 (λK hK=>?_);go_simp;refine tkR hK ?_ (λhHeld=>?_)
   ·first|exact belA (ad _) _|assumption
   clear hK K;refine tkD ?_;go_wp2;go_meet;exact⟨belA (ad _) _,_,rfl,υ _,Hs.new _ _ _⟩
  case rest =>
  obtain⟨t,q,rfl,ch,v⟩:=hcut.o;obtain⟨i,rfl⟩:=γ wc
  obtain⟨B3,l,au,ap⟩:=zd4 t (bb.bel t) (FldsR.to bg (sof (own:=(plus own (w+1))) t).sub) (ba.to (sof (own:=(plus own (w+1))) t).sub);have E:q≠mb:=ω;have D:q≠w.heap.size+1:=ω;have f1:=aD (mb:=mb) (rb:=w+1) (v.c 1) E D;have f2:=aD (mb:=mb) (rb:=w+1) (v.c 2) E D;have f3:=aD (mb:=mb) (rb:=w+1) (v.c 3) E D;have f4:=aD (mb:=mb) (rb:=w+1) (v.c 4) E D;clear hcut t v p0 p1 p2 p3 p4 Z Y X V U F N M b1;have N:=aD (mb:=mb) (rb:=w+1) l.kc a3 Φ;have b4:=aD (mb:=mb) (rb:=w+1) (l.bx.c 4) Φ Θ
  cases h6:bl (aa p n) sc kids p.funs[y].params
  all_goals
   have H6:=η h6;clear h6;go_wp2_with fail;refine tkB (λW=>Stp (plus (only mb) (w+1)) i W) Λ (λhHeld=>?_);refine θ ?_;refine tkE 8 (λK hK=>?_);go_simp;(refine (fD be HD (l.env.bel (ad _)) bd (ExsR.to l.kids (sof (ad _)).sub) (FldsR.to au (sof (ad _)).sub) (bh.funs _ (ν G)).1).mono ?_;rw[H6.o];rintro e5 w5 ⟨rfl,j,ai⟩;obtain⟨z0,z1,z2,q0,q1,q2⟩:=(l.rs.stp ((smDr mb i).trans j) Ω).facts);refine tkR hK ?_ (λhHeld=>?_)
   ·exact hHeld.trans (j.s.wk (λ_ h=>.inl h))
   clear hK K;refine tkE 9 (λK hK=>?_);go_simp;refine tkR hK ?_ (λhHeld=>?_)
   ·exact stpR ι _ _ _ _ _
   clear hK K;refine tkQ 10 ?_;refine tkD ?_;clear hHeld;go_wp2_with fail;rw[a8.o,H6.o];first
   | exact bodyPost_ret (am results184 _ _ (w+1) _ _ _ _ _ rfl ((l.rs.stp ((smDr mb i).trans j) Ω).set3 _ _ _ _ _)) rfl (aB ((L.trans (Stm.of_below (bel T B3))).trans ((smDr _ _).trans j)) ω ω)
   | exact bodyPost_ret (am results184 _ _ (w+1) _ _ _ _ _ rfl ((l.rs.stp ((smDr mb i).trans j) Ω).set3 _ _ _ _ _)) rfl (bo ((L.trans (Stm.of_below (bel T B3))).trans ((smDr _ _).trans j)) ω ω HO (ap.to (((smDr mb i).trans j).subO (.inl HO))) (ai Υ))
 have O:az x p.funs=false:=by simpa using B
 have HX:Hid (jI p (aa p n) sc x kids=none):=by show _=_;rw[HV.o,if_neg B]
 have H5:=η O;clear B O;go_quiet ((go_at_call 162;exact Calls.quiet_of_same ((ay _ _ _).mono (λe w' h=>by rw[H5.o] at h;exact⟨h.1,h.2.symm⟩))));have S1:=η (Stm.of_below (mb:=mb) (bM nq (belR a)));obtain⟨z0,z1,z2,q0,q1,q2⟩:=(d.rs.stp S1 Ω).facts;go_wp2;rw[HX.o];exact bodyPost_ret (am results184 _ _ (w+1) _ _ _ _ _ rfl ((d.rs.stp S1 Ω).set3 _ _ _ _ _)) rfl (aB (L.trans S1) ω ω)
def RowT (w0:À) (Q0:Nat->Prop) (xs:List Value) (l:List Ty):Prop:=xs.length=l.length*3/\∀i (hi:i<l.length),∃k s A n cap,xs[i*3]?=some (.int .i64 k)/\xs[i*3+1]?=some (.string s)/\xs[i*3+2]?=some (.slice A n cap)/\TyR w0 Q0 [.int .i64 k,.string s,.slice A n cap] l[i]
def RowT.nil (w0:À) (Q0:Nat->Prop):RowT w0 Q0 [] []:=⟨rfl,λi hi=>by cases hi⟩
variable {Q0:Nat->Prop} {xs:List Value}
def RowT.snoc {w0:À} {l:List Ty} (h:RowT w0 Q0 xs l) {s:Ê} {n cap:Nat} {t:Ty} (ht:TyR w0 Q0 [.int .i64 k,.string s,.slice A n cap] t):RowT w0 Q0 (xs++[.int .i64 k,.string s,.slice A n cap]) (l++[t]):=by
 refine⟨by simp[h.1];omega,λi hi=>?_⟩;by_cases d:i<l.length
 ·obtain⟨j,f,v,g,b,u,r,q,p⟩:=h.2 i d;have a:=h.1;refine⟨j,f,v,g,b,?_,?_,?_,?_⟩
  ·rw[List.getElem?_append_left ω];exact u
  ·rw[List.getElem?_append_left ω];exact r
  ·rw[List.getElem?_append_left ω];exact q
  rw[List.getElem_append_left d];exact p
 have e:i=l.length:=by simp at hi;omega
 subst e;have a:=h.1;refine⟨k,s,A,n,cap,?_,?_,?_,?_⟩
 ·rw[List.getElem?_append_right ω,a];simp
 ·rw[List.getElem?_append_right ω,a];simp
 ·rw[List.getElem?_append_right ω,a];simp
 simpa using ht
def RowT.tys {w0 w:À} {Q:Nat->Prop} {l:List Ty} {base:Nat} {v:Value} (h:RowT w0 Q0 xs l) (ho:w.ownsRow base 40 3 v l xs) (hs:Sub Q0 Q w0 w) (hq:∀g,v.ownBlock=some g->Q g):TysR w Q v l:=by
 have d:=λg hg=>ho.cells (g:=g) hg;obtain⟨t,b⟩:=ho;rcases b with ⟨rfl,a⟩|⟨g,cap,cur,rfl,hb,hh,hnc,hcm,hcs,hct⟩
 ·have:l=[]:=List.eq_nil_of_length_eq_zero a;subst this;exact SlR.nil
 refine⟨some ⟨g,0,none⟩,cap,λi=>(xs.drop (i*3)).take 3,rfl,⟨ψ hnc hcm,hnc⟩,λ_=>⟨g,0,rfl,hq g rfl,λi hi=>⟨?_,λj u hu=>?_⟩⟩,λi hi=>?_⟩
 ·simp;omega
 ·rw[List.getElem?_take] at hu;split at hu
  ·rw[List.getElem?_drop] at hu;have:=d g rfl _ _ hu
   have e:(⟨g,0,none⟩:Addr).add (i*3+j)=⟨g,0+i*3+j,none⟩:=by
    unfold Addr.add;split
    ·rename_i h;simp at h;simp[h]
    simp
   rw[e] at this;exact this
  cases hu
 obtain⟨k,s,A,n,r,a,q,p,f⟩:=h.2 i hi
 have:(xs.drop (i*3)).take 3=[.int .i64 k,.string s,.slice A n r]:=by
  apply List.ext_getElem?;intro j;rw[List.getElem?_take];match j with
  | 0=>simpa using a
  | 1=>simpa using q
  | 2=>simpa using p
  | j+3=>rw[if_neg ω];rfl
 show TyR w Q ((xs.drop (i*3)).take 3) l[i];rw[this];exact f.to hs
def tL (w:À) (A:Option Addr) (len cap k:Nat) (h:k<=len):(Instr.slice 37 (.slice A len cap) (some (.int .i64 (k:Int))) none none).run prog w=.ok (.slice (fd A cap k 4) (len-k) (cap-k)) w:=by
 have a:(0:Int)<=(k:Int)/\(k:Int)<=(len:Int):=ω;simp[Instr.slice,run_underlying underlying37,Instr.sliceBounds,Instr.sliceBound,asIntOf,uN,Result.andThen,h,a,fd]
def tK (w:À) (A:Option Addr) (len cap k:Nat) (h:k<=len) (hc:len<=cap):(Instr.slice 37 (.slice A len cap) none (some (.int .i64 (k:Int))) none).run prog w=.ok (.slice A k cap) w:=by
 have b:(0:Int)<=(k:Int)/\(k:Int)<=(cap:Int):=ω;simp[Instr.slice,run_underlying underlying37,Instr.sliceBounds,Instr.sliceBound,asIntOf,uN,Result.andThen,b,show k<=cap by omega]
 cases A with
 | none=>simp
 | some a=>simp[Addr.add]
def clo_get {c:CB} {p:Pg} {mb n:Nat} (IH:xG c p mb n) (hF:aO p n) (hFi:Fine p) {own:Nat->Prop} {op m:Int} {s:Ê} {kids:List Ex} {cap:Nat} {w:À} (hd:∀k∈kids,Ex.deep k<=n) (he:Env w own mb sb c p sc) (ho:ScOk p sc) (hk:im own w kc) (hkc:w.cell? kc=some (c.b:Vl)) (hx:ExsR w (im own w) (.slice A kids cap) kids) (hw:WantR w (im own w) wv want) (hwo:aL want) (hix:i64 x) (hss:s.size<=maxLen) (hl:kids.length=1):
 Calls prog 169 #[sb,ex5 op x m s A kids cap,wv,kc] w (ResF w own mb sb sc (fGet p (aa p n) sc x kids)):=by
 obtain⟨HP,aq,HD,HF,N,M,HO,HW⟩:=zd8 (Pre.start (op:=op) (x:=x) (m:=m) (s:=s) he hk hkc hx hw) IH hd hF hFi ho he.mb.1 hwo;obtain⟨cn,cl⟩:=zd2 hix hss;have cf:=he.mb.2;have i0:0<kids.length:=ω;have j0:(0:Int)<(kids.length:Int):=ω
 have HV:Hid (fGet p (aa p n) sc x kids=match aa p n sc kids[0] none with|none=>none|some t=>match recP p t with|none=>none|some fs=>if az x fs then (fs[x.toNat]?).map (·.type) else none):=by
  match kids,hl with
  | [a],_=>rfl
 obtain⟨r,D⟩:=γ ((w.alloc (.cells #[op,x,m,s,.slice A kids cap] 43)).alloc (.cells #[(0:Int),"",()] 40))
 have l:Hid (Pre r (plus own (w+1)) mb sb w (w+1) kc c p sc op x m s A kids cap wv want):=by rw[D];exact HP
 have I:Hid (Stm mb w r):=by rw[D];exact Stm.of_below ζ2
 have ce:w.heap.size+2<=r:=by rw[D];simp
 have bh:=η D;have a9:kc≠mb:=λe=>hk.2 (by rw[e];exact he.mb.1);clear hd he ho hk hkc hx hw hwo IH HP D hF hFi hix hss hl;go_in;go_upto_region 1 with fail;rw[<-bh.o];have c1:=stpC (mb:=mb) l.kc a9;obtain⟨g,a6,o1,x1,m1,s1,a1,B1,ck,rfl,hg,e1,p0,p1,p2,p3,p4,hr⟩:=aQ l.kids i0;have B:g≠mb:=λe=>hg.2 (by rw[e];exact .inl HO);simp only[Nat.zero_mul,Nat.add_zero] at p0 p1 p2 p3 p4;replace p0:=stpC p0 B;replace p1:=stpC p1 B;replace p2:=stpC p2 B;replace p3:=stpC p3 B;replace p4:=stpC p4 B;have HR:=η hr;clear hr e1;have b4:=stpC (mb:=mb) (l.bx.c 4) Φ;obtain⟨V,ak⟩:=γ (aa p n sc kids[0] none)
 have v:=η ak;clear ak;go_cut [9,10] (λv1 v2 W=>Hid (Got r (plus own (w+1)) mb sb sc V v1 v2 W))
 case first =>
  go_region_held3 (λW=>Stm mb r W) (first|exact bq _ _|exact smDr _ _|exact i|exact smA ι _|exact (smA (Stm.refl _ _) _).trans (smDr _ _)|exact smS i (υ _) ω _ _ _ _ _)
   (first|(go_at_call 170;refine (hasB aq l M (HD _ (ν i0)) HR).mono ?_;rw[<-v.o];rintro e3 w3 ⟨k3,s3,A3,n3,aw,rfl,i,z,q⟩;obtain⟨T,R,O,Z,Y,X⟩:=z.facts)|(go_at_call 170;refine (hasA aq l M (HD _ (ν i0)) HR).mono ?_;rw[<-v.o];rintro e3 w3 ⟨k3,s3,A3,n3,aw,rfl,i,q⟩))
  all_goals
   go_wp2;go_meet;first|exact gotA i q|exact gotB i ω (.inl HO) z q
 case rest =>
 clear c1 b4 p0 p1 p2 p3 p4 HR;obtain⟨i,ai,k2,s2,A2,n2,b6,rfl,b2,z,rfl,q⟩:=hcut.o;obtain⟨G,bm,E⟩:=zd3 i z q;clear hcut i z q;obtain⟨U,rfl⟩:=γ wc
 have j:=η (l.rs.stp G Ω)
 cases V with
 | none =>
  have H:Hid (fGet p (aa p n) sc x kids=none):=by show _=_;rw[HV.o,<-v.o]
  obtain⟨T,R,O,Z,Y,X⟩:=j.facts;go_wp2;rw[H.o];exact bodyPost_ret (am results169 _ _ (w+1) _ _ _ _ _ rfl (j.set3 _ _ _ _ _)) rfl (aB (I.trans G) ω ω)
 | some t =>
  have ap:Hid (fGet p (aa p n) sc x kids=match recP p t with|none=>none|some fs=>if az x fs then (fs[x.toNat]?).map (·.type) else none):=by show _=_;rw[HV.o,<-v.o]
  obtain⟨co,f⟩:=zd2 (HF sc kids[0] none t M (λu h=>by cases h) v.symm) (l.stp G (E t rfl).2);have cm:=η f.o.env.chk.qb.1;obtain⟨y0,y1,y2,_,_,_⟩:=bm.facts;have c1:=f.kc;have b1:=f.bx.c 1
  cases h4:recP p t with
  | none =>
   have H:Hid (fGet p (aa p n) sc x kids=none):=by show _=_;rw[ap.o,h4]
   have H4:=η h4;clear h4;go_wp2_with (go_at_call 166;refine (xE c p (im (plus own (w+1)) U) _ t _ _ f.env.chk f.env.chk.qb.1 N (E t rfl).1).mono ?_;rw[H4.o];rintro e4 w4 ⟨d,rfl⟩;obtain⟨T,R,O,Z,Y,X⟩:=(j.stp (Stm.of_below (mb:=mb) d) Ω).facts);rw[H.o];exact bodyPost_ret (am results169 _ _ (w+1) _ _ _ _ _ rfl ((j.stp (Stm.of_below (mb:=mb) d) Ω).set3 _ _ _ _ _)) rfl (aB ((I.trans G).trans (Stm.of_below d)) ω ω)
  | some fs =>
   have ao:Hid (fGet p (aa p n) sc x kids=if az x fs then (fs[x.toNat]?).map (·.type) else none):=by show _=_;rw[ap.o,h4]
   have H4:=η h4;clear h4;by_cases J:az x fs=true
   ·have a7:0<=x/\x<fs:=by simpa[az] using J
    obtain⟨y,rfl⟩:∃y:Nat,x=(y:Int):=⟨x.toNat,ω⟩
    have aj:y<fs:=ω;have cc:(0:Int)<=(y:Int):=ω;have cb:(y:Int)<(fs.length:Int):=ω;have H5:=η J;have H:Hid (fGet p (aa p n) sc (y:Int) kids=some fs[y].type):=by show _=_;rw[ao.o,if_pos H5.o,Int.toNat_natCast,ξ aj];rfl
    clear J a7;go_upto_region 7 with (first|(go_at_call 166;refine (xE c p (im (plus own (w+1)) U) _ t _ _ f.env.chk f.env.chk.qb.1 N (E t rfl).1).mono ?_;rw[H4.o];rintro e4 w4 ⟨d,A4,av,rfl,F⟩;obtain⟨T,R,O,Z,Y,X⟩:=(j.stp (Stm.of_below (mb:=mb) d) Ω).facts;have be:=belC d b1)|(go_at_call 162;refine (ay _ _ _).mono ?_;rw[H5.o];rintro e w' ⟨rfl,rfl⟩));have S4:=η (Stm.of_below (mb:=mb) d);have al:=FldsR.to F (sof (own:=(plus own (w+1))) d).sub;obtain⟨g4,bu,k4,s4,a4,B4,cj,rfl,ci,bb,v0,v1,v2,v3,au,L⟩:=dw al aj;obtain⟨bj,bk⟩:=zd2 L ((E t rfl).2.below d);clear al L au bb v0 F;go_wp2;rw[H.o];exact bodyPost_ret (am results169 _ _ (w+1) _ _ _ _ _ rfl ((j.stp S4 Ω).set3 _ _ _ _ _)) rfl (bo ((I.trans G).trans S4) ω ω HO (bj) (bk))
   have an:az x fs=false:=by simpa using J
   have H:Hid (fGet p (aa p n) sc x kids=none):=by show _=_;rw[ao.o,if_neg J]
   have H5:=η an;clear J an;go_wp2_with (first|(go_at_call 166;refine (xE c p (im (plus own (w+1)) U) _ t _ _ f.env.chk f.env.chk.qb.1 N (E t rfl).1).mono ?_;rw[H4.o];rintro e4 w4 ⟨d,A4,av,rfl,F⟩;obtain⟨T,R,O,Z,Y,X⟩:=(j.stp (Stm.of_below (mb:=mb) d) Ω).facts;have be:=belC d b1)|(go_at_call 162;refine (ay _ _ _).mono ?_;rw[H5.o];rintro e w' ⟨rfl,rfl⟩));rw[H.o];exact bodyPost_ret (am results169 _ _ (w+1) _ _ _ _ _ rfl ((j.stp (Stm.of_below (mb:=mb) d) Ω).set3 _ _ _ _ _)) rfl (aB ((I.trans G).trans (Stm.of_below d)) ω ω)
def ScOk.set {p:Pg} (h:ScOk p sc) {i:Int} {t:Ty} (hf:ag t=true):ScOk p (sc.set i t):=
 ⟨λj u hu=>by
  unfold Sc.set at hu
  simp only at hu
  split at hu
  ·injection hu with hu;subst hu;exact hf
  exact h.bound j u hu,h.vars,h.actor⟩
def ScS.mapW {w:À} {own:Nat->Prop} {mb:Nat} (h:ScS w own mb sb sc):MapW w mb:=by
 obtain⟨n,f,a,b,h⟩:=h;exact⟨n,f,h.map⟩
def FreeW (w:À) (mb:Nat) (e:Ending) (w':À):Prop:=e=.returned (.tuple #[])/\Stm mb w w'
def free_w (mb sb:Nat) (i:Int) (w:À) (c1:w.cell? ⟨sb,1,none⟩=some (.map (some mb))) (hm:MapW w mb) (hi:i64 i):Calls prog 144 #[sb,i] w (FreeW w mb):=by
 obtain⟨n,f,a⟩:=hm;obtain⟨g,e⟩:=zd2 hi a;go_in;go_wp2_with (refine jL _ rfl _ _ 176 rfl 40 (bh underlying3) underlying176 mb n f rfl e i (i:Vl) rfl (aw underlying3 g) ?_;intro h j k d b);exact bodyPost_ret (v:=.tuple #[]) (by simp[results,results144,go_sem]) rfl ⟨rfl,smO (Stm.refl _ _) b ⟨_,_,d⟩⟩
def clo_let {c:CB} {p:Pg} {mb n:Nat} (IH:xG c p mb n) (hF:aO p n) (hFi:Fine p) {own:Nat->Prop} {op m:Int} {s:Ê} {kids:List Ex} {cap:Nat} {w:À} (hd:∀k∈kids,Ex.deep k<=n) (he:Env w own mb sb c p sc) (ho:ScOk p sc) (hk:im own w kc) (hkc:w.cell? kc=some (c.b:Vl)) (hx:ExsR w (im own w) (.slice A kids cap) kids) (hw:WantR w (im own w) wv want) (hwo:aL want) (hix:i64 x) (hss:s.size<=maxLen) (hl:kids.length=2):
 Calls prog 177 #[sb,ex5 op x m s A kids cap,wv,kc] w (ResF w own mb sb sc (fLet (aa p n) sc x want kids)):=by
 obtain⟨HP,ac,HD,HF,c6,Z,HO,HW⟩:=zd8 (Pre.start (op:=op) (x:=x) (m:=m) (s:=s) he hk hkc hx hw) IH hd hF hFi ho he.mb.1 hwo;obtain⟨ab,c5⟩:=zd2 hix hss;have c2:=he.mb.2;have c3:kc<w:=hk.1;have i0:0<kids.length:=ω;have i1:1<kids.length:=ω;have j0:(0:Int)<(kids.length:Int):=ω;have j1:(1:Int)<(kids.length:Int):=ω
 have HV:Hid (fLet (aa p n) sc x want kids=match aa p n sc kids[0] none with|none=>none|some t=>match sc.bind x t with|none=>none|some sc'=>aa p n sc' kids[1] want):=by
  match kids,hl with
  | [a,b],_=>rfl
 obtain⟨G,L⟩:=γ ((w.alloc (.cells #[op,x,m,s,.slice A kids cap] 43)).alloc (.cells #[(0:Int),"",()] 40))
 have y:Hid (Pre G (plus own (w+1)) mb sb w (w+1) kc c p sc op x m s A kids cap wv want):=by rw[L];exact HP
 have V:Hid (Stm mb w G):=by rw[L];exact Stm.of_below ζ2
 have c0:w.heap.size+2<=G:=by rw[L];simp
 have b5:=η L;have a6:kc≠mb:=λe=>hk.2 (by rw[e];exact he.mb.1);clear hd he ho hk hkc hx hw hwo IH HP L hF hFi hix hss hl;go_in;go_upto_region 1 with fail;rw[<-b5.o];have c1:=stpC (mb:=mb) y.kc a6;obtain⟨g,ao,o1,x1,m1,s1,a1,B1,b0,rfl,hg,e1,F,E,D,B,z,hr⟩:=aQ y.kids i0;have q:g≠mb:=λe=>hg.2 (by rw[e];exact .inl HO);have c4:g≠w+1:=λe=>hg.2 (.inr e);simp only[Nat.zero_mul,Nat.add_zero] at F E D B z;replace F:=stpC F q;replace E:=stpC E q;replace D:=stpC D q;replace B:=stpC B q;replace z:=stpC z q;have HR:=η hr;clear hr e1;have b4:=stpC (mb:=mb) (y.bx.c 4) Φ;obtain⟨r1,I⟩:=γ (aa p n sc kids[0] none)
 have H:=η I;clear I;go_cut [9,10] (λv1 v2 W=>Hid (Got G (plus own (w+1)) mb sb sc r1 v1 v2 W))
 case first =>
  go_region_held3 (λW=>Stm mb G W) (first|exact bq _ _|exact smDr _ _|exact d|exact smA ι _|exact (smA (Stm.refl _ _) _).trans (smDr _ _)|exact smS d (υ _) ω _ _ _ _ _)
   (first|(go_at_call 170;refine (hasB ac y Z (HD _ (ν i0)) HR).mono ?_;rw[<-H.o];rintro e3 w3 ⟨k3,s3,A3,n3,N,rfl,d,j,f⟩;obtain⟨z0,z1,z2,q0,q1,q2⟩:=j.facts)|(go_at_call 170;refine (hasA ac y Z (HD _ (ν i0)) HR).mono ?_;rw[<-H.o];rintro e3 w3 ⟨k3,s3,A3,n3,N,rfl,d,f⟩))
  all_goals
   go_wp2;go_meet;first|exact gotA d f|exact gotB d ω (.inl HO) j f
 case rest =>
 clear c1 b4 F E D B z HR;obtain⟨d,a4,k2,s2,A2,n2,ct,rfl,co,j,rfl,f⟩:=hcut.o;obtain⟨R,ca,M⟩:=zd3 d j f;clear hcut d j f;obtain⟨w2,rfl⟩:=γ wc
 have cz:G.heap.size<=w2:=R.size;have Y:=η (y.rs.stp R Ω);have cm:a4≠mb:=ω;have ck:a4≠w+1:=ω
 cases r1 with
 | none =>
  have T:Hid (fLet (aa p n) sc x want kids=none):=by show _=_;rw[HV.o,<-H.o]
  obtain⟨z0,z1,z2,q0,q1,q2⟩:=Y.facts;go_wp2;rw[T.o];exact bodyPost_ret (am results177 _ _ (w+1) _ _ _ _ _ rfl (Y.set3 _ _ _ _ _)) rfl (aB (V.trans R) ω ω)
 | some t =>
  have a8:Hid (fLet (aa p n) sc x want kids=match sc.bind x t with|none=>none|some sc'=>aa p n sc' kids[1] want):=by show _=_;rw[HV.o,<-H.o]
  obtain⟨cb,ba⟩:=zd2 (HF sc kids[0] none t Z (λu h=>by cases h) H.symm) (y.stp R (M t rfl).2);obtain⟨y0,y1,y2,_,_,_⟩:=ca.facts;have b1:=ba.bx.c 1
  cases h4:sc.bindB x with
  | false =>
   have T:Hid (fLet (aa p n) sc x want kids=none):=by show _=_;rw[a8.o];unfold Sc.bind;rw[h4];rfl
   have H4:=η h4;clear h4;go_wp2_with (go_at_call 178;refine (da (plus own (w+1)) mb sb sc x _ t _ (M t rfl).2 ab (M t rfl).1).mono ?_;rintro e4 w4 ⟨J,v,ap,a5⟩;rw[H4.o] at J;subst J;obtain⟨z0,z1,z2,q0,q1,q2⟩:=(Y.stp v Ω).facts);rw[T.o];exact bodyPost_ret (am results177 _ _ (w+1) _ _ _ _ _ rfl ((Y.stp v Ω).set3 _ _ _ _ _)) rfl (aB ((V.trans R).trans v) ω ω)
  | true =>
   have a7:Hid (fLet (aa p n) sc x want kids=aa p n (sc.set x t) kids[1] want):=by show _=_;rw[a8.o];unfold Sc.bind;rw[h4];rfl
   have H4:=η h4;clear h4;go_upto_region 4 with (go_at_call 178;refine (da (plus own (w+1)) mb sb sc x _ t _ (M t rfl).2 ab (M t rfl).1).mono ?_;rintro e4 w4 ⟨J,v,ap,a5⟩;rw[H4.o] at J;subst J);obtain⟨S4,r,aw⟩:=zd3 v (ba.stp v (ap (by first|rfl|trivial|exact H4))) (Z.set (i:=x) cb);have cy:w2.heap.size<=w4:=v.size;clear v ap a5 y0 y1 y2 b1;have c1:=stpC (mb:=mb) r.kc a6;obtain⟨g',bd,o1,x1,m1,s1,a1,B1,b0,hA,bv,e1,F,E,D,B,z,hr⟩:=aQ r.kids i1;obtain⟨rfl,rfl⟩:g=g'/\ao=bd:=by simpa using hA
   simp only[Nat.one_mul] at F E D B z;replace F:=stpC F q;replace E:=stpC E q;replace D:=stpC D q;replace B:=stpC B q;replace z:=stpC z q;have av:=η hr;clear hr e1 hA bv;have b4:=stpC (mb:=mb) (r.bx.c 4) Φ;obtain⟨r2,I⟩:=γ (aa p n (sc.set x t) kids[1] want)
   have U:=η I;clear I;go_cut [11,10] (λv1 v2 W=>Hid (Got w4 (plus own (w+1)) mb sb (sc.set x t) r2 v1 v2 W))
   case first =>
    go_region_held3 (λW=>Stm mb w4 W) (first|exact bq _ _|exact smDr _ _|exact d|exact smA ι _|exact (smA (Stm.refl _ _) _).trans (smDr _ _)|exact smS d (υ _) ω _ _ _ _ _)
     (first|(go_at_call 141;refine (exprB ac r aw HW (HD _ (ν i1)) av).mono ?_;rw[<-U.o];rintro e3 w3 ⟨k3,s3,A3,n3,N,rfl,d,j,f⟩;obtain⟨z0,z1,z2,q0,q1,q2⟩:=j.facts)|(go_at_call 141;refine (exprA ac r aw HW (HD _ (ν i1)) av).mono ?_;rw[<-U.o];rintro e3 w3 ⟨k3,s3,A3,n3,N,rfl,d,f⟩))
    all_goals
     go_wp2;go_meet;first|exact gotA d f|exact gotB d ω (.inl HO) j f
   case rest =>
   clear c1 b4 F E D B z av;obtain⟨d,a3,k5,s5,A5,n5,cs,rfl,cn,j,rfl,f⟩:=hcut.o;obtain⟨O,ay,a9⟩:=zd3 d j f;clear hcut d j f;obtain⟨w5,rfl⟩:=γ wc
   have cx:w4.heap.size<=w5:=O.size;have X:=η (r.rs.stp O Ω);have cl:a3≠mb:=ω;have cj:a3≠w+1:=ω;obtain⟨y0,y1,y2,_,_,_⟩:=ay.facts;have b1:w5.cell? ⟨w,1,none⟩=some (x:Vl):=(r.bx.stp O Ω).cell 1
   have cc:Hid (w5.cell? ⟨sb,1,none⟩=some (.map (some mb))):=by
    obtain⟨_,_,_,_,ar⟩:=r.env.sco;exact stpC (mb:=mb) ar.c1 (λe=>ar.isb.2 (by rw[show sb=mb from e];exact ar.om)) w5 O
   have b9:=η (O.m r.env.sco.mapW)
   cases r2 with
   | none =>
    have T:Hid (fLet (aa p n) sc x want kids=none):=by show _=_;rw[a7.o,<-U.o]
    go_wp2_with (go_at_call 144;refine (free_w mb sb x _ cc b9 ab).mono ?_;rintro e6 w6 ⟨rfl,l⟩;obtain⟨z0,z1,z2,q0,q1,q2⟩:=(X.stp l Ω).facts;obtain⟨v0,v1,v2,_,_,_⟩:=(ay.stp l Ω).facts);rw[T.o];exact bodyPost_ret (am results177 _ _ (w+1) _ _ _ _ _ rfl ((X.stp l Ω).set3 _ _ _ _ _)) rfl (aB ((((V.trans R).trans S4).trans O).trans l) ω ω)
   | some u =>
    have T:Hid (fLet (aa p n) sc x want kids=some u):=by show _=_;rw[a7.o,<-U.o]
    go_wp2_with (go_at_call 144;refine (jS (plus own (w+1)) mb sb (sc.set x t) x _ (a9 u rfl).2 ab).mono ?_;rintro e6 w6 ⟨rfl,l,aq⟩;obtain⟨z0,z1,z2,q0,q1,q2⟩:=(X.stp l Ω).facts;obtain⟨v0,v1,v2,_,_,_⟩:=(ay.stp l Ω).facts;rw[mI H4.o] at aq);rw[T.o];exact bodyPost_ret (am results177 _ _ (w+1) _ _ _ _ _ rfl ((X.stp l Ω).set3 _ _ _ _ _)) rfl (bo ((((V.trans R).trans S4).trans O).trans l) ω ω HO ((a9 u rfl).1.to (l.subO (.inl HO))) (aq))
def kids_at' (h:j<l):ic E sc k (l.drop j)=(isE E sc l[j] (bTy k)&&ic E sc k (l.drop (j+1))):=by
 unfold ic;rw[bk h,List.all_cons]
def cY (hk:k=1\/k=2\/k=3\/k=4):ag (bTy k)=true:=by
 unfold bTy;rw[ag,if_pos hk];rfl
def uW {c:CB} {p:Pg} {mb n:Nat} (IH:xG c p mb n) {own:Nat->Prop} {gc gk:Nat} {op m:Int} {s:Ê} {cap:Nat} {w:À} (hd:∀e∈l,Ex.deep e<=n) (he:Env w own mb sb c p sc) (ho:ScOk p sc) (hl:ExsR w (im own w) (.slice A l cap) l) (hk:k=1\/k=2\/k=3\/k=4) (hg:im own w gc) (hh:im own w gk) (hgc:w.cell? gc=some (c.b:Vl)) (hgk:w.cell? gk=some (k:Vl)):
 Calls prog 200 #[sb,ex5 op x m s A l cap,gc,gk] w (ResB w own mb sb sc (ic (aa p n) sc k l)):=by
 have az:=hl.le9;obtain⟨N,HD,O,J,HL,HO,HK⟩:=zd7 IH hd he ho hl he.mb.1 (cY hk);have M:Hid (i64 k):=by show i64 k;unfold i64;omega
 have ay:=he.mb.2;have G:gc≠mb:=λe=>hg.2 (by rw[e];exact he.mb.1);have F:gk≠mb:=λe=>hh.2 (by rw[e];exact he.mb.1);obtain⟨al,ak⟩:=zd2 hgc hgk;have B0:Hid (∀o,Below w w (w.alloc o)):=λo=>belA (belR _) _;clear IH hd he ho hl hk hgc hgk hg hh;go_in;go_wp2_with fail;go_loopw [12] (λi wr=>∃j:Nat,j<=l/\i=.int .i64 j/\Hid (ic (aa p n) sc k l=ic (aa p n) sc k (l.drop j))/\Hid (Stm mb w wr)/\Hid (ScS wr own mb sb sc)) (λi _=>l.length-(intOf i).toNat)
 case atStart=>exact⟨0,ω,rfl,rfl,Stm.of_below (B0 _),O.sco.below (B0 _)⟩
 case round =>
  obtain⟨j,hj,rfl,HV,r,I⟩:=hrel;have HE:=η (O.stp r I);have ax:mb<wr:=HE.mb.2;by_cases hlt:j<l
  ·have u1:=zT j l;have R:=η (kids_at' (E:=aa p n) (sc:=sc) (k:=k) hlt);obtain⟨g,aw,X,T,Y,U,a1,B1,B,rfl,hg,Z,p0,p1,p2,p3,p4,hr⟩:=aQ (ExsR.to HL (r.subO HO)) hlt;have HR:=η hr;clear hr Z;obtain⟨V,z⟩:=γ (.cells #[X,T,Y,U,.slice B1 a1 B] 43:Obj)
   obtain⟨d,t⟩:=γ (wr.alloc V)
   have D:Below wr wr d:=by rw[t];exact ζ1
   have f:Hs d wr 43 #[X,T,Y,U,.slice B1 a1 B]:=by rw[t,z];exact Hs.new _ _ _
   have v:=η D;have r1:=stpC (mb:=mb) (stpC (mb:=mb) al G d (r.trans (Stm.of_below D))) G;have r2:=stpC (mb:=mb) (stpC (mb:=mb) ak F d (r.trans (Stm.of_below D))) F;have d0:=stpC (mb:=mb) (f.c 0) Φ;have d1:=stpC (mb:=mb) (f.c 1) Φ;have d2:=stpC (mb:=mb) (f.c 2) Φ;have d3:=stpC (mb:=mb) (f.c 3) Φ;have d4:=stpC (mb:=mb) (f.c 4) Φ;obtain⟨H,L⟩:=zd2 t z;clear f D t z
   cases h4:isE (aa p n) sc l[j] (bTy k) with
   | false =>
    have u:Hid (ic (aa p n) sc k l=false):=by show _=_;rw[HV.o,R.o,h4];rfl
    have H4:=η h4;clear h4;go_wp2_with fail;rw[<-L.o,<-H.o]
    go_region_held3 (λW=>Stm mb d W) (first|exact bq _ _|exact smDr _ _|exact Stm.trans ι (Stm.of_below a)|exact Stm.trans ι q)
     (first|(go_at_call 176;refine (aU _ _).mono ?_;rintro Z w1 ⟨rfl,a⟩)|(go_at_call 105;refine (bA N (HD _ (ν hlt)) (HE.bel (bel v (bel (ad _) a))) J (HR.to (sof (bel v (bel (ad _) a))).sub) (cO _ _ k M) HK).mono ?_;rw[H4.o];rintro e2 w2 ⟨rfl,q,y⟩))
    go_wp2;go_ret;exact⟨by rw[u.o];rfl,(r.trans (Stm.of_below v)).trans ((Stm.of_below (bel (ad _) a)).trans q),λh=>by rw[u.o] at h;cases h⟩
   | true =>
    have u:Hid (ic (aa p n) sc k l=ic (aa p n) sc k (l.drop (j+1))):=by show _=_;rw[HV.o,R.o,h4];rfl
    have H4:=η h4;clear h4;go_wp2_with fail;rw[<-L.o,<-H.o]
    go_region_held3 (λW=>Stm mb d W) (first|exact bq _ _|exact smDr _ _|exact Stm.trans ι (Stm.of_below a)|exact Stm.trans ι q)
     (first|(go_at_call 176;refine (aU _ _).mono ?_;rintro Z w1 ⟨rfl,a⟩)|(go_at_call 105;refine (bA N (HD _ (ν hlt)) (HE.bel (bel v (bel (ad _) a))) J (HR.to (sof (bel v (bel (ad _) a))).sub) (cO _ _ k M) HK).mono ?_;rw[H4.o];rintro e2 w2 ⟨rfl,q,y⟩))
    go_wp2_with fail;go_roundw
    case rel=>exact⟨j+1,ω,by go_num,u,(r.trans (Stm.of_below v)).trans ((Stm.of_below (bel (ad _) a)).trans q),y Υ⟩
    case measure=>simp[intOf];omega
  have u1:=zF j l;have u:Hid (ic (aa p n) sc k l=true):=by show _=_;rw[HV.o,ε ω];rfl
  go_wp2;go_ret;exact⟨by rw[u.o];rfl,r,λ_=>I⟩
end
section
variable (sb:Nat) (op x m:Int) (s:Ê) (A:Option Addr) (l cap:Nat) (w:À)
include sb op x m s A l cap w
theorem c1_any:Calls prog 156 #[sb,ex5 op x m s A l cap] w λe w'=>e=.returned (true:Vl)/\Below w w w':=by
 go_in;go_wp2;go_ret;exact⟨rfl,ζ1⟩
theorem c2_any:Calls prog 157 #[sb,ex5 op x m s A l cap] w λe w'=>e=.returned (.bool (decide (x=0)||decide (x=1)))/\Below w w w':=by
 by_cases b:x=0
 ·subst b;go_in;go_wp2;go_ret;exact⟨rfl,ζ1⟩
 have h:(x==0)=false:=by simpa using b
 have f:Hid (decide (x=0)=false):=decide_eq_false b;by_cases a:x=1
 ·subst a;go_in;go_wp2;go_ret;exact⟨rfl,ζ1⟩
 have g:(x==1)=false:=by simpa using a
 have d:Hid (decide (x=1)=false):=decide_eq_false a;go_in;go_wp2;go_ret;exact⟨by rw[f.o,d.o];rfl,ζ1⟩
theorem c3_any:Calls prog 158 #[sb,ex5 op x m s A l cap] w λe w'=>e=.returned (.bool (decide (-9007199254740992<=x)&&decide (x<=9007199254740992)))/\Below w w w':=by
 cases h1:decide (-9007199254740992<=x)<;>cases h2:decide (x<=9007199254740992)
 all_goals
  go_in;go_wp2;go_ret;exact⟨rfl,ζ1⟩
theorem c4_any:Calls prog 159 #[sb,ex5 op x m s A l cap] w λe w'=>e=.returned (.bool (decide (s.size<=4096)))/\Below w w w':=by
 by_cases h:s.size<=4096
 ·have b:decide ((s.size:Int)<=4096)=true:=decide_eq_true ω;have a:Hid (decide (s.size<=4096)=true):=decide_eq_true h;go_in;go_wp2;go_ret;exact⟨by rw[a.o];rfl,ζ1⟩
 have b:decide ((s.size:Int)<=4096)=false:=decide_eq_false ω;have a:Hid (decide (s.size<=4096)=false):=decide_eq_false h;go_in;go_wp2;go_ret;exact⟨by rw[a.o];rfl,ζ1⟩
end
set_option maxRecDepth 1000000 in
def zfStSe {p:Prop} (h:p:=by
 have HO:=η he.mb.1;have bh:=he.mb.2;obtain⟨a,i⟩:=γ ((w.alloc (.cells #[op,x,m,s,.slice A kids cap] 43)).alloc (.cells #[(0:Int),"",()] 40))
 have J:Below w w a:=by rw[i];exact ζ2
 have F:Hs a w 43 (ex5 op x m s A kids cap):=by rw[i];exact (Hs.new _ _ _).alloc _
 have a0:Hs a (w+1) 40 z3:=by rw[i];exact Hs.new' _ _ _
 have bg:w.heap.size+2=a:=by rw[i];simp
 obtain⟨R,t,I,l⟩:=zd4 J a0 i (he.plus J (g:=w+1) ω ω);obtain⟨nn,ff,va,ks,d⟩:=l.sco
 first
  | guard_hyp kk1:True
    have Z:=d.c3
  | obtain⟨Av,cv,rfl⟩:=d.vars.form
    have s2:=d.c2;have d1:=(F.c 1)
    have a5:=η d.vars
 have X:Hid (ScS a (plus own (w+1)) mb sb sc):=⟨_,_,_,_,d⟩
 first
  | done
  | guard_hyp kk1:True
  | have ax:=World.block_lt_of_cell? a _ s2
    simp only at ax
 have u:sb≠w+1:=λe=>d.isb.2 (.inr e)
 first
  | guard_hyp kk0:True
    clear he F J i d;by_cases q:az x sc.vars=true
  | have bi:kc<w:=hk.1
    have V:c.b≠w+1:=λe=>l.chk.qb.2 (.inr e);have k0:=belC J hkc;have c3:=l.chk.c3;obtain⟨A3,ah,e3⟩:=l.chk.actors.form;rw[e3] at c3;have a9:Hid (SlR a (im (plus own (w+1)) a) 7 (AcR a (im (plus own (w+1)) a)) (.slice A3 p.actors ah) p.actors):=by rw[<-e3];exact l.chk.actors
    have a3:=ho.actor;obtain⟨z0,z1,z2,q0,q1,q2⟩:=t.facts;clear he F J i d hk hkc e3 ho;by_cases z:sc.actor<0
    · have D:Hid (iL p sc=none):=by show iL _ _=_;unfold iL;rw[if_pos z]
      have t1:decide (sc.actor<0)=true:=decide_eq_true z;rw[D.o];clear z;go_in;go_upto_region 1 with fail;rw[<-I.o];go_wp2;exact bodyPost_ret (am results163 _ _ (w+1) _ _ _ _ _ rfl (t.set3 _ _ _ _ _)) rfl (aB (rb:=w+1) (Stm.of_below R) ω ω)
 · first
    | guard_hyp kk1:True
      have t1:decide (sc.actor<0)=false:=decide_eq_false z;obtain⟨y,hy⟩:∃y:Nat,sc.actor=(y:Int):=⟨sc.actor.toNat,ω⟩
      have k:y<p.actors:=ω;have D:Hid (iL p sc=some (refT p.actors[y].name)):=by show iL _ _=_;unfold iL;rw[if_neg z,hy,Int.toNat_natCast,ξ k];rfl
      rw[hy] at Z t1;obtain⟨g,ar,Ax,qx,Bx,cx,Dx,dx,rfl,hg,O,N,M,L,p4,p5,p6,E,_,v,_⟩:=fR a9 k
    | have aw:0<=x/\x<sc.vars:=by simpa[az] using q
      have av:x.toNat<sc.vars:=ω;obtain⟨y,rfl⟩:∃y:Nat,x=(y:Int):=⟨x.toNat,ω⟩
      have k:y<sc.vars:=ω;have D:Hid ((if az (y:Int) sc.vars then (sc.vars[(y:Int).toNat]?).map (·.type) else none)=some sc.vars[y].type):=by show _=_;rw[if_pos q,Int.toNat_natCast,ξ k];rfl
      have j1:(0:Int)<=(y:Int):=ω;have j2:(y:Int)<(sc.vars.length:Int):=ω;obtain⟨g,ar,k1,s1,a1,A1,be,o1,x1,m1,r1,e1,D1,bj,rfl,hg,O,N,M,L,p4,p5,p6,p7,p8,E,v,U,_⟩:=ku a5 k
   have f:g≠w+1:=λe=>hg.2 (.inr e)
   first
    | guard_hyp kk0:True
      obtain⟨a6,H⟩:=zd2 U q
    | have a8:=η v
      have j1:(0:Int)<=(y:Int):=ω;have j2:(y:Int)<(p.actors.length:Int):=ω
   rw[D.o]
   first
    | guard_hyp kk0:True
      clear E v U O p4 p5 p6 p7 p8 q aw av;go_in;go_wp2_with fail
    | clear E v N M L p4 p5 p6 z hy a3
      go_in;go_upto_region 1 with fail
   rw[<-I.o]
   first
    | done
    | guard_hyp kk1:True
    | go_quiet ((go_at_call 162;exact Calls.quiet_of_same ((ay _ _ _).mono (λe w' h=>by rw[H.o] at h;exact⟨h.1,h.2.symm⟩))))
   go_wp2_with fail
   first
    | guard_hyp kk1:True
      replace Z:=aD (mb:=w+1) (rb:=w+1) Z u u;replace k0:=aD (mb:=w+1) (rb:=w+1) k0 Φ Φ;replace c3:=aD (mb:=w+1) (rb:=w+1) c3 V V;replace O:=aD (mb:=w+1) (rb:=w+1) O f f;refine tkB (λW=>Stp (plus (only (w.heap.size+1)) (w+1)) a W) (bq _ _) (λhHeld=>?_)
    | have j:Below a a (a.drewN nq):=bM nq (belR a)
      obtain⟨B,G⟩:=γ (a.drewN nq)
      rw[<-G] at j;rw[<-G];obtain⟨r,Y⟩:=zd2 (Stm.of_below (mb:=mb) j) j;replace s2:=aD (mb:=w+1) (rb:=w+1) (belC j s2) u u;replace d1:=aD (mb:=w+1) (rb:=w+1) (belC j d1) Θ Θ;replace N:=aD (mb:=w+1) (rb:=w+1) (belC j N) f f;replace M:=aD (mb:=w+1) (rb:=w+1) (belC j M) f f;replace L:=aD (mb:=w+1) (rb:=w+1) (belC j L) f f;obtain⟨z0,z1,z2,q0,q1,q2⟩:=(t.stp r Ω).facts;clear j G;refine tkB (λW=>Stp (plus (only (w.heap.size+1)) (w+1)) B W) (bq _ _) (λhHeld=>?_)
   refine tkQ 0 ?_;refine tkQ 1 ?_;refine tkQ 2 ?_;refine tkQ 3 ?_;refine tkQ 4 ?_;refine tkQ 5 ?_;refine tkQ 6 ?_;refine tkQ 7 ?_;refine tkQ 8 ?_
   first
    | guard_hyp kk0:True
      refine tkE 9 (λK hK=>?_)
    | refine tkQ 9 ?_
      refine tkQ 10 ?_;refine tkQ 11 ?_;refine tkQ 12 ?_;refine tkE 13 (λK hK=>?_)
   go_simp;refine tkR hK ?_ (λhHeld=>?_)
   · exact stpR ι _ _ _ _ _
   clear hK K
   first
    | guard_hyp kk0:True
      refine tkQ 10 ?_
    | refine tkQ 14 ?_
   refine tkD ?_;clear hHeld;go_wp2_with fail
   first
    | guard_hyp kk1:True
      exact bodyPost_ret (am results163 _ _ (w+1) _ _ _ _ _ rfl ((t.stp (smDr mb a) Ω).set3 _ _ _ _ _)) rfl (bo ((Stm.of_below R).trans (smDr _ _)) ω ω HO (TyR.of Ψ a8 SlR.nil) (X.below (ad a)))
    | exact bodyPost_ret (am results161 _ _ (w+1) _ _ _ _ _ rfl ((t.stp (r.trans (smDr mb B)) Ω).set3 _ _ _ _ _)) rfl (bo ((Stm.of_below R).trans (r.trans (smDr _ _))) ω ω HO (a6.to (sof (bel Y (ad B))).sub) (X.below (bel Y (ad B))))
 first
  | done
  | guard_hyp kk1:True
  | · have T:az x sc.vars=false:=by simpa using q
      have D:Hid ((if az x sc.vars then (sc.vars[x.toNat]?).map (·.type) else none)=none):=by show _=_;rw[if_neg q]
      have H:=η T;rw[D.o];clear q T;go_in;go_wp2_with fail;rw[<-I.o];go_quiet ((go_at_call 162;exact Calls.quiet_of_same ((ay _ _ _).mono (λe w' h=>by rw[H.o] at h;exact⟨h.1,h.2.symm⟩))));have r:=η (Stm.of_below (mb:=mb) (bM nq (belR a)));obtain⟨z0,z1,z2,q0,q1,q2⟩:=(t.stp r Ω).facts;go_wp2;exact bodyPost_ret (am results161 _ _ (w+1) _ _ _ _ _ rfl ((t.stp r Ω).set3 _ _ _ _ _)) rfl (aB ((Stm.of_below R).trans r) ω ω)) :p:=h
variable {A:Option Addr}
def clo_state {c:CB} {p:Pg} {mb:Nat} {own:Nat->Prop} {sb:Nat} {sc:Sc} {op x m:Int} {s:Ê} {kids:List Ex} {cap:Nat} {wv:Value} {w:À} (he:Env w own mb sb c p sc):
 Calls prog 161 #[sb,.agg (ex5 op x m s A kids cap),wv] w (ResF w own mb sb sc (if az x sc.vars then (sc.vars[x.toNat]?).map (·.type) else none)):=by
 have kk0:=trivial;exact zfStSe
def clo_self {c:CB} {p:Pg} {mb:Nat} {own:Nat->Prop} {sb kc:Nat} {sc:Sc} {op x m:Int} {s:Ê} {kids:List Ex} {cap:Nat} {wv:Value} {w:À} (he:Env w own mb sb c p sc) (ho:ScOk p sc) (hk:im own w kc) (hkc:w.cell? kc=some (c.b:Vl)):
 Calls prog 163 #[sb,.agg (ex5 op x m s A kids cap),wv,kc] w (ResF w own mb sb sc (iL p sc)):=by
 have kk1:=trivial;exact zfStSe
def b8s (l:List Nat):Array Value:=(l.map λn:Nat=>Value.int .u8 n).toArray
def ofB (l:List Nat):Ê:=⟨(l.map UInt8.ofNat).toArray⟩
def b8s_size (l:List Nat):(b8s l).size=l:=by simp[b8s]
def i64_or (j:Nat) (y x:Nat) (hy:y<2 ^ j) (hx:x%2 ^ j=0) (hb:y+x<9223372036854775808):bits .or .i64 (y:Int) (x:Int)=((y+x:Nat):Int):=by
 have e:(BitVec.ofInt 64 (y:Int)).toNat=y:=by rw[BitVec.toNat_ofInt];omega
 have d:(BitVec.ofInt 64 (x:Int)).toNat=x:=by rw[BitVec.toNat_ofInt];omega
 have b:y ||| x=y+x:=by
  have:=Nat.two_pow_add_eq_or_of_lt hy (x/2 ^ j);have a:2 ^ j*(x/2 ^ j)=x:=by have:=Nat.div_add_mod x (2 ^ j);omega
  rw[a] at this;rw[Nat.or_comm,<-this,Nat.add_comm]
 show IntKind.i64.wrap ((BitVec.ofInt 64 (y:Int) ||| BitVec.ofInt 64 (x:Int)).toNat:Nat)=_;rw[BitVec.toNat_or,e,d,b,IntKind.wrap_i64];omega
def rZ (l:List Nat):∀s:Ê,(l.map λn:Nat=>(n:Int)).foldl (λr n=>r.push (UInt8.ofNat n.toNat)) s=⟨s.data++(l.map UInt8.ofNat).toArray⟩:=by
 induction l with
 | nil=>intro s;simp
 | cons x l ih=>intro s;rw[List.map_cons,List.foldl_cons,ih];simp[ByteArray.push]
def nM (w:À) (g:Nat) (l:List Nat) (t:TypeId) (fr:Nat×Nat) (hg:w.heap[g]?=some (.cells (b8s l) t fr)) (len cap:Nat) (h:len<=l) :
 (convert 78 9 (.slice g len cap)).run prog w=.ok (.string (ofB (l.take len))) w:=by
 rw[run_convert_bytes_string w 78 9 5 _ _ _ underlying78 underlying5 underlying9];have d:(l.take len).length=len:=by simp;omega
 have b:=run_loadCells_list (P:=prog) w g (((l.take len).map λn:Nat=>(n:Int)).map (Value.int .u8)) (λj v hv=>by
  have a:(⟨g,0,none⟩:Addr).add j=⟨g,0+j,none⟩:=by unfold Addr.add;split<;>simp_all
  rw[a,cell_of_row w g _ _ t fr hg];simp only[b8s,List.getElem?_toArray,List.getElem?_map] at hv ⊢;rw[List.getElem?_take] at hv;split at hv
  ·rw[Nat.zero_add,<-hv,Option.map_map];rfl
  simp at hv)
 rw[List.length_map,List.length_map,d] at b;rw[run_bytesToString w _ len cap _ b,rZ];simp[ofB]
def nbuf (pre:List Nat):List Nat:=pre++List.replicate (9-pre) 0
def nbuf_len {pre:List Nat} (h:pre.length<=9):(nbuf pre).length=9:=by unfold nbuf;simp;omega
def nbuf_set {pre:List Nat} (h:pre.length<=8) (x:Nat):(b8s (nbuf pre)).setIfInBounds pre (.int .u8 x)=b8s (nbuf (pre++[x])):=by
 apply Array.ext_getElem?;intro i;obtain⟨k,d⟩:∃k,9-pre.length=k+1:=⟨8-pre,ω⟩
 have a:9-(pre++[x]).length=k:=by simp;omega
 unfold nbuf;rw[d,a,List.replicate_succ];simp only[b8s,Array.getElem?_setIfInBounds,List.getElem?_toArray,List.getElem?_map,List.size_toArray,List.length_map,μ,δ,List.length_replicate];by_cases e:pre=i
 ·subst e;rw[if_pos rfl,if_pos ω,χ,List.getElem?_append_right (υ _)];simp
 rw[if_neg e];congr 1;rcases Nat.lt_or_ge i pre with hi|hi
 ·rw[χ,List.getElem?_append_left hi,List.getElem?_append_left hi]
 rw[χ,List.getElem?_append_right hi,List.getElem?_append_right hi];obtain⟨q,b⟩:∃q,i-pre.length=q+1:=⟨i-pre-1,ω⟩
 rw[b];rfl
def slice9 (g:Nat) {n:Nat} (h:n<=8) (W:À):(Instr.sliceAt 198 (g:Vl) none (some (.int .i64 ((n:Int)+1))) none).run prog W=.ok (.slice g (n+1) 9) W:=by
 have e:prog.arrayLen 198=9:=by kernel_rfl
 have a:prog.elem 198=5:=by kernel_rfl
 rw[run_sliceAt_array_h W 198 g Δ .i64 _ ω (by rw[e];omega),a,sizeOf5 W,e];simp only[Result.andThen_ok,slicedAt];have:((n:Int)+1).toNat=n+1:=ω;rw[this];simp[Addr.add]
def NRel (w:À) (n:Nat) (v0 v4:Value) (wr:À):Prop:=∃(pre:List Nat) (m:Nat),v0=.int .i64 m/\v4=.int .i64 pre/\pre.length<=8/\m<=n/\m<128 ^ (9-pre.length)/\Hid (varN 9 n=pre.map UInt8.ofNat++varN (9-pre) m)/\Hid (Below w w wr)/\Hid (wr.heap[w.heap.size]?=some (.cells (b8s (nbuf pre)) 198 (0,0)))
def z9_lit:#[Value.int IntKind.u8 0,Value.int IntKind.u8 0,Value.int IntKind.u8 0,Value.int IntKind.u8 0,Value.int IntKind.u8 0,Value.int IntKind.u8 0,Value.int IntKind.u8 0,Value.int IntKind.u8 0,Value.int IntKind.u8 0]=b8s (nbuf []):=rfl
def re (n:Int) (h1:-9223372036854775808<=n) (h2:n<=9223372036854775807) (w:À):Calls prog 77 #[n] w λe w'=>e=.returned (.string ⟨(numB n).toArray⟩)/\Below w w w':=by
 by_cases r:n<0
 ·have F:decide (n<0)=true:=decide_eq_true r;have y:Hid (numB n=[]):=by show _=_;unfold numB;rw[if_pos r]
  go_in;go_wp2;go_ret;rw[y.o];exact⟨rfl,belR _⟩
 obtain⟨k,rfl⟩:∃k:Nat,n=(k:Int):=⟨n.toNat,ω⟩
 have F:decide ((k:Int)<0)=false:=decide_eq_false ω;have y:Hid (numB (k:Int)=varN 9 k):=by show _=_;unfold numB;rw[if_neg r];rfl
 have V:k<=9223372036854775807:=ω;go_in;go_wp2_with fail;rw[z9_lit];go_loopw [0,4] (λv0 v4 wr=>NRel w k v0 v4 wr) (λv _ _=>(intOf v).toNat)
 case atStart=>exact⟨[],k,rfl,rfl,by simp,υ _,by show k<128 ^ 9;omega,rfl,ζ1,Hs.new _ _ _⟩
 case round =>
  obtain⟨pre,m,rfl,rfl,H,T,g,z,B,N⟩:=hrel;have j:=N.o;have u:=nbuf_len (pre:=pre) ω;obtain⟨D,t⟩:∃v,(b8s (nbuf pre))[pre.length]?=some v:=⟨_,Array.getElem?_eq_getElem (by rw[b8s_size,u];omega)⟩
  have c1:wr.cell? ⟨w,pre,none⟩=some D:=(cell_of_row wr _ _ _ _ _ j).trans t;have Z:wr.frozen? ⟨w,pre,none⟩=false:=Lib.frozen_of_heap j _
  have a:∀x:Nat,(wr.setCell ⟨w,pre,none⟩ (.int .u8 x)).heap[w.heap.size]?=some (.cells (b8s (nbuf (pre++[x]))) 198 (0,0)):=λx=>by
   rw[heap_setCell_same _ _ _ _ _ _ j,nbuf_set H]
  have l:=η a;have hlt:w.heap.size<wr:=(Array.getElem?_eq_some_iff.1 j).1;by_cases U:128<=m
  ·have E:decide ((m:Int)≥128)=true:=decide_eq_true ω;have Y:bits .and .i64 (m:Int) 127=((m%128:Nat):Int):=by rw[i64_and127];omega
   have X:bits .or .i64 ((m:Int)%128) 128=(m:Int)%128+128:=by have:=i64_or 7 (m%128) 128 ω π ω;simpa using this
   have G:IntKind.u8.wrap ((m%128+128:Nat):Int)=((m%128+128:Nat):Int):=by rw[IntKind.wrap_u8];omega
   have R:pre.length<=7:=by
    rcases Nat.lt_or_ge pre 8 with h|h
    ·omega
    have:pre.length=8:=ω;rw[this] at g;omega
   have L:Hid (varN 9 k=(pre++[m%128+128]).map UInt8.ofNat++varN (9-(pre++[m%128+128]).length) (m/128)):=by
    show _=_;rw[z.o];obtain⟨q,d⟩:∃q,9-pre.length=q+1:=⟨8-pre,ω⟩
    have b:9-(pre++[m%128+128]).length=q:=by simp;omega
    rw[d,b,varN,if_neg ω];simp
   have f:m/128<128 ^ (9-(pre++[m%128+128]).length):=by
    obtain⟨q,d⟩:∃q,9-pre.length=q+1:=⟨8-pre,ω⟩
    have b:9-(pre++[m%128+128]).length=q:=by simp;omega
    rw[b];rw[d,Nat.pow_succ] at g;omega
   have A:=η f;go_wp2_with fail;refine⟨⟨pre++[m%128+128],m/128,by first|rfl|(simp;done)|go_num,by simp,by simp;omega,ω,A,L,?_,?_⟩,by simp[intOf];omega⟩
   ·exact B.setCell (p:=⟨w,_,none⟩) (υ _) _
   have I:(m:Int)%128+128=((m%128+128:Nat):Int):=ω;rw[I];exact l _
  have E:decide ((m:Int)≥128)=false:=decide_eq_false ω;have G:IntKind.u8.wrap (m:Int)=(m:Int):=by rw[IntKind.wrap_u8];omega
  have M:Hid (ofB ((nbuf (pre++[m])).take (pre+1))=⟨(numB (k:Int)).toArray⟩):=by
   show _=_
   have J:(nbuf (pre++[m])).take (pre+1)=pre++[m]:=by
    unfold nbuf;rw[List.take_append_of_le_length Θ];exact List.take_of_length_le Θ
   obtain⟨q,d⟩:∃q,9-pre.length=q+1:=⟨8-pre,ω⟩
   rw[J,y.o,z.o,d,varN,if_pos ω];simp[ofB]
  have i:=λ(h:_)=>nM (wr.setCell ⟨w,pre,none⟩ (.int .u8 m)) w (nbuf (pre++[m])) 198 (0,0) (l m) (pre+1) 9 h;have i:=i (by unfold nbuf;simp);rw[M.o] at i;have O:∀W,(Instr.sliceAt 198 (w:Vl) none (some (.int .i64 ((pre.length:Int)+1))) none).run prog W=.ok (.slice w (pre+1) 9) W:=slice9 _ ω;go_wp2;go_ret;exact⟨rfl,B.setCell (p:=⟨w,_,none⟩) (υ _) _⟩
