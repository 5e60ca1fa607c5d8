/- Core -/
import Derived.Test.YtjohpidklbhmcaaGreatDoorZ10
namespace Go.Proofs.YtjohpidklbhmcaaGreatDoor
set_option linter.all false
open Proofs.Tryz RowKit Maps WideMaps ChangeMaps
set_option maxRecDepth 100000
set_option maxHeartbeats 2000000
def infoT:(prog.info? 40).map (λi=>(i.zero,i.size,i.bytes))=some (some (.agg #[(0:Int),"",()]),3,48):=by kernel_rfl
def bU {w:À} {base size:Nat} {e:TypeId} {v:Value} {n:Nat} {xs:List Value} (h:w.ownsRow base e size v n xs):∃A c,v=.slice A n c:=by
 obtain⟨_,⟨rfl,rfl⟩|⟨g,c,_,rfl,_⟩⟩:=h
 ·exact⟨_,_,rfl⟩
 exact⟨_,_,rfl⟩
variable {cs:Array Value}
def td {w:À} {g:Nat} (h:Hs w g 40 cs):∀j u,cs.toList[j]?=some u->w.cell? ((⟨g,0,none⟩:Addr).add j)=some u:=by
 intro j u a
 have e:(⟨g,0,none⟩:Addr).add j=⟨g,j,none⟩:=by
  unfold Addr.add;split
  ·rename_i h;simp[h]
  simp
 rw[e,h.cell j];simpa using a
def kp (w:À) (g i:Nat) (v:Value):w.grownBy (w.setCell ⟨g,i,none⟩ v) (some g):=
 ⟨rfl,rfl,rfl,by simp[World.setCell],λk _ hk=>Below.heap_setCell _ _ _ _ (λe=>hk (by rw[e]))⟩
variable {row:Option Nat}
def um {w a b:À} (h:Below w w a) (hg:a.grownBy b row) (hr:∀k,row=some k->w.heap.size<=k):Below w w b:=
 ⟨hg.os.trans h.os,hg.tape.trans h.tape,hg.output.trans h.output,ψ h.size hg.size,λi hi=>(hg.block i (ρ hi h.size) (λe=>by have:=hr i e.symm;omega)).trans (h.block i hi)⟩
def Hs.grown {w b:À} {g:Nat} {ty:TypeId} (h:Hs w g ty cs) (hg:w.grownBy b row) (hr:row≠some g):Hs b g ty cs:=(hg.block g h.lt (λe=>hr e.symm)).trans h
def clo_fun {c:CB} {p:Pg} {mb n:Nat} (IH:xG c p mb n) (hF:aO p n) (hFi:Fine p) {own:Nat->Prop} {sb kc:Nat} {sc:Sc} {op x m:Int} {s:Ê} {A:Option Addr} {kids:List Ex} {cap:Nat} {wv:Value} {want:Option Ty} {w:À}
 (hd:∀k∈kids,Ex.deep k<=n) (he:Env w own mb sb c p sc) (ho:ScOk p sc) (hk:im own w kc) (hkc:w.cell? kc=some (c.b:Vl)) (hx:ExsR w (im own w) (.slice A kids.length cap) kids) (hw:WantR w (im own w) wv want) (hwo:aL want) (hix:i64 x) (hss:s.size<=maxLen) (hpl:∀f∈p.funs,f.params.length<=1000000) :
 Calls prog 185 #[sb,ex5 op x m s A kids.length cap,wv,kc] w (ResF w own mb sb sc (fFun p (aa p n) sc x kids)):=by
 obtain⟨HP,ek,HD,HF,eo,ej,HO,HW⟩:=zd8 (Pre.start (op:=op) (x:=x) (m:=m) (s:=s) he hk hkc hx hw) IH hd hF hFi ho he.mb.1 hwo;obtain⟨fz,fy⟩:=zd2 hix hss;have fq:=he.mb.2;have fs:kc<w.heap.size:=hk.1;have HV:Hid (fFun p (aa p n) sc x kids=if az x p.funs.length then (match p.funs[x.toNat]? with|none=>none|some f=>if kids.length<=f.params.length then (if bl (aa p n) sc kids (f.params.take kids.length) then some (.mk 8 nm0 ((f.params.drop kids.length).map (·.type)++[f.result])) else none) else none) else none):=rfl;obtain⟨B,ai⟩:=γ ((w.alloc (.cells #[.int .i64 op,.int .i64 x,.int .i64 m,.string s,.slice A kids.length cap] 43)).alloc (.cells #[.int .i64 0,"",.slice none 0 0] 40))
 have t:Hid (Pre B (plus own (w+1)) mb sb w (w+1) kc c p sc op x m s A kids cap wv want):=by rw[ai];exact HP.o
 have a4:Hid (Stm mb w B):=by rw[ai];exact Stm.of_below ζ2
 have fo:w.heap.size+2<=B.heap.size:=by rw[ai];simp
 have d9:=η ai;have dx:kc≠mb:=λe=>hk.2 (by rw[e];exact he.mb.1);clear hd he ho hk hkc hx hw hwo IH HP ai hF hFi hix hss;go_in;go_upto_region 1 with fail;rw[<-d9.o];obtain⟨i0,hi,ca,b9,b8⟩:=info_parts infoT;have eg:=η hpl;clear hpl;obtain⟨Af,qf,ef⟩:=t.o.env.chk.funs.form;have c2:=t.o.env.chk.c2;rw[ef] at c2;have em:Hid (SlR B (im (plus own (w+1)) B) 11 (FnR B (im (plus own (w+1)) B)) (.slice Af p.funs.length qf) p.funs):=by rw[<-ef];exact t.o.env.chk.funs
 have c1:=t.o.kc;have b1:=t.o.bx.c 1;have b4:=t.o.bx.c 4;clear ef;by_cases h5:az x p.funs.length=true
 ·have ds:0<=x/\x<p.funs.length:=by simpa[az] using h5
  obtain⟨y,rfl⟩:∃y:Nat,x=(y:Int):=⟨x.toNat,ω⟩
  have a2:y<p.funs.length:=ω;have fi:(0:Int)<=(y:Int):=ω;have fh:(y:Int)<(p.funs.length:Int):=ω;have cg:Hid (fFun p (aa p n) sc (y:Int) kids=if kids.length<=p.funs[y].params.length then (if bl (aa p n) sc kids (p.funs[y].params.take kids.length) then some (.mk 8 nm0 ((p.funs[y].params.drop kids.length).map (·.type)++[p.funs[y].result])) else none) else none):=by show _=_;rw[HV.o,if_pos h5,Int.toNat_natCast,ξ a2]
  have H5:=η h5;clear h5 ds;obtain⟨g,fg,A6,H,k6,s6,a6,B6,L,o6,x6,m6,r6,d2,D6,d6,rfl,hg,p0,p1,p2,p3,p4,p5,p6,p7,p8,p9,a7,dt,cz,c3,bd,ba,c5⟩:=jd em.o a2;obtain⟨df,dc⟩:=zd2 bd ba;have fp:p.funs[y].params.length<=1000000:=eg.o _ (ν a2);clear dt cz c3 bd ba c5;by_cases h6:kids.length<=p.funs[y].params.length
  ·have ea:Hid (fFun p (aa p n) sc (y:Int) kids=if bl (aa p n) sc kids (p.funs[y].params.take kids.length) then some (.mk 8 nm0 ((p.funs[y].params.drop kids.length).map (·.type)++[p.funs[y].result])) else none):=by show _=_;rw[cg.o,if_pos h6]
   go_quiet ((go_at_call 162;exact Calls.quiet_of_same ((ay _ _ _).mono (λe w' h=>by rw[H5.o] at h;exact⟨h.1,h.2.symm⟩))));go_wp2_with fail;have q:Below B B (B.drewN nq):=bM nq (belR B);obtain⟨W1,bg⟩:=γ (B.drewN nq)
   rw[<-bg] at q;rw[<-bg];obtain⟨cj,eh,en,ed⟩:=zd4 q (t.o.bel q) (FldsR.to df.o (sof (own:=(plus own (w+1))) q).sub) (dc.o.to (sof (own:=(plus own (w+1))) q).sub);have e0:B.heap.size<=W1.heap.size:=q.size;replace c2:=belW (belC q c2);replace c1:=belW (belC q c1);replace b1:=belW (belC q b1);clear b4;replace p0:=belW (belC q p0);replace p1:=belW (belC q p1);replace p2:=belW (belC q p2);replace p3:=belW (belC q p3);replace p4:=belW (belC q p4);replace p5:=belW (belC q p5);replace p6:=belW (belC q p6);replace p7:=belW (belC q p7);replace p8:=belW (belC q p8);replace p9:=belW (belC q p9);replace a7:=belW (belC q a7);clear bg q;go_cut [9] (λv1 W=>Hid (Below W1 W1 W/\∃J,v1=.pointer (some ⟨J,0,none⟩)/\W1.heap.size<=J/\Hs W J 45 #[.string p.funs[y].name,.slice A6 p.funs[y].params.length H,.int .i64 k6,.string s6,.slice B6 a6.length L,.int .i64 p.funs[y].slots,.int .i64 o6,.int .i64 x6,.int .i64 m6,.string r6,.slice D6 d2.length d6]))
   case first =>
    refine tkB (λW=>Below W1 W1 W) (ad _) (λhHeld=>?_);refine θ ?_;refine tkE 9 (λK hK=>?_);go_simp;refine tkR hK ?_ (λhHeld=>?_)
    ·exact belA ι _
    clear hK K;refine tkE 10 (λK hK=>?_);go_simp;refine tkR hK ?_ (λhHeld=>?_)
    ·first|exact belA (ad _) _|assumption
    clear hK K;refine tkD ?_;go_wp2;go_meet;exact⟨belA (ad _) _,_,rfl,υ _,Hs.new _ _ _⟩
   case rest =>
   obtain⟨R,J,rfl,fv,bb⟩:=hcut.o;obtain⟨a,rfl⟩:=γ wc
   obtain⟨B3,bj,ax,db⟩:=zd4 R (eh.o.bel R) (FldsR.to en.o (sof (own:=(plus own (w+1))) R).sub) (ed.o.to (sof (own:=(plus own (w+1))) R).sub);have fn:W1.heap.size<=a.heap.size:=R.size;have ak:=η bb;have e2:J<a.heap.size:=bb.lt;clear hcut R bb p0 p1 p2 p3 p4 p5 p6 p7 p8 p9 a7 c1 c2 b1;obtain⟨d,a3⟩:=γ (p.funs[y].params.drop kids.length)
   have bn:Hid (FldsR a (im (plus own (w+1)) a) (.slice (fd A6 H kids.length 4) d.length (H-kids.length)) d):=by rw[a3];exact SlR.from ax.o kids.length h6
   have bc:d.length=p.funs[y].params.length-kids.length:=by rw[a3,List.length_drop]
   obtain⟨A1,bh⟩:=γ (fd A6 H kids.length 4)
   obtain⟨cp,be⟩:=γ (H-kids.length)
   have cb:∀W,(Instr.slice 37 (.slice A6 p.funs[y].params.length H) (some (.int .i64 kids.length)) none none).run prog W=.ok (.slice A1 d.length cp) W:=λW=>by
    rw[bh,be,bc];exact tL W _ _ _ _ h6
   rw[<-bh,<-be] at bn;have fu:d.length<=1000000:=ω;have de:=η a3;clear bh be a3 bc;have f1:=ak.o.c 1;have b4:=bj.o.bx.c 4;have fr:w.heap.size<a.heap.size:=ω;go_upto_region 6 with fail;have ci:Hid (Below a a (a.alloc (.cells #[.int .i64 8,"",.slice none 0 0] 40))):=belA (belR _) _;have ch:Hid (Hs (a.alloc (.cells #[.int .i64 8,"",.slice none 0 0] 40)) a 40 (ty3 8 ⟨#[]⟩ none 0 0)):=Hs.new _ _ _;obtain⟨W4,bf⟩:=γ (a.alloc (.cells #[.int .i64 8,"",.slice none 0 0] 40))
   rw[<-bf] at ci ch;rw[<-bf];clear bf f1 b4 cb;go_loopw [58] (λi wr=>∃(j:Nat) (Ar:Option Addr) (cr:Nat) (xs:List Value),j<=d.length/\i=.int .i64 j/\Hid (Below a a wr)/\Hid (Hs wr a 40 (ty3 8 ⟨#[]⟩ Ar j cr))/\Hid (wr.ownsRow (a+1) 40 3 (.slice Ar j cr) j xs)/\Hid (RowT a (im (plus own (w+1)) a) xs ((d.take j).map (·.type)))) (λi _=>d.length-(intOf i).toNat)
   case atStart=>exact⟨0,none,0,[],ω,rfl,ci.o,ch.o,World.ownsRow_nil _ _ _ _,RowT.nil _ _⟩
   case round =>
    obtain⟨j,Ar,cr,xs,hj,rfl,O,HN,bk,bi⟩:=hrel;have fk:a.heap.size<wr.heap.size:=HN.o.lt;obtain⟨z0,z1,z2,q0,q1,q2⟩:=HN.o.facts;by_cases hlt:j<d.length
    ·have fj:(0:Int)<=(j:Int):=ω;have j1:(j:Int)<(d.length:Int):=ω;obtain⟨g1,cy,V,U,Z,C1,Y,rfl,ft,e1,v0,v1,v2,v3,dv,_⟩:=dw (FldsR.to bn.o (sof (own:=(plus own (w+1))) O.o).sub) hlt;obtain⟨dz,bw,dq,dp,d7,eq,d5,ce,_,d4,dk,ah,ag,af,_,cc⟩:=dw bn.o hlt;obtain⟨rfl,rfl⟩:g1=dz/\cy=bw:=by simpa using ce
     replace ah:=belC O.o ah;replace ag:=belC O.o ag;replace af:=belC O.o af;rw[v1] at ah;rw[v2] at ag;rw[v3] at af;obtain rfl:V=dq:=by simpa using ah
     obtain rfl:U=dp:=by simpa using ag
     have e3:Value.slice C1 Z.length Y=Value.slice eq d7.length d5:=by simpa using af
     have ee:Hid (TyR a (im (plus own (w+1)) a) [.int .i64 V,.string U,.slice C1 Z.length Y] d[j].type):=by rw[e3];exact cc
     clear cc dk ah ag af e1 d4 ce e3 dv;have F:=η ((bk.o.alloc (.cells #[.string d[j].name,.int .i64 V,.string U,.slice C1 Z.length Y] 118)).alloc (.cells #[.int .i64 V,.string U,.slice C1 Z.length Y] 40))
     go_wp2_with (first
      | (at_builtin;refine wpList_append_own _ rfl (.tmp 63) (.tmp 66) 38 rfl (a+1) 40 i0 (.agg #[.int .i64 0,"",.slice none 0 0]) 3 48 underlying38 hi ca b9 b8 rfl π (.slice Ar j cr) j xs rfl F.o (wr+1:Nat) 1 1 [.int .i64 V,.string U,.slice C1 Z.length Y] rfl rfl (td (cs:=#[.int .i64 V,.string U,.slice C1 Z.length Y]) (Hs.new' _ _ _)) (by intro u hu;simp at hu;rcases hu with rfl|rfl|rfl<;>rfl) Ξ ω Φ ?_;intro vv G z l X;obtain⟨v,r,rfl⟩:=bU z;have T:=η (Hs.grown ((HN.o.alloc (.cells #[.string d[j].name,.int .i64 V,.string U,.slice C1 Z.length Y] 118)).alloc (.cells #[.int .i64 V,.string U,.slice C1 Z.length Y] 40)) l (λe=>by have:=(F.o.lt _ e).1;omega));have E:=η z;have a5:=η l;clear z l X;obtain⟨y0,y1,y2,t0,t1,t2⟩:=T.o.facts))
     have B5:Below a a G:=um (belA (belA O.o _) _) a5.o (λk e=>by have:=(F.o.lt k e).1;omega);refine⟨⟨j+1,v,r,xs++[.int .i64 V,.string U,.slice C1 Z.length Y],ω,by go_num,um B5 (kp G a 2 _) (λk e=>by cases e;exact υ _),by simpa[Hid] using T.o.put 2 (.slice v (j+1) r),η (E.o.kept (kp G a 2 (.slice v (j+1) r)) (.inr (λe=>by have:=(E.o.lt _ e).1;omega))),?_⟩,by simp[intOf];omega⟩;show RowT _ _ _ _;rw[show (d.take (j+1)).map (·.type)=(d.take j).map (·.type)++[d[j].type] by rw[List.take_succ_eq_append_getElem hlt,List.map_append];rfl];exact bi.o.snoc ee.o
    have u1:=zF j d.length;obtain rfl:j=d.length:=ω;have da:Hid (RowT a (im (plus own (w+1)) a) xs (d.map (·.type))):=by have:=bi.o;rw[List.take_length] at this;exact this
    have F:=η (bk.o.alloc (.cells #[.int .i64 k6,.string s6,.slice B6 a6.length L] 40));have f2:wr.cell? ⟨J,2,none⟩=some (.int .i64 k6):=belC O.o (ak.o.cell 2);have f3:wr.cell? ⟨J,3,none⟩=some (.string s6):=belC O.o (ak.o.cell 3);have f4:wr.cell? ⟨J,4,none⟩=some (.slice B6 a6.length L):=belC O.o (ak.o.cell 4)
    go_wp2_with (first
     | (at_builtin;refine wpList_append_own _ rfl (.tmp 71) (.tmp 74) 38 rfl (a+1) 40 i0 (.agg #[.int .i64 0,"",.slice none 0 0]) 3 48 underlying38 hi ca b9 b8 rfl π _ _ _ rfl F.o wr 1 1 [.int .i64 k6,.string s6,.slice B6 a6.length L] rfl rfl (td (cs:=#[.int .i64 k6,.string s6,.slice B6 a6.length L]) (Hs.new _ _ _)) (by intro u hu;simp at hu;rcases hu with rfl|rfl|rfl<;>rfl) Ξ ω Φ ?_;intro vv G z l X;obtain⟨v,r,rfl⟩:=bU z;have T:=η (Hs.grown (HN.o.alloc (.cells #[.int .i64 k6,.string s6,.slice B6 a6.length L] 40)) l (λe=>by have:=(F.o.lt _ e).1;omega));have E:=η z;have a5:=η l;clear z l X;obtain⟨y0,y1,y2,t0,t1,t2⟩:=T.o.facts))
    have B5:Below a a G:=um (belA O.o _) a5.o (λk e=>by have:=(F.o.lt k e).1;omega);have N:Hid (Below a a (G.setCell ⟨a,2,none⟩ (.slice v (d.length+1) r))):=um B5 (kp G a 2 _) (λk e=>by cases e;exact υ _);have aj:Hid (Hs (G.setCell ⟨a,2,none⟩ (.slice v (d.length+1) r)) a 40 (ty3 8 ⟨#[]⟩ v (d.length+1) r)):=by simpa[Hid] using T.o.put 2 (.slice v (d.length+1) r)
    have ac:Hid ((G.setCell ⟨a,2,none⟩ (.slice v (d.length+1) r)).ownsRow (a+1) 40 3 (.slice v (d.length+1) r) (d.length+1) (xs++[.int .i64 k6,.string s6,.slice B6 a6.length L])):=E.o.kept (kp G a 2 _) (.inr (λe=>by have:=(E.o.lt _ e).1;omega));obtain⟨D,a8⟩:=γ (G.setCell ⟨a,2,none⟩ (.slice v (d.length+1) r))
    rw[<-a8] at N aj ac;rw[<-a8];have ec:Hid (TysR D (im (plus own (w+1)) D) (.slice v (d.length+1) r) (d.map (·.type)++[p.funs[y].result])):=(da.o.snoc db.o).tys (by have:=ac.o;simpa using this) (sof (own:=(plus own (w+1))) N.o).sub (λg hg=>⟨(ac.o.lt g hg).2,λx=>by have:=(ac.o.lt g hg).1;have:=bj.o.env.ol g x;omega⟩);have M:=η (bj.o.bel N.o);clear a8 y0 y1 y2 t0 t1 t2 z0 z1 z2 q0 q1 q2 f2 f3 f4 T E a5 B5 F HN bk O bi
    have cd:FldsR a (im (plus own (w+1)) a) (.slice A6 kids.length H) (p.funs[y].params.take kids.length):=by
     have:=SlR.upto ax.o kids.length h6;rwa [List.length_take,Nat.min_eq_left h6] at this
    have el:=η (FldsR.to cd (sof (own:=(plus own (w+1))) N.o).sub);have du:p.funs[y].params.length<=H:=ax.o.cap;have cb:∀W,(Instr.slice 37 (.slice A6 p.funs[y].params.length H) none (some (.int .i64 kids.length)) none).run prog W=.ok (.slice A6 kids.length H) W:=λW=>tK W _ _ _ _ h6 du;clear cd;have f1:=aD (mb:=mb) (rb:=w+1) (show D.cell? ⟨J,1,none⟩=some (.slice A6 p.funs[y].params.length H) from belC N.o (ak.o.cell 1)) (by show J≠mb;omega) (by show J≠w.heap.size+1;omega);have n0:=aD (mb:=mb) (rb:=w+1) (aj.o.c 0) (by show a.heap.size≠mb;omega) (by show a.heap.size≠w.heap.size+1;omega);have n1:=aD (mb:=mb) (rb:=w+1) (aj.o.c 1) (by show a.heap.size≠mb;omega) (by show a.heap.size≠w.heap.size+1;omega);have n2:=aD (mb:=mb) (rb:=w+1) (aj.o.c 2) (by show a.heap.size≠mb;omega) (by show a.heap.size≠w.heap.size+1;omega);have c1:=aD (mb:=mb) (rb:=w+1) M.o.kc dx Φ;have b4:=aD (mb:=mb) (rb:=w+1) (M.o.bx.c 4) Φ Θ
    cases h6':bl (aa p n) sc kids (p.funs[y].params.take kids.length)
    all_goals
     have H6:=η h6';clear h6';refine tkB (λW=>Stp (plus (only mb) (w+1)) D W) Λ (λhHeld=>?_);refine θ ?_;refine tkE 11 (λK hK=>?_);go_simp;(refine (fD ek.o HD.o (M.o.env.bel (ad _)) ej.o (ExsR.to M.o.kids (sof (ad _)).sub) (FldsR.to el.o (sof (ad _)).sub) (λf hf=>(eo.o.funs _ (ν a2)).1 f (List.mem_of_mem_take hf))).mono ?_;rw[H6.o];rintro e5 w7 ⟨rfl,I,c0⟩;obtain⟨z0,z1,z2,q0,q1,q2⟩:=(M.o.rs.stp ((smDr mb D).trans I) Ω).facts);refine tkR hK ?_ (λhHeld=>?_)
     ·exact hHeld.trans (I.s.wk (λ_ h=>.inl h))
     clear hK K;refine tkE 12 (λK hK=>?_);go_simp;refine tkR hK ?_ (λhHeld=>?_)
     ·exact stpR ι _ _ _ _ _
     clear hK K;refine tkQ 13 ?_;refine tkD ?_;clear hHeld;go_wp2_with fail;rw[ea.o,H6.o];first
     | exact bodyPost_ret (am results185 _ _ (w+1) _ _ _ _ _ rfl ((M.o.rs.stp ((smDr mb D).trans I) Ω).set3 _ _ _ _ _)) rfl (aB (((a4.o.trans (Stm.of_below (bel cj.o B3.o))).trans (Stm.of_below N.o)).trans ((smDr _ _).trans I)) ω ω)
     | (rw[<-de.o];exact bodyPost_ret (am results185 _ _ (w+1) _ _ _ _ _ rfl ((M.o.rs.stp ((smDr mb D).trans I) Ω).set3 _ _ _ _ _)) rfl (bo (((a4.o.trans (Stm.of_below (bel cj.o B3.o))).trans (Stm.of_below N.o)).trans ((smDr _ _).trans I)) ω ω HO.o (TyR.of Ψ π (TysR.to ec.o (((smDr mb D).trans I).subO (.inl HO.o)))) (c0 Υ)))
  have HX:Hid (fFun p (aa p n) sc (y:Int) kids=none):=by show _=_;rw[cg.o,if_neg h6]
  go_quiet ((go_at_call 162;exact Calls.quiet_of_same ((ay _ _ _).mono (λe w' h=>by rw[H5.o] at h;exact⟨h.1,h.2.symm⟩))));have S1:=η (Stm.of_below (mb:=mb) (bM nq (belR B)));obtain⟨z0,z1,z2,q0,q1,q2⟩:=(t.o.rs.stp S1.o Ω).facts;go_wp2;rw[HX.o];exact bodyPost_ret (am results185 _ _ (w+1) _ _ _ _ _ rfl ((t.o.rs.stp S1.o Ω).set3 _ _ _ _ _)) rfl (aB (a4.o.trans S1.o) ω ω)
 have cf:az x p.funs.length=false:=by simpa using h5
 have HX:Hid (fFun p (aa p n) sc x kids=none):=by show _=_;rw[HV.o,if_neg h5]
 have H5:=η cf;clear h5 cf;go_quiet ((go_at_call 162;exact Calls.quiet_of_same ((ay _ _ _).mono (λe w' h=>by rw[H5.o] at h;exact⟨h.1,h.2.symm⟩))));have S1:=η (Stm.of_below (mb:=mb) (bM nq (belR B)));obtain⟨z0,z1,z2,q0,q1,q2⟩:=(t.o.rs.stp S1.o Ω).facts;go_wp2;rw[HX.o];exact bodyPost_ret (am results185 _ _ (w+1) _ _ _ _ _ rfl ((t.o.rs.stp S1.o Ω).set3 _ _ _ _ _)) rfl (aB (a4.o.trans S1.o) ω ω)
