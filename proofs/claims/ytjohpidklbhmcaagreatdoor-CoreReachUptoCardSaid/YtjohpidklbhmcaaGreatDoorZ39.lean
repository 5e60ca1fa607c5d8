/- Core -/
import Derived.Test.YtjohpidklbhmcaaGreatDoorZ38
import Derived.Laws.EntriesVeiled
namespace Go.Proofs.YtjohpidklbhmcaaGreatDoor
set_option linter.all false
open Go.Proofs.Tryz
set_option maxRecDepth 100000
set_option maxHeartbeats 2000000
open Go.RowKit Go.Maps Go.WideMaps Go.ChangeMaps
def mf (l:List (List UInt8)) (j:Nat) (s:List UInt8):Int:=match cB l j s with|none=>-1|some i=>(i:Nat)
variable {l:List (List UInt8)} {j:Nat}
def wG {s:List UInt8} (h:l[j]?=some s):mf l (j+1) s=(j:Nat):=by unfold mf;rw[cB,if_pos h]
def lastI_no {s:List UInt8} (h:¬l[j]?=some s):mf l (j+1) s=mf l j s:=by unfold mf;rw[cB,if_neg h]
def vu {p:Pg} (h:j<p.actors):p.acNames[j]?=some p.actors[j].name.data.toList:=by
 unfold Pg.acNames;rw[List.getElem?_map,ξ h];rfl
def DigSaid (p:Pg) (M:Nat) (s:ByteArray) (w:World) (e:Ending) (w':World):Prop:=e=.returned (.agg (ShaT.u8s (digP p M s.data.toList)))/\Below w w w'
def xm (p:Pg) (a:Ac):je p a≠[]:=by
 intro h;have:=congrArg List.length h;unfold je wAc at this;simp only[μ,List.length_nil] at this;have b:=(aS a.name).2;omega
def oS {p:Pg} {M:Nat} {A0 A1 A2 A3:Option Addr} {q0 q1 q2 q3:Nat} {w:World} (h:PgAt w A0 A1 A2 A3 q0 q1 q2 q3 p) (hf:Fit p M) (hR:ShaT.Rounds w) (hd:aW p M=true->DigOk p) {s:ByteArray} (hs:s.size<=maxLen) (hl:aW p M=true->∀a∈p.actors,(je p a).length<=1000000) :
 Calls prog 12 #[.agg #[.slice A0 p.types.length q0,.slice A1 p.effects.length q1,.slice A2 p.funs.length q2,.slice A3 p.actors.length q3],.string s] w (DigSaid p M s w):=by
 have la:=h.a.le9;have lt:=h.t.le9;have lf:=h.f.le9;obtain⟨W1,ax⟩:=γ ((w.alloc (.cells #[.slice A0 p.types.length q0,.slice A1 p.effects.length q1,.slice A2 p.funs.length q2,.slice A3 p.actors.length q3] 27)).alloc (.cells ShaT.z32 34))
 have B1:Below w w W1:=by rw[ax];exact ζ2
 have d4:Hid (Hs W1 w 27 #[.slice A0 p.types.length q0,.slice A1 p.effects.length q1,.slice A2 p.funs.length q2,.slice A3 p.actors.length q3]):=by rw[ax];exact fu (Hs.new _ _ _) _
 have fb:Hid (Hs W1 (w+1) 34 ShaT.z32):=by rw[ax];exact η (by have:=Hs.new (w.alloc (.cells #[.slice A0 p.types.length q0,.slice A1 p.effects.length q1,.slice A2 p.funs.length q2,.slice A3 p.actors.length q3] 27)) 34 ShaT.z32;simpa using this)
 obtain⟨PB,fy,ds,HF,HR,HD,HL,gx⟩:=zd8 (h.bel B1) B1 ax hf (hR.mono B1) hd hl hs;have b3:=d4.o.c 3;clear h hf hR hd hl hs ax B1;have gq:=@run_makeMap prog;go_enter func12,ntmps12;go_upto_region 1 with fail;rw[ShaT.z32_lit,<-ds.o];clear ds;go_wp2_with fail;clear b3;go_loopw [21,5] (λi v wr=>∃j:Nat,j<=p.actors.length/\i=.int .i64 j/\v=.int .i64 (mf p.acNames j s.data.toList)/\Hid (Below W1 W1 wr)) (λi _ _=>p.actors.length-(intOf i).toNat)
 case atStart=>exact⟨0,ω,rfl,rfl,belR _⟩
 case round =>
  obtain⟨j,hj,rfl,rfl,HB⟩:=hrel;by_cases hlt:j<p.actors.length
  ·have u1:=zT j p.actors.length;have i1:(0:Int)<=(j:Int):=ω;have i2:(j:Int)<(p.actors.length:Int):=ω;obtain⟨g,bu,B0,c0,B1,c1,B2,c2,rfl,-,p0,p1,p2,p3,p4,p5,p6,U,-⟩:=fR (PB.o.bel HB.o).a hlt;clear U;by_cases hn:p.acNames[j]?=some s.data.toList
   ·have ab:=hn;rw[vu hlt] at ab
    have t1:(ByteArray.toList p.actors[j].name==ByteArray.toList s)=true:=by
     have e:p.actors[j].name=s:=by injection ab with e;exact ByteArray.ext (Array.toList_inj.1 e)
     rw[e];exact beq_self_eq_true _
    have HN:=η (wG hn);clear hn ab;go_wp2_with fail;exact⟨⟨j+1,ω,by go_num,by rw[HN.o],bel HB.o ζ1⟩,by simp[intOf];omega⟩
   have t1:(ByteArray.toList p.actors[j].name==ByteArray.toList s)=false:=by
    rw[beq_eq_false_iff_ne];intro e;refine hn ?_;rw[vu hlt];rw[ByteArray.toList_eq,ByteArray.toList_eq] at e;rw[e]
   have HN:=η (lastI_no hn);clear hn;go_wp2_with fail;exact⟨⟨j+1,ω,by go_num,by rw[HN.o],bel HB.o ζ1⟩,by simp[intOf];omega⟩
  obtain rfl:j=p.actors.length:=ω;have u1:decide ((p.actors.length:Int)<(p.actors.length:Int))=false:=decide_eq_false ω;obtain⟨ah,ay,bl,bq,dx⟩:=zd5 (aH d4.o HB.o) (aH fb.o HB.o) (PB.o.bel HB.o) (bel fy.o HB.o) (HR.o.mono HB.o);have l:p.acNames.length=p.actors.length:=by unfold Pg.acNames;simp
  cases hx:idxP p.acNames s.data.toList with
  | none =>
   have hL:mf p.acNames p.actors.length s.data.toList=-1:=by unfold mf;rw[<-l,show cB p.acNames p.acNames.length s.data.toList=none from hx]
   have HX:Hid (digP p M s.data.toList=List.replicate 32 0):=by show _=_;unfold digP;rw[hx]
   rw[hL];clear hx hL l;have A:Hid (∀hh:True,(wr.setRow (w+1) ShaT.z32).heap[w.heap.size+1]?=some (.cells ShaT.z32 34)/\Below w w (wr.setRow (w+1) ShaT.z32)):=λ_=>⟨setRow_heap _ _ _ _ _ _ ay.o,bq.o.trans ⟨rfl,rfl,rfl,by simp,λk hk=>setRow_other _ _ _ _ ω⟩⟩
   go_wp2_with (refine wpList_store_row rfl 34 _ _ rfl (w+1) ShaT.z32 rfl rfl 34 ShaT.z32 ay.o ShaT.info23 rfl (ShaT.u8s_one _) ?_);exact bodyPost_ret (results_cell_row results12 _ _ (w+1) 34 ShaT.z32 _ _ rfl (A.o trivial).1 underlying34 rfl ShaT.info23) rfl ⟨by rw[HX.o];rfl,(A.o trivial).2⟩
  | some at_ =>
   have hL:mf p.acNames p.actors.length s.data.toList=((at_:Nat):Int):=by unfold mf;rw[<-l,show cB p.acNames p.acNames.length s.data.toList=some at_ from hx]
   have b8:at_<p.actors.length:=by rw[<-l];exact (cg _ _ _ _ hx).1
   have cm:=η hx;rw[hL];have a0:decide ((at_:Int)<0)=false:=decide_eq_false ω;have b0:=ah.o.c 0;have b1:=ah.o.c 1;have b2:=ah.o.c 2;have b3:=ah.o.c 3;clear hx hL l
   cases hri:aW p M with
   | false =>
    have HX:Hid (digP p M s.data.toList=List.replicate 32 0):=by show _=_;unfold digP;rw[cm.o,hri];rfl
    have Y:=η hri;clear hri;go_upto_region 9 with (go_at_call 11;refine (dl (bl.o.bel (belR _)) HF.o).mono ?_;rw[Y.o];rintro e2 b ⟨rfl,r⟩);obtain⟨I,bc⟩:=zd2 (aH ay.o r) (bel bq.o r);clear r b0 b1 b2 b3;have A:Hid (∀hh:True,(b.setRow (w+1) ShaT.z32).heap[w.heap.size+1]?=some (.cells ShaT.z32 34)/\Below w w (b.setRow (w+1) ShaT.z32)):=λ_=>⟨setRow_heap _ _ _ _ _ _ I.o,bc.o.trans ⟨rfl,rfl,rfl,by simp,λk hk=>setRow_other _ _ _ _ ω⟩⟩
    go_wp2_with (refine wpList_store_row rfl 34 _ _ rfl (w+1) ShaT.z32 rfl rfl 34 ShaT.z32 I.o ShaT.info23 rfl (ShaT.u8s_one _) ?_);exact bodyPost_ret (results_cell_row results12 _ _ (w+1) 34 ShaT.z32 _ _ rfl (A.o trivial).1 underlying34 rfl ShaT.info23) rfl ⟨by rw[HX.o];rfl,(A.o trivial).2⟩
   | true =>
    have Y:=η hri;clear hri;go_upto_region 10 with (go_at_call 11;refine (dl (bl.o.bel (belR _)) HF.o).mono ?_;rw[Y.o];rintro e2 b ⟨rfl,r⟩);obtain⟨I,bb,ch,bc,cf⟩:=zd5 (aH ay.o r) (aH ah.o r) (bl.o.bel r) (bel bq.o r) (dx.o.mono r);clear r b0 b1 b2 b3 ay ah bl bq dx HB;go_upto_region 11 with fail;obtain⟨W3,aw⟩:=γ ((b.alloc (.map #[] 0)).alloc (.cells #[.map (some b)] 101))
    rw[<-aw];have B3:Below b b W3:=by rw[aw];exact ζ2
    have e8:Hid (Hs W3 (b+1) 101 #[.map (some b)]):=by rw[aw];exact η (by have:=Hs.new (b.alloc (.map #[] 0)) 101 #[.map (some b)];simpa using this)
    have fd:Hid (SMap W3 b 0 (idxF p.tyNames 0)):=by rw[aw];exact ((MapIs.made prog 9 Lit.string b).alloc _).congr λs=>rfl
    have fx:=η B3;have b0:W3.cell? w=some (.slice A0 p.types.length q0):=(aH bb.o B3).cell 0;have fk:Hid (p.tyNames.length=p.types.length):=by show _=_;unfold Pg.tyNames;simp
    clear aw B3 a0;go_wp2_with fail;clear b0;go_loopw [44] (λi wr=>∃j:Nat,j<=p.types.length/\i=.int .i64 j/\Hid (Below b b wr)/\Hid (Hs wr (b+1) 101 #[.map (some b)])/\Hid (∃n,n<=j/\SMap wr b n (idxF p.tyNames j))) (λi _=>p.types.length-(intOf i).toNat)
    case atStart=>exact⟨0,ω,rfl,fx.o,e8.o,0,υ _,fd.o⟩
    case round =>
     obtain⟨j,hj,rfl,a2,X,bn⟩:=hrel;by_cases hlt:j<p.types.length
     ·have u1:=zT j p.types.length;have i1:(0:Int)<=(j:Int):=ω;have i2:(j:Int)<(p.types.length:Int):=ω;obtain⟨n,hn,de⟩:=bn.o;obtain⟨g,bu,B1,c1,rfl,-,p0,p1,p2,-,dd,-⟩:=fF (ch.o.bel a2.o).t hlt;have ab:p.tyNames[j]?=some p.types[j].name.data.toList:=by unfold Pg.tyNames;rw[List.getElem?_map,ξ hlt];rfl
      obtain⟨cj,ff,fj,fi⟩:=zd4 (kj ab) (de.alloc (.cells #[.string p.types[j].name,.bool p.types[j].record,.slice B1 p.types[j].ctors.length c1] 48)) hn dd;have t0:=X.o.c 0;have t1:=celA t0;have fm:Hid (n<maxLen):=by show _<_;unfold maxLen;omega
      have dt:=η (fu X.o (.cells #[.string p.types[j].name,.bool p.types[j].record,.slice B1 p.types[j].ctors.length c1] 48));clear de ab hn dd bn;go_upto_region 15 with (refine ak _ rfl _ _ _ 101 (.inl rfl) 3 (fL underlying9) underlying101 b n (idxF p.tyNames j) rfl ff.o fm.o p.types[j].name.data.toList (.string p.types[j].name) (.int .i64 j) rfl rfl (keyOf_string_mk underlying9 fi.o) ?_;intro w4 cb dm;rw[cj.o] at cb);have bo:Hid (∃n',n'<=j+1/\SMap w4 b n' (idxF p.tyNames (j+1))):=⟨_,by have:=fj.o;split<;>omega,cb⟩
      have d1:=η dm;clear cb dm t0 t1 p0 p1 p2;go_wp2_with fail;refine⟨⟨j+1,ω,by go_num,um (belA a2.o _) d1.o (λk e=>by injection e with e;omega),(d1.o.block _ dt.o.lt (λe=>by injection e with e;omega)).trans dt.o,bo.o⟩,by simp[intOf];omega⟩
     obtain rfl:j=p.types.length:=ω;have u1:decide ((p.types.length:Int)<(p.types.length:Int))=false:=decide_eq_false ω;obtain⟨nT,eq,b5⟩:=bn.o;rw[<-fk.o] at b5;have bm:=η b5;clear b5 eq bn;go_upto_region 17 with (go_at_call 19;refine (kG wr).mono ?_;rintro e4 F ⟨rfl,bd,bf⟩);have du:Hid (Hs F (b+1) 101 #[.map (some b)]):=(bf.block _ X.o.lt).trans X.o;have bo:Hid (SMap F b nT (idxF p.tyNames p.tyNames.length)):=bm.o.below bf bm.o.lt;obtain⟨dr,d3⟩:=zd2 bd (a2.o.trans (bf.mono a2.o.size));have gr:wr.heap.size<F.heap.size:=bd.lt;have gs:=X.o.lt;have Z:=η (xk (p:=p) (B0:=b) bd du.o bo.o (Nat.le_succ _) (υ _) X.o.lt bm.o.lt);clear bd bf a2 X bm;go_upto_region 19 with fail;change Code.wp _ _ _ _ (dw5 F);obtain⟨W5,b9⟩:=γ (dw5 F)
     have db:=dr.o.bel (rt F);rw[<-b9] at db ⊢;have dq:=η b9;clear b9;obtain⟨er,r,pv,vv,W,-,-,-⟩:=db;have c2:W5.cell? ⟨wr,2,none⟩=some (.func (.func 62) #[] #[]):=by rw[Lib.cell_of_heap W];rfl
     have c3:W5.cell? ⟨wr,3,none⟩=some (.func (.func 63) #[] #[]):=by rw[Lib.cell_of_heap W];rfl
     have f2:W5.frozen? ⟨wr,2,none⟩=false:=Lib.frozen_of_heap W 2;have f3:W5.frozen? ⟨wr,3,none⟩=false:=Lib.frozen_of_heap W 3;have ex:∀v,(W5.setCell ⟨wr,2,none⟩ v).cell? ⟨wr,3,none⟩=some (.func (.func 63) #[] #[]):=λv=>by rw[Lib.cell_of_heap ((heap_setCell_same _ _ _ _ _ _ W).trans rfl)];rfl
     have es:∀v,(W5.setCell ⟨wr,2,none⟩ v).frozen? ⟨wr,3,none⟩=false:=λv=>Lib.frozen_of_heap ((heap_setCell_same _ _ _ _ _ _ W).trans rfl) 3;clear er r W;go_upto_region 21 with fail;rw[dq.o];change Code.wp _ _ _ _ (dw6 F wr (dbOf F (b+1) b nT));obtain⟨DD,bk⟩:=γ (dbOf F (b+1) b nT)
     obtain⟨H,rfl⟩:=γ wr
     have Z:=Z;have B6:Below b b (dw6 F H DD):=d3.o.trans (((rt F).mono d3.o.size).trans ((Below.refl _ _).setCell (p:=⟨H,2,none⟩) (show b.heap.size<=H.heap.size by omega) _ |>.setCell (p:=⟨H,3,none⟩) (show b.heap.size<=H.heap.size by omega) _));rw[<-bk] at Z ⊢;obtain⟨W6,dj⟩:=γ (dw6 F H DD)
     rw[<-dj] at Z B6 ⊢;clear dj;obtain⟨d2,ct,fa⟩:=zd3 B6 (aH bb.o B6) (aH I.o B6);have PU:Hid (PgU b H W6 A0 A1 A2 A3 q0 q1 q2 q3 p):=PgU.of ch.o B6 (υ _);have UX:Hid (uo (wM b H) W6 w):=(rA B6 (υ _) _ bb.o.lt).1;have UR:Hid (uo (wM b H) W6 (w+1)):=(rA B6 (υ _) _ I.o.lt).1;have gy:=η (cf.o.mono B6);have eF:DD.gF=F.heap.size+1+1+1+1:=by rw[bk];rfl
     have eD:DD.gD=F.heap.size+1+1+1+1+1:=by rw[bk];rfl
     have dw:Hid (WS (rq p b H DD) [] dg0 W6):=⟨Z.o.2,⟨υ _,υ _,_,_,Z.o.1⟩⟩
     rw[<-eD,<-eF];clear eD eF bk;have co:=η (HD.o Y.o);obtain⟨G,bg⟩:=γ (p.actors[at_])
     have cs:Hid (G∈p.actors):=by rw[bg];exact ν b8
     have ei:Hid (digP p M s.data.toList=ShaT.shaS ((je p G).map UInt8.toNat)):=by show _=_;unfold digP;rw[cm.o,Y.o];simp only[if_true,ξ b8,<-bg]
     have d0:=η (HL.o Y.o G cs.o);obtain⟨O7,bj⟩:=γ ((wAc dgN dg0 G).1)
     obtain⟨S7,bh⟩:=γ ((wAc dgN dg0 G).2)
     have ao:Hid (je p G=O7++((bZ p (p.funs.length+1) 0 S7).1++(cC p (p.types.length+1) 0 (bZ p (p.funs.length+1) 0 S7).2).1)):=by show _=_;rw[bj,bh];rfl
     have N:Hid (O7.length+((bZ p (p.funs.length+1) 0 S7).1.length+(cC p (p.types.length+1) 0 (bZ p (p.funs.length+1) 0 S7).2).1.length)<=1000000):=by show _<=_;have:=d0.o;rw[ao.o] at this;simpa only[μ] using this
     have an:Hid (O7.length+(bZ p (p.funs.length+1) 0 S7).1.length<=1000000):=by show _<=_;have:=N.o;omega
     have fo:Hid (([]:List UInt8).length+(wAc dgN dg0 G).1.length<=wTop):=by show _<=_;rw[<-bj];have:=N.o;unfold wTop;simp;omega
     obtain⟨dz,ce⟩:=zd2 bj bh;have el:Hid (DgOk p S7):=by show DgOk _ _;rw[bh];exact co.o.ac G cs.o _ (dgok0 p)
     have k3:=ct.o.c 3;have j0:(0:Int)<=((at_:Nat):Int):=ω;have j1:((at_:Nat):Int)<(p.actors.length:Int):=ω;obtain⟨ga,f5,fz,e0,d5,dp,g0,gw,rfl,-,p0,p1,p2,p3,p4,p5,p6,bw,-⟩:=fR PU.o.a b8;rw[<-bg] at bw p0 p1 p2 p3 p4 p5 p6;have TA:=η bw;clear bw bg bj bh B6 c2 c3 f2 f3 ex es dq dr Z du bo;go_wp2_with (go_at_call 28;refine (uB TA.o dw.o fo.o).mono ?_;rintro e7 W7 ⟨rfl,dc,dg⟩);have fg:Hid (WS (rq p b H DD) O7 S7 W7):=by rw[dz.o,ce.o];exact dc
     have fw:=η dg;clear dc dg k3 p0 p1 p2 p3 p4 p5 p6 dw dz ce;go_wp2_with fail;go_loopw [16] (λi wr=>∃j:Nat,i=.int .i64 j/\Hid (DigL p b H DD bZ p.funs.length O7 S7 (λst=>st.funs.length) j W7 wr)) (λi _=>p.funs.length-(intOf i).toNat)
     case atStart=>exact⟨0,rfl,[],S7,rfl,by rw[List.append_nil];exact fg.o,Ch.refl _ _,el.o,Nat.zero_le _⟩
     case round =>
      obtain⟨j,rfl,a1⟩:=hrel;obtain⟨o2,d,hq,R,V,au,df⟩:=a1.o;obtain⟨HQ,af,y,bp,u⟩:=zd5 hq R (fw.o.trans V) V au;obtain⟨b4,bz,vF,vD,E⟩:=R.rel;obtain⟨AF,cF,O⟩:=bU E.rF;obtain⟨ag,ae⟩:=zd2 E O;have k0:wr.cell? DD.gF=some (.slice AF d.funs.length cF):=by have:=E.hF.cell 0;rw[O] at this;exact this
      have dh:d.funs.length<=p.funs.length:=(by have:=lZ p.funs.length _ u.o.nf (λx hx=>u.o.rf x hx);omega)
      clear hq R V au b4 bz E O a1;by_cases hlt:j<d.funs.length
      ·have u1:=zT j d.funs.length;have i1:(0:Int)<=(j:Int):=ω;have i2:(j:Int)<(d.funs.length:Int):=ω;obtain⟨gF,ew,ar,-,-⟩:=ez ag.o.rF ω;rw[ae.o] at ar;injection ar with ha _ hc;have T:=ag.o.rF;rw[ae.o,ha] at T;obtain⟨q,B⟩:=γ ((d.funs[j]).toNat:Nat)
       have l:q<p.funs.length:=by rw[B];exact (u.o.fun_lt hlt).1
       have k1:wr.cell? ⟨gF,j,none⟩=some (.int .i64 ((q:Nat):Int)):=by rw[B];exact dk T (by unfold oI;rw[List.getElem?_map,ξ hlt];show some _=_;rw[(u.o.fun_lt hlt).2])
       have av:d.funs[j]?=some ((q:Nat):Int)/\p.funs[q]?=some p.funs[q]:=⟨by rw[ξ hlt,B,(u.o.fun_lt hlt).2],ξ l⟩
       have cn:=η av;subst ha;have k2:wr.cell? ⟨w,2,none⟩=some (.slice A2 p.funs.length q2):=(y.o.cell UX.o 2).trans (ct.o.cell 2);have i3:(0:Int)<=((q:Nat):Int):=ω;have i4:((q:Nat):Int)<(p.funs.length:Int):=ω;obtain⟨g,bu,fz,e0,k_,s_,a_,d5,dp,o_,x_,m_,r_,e_,gz,gu,rfl,-,p0,p1,p2,p3,p4,p5,p6,p7,p8,p9,gp,U,-⟩:=jd (SlR.to' PU.o.f y.o.sub (λ_ _ x=>x.to y.o.sub)) l;obtain⟨T1,az⟩:=zd2 U (ui HQ.o cn.o ω);obtain⟨ck,cj,ba⟩:=zd3 (show (O7++o2).length+(wFn dgN d p.funs[q]).1.length<=wTop by have:=an.o;rw[az.o] at this;simp only[μ] at this ⊢;unfold wTop;omega) l (co.o.fn _ (ν l) d u.o);have cl:Hid (j+1<=(wFn dgN d p.funs[q]).2.funs.length):=by show _<=_;have:=(wFn_mono d p.funs[q]).1;omega
       clear U B T av hc;go_upto_region 25 with fail;go_still_tail 9,Δ
       change wpList _ _ _ _ _ wr.drew;go_wp2_with (go_at_call 25;refine (w_fn (T1.o.to (Ch.of_below (ad wr)).sub) (af.o.bel (ad _)) ck.o).mono ?_;rintro e9 W9 ⟨rfl,bv,b6⟩);exact⟨⟨j+1,by go_num,_,_,az.o,by rw[<-χ];exact bv,(bp.o.bel (ad _)).trans b6,ba.o,cl.o⟩,by simp[intOf];omega⟩
      have u1:=zF j d.funs.length;obtain⟨J,dv⟩:=zd2 (se HQ.o hlt) af.o;have fv:=y;have ek:=u;obtain⟨O8,bi⟩:=γ (O7++o2)
      obtain⟨S8,rfl⟩:=γ d
      have da:Hid (O8.length+(cC p (p.types.length+1) 0 S8).1.length<=1000000):=by show _<=_;have:=N.o;rw[J.o] at this;dsimp only at this;rw[bi,μ];omega
      have dy:Hid (je p G=O8++(cC p (p.types.length+1) 0 S8).1):=by show _=_;rw[ao.o,J.o,bi];simp only[χ]
      rw[<-bi] at dv;obtain⟨W8,rfl⟩:=γ wr
      clear an N HQ af bp y u ag ae dh df bi ao d0 J;have an:=da;go_wp2_with fail;go_loopw [17] (λi wr=>∃j:Nat,i=.int .i64 j/\Hid (DigL p b H DD cC p.types.length O8 S8 (λst=>st.names.length) j W8 wr)) (λi _=>p.types.length-(intOf i).toNat)
      case atStart=>exact⟨0,rfl,[],S8,rfl,by rw[List.append_nil];exact dv.o,Ch.refl _ _,ek.o,Nat.zero_le _⟩
      case round =>
       obtain⟨j,rfl,a1⟩:=hrel;obtain⟨o2,d,hq,R,V,au,df⟩:=a1.o;obtain⟨HQ,af,y,bp,u⟩:=zd5 hq R (fv.o.trans V) V au;obtain⟨b4,bz,vF,vD,E⟩:=R.rel;obtain⟨AF,cF,O⟩:=bU E.rD;obtain⟨ag,ae⟩:=zd2 E O;have k0:wr.cell? DD.gD=some (.slice AF d.names.length cF):=by have:=E.hD.cell 0;rw[O] at this;exact this
       have dh:d.names.length<=p.types.length:=(names_le u.o)
       clear hq R V au b4 bz E O a1;by_cases hlt:j<d.names.length
       ·have u1:=zT j d.names.length;have i1:(0:Int)<=(j:Int):=ω;have i2:(j:Int)<(d.names.length:Int):=ω;obtain⟨gF,ew,ar,-,-⟩:=ez ag.o.rD ω;rw[ae.o] at ar;injection ar with ha _ hc;have T:=ag.o.rD;rw[ae.o,ha] at T;obtain⟨q,B⟩:=γ ((idxP p.tyNames (d.names[j])).getD 0:Nat)
        have l:q<p.types.length:=by rw[B];exact u.o.name_lt hlt
        have k1:wr.cell? ⟨gF,j,none⟩=some (.int .i64 ((q:Nat):Int)):=by rw[B];exact dk T (by unfold ints oT;rw[List.getElem?_map,List.getElem?_map,ξ hlt];rfl)
        have av:∃s,d.names[j]?=some s/\(idxP p.tyNames s).getD 0=q/\p.types[q]?=some p.types[q]:=⟨_,ξ hlt,B.symm,ξ l⟩
        have cn:=η av;subst ha;have k2:wr.cell? w=some (.slice A0 p.types.length q0):=(y.o.cell UX.o 0).trans (ct.o.cell 0);have i3:(0:Int)<=((q:Nat):Int):=ω;have i4:((q:Nat):Int)<(p.types.length:Int):=ω;obtain⟨g,bu,d5,dp,rfl,-,p0,p1,p2,U,-⟩:=fF (SlR.to' PU.o.t y.o.sub (λ_ _ x=>x.to y.o.sub)) l;obtain⟨T1,az⟩:=zd2 U (uj HQ.o cn.o ω);obtain⟨ck,cj,ba⟩:=zd3 (show (O8++o2).length+(wDcl dgN d p.types[q]).1.length<=wTop by have:=an.o;rw[az.o] at this;simp only[μ] at this ⊢;unfold wTop;omega) l (co.o.ty _ (ν l) d u.o);have cl:Hid (j+1<=(wDcl dgN d p.types[q]).2.names.length):=by show _<=_;have:=(vB d p.types[q]).2;omega
        clear U B T av hc;go_upto_region 29 with fail;go_still_tail 9,Δ
        change wpList _ _ _ _ _ wr.drew;go_wp2_with (go_at_call 21;refine (w_decl (T1.o.to (Ch.of_below (ad wr)).sub) (af.o.bel (ad _)) ck.o).mono ?_;rintro e9 W9 ⟨rfl,bv,b6⟩);exact⟨⟨j+1,by go_num,_,_,az.o,by rw[<-χ];exact bv,(bp.o.bel (ad _)).trans b6,ba.o,cl.o⟩,by simp[intOf];omega⟩
       have u1:=zF j d.names.length;have J:=η (sg HQ.o hlt)
       have fl:Hid (O8++o2≠[]):=by
        intro e;have h1:je p G=[]:=by rw[dy.o,J.o];exact e
        exact xm p G h1
       have ca:Hs wr (w+1) 34 ShaT.z32:=(y.o.sub _ UR.o).2.trans fa.o;have dn:Below b b wr:=d2.o.trans (y.o.below wM_B d2.o.size);obtain⟨cq,eh⟩:=zd2 dn ca;obtain⟨fs,be⟩:=γ (⟨(O8++o2).toArray⟩:ByteArray)
       have fq:Hid ((⟨(O8++o2).toArray⟩:ByteArray)=fs):=be.symm;have a8:je p G=O8++o2:=by rw[dy.o,J.o]
       have eg:Hid (fs.size<=1000000):=by
        show _<=_;have:=HL.o Y.o G cs.o;rw[a8] at this;rw[be];show (O8++o2).toArray.size<=_;simpa using this
       obtain⟨D,hD⟩:=γ (ShaT.shaS (ShaT.nats fs))
       have cp:Hid (D.length=32):=by show _=_;rw[hD];exact ShaT.dgTo_length _ 32
       have ft:Hid (ShaT.shaS (ShaT.nats fs)=D):=hD.symm
       have fe:Hid (digP p M s.data.toList=D):=by
        show _=_;rw[ei.o,a8,hD,be];simp[ShaT.nats]
       clear ca dn be a8 hD
       have A:Hid (∀L,Below b wr L->(L.setRow (w+1) (ShaT.u8s D)).heap[w.heap.size+1]?=some (.cells (ShaT.u8s D) 34)/\Below w w (L.setRow (w+1) (ShaT.u8s D))/\L.heap[w.heap.size+1]?=some (.cells ShaT.z32 34)):=λL hb=>by
        have h1:L.heap[w.heap.size+1]?=some (.cells ShaT.z32 34):=(hb.block _ I.o.lt).trans eh.o;exact⟨setRow_heap _ _ _ _ _ _ h1,(bel bc.o (cq.o.trans hb)).trans ⟨rfl,rfl,rfl,by simp,λk hk=>setRow_other _ _ _ _ ω⟩,h1⟩
       have ej:Hid (∀W9,Below b wr W9->ShaT.Rounds W9):=λW9 hb=>cf.o.mono (cq.o.trans hb);go_wp2_with (first|(go_at_call 30;refine (mX af.o.wr fl.o).mono ?_;rw[fq.o];rintro e9 W9 ⟨rfl,di⟩;have cr:=η di;clear di)|(go_at_call 47;refine (ShaT.sha_any _ eg.o _ (ej.o _ cr.o)).mono ?_;rw[ft.o];rintro gt L ⟨rfl,b7⟩;have ci:=η (A.o L (cr.o.trans (b7.mono (ψ cq.o.size cr.o.size))));clear b7)|(refine wpList_store_row rfl 34 _ _ rfl (w+1) (ShaT.u8s D) rfl rfl 34 ShaT.z32 ci.o.2.2 (by rw[ShaT.u8s_size,cp.o];exact ShaT.info23) (by rw[ShaT.u8s_size,cp.o];rfl) (ShaT.u8s_one _) ?_));exact bodyPost_ret (results_cell_row results12 _ _ (w+1) 34 (ShaT.u8s D) _ _ rfl ci.o.1 underlying34 rfl (by rw[ShaT.u8s_size,cp.o];exact ShaT.info23)) rfl ⟨by rw[fe.o],ci.o.2.1⟩
end Go.Proofs.YtjohpidklbhmcaaGreatDoor
