import Derived.Test.YtbmknjfgjphfbaaGreatDoorTf
set_option linter.all false
namespace Go.Proofs.YtbmknjfgjphfbaaGreatDoor
open Proofs.Tryz RowKit Maps WideMaps ChangeMaps
set_option maxRecDepth 100000
set_option maxHeartbeats 8000000
abbrev oc9 (vE vA:Value):Array Value:=#[.slice none 0 0,vE,.slice none 0 0,vA,.slice none 0 0,.slice none 0 0,.slice none 0 0,.int .i64 0,.int .i64 0]
abbrev z9:Array Value:=oc9 (.slice none 0 0) (.slice none 0 0)
theorem catch24_idle (a:Nat) (w:À) :
 CallsD prog 24 #[.pointer (some ⟨a,0,none⟩)] .returning w fun e u' w'=>e=.returned (.tuple #[])∧u'=.returning∧w'=w:=by
 refine callsD_of_wpS func24 rfl fun c₀ cs hu=>?_
 apply wpS_seq
 apply wpS_region
 simp[wpOpsS,go_sem,recoverD,hu,ntmps24,Exit.thenS]
 refine wpS_of_wp ?_
 go_wp2_with fail
 cases c₀
 simp_all [bodyPostS,results,results24]
theorem asr_of {W:À} {base gA ac:Nat} (h:W.ownsRow base 125 7 (.slice (some ⟨gA,0,none⟩) 1 ac) 1 (ac7 sMain).toList):AsR W (lo W) (.slice (some ⟨gA,0,none⟩) 1 ac):=by
 have hr:RowG 7 (fun cs (_:Unit)=>cs=(ac7 sMain).toList) (ac7 sMain).toList [()]:=⟨rfl,fun i hi=>by
  have h0:i=0:=by simpa using hi
  subst h0
  rfl⟩
 exact hr.sl h (fun g hg=>(h.lt g hg).2)
section
variable {w:À} {n:Nat} {l:List Nd}
theorem guard_any (hl:l=kidsT n) (hn:n≤30) (hr:rightB (.mk 1 e0 0 0 l)=true) (s:Ê) (hs:s.size≤maxLen) (hp:runP false s.data.toList=.ok (.mk 1 e0 0 0 l)):Calls prog 12 #[.string s,.func (.func 13) #[] #[]] w fun e w'=>∃(EA:Option Addr) (ec:Nat) (AA:Option Addr) (ac:Nat) (xs:List Value),e=.returned (.agg (oc9 (.slice EA n ec) (.slice AA 1 ac)))∧Below w.heap.size w w'∧w'.ownsRow w.heap.size 48 5 (.slice EA n ec) n xs∧EfR xs (nmL n):=by
 have hmf:=hmf
 obtain⟨W1,hW1⟩:∃q,Hid (q=w.alloc (.cells z9 55)):=⟨_,rfl⟩
 have B1:Hid (Below w.heap.size w W1):=by show Below _ _ _;rw[hW1.out];exact belA (belR _) _
 have A1:Hid (Hs W1 w.heap.size 55 z9):=by show Hs _ _ _ _;rw[hW1.out];exact Hs.new _ _ _
 have HL:=Lib.hid hl
 have HNN:=Lib.hid hn
 have HR:=Lib.hid hr
 have HP:=Lib.hid hp
 have PA:=Lib.hid (parse_any s W1 hs)
 clear hl hn hr hp hs
 go_enter_defers func12,ntmps12
 go_upto_region 1 with fail
 rw[←hW1.out]
 clear hW1
 go_wp2_with fail
 refine PA.out.mono ?_
 unfold RunV
 rw[HP.out]
 rintro _ W2 ⟨k1,s1,m1,p1,D1,l1,c1,rfl,bw,hn⟩
 obtain⟨A0,cap0,hcl,hk0,_⟩:=nd_ex hn
 rw[hcl] at hn ⊢
 have HN2:=Lib.hid hn
 have B2:=Lib.hid (bel B1.out bw)
 have A2:=Lib.hid (hs_bel A1.out bw)
 have S2:=Lib.hid B2.out.size
 clear hcl hk0 hn bw PA
 obtain⟨W3,hW3⟩:∃q,Hid (q=W2.alloc (.cells (cl 1 e0 0 0 A0 l.length cap0).toArray 83)):=⟨_,rfl⟩
 have b3:Below W2.heap.size W2 W3:=by rw[hW3.out];exact belA (belR _) _
 have Y3:Hid (Hs W3 W2.heap.size 83 (cl 1 e0 0 0 A0 l.length cap0).toArray):=by show Hs _ _ _ _;rw[hW3.out];exact Hs.new _ _ _
 have HN3:Hid (NdR W3 (lo W2) (cl 1 e0 0 0 A0 l.length cap0) (.mk 1 e0 0 0 l)):=Lib.hid (HN2.out.to fun b hb=>⟨hb.2,b3.block b hb.2⟩)
 have B3:=Lib.hid (bel B2.out b3)
 have A3:=Lib.hid (hs_bel A2.out b3)
 have S3:=Lib.hid b3.size
 have SW:=Lib.hid B3.out.size
 obtain⟨bt,hbt⟩:∃q,Hid (q=W2.heap.size):=⟨_,rfl⟩
 rw[←hbt.out] at Y3
 go_upto_region 3 with fail
 rw[←hW3.out,←hbt.out]
 clear hW3 b3 A1 B1 HN2 A2 B2
 have DA:=Lib.hid (decls_any n l HL.out HNN.out HR.out _ W3 (HN3.out.to fun b hb=>⟨Nat.lt_of_lt_of_le hb S3.out,rfl⟩))
 go_upto_region 6 with (first|(refine lr5 Y3 ?_)|(go_at_call 26;refine DA.out.mono ?_;rintro _ W4 ⟨vE,vA,xs,rfl,b4,rE,eE,rA⟩;obtain⟨EA,ec,rfl⟩:=row_form rE;obtain⟨gA,ac,rfl⟩:=row_some rA (by omega);have B4:=Lib.hid b4;have RE:=Lib.hid rE;have EE:=Lib.hid eE;have RA:=Lib.hid rA;clear b4 rE eE rA))
 obtain⟨W5,hW5⟩:∃q,Hid (q=W4.alloc (.cells (pg4 (.slice EA n ec) (.slice (some ⟨gA,0,none⟩) 1 ac)) 30)):=⟨_,rfl⟩
 have b5:Below W4.heap.size W4 W5:=by rw[hW5.out];exact belA (belR _) _
 have X5:Hid (Hs W5 W4.heap.size 30 (pg4 (.slice EA n ec) (.slice (some ⟨gA,0,none⟩) 1 ac))):=by show Hs _ _ _ _;rw[hW5.out];exact Hs.new _ _ _
 have b35:=bel B4.out b5
 have B5:=Lib.hid (bel B3.out b35)
 have A5:=Lib.hid (hs_bel A3.out b35)
 have Y5:=Lib.hid (hs_bel Y3.out b35)
 have HN5:Hid (NdR W5 (lo W2) (cl 1 e0 0 0 A0 l.length cap0) (.mk 1 e0 0 0 l)):=Lib.hid (HN3.out.to fun b hb=>⟨hb,b35.block b (Nat.lt_of_lt_of_le hb S3.out)⟩)
 have RE5:=Lib.hid (row_stp RE.out (Stp.of_below (own:=fun _=>False) b5) (fun _ _ e=>e))
 have RA5:=Lib.hid (row_stp RA.out (Stp.of_below (own:=fun _=>False) b5) (fun _ _ e=>e))
 have SA:Hid (W3.heap.size≤gA∧gA<W5.heap.size):=Lib.hid ⟨(RA.out.lt gA rfl).1,(RA5.out.lt gA rfl).2⟩
 have S5:=Lib.hid (Nat.le_trans S3.out b35.size)
 obtain⟨bp,hbp⟩:∃q,Hid (q=W4.heap.size):=⟨_,rfl⟩
 rw[←hbp.out] at X5
 rw[←hW5.out,←hbp.out]
 clear hW5 b5 b35 B3 A3 Y3 HN3 B4 RE RA DA
 have ES:EsR W5 (lo W5) (.slice EA n ec) (nmL n):=EE.out.sl (by rw[nmL_len];exact RE5.out) (fun g hg=>(RE5.out.lt g hg).2)
 have AS:AsR W5 (lo W5) (.slice (some ⟨gA,0,none⟩) 1 ac):=asr_of RA5.out
 have NC:=Lib.hid (nchk_any EA ec (some ⟨gA,0,none⟩) ac n HNN.out W5 ES AS)
 clear ES AS
 go_upto_region 9 with (first|(refine wpList_load_row rfl 30 _ rfl bp rfl 30 _ _ _ X5.out underlying30 rfl Δ ?_)|(go_at_call 27;refine NC.out.mono ?_;rintro _ W6 ⟨cb,m1,m2,m3,m4,m5,rfl,b6,gb,hc6⟩;have B6:=Lib.hid b6;have C6:=Lib.hid hc6;have GB:=Lib.hid gb;clear b6 gb hc6))
 have B6w:=Lib.hid (bel B5.out B6.out)
 have A6:=Lib.hid (hs_bel A5.out B6.out)
 have Y6:=Lib.hid (hs_bel Y5.out B6.out)
 have HN6:Hid (NdR W6 (lo W2) (cl 1 e0 0 0 A0 l.length cap0) (.mk 1 e0 0 0 l)):=Lib.hid (HN5.out.to fun b hb=>⟨hb,B6.out.block b (Nat.lt_of_lt_of_le hb S5.out)⟩)
 have RE6:=Lib.hid (row_stp RE5.out (Stp.of_below (own:=fun _=>False) B6.out) (fun _ _ e=>e))
 have RA6:=Lib.hid (row_stp RA5.out (Stp.of_below (own:=fun _=>False) B6.out) (fun _ _ e=>e))
 have S6:=Lib.hid (Nat.le_trans S5.out B6.out.size)
 have c1:=RA6.out.cells (g:=gA) rfl 1 _ rfl
 have c2:=RA6.out.cells (g:=gA) rfl 2 _ rfl
 have cf:W6.frozen? ⟨gA,2,none⟩=false:=by
  obtain⟨g,cp,cur,e,_,hh,_⟩:=RA6.out.2.resolve_left (by intro h;cases h.1)
  injection e with e
  injection e with e
  injection e with e
  subst e
  simp[World.frozen?,hh]
 have DE:=Lib.hid (decs_any n l HL.out _ (.slice EA n ec) gA 0 ac cb m1 m2 m3 m4 m5 W6 (HN6.out.to fun b hb=>⟨⟨Nat.lt_of_lt_of_le hb S6.out,fun e=>by have e:b=gA:=e;have:=SA.out;have:=S3.out;have hb:b<W2.heap.size:=hb;omega⟩,rfl⟩) C6.out (by simpa[Addr.add] using c1) (by simpa[Addr.add] using c2) (by simpa using cf) (Nat.lt_of_lt_of_le SA.out.2 B6.out.size))
 clear c1 c2 cf NC
 go_upto_region 10 with (first|(refine lr5 Y6 ?_)|(go_at_call 28;refine DE.out.mono ?_;rintro _ W7 ⟨rfl,st⟩;have ST:=Lib.hid st;clear st))
 have st7:∀{g t cs2},Hs W6 g t cs2→t≠125→Hs W7 g t cs2:=fun h ht=>hs_stp h ST.out (fun e=>by subst e;exact row_typ RA6.out h ht rfl)
 have A7:=Lib.hid (st7 A6.out (by decide))
 have Y7:=Lib.hid (st7 Y6.out (by decide))
 have C7:=Lib.hid (st7 C6.out (by decide))
 have B7:=Lib.hid (bel_own B6w.out ST.out (fun k e=>by have e:k=gA:=e;have:=SA.out;have:=S3.out;have:=S2.out;omega))
 have RE7:=Lib.hid (row_stp RE6.out ST.out (fun g e x=>row_typ2 RA6.out RE6.out (by decide) g e (by have x:g=gA:=x;rw[x];rfl)))
 have HN7:Hid (NdR W7 (lo W2) (cl 1 e0 0 0 A0 l.length cap0) (.mk 1 e0 0 0 l)):=Lib.hid (HN6.out.to fun b hb=>⟨hb,ST.out.block b (Nat.lt_of_lt_of_le hb S6.out) (fun e=>by have e:b=gA:=e;have:=SA.out;have:=S3.out;have hb:b<W2.heap.size:=hb;omega)⟩)
 have S7:=Lib.hid (Nat.le_trans S6.out ST.out.size)
 have CH:=Lib.hid (chgs_any n l HL.out _ (.pointer (some ⟨cb,0,none⟩)) W7 (HN7.out.to fun b hb=>⟨Nat.lt_of_lt_of_le hb S7.out,rfl⟩))
 clear st7 DE
 go_upto_region 11 with (first|(refine lr5 Y7 ?_)|(go_at_call 29;refine CH.out.mono ?_;rintro _ W8 ⟨rfl,b8⟩;have B8:=Lib.hid b8;clear b8))
 have A8:=Lib.hid (hs_bel A7.out B8.out)
 have C8:=Lib.hid (hs_bel C7.out B8.out)
 have RE8:=Lib.hid (row_stp RE7.out (Stp.of_below (own:=fun _=>False) B8.out) (fun _ _ e=>e))
 have B8w:=Lib.hid (bel B7.out B8.out)
 refine wp_region_still_tail 17 (by kernel_rfl) (by kernel_rfl) ?_
 obtain⟨W9,hW9⟩:∃q,q=W8.drew:=⟨_,rfl⟩
 have b9:Below W8.heap.size W8 W9:=by rw[hW9];exact belDr W8
 change wpStill _ _ (World.drew _) (fun a'=>wpList _ _ _ _ a' (World.drew _)) _ _
 have A9:=Lib.hid (hs_bel A8.out b9)
 have C9:=Lib.hid (hs_bel C8.out b9)
 have RE9:=Lib.hid (row_stp RE8.out (Stp.of_below (own:=fun _=>False) b9) (fun _ _ e=>e))
 have B9w:=Lib.hid (bel B8w.out b9)
 rw[←hW9]
 clear hW9 b9
 have c0:=C9.out.c 0
 have c1:=C9.out.c 1
 have c2:=C9.out.c 2
 have c3:=C9.out.c 3
 have c9:=C9.out.c 9
 have c10:=C9.out.c 10
 have c11:=C9.out.c 11
 simp only[List.take_succ_cons,List.take_zero,List.drop_succ_cons,List.drop_zero]
 repeat still_step
 refine wpStill_nil ?_
 clear c0 c1 c2 c3 c9 c10 c11
 go_wp2_with (refine wpList_store_row rfl 55 _ _ rfl w.heap.size (oc9 (.slice EA n ec) (.slice (some ⟨gA,0,none⟩) 1 ac)) rfl rfl 55 _ A9.out Δ rfl (by simp[Value.oneCell']) ?_)
 refine leaves_cons (f:=24) (args:=#[.pointer (some ⟨w.heap.size,0,none⟩)]) (by simp) (by simp[go_sem]) ?_
 refine (catch24_idle w.heap.size _).mono ?_
 rintro e u' w'' ⟨rfl,rfl,rfl⟩
 have O:=setRow_heap _ _ _ (oc9 (.slice EA n ec) (.slice (some ⟨gA,0,none⟩) 1 ac)) _ _ A9.out
 have st:Stp (·=w.heap.size) W9 (W9.setRow w.heap.size (oc9 (.slice EA n ec) (.slice (some ⟨gA,0,none⟩) 1 ac))):=⟨rfl,rfl,rfl,by simp,fun q hq hn=>setRow_other _ _ _ _ hn⟩
 exact ⟨_,results_cell_row results12 _ _ w.heap.size 55 _ _ _ rfl O underlying55 rfl Δ,_,_,_,_,xs,rfl,bel_row B9w.out (Nat.le_refl _) _,row_base (row_stp RE9.out st (fun g e x=>row_typ RE9.out A9.out (by decide) (x ▸ e))) SW.out,EE.out⟩
end
end Go.Proofs.YtbmknjfgjphfbaaGreatDoor
set_option linter.all false
namespace Go.Proofs.YtbmknjfgjphfbaaGreatDoor
open Proofs.Tryz RowKit Maps WideMaps ChangeMaps
set_option maxRecDepth 100000
set_option maxHeartbeats 8000000
section
variable {w:À} {n:Nat} {l:List Nd}
/-- Check on the source of n effects -/
theorem check_any (hl:l=kidsT n) (hn:n≤30) (hr:rightB (.mk 1 e0 0 0 l)=true) (s:Ê) (hs:s.size≤maxLen) (hp:runP false s.data.toList=.ok (.mk 1 e0 0 0 l)):Calls prog 6 #[.string s] w fun e w'=>∃(EA:Option Addr) (ec:Nat) (AA:Option Addr) (ac:Nat) (xs:List Value),e=.returned (.tuple #[.agg (pg4 (.slice EA n ec) (.slice AA 1 ac)),.int .i64 0,.int .i64 0])∧Below w.heap.size w w'∧w'.ownsRow w.heap.size 48 5 (.slice EA n ec) n xs∧EfR xs (nmL n):=by
 obtain⟨W1,hW1⟩:∃q,Hid (q=w.alloc (.cells z4 30)):=⟨_,rfl⟩
 have B1:Hid (Below w.heap.size w W1):=by show Below _ _ _;rw[hW1.out];exact belA (belR _) _
 have A1:Hid (Hs W1 w.heap.size 30 z4):=by show Hs _ _ _ _;rw[hW1.out];exact Hs.new _ _ _
 have GU:=Lib.hid (guard_any (w:=W1) hl hn hr s hs hp)
 clear hl hn hr hs hp
 go_in
 go_upto_region 1 with fail
 rw[←hW1.out]
 clear hW1
 go_upto_region 2 with (go_at_call 12;refine GU.out.mono ?_;rintro _ W2 ⟨EA,ec,AA,ac,xs,rfl,b2,rE,eE⟩;have B2:=Lib.hid b2;have RE:=Lib.hid rE;have EE:=Lib.hid eE;clear b2 rE eE)
 obtain⟨W3,hW3⟩:∃q,Hid (q=W2.alloc (.cells (oc9 (.slice EA n ec) (.slice AA 1 ac)) 55)):=⟨_,rfl⟩
 have b3:Below W2.heap.size W2 W3:=by rw[hW3.out];exact belA (belR _) _
 have O3:Hid (Hs W3 W2.heap.size 55 (oc9 (.slice EA n ec) (.slice AA 1 ac))):=by show Hs _ _ _ _;rw[hW3.out];exact Hs.new _ _ _
 have A3:=Lib.hid (hs_bel A1.out (bel B2.out b3))
 have B3:=Lib.hid (bel B1.out (bel B2.out b3))
 have RE3:=Lib.hid (row_stp RE.out (Stp.of_below (own:=fun _=>False) b3) (fun _ _ e=>e))
 have SW:=Lib.hid B1.out.size
 have NE:Hid (W2.heap.size≠w.heap.size):=Lib.hid (by have:=A1.out.lt;have:=B2.out.size;omega)
 rw[←hW3.out]
 clear hW3 b3
 refine tkB (fun X=>Hs X W2.heap.size 55 (oc9 (.slice EA n ec) (.slice AA 1 ac))) (hs_bel O3.out (belDr W3)) (fun HS=>?_)
 obtain⟨X0,hX0⟩:∃q,q=W3.drew:=⟨_,rfl⟩
 have b4:=belDr W3
 rw[←hX0] at HS b4 ⊢
 clear hX0
 have A4:=Lib.hid (hs_bel A3.out b4)
 have B4:=Lib.hid (bel B3.out b4)
 have RE4:=Lib.hid (row_stp RE3.out (Stp.of_below (own:=fun _=>False) b4) (fun _ _ e=>e))
 clear b4
 refine tkQ 0 ?_
 refine tkQ 1 ?_ (hy:=fun w hS=>by have q0:=hS.c 0;have q1:=hS.c 1;have q2:=hS.c 2;have q3:=hS.c 3;go_simp;first|done|with_reducible rfl)
 refine tkQ 2 ?_
 refine tkQ 3 ?_ (hy:=fun w hS=>by have q0:=hS.c 7;go_simp;first|done|with_reducible rfl)
 refine tkQ 4 ?_
 refine tkQ 5 ?_ (hy:=fun w hS=>by have q0:=hS.c 8;go_simp;first|done|with_reducible rfl)
 refine tkE 6 (fun K hK=>?_)
 rw[if_pos (by rfl)]
 refine wp_store_row 30 _ _ rfl w.heap.size (pg4 (.slice EA n ec) (.slice AA 1 ac)) rfl rfl 30 _ A4.out Δ rfl (by simp[Value.oneCell']) ?_
 refine tkR hK ((setRow_other _ _ _ _ NE.out).trans HS) (fun HS=>?_)
 clear hK K
 refine tkQ 7 ?_
 refine tkQ 8 ?_
 refine tkD ?_
 go_wp2_with fail
 have O:=setRow_heap _ _ _ (pg4 (.slice EA n ec) (.slice AA 1 ac)) _ _ A4.out
 have st:Stp (·=w.heap.size) X0 (X0.setRow w.heap.size (pg4 (.slice EA n ec) (.slice AA 1 ac))):=⟨rfl,rfl,rfl,by simp,fun q hq hn=>setRow_other _ _ _ _ hn⟩
 exact bodyPost_ret (ret_ctt rfl _ _ w.heap.size _ rfl O underlying30 Δ) rfl ⟨_,_,_,_,xs,rfl,bel_row B4.out (Nat.le_refl _) _,row_base (row_stp RE4.out st (fun g e x=>row_typ RE4.out A4.out (by decide) (x ▸ e))) SW.out,EE.out⟩
end
end Go.Proofs.YtbmknjfgjphfbaaGreatDoor
set_option linter.all false
namespace Go.Proofs.YtbmknjfgjphfbaaGreatDoor
open Proofs.Tryz RowKit Maps WideMaps ChangeMaps
set_option maxRecDepth 100000
set_option maxHeartbeats 8000000
theorem info_9:(prog.info? 9).map (fun i=>(i.zero,i.size,i.bytes))=some (some (.string ⟨#[]⟩),1,16):=by kernel_rfl
theorem nm_v1:∀j,j<30→(97+((j:Nat):Int)/26%26)=((UInt8.ofNat (97+j/26%26)).toNat:Int)∧(97+((j:Nat):Int)%26)=((UInt8.ofNat (97+j%26)).toNat:Int):=by decide +kernel
theorem nm_app (a b:UInt8):(⟨#[101]⟩:Ê)++⟨#[a,b]⟩=⟨#[101,a,b]⟩:=by
  apply ByteArray.ext
  simp[ByteArray.data_append]
theorem nm_cv (wr:À) (j:Nat) (hj:j<30):(convert 51 9 (.slice (some ⟨wr.heap.size,0,none⟩) 2 2)).run prog (wr.alloc (.cells #[.int .u8 (97+(j:Int)/26%26),.int .u8 (97+(j:Int)%26)] 5))=.ok (.string ⟨#[UInt8.ofNat (97+j/26%26),UInt8.ofNat (97+j%26)]⟩) (wr.alloc (.cells #[.int .u8 (97+(j:Int)/26%26),.int .u8 (97+(j:Int)%26)] 5)):=by
  obtain⟨h1,h2⟩:=nm_v1 j hj
  rw[h1,h2]
  refine run_convert_bytes_back _ 51 9 5 ⟨wr.heap.size,0,none⟩ 2 [UInt8.ofNat (97+j/26%26),UInt8.ofNat (97+j%26)] underlying51 underlying5 underlying9 ?_
  intro i hi
  have:=(Hs.new wr 5 #[.int .u8 ((UInt8.ofNat (97+j/26%26)).toNat:Int),.int .u8 ((UInt8.ofNat (97+j%26)).toNat:Int)])
  rcases (by simp at hi;omega:i=0∨i=1) with rfl|rfl
  · exact this.c 0
  · exact this.c 1
theorem names5_any (n:Nat) (hn:n≤30) (w:À):Calls prog 5 #[.int .i64 (n:Int)] w fun e w'=>∃A c,e=.returned (.slice A n c)∧Below w.heap.size w w'∧w'.ownsRow w.heap.size 9 1 (.slice A n c) n ((nmL n).map fun b=>.string (str b)):=by
  obtain⟨io,hio,hiz,his,hib⟩:=info_parts info_9
  have HIO:=Lib.hid (And.intro hio (And.intro hiz (And.intro his hib)))
  have HNN:=Lib.hid hn
  clear hio hiz his hib hn
  go_in
  go_wp2_with fail
  go_loopw [3,4] (fun v i wr=>∃ (j:Nat),j≤n∧i=.int .i64 j∧Hid (Below w.heap.size w wr)∧Hid (wr.ownsRow w.heap.size 9 1 v j ((nmL j).map fun b=>.string (str b)))) (fun _ i _=>n-(intOf i).toNat)
  case atStart=>exact ⟨0,by omega,rfl,Lib.hid (belR _),Lib.hid (World.ownsRow_nil _ _ _ _)⟩
  case round=>
    obtain⟨j,hj,rfl,HB,HO⟩:=hrel
    obtain⟨A0,c0,rfl⟩:=row_form HO.out
    by_cases hlt:j<n
    · have u1:decide ((j:Int)<(n:Int))=true:=decide_eq_true (by omega)
      have cv:=nm_cv wr j (by have:=HNN.out;omega)
      obtain⟨t,ht⟩:∃t:Ê,Hid (t=⟨#[UInt8.ofNat (97+j/26%26),UInt8.ofNat (97+j%26)]⟩):=⟨_,rfl⟩
      rw[←ht.out] at cv
      have HT:Hid ((⟨#[101]⟩:Ê)++t=str (nmE j)):=by show _=_;rw[ht.out];exact nm_app _ _
      have ts:t.size=2:=by rw[ht.out];rfl
      have hn0:n≤30:=HNN.out
      clear ht
      have j0:(0:Int)≤(j:Int):=by omega
      have HLT:=Lib.hid hlt
      go_wp2_with (at_builtin;refine wpList_append_own_at _ rfl (.tmp 10) (.tmp 23) 23 rfl w.heap.size 9 io _ 1 16 underlying23 HIO.out.1 HIO.out.2.1 HIO.out.2.2.1 HIO.out.2.2.2 rfl (by decide) (.slice A0 j c0) j ((nmL j).map fun b=>.string (str b)) rfl (row_al (row_al HO.out _) _) ⟨wr.heap.size+1,0,none⟩ 1 1 [.string (⟨#[101]⟩++t)] rfl rfl (by have:=World.news_of_block (Hs.new (wr.alloc (.cells #[.int .u8 (97+(j:Int)/26%26),.int .u8 (97+(j:Int)%26)] 5)) 9 #[.string (⟨#[101]⟩++t)]);simpa using this) (by intro u hu;simp at hu;repeat (first|(subst hu;rfl)|(rcases hu with rfl|hu;rfl))) (by have:=HNN.out;have:=HLT.out;unfold maxLen;omega) (by have:=HNN.out;have:=HLT.out;omega) (sz_al (sz_al HB.out.size _) _) ?_;intro vv w6 hown6 hgrow6 hnil6 hvb6;obtain⟨A6,c6,rfl⟩:=row_form hown6;have HO6:=Lib.hid hown6;have hBB:=bel HB.out (belA (belA (belR wr) (.cells #[.int .u8 (97+(j:Int)/26%26),.int .u8 (97+(j:Int)%26)] 5)) (.cells #[.string (⟨#[101]⟩++t)] 9));have HB6:=Lib.hid (Below.grown hBB hgrow6 hBB.size (fun k hk=>(HO.out.lt k hk).1));clear hown6 hgrow6 hnil6 hvb6 cv)
      have HO7:Hid (w6.ownsRow w.heap.size 9 1 (.slice A6 (j+1) c6) (j+1) ((nmL (j+1)).map fun b=>.string (str b))):=by
        rw[HT.out] at HO6
        rw[nmL_s,List.map_append]
        exact HO6
      exact ⟨⟨j+1,by omega,by go_num,HB6,HO7⟩,by simp[intOf];omega⟩
    · have u1:decide ((j:Int)<(n:Int))=false:=decide_eq_false (by omega)
      obtain rfl:j=n:=by omega
      go_wp2_with fail
      go_ret
      exact ⟨_,_,rfl,HB.out,HO.out⟩
end Go.Proofs.YtbmknjfgjphfbaaGreatDoor
