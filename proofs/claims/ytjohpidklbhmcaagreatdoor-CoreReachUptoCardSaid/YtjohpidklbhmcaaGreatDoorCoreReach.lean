/- CoreReach (its tied card, second form): For all programs, functions, types, effects and actor types the law CoreReach returns true, and its arguments read as before. Conditions: the card's own (the table of round constants of sum reads as the program's text lays it; the arguments are together of bulk at most 1048576). -/
import Derived.Test.YtjohpidklbhmcaaGreatDoorZ45
namespace Go.Proofs.YtjohpidklbhmcaaGreatDoor
set_option linter.all false
open Go.Proofs.Tryz
namespace coreReachDone
set_option maxRecDepth 100000
set_option maxHeartbeats 2000000
open Go.ChangeShapes Go.WideShapes Go.ChangeAt Go.RowKit
def table {W:World} (h:laidMetH prog Rows.coreReachUptoRow.laid W):Lib.TabIs prog W "retroact/sum.rounds" .u32 ShaT.kcs:=
 Lib.tabIs_of_head (rest:=[]) gTab Ca underlying212 underlying180 Cc Cb h
def BE {H:Type} {enc:TypeId×Value->H} {w:World} {sp:Nat->Bool} {held:Bool} {α:Type} {R:List Value->α->Prop} {c:α->Nat} {t:TypeId} {fs:Array Field} (hu:prog.underlying t=some (.struct fs)) (op:∀(fuel:Nat) (cs:List Value) (x:DataW H×List MemPlace),Tr enc w sp held fuel t cs x->∃a,R cs a/\c a<=Rows.uptoBulk x.1) {r:Reach} {b0:Nat} {v:Value} {d:DataW H} {p:List MemPlace} (hv:Value.okWide prog w r b0 t v) (h:DataW.Trod enc prog w 0 sp held t v d p):∃cs a,v=.agg cs.toArray/\R cs a/\c a<=Rows.uptoBulk d:=by
 obtain⟨cs,rfl,-⟩:=okWide_struct hu hv;obtain⟨fuel,i⟩:=h;obtain⟨a,g,j⟩:=op fuel cs.toList _ i;exact⟨cs.toList,a,by simp,g,j⟩
def yb (H:Type) (enc:TypeId×Value->H) (W:World) (base:Nat) (args:Array Value) (ds gs:List (DataW H)) (before:List MemPlace)
 (hval:∀(j:Nat) t v,f4.params[j]?=some t->args[j]?=some v->Value.okWide prog W .any base t v)
 (hW:DataW.Whole enc prog f4.params.toList Rows.coreReachSpec.vars false W args.toList ds gs before) (hL:laidMetH prog Rows.coreReachUptoRow.laid W) (hk:Rows.uptoSmall H (ds++gs)=true) :
 Calls prog 4 args W λe W'=>∃v,e=.returned v/\Rows.coreReachSpec.post enc prog f4 false true false false W args v W':=by
 have Y:=hW;obtain⟨p,q,k,hV,rfl,a8,a7⟩:=hW;have Z:DataW.TrodAll enc prog W 0 (λ_=>true) true f4.params.toList args.toList ds p:=k;rw[params4] at Z hval;obtain⟨O,a6,d0,bd,p0,X,ab,rfl,rfl,I,r0⟩:=trodAll_cons Z;obtain⟨N,a5,d1,bc,p1,V,rfl,rfl,rfl,G,r1⟩:=trodAll_cons r0;obtain⟨M,a4,d2,bb,p2,U,rfl,rfl,rfl,F,r2⟩:=trodAll_cons r1;obtain⟨L,a3,d3,ba,p3,T,rfl,rfl,rfl,E,r3⟩:=trodAll_cons r2;obtain⟨J,a2,d4,a9,p4,q4,rfl,rfl,rfl,D,r4⟩:=trodAll_cons r3;obtain⟨rfl,rfl,rfl⟩:=trodAll_nil r4;obtain rfl:args=#[O,N,M,L,J]:=by cases args;simp_all
 obtain⟨rfl,rfl⟩:=trodVars_none hV;obtain⟨A0,A1,A2,A3,X,V,U,T,g,rfl,aa,i⟩:=Ck (hval 0 27 O rfl rfl) I;have B:∀x∈p0,x.block<W:=λx hx=>by obtain⟨d,a⟩:=I;exact DataW.trod_lt _ _ _ _ a x hx
 obtain⟨cf,ef,rfl,rf,kf⟩:=BE underlying45 (R:=FnR W (lo W)) (c:=cFn) (λm _ _ y=>op_fn m y) (hval 1 45 N rfl rfl) G;have A:∀x∈p1,x.block<W:=λx hx=>by obtain⟨d,a⟩:=G;exact DataW.trod_lt _ _ _ _ a x hx
 obtain⟨cd,ed,rfl,rd,kd⟩:=BE underlying48 (R:=DclR W (lo W)) (c:=cDcl) (λm _ _ y=>op_dcl m y) (hval 2 48 M rfl rfl) F;have z:∀x∈p2,x.block<W:=λx hx=>by obtain⟨d,a⟩:=F;exact DataW.trod_lt _ _ _ _ a x hx
 obtain⟨ce,ee,rfl,re,ke⟩:=BE underlying50 (R:=EffR W (lo W)) (c:=cEff) (λm _ _ y=>op_eff m y) (hval 3 50 L rfl rfl) E;have u:∀x∈p3,x.block<W:=λx hx=>by obtain⟨d,a⟩:=E;exact DataW.trod_lt _ _ _ _ a x hx
 obtain⟨ca,ea,rfl,ra,ka⟩:=BE underlying54 (R:=AcR W (lo W)) (c:=cAc) (λm _ _ y=>op_ac m y) (hval 4 54 J rfl rfl) D;have r:∀x∈p4,x.block<W:=λx hx=>by obtain⟨d,a⟩:=D;exact DataW.trod_lt _ _ _ _ a x hx
 have hb:=of_decide_eq_true hk;simp only[List.append_nil,Rows.uptoBulkAll] at hb;clear k;have hR:=wj (table hL);have l:Calls prog 4 #[.agg #[.slice A0 g.types X,.slice A1 g.effects V,.slice A2 g.funs U,.slice A3 g.actors T],.agg cf.toArray,.agg cd.toArray,.agg ce.toArray,.agg ca.toArray] W λe w'=>e=.returned (true:Vl)/\Below W W w':=Cd hR aa rf rd re ra (by unfold cPg;simp only[sumN];unfold cPg at i;omega);refine l.mono λe W' ⟨he,bel⟩=>?_;subst he;exact⟨_,rfl,_,_,_,[],_,[],Y,trodAll_mk1 (shut_bool underlying4 _),(trodAll_cons_mk (Below.trod sn Δ (of_decide_eq_true Δ) I bel B) (trodAll_cons_mk (Below.trod sn Δ (of_decide_eq_true Δ) G bel A) (trodAll_cons_mk (Below.trod sn Δ (of_decide_eq_true Δ) F bel z) (trodAll_cons_mk (Below.trod sn Δ (of_decide_eq_true Δ) E bel u) (trodAll_cons_mk (Below.trod sn Δ (of_decide_eq_true Δ) D bel r) (trodAll_mk0)))))),rfl,bel.frame _,λh=>by cases h⟩
def witArgs:Array Value:=#[.agg #[(),(),(),()],.agg #[.string ⟨#[]⟩,(),(0:Int),.string ⟨#[]⟩,(),(0:Int),(0:Int),(0:Int),(0:Int),.string ⟨#[]⟩,()],.agg #[.string ⟨#[]⟩,false,()],.agg #[.string ⟨#[]⟩,(),(0:Int),.string ⟨#[]⟩,()],.agg #[.string ⟨#[]⟩,(),(0:Int),(),(),(0:Int),(0:Int)]]
def laid_met (os:Os):laidMet prog Rows.coreReachUptoRow.laid ((mO os).forCall (λ_ _=>0) ⟨#[],witArgs,[]⟩).memory:=
 laidMet_of_run' 8 Δ Δ
def reads (os:Os) {H:Type} (enc:TypeId×Value->H):∃places,DataW.whole enc prog ((mO os).forCall (λ_ _=>0) ⟨#[],witArgs,[]⟩).memory f4.params.toList Rows.coreReachSpec.vars false witArgs.toList 8=some ([.agg [.nil,.nil,.nil,.nil],.agg [.lit (.string []),.nil,.agg [.lit (.int .i64 0),.lit (.string []),.nil],.lit (.int .i64 0),.agg [.lit (.int .i64 0),.lit (.int .i64 0),.lit (.int .i64 0),.lit (.string []),.nil]],.agg [.lit (.string []),.lit (.bool false),.nil],.agg [.lit (.string []),.nil,.agg [.lit (.int .i64 0),.lit (.string []),.nil]],.agg [.lit (.string []),.nil,.lit (.int .i64 0),.nil,.nil,.lit (.int .i64 0),.lit (.int .i64 0)]],[],places):=
 ⟨[],by kernel_rfl⟩
def lifted (os:Os) (started:os.Started) (H:Type) (enc:TypeId×Value->H) (F:Stop.Interp) :
 ReturnsInHanded {} checked os 4 .any ((Rows.OpenSpec.upto Rows.coreReachSpec).preRow enc prog f4 Rows.coreReachUptoRow.domain false Rows.coreReachUptoRow.laid) (((Rows.OpenSpec.upto Rows.coreReachSpec).at F).post enc prog f4 false true false false):=by
 obtain⟨i,hx⟩:=reads os enc
 refine returnsInHanded_of_row (C:=checked) (s:=Rows.OpenSpec.upto Rows.coreReachSpec) own started Δ func4
  (witness_row_at (enc:=enc) (C:=checked) false (mO os) witArgs rfl Δ Δ Δ
    (OpenSpec.preRow_of_cond 8 hx Δ (λk hk=>by cases hk;kernel_rfl) Δ (laid_met os))) ?_
 intro W h args r q a g j _ d _ l _ _;exact yb H enc W h args r q a g j l (d _ rfl)
def said:Rows.CoreReachUptoSaid:=
 OpenClaim.holds_of_cond 4 f4 rfl rfl rfl rfl rfl rfl rfl ⟨rfl,rfl,rfl,rfl,rfl⟩ rfl rfl rfl rfl rfl Δ func4 Δ
  (of_decide_eq_true Δ) (by unfold Func.isWrapper;first|(rw[if_pos Γ];kernel_rfl)|(rw[if_neg Γ];exact⟨rfl,rfl⟩))
  (λos started H enc _ F=>by rw[OpenClaim.pre_eq_preRow];exact lifted os started H enc F)
def xL (f:FuncId) (fn:Func) (hf:Tryz.pinned.checked.prog.funcNamed "retroact/retroactlaw11.CoreReach" = some f) (hfn:Tryz.pinned.checked.prog.funcs[f]?=some fn) :
 false=Tryz.pinned.checked.prog.looks []/\∀(j:Nat) t,fn.params[j]?=some t->Tryz.pinned.checked.prog.wantsStandIn t=false:=by
 obtain rfl:f=4:=Option.some.inj ((show prog.funcNamed "retroact/retroactlaw11.CoreReach" = some 4 by kernel_rfl).symm.trans hf) |>.symm
 obtain rfl:fn=f4:=(Option.some.inj (func4.symm.trans hfn)).symm;refine⟨by kernel_rfl,λj t ht=>?_⟩;rw[params4] at ht;have d:=Array.mem_of_getElem? ht
 have a:∀t∈#[27,45,48,50,54],prog.wantsStandIn t=false:=by
  intro t h;simp at h;rcases h with rfl|rfl|rfl|rfl|rfl
  all_goals first|exact (show prog.wantsStandIn _=false by kernel_rfl)
 exact a t d
theorem card:Rows.CoreReachUptoCardSaid:=
 Claim7.holds_tied_plain_at .later [] _ _ _ _ said (λ_ h=>by cases h) Δ (λ_ h=>by cases h) coreReachUpto_row_tie rfl ⟨rfl,rfl⟩ Δ rfl xL Δ
#print axioms card
end coreReachDone
end Go.Proofs.YtjohpidklbhmcaaGreatDoor
