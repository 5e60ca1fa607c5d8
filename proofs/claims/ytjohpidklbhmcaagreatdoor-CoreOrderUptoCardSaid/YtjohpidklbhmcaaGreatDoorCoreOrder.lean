/- CoreOrder (its tied card, second form): For all programs the law CoreOrder returns true, and its argument reads as before. Conditions: the card's own (the table of round constants of sum reads as the program's text lays it; the arguments are together of bulk at most 1048576). -/
import Derived.Test.YtjohpidklbhmcaaGreatDoorZ44
namespace Go.Proofs.YtjohpidklbhmcaaGreatDoor
set_option linter.all false
open Proofs.Tryz
namespace coreOrderDone
set_option maxRecDepth 100000
set_option maxHeartbeats 2000000
open Go.ChangeShapes Go.WideShapes Go.ChangeAt Go.RowKit
def table {W:À} (h:laidMetH prog Rows.coreOrderUptoRow.laid W):Lib.TabIs prog W "retroact/sum.rounds" .u32 ShaT.kcs:=
 Lib.tabIs_of_head (rest:=[]) gTab Ca underlying212 underlying180 Cc Cb h
def yb (H:Type) (enc:TypeId×Value->H) (W:À) (base:Nat) (args:Array Value) (ds gs:List (DataW H)) (before:List MemPlace)
 (hval:∀(j:Nat) t v,f5.params[j]?=some t->args[j]?=some v->Value.okWide prog W .any base t v)
 (hW:DataW.Whole enc prog f5.params.toList Rows.coreOrderSpec.vars false W args.toList ds gs before) (hL:laidMetH prog Rows.coreOrderUptoRow.laid W) (hk:Rows.uptoSmall H (ds++gs)=true) :
 Calls prog 5 args W λe W'=>∃v,e=.returned v/\Rows.coreOrderSpec.post enc prog f5 false true false false W args v W':=by
 have u:=hW;obtain⟨p,q,d,M,rfl,Z,Y⟩:=hW;have y:DataW.TrodAll enc prog W 0 (λ_=>true) true f5.params.toList args.toList ds p:=d;rw[params5] at y hval;obtain⟨l,X,d0,aa,I,r,B,rfl,rfl,k,D⟩:=trodAll_cons y;obtain⟨rfl,rfl,rfl⟩:=trodAll_nil D;obtain rfl:args=#[l]:=by cases args;simp_all
 obtain⟨rfl,rfl⟩:=trodVars_none M;obtain⟨V,U,T,R,r,G,F,E,a,rfl,z,A⟩:=Ck (hval 0 27 l rfl rfl) k;have i:∀x∈I,x.block<W:=λx hx=>by obtain⟨O,J⟩:=k;exact DataW.trod_lt _ _ _ _ J x hx
 have L:=of_decide_eq_true hk;simp only[List.append_nil,Rows.uptoBulkAll] at L;have N:=wj (table hL);have g:Calls prog 5 #[.agg #[.slice V a.types r,.slice U a.effects G,.slice T a.funs F,.slice R a.actors E]] W λe w'=>e=.returned (true:Vl)/\Below W W w':=Ce N z ω;refine g.mono λe W' ⟨he,bel⟩=>?_;subst he;exact⟨_,rfl,_,_,_,[],_,[],u,trodAll_mk1 (shut_bool underlying4 _),(trodAll_cons_mk (Below.trod sn Δ (of_decide_eq_true Δ) k bel i) trodAll_mk0),rfl,bel.frame _,λh=>by cases h⟩
def witArgs:Array Value:=#[.agg #[(),(),(),()]]
def laid_met (os:Os):laidMet prog Rows.coreOrderUptoRow.laid ((mO os).forCall (λ_ _=>0) ⟨#[],witArgs,[]⟩).memory:=
 laidMet_of_run' 8 Δ Δ
def reads (os:Os) {H:Type} (enc:TypeId×Value->H):∃places,DataW.whole enc prog ((mO os).forCall (λ_ _=>0) ⟨#[],witArgs,[]⟩).memory f5.params.toList Rows.coreOrderSpec.vars false witArgs.toList 8=some ([.agg [.nil,.nil,.nil,.nil]],[],places):=
 ⟨[],by kernel_rfl⟩
def lifted (os:Os) (started:os.Started) (H:Type) (enc:TypeId×Value->H) (F:Stop.Interp) :
 ReturnsInHanded {} checked os 5 .any ((Rows.OpenSpec.upto Rows.coreOrderSpec).preRow enc prog f5 Rows.coreOrderUptoRow.domain false Rows.coreOrderUptoRow.laid) (((Rows.OpenSpec.upto Rows.coreOrderSpec).at F).post enc prog f5 false true false false):=by
 obtain⟨i,hx⟩:=reads os enc
 refine returnsInHanded_of_row (C:=checked) (s:=Rows.OpenSpec.upto Rows.coreOrderSpec) own started Δ func5
  (witness_row_at (enc:=enc) (C:=checked) false (mO os) witArgs rfl Δ Δ Δ
    (OpenSpec.preRow_of_cond 8 hx Δ (λk hk=>by cases hk;kernel_rfl) Δ (laid_met os))) ?_
 intro W h args r q a g j _ d _ l _ _;exact yb H enc W h args r q a g j l (d _ rfl)
def said:Rows.CoreOrderUptoSaid:=
 OpenClaim.holds_of_cond 5 f5 rfl rfl rfl rfl rfl rfl rfl ⟨rfl,rfl,rfl,rfl,rfl⟩ rfl rfl rfl rfl rfl Δ func5 Δ
  (of_decide_eq_true Δ) (by unfold Func.isWrapper;first|(rw[if_pos Γ];kernel_rfl)|(rw[if_neg Γ];exact⟨rfl,rfl⟩))
  (λos started H enc _ F=>by rw[OpenClaim.pre_eq_preRow];exact lifted os started H enc F)
def xL (f:FuncId) (fn:Func) (hf:Tryz.pinned.checked.prog.funcNamed "retroact/retroactlaw11.CoreOrder" = some f) (hfn:Tryz.pinned.checked.prog.funcs[f]?=some fn) :
 false=Tryz.pinned.checked.prog.looks []/\∀(j:Nat) t,fn.params[j]?=some t->Tryz.pinned.checked.prog.wantsStandIn t=false:=by
 obtain rfl:f=5:=Option.some.inj ((show prog.funcNamed "retroact/retroactlaw11.CoreOrder" = some 5 by kernel_rfl).symm.trans hf) |>.symm
 obtain rfl:fn=f5:=(Option.some.inj (func5.symm.trans hfn)).symm;refine⟨by kernel_rfl,λj t ht=>?_⟩;rw[params5] at ht;have d:=Array.mem_of_getElem? ht
 have a:∀t∈#[27],prog.wantsStandIn t=false:=by
  intro t h;simp at h;rcases h with rfl
  all_goals first|exact (show prog.wantsStandIn _=false by kernel_rfl)
 exact a t d
theorem card:Rows.CoreOrderUptoCardSaid:=
 Claim7.holds_tied_plain_at .later [] _ _ _ _ said (λ_ h=>by cases h) Δ (λ_ h=>by cases h) coreOrderUpto_row_tie rfl ⟨rfl,rfl⟩ Δ rfl xL Δ
#print axioms card
end coreOrderDone
