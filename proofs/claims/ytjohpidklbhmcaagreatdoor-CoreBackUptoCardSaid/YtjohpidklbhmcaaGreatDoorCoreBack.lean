/- CoreBack (its tied card, second form): For all programs the law CoreBack returns true, and its argument reads as before. Conditions: the card's own (the table of round constants of sum reads as the program's text lays it; the arguments are together of bulk at most 1048576). -/
import Derived.Test.YtjohpidklbhmcaaGreatDoorZ44
import Derived.Test.YtjohpidklbhmcaaGreatDoorZ43
namespace Go.Proofs.YtjohpidklbhmcaaGreatDoor
set_option linter.all false
open Go.Proofs.Tryz
namespace coreBackDone
set_option maxRecDepth 100000
set_option maxHeartbeats 16000000
open Go.ChangeShapes Go.WideShapes Go.ChangeAt Go.RowKit
def table {W:World} (h:laidMetH prog Rows.coreBackUptoRow.laid W):Lib.TabIs prog W "retroact/sum.rounds" .u32 ShaT.kcs:=
 Lib.tabIs_of_head (rest:=[]) gTab gTabType underlying212 underlying180 cells180 cells212 h
def yb (H:Type) (enc:TypeId×Value->H) (W:World) (base:Nat) (args:Array Value) (ds gs:List (DataW H)) (before:List MemPlace)
 (hval:∀(j:Nat) t v,f3.params[j]?=some t->args[j]?=some v->Value.okWide prog W .any base t v)
 (hW:DataW.Whole enc prog f3.params.toList Rows.coreBackSpec.vars false W args.toList ds gs before) (hL:laidMetH prog Rows.coreBackUptoRow.laid W) (hk:Rows.uptoSmall H (ds++gs)=true) :
 Calls prog 3 args W λe W'=>∃v,e=.returned v/\Rows.coreBackSpec.post enc prog f3 false true false false W args v W':=by
 have u:=hW;obtain⟨p,q,d,M,rfl,Z,Y⟩:=hW;have y:DataW.TrodAll enc prog W 0 (λ_=>true) true f3.params.toList args.toList ds p:=d;rw[params3] at y hval;obtain⟨l,X,d0,aa,I,r,B,rfl,rfl,k,D⟩:=trodAll_cons y;obtain⟨rfl,rfl,rfl⟩:=trodAll_nil D;obtain rfl:args=#[l]:=by cases args;simp_all
 obtain⟨rfl,rfl⟩:=trodVars_none M;obtain⟨V,U,T,R,r,G,F,E,a,rfl,z,A⟩:=open_pg (hval 0 27 l rfl rfl) k;have i:∀x∈I,x.block<W.heap.size:=λx hx=>by obtain⟨O,J⟩:=k;exact DataW.trod_lt _ _ _ _ J x hx
 have L:=of_decide_eq_true hk;simp only[List.append_nil,Rows.uptoBulkAll] at L;clear d;have N:=wj (table hL);have g:Calls prog 3 #[.agg #[.slice V a.types.length r,.slice U a.effects.length G,.slice T a.funs.length F,.slice R a.actors.length E]] W λe w'=>e=.returned (.bool true)/\Below W.heap.size W w':=Bj N z (pg_small ω);refine g.mono λe W' ⟨he,bel⟩=>?_;subst he;exact⟨_,rfl,_,_,_,[],_,[],u,trodAll_mk1 (shut_bool underlying4 _),(trodAll_cons_mk (Below.trod laidOut (by kernel_rfl) (of_decide_eq_true (by kernel_rfl)) k bel i) trodAll_mk0),rfl,bel.frame _,λh=>by cases h⟩
def witArgs:Array Value:=#[.agg #[.slice none 0 0,.slice none 0 0,.slice none 0 0,.slice none 0 0]]
def laid_met (os:Os):laidMet prog Rows.coreBackUptoRow.laid ((mO os).forCall (λ_ _=>0) ⟨#[],witArgs,[]⟩).memory:=
 laidMet_of_run' 8 (by kernel_rfl) (by kernel_rfl)
def reads (os:Os) {H:Type} (enc:TypeId×Value->H):∃places,DataW.whole enc prog ((mO os).forCall (λ_ _=>0) ⟨#[],witArgs,[]⟩).memory f3.params.toList Rows.coreBackSpec.vars false witArgs.toList 8=some ([.agg [.nil,.nil,.nil,.nil]],[],places):=
 ⟨[],by kernel_rfl⟩
def lifted (os:Os) (started:os.Started) (H:Type) (enc:TypeId×Value->H) (F:Stop.Interp) :
 ReturnsInHanded {} checked os 3 .any ((Rows.OpenSpec.upto Rows.coreBackSpec).preRow enc prog f3 Rows.coreBackUptoRow.domain false Rows.coreBackUptoRow.laid) (((Rows.OpenSpec.upto Rows.coreBackSpec).at F).post enc prog f3 false true false false):=by
 obtain⟨i,hx⟩:=reads os enc
 refine returnsInHanded_of_row (C:=checked) (s:=Rows.OpenSpec.upto Rows.coreBackSpec) own started (by kernel_rfl) func3
  (witness_row_at (enc:=enc) (C:=checked) false (mO os) witArgs rfl (by kernel_rfl) (by kernel_rfl) (by kernel_rfl)
    (OpenSpec.preRow_of_cond 8 hx (by kernel_rfl) (λk hk=>by cases hk;kernel_rfl) (by kernel_rfl) (laid_met os))) ?_
 intro W h args r q a g j _ d _ l _ _;exact yb H enc W h args r q a g j l (d _ rfl)
def said:Rows.CoreBackUptoSaid:=
 OpenClaim.holds_of_cond 3 f3 rfl rfl rfl rfl rfl rfl rfl ⟨rfl,rfl,rfl,rfl,rfl⟩ rfl rfl rfl rfl rfl (by kernel_rfl) func3 (by kernel_rfl)
  (of_decide_eq_true (by kernel_rfl)) (by unfold Func.isWrapper;first|(rw[if_pos (by decide +kernel)];kernel_rfl)|(rw[if_neg (by decide +kernel)];exact⟨rfl,rfl⟩))
  (λos started H enc _ F=>by rw[OpenClaim.pre_eq_preRow];exact lifted os started H enc F)
def xL (f:FuncId) (fn:Func) (hf:Tryz.pinned.checked.prog.funcNamed "retroact/retroactlaw11.CoreBack" = some f) (hfn:Tryz.pinned.checked.prog.funcs[f]?=some fn) :
 false=Tryz.pinned.checked.prog.looks []/\∀(j:Nat) t,fn.params[j]?=some t->Tryz.pinned.checked.prog.wantsStandIn t=false:=by
 obtain rfl:f=3:=Option.some.inj ((show prog.funcNamed "retroact/retroactlaw11.CoreBack" = some 3 by kernel_rfl).symm.trans hf) |>.symm
 obtain rfl:fn=f3:=(Option.some.inj (func3.symm.trans hfn)).symm;refine⟨by kernel_rfl,λj t ht=>?_⟩;rw[params3] at ht;have d:=Array.mem_of_getElem? ht
 have a:∀t∈#[27],prog.wantsStandIn t=false:=by
  intro t h;simp at h;rcases h with rfl
  all_goals first|exact (show prog.wantsStandIn _=false by kernel_rfl)
 exact a t d
theorem card:Rows.CoreBackUptoCardSaid:=
 Claim7.holds_tied_plain_at .later [] _ _ _ _ said (λ_ h=>by cases h) (by kernel_rfl) (λ_ h=>by cases h) coreBackUpto_row_tie rfl ⟨rfl,rfl⟩ (by kernel_rfl) rfl xL (by kernel_rfl)
#print axioms card
end coreBackDone
end Go.Proofs.YtjohpidklbhmcaaGreatDoor
