/- CoreForms (its tied card, second form): For all programs and all integers the law CoreForms returns true, and its arguments read as before. Conditions: the card's own (the table of round constants of sum reads as the program's text lays it; the arguments are together of bulk at most 1048576). -/
import Derived.Test.YtjohpidklbhmcaaGreatDoorZ44
import Derived.Test.YtjohpidklbhmcaaGreatDoorZ43
namespace Go.Proofs.YtjohpidklbhmcaaGreatDoor
set_option linter.all false
open Go.Proofs.Tryz
namespace coreFormsDone
set_option maxRecDepth 100000
set_option maxHeartbeats 16000000
open Go.ChangeShapes Go.WideShapes Go.ChangeAt Go.RowKit
def table {W:World} (h:laidMetH prog Rows.coreFormsUptoRow.laid W):Lib.TabIs prog W "retroact/sum.rounds" .u32 ShaT.kcs:=
 Lib.tabIs_of_head (rest:=[]) gTab gTabType underlying212 underlying180 cells180 cells212 h
def yb (H:Type) (enc:TypeId×Value->H) (W:World) (base:Nat) (args:Array Value) (ds gs:List (DataW H)) (before:List MemPlace)
 (hval:∀(j:Nat) t v,f6.params[j]?=some t->args[j]?=some v->Value.okWide prog W .any base t v)
 (hW:DataW.Whole enc prog f6.params.toList Rows.coreFormsSpec.vars false W args.toList ds gs before) (hL:laidMetH prog Rows.coreFormsUptoRow.laid W) (hk:Rows.uptoSmall H (ds++gs)=true) :
 Calls prog 6 args W λe W'=>∃v,e=.returned v/\Rows.coreFormsSpec.post enc prog f6 false true false false W args v W':=by
 have z:=hW;obtain⟨p,q,d,R,rfl,af,ae⟩:=hW;have A:DataW.TrodAll enc prog W 0 (λ_=>true) true f6.params.toList args.toList ds p:=d;rw[params6] at A hval;obtain⟨r,ad,d0,ah,M,y,E,rfl,rfl,k,I⟩:=trodAll_cons A;obtain⟨l,ac,d1,ag,p1,u,rfl,rfl,rfl,U,G⟩:=trodAll_cons I;obtain⟨rfl,rfl,rfl⟩:=trodAll_nil G;obtain rfl:args=#[r,l]:=by cases args;simp_all
 obtain⟨rfl,rfl⟩:=trodVars_none R;obtain⟨A0,A1,Z,Y,y,u,L,J,a,rfl,B,D⟩:=open_pg (hval 0 27 r rfl rfl) k;have i:∀x∈M,x.block<W.heap.size:=λx hx=>by obtain⟨V,N⟩:=k;exact DataW.trod_lt _ _ _ _ N x hx
 obtain⟨X,rfl,rfl,rfl,F⟩:=open_int underlying3 (hval 1 3 l rfl rfl) U;have O:=of_decide_eq_true hk;simp only[List.append_nil,Rows.uptoBulkAll] at O;clear d;have T:=wj (table hL);have g:Calls prog 6 #[.agg #[.slice A0 a.types.length y,.slice A1 a.effects.length u,.slice Z a.funs.length L,.slice Y a.actors.length J],.int .i64 X] W λe w'=>e=.returned (.bool true)/\Below W.heap.size W w':=tW T B (pg_small ω);refine g.mono λe W' ⟨he,bel⟩=>?_;subst he;exact⟨_,rfl,_,_,_,[],_,[],z,trodAll_mk1 (shut_bool underlying4 _),(trodAll_cons_mk (Below.trod laidOut (by kernel_rfl) (of_decide_eq_true (by kernel_rfl)) k bel i) (trodAll_cons_mk (shut_int underlying3 F) trodAll_mk0)),rfl,bel.frame _,λh=>by cases h⟩
def witArgs:Array Value:=#[.agg #[.slice none 0 0,.slice none 0 0,.slice none 0 0,.slice none 0 0],.int .i64 0]
def laid_met (os:Os):laidMet prog Rows.coreFormsUptoRow.laid ((mO os).forCall (λ_ _=>0) ⟨#[],witArgs,[]⟩).memory:=
 laidMet_of_run' 8 (by kernel_rfl) (by kernel_rfl)
def reads (os:Os) {H:Type} (enc:TypeId×Value->H):∃places,DataW.whole enc prog ((mO os).forCall (λ_ _=>0) ⟨#[],witArgs,[]⟩).memory f6.params.toList Rows.coreFormsSpec.vars false witArgs.toList 8=some ([.agg [.nil,.nil,.nil,.nil],.lit (.int .i64 0)],[],places):=
 ⟨[],by kernel_rfl⟩
def lifted (os:Os) (started:os.Started) (H:Type) (enc:TypeId×Value->H) (F:Stop.Interp) :
 ReturnsInHanded {} checked os 6 .any ((Rows.OpenSpec.upto Rows.coreFormsSpec).preRow enc prog f6 Rows.coreFormsUptoRow.domain false Rows.coreFormsUptoRow.laid) (((Rows.OpenSpec.upto Rows.coreFormsSpec).at F).post enc prog f6 false true false false):=by
 obtain⟨i,hx⟩:=reads os enc
 refine returnsInHanded_of_row (C:=checked) (s:=Rows.OpenSpec.upto Rows.coreFormsSpec) own started (by kernel_rfl) func6
  (witness_row_at (enc:=enc) (C:=checked) false (mO os) witArgs rfl (by kernel_rfl) (by kernel_rfl) (by kernel_rfl)
    (OpenSpec.preRow_of_cond 8 hx (by kernel_rfl) (λk hk=>by cases hk;kernel_rfl) (by kernel_rfl) (laid_met os))) ?_
 intro W h args r q a g j _ d _ l _ _;exact yb H enc W h args r q a g j l (d _ rfl)
def said:Rows.CoreFormsUptoSaid:=
 OpenClaim.holds_of_cond 6 f6 rfl rfl rfl rfl rfl rfl rfl ⟨rfl,rfl,rfl,rfl,rfl⟩ rfl rfl rfl rfl rfl (by kernel_rfl) func6 (by kernel_rfl)
  (of_decide_eq_true (by kernel_rfl)) (by unfold Func.isWrapper;first|(rw[if_pos (by decide +kernel)];kernel_rfl)|(rw[if_neg (by decide +kernel)];exact⟨rfl,rfl⟩))
  (λos started H enc _ F=>by rw[OpenClaim.pre_eq_preRow];exact lifted os started H enc F)
def xL (f:FuncId) (fn:Func) (hf:Tryz.pinned.checked.prog.funcNamed "retroact/retroactlaw11.CoreForms" = some f) (hfn:Tryz.pinned.checked.prog.funcs[f]?=some fn) :
 false=Tryz.pinned.checked.prog.looks []/\∀(j:Nat) t,fn.params[j]?=some t->Tryz.pinned.checked.prog.wantsStandIn t=false:=by
 obtain rfl:f=6:=Option.some.inj ((show prog.funcNamed "retroact/retroactlaw11.CoreForms" = some 6 by kernel_rfl).symm.trans hf) |>.symm
 obtain rfl:fn=f6:=(Option.some.inj (func6.symm.trans hfn)).symm;refine⟨by kernel_rfl,λj t ht=>?_⟩;rw[params6] at ht;have d:=Array.mem_of_getElem? ht
 have a:∀t∈#[27,3],prog.wantsStandIn t=false:=by
  intro t h;simp at h;rcases h with rfl|rfl
  all_goals first|exact (show prog.wantsStandIn _=false by kernel_rfl)
 exact a t d
theorem card:Rows.CoreFormsUptoCardSaid:=
 Claim7.holds_tied_plain_at .later [] _ _ _ _ said (λ_ h=>by cases h) (by kernel_rfl) (λ_ h=>by cases h) coreFormsUpto_row_tie rfl ⟨rfl,rfl⟩ (by kernel_rfl) rfl xL (by kernel_rfl)
#print axioms card
end coreFormsDone
end Go.Proofs.YtjohpidklbhmcaaGreatDoor
