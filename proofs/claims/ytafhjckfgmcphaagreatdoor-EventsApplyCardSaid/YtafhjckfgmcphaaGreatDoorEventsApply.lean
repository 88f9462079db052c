/- The tied card of EventsApply: after every pattern of a sequence the simulator by events shows the nets and the response of sims.Run, and Apply has returned the nets that changed Conditions: those of the row, and no others. -/
import Derived.Test.YtafhjckfgmcphaaGreatDoorPkE
import Derived.Test.YtafhjckfgmcphaaGreatDoorPkG
set_option linter.unusedSimpArgs false
set_option linter.unusedVariables false
set_option maxRecDepth 100000
namespace Go.Proofs.YtafhjckfgmcphaaGreatDoor
open Go Go.Lg Go.ChangeShapes Go.WideShapes Go.ChangeAt Go.RowKit
theorem eventsApply_contract (H:Type) (enc:TypeId×Value->H) (W:World) (base:Nat) (args:Array Value) (ds gs:List (DataW H)) (before:List MemPlace)
  (hval:∀ (j:Nat) t v,Tryz.f5.params[j]? = some t->args[j]? = some v->Value.okWide Tryz.prog W .any base t v)
  (hW:DataW.Whole enc Tryz.prog Tryz.f5.params.toList Rows.eventsApplySpec.vars false W args.toList ds gs before) (hL:laidMetH Tryz.prog Rows.eventsApplyRow.laid W) :
  Calls Tryz.prog 5 args W fun e W'=>∃ v,e=.returned v/\Rows.eventsApplySpec.post enc Tryz.prog Tryz.f5 false true false false W args v W':=by
 have hW':=hW
 obtain⟨p,q,hA0,hV,rfl,_,_⟩:=hW
 have hA:DataW.TrodAll enc Tryz.prog W 0 (fun _=>true) true Tryz.f5.params.toList args.toList ds p:=hA0
 rw[Tryz.params5]at hA hval
 obtain⟨v0,v1,d0,d1,p0,p1,rfl,rfl,rfl,h0,h1⟩:=trodAll_two hA
 obtain⟨rfl,rfl⟩:=trodVars_none hV
 obtain⟨x0,hx0,hr0⟩:=qQK (hval 0 27 v0 rfl rfl) h0
 obtain⟨x1,hx1,hr1⟩:=qPX (hval 1 55 v1 rfl rfl) h1
 have:=qOa q38 (qKJ qQY x0 hx0 x1 hx1) (qQZ hL) (Gj.cons hr0 (Gj.cons hr1 (Gj.nil W _)))
 refine this.mono fun e W' ⟨he,hb⟩=>⟨_,he,qPS qQJ ?_ rfl rfl Tryz.underlying4 hW' rfl rfl rfl hb⟩
 rw[Tryz.params5]
 intro t ht
 simp at ht
 rcases ht with rfl|rfl
 ·exact⟨by kernel_rfl,of_decide_eq_true (by kernel_rfl)⟩
 ·exact⟨by kernel_rfl,of_decide_eq_true (by kernel_rfl)⟩
theorem eventsApply_laid (os:Os):laidMet Tryz.prog Rows.eventsApplyRow.laid ((qOd os).forCall (fun _ _=>0) ⟨#[],#[c0,.slice none 0 0],[]⟩).memory :=
 laidMet_of_run' 8 (by kernel_rfl) (by kernel_rfl)
theorem eventsApply_reads (os:Os) {H:Type} (enc:TypeId×Value->H):∃ places,DataW.whole enc Tryz.prog ((qOd os).forCall (fun _ _=>0) ⟨#[],#[c0,.slice none 0 0],[]⟩).memory Tryz.f5.params.toList Rows.eventsApplySpec.vars false (#[c0,.slice none 0 0]:Array Value).toList 8=some ([d0,.nil],[],places) :=
 ⟨[],by kernel_rfl⟩
theorem eventsApply_lifted (os:Os) (started:os.Started) (H:Type) (enc:TypeId×Value->H) (F:Stop.Interp) :
  ReturnsInHanded {} Tryz.checked os 5 .any ((OpenSpec.ofChange Rows.eventsApplySpec).preRow enc Tryz.prog Tryz.f5 Rows.eventsApplyRow.domain false Rows.eventsApplyRow.laid) (((OpenSpec.ofChange Rows.eventsApplySpec).at F).post enc Tryz.prog Tryz.f5 false true false false):=by
 obtain⟨places,hx⟩:=eventsApply_reads os enc
 refine returnsInHanded_of_row (C:=Tryz.checked) (s:=OpenSpec.ofChange Rows.eventsApplySpec) own started (by kernel_rfl) Tryz.func5
  (witness_row_at (enc:=enc) (C:=Tryz.checked) false (qOd os) #[c0,.slice none 0 0] rfl (by kernel_rfl) (by kernel_rfl) (by kernel_rfl)
   (OpenSpec.preRow_of_cond 8 hx (by kernel_rfl) (fun k hk=>by cases hk) (by kernel_rfl) (eventsApply_laid os))) ?_
 intro W base args ds gs before hval hW _ _ _ hL _ _
 exact eventsApply_contract H enc W base args ds gs before hval hW hL
theorem eventsApply_f1:(Rows.eventsApplyRow.inPlace==Tryz.pinned.checked.prog.inPlace 5)=true:=by kernel_rfl
theorem eventsApply_f2:(Rows.eventsApplyRow.unfollowed==Tryz.pinned.checked.prog.unfollowed 5)=true:=by kernel_rfl
theorem eventsApply_f3:(Rows.eventsApplyRow.recurses==Tryz.pinned.checked.prog.recurses 5)=true:=by kernel_rfl
theorem eventsApply_f4:(Rows.eventsApplyRow.named==Tryz.pinned.checked.prog.varsNamed 5)=true:=by kernel_rfl
theorem eventsApply_f5:laidOutB Tryz.pinned.checked.prog=true:=by kernel_rfl
theorem eventsApply_f6:mapsRowed Tryz.pinned.checked.prog=true:=by kernel_rfl
theorem eventsApply_f7:Tryz.pinned.checked.prog.stopsHeard=true:=by kernel_rfl
theorem eventsApply_f8:Tryz.pinned.checked.prog.mayEnter=true:=by kernel_rfl
theorem eventsApply_f9:(Rows.eventsApplyRow.lifted==Tryz.pinned.checked.prog.liftsFinal)=true:=by kernel_rfl
theorem eventsApply_f10:(Rows.eventsApplyRow.plainKeys==Tryz.pinned.checked.prog.plainKeys)=true:=by kernel_rfl
theorem eventsApply_f0:joinedFacts Tryz.pinned.checked.prog 5 Tryz.f5 (OpenSpec.ofChange Rows.eventsApplySpec).bare Rows.eventsApplyRow=true:=by
 simp only[joinedFacts,xqc]
 refine⟨⟨⟨⟨⟨⟨⟨⟨⟨⟨⟨⟨⟨⟨⟨⟨⟨⟨⟨⟨⟨⟨⟨⟨⟨⟨⟨⟨⟨⟨⟨?_,eventsApply_f5⟩,eventsApply_f6⟩,?_⟩,?_⟩,?_⟩,?_⟩,?_⟩,?_⟩,eventsApply_f1⟩,eventsApply_f2⟩,eventsApply_f3⟩,eventsApply_f4⟩,?_⟩,?_⟩,?_⟩,?_⟩,?_⟩,?_⟩,?_⟩,?_⟩,?_⟩,eventsApply_f10⟩,?_⟩,eventsApply_f7⟩,eventsApply_f8⟩,eventsApply_f9⟩,?_⟩,?_⟩,?_⟩,?_⟩,?_⟩<;>kernel_rfl
theorem eventsApply_goes:false=Rows.eventsApplyRow.goesBy Tryz.pinned.checked.prog:=by kernel_rfl
theorem eventsApply_said:Rows.EventsApplySaid :=
 OpenClaim.holds_of_cond 5 Tryz.f5 rfl rfl rfl rfl rfl rfl rfl ⟨rfl,rfl,rfl,rfl,rfl⟩ rfl rfl rfl rfl rfl (by kernel_rfl) Tryz.func5 eventsApply_f0
  (of_decide_eq_true (by kernel_rfl)) (by unfold Func.isWrapper;first|(rw[if_pos (by decide +kernel)];kernel_rfl)|(rw[if_neg (by decide +kernel)];exact⟨rfl,rfl⟩))
  (fun os started H enc _ F=>by rw[OpenClaim.pre_eq_preRow];exact eventsApply_lifted os started H enc F)
theorem eventsApply_plain (f:FuncId) (fn:Func) (hf:Tryz.pinned.checked.prog.funcNamed "probecard/probecardlaw08.EventsApply" = some f) (hfn:Tryz.pinned.checked.prog.funcs[f]? = some fn) :
  false=Tryz.pinned.checked.prog.looks []/\∀ (j:Nat) t,fn.params[j]? = some t->Tryz.pinned.checked.prog.wantsStandIn t=false:=by
 obtain rfl:f=5:=Option.some.inj ((show Tryz.prog.funcNamed "probecard/probecardlaw08.EventsApply" = some 5 by kernel_rfl).symm.trans hf) |>.symm
 obtain rfl:fn=Tryz.f5:=(Option.some.inj (Tryz.func5.symm.trans hfn)).symm
 refine⟨by kernel_rfl,fun j t ht=>?_⟩
 rw[Tryz.params5]at ht
 have hm:t=27\/t=55:=by simpa using Array.mem_of_getElem? ht
 rcases hm with rfl|rfl
 ·exact(show Tryz.prog.wantsStandIn 27=false by kernel_rfl)
 ·exact(show Tryz.prog.wantsStandIn 55=false by kernel_rfl)
theorem eventsApply_card:Rows.EventsApplyCardSaid :=
 Claim7.holds_tied_plain_at .later [] _ _ _ _ eventsApply_said (fun _ h=>by cases h) (by kernel_rfl) (fun _ h=>by cases h) eventsApply_row_tie rfl ⟨rfl,rfl⟩ (by kernel_rfl) rfl eventsApply_plain eventsApply_goes
#print axioms eventsApply_card
end Go.Proofs.YtafhjckfgmcphaaGreatDoor
