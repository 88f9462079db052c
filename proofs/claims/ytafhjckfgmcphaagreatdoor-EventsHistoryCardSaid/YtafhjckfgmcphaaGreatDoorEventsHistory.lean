/- The tied card of EventsHistory: the values after a pattern do not depend on the patterns before it, and going back changes the same nets again Conditions: those of the row, and no others. -/
import Derived.Test.YtafhjckfgmcphaaGreatDoorPkE
import Derived.Test.YtafhjckfgmcphaaGreatDoorPkF
set_option linter.unusedSimpArgs false
set_option linter.unusedVariables false
set_option maxRecDepth 100000
namespace Go.Proofs.YtafhjckfgmcphaaGreatDoor
open Go Go.Lg Go.ChangeShapes Go.WideShapes Go.ChangeAt Go.RowKit
theorem eventsHistory_contract (H:Type) (enc:TypeId×Value->H) (W:World) (base:Nat) (args:Array Value) (ds gs:List (DataW H)) (before:List MemPlace)
  (hval:∀ (j:Nat) t v,Tryz.f4.params[j]? = some t->args[j]? = some v->Value.okWide Tryz.prog W .any base t v)
  (hW:DataW.Whole enc Tryz.prog Tryz.f4.params.toList Rows.eventsHistorySpec.vars false W args.toList ds gs before) (hL:laidMetH Tryz.prog Rows.eventsHistoryRow.laid W) :
  Calls Tryz.prog 4 args W fun e W'=>∃ v,e=.returned v/\Rows.eventsHistorySpec.post enc Tryz.prog Tryz.f4 false true false false W args v W':=by
 have hW':=hW
 obtain⟨p,q,hA0,hV,rfl,_,_⟩:=hW
 have hA:DataW.TrodAll enc Tryz.prog W 0 (fun _=>true) true Tryz.f4.params.toList args.toList ds p:=hA0
 rw[Tryz.params4]at hA hval
 obtain⟨v0,v1,v2,d0,d1,d2,p0,p1,p2,rfl,rfl,rfl,h0,h1,h2⟩:=trodAll_three hA
 obtain⟨rfl,rfl⟩:=trodVars_none hV
 obtain⟨x0,hx0,hr0⟩:=qME (hval 0 27 v0 rfl rfl) h0
 obtain⟨x1,hx1,hr1⟩:=qMo (hval 1 55 v1 rfl rfl) h1
 obtain⟨x2,hx2,hr2⟩:=qMF (hval 2 29 v2 rfl rfl) h2
 have:=qKV qMa (qMi qMT x0 hx0 x1 hx1 x2 hx2) (qMU hL) (Fp.cons hr0 (Fp.cons hr1 (Fp.cons hr2 (Fp.nil W _))))
 refine this.mono fun e W' ⟨he,hb⟩=>⟨_,he,qLO qMD ?_ rfl rfl Tryz.underlying4 hW' rfl rfl rfl hb⟩
 rw[Tryz.params4]
 intro t ht
 simp at ht
 rcases ht with rfl|rfl|rfl
 ·exact⟨by kernel_rfl,of_decide_eq_true (by kernel_rfl)⟩
 ·exact⟨by kernel_rfl,of_decide_eq_true (by kernel_rfl)⟩
 ·exact⟨by kernel_rfl,of_decide_eq_true (by kernel_rfl)⟩
theorem eventsHistory_laid (os:Os):laidMet Tryz.prog Rows.eventsHistoryRow.laid ((qKZ os).forCall (fun _ _=>0) ⟨#[],#[c0,.slice none 0 0,.agg #[.slice none 0 0,.slice none 0 0]],[]⟩).memory :=
 laidMet_of_run' 8 (by kernel_rfl) (by kernel_rfl)
theorem eventsHistory_reads (os:Os) {H:Type} (enc:TypeId×Value->H):∃ places,DataW.whole enc Tryz.prog ((qKZ os).forCall (fun _ _=>0) ⟨#[],#[c0,.slice none 0 0,.agg #[.slice none 0 0,.slice none 0 0]],[]⟩).memory Tryz.f4.params.toList Rows.eventsHistorySpec.vars false (#[c0,.slice none 0 0,.agg #[.slice none 0 0,.slice none 0 0]]:Array Value).toList 8=some ([d0,.nil,.agg [.nil,.nil]],[],places) :=
 ⟨[],by kernel_rfl⟩
theorem eventsHistory_lifted (os:Os) (started:os.Started) (H:Type) (enc:TypeId×Value->H) (F:Stop.Interp) :
  ReturnsInHanded {} Tryz.checked os 4 .any ((OpenSpec.ofChange Rows.eventsHistorySpec).preRow enc Tryz.prog Tryz.f4 Rows.eventsHistoryRow.domain false Rows.eventsHistoryRow.laid) (((OpenSpec.ofChange Rows.eventsHistorySpec).at F).post enc Tryz.prog Tryz.f4 false true false false):=by
 obtain⟨places,hx⟩:=eventsHistory_reads os enc
 refine returnsInHanded_of_row (C:=Tryz.checked) (s:=OpenSpec.ofChange Rows.eventsHistorySpec) own started (by kernel_rfl) Tryz.func4
  (witness_row_at (enc:=enc) (C:=Tryz.checked) false (qKZ os) #[c0,.slice none 0 0,.agg #[.slice none 0 0,.slice none 0 0]] rfl (by kernel_rfl) (by kernel_rfl) (by kernel_rfl)
   (OpenSpec.preRow_of_cond 8 hx (by kernel_rfl) (fun k hk=>by cases hk) (by kernel_rfl) (eventsHistory_laid os))) ?_
 intro W base args ds gs before hval hW _ _ _ hL _ _
 exact eventsHistory_contract H enc W base args ds gs before hval hW hL
theorem eventsHistory_f1:(Rows.eventsHistoryRow.inPlace==Tryz.pinned.checked.prog.inPlace 4)=true:=by kernel_rfl
theorem eventsHistory_f2:(Rows.eventsHistoryRow.unfollowed==Tryz.pinned.checked.prog.unfollowed 4)=true:=by kernel_rfl
theorem eventsHistory_f3:(Rows.eventsHistoryRow.recurses==Tryz.pinned.checked.prog.recurses 4)=true:=by kernel_rfl
theorem eventsHistory_f4:(Rows.eventsHistoryRow.named==Tryz.pinned.checked.prog.varsNamed 4)=true:=by kernel_rfl
theorem eventsHistory_f5:laidOutB Tryz.pinned.checked.prog=true:=by kernel_rfl
theorem eventsHistory_f6:mapsRowed Tryz.pinned.checked.prog=true:=by kernel_rfl
theorem eventsHistory_f7:Tryz.pinned.checked.prog.stopsHeard=true:=by kernel_rfl
theorem eventsHistory_f8:Tryz.pinned.checked.prog.mayEnter=true:=by kernel_rfl
theorem eventsHistory_f9:(Rows.eventsHistoryRow.lifted==Tryz.pinned.checked.prog.liftsFinal)=true:=by kernel_rfl
theorem eventsHistory_f10:(Rows.eventsHistoryRow.plainKeys==Tryz.pinned.checked.prog.plainKeys)=true:=by kernel_rfl
theorem eventsHistory_f0:joinedFacts Tryz.pinned.checked.prog 4 Tryz.f4 (OpenSpec.ofChange Rows.eventsHistorySpec).bare Rows.eventsHistoryRow=true:=by
 simp only[joinedFacts,xqc]
 refine⟨⟨⟨⟨⟨⟨⟨⟨⟨⟨⟨⟨⟨⟨⟨⟨⟨⟨⟨⟨⟨⟨⟨⟨⟨⟨⟨⟨⟨⟨⟨?_,eventsHistory_f5⟩,eventsHistory_f6⟩,?_⟩,?_⟩,?_⟩,?_⟩,?_⟩,?_⟩,eventsHistory_f1⟩,eventsHistory_f2⟩,eventsHistory_f3⟩,eventsHistory_f4⟩,?_⟩,?_⟩,?_⟩,?_⟩,?_⟩,?_⟩,?_⟩,?_⟩,?_⟩,eventsHistory_f10⟩,?_⟩,eventsHistory_f7⟩,eventsHistory_f8⟩,eventsHistory_f9⟩,?_⟩,?_⟩,?_⟩,?_⟩,?_⟩<;>kernel_rfl
theorem eventsHistory_goes:false=Rows.eventsHistoryRow.goesBy Tryz.pinned.checked.prog:=by kernel_rfl
theorem eventsHistory_said:Rows.EventsHistorySaid :=
 OpenClaim.holds_of_cond 4 Tryz.f4 rfl rfl rfl rfl rfl rfl rfl ⟨rfl,rfl,rfl,rfl,rfl⟩ rfl rfl rfl rfl rfl (by kernel_rfl) Tryz.func4 eventsHistory_f0
  (of_decide_eq_true (by kernel_rfl)) (by unfold Func.isWrapper;first|(rw[if_pos (by decide +kernel)];kernel_rfl)|(rw[if_neg (by decide +kernel)];exact⟨rfl,rfl⟩))
  (fun os started H enc _ F=>by rw[OpenClaim.pre_eq_preRow];exact eventsHistory_lifted os started H enc F)
theorem eventsHistory_plain (f:FuncId) (fn:Func) (hf:Tryz.pinned.checked.prog.funcNamed "probecard/probecardlaw08.EventsHistory" = some f) (hfn:Tryz.pinned.checked.prog.funcs[f]? = some fn) :
  false=Tryz.pinned.checked.prog.looks []/\∀ (j:Nat) t,fn.params[j]? = some t->Tryz.pinned.checked.prog.wantsStandIn t=false:=by
 obtain rfl:f=4:=Option.some.inj ((show Tryz.prog.funcNamed "probecard/probecardlaw08.EventsHistory" = some 4 by kernel_rfl).symm.trans hf) |>.symm
 obtain rfl:fn=Tryz.f4:=(Option.some.inj (Tryz.func4.symm.trans hfn)).symm
 refine⟨by kernel_rfl,fun j t ht=>?_⟩
 rw[Tryz.params4]at ht
 have hm:t=27\/t=55\/t=29:=by simpa using Array.mem_of_getElem? ht
 rcases hm with rfl|rfl|rfl
 ·exact(show Tryz.prog.wantsStandIn 27=false by kernel_rfl)
 ·exact(show Tryz.prog.wantsStandIn 55=false by kernel_rfl)
 ·exact(show Tryz.prog.wantsStandIn 29=false by kernel_rfl)
theorem eventsHistory_card:Rows.EventsHistoryCardSaid :=
 Claim7.holds_tied_plain_at .later [] _ _ _ _ eventsHistory_said (fun _ h=>by cases h) (by kernel_rfl) (fun _ h=>by cases h) eventsHistory_row_tie rfl ⟨rfl,rfl⟩ (by kernel_rfl) rfl eventsHistory_plain eventsHistory_goes
#print axioms eventsHistory_card
end Go.Proofs.YtafhjckfgmcphaaGreatDoor
