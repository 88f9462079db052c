/- The tied card of EventsCone: every net that changes is in the fanout cone of an input or a state that changes; every circuit of C without memory, any two patterns. Conditions: those of the row, and no others. -/
import Derived.Test.YtafhjckfgmcphaaGreatDoorPkE
import Derived.Test.YtafhjckfgmcphaaGreatDoorPkG
set_option linter.unusedSimpArgs false
set_option linter.unusedVariables false
set_option maxRecDepth 100000
namespace Go.Proofs.YtafhjckfgmcphaaGreatDoor
open Go Go.Lg Go.ChangeShapes Go.WideShapes Go.ChangeAt Go.RowKit
theorem eventsCone_contract (H:Type) (enc:TypeId×Value->H) (W:World) (base:Nat) (args:Array Value) (ds gs:List (DataW H)) (before:List MemPlace)
  (hval:∀ (j:Nat) t v,Tryz.f8.params[j]? = some t->args[j]? = some v->Value.okWide Tryz.prog W .any base t v)
  (hW:DataW.Whole enc Tryz.prog Tryz.f8.params.toList Rows.eventsConeSpec.vars false W args.toList ds gs before) (hL:laidMetH Tryz.prog Rows.eventsConeRow.laid W) :
  Calls Tryz.prog 8 args W fun e W'=>∃ v,e=.returned v/\Rows.eventsConeSpec.post enc Tryz.prog Tryz.f8 false true false false W args v W':=by
 have hW':=hW
 obtain⟨p,q,hA0,hV,rfl,_,_⟩:=hW
 have hA:DataW.TrodAll enc Tryz.prog W 0 (fun _=>true) true Tryz.f8.params.toList args.toList ds p:=hA0
 rw[Tryz.params8]at hA hval
 obtain⟨v0,v1,v2,d0,d1,d2,p0,p1,p2,rfl,rfl,rfl,h0,h1,h2⟩:=trodAll_three hA
 obtain⟨rfl,rfl⟩:=trodVars_none hV
 obtain⟨x0,hx0,hr0⟩:=qME (hval 0 27 v0 rfl rfl) h0
 obtain⟨x1,hx1,hr1⟩:=qMF (hval 1 29 v1 rfl rfl) h1
 obtain⟨x2,hx2,hr2⟩:=qMF (hval 2 29 v2 rfl rfl) h2
 have:=qKV qNG (qNv qMT x0 hx0 x1 hx1 x2 hx2) (qMU hL) (Fp.cons hr0 (Fp.cons hr1 (Fp.cons hr2 (Fp.nil W _))))
 refine this.mono fun e W' ⟨he,hb⟩=>⟨_,he,qLO qMD ?_ rfl rfl Tryz.underlying4 hW' rfl rfl rfl hb⟩
 rw[Tryz.params8]
 intro t ht
 simp at ht
 rcases ht with rfl|rfl
 ·exact⟨by kernel_rfl,of_decide_eq_true (by kernel_rfl)⟩
 ·exact⟨by kernel_rfl,of_decide_eq_true (by kernel_rfl)⟩
theorem eventsCone_laid (os:Os):laidMet Tryz.prog Rows.eventsConeRow.laid ((qKZ os).forCall (fun _ _=>0) ⟨#[],#[c0,.agg #[.slice none 0 0,.slice none 0 0],.agg #[.slice none 0 0,.slice none 0 0]],[]⟩).memory :=
 laidMet_of_run' 8 (by kernel_rfl) (by kernel_rfl)
theorem eventsCone_reads (os:Os) {H:Type} (enc:TypeId×Value->H):∃ places,DataW.whole enc Tryz.prog ((qKZ os).forCall (fun _ _=>0) ⟨#[],#[c0,.agg #[.slice none 0 0,.slice none 0 0],.agg #[.slice none 0 0,.slice none 0 0]],[]⟩).memory Tryz.f8.params.toList Rows.eventsConeSpec.vars false (#[c0,.agg #[.slice none 0 0,.slice none 0 0],.agg #[.slice none 0 0,.slice none 0 0]]:Array Value).toList 8=some ([d0,.agg [.nil,.nil],.agg [.nil,.nil]],[],places) :=
 ⟨[],by kernel_rfl⟩
theorem eventsCone_lifted (os:Os) (started:os.Started) (H:Type) (enc:TypeId×Value->H) (F:Stop.Interp) :
  ReturnsInHanded {} Tryz.checked os 8 .any ((OpenSpec.ofChange Rows.eventsConeSpec).preRow enc Tryz.prog Tryz.f8 Rows.eventsConeRow.domain false Rows.eventsConeRow.laid) (((OpenSpec.ofChange Rows.eventsConeSpec).at F).post enc Tryz.prog Tryz.f8 false true false false):=by
 obtain⟨places,hx⟩:=eventsCone_reads os enc
 refine returnsInHanded_of_row (C:=Tryz.checked) (s:=OpenSpec.ofChange Rows.eventsConeSpec) own started (by kernel_rfl) Tryz.func8
  (witness_row_at (enc:=enc) (C:=Tryz.checked) false (qKZ os) #[c0,.agg #[.slice none 0 0,.slice none 0 0],.agg #[.slice none 0 0,.slice none 0 0]] rfl (by kernel_rfl) (by kernel_rfl) (by kernel_rfl)
   (OpenSpec.preRow_of_cond 8 hx (by kernel_rfl) (fun k hk=>by cases hk) (by kernel_rfl) (eventsCone_laid os))) ?_
 intro W base args ds gs before hval hW _ _ _ hL _ _
 exact eventsCone_contract H enc W base args ds gs before hval hW hL
theorem eventsCone_f1:(Rows.eventsConeRow.inPlace==Tryz.pinned.checked.prog.inPlace 8)=true:=by kernel_rfl
theorem eventsCone_f2:(Rows.eventsConeRow.unfollowed==Tryz.pinned.checked.prog.unfollowed 8)=true:=by kernel_rfl
theorem eventsCone_f3:(Rows.eventsConeRow.recurses==Tryz.pinned.checked.prog.recurses 8)=true:=by kernel_rfl
theorem eventsCone_f4:(Rows.eventsConeRow.named==Tryz.pinned.checked.prog.varsNamed 8)=true:=by kernel_rfl
theorem eventsCone_f5:laidOutB Tryz.pinned.checked.prog=true:=by kernel_rfl
theorem eventsCone_f6:mapsRowed Tryz.pinned.checked.prog=true:=by kernel_rfl
theorem eventsCone_f7:Tryz.pinned.checked.prog.stopsHeard=true:=by kernel_rfl
theorem eventsCone_f8:Tryz.pinned.checked.prog.mayEnter=true:=by kernel_rfl
theorem eventsCone_f9:(Rows.eventsConeRow.lifted==Tryz.pinned.checked.prog.liftsFinal)=true:=by kernel_rfl
theorem eventsCone_f10:(Rows.eventsConeRow.plainKeys==Tryz.pinned.checked.prog.plainKeys)=true:=by kernel_rfl
theorem eventsCone_f0:joinedFacts Tryz.pinned.checked.prog 8 Tryz.f8 (OpenSpec.ofChange Rows.eventsConeSpec).bare Rows.eventsConeRow=true:=by
 simp only[joinedFacts,xqc]
 refine⟨⟨⟨⟨⟨⟨⟨⟨⟨⟨⟨⟨⟨⟨⟨⟨⟨⟨⟨⟨⟨⟨⟨⟨⟨⟨⟨⟨⟨⟨⟨?_,eventsCone_f5⟩,eventsCone_f6⟩,?_⟩,?_⟩,?_⟩,?_⟩,?_⟩,?_⟩,eventsCone_f1⟩,eventsCone_f2⟩,eventsCone_f3⟩,eventsCone_f4⟩,?_⟩,?_⟩,?_⟩,?_⟩,?_⟩,?_⟩,?_⟩,?_⟩,?_⟩,eventsCone_f10⟩,?_⟩,eventsCone_f7⟩,eventsCone_f8⟩,eventsCone_f9⟩,?_⟩,?_⟩,?_⟩,?_⟩,?_⟩<;>kernel_rfl
theorem eventsCone_goes:false=Rows.eventsConeRow.goesBy Tryz.pinned.checked.prog:=by kernel_rfl
theorem eventsCone_said:Rows.EventsConeSaid :=
 OpenClaim.holds_of_cond 8 Tryz.f8 rfl rfl rfl rfl rfl rfl rfl ⟨rfl,rfl,rfl,rfl,rfl⟩ rfl rfl rfl rfl rfl (by kernel_rfl) Tryz.func8 eventsCone_f0
  (of_decide_eq_true (by kernel_rfl)) (by unfold Func.isWrapper;first|(rw[if_pos (by decide +kernel)];kernel_rfl)|(rw[if_neg (by decide +kernel)];exact⟨rfl,rfl⟩))
  (fun os started H enc _ F=>by rw[OpenClaim.pre_eq_preRow];exact eventsCone_lifted os started H enc F)
theorem eventsCone_plain (f:FuncId) (fn:Func) (hf:Tryz.pinned.checked.prog.funcNamed "probecard/probecardlaw08.EventsCone" = some f) (hfn:Tryz.pinned.checked.prog.funcs[f]? = some fn) :
  false=Tryz.pinned.checked.prog.looks []/\∀ (j:Nat) t,fn.params[j]? = some t->Tryz.pinned.checked.prog.wantsStandIn t=false:=by
 obtain rfl:f=8:=Option.some.inj ((show Tryz.prog.funcNamed "probecard/probecardlaw08.EventsCone" = some 8 by kernel_rfl).symm.trans hf) |>.symm
 obtain rfl:fn=Tryz.f8:=(Option.some.inj (Tryz.func8.symm.trans hfn)).symm
 refine⟨by kernel_rfl,fun j t ht=>?_⟩
 rw[Tryz.params8]at ht
 have hm:t=27\/t=29\/t=29:=by simpa using Array.mem_of_getElem? ht
 rcases hm with rfl|rfl|rfl
 ·exact(show Tryz.prog.wantsStandIn 27=false by kernel_rfl)
 ·exact(show Tryz.prog.wantsStandIn 29=false by kernel_rfl)
 ·exact(show Tryz.prog.wantsStandIn 29=false by kernel_rfl)
theorem eventsCone_card:Rows.EventsConeCardSaid :=
 Claim7.holds_tied_plain_at .later [] _ _ _ _ eventsCone_said (fun _ h=>by cases h) (by kernel_rfl) (fun _ h=>by cases h) eventsCone_row_tie rfl ⟨rfl,rfl⟩ (by kernel_rfl) rfl eventsCone_plain eventsCone_goes
#print axioms eventsCone_card
end Go.Proofs.YtafhjckfgmcphaaGreatDoor
