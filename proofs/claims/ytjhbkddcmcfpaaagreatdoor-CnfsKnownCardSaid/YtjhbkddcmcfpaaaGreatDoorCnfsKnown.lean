/- The tied card of CnfsKnown: The examples of the chapter; formulas derived from a counter; strings that are no texts; the greatest sizes. Conditions: those of the row, and no others. -/
import Derived.Test.YtjhbkddcmcfpaaaGreatDoorPkF
import Derived.Test.YtjhbkddcmcfpaaaGreatDoorPkG
import Derived.Test.YtjhbkddcmcfpaaaGreatDoorPkH
set_option linter.unusedSimpArgs false
set_option linter.unusedVariables false
set_option maxRecDepth 100000
namespace Go.Proofs.YtjhbkddcmcfpaaaGreatDoor
open Go Go.Lg Go.ChangeShapes Go.WideShapes Go.ChangeAt Go.RowKit
theorem cnfsKnown_contract (H:Type) (enc:TypeId×Value->H) (W:World) (base:Nat) (args:Array Value) (ds gs:List (DataW H)) (before:List MemPlace)
  (hval:∀ (j:Nat) t v,Tryz.f4.params[j]? = some t->args[j]? = some v->Value.okWide Tryz.prog W .any base t v)
  (hW:DataW.Whole enc Tryz.prog Tryz.f4.params.toList Rows.cnfsKnownSpec.vars false W args.toList ds gs before) (hL:laidMetH Tryz.prog Rows.cnfsKnownRow.laid W) :
  Calls Tryz.prog 4 args W fun e W'=>∃ v,e=.returned v/\Rows.cnfsKnownSpec.post enc Tryz.prog Tryz.f4 false true false false W args v W':=by
 have hW':=hW
 obtain⟨p,q,hA0,hV,rfl,_,_⟩:=hW
 have hA:DataW.TrodAll enc Tryz.prog W 0 (fun _=>true) true Tryz.f4.params.toList args.toList ds p:=hA0
 rw[Tryz.params4]at hA hval
 obtain⟨rfl,rfl,rfl⟩:=trodAll_none hA
 obtain⟨rfl,rfl⟩:=trodVars_none hV
 obtain⟨Γ,hg1,hg2,hg3,hgl⟩:=qJ8 hL
 have:=qCm Rb (q4f hg1 hg2 hg3 ) hgl (Ds.nil W _)
 refine this.mono fun e W' ⟨he,hb⟩=>⟨_,he,qEE qGC ?_ rfl rfl Tryz.underlying4 hW' rfl rfl rfl hb⟩
 rw[Tryz.params4]
 intro t ht
 simp at ht
theorem cnfsKnown_laid (os:Os):laidMet Tryz.prog Rows.cnfsKnownRow.laid ((q1s os).forCall (fun _ _=>0) ⟨#[],#[],[]⟩).memory :=
 laidMet_of_run' 8 (by kernel_rfl) (by kernel_rfl)
theorem cnfsKnown_reads (os:Os) {H:Type} (enc:TypeId×Value->H):∃ places,DataW.whole enc Tryz.prog ((q1s os).forCall (fun _ _=>0) ⟨#[],#[],[]⟩).memory Tryz.f4.params.toList Rows.cnfsKnownSpec.vars false (#[]:Array Value).toList 8=some ([],[],places) :=
 ⟨[],by kernel_rfl⟩
theorem cnfsKnown_lifted (os:Os) (started:os.Started) (H:Type) (enc:TypeId×Value->H) (F:Stop.Interp) :
  ReturnsInHanded {} Tryz.checked os 4 .any ((OpenSpec.ofChange Rows.cnfsKnownSpec).preRow enc Tryz.prog Tryz.f4 Rows.cnfsKnownRow.domain false Rows.cnfsKnownRow.laid) (((OpenSpec.ofChange Rows.cnfsKnownSpec).at F).post enc Tryz.prog Tryz.f4 false true false false):=by
 obtain⟨places,hx⟩:=cnfsKnown_reads os enc
 refine returnsInHanded_of_row (C:=Tryz.checked) (s:=OpenSpec.ofChange Rows.cnfsKnownSpec) own started (by kernel_rfl) Tryz.func4
  (witness_row_at (enc:=enc) (C:=Tryz.checked) false (q1s os) #[] rfl (by kernel_rfl) (by kernel_rfl) (by kernel_rfl)
   (OpenSpec.preRow_of_cond 8 hx (by kernel_rfl) (fun k hk=>by cases hk) (by kernel_rfl) (cnfsKnown_laid os))) ?_
 intro W base args ds gs before hval hW _ _ _ hL _ _
 exact cnfsKnown_contract H enc W base args ds gs before hval hW hL
theorem cnfsKnown_f1:(Rows.cnfsKnownRow.inPlace==Tryz.pinned.checked.prog.inPlace 4)=true:=by kernel_rfl
theorem cnfsKnown_f2:(Rows.cnfsKnownRow.unfollowed==Tryz.pinned.checked.prog.unfollowed 4)=true:=by kernel_rfl
theorem cnfsKnown_f3:(Rows.cnfsKnownRow.recurses==Tryz.pinned.checked.prog.recurses 4)=true:=by kernel_rfl
theorem cnfsKnown_f4:(Rows.cnfsKnownRow.named==Tryz.pinned.checked.prog.varsNamed 4)=true:=by kernel_rfl
theorem cnfsKnown_f5:laidOutB Tryz.pinned.checked.prog=true:=by kernel_rfl
theorem cnfsKnown_f6:mapsRowed Tryz.pinned.checked.prog=true:=by kernel_rfl
theorem cnfsKnown_f7:Tryz.pinned.checked.prog.stopsHeard=true:=by kernel_rfl
theorem cnfsKnown_f8:Tryz.pinned.checked.prog.mayEnter=true:=by kernel_rfl
theorem cnfsKnown_f9:(Rows.cnfsKnownRow.lifted==Tryz.pinned.checked.prog.liftsFinal)=true:=by kernel_rfl
theorem cnfsKnown_f10:(Rows.cnfsKnownRow.plainKeys==Tryz.pinned.checked.prog.plainKeys)=true:=by kernel_rfl
theorem cnfsKnown_f0:joinedFacts Tryz.pinned.checked.prog 4 Tryz.f4 (OpenSpec.ofChange Rows.cnfsKnownSpec).bare Rows.cnfsKnownRow=true:=by
 simp only[joinedFacts,Bool.and_eq_true]
 refine⟨⟨⟨⟨⟨⟨⟨⟨⟨⟨⟨⟨⟨⟨⟨⟨⟨⟨⟨⟨⟨⟨⟨⟨⟨⟨⟨⟨⟨⟨⟨?_,cnfsKnown_f5⟩,cnfsKnown_f6⟩,?_⟩,?_⟩,?_⟩,?_⟩,?_⟩,?_⟩,cnfsKnown_f1⟩,cnfsKnown_f2⟩,cnfsKnown_f3⟩,cnfsKnown_f4⟩,?_⟩,?_⟩,?_⟩,?_⟩,?_⟩,?_⟩,?_⟩,?_⟩,?_⟩,cnfsKnown_f10⟩,?_⟩,cnfsKnown_f7⟩,cnfsKnown_f8⟩,cnfsKnown_f9⟩,?_⟩,?_⟩,?_⟩,?_⟩,?_⟩<;>kernel_rfl
theorem cnfsKnown_goes:false=Rows.cnfsKnownRow.goesBy Tryz.pinned.checked.prog:=by kernel_rfl
theorem cnfsKnown_said:Rows.CnfsKnownSaid :=
 OpenClaim.holds_of_cond 4 Tryz.f4 rfl rfl rfl rfl rfl rfl rfl ⟨rfl,rfl,rfl,rfl,rfl⟩ rfl rfl rfl rfl rfl (by kernel_rfl) Tryz.func4 cnfsKnown_f0
  (of_decide_eq_true (by kernel_rfl)) (by unfold Func.isWrapper;first|(rw[if_pos (by decide +kernel)];kernel_rfl)|(rw[if_neg (by decide +kernel)];exact⟨rfl,rfl⟩))
  (fun os started H enc _ F=>by rw[OpenClaim.pre_eq_preRow];exact cnfsKnown_lifted os started H enc F)
theorem cnfsKnown_plain (f:FuncId) (fn:Func) (hf:Tryz.pinned.checked.prog.funcNamed "probecard/probecardlaw28.CnfsKnown" = some f) (hfn:Tryz.pinned.checked.prog.funcs[f]? = some fn) :
  true=Tryz.pinned.checked.prog.looks []/\∀ (j:Nat) t,fn.params[j]? = some t->Tryz.pinned.checked.prog.wantsStandIn t=false:=by
 obtain rfl:f=4:=Option.some.inj ((show Tryz.prog.funcNamed "probecard/probecardlaw28.CnfsKnown" = some 4 by kernel_rfl).symm.trans hf) |>.symm
 obtain rfl:fn=Tryz.f4:=(Option.some.inj (Tryz.func4.symm.trans hfn)).symm
 refine⟨by kernel_rfl,fun j t ht=>?_⟩
 rw[Tryz.params4]at ht
 simp at ht
theorem cnfsKnown_card:Rows.CnfsKnownCardSaid :=
 Claim7.holds_tied_plain_at .later [] _ _ _ _ cnfsKnown_said (fun _ h=>by cases h) (by kernel_rfl) (fun _ h=>by cases h) cnfsKnown_row_tie rfl ⟨rfl,rfl⟩ (by kernel_rfl) rfl cnfsKnown_plain cnfsKnown_goes
#print axioms cnfsKnown_card
end Go.Proofs.YtjhbkddcmcfpaaaGreatDoor
