/- The tied card of CnfsTexts: Parse inverts Text; whatever Parse accepts is the text of the formula. Conditions: those of the row, and no others. -/
import Derived.Test.YtjhbkddcmcfpaaaGreatDoorPkF
import Derived.Test.YtjhbkddcmcfpaaaGreatDoorPkG
import Derived.Test.YtjhbkddcmcfpaaaGreatDoorPkH
set_option linter.unusedSimpArgs false
set_option linter.unusedVariables false
set_option maxRecDepth 100000
namespace Go.Proofs.YtjhbkddcmcfpaaaGreatDoor
open Go Go.Lg Go.ChangeShapes Go.WideShapes Go.ChangeAt Go.RowKit
theorem cnfsTexts_contract (H:Type) (enc:TypeId×Value->H) (W:World) (base:Nat) (args:Array Value) (ds gs:List (DataW H)) (before:List MemPlace)
  (hval:∀ (j:Nat) t v,Tryz.f3.params[j]? = some t->args[j]? = some v->Value.okWide Tryz.prog W .any base t v)
  (hW:DataW.Whole enc Tryz.prog Tryz.f3.params.toList Rows.cnfsTextsSpec.vars false W args.toList ds gs before) (hL:laidMetH Tryz.prog Rows.cnfsTextsRow.laid W) :
  Calls Tryz.prog 3 args W fun e W'=>∃ v,e=.returned v/\Rows.cnfsTextsSpec.post enc Tryz.prog Tryz.f3 false true false false W args v W':=by
 have hW':=hW
 obtain⟨p,q,hA0,hV,rfl,_,_⟩:=hW
 have hA:DataW.TrodAll enc Tryz.prog W 0 (fun _=>true) true Tryz.f3.params.toList args.toList ds p:=hA0
 rw[Tryz.params3]at hA hval
 obtain⟨v0,v1,v2,d0,d1,d2,p0,p1,p2,rfl,rfl,rfl,h0,h1,h2⟩:=trodAll_three hA
 obtain⟨rfl,rfl⟩:=trodVars_none hV
 obtain⟨x0,rfl,rfl,rfl,hb0⟩:=open_int Tryz.underlying5 (hval 0 5 v0 rfl rfl) h0
 obtain⟨x1,hx1,hr1⟩:=qIq (hval 1 22 v1 rfl rfl) h1
 obtain⟨x2,rfl,rfl,rfl,_⟩:=Go.ChangeMaps.open_string Tryz.underlying9 (hval 2 9 v2 rfl rfl) h2
 obtain⟨Γ,hg1,hg2,hg3,hgl⟩:=qJ8 hL
 have:=qCm q0s (q1I hg1 hg2 hg3 x0 (qMW hb0) x1 hx1 x2) hgl (Ds.cons (.v (.int .u8 x0)) (Ds.cons hr1 (Ds.cons (.v (.string x2)) (Ds.nil W _))))
 refine this.mono fun e W' ⟨he,hb⟩=>⟨_,he,qEE qGC ?_ rfl rfl Tryz.underlying4 hW' rfl rfl rfl hb⟩
 rw[Tryz.params3]
 intro t ht
 simp at ht
 rcases ht with rfl|rfl|rfl
 ·exact⟨by kernel_rfl,of_decide_eq_true (by kernel_rfl)⟩
 ·exact⟨by kernel_rfl,of_decide_eq_true (by kernel_rfl)⟩
 ·exact⟨by kernel_rfl,of_decide_eq_true (by kernel_rfl)⟩
theorem cnfsTexts_laid (os:Os):laidMet Tryz.prog Rows.cnfsTextsRow.laid ((q1s os).forCall (fun _ _=>0) ⟨#[],#[.int .u8 0,.slice none 0 0,.string ⟨#[]⟩],[]⟩).memory :=
 laidMet_of_run' 8 (by kernel_rfl) (by kernel_rfl)
theorem cnfsTexts_reads (os:Os) {H:Type} (enc:TypeId×Value->H):∃ places,DataW.whole enc Tryz.prog ((q1s os).forCall (fun _ _=>0) ⟨#[],#[.int .u8 0,.slice none 0 0,.string ⟨#[]⟩],[]⟩).memory Tryz.f3.params.toList Rows.cnfsTextsSpec.vars false (#[.int .u8 0,.slice none 0 0,.string ⟨#[]⟩]:Array Value).toList 8=some ([.lit (.int .u8 0),.nil,.lit (.string [])],[],places) :=
 ⟨[],by kernel_rfl⟩
theorem cnfsTexts_lifted (os:Os) (started:os.Started) (H:Type) (enc:TypeId×Value->H) (F:Stop.Interp) :
  ReturnsInHanded {} Tryz.checked os 3 .any ((OpenSpec.ofChange Rows.cnfsTextsSpec).preRow enc Tryz.prog Tryz.f3 Rows.cnfsTextsRow.domain false Rows.cnfsTextsRow.laid) (((OpenSpec.ofChange Rows.cnfsTextsSpec).at F).post enc Tryz.prog Tryz.f3 false true false false):=by
 obtain⟨places,hx⟩:=cnfsTexts_reads os enc
 refine returnsInHanded_of_row (C:=Tryz.checked) (s:=OpenSpec.ofChange Rows.cnfsTextsSpec) own started (by kernel_rfl) Tryz.func3
  (witness_row_at (enc:=enc) (C:=Tryz.checked) false (q1s os) #[.int .u8 0,.slice none 0 0,.string ⟨#[]⟩] rfl (by kernel_rfl) (by kernel_rfl) (by kernel_rfl)
   (OpenSpec.preRow_of_cond 8 hx (by kernel_rfl) (fun k hk=>by cases hk) (by kernel_rfl) (cnfsTexts_laid os))) ?_
 intro W base args ds gs before hval hW _ _ _ hL _ _
 exact cnfsTexts_contract H enc W base args ds gs before hval hW hL
theorem cnfsTexts_f1:(Rows.cnfsTextsRow.inPlace==Tryz.pinned.checked.prog.inPlace 3)=true:=by kernel_rfl
theorem cnfsTexts_f2:(Rows.cnfsTextsRow.unfollowed==Tryz.pinned.checked.prog.unfollowed 3)=true:=by kernel_rfl
theorem cnfsTexts_f3:(Rows.cnfsTextsRow.recurses==Tryz.pinned.checked.prog.recurses 3)=true:=by kernel_rfl
theorem cnfsTexts_f4:(Rows.cnfsTextsRow.named==Tryz.pinned.checked.prog.varsNamed 3)=true:=by kernel_rfl
theorem cnfsTexts_f5:laidOutB Tryz.pinned.checked.prog=true:=by kernel_rfl
theorem cnfsTexts_f6:mapsRowed Tryz.pinned.checked.prog=true:=by kernel_rfl
theorem cnfsTexts_f7:Tryz.pinned.checked.prog.stopsHeard=true:=by kernel_rfl
theorem cnfsTexts_f8:Tryz.pinned.checked.prog.mayEnter=true:=by kernel_rfl
theorem cnfsTexts_f9:(Rows.cnfsTextsRow.lifted==Tryz.pinned.checked.prog.liftsFinal)=true:=by kernel_rfl
theorem cnfsTexts_f10:(Rows.cnfsTextsRow.plainKeys==Tryz.pinned.checked.prog.plainKeys)=true:=by kernel_rfl
theorem cnfsTexts_f0:joinedFacts Tryz.pinned.checked.prog 3 Tryz.f3 (OpenSpec.ofChange Rows.cnfsTextsSpec).bare Rows.cnfsTextsRow=true:=by
 simp only[joinedFacts,Bool.and_eq_true]
 refine⟨⟨⟨⟨⟨⟨⟨⟨⟨⟨⟨⟨⟨⟨⟨⟨⟨⟨⟨⟨⟨⟨⟨⟨⟨⟨⟨⟨⟨⟨⟨?_,cnfsTexts_f5⟩,cnfsTexts_f6⟩,?_⟩,?_⟩,?_⟩,?_⟩,?_⟩,?_⟩,cnfsTexts_f1⟩,cnfsTexts_f2⟩,cnfsTexts_f3⟩,cnfsTexts_f4⟩,?_⟩,?_⟩,?_⟩,?_⟩,?_⟩,?_⟩,?_⟩,?_⟩,?_⟩,cnfsTexts_f10⟩,?_⟩,cnfsTexts_f7⟩,cnfsTexts_f8⟩,cnfsTexts_f9⟩,?_⟩,?_⟩,?_⟩,?_⟩,?_⟩<;>kernel_rfl
theorem cnfsTexts_goes:false=Rows.cnfsTextsRow.goesBy Tryz.pinned.checked.prog:=by kernel_rfl
theorem cnfsTexts_said:Rows.CnfsTextsSaid :=
 OpenClaim.holds_of_cond 3 Tryz.f3 rfl rfl rfl rfl rfl rfl rfl ⟨rfl,rfl,rfl,rfl,rfl⟩ rfl rfl rfl rfl rfl (by kernel_rfl) Tryz.func3 cnfsTexts_f0
  (of_decide_eq_true (by kernel_rfl)) (by unfold Func.isWrapper;first|(rw[if_pos (by decide +kernel)];kernel_rfl)|(rw[if_neg (by decide +kernel)];exact⟨rfl,rfl⟩))
  (fun os started H enc _ F=>by rw[OpenClaim.pre_eq_preRow];exact cnfsTexts_lifted os started H enc F)
theorem cnfsTexts_plain (f:FuncId) (fn:Func) (hf:Tryz.pinned.checked.prog.funcNamed "probecard/probecardlaw28.CnfsTexts" = some f) (hfn:Tryz.pinned.checked.prog.funcs[f]? = some fn) :
  true=Tryz.pinned.checked.prog.looks []/\∀ (j:Nat) t,fn.params[j]? = some t->Tryz.pinned.checked.prog.wantsStandIn t=false:=by
 obtain rfl:f=3:=Option.some.inj ((show Tryz.prog.funcNamed "probecard/probecardlaw28.CnfsTexts" = some 3 by kernel_rfl).symm.trans hf) |>.symm
 obtain rfl:fn=Tryz.f3:=(Option.some.inj (Tryz.func3.symm.trans hfn)).symm
 refine⟨by kernel_rfl,fun j t ht=>?_⟩
 rw[Tryz.params3]at ht
 have hm:t=5\/t=22\/t=9:=by simpa using Array.mem_of_getElem? ht
 rcases hm with rfl|rfl|rfl
 ·exact(show Tryz.prog.wantsStandIn 5=false by kernel_rfl)
 ·exact(show Tryz.prog.wantsStandIn 22=false by kernel_rfl)
 ·exact(show Tryz.prog.wantsStandIn 9=false by kernel_rfl)
theorem cnfsTexts_card:Rows.CnfsTextsCardSaid :=
 Claim7.holds_tied_plain_at .later [] _ _ _ _ cnfsTexts_said (fun _ h=>by cases h) (by kernel_rfl) (fun _ h=>by cases h) cnfsTexts_row_tie rfl ⟨rfl,rfl⟩ (by kernel_rfl) rfl cnfsTexts_plain cnfsTexts_goes
#print axioms cnfsTexts_card
end Go.Proofs.YtjhbkddcmcfpaaaGreatDoor
