/- The tied card of CyclesShape: the expansion has exactly the documented nodes, names and outputs. Conditions: those of the row, and no others. -/
import Derived.Test.YtnhgdofpomioeaaGreatDoorPkD
import Derived.Test.YtnhgdofpomioeaaGreatDoorPkF
import Derived.Test.YtnhgdofpomioeaaGreatDoorPkG
set_option linter.unusedSimpArgs false
set_option linter.unusedVariables false
set_option maxRecDepth 100000
namespace Go.Proofs.YtnhgdofpomioeaaGreatDoor
open Go Go.Lg Go.ChangeShapes Go.WideShapes Go.ChangeAt Go.RowKit
theorem cyclesShape_contract (H:Type) (enc:TypeId × Value→H) (W:World) (base:Nat) (args:Array Value) (ds gs:List (DataW H)) (before:List MemPlace)
  (hval:∀ (j:Nat) t v,Tryz.f3.params[j]? = some t→args[j]? = some v→Value.okWide Tryz.prog W .any base t v)
  (hW:DataW.Whole enc Tryz.prog Tryz.f3.params.toList Rows.cyclesShapeSpec.vars false W args.toList ds gs before) (hL:laidMetH Tryz.prog Rows.cyclesShapeRow.laid W) :
  Calls Tryz.prog 3 args W fun e W'=>∃ v,e=.returned v∧Rows.cyclesShapeSpec.post enc Tryz.prog Tryz.f3 false true false false W args v W':=by
 have hW':=hW
 obtain ⟨p,q,hA0,hV,rfl,_,_⟩:=hW
 have hA:DataW.TrodAll enc Tryz.prog W 0 (fun _=>true) true Tryz.f3.params.toList args.toList ds p:=hA0
 rw [Tryz.params3] at hA hval
 obtain ⟨v0,v1,d0,d1,p0,p1,rfl,rfl,rfl,h0,h1⟩:=trodAll_two hA
 obtain ⟨rfl,rfl⟩:=trodVars_none hV
 obtain ⟨x0,hx0,hr0⟩:=qMy (hval 0 27 v0 rfl rfl) h0
 obtain ⟨x1,rfl,rfl,rfl,hb1⟩:=open_int Tryz.underlying5 (hval 1 5 v1 rfl rfl) h1
 have:=qLR q2R (qHq qNI x0 hx0 x1 (qND hb1)) (qNA hL) (F5.cons hr0 (F5.cons (.v (.int .u8 x1)) (F5.nil W _)))
 refine this.mono fun e W' ⟨he,hb⟩=>⟨_,he,qMD qMx ?_ rfl rfl Tryz.underlying4 hW' rfl rfl rfl hb⟩
 rw [Tryz.params3]
 intro t ht
 simp at ht
 rcases ht with rfl | rfl
 ·exact ⟨by kernel_rfl,of_decide_eq_true (by kernel_rfl)⟩
 ·exact ⟨by kernel_rfl,of_decide_eq_true (by kernel_rfl)⟩
theorem cyclesShape_laid (os:Os):laidMet Tryz.prog Rows.cyclesShapeRow.laid ((qKT os).forCall (fun _ _=>0) ⟨#[],#[c0,.int .u8 0],[]⟩).memory :=
 laidMet_of_run' 8 (by kernel_rfl) (by kernel_rfl)
theorem cyclesShape_reads (os:Os) {H:Type} (enc:TypeId × Value→H):∃ places,DataW.whole enc Tryz.prog ((qKT os).forCall (fun _ _=>0) ⟨#[],#[c0,.int .u8 0],[]⟩).memory Tryz.f3.params.toList Rows.cyclesShapeSpec.vars false (#[c0,.int .u8 0]:Array Value).toList 8=some ([d0,.lit (.int .u8 0)],[],places) :=
 ⟨[],by kernel_rfl⟩
theorem cyclesShape_lifted (os:Os) (started:os.Started) (H:Type) (enc:TypeId × Value→H) (F:Stop.Interp) :
  ReturnsInHanded {} Tryz.checked os 3 .any ((OpenSpec.ofChange Rows.cyclesShapeSpec).preRow enc Tryz.prog Tryz.f3 Rows.cyclesShapeRow.domain false Rows.cyclesShapeRow.laid) (((OpenSpec.ofChange Rows.cyclesShapeSpec).at F).post enc Tryz.prog Tryz.f3 false true false false):=by
 obtain ⟨places,hx⟩:=cyclesShape_reads os enc
 refine returnsInHanded_of_row (C:=Tryz.checked) (s:=OpenSpec.ofChange Rows.cyclesShapeSpec) own started (by kernel_rfl) Tryz.func3
  (witness_row_at (enc:=enc) (C:=Tryz.checked) false (qKT os) #[c0,.int .u8 0] rfl (by kernel_rfl) (by kernel_rfl) (by kernel_rfl)
   (OpenSpec.preRow_of_cond 8 hx (by kernel_rfl) (fun k hk=>by cases hk) (by kernel_rfl) (cyclesShape_laid os))) ?_
 intro W base args ds gs before hval hW _ _ _ hL _ _
 exact cyclesShape_contract H enc W base args ds gs before hval hW hL
theorem cyclesShape_f1:(Rows.cyclesShapeRow.inPlace == Tryz.pinned.checked.prog.inPlace 3)=true:=by kernel_rfl
theorem cyclesShape_f2:(Rows.cyclesShapeRow.unfollowed == Tryz.pinned.checked.prog.unfollowed 3)=true:=by kernel_rfl
theorem cyclesShape_f3:(Rows.cyclesShapeRow.recurses == Tryz.pinned.checked.prog.recurses 3)=true:=by kernel_rfl
theorem cyclesShape_f4:(Rows.cyclesShapeRow.named == Tryz.pinned.checked.prog.varsNamed 3)=true:=by kernel_rfl
theorem cyclesShape_f5:laidOutB Tryz.pinned.checked.prog=true:=by kernel_rfl
theorem cyclesShape_f6:mapsRowed Tryz.pinned.checked.prog=true:=by kernel_rfl
theorem cyclesShape_f7:Tryz.pinned.checked.prog.stopsHeard=true:=by kernel_rfl
theorem cyclesShape_f8:Tryz.pinned.checked.prog.mayEnter=true:=by kernel_rfl
theorem cyclesShape_f9:(Rows.cyclesShapeRow.lifted == Tryz.pinned.checked.prog.liftsFinal)=true:=by kernel_rfl
theorem cyclesShape_f10:(Rows.cyclesShapeRow.plainKeys == Tryz.pinned.checked.prog.plainKeys)=true:=by kernel_rfl
theorem cyclesShape_f0:joinedFacts Tryz.pinned.checked.prog 3 Tryz.f3 (OpenSpec.ofChange Rows.cyclesShapeSpec).bare Rows.cyclesShapeRow=true:=by
 simp only [joinedFacts,Bool.and_eq_true]
 refine ⟨⟨⟨⟨⟨⟨⟨⟨⟨⟨⟨⟨⟨⟨⟨⟨⟨⟨⟨⟨⟨⟨⟨⟨⟨⟨⟨⟨⟨⟨⟨?_,cyclesShape_f5⟩,cyclesShape_f6⟩,?_⟩,?_⟩,?_⟩,?_⟩,?_⟩,?_⟩,cyclesShape_f1⟩,cyclesShape_f2⟩,cyclesShape_f3⟩,cyclesShape_f4⟩,?_⟩,?_⟩,?_⟩,?_⟩,?_⟩,?_⟩,?_⟩,?_⟩,?_⟩,cyclesShape_f10⟩,?_⟩,cyclesShape_f7⟩,cyclesShape_f8⟩,cyclesShape_f9⟩,?_⟩,?_⟩,?_⟩,?_⟩,?_⟩ <;> kernel_rfl
theorem cyclesShape_goes:false=Rows.cyclesShapeRow.goesBy Tryz.pinned.checked.prog:=by kernel_rfl
theorem cyclesShape_said:Rows.CyclesShapeSaid :=
 OpenClaim.holds_of_cond 3 Tryz.f3 rfl rfl rfl rfl rfl rfl rfl ⟨rfl,rfl,rfl,rfl,rfl⟩ rfl rfl rfl rfl rfl (by kernel_rfl) Tryz.func3 cyclesShape_f0
  (of_decide_eq_true (by kernel_rfl)) (by unfold Func.isWrapper; first | (rw [if_pos (by decide +kernel)]; kernel_rfl) | (rw [if_neg (by decide +kernel)]; exact ⟨rfl,rfl⟩))
  (fun os started H enc _ F=>by rw [OpenClaim.pre_eq_preRow]; exact cyclesShape_lifted os started H enc F)
theorem cyclesShape_plain (f:FuncId) (fn:Func) (hf:Tryz.pinned.checked.prog.funcNamed "probecard/probecardlaw10.CyclesShape" = some f) (hfn:Tryz.pinned.checked.prog.funcs[f]? = some fn) :
  false=Tryz.pinned.checked.prog.looks []∧∀ (j:Nat) t,fn.params[j]? = some t→Tryz.pinned.checked.prog.wantsStandIn t=false:=by
 obtain rfl:f=3:=Option.some.inj ((show Tryz.prog.funcNamed "probecard/probecardlaw10.CyclesShape" = some 3 by kernel_rfl).symm.trans hf) |>.symm
 obtain rfl:fn=Tryz.f3:=(Option.some.inj (Tryz.func3.symm.trans hfn)).symm
 refine ⟨by kernel_rfl,fun j t ht=>?_⟩
 rw [Tryz.params3] at ht
 have hm:t=27∨t=5:=by simpa using Array.mem_of_getElem? ht
 rcases hm with rfl | rfl
 ·exact (show Tryz.prog.wantsStandIn 27=false by kernel_rfl)
 ·exact (show Tryz.prog.wantsStandIn 5=false by kernel_rfl)
theorem cyclesShape_card:Rows.CyclesShapeCardSaid :=
 Claim7.holds_tied_plain_at .later [] _ _ _ _ cyclesShape_said (fun _ h=>by cases h) (by kernel_rfl) (fun _ h=>by cases h) cyclesShape_row_tie rfl ⟨rfl,rfl⟩ (by kernel_rfl) rfl cyclesShape_plain cyclesShape_goes
#print axioms cyclesShape_card
end Go.Proofs.YtnhgdofpomioeaaGreatDoor
