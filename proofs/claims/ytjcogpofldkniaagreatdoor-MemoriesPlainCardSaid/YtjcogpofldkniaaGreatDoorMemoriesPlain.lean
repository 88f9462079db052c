/- The tied card of MemoriesPlain: for a circuit without memories a cycle is a run, and without Tri nodes known values stay known. Conditions: those of the row, and no others. -/
import Derived.Test.YtjcogpofldkniaaGreatDoorPkF
set_option linter.unusedSimpArgs false
set_option linter.unusedVariables false
set_option maxRecDepth 100000
namespace Go.Proofs.YtjcogpofldkniaaGreatDoor
open Go Go.Lg Go.ChangeShapes Go.WideShapes Go.ChangeAt Go.RowKit
theorem memoriesPlain_contract (H : Type) (enc : TypeId × Value → H) (W : World) (base : Nat) (args : Array Value) (ds gs : List (DataW H)) (before : List MemPlace)
  (hval : ∀ (j : Nat) t v, Tryz.f3.params[j]? = some t → args[j]? = some v → Value.okWide Tryz.prog W .any base t v)
  (hW : DataW.Whole enc Tryz.prog Tryz.f3.params.toList Rows.memoriesPlainSpec.vars false W args.toList ds gs before) (hL : laidMetH Tryz.prog Rows.memoriesPlainRow.laid W) (tys : List TypeId) (hS : (DataW.weightsEach Tryz.prog (Tryz.f3.params.toList ++ tys) (ds ++ gs)).all (· ≤ reachBytes) = true) :
  Calls Tryz.prog 3 args W fun e W' => ∃ v, e = .returned v ∧ Rows.memoriesPlainSpec.post enc Tryz.prog Tryz.f3 false true false false W args v W' := by
 have hW' := hW
 obtain ⟨p, q, hA0, hV, rfl, _, _⟩ := hW
 have hA : DataW.TrodAll enc Tryz.prog W 0 (fun _ => true) true Tryz.f3.params.toList args.toList ds p := hA0
 rw [Tryz.params3] at hA hval hS
 obtain ⟨v0, v1, d0, d1, p0, p1, rfl, rfl, rfl, h0, h1⟩ := trodAll_two hA
 obtain ⟨rfl, rfl⟩ := trodVars_none hV
 obtain ⟨x0, hx0, hr0⟩ := qJI (hval 0 27 v0 rfl rfl) h0
 obtain ⟨x1, y1, hx1, hxl1, hy1, hyl1, hr1⟩ := qHr (hval 1 33 v1 rfl rfl) h1 (qAp hS 1 33 d1 rfl rfl)
 have := qHm Z6 (qER qJY x0 hx0 x1 hx1 hxl1 y1 hy1 hyl1) (qJZ hL) (Eh.cons hr0 (Eh.cons hr1 (Eh.nil W _)))
 refine this.mono fun e W' ⟨he, hb⟩ => ⟨_, he, qIZ qJH ?_ rfl rfl Tryz.underlying4 hW' rfl rfl rfl hb⟩
 rw [Tryz.params3]
 intro t ht
 simp at ht
 rcases ht with rfl | rfl
 ·exact ⟨by kernel_rfl, of_decide_eq_true (by kernel_rfl)⟩
 ·exact ⟨by kernel_rfl, of_decide_eq_true (by kernel_rfl)⟩
theorem memoriesPlain_laid (os : Os) : laidMet Tryz.prog Rows.memoriesPlainRow.laid ((qHq os).forCall (fun _ _ => 0) ⟨#[], #[c0, .agg #[.slice none 0 0, .slice none 0 0, .slice none 0 0]], []⟩).memory :=
 laidMet_of_run' 8 (by kernel_rfl) (by kernel_rfl)
theorem memoriesPlain_reads (os : Os) {H : Type} (enc : TypeId × Value → H) : ∃ places, DataW.whole enc Tryz.prog ((qHq os).forCall (fun _ _ => 0) ⟨#[], #[c0, .agg #[.slice none 0 0, .slice none 0 0, .slice none 0 0]], []⟩).memory Tryz.f3.params.toList Rows.memoriesPlainSpec.vars false (#[c0, .agg #[.slice none 0 0, .slice none 0 0, .slice none 0 0]] : Array Value).toList 8 = some ([d0, .agg [.agg [.nil], .agg [.nil, .nil]]], [], places) :=
 ⟨[], by kernel_rfl⟩
theorem memoriesPlain_lifted (os : Os) (started : os.Started) (H : Type) (enc : TypeId × Value → H) (F : Stop.Interp) :
  ReturnsInHanded {} Tryz.checked os 3 .any ((OpenSpec.ofChange Rows.memoriesPlainSpec).preRow enc Tryz.prog Tryz.f3 Rows.memoriesPlainRow.domain false Rows.memoriesPlainRow.laid) (((OpenSpec.ofChange Rows.memoriesPlainSpec).at F).post enc Tryz.prog Tryz.f3 false true false false) := by
 obtain ⟨places, hx⟩ := memoriesPlain_reads os enc
 refine returnsInHanded_of_row (C := Tryz.checked) (s := OpenSpec.ofChange Rows.memoriesPlainSpec) own started (by kernel_rfl) Tryz.func3
  (witness_row_at (enc := enc) (C := Tryz.checked) false (qHq os) #[c0, .agg #[.slice none 0 0, .slice none 0 0, .slice none 0 0]] rfl (by kernel_rfl) (by kernel_rfl) (by kernel_rfl)
   (OpenSpec.preRow_of_cond 8 hx (by kernel_rfl) (fun k hk => by cases hk) (by kernel_rfl) (memoriesPlain_laid os))) ?_
 intro W base args ds gs before hval hW _ _ hS hL _ _
 exact memoriesPlain_contract H enc W base args ds gs before hval hW hL _ hS
theorem memoriesPlain_said : Rows.MemoriesPlainSaid :=
 OpenClaim.holds_of_cond 3 Tryz.f3 rfl rfl rfl rfl rfl rfl rfl ⟨rfl, rfl, rfl, rfl, rfl⟩ rfl rfl rfl rfl rfl (by kernel_rfl) Tryz.func3 (by kernel_rfl)
  (of_decide_eq_true (by kernel_rfl)) (by unfold Func.isWrapper; first | (rw [if_pos (by decide +kernel)]; kernel_rfl) | (rw [if_neg (by decide +kernel)]; exact ⟨rfl, rfl⟩))
  (fun os started H enc _ F => by rw [OpenClaim.pre_eq_preRow]; exact memoriesPlain_lifted os started H enc F)
theorem memoriesPlain_plain (f : FuncId) (fn : Func) (hf : Tryz.pinned.checked.prog.funcNamed "probecard/probecardlaw09.MemoriesPlain" = some f) (hfn : Tryz.pinned.checked.prog.funcs[f]? = some fn) :
  false = Tryz.pinned.checked.prog.looks [] ∧ ∀ (j : Nat) t, fn.params[j]? = some t → Tryz.pinned.checked.prog.wantsStandIn t = false := by
 obtain rfl : f = 3 := Option.some.inj ((show Tryz.prog.funcNamed "probecard/probecardlaw09.MemoriesPlain" = some 3 by kernel_rfl).symm.trans hf) |>.symm
 obtain rfl : fn = Tryz.f3 := (Option.some.inj (Tryz.func3.symm.trans hfn)).symm
 refine ⟨by kernel_rfl, fun j t ht => ?_⟩
 rw [Tryz.params3] at ht
 have hm : t = 27 ∨ t = 33 := by simpa using Array.mem_of_getElem? ht
 rcases hm with rfl | rfl
 ·exact (show Tryz.prog.wantsStandIn 27 = false by kernel_rfl)
 ·exact (show Tryz.prog.wantsStandIn 33 = false by kernel_rfl)
theorem memoriesPlain_card : Rows.MemoriesPlainCardSaid :=
 Claim7.holds_tied_plain_at .later [] _ _ _ _ memoriesPlain_said (fun _ h => by cases h) (by kernel_rfl) (fun _ h => by cases h) memoriesPlain_row_tie rfl ⟨rfl, rfl⟩ (by kernel_rfl) rfl memoriesPlain_plain (by kernel_rfl)
#print axioms memoriesPlain_card
end Go.Proofs.YtjcogpofldkniaaGreatDoor
