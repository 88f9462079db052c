/- The tied card of MemoriesCycle: a cycle agrees with the reference: the nets, the response and the next state. Conditions: those of the row, and no others. -/
import Derived.Test.YthgiocdefejbiaaGreatDoorPkG
set_option linter.unusedSimpArgs false
set_option linter.unusedVariables false
set_option maxRecDepth 100000
namespace Go.Proofs.YthgiocdefejbiaaGreatDoor
open Go Go.Lg Go.ChangeShapes Go.WideShapes Go.ChangeAt Go.RowKit
theorem memoriesCycle_contract (H : Type) (enc : TypeId × Value → H) (W : World) (base : Nat) (args : Array Value) (ds gs : List (DataW H)) (before : List MemPlace)
  (hval : ∀ (j : Nat) t v, Tryz.f3.params[j]? = some t → args[j]? = some v → Value.okWide Tryz.prog W .any base t v)
  (hW : DataW.Whole enc Tryz.prog Tryz.f3.params.toList Rows.memoriesCycleSpec.vars false W args.toList ds gs before) (hL : laidMetH Tryz.prog Rows.memoriesCycleRow.laid W) :
  Calls Tryz.prog 3 args W fun e W' => ∃ v, e = .returned v ∧ Rows.memoriesCycleSpec.post enc Tryz.prog Tryz.f3 false true false false W args v W' := by
 have hW' := hW
 obtain ⟨p, q, hA0, hV, rfl, _, _⟩ := hW
 have hA : DataW.TrodAll enc Tryz.prog W 0 (fun _ => true) true Tryz.f3.params.toList args.toList ds p := hA0
 rw [Tryz.params3] at hA hval
 obtain ⟨v0, v1, d0, d1, p0, p1, rfl, rfl, rfl, h0, h1⟩ := trodAll_two hA
 obtain ⟨rfl, rfl⟩ := trodVars_none hV
 obtain ⟨x0, hx0, hr0⟩ := qOO (hval 0 27 v0 rfl rfl) h0
 obtain ⟨x1, y1, hx1, hy1, hr1⟩ := qNs (hval 1 33 v1 rfl rfl) h1
 have := qMt q28 (qJN qOe x0 hx0 x1 hx1 y1 hy1) (qOf hL) (Fp.cons hr0 (Fp.cons hr1 (Fp.nil W _)))
 refine this.mono fun e W' ⟨he, hb⟩ => ⟨_, he, qNe qON ?_ rfl rfl Tryz.underlying4 hW' rfl rfl rfl hb⟩
 rw [Tryz.params3]
 intro t ht
 simp at ht
 rcases ht with rfl | rfl
 ·exact ⟨by kernel_rfl, of_decide_eq_true (by kernel_rfl)⟩
 ·exact ⟨by kernel_rfl, of_decide_eq_true (by kernel_rfl)⟩
theorem memoriesCycle_laid (os : Os) : laidMet Tryz.prog Rows.memoriesCycleRow.laid ((qMw os).forCall (fun _ _ => 0) ⟨#[], #[c0, .agg #[.slice none 0 0, .slice none 0 0, .slice none 0 0]], []⟩).memory :=
 laidMet_of_run' 8 (by kernel_rfl) (by kernel_rfl)
theorem memoriesCycle_reads (os : Os) {H : Type} (enc : TypeId × Value → H) : ∃ places, DataW.whole enc Tryz.prog ((qMw os).forCall (fun _ _ => 0) ⟨#[], #[c0, .agg #[.slice none 0 0, .slice none 0 0, .slice none 0 0]], []⟩).memory Tryz.f3.params.toList Rows.memoriesCycleSpec.vars false (#[c0, .agg #[.slice none 0 0, .slice none 0 0, .slice none 0 0]] : Array Value).toList 8 = some ([d0, .agg [.agg [.nil], .agg [.nil, .nil]]], [], places) :=
 ⟨[], by kernel_rfl⟩
theorem memoriesCycle_lifted (os : Os) (started : os.Started) (H : Type) (enc : TypeId × Value → H) (F : Stop.Interp) :
  ReturnsInHanded {} Tryz.checked os 3 .any ((OpenSpec.ofChange Rows.memoriesCycleSpec).preRow enc Tryz.prog Tryz.f3 Rows.memoriesCycleRow.domain false Rows.memoriesCycleRow.laid) (((OpenSpec.ofChange Rows.memoriesCycleSpec).at F).post enc Tryz.prog Tryz.f3 false true false false) := by
 obtain ⟨places, hx⟩ := memoriesCycle_reads os enc
 refine returnsInHanded_of_row (C := Tryz.checked) (s := OpenSpec.ofChange Rows.memoriesCycleSpec) own started (by kernel_rfl) Tryz.func3
  (witness_row_at (enc := enc) (C := Tryz.checked) false (qMw os) #[c0, .agg #[.slice none 0 0, .slice none 0 0, .slice none 0 0]] rfl (by kernel_rfl) (by kernel_rfl) (by kernel_rfl)
   (OpenSpec.preRow_of_cond 8 hx (by kernel_rfl) (fun k hk => by cases hk) (by kernel_rfl) (memoriesCycle_laid os))) ?_
 intro W base args ds gs before hval hW _ _ _ hL _ _
 exact memoriesCycle_contract H enc W base args ds gs before hval hW hL
theorem memoriesCycle_said : Rows.MemoriesCycleSaid :=
 OpenClaim.holds_of_cond 3 Tryz.f3 rfl rfl rfl rfl rfl rfl rfl ⟨rfl, rfl, rfl, rfl, rfl⟩ rfl rfl rfl rfl rfl (by kernel_rfl) Tryz.func3 (by kernel_rfl)
  (of_decide_eq_true (by kernel_rfl)) (by unfold Func.isWrapper; first | (rw [if_pos (by decide +kernel)]; kernel_rfl) | (rw [if_neg (by decide +kernel)]; exact ⟨rfl, rfl⟩))
  (fun os started H enc _ F => by rw [OpenClaim.pre_eq_preRow]; exact memoriesCycle_lifted os started H enc F)
theorem memoriesCycle_plain (f : FuncId) (fn : Func) (hf : Tryz.pinned.checked.prog.funcNamed "probecard/probecardlaw09.MemoriesCycle" = some f) (hfn : Tryz.pinned.checked.prog.funcs[f]? = some fn) :
  false = Tryz.pinned.checked.prog.looks [] ∧ ∀ (j : Nat) t, fn.params[j]? = some t → Tryz.pinned.checked.prog.wantsStandIn t = false := by
 obtain rfl : f = 3 := Option.some.inj ((show Tryz.prog.funcNamed "probecard/probecardlaw09.MemoriesCycle" = some 3 by kernel_rfl).symm.trans hf) |>.symm
 obtain rfl : fn = Tryz.f3 := (Option.some.inj (Tryz.func3.symm.trans hfn)).symm
 refine ⟨by kernel_rfl, fun j t ht => ?_⟩
 rw [Tryz.params3] at ht
 have hm : t = 27 ∨ t = 33 := by simpa using Array.mem_of_getElem? ht
 rcases hm with rfl | rfl
 ·exact (show Tryz.prog.wantsStandIn 27 = false by kernel_rfl)
 ·exact (show Tryz.prog.wantsStandIn 33 = false by kernel_rfl)
theorem memoriesCycle_card : Rows.MemoriesCycleCardSaid :=
 Claim7.holds_tied_plain_at .later [] _ _ _ _ memoriesCycle_said (fun _ h => by cases h) (by kernel_rfl) (fun _ h => by cases h) memoriesCycle_row_tie rfl ⟨rfl, rfl⟩ (by kernel_rfl) rfl memoriesCycle_plain (by kernel_rfl)
#print axioms memoriesCycle_card
end Go.Proofs.YthgiocdefejbiaaGreatDoor
