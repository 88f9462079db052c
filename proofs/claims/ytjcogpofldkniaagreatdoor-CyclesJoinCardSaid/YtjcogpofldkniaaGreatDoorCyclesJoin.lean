/- The tied card of CyclesJoin: a sequence can be split anywhere. Conditions: those of the row, and no others. -/
import Derived.Test.YtjcogpofldkniaaGreatDoorPkD
import Derived.Test.YtjcogpofldkniaaGreatDoorPkF
import Derived.Test.YtjcogpofldkniaaGreatDoorPkG
set_option linter.unusedSimpArgs false
set_option linter.unusedVariables false
set_option maxRecDepth 100000
namespace Go.Proofs.YtjcogpofldkniaaGreatDoor
open Go Go.Lg Go.ChangeShapes Go.WideShapes Go.ChangeAt Go.RowKit
theorem cyclesJoin_contract (H : Type) (enc : TypeId × Value → H) (W : World) (base : Nat) (args : Array Value) (ds gs : List (DataW H)) (before : List MemPlace)
  (hval : ∀ (j : Nat) t v, Tryz.f6.params[j]? = some t → args[j]? = some v → Value.okWide Tryz.prog W .any base t v)
  (hW : DataW.Whole enc Tryz.prog Tryz.f6.params.toList Rows.cyclesJoinSpec.vars false W args.toList ds gs before) (hL : laidMetH Tryz.prog Rows.cyclesJoinRow.laid W) :
  Calls Tryz.prog 6 args W fun e W' => ∃ v, e = .returned v ∧ Rows.cyclesJoinSpec.post enc Tryz.prog Tryz.f6 false true false false W args v W' := by
 have hW' := hW
 obtain ⟨p, q, hA0, hV, rfl, _, _⟩ := hW
 have hA : DataW.TrodAll enc Tryz.prog W 0 (fun _ => true) true Tryz.f6.params.toList args.toList ds p := hA0
 rw [Tryz.params6] at hA hval
 obtain ⟨v0, v1, v2, d0, d1, d2, p0, p1, p2, rfl, rfl, rfl, h0, h1, h2⟩ := trodAll_three hA
 obtain ⟨rfl, rfl⟩ := trodVars_none hV
 obtain ⟨x0, hx0, hr0⟩ := qOW (hval 0 27 v0 rfl rfl) h0
 obtain ⟨x1, y1, hx1, hy1, hr1⟩ := qN1 (hval 1 79 v1 rfl rfl) h1
 obtain ⟨x2, rfl, rfl, rfl, hb2⟩ := open_int Tryz.underlying5 (hval 2 5 v2 rfl rfl) h2
 have := qMx q40 (qKL qOs x0 hx0 x1 hx1 y1 hy1 x2 (qOn hb2)) (qOi hL) (F3.cons hr0 (F3.cons hr1 (F3.cons (.v (.int .u8 x2)) (F3.nil W _))))
 refine this.mono fun e W' ⟨he, hb⟩ => ⟨_, he, qNk qOV ?_ rfl rfl Tryz.underlying4 hW' rfl rfl rfl hb⟩
 rw [Tryz.params6]
 intro t ht
 simp at ht
 rcases ht with rfl | rfl | rfl
 ·exact ⟨by kernel_rfl, of_decide_eq_true (by kernel_rfl)⟩
 ·exact ⟨by kernel_rfl, of_decide_eq_true (by kernel_rfl)⟩
 ·exact ⟨by kernel_rfl, of_decide_eq_true (by kernel_rfl)⟩
theorem cyclesJoin_laid (os : Os) : laidMet Tryz.prog Rows.cyclesJoinRow.laid ((qLx os).forCall (fun _ _ => 0) ⟨#[], #[c0, .agg #[.slice none 0 0, .slice none 0 0], .int .u8 0], []⟩).memory :=
 laidMet_of_run' 8 (by kernel_rfl) (by kernel_rfl)
theorem cyclesJoin_reads (os : Os) {H : Type} (enc : TypeId × Value → H) : ∃ places, DataW.whole enc Tryz.prog ((qLx os).forCall (fun _ _ => 0) ⟨#[], #[c0, .agg #[.slice none 0 0, .slice none 0 0], .int .u8 0], []⟩).memory Tryz.f6.params.toList Rows.cyclesJoinSpec.vars false (#[c0, .agg #[.slice none 0 0, .slice none 0 0], .int .u8 0] : Array Value).toList 8 = some ([d0, .agg [.agg [.nil], .nil], .lit (.int .u8 0)], [], places) :=
 ⟨[], by kernel_rfl⟩
theorem cyclesJoin_lifted (os : Os) (started : os.Started) (H : Type) (enc : TypeId × Value → H) (F : Stop.Interp) :
  ReturnsInHanded {} Tryz.checked os 6 .any ((OpenSpec.ofChange Rows.cyclesJoinSpec).preRow enc Tryz.prog Tryz.f6 Rows.cyclesJoinRow.domain false Rows.cyclesJoinRow.laid) (((OpenSpec.ofChange Rows.cyclesJoinSpec).at F).post enc Tryz.prog Tryz.f6 false true false false) := by
 obtain ⟨places, hx⟩ := cyclesJoin_reads os enc
 refine returnsInHanded_of_row (C := Tryz.checked) (s := OpenSpec.ofChange Rows.cyclesJoinSpec) own started (by kernel_rfl) Tryz.func6
  (witness_row_at (enc := enc) (C := Tryz.checked) false (qLx os) #[c0, .agg #[.slice none 0 0, .slice none 0 0], .int .u8 0] rfl (by kernel_rfl) (by kernel_rfl) (by kernel_rfl)
   (OpenSpec.preRow_of_cond 8 hx (by kernel_rfl) (fun k hk => by cases hk) (by kernel_rfl) (cyclesJoin_laid os))) ?_
 intro W base args ds gs before hval hW _ _ _ hL _ _
 exact cyclesJoin_contract H enc W base args ds gs before hval hW hL
theorem cyclesJoin_said : Rows.CyclesJoinSaid :=
 OpenClaim.holds_of_cond 6 Tryz.f6 rfl rfl rfl rfl rfl rfl rfl ⟨rfl, rfl, rfl, rfl, rfl⟩ rfl rfl rfl rfl rfl (by kernel_rfl) Tryz.func6 (by kernel_rfl)
  (of_decide_eq_true (by kernel_rfl)) (by unfold Func.isWrapper; first | (rw [if_pos (by decide +kernel)]; kernel_rfl) | (rw [if_neg (by decide +kernel)]; exact ⟨rfl, rfl⟩))
  (fun os started H enc _ F => by rw [OpenClaim.pre_eq_preRow]; exact cyclesJoin_lifted os started H enc F)
theorem cyclesJoin_plain (f : FuncId) (fn : Func) (hf : Tryz.pinned.checked.prog.funcNamed "probecard/probecardlaw10.CyclesJoin" = some f) (hfn : Tryz.pinned.checked.prog.funcs[f]? = some fn) :
  false = Tryz.pinned.checked.prog.looks [] ∧ ∀ (j : Nat) t, fn.params[j]? = some t → Tryz.pinned.checked.prog.wantsStandIn t = false := by
 obtain rfl : f = 6 := Option.some.inj ((show Tryz.prog.funcNamed "probecard/probecardlaw10.CyclesJoin" = some 6 by kernel_rfl).symm.trans hf) |>.symm
 obtain rfl : fn = Tryz.f6 := (Option.some.inj (Tryz.func6.symm.trans hfn)).symm
 refine ⟨by kernel_rfl, fun j t ht => ?_⟩
 rw [Tryz.params6] at ht
 have hm : t = 27 ∨ t = 79 ∨ t = 5 := by simpa using Array.mem_of_getElem? ht
 rcases hm with rfl | rfl | rfl
 ·exact (show Tryz.prog.wantsStandIn 27 = false by kernel_rfl)
 ·exact (show Tryz.prog.wantsStandIn 79 = false by kernel_rfl)
 ·exact (show Tryz.prog.wantsStandIn 5 = false by kernel_rfl)
theorem cyclesJoin_card : Rows.CyclesJoinCardSaid :=
 Claim7.holds_tied_plain_at .later [] _ _ _ _ cyclesJoin_said (fun _ h => by cases h) (by kernel_rfl) (fun _ h => by cases h) cyclesJoin_row_tie rfl ⟨rfl, rfl⟩ (by kernel_rfl) rfl cyclesJoin_plain (by kernel_rfl)
#print axioms cyclesJoin_card
end Go.Proofs.YtjcogpofldkniaaGreatDoor
