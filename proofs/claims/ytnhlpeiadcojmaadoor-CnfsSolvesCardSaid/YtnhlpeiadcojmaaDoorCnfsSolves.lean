/- The tied card of CnfsSolves: Solve finds a model if and only if there is one; Holds accepts just the models. Conditions: those of the row, and no others. -/
import Derived.Test.YtnhlpeiadcojmaaDoorPkF
import Derived.Test.YtnhlpeiadcojmaaDoorPkG
set_option linter.unusedSimpArgs false
set_option linter.unusedVariables false
set_option maxRecDepth 100000
namespace Go.Proofs.YtnhlpeiadcojmaaDoor
open Go Go.Lg Go.ChangeShapes Go.WideShapes Go.ChangeAt Go.RowKit
theorem cnfsSolves_contract (H : Type) (enc : TypeId × Value → H) (W : World) (base : Nat) (args : Array Value) (ds gs : List (DataW H)) (before : List MemPlace)
  (hval : ∀ (j : Nat) t v, Tryd.f3.params[j]? = some t → args[j]? = some v → Value.okWide Tryd.prog W .any base t v)
  (hW : DataW.Whole enc Tryd.prog Tryd.f3.params.toList Rows.cnfsSolvesSpec.vars false W args.toList ds gs before) (hL : laidMetH Tryd.prog Rows.cnfsSolvesRow.laid W) :
  Calls Tryd.prog 3 args W fun e W' => ∃ v, e = .returned v ∧ Rows.cnfsSolvesSpec.post enc Tryd.prog Tryd.f3 false true false false W args v W' := by
 have hW' := hW
 obtain ⟨p, q, hA0, hV, rfl, _, _⟩ := hW
 have hA : DataW.TrodAll enc Tryd.prog W 0 (fun _ => true) true Tryd.f3.params.toList args.toList ds p := hA0
 rw [Tryd.params3] at hA hval
 obtain ⟨v0, v1, v2, d0, d1, d2, p0, p1, p2, rfl, rfl, rfl, h0, h1, h2⟩ := trodAll_three hA
 obtain ⟨rfl, rfl⟩ := trodVars_none hV
 obtain ⟨x0, rfl, rfl, rfl, hb0⟩ := open_int Tryd.underlying5 (hval 0 5 v0 rfl rfl) h0
 obtain ⟨x1, hx1, hr1⟩ := qE8 (hval 1 22 v1 rfl rfl) h1
 obtain ⟨x2, rfl, rfl, rfl, hb2⟩ := open_int Tryd.underlying5 (hval 2 5 v2 rfl rfl) h2
 have := qF7 Xe (qAz qGe qEI x0 (qHc hb0) x1 hx1 x2 (qHc hb2)) (qHe hL) (E7.cons (.v (.int .u8 x0)) (E7.cons hr1 (E7.cons (.v (.int .u8 x2)) (E7.nil W _))))
 refine this.mono fun e W' ⟨he, hb⟩ => ⟨_, he, qGL qHK ?_ rfl rfl Tryd.underlying4 hW' rfl rfl rfl hb⟩
 rw [Tryd.params3]
 intro t ht
 simp at ht
 rcases ht with rfl | rfl | rfl
 ·exact ⟨by kernel_rfl, of_decide_eq_true (by kernel_rfl)⟩
 ·exact ⟨by kernel_rfl, of_decide_eq_true (by kernel_rfl)⟩
 ·exact ⟨by kernel_rfl, of_decide_eq_true (by kernel_rfl)⟩
theorem cnfsSolves_laid (os : Os) : laidMet Tryd.prog Rows.cnfsSolvesRow.laid ((qE9 os).forCall (fun _ _ => 0) ⟨#[], #[.int .u8 0, .slice none 0 0, .int .u8 0], []⟩).memory :=
 laidMet_of_run' 8 (by kernel_rfl) (by kernel_rfl)
theorem cnfsSolves_reads (os : Os) {H : Type} (enc : TypeId × Value → H) : ∃ places, DataW.whole enc Tryd.prog ((qE9 os).forCall (fun _ _ => 0) ⟨#[], #[.int .u8 0, .slice none 0 0, .int .u8 0], []⟩).memory Tryd.f3.params.toList Rows.cnfsSolvesSpec.vars false (#[.int .u8 0, .slice none 0 0, .int .u8 0] : Array Value).toList 8 = some ([.lit (.int .u8 0), .nil, .lit (.int .u8 0)], [], places) :=
 ⟨[], by kernel_rfl⟩
theorem cnfsSolves_lifted (os : Os) (started : os.Started) (H : Type) (enc : TypeId × Value → H) (F : Stop.Interp) :
  ReturnsInHanded {} Tryd.checked os 3 .any ((OpenSpec.ofChange Rows.cnfsSolvesSpec).preRow enc Tryd.prog Tryd.f3 Rows.cnfsSolvesRow.domain false Rows.cnfsSolvesRow.laid) (((OpenSpec.ofChange Rows.cnfsSolvesSpec).at F).post enc Tryd.prog Tryd.f3 false true false false) := by
 obtain ⟨places, hx⟩ := cnfsSolves_reads os enc
 refine returnsInHanded_of_row (C := Tryd.checked) (s := OpenSpec.ofChange Rows.cnfsSolvesSpec) own started (by kernel_rfl) Tryd.func3
  (witness_row_at (enc := enc) (C := Tryd.checked) false (qE9 os) #[.int .u8 0, .slice none 0 0, .int .u8 0] rfl (by kernel_rfl) (by kernel_rfl) (by kernel_rfl)
   (OpenSpec.preRow_of_cond 8 hx (by kernel_rfl) (fun k hk => by cases hk) (by kernel_rfl) (cnfsSolves_laid os))) ?_
 intro W base args ds gs before hval hW _ _ _ hL _ _
 exact cnfsSolves_contract H enc W base args ds gs before hval hW hL
theorem cnfsSolves_f1 : (Rows.cnfsSolvesRow.inPlace == Tryd.pinned.checked.prog.inPlace 3) = true := by kernel_rfl
theorem cnfsSolves_f2 : (Rows.cnfsSolvesRow.unfollowed == Tryd.pinned.checked.prog.unfollowed 3) = true := by kernel_rfl
theorem cnfsSolves_f3 : (Rows.cnfsSolvesRow.recurses == Tryd.pinned.checked.prog.recurses 3) = true := by kernel_rfl
theorem cnfsSolves_f4 : (Rows.cnfsSolvesRow.named == Tryd.pinned.checked.prog.varsNamed 3) = true := by kernel_rfl
theorem cnfsSolves_f5 : laidOutB Tryd.pinned.checked.prog = true := by kernel_rfl
theorem cnfsSolves_f6 : mapsRowed Tryd.pinned.checked.prog = true := by kernel_rfl
theorem cnfsSolves_f7 : Tryd.pinned.checked.prog.stopsHeard = true := by kernel_rfl
theorem cnfsSolves_f8 : Tryd.pinned.checked.prog.mayEnter = true := by kernel_rfl
theorem cnfsSolves_f9 : (Rows.cnfsSolvesRow.lifted == Tryd.pinned.checked.prog.liftsFinal) = true := by kernel_rfl
theorem cnfsSolves_f10 : (Rows.cnfsSolvesRow.plainKeys == Tryd.pinned.checked.prog.plainKeys) = true := by kernel_rfl
theorem cnfsSolves_f0 : joinedFacts Tryd.pinned.checked.prog 3 Tryd.f3 (OpenSpec.ofChange Rows.cnfsSolvesSpec).bare Rows.cnfsSolvesRow = true := by
 simp only [joinedFacts, Bool.and_eq_true]
 refine ⟨⟨⟨⟨⟨⟨⟨⟨⟨⟨⟨⟨⟨⟨⟨⟨⟨⟨⟨⟨⟨⟨⟨⟨⟨⟨⟨⟨⟨⟨⟨?_, cnfsSolves_f5⟩, cnfsSolves_f6⟩, ?_⟩, ?_⟩, ?_⟩, ?_⟩, ?_⟩, ?_⟩, cnfsSolves_f1⟩, cnfsSolves_f2⟩, cnfsSolves_f3⟩, cnfsSolves_f4⟩, ?_⟩, ?_⟩, ?_⟩, ?_⟩, ?_⟩, ?_⟩, ?_⟩, ?_⟩, ?_⟩, cnfsSolves_f10⟩, ?_⟩, cnfsSolves_f7⟩, cnfsSolves_f8⟩, cnfsSolves_f9⟩, ?_⟩, ?_⟩, ?_⟩, ?_⟩, ?_⟩ <;> kernel_rfl
theorem cnfsSolves_goes : false = Rows.cnfsSolvesRow.goesBy Tryd.pinned.checked.prog := by kernel_rfl
theorem cnfsSolves_said : Rows.CnfsSolvesSaid :=
 OpenClaim.holds_of_cond 3 Tryd.f3 rfl rfl rfl rfl rfl rfl rfl ⟨rfl, rfl, rfl, rfl, rfl⟩ rfl rfl rfl rfl rfl (by kernel_rfl) Tryd.func3 cnfsSolves_f0
  (of_decide_eq_true (by kernel_rfl)) (by unfold Func.isWrapper; first | (rw [if_pos (by decide +kernel)]; kernel_rfl) | (rw [if_neg (by decide +kernel)]; exact ⟨rfl, rfl⟩))
  (fun os started H enc _ F => by rw [OpenClaim.pre_eq_preRow]; exact cnfsSolves_lifted os started H enc F)
theorem cnfsSolves_plain (f : FuncId) (fn : Func) (hf : Tryd.pinned.checked.prog.funcNamed "probecard/probecardlaw28.CnfsSolves" = some f) (hfn : Tryd.pinned.checked.prog.funcs[f]? = some fn) :
  false = Tryd.pinned.checked.prog.looks [] ∧ ∀ (j : Nat) t, fn.params[j]? = some t → Tryd.pinned.checked.prog.wantsStandIn t = false := by
 obtain rfl : f = 3 := Option.some.inj ((show Tryd.prog.funcNamed "probecard/probecardlaw28.CnfsSolves" = some 3 by kernel_rfl).symm.trans hf) |>.symm
 obtain rfl : fn = Tryd.f3 := (Option.some.inj (Tryd.func3.symm.trans hfn)).symm
 refine ⟨by kernel_rfl, fun j t ht => ?_⟩
 rw [Tryd.params3] at ht
 have hm : t = 5 ∨ t = 22 ∨ t = 5 := by simpa using Array.mem_of_getElem? ht
 rcases hm with rfl | rfl | rfl
 ·exact (show Tryd.prog.wantsStandIn 5 = false by kernel_rfl)
 ·exact (show Tryd.prog.wantsStandIn 22 = false by kernel_rfl)
 ·exact (show Tryd.prog.wantsStandIn 5 = false by kernel_rfl)
theorem cnfsSolves_card : Rows.CnfsSolvesCardSaid :=
 Claim7.holds_tied_plain_at .later [] _ _ _ _ cnfsSolves_said (fun _ h => by cases h) (by kernel_rfl) (fun _ h => by cases h) cnfsSolves_row_tie rfl ⟨rfl, rfl⟩ (by kernel_rfl) rfl cnfsSolves_plain cnfsSolves_goes
#print axioms cnfsSolves_card
end Go.Proofs.YtnhlpeiadcojmaaDoor
