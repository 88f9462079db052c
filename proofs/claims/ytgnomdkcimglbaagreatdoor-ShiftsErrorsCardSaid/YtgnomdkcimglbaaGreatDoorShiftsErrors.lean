/- The tied card of ShiftsErrors: the calls return the error of scans.Insert, then ErrWidth, then ErrArg. Conditions: those of the row, and no others Conditions: those of the row, and no others. -/
import Derived.Test.YtgnomdkcimglbaaGreatDoorPkE
import Derived.Test.YtgnomdkcimglbaaGreatDoorPkF
set_option linter.unusedSimpArgs false
set_option linter.unusedVariables false
set_option maxRecDepth 100000
namespace Go.Proofs.YtgnomdkcimglbaaGreatDoor
open Go Go.Lg Go.ChangeShapes Go.WideShapes Go.ChangeAt Go.RowKit
theorem shiftsErrors_contract (H : Type) (enc : TypeId × Value → H) (W : World) (base : Nat) (args : Array Value) (ds gs : List (DataW H)) (before : List MemPlace)
    (hval : ∀ (j : Nat) t v, Tryz.f9.params[j]? = some t → args[j]? = some v → Value.okWide Tryz.prog W .any base t v)
    (hW : DataW.Whole enc Tryz.prog Tryz.f9.params.toList Rows.shiftsErrorsSpec.vars false W args.toList ds gs before) (hL : laidMetH Tryz.prog Rows.shiftsErrorsRow.laid W) :
    Calls Tryz.prog 9 args W fun e W' => ∃ v, e = .returned v ∧ Rows.shiftsErrorsSpec.post enc Tryz.prog Tryz.f9 false true false false W args v W' := by
  have hW' := hW
  obtain ⟨p, q, hA0, hV, rfl, _, _⟩ := hW
  have hA : DataW.TrodAll enc Tryz.prog W 0 (fun _ => true) true Tryz.f9.params.toList args.toList ds p := hA0
  rw [Tryz.params9] at hA hval
  obtain ⟨v0, v1, v2, d0, d1, d2, p0, p1, p2, rfl, rfl, rfl, h0, h1, h2⟩ := trodAll_three hA
  obtain ⟨rfl, rfl⟩ := trodVars_none hV
  obtain ⟨x0, hx0, hr0⟩ := open_cd (hval 0 27 v0 rfl rfl) h0
  obtain ⟨x1, hn1, hr1⟩ := open_chn (hval 1 56 v1 rfl rfl) h1
  obtain ⟨x2, y2, hx2, hy2, hr2⟩ := open_z2 (hval 2 80 v2 rfl rfl) h2
  have := law_calls law35_ShiftsErrors_chk (lawErrors35_spec G0_ok x0 hx0 x1 hn1 x2 y2 hx2 hy2) (gl_of4 hL) (TRs.cons hr0 (TRs.cons hr1 (TRs.cons hr2 (TRs.nil W _))))
  refine this.mono fun e W' ⟨he, hb⟩ => ⟨_, he, law_post laidOut ?_ rfl rfl Tryz.underlying4 hW' rfl rfl rfl hb⟩
  rw [Tryz.params9]
  intro t ht
  simp at ht
  rcases ht with rfl | rfl | rfl
  · exact ⟨by kernel_rfl, of_decide_eq_true (by kernel_rfl)⟩
  · exact ⟨by kernel_rfl, of_decide_eq_true (by kernel_rfl)⟩
  · exact ⟨by kernel_rfl, of_decide_eq_true (by kernel_rfl)⟩
theorem shiftsErrors_laid (os : Os) : laidMet Tryz.prog Rows.shiftsErrorsRow.laid ((laidWorld4 os).forCall (fun _ _ => 0) ⟨#[], #[c0, .slice none 0 0, .agg #[.slice none 0 0, .slice none 0 0]], []⟩).memory :=
  laidMet_of_run' 8 (by kernel_rfl) (by kernel_rfl)
theorem shiftsErrors_reads (os : Os) {H : Type} (enc : TypeId × Value → H) : ∃ places, DataW.whole enc Tryz.prog ((laidWorld4 os).forCall (fun _ _ => 0) ⟨#[], #[c0, .slice none 0 0, .agg #[.slice none 0 0, .slice none 0 0]], []⟩).memory Tryz.f9.params.toList Rows.shiftsErrorsSpec.vars false (#[c0, .slice none 0 0, .agg #[.slice none 0 0, .slice none 0 0]] : Array Value).toList 8 = some ([d0, .nil, .agg [.nil, .nil]], [], places) :=
  ⟨[], by kernel_rfl⟩
theorem shiftsErrors_lifted (os : Os) (started : os.Started) (H : Type) (enc : TypeId × Value → H) (F : Stop.Interp) :
    ReturnsInHanded {} Tryz.checked os 9 .any ((OpenSpec.ofChange Rows.shiftsErrorsSpec).preRow enc Tryz.prog Tryz.f9 Rows.shiftsErrorsRow.domain false Rows.shiftsErrorsRow.laid) (((OpenSpec.ofChange Rows.shiftsErrorsSpec).at F).post enc Tryz.prog Tryz.f9 false true false false) := by
  obtain ⟨places, hx⟩ := shiftsErrors_reads os enc
  refine returnsInHanded_of_row (C := Tryz.checked) (s := OpenSpec.ofChange Rows.shiftsErrorsSpec) own started (by kernel_rfl) Tryz.func9
    (witness_row_at (enc := enc) (C := Tryz.checked) false (laidWorld4 os) #[c0, .slice none 0 0, .agg #[.slice none 0 0, .slice none 0 0]] rfl (by kernel_rfl) (by kernel_rfl) (by kernel_rfl)
      (OpenSpec.preRow_of_cond 8 hx (by kernel_rfl) (fun k hk => by cases hk) (by kernel_rfl) (shiftsErrors_laid os))) ?_
  intro W base args ds gs before hval hW _ _ _ hL _ _
  exact shiftsErrors_contract H enc W base args ds gs before hval hW hL
theorem shiftsErrors_said : Rows.ShiftsErrorsSaid :=
  OpenClaim.holds_of_cond 9 Tryz.f9 rfl rfl rfl rfl rfl rfl rfl ⟨rfl, rfl, rfl, rfl, rfl⟩ rfl rfl rfl rfl rfl (by kernel_rfl) Tryz.func9 (by kernel_rfl)
    (of_decide_eq_true (by kernel_rfl)) (by unfold Func.isWrapper; first | (rw [if_pos (by decide +kernel)]; kernel_rfl) | (rw [if_neg (by decide +kernel)]; exact ⟨rfl, rfl⟩))
    (fun os started H enc _ F => by rw [OpenClaim.pre_eq_preRow]; exact shiftsErrors_lifted os started H enc F)
theorem shiftsErrors_plain (f : FuncId) (fn : Func) (hf : Tryz.pinned.checked.prog.funcNamed "probecard/probecardlaw35.ShiftsErrors" = some f) (hfn : Tryz.pinned.checked.prog.funcs[f]? = some fn) :
    false = Tryz.pinned.checked.prog.looks [] ∧ ∀ (j : Nat) t, fn.params[j]? = some t → Tryz.pinned.checked.prog.wantsStandIn t = false := by
  obtain rfl : f = 9 := Option.some.inj ((show Tryz.prog.funcNamed "probecard/probecardlaw35.ShiftsErrors" = some 9 by kernel_rfl).symm.trans hf) |>.symm
  obtain rfl : fn = Tryz.f9 := (Option.some.inj (Tryz.func9.symm.trans hfn)).symm
  refine ⟨by kernel_rfl, fun j t ht => ?_⟩
  rw [Tryz.params9] at ht
  have hm : t = 27 ∨ t = 56 ∨ t = 80 := by simpa using Array.mem_of_getElem? ht
  rcases hm with rfl | rfl | rfl
  · exact (show Tryz.prog.wantsStandIn 27 = false by kernel_rfl)
  · exact (show Tryz.prog.wantsStandIn 56 = false by kernel_rfl)
  · exact (show Tryz.prog.wantsStandIn 80 = false by kernel_rfl)
theorem shiftsErrors_card : Rows.ShiftsErrorsCardSaid :=
  Claim7.holds_tied_plain_at .later [] _ _ _ _ shiftsErrors_said (fun _ h => by cases h) (by kernel_rfl) (fun _ h => by cases h) shiftsErrors_row_tie rfl ⟨rfl, rfl⟩ (by kernel_rfl) rfl shiftsErrors_plain (by kernel_rfl)
#print axioms shiftsErrors_card
end Go.Proofs.YtgnomdkcimglbaaGreatDoor
