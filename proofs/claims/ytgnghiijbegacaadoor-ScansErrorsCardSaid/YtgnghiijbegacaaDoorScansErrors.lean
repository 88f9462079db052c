/- The tied card of ScansErrors: each refusal of the scan functions is the documented one, and nothing is half done. Conditions: those of the row, and no others. -/
import Derived.Test.YtgnghiijbegacaaDoorPkF
set_option linter.unusedSimpArgs false
set_option linter.unusedVariables false
set_option maxRecDepth 100000
namespace Go.Proofs.YtgnghiijbegacaaDoor
open Go Go.Lg Go.ChangeShapes Go.WideShapes Go.ChangeAt Go.RowKit

theorem scansErrors_contract (H : Type) (enc : TypeId × Value → H) (W : World) (base : Nat) (args : Array Value) (ds gs : List (DataW H)) (before : List MemPlace)
    (hval : ∀ (j : Nat) t v, Tryd.f11.params[j]? = some t → args[j]? = some v → Value.okWide Tryd.prog W .any base t v)
    (hW : DataW.Whole enc Tryd.prog Tryd.f11.params.toList Rows.scansErrorsSpec.vars false W args.toList ds gs before) (hL : laidMetH Tryd.prog Rows.scansErrorsRow.laid W) :
    Calls Tryd.prog 11 args W fun e W' => ∃ v, e = .returned v ∧ Rows.scansErrorsSpec.post enc Tryd.prog Tryd.f11 false true false false W args v W' := by
  have hW' := hW
  obtain ⟨p, q, hA0, hV, rfl, _, _⟩ := hW
  have hA : DataW.TrodAll enc Tryd.prog W 0 (fun _ => true) true Tryd.f11.params.toList args.toList ds p := hA0
  rw [Tryd.params11] at hA hval
  obtain ⟨v0, v1, v2, d0, d1, d2, p0, p1, p2, rfl, rfl, rfl, h0, h1, h2⟩ := trodAll_three hA
  obtain ⟨rfl, rfl⟩ := trodVars_none hV
  obtain ⟨x0, hx0, hr0⟩ := open_cd (hval 0 27 v0 rfl rfl) h0
  obtain ⟨x1, hn1, hr1⟩ := open_chn (hval 1 35 v1 rfl rfl) h1
  obtain ⟨x2, hr2⟩ := open_ed (hval 2 91 v2 rfl rfl) h2
  have := law_calls law34_ScansErrors_chk (lawErrors_spec G0_ok x0 hx0 x1 hn1 x2) (gl_of4 hL) (TRs.cons hr0 (TRs.cons hr1 (TRs.cons hr2 (TRs.nil W _))))
  refine this.mono fun e W' ⟨he, hb⟩ => ⟨_, he, law_post laidOut ?_ rfl rfl Tryd.underlying4 hW' rfl rfl rfl hb⟩
  rw [Tryd.params11]
  intro t ht
  simp at ht
  rcases ht with rfl | rfl | rfl
  · exact ⟨by kernel_rfl, of_decide_eq_true (by kernel_rfl)⟩
  · exact ⟨by kernel_rfl, of_decide_eq_true (by kernel_rfl)⟩
  · exact ⟨by kernel_rfl, of_decide_eq_true (by kernel_rfl)⟩

theorem scansErrors_laid (os : Os) : laidMet Tryd.prog Rows.scansErrorsRow.laid ((laidWorld4 os).forCall (fun _ _ => 0) ⟨#[], #[c0, .slice none 0 0, .agg #[.slice none 0 0, .slice none 0 0]], []⟩).memory :=
  laidMet_of_run' 8 (by kernel_rfl) (by kernel_rfl)
theorem scansErrors_reads (os : Os) {H : Type} (enc : TypeId × Value → H) : ∃ places, DataW.whole enc Tryd.prog ((laidWorld4 os).forCall (fun _ _ => 0) ⟨#[], #[c0, .slice none 0 0, .agg #[.slice none 0 0, .slice none 0 0]], []⟩).memory Tryd.f11.params.toList Rows.scansErrorsSpec.vars false (#[c0, .slice none 0 0, .agg #[.slice none 0 0, .slice none 0 0]] : Array Value).toList 8 = some ([d0, .nil, .agg [.nil, .nil]], [], places) :=
  ⟨[], by kernel_rfl⟩
theorem scansErrors_lifted (os : Os) (started : os.Started) (H : Type) (enc : TypeId × Value → H) (F : Stop.Interp) :
    ReturnsInHanded {} Tryd.checked os 11 .any ((OpenSpec.ofChange Rows.scansErrorsSpec).preRow enc Tryd.prog Tryd.f11 Rows.scansErrorsRow.domain false Rows.scansErrorsRow.laid) (((OpenSpec.ofChange Rows.scansErrorsSpec).at F).post enc Tryd.prog Tryd.f11 false true false false) := by
  obtain ⟨places, hx⟩ := scansErrors_reads os enc
  refine returnsInHanded_of_row (C := Tryd.checked) (s := OpenSpec.ofChange Rows.scansErrorsSpec) own started (by kernel_rfl) Tryd.func11
    (witness_row_at (enc := enc) (C := Tryd.checked) false (laidWorld4 os) #[c0, .slice none 0 0, .agg #[.slice none 0 0, .slice none 0 0]] rfl (by kernel_rfl) (by kernel_rfl) (by kernel_rfl)
      (OpenSpec.preRow_of_cond 8 hx (by kernel_rfl) (fun k hk => by cases hk) (by kernel_rfl) (scansErrors_laid os))) ?_
  intro W base args ds gs before hval hW _ _ _ hL _ _
  exact scansErrors_contract H enc W base args ds gs before hval hW hL
theorem scansErrors_said : Rows.ScansErrorsSaid :=
  OpenClaim.holds_of_cond 11 Tryd.f11 rfl rfl rfl rfl rfl rfl rfl ⟨rfl, rfl, rfl, rfl, rfl⟩ rfl rfl rfl rfl rfl (by kernel_rfl) Tryd.func11 (by kernel_rfl)
    (of_decide_eq_true (by kernel_rfl)) (by unfold Func.isWrapper; first | (rw [if_pos (by decide +kernel)]; kernel_rfl) | (rw [if_neg (by decide +kernel)]; exact ⟨rfl, rfl⟩))
    (fun os started H enc _ F => by rw [OpenClaim.pre_eq_preRow]; exact scansErrors_lifted os started H enc F)
theorem scansErrors_plain (f : FuncId) (fn : Func) (hf : Tryd.pinned.checked.prog.funcNamed "probecard/probecardlaw34.ScansErrors" = some f) (hfn : Tryd.pinned.checked.prog.funcs[f]? = some fn) :
    false = Tryd.pinned.checked.prog.looks [] ∧ ∀ (j : Nat) t, fn.params[j]? = some t → Tryd.pinned.checked.prog.wantsStandIn t = false := by
  obtain rfl : f = 11 := Option.some.inj ((show Tryd.prog.funcNamed "probecard/probecardlaw34.ScansErrors" = some 11 by kernel_rfl).symm.trans hf) |>.symm
  obtain rfl : fn = Tryd.f11 := (Option.some.inj (Tryd.func11.symm.trans hfn)).symm
  refine ⟨by kernel_rfl, fun j t ht => ?_⟩
  rw [Tryd.params11] at ht
  have hm : t = 27 ∨ t = 35 ∨ t = 91 := by simpa using Array.mem_of_getElem? ht
  rcases hm with rfl | rfl | rfl
  · exact (show Tryd.prog.wantsStandIn 27 = false by kernel_rfl)
  · exact (show Tryd.prog.wantsStandIn 35 = false by kernel_rfl)
  · exact (show Tryd.prog.wantsStandIn 91 = false by kernel_rfl)
theorem scansErrors_card : Rows.ScansErrorsCardSaid :=
  Claim7.holds_tied_plain_at .later [] _ _ _ _ scansErrors_said (fun _ h => by cases h) (by kernel_rfl) (fun _ h => by cases h) scansErrors_row_tie rfl ⟨rfl, rfl⟩ (by kernel_rfl) rfl scansErrors_plain (by kernel_rfl)
#print axioms scansErrors_card
end Go.Proofs.YtgnghiijbegacaaDoor
