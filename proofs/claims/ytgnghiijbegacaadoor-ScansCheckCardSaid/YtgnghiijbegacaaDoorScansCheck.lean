/- The tied card of ScansCheck: Check accepts exactly complete chains of different Dff nodes, and returns the first error that applies. Conditions: those of the row, and no others. -/
import Derived.Test.YtgnghiijbegacaaDoorPE
set_option linter.unusedSimpArgs false
set_option linter.unusedVariables false
set_option maxRecDepth 100000
namespace Go.Proofs.YtgnghiijbegacaaDoor
open Go Go.Lg Go.ChangeShapes Go.WideShapes Go.ChangeAt Go.RowKit

theorem check_contract (H : Type) (enc : TypeId × Value → H) (W : World) (base : Nat) (args : Array Value) (ds gs : List (DataW H)) (before : List MemPlace)
    (hval : ∀ (j : Nat) t v, Tryd.f4.params[j]? = some t → args[j]? = some v → Value.okWide Tryd.prog W .any base t v)
    (hW : DataW.Whole enc Tryd.prog Tryd.f4.params.toList Rows.scansCheckSpec.vars false W args.toList ds gs before) (hL : laidMetH Tryd.prog Rows.scansCheckRow.laid W) :
    Calls Tryd.prog 4 args W fun e W' => ∃ v, e = .returned v ∧ Rows.scansCheckSpec.post enc Tryd.prog Tryd.f4 false true false false W args v W' := by
  have hW' := hW
  obtain ⟨p, q, hA0, hV, rfl, _, _⟩ := hW
  have hA : DataW.TrodAll enc Tryd.prog W 0 (fun _ => true) true Tryd.f4.params.toList args.toList ds p := hA0
  rw [Tryd.params4] at hA hval
  obtain ⟨v0, v1, d0, d1, p0, p1, rfl, rfl, rfl, h0, h1⟩ := trodAll_two hA
  obtain ⟨rfl, rfl⟩ := trodVars_none hV
  obtain ⟨x, hx, hr⟩ := open_cd (hval 0 27 v0 rfl rfl) h0
  obtain ⟨s, hs⟩ := open_chs (hval 1 35 v1 rfl rfl) h1
  have := law_calls law34_ScansCheck_chk (Check_spec G0_ok x hx s) (gl_of hL) (TRs.cons hr (TRs.cons hs (TRs.nil W _)))
  refine this.mono fun e W' ⟨he, hb⟩ => ⟨_, he, law_post laidOut ?_ rfl rfl Tryd.underlying4 hW' rfl rfl rfl hb⟩
  rw [Tryd.params4]
  intro t ht
  simp at ht
  rcases ht with rfl | rfl
  · exact ⟨by kernel_rfl, of_decide_eq_true (by kernel_rfl)⟩
  · exact ⟨by kernel_rfl, of_decide_eq_true (by kernel_rfl)⟩

theorem laid_metC (os : Os) : laidMet Tryd.prog Rows.scansCheckRow.laid ((laidWorld os).forCall (fun _ _ => 0) ⟨#[], #[c0, .slice none 0 0], []⟩).memory :=
  laidMet_of_run' 8 (by kernel_rfl) (by kernel_rfl)
theorem readsC (os : Os) {H : Type} (enc : TypeId × Value → H) : ∃ places, DataW.whole enc Tryd.prog ((laidWorld os).forCall (fun _ _ => 0) ⟨#[], #[c0, .slice none 0 0], []⟩).memory Tryd.f4.params.toList Rows.scansCheckSpec.vars false #[c0, .slice none 0 0].toList 8 = some ([d0, .nil], [], places) :=
  ⟨[], by kernel_rfl⟩

theorem check_lifted (os : Os) (started : os.Started) (H : Type) (enc : TypeId × Value → H) (F : Stop.Interp) :
    ReturnsInHanded {} Tryd.checked os 4 .any ((OpenSpec.ofChange Rows.scansCheckSpec).preRow enc Tryd.prog Tryd.f4 Rows.scansCheckRow.domain false Rows.scansCheckRow.laid) (((OpenSpec.ofChange Rows.scansCheckSpec).at F).post enc Tryd.prog Tryd.f4 false true false false) := by
  obtain ⟨places, hx⟩ := readsC os enc
  refine returnsInHanded_of_row (C := Tryd.checked) (s := OpenSpec.ofChange Rows.scansCheckSpec) own started (by kernel_rfl) Tryd.func4
    (witness_row_at (enc := enc) (C := Tryd.checked) false (laidWorld os) #[c0, .slice none 0 0] rfl (by kernel_rfl) (by kernel_rfl) (by kernel_rfl)
      (OpenSpec.preRow_of_cond 8 hx (by kernel_rfl) (fun k hk => by cases hk) (by kernel_rfl) (laid_metC os))) ?_
  intro W base args ds gs before hval hW _ _ _ hL _ _
  exact check_contract H enc W base args ds gs before hval hW hL

theorem check_said : Rows.ScansCheckSaid :=
  OpenClaim.holds_of_cond 4 Tryd.f4 rfl rfl rfl rfl rfl rfl rfl ⟨rfl, rfl, rfl, rfl, rfl⟩ rfl rfl rfl rfl rfl (by kernel_rfl) Tryd.func4 (by kernel_rfl)
    (of_decide_eq_true (by kernel_rfl)) (by unfold Func.isWrapper; first | (rw [if_pos (by decide +kernel)]; kernel_rfl) | (rw [if_neg (by decide +kernel)]; exact ⟨rfl, rfl⟩))
    (fun os started H enc _ F => by rw [OpenClaim.pre_eq_preRow]; exact check_lifted os started H enc F)

theorem check_plain (f : FuncId) (fn : Func) (hf : Tryd.pinned.checked.prog.funcNamed "probecard/probecardlaw34.ScansCheck" = some f) (hfn : Tryd.pinned.checked.prog.funcs[f]? = some fn) :
    false = Tryd.pinned.checked.prog.looks [] ∧ ∀ (j : Nat) t, fn.params[j]? = some t → Tryd.pinned.checked.prog.wantsStandIn t = false := by
  obtain rfl : f = 4 := Option.some.inj ((show Tryd.prog.funcNamed "probecard/probecardlaw34.ScansCheck" = some 4 by kernel_rfl).symm.trans hf) |>.symm
  obtain rfl : fn = Tryd.f4 := (Option.some.inj (Tryd.func4.symm.trans hfn)).symm
  refine ⟨by kernel_rfl, fun j t ht => ?_⟩
  rw [Tryd.params4] at ht
  have hm : t = 27 ∨ t = 35 := by simpa using Array.mem_of_getElem? ht
  rcases hm with rfl | rfl
  · exact (show Tryd.prog.wantsStandIn 27 = false by kernel_rfl)
  · exact (show Tryd.prog.wantsStandIn 35 = false by kernel_rfl)

theorem check_card : Rows.ScansCheckCardSaid :=
  Claim7.holds_tied_plain_at .later [] _ _ _ _ check_said (fun _ h => by cases h) (by kernel_rfl) (fun _ h => by cases h) scansCheck_row_tie rfl ⟨rfl, rfl⟩ (by kernel_rfl) rfl check_plain (by kernel_rfl)
#print axioms check_card
end Go.Proofs.YtgnghiijbegacaaDoor

