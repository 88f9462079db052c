/- The tied card of ShiftsCollect: Collect takes the outputs from the capture cycle, and the values of the Dff nodes from the unload cycles. Conditions: those of the row, and no others. -/
import Derived.Test.YtgnomdkcimglbaaDoorPkD
import Derived.Test.YtgnomdkcimglbaaDoorPkE
import Derived.Test.YtgnomdkcimglbaaDoorPkF
set_option linter.unusedSimpArgs false
set_option linter.unusedVariables false
set_option maxRecDepth 100000
namespace Go.Proofs.YtgnomdkcimglbaaDoor
open Go Go.Lg Go.ChangeShapes Go.WideShapes Go.ChangeAt Go.RowKit

theorem shiftsCollect_contract (H : Type) (enc : TypeId × Value → H) (W : World) (base : Nat) (args : Array Value) (ds gs : List (DataW H)) (before : List MemPlace)
    (hval : ∀ (j : Nat) t v, Tryd.f4.params[j]? = some t → args[j]? = some v → Value.okWide Tryd.prog W .any base t v)
    (hW : DataW.Whole enc Tryd.prog Tryd.f4.params.toList Rows.shiftsCollectSpec.vars false W args.toList ds gs before) (hL : laidMetH Tryd.prog Rows.shiftsCollectRow.laid W) :
    Calls Tryd.prog 4 args W fun e W' => ∃ v, e = .returned v ∧ Rows.shiftsCollectSpec.post enc Tryd.prog Tryd.f4 false true false false W args v W' := by
  have hW' := hW
  obtain ⟨p, q, hA0, hV, rfl, _, _⟩ := hW
  have hA : DataW.TrodAll enc Tryd.prog W 0 (fun _ => true) true Tryd.f4.params.toList args.toList ds p := hA0
  rw [Tryd.params4] at hA hval
  obtain ⟨v0, v1, d0, d1, p0, p1, rfl, rfl, rfl, h0, h1⟩ := trodAll_two hA
  obtain ⟨rfl, rfl⟩ := trodVars_none hV
  obtain ⟨x0, hx0, hr0⟩ := open_case (hval 0 29 v0 rfl rfl) h0
  obtain ⟨x1, hx1, hr1⟩ := open_bytes (hval 1 25 v1 rfl rfl) h1
  have := law_calls law35_ShiftsCollect_chk (lawCollect_spec G0_ok x0 hx0 x1 hx1) (gl_of4 hL) (TRs.cons hr0 (TRs.cons hr1 (TRs.nil W _)))
  refine this.mono fun e W' ⟨he, hb⟩ => ⟨_, he, law_post laidOut ?_ rfl rfl Tryd.underlying4 hW' rfl rfl rfl hb⟩
  rw [Tryd.params4]
  intro t ht
  simp at ht
  rcases ht with rfl | rfl
  · exact ⟨by kernel_rfl, of_decide_eq_true (by kernel_rfl)⟩
  · exact ⟨by kernel_rfl, of_decide_eq_true (by kernel_rfl)⟩

theorem shiftsCollect_laid (os : Os) : laidMet Tryd.prog Rows.shiftsCollectRow.laid ((laidWorld4 os).forCall (fun _ _ => 0) ⟨#[], #[.agg #[.int .u8 0, .int .u8 0, .int .u8 0, .int .u8 0, .bool false, .bool false, .int .u8 0, .int .u8 0, .int .u8 0, .int .u8 0, .slice none 0 0, .slice none 0 0, .slice none 0 0, .slice none 0 0], .slice none 0 0], []⟩).memory :=
  laidMet_of_run' 8 (by kernel_rfl) (by kernel_rfl)
theorem shiftsCollect_reads (os : Os) {H : Type} (enc : TypeId × Value → H) : ∃ places, DataW.whole enc Tryd.prog ((laidWorld4 os).forCall (fun _ _ => 0) ⟨#[], #[.agg #[.int .u8 0, .int .u8 0, .int .u8 0, .int .u8 0, .bool false, .bool false, .int .u8 0, .int .u8 0, .int .u8 0, .int .u8 0, .slice none 0 0, .slice none 0 0, .slice none 0 0, .slice none 0 0], .slice none 0 0], []⟩).memory Tryd.f4.params.toList Rows.shiftsCollectSpec.vars false (#[.agg #[.int .u8 0, .int .u8 0, .int .u8 0, .int .u8 0, .bool false, .bool false, .int .u8 0, .int .u8 0, .int .u8 0, .int .u8 0, .slice none 0 0, .slice none 0 0, .slice none 0 0, .slice none 0 0], .slice none 0 0] : Array Value).toList 8 = some ([.agg [d0, .nil, .nil], .nil], [], places) :=
  ⟨[], by kernel_rfl⟩
theorem shiftsCollect_lifted (os : Os) (started : os.Started) (H : Type) (enc : TypeId × Value → H) (F : Stop.Interp) :
    ReturnsInHanded {} Tryd.checked os 4 .any ((OpenSpec.ofChange Rows.shiftsCollectSpec).preRow enc Tryd.prog Tryd.f4 Rows.shiftsCollectRow.domain false Rows.shiftsCollectRow.laid) (((OpenSpec.ofChange Rows.shiftsCollectSpec).at F).post enc Tryd.prog Tryd.f4 false true false false) := by
  obtain ⟨places, hx⟩ := shiftsCollect_reads os enc
  refine returnsInHanded_of_row (C := Tryd.checked) (s := OpenSpec.ofChange Rows.shiftsCollectSpec) own started (by kernel_rfl) Tryd.func4
    (witness_row_at (enc := enc) (C := Tryd.checked) false (laidWorld4 os) #[.agg #[.int .u8 0, .int .u8 0, .int .u8 0, .int .u8 0, .bool false, .bool false, .int .u8 0, .int .u8 0, .int .u8 0, .int .u8 0, .slice none 0 0, .slice none 0 0, .slice none 0 0, .slice none 0 0], .slice none 0 0] rfl (by kernel_rfl) (by kernel_rfl) (by kernel_rfl)
      (OpenSpec.preRow_of_cond 8 hx (by kernel_rfl) (fun k hk => by cases hk) (by kernel_rfl) (shiftsCollect_laid os))) ?_
  intro W base args ds gs before hval hW _ _ _ hL _ _
  exact shiftsCollect_contract H enc W base args ds gs before hval hW hL
theorem shiftsCollect_said : Rows.ShiftsCollectSaid :=
  OpenClaim.holds_of_cond 4 Tryd.f4 rfl rfl rfl rfl rfl rfl rfl ⟨rfl, rfl, rfl, rfl, rfl⟩ rfl rfl rfl rfl rfl (by kernel_rfl) Tryd.func4 (by kernel_rfl)
    (of_decide_eq_true (by kernel_rfl)) (by unfold Func.isWrapper; first | (rw [if_pos (by decide +kernel)]; kernel_rfl) | (rw [if_neg (by decide +kernel)]; exact ⟨rfl, rfl⟩))
    (fun os started H enc _ F => by rw [OpenClaim.pre_eq_preRow]; exact shiftsCollect_lifted os started H enc F)
theorem shiftsCollect_plain (f : FuncId) (fn : Func) (hf : Tryd.pinned.checked.prog.funcNamed "probecard/probecardlaw35.ShiftsCollect" = some f) (hfn : Tryd.pinned.checked.prog.funcs[f]? = some fn) :
    false = Tryd.pinned.checked.prog.looks [] ∧ ∀ (j : Nat) t, fn.params[j]? = some t → Tryd.pinned.checked.prog.wantsStandIn t = false := by
  obtain rfl : f = 4 := Option.some.inj ((show Tryd.prog.funcNamed "probecard/probecardlaw35.ShiftsCollect" = some 4 by kernel_rfl).symm.trans hf) |>.symm
  obtain rfl : fn = Tryd.f4 := (Option.some.inj (Tryd.func4.symm.trans hfn)).symm
  refine ⟨by kernel_rfl, fun j t ht => ?_⟩
  rw [Tryd.params4] at ht
  have hm : t = 29 ∨ t = 25 := by simpa using Array.mem_of_getElem? ht
  rcases hm with rfl | rfl
  · exact (show Tryd.prog.wantsStandIn 29 = false by kernel_rfl)
  · exact (show Tryd.prog.wantsStandIn 25 = false by kernel_rfl)
theorem shiftsCollect_card : Rows.ShiftsCollectCardSaid :=
  Claim7.holds_tied_plain_at .later [] _ _ _ _ shiftsCollect_said (fun _ h => by cases h) (by kernel_rfl) (fun _ h => by cases h) shiftsCollect_row_tie rfl ⟨rfl, rfl⟩ (by kernel_rfl) rfl shiftsCollect_plain (by kernel_rfl)
#print axioms shiftsCollect_card
end Go.Proofs.YtgnomdkcimglbaaDoor
