/- The tied card of SimsFanin: changing one input or state changes only nets that depend on it. Conditions: those of the row, and no others. -/
import Derived.Test.YtgnghiijbegacaaDoorPkF
set_option linter.unusedSimpArgs false
set_option linter.unusedVariables false
set_option maxRecDepth 100000
namespace Go.Proofs.YtgnghiijbegacaaDoor
open Go Go.Lg Go.ChangeShapes Go.WideShapes Go.ChangeAt Go.RowKit

theorem simsFanin_contract (H : Type) (enc : TypeId × Value → H) (W : World) (base : Nat) (args : Array Value) (ds gs : List (DataW H)) (before : List MemPlace)
    (hval : ∀ (j : Nat) t v, Tryd.f8.params[j]? = some t → args[j]? = some v → Value.okWide Tryd.prog W .any base t v)
    (hW : DataW.Whole enc Tryd.prog Tryd.f8.params.toList Rows.simsFaninSpec.vars false W args.toList ds gs before) (hL : laidMetH Tryd.prog Rows.simsFaninRow.laid W) :
    Calls Tryd.prog 8 args W fun e W' => ∃ v, e = .returned v ∧ Rows.simsFaninSpec.post enc Tryd.prog Tryd.f8 false true false false W args v W' := by
  have hW' := hW
  obtain ⟨p, q, hA0, hV, rfl, _, _⟩ := hW
  have hA : DataW.TrodAll enc Tryd.prog W 0 (fun _ => true) true Tryd.f8.params.toList args.toList ds p := hA0
  rw [Tryd.params8] at hA hval
  obtain ⟨v0, v1, v2, d0, d1, d2, p0, p1, p2, rfl, rfl, rfl, h0, h1, h2⟩ := trodAll_three hA
  obtain ⟨rfl, rfl⟩ := trodVars_none hV
  obtain ⟨x0, hx0, hr0⟩ := open_cd (hval 0 27 v0 rfl rfl) h0
  obtain ⟨x1, hx1, hr1⟩ := open_pd (hval 1 63 v1 rfl rfl) h1
  obtain ⟨x2, y2, hx2, hy2, hr2⟩ := open_b2 (hval 2 22 v2 rfl rfl) h2
  have := law_calls law06_SimsFanin_chk (lawFanin_spec G0_ok x0 hx0 x1 hx1 x2 y2 hx2 hy2) (gl_of hL) (TRs.cons hr0 (TRs.cons hr1 (TRs.cons hr2 (TRs.nil W _))))
  refine this.mono fun e W' ⟨he, hb⟩ => ⟨_, he, law_post laidOut ?_ rfl rfl Tryd.underlying4 hW' rfl rfl rfl hb⟩
  rw [Tryd.params8]
  intro t ht
  simp at ht
  rcases ht with rfl | rfl | rfl
  · exact ⟨by kernel_rfl, of_decide_eq_true (by kernel_rfl)⟩
  · exact ⟨by kernel_rfl, of_decide_eq_true (by kernel_rfl)⟩
  · exact ⟨by kernel_rfl, of_decide_eq_true (by kernel_rfl)⟩

theorem simsFanin_laid (os : Os) : laidMet Tryd.prog Rows.simsFaninRow.laid ((laidWorld os).forCall (fun _ _ => 0) ⟨#[], #[c0, .agg #[.slice none 0 0, .slice none 0 0], .agg #[.int .u8 0, .int .u8 0]], []⟩).memory :=
  laidMet_of_run' 8 (by kernel_rfl) (by kernel_rfl)
theorem simsFanin_reads (os : Os) {H : Type} (enc : TypeId × Value → H) : ∃ places, DataW.whole enc Tryd.prog ((laidWorld os).forCall (fun _ _ => 0) ⟨#[], #[c0, .agg #[.slice none 0 0, .slice none 0 0], .agg #[.int .u8 0, .int .u8 0]], []⟩).memory Tryd.f8.params.toList Rows.simsFaninSpec.vars false (#[c0, .agg #[.slice none 0 0, .slice none 0 0], .agg #[.int .u8 0, .int .u8 0]] : Array Value).toList 8 = some ([d0, .agg [.nil, .nil], .agg [.lit (.int .u8 0), .lit (.int .u8 0)]], [], places) :=
  ⟨[], by kernel_rfl⟩
theorem simsFanin_lifted (os : Os) (started : os.Started) (H : Type) (enc : TypeId × Value → H) (F : Stop.Interp) :
    ReturnsInHanded {} Tryd.checked os 8 .any ((OpenSpec.ofChange Rows.simsFaninSpec).preRow enc Tryd.prog Tryd.f8 Rows.simsFaninRow.domain false Rows.simsFaninRow.laid) (((OpenSpec.ofChange Rows.simsFaninSpec).at F).post enc Tryd.prog Tryd.f8 false true false false) := by
  obtain ⟨places, hx⟩ := simsFanin_reads os enc
  refine returnsInHanded_of_row (C := Tryd.checked) (s := OpenSpec.ofChange Rows.simsFaninSpec) own started (by kernel_rfl) Tryd.func8
    (witness_row_at (enc := enc) (C := Tryd.checked) false (laidWorld os) #[c0, .agg #[.slice none 0 0, .slice none 0 0], .agg #[.int .u8 0, .int .u8 0]] rfl (by kernel_rfl) (by kernel_rfl) (by kernel_rfl)
      (OpenSpec.preRow_of_cond 8 hx (by kernel_rfl) (fun k hk => by cases hk) (by kernel_rfl) (simsFanin_laid os))) ?_
  intro W base args ds gs before hval hW _ _ _ hL _ _
  exact simsFanin_contract H enc W base args ds gs before hval hW hL
theorem simsFanin_said : Rows.SimsFaninSaid :=
  OpenClaim.holds_of_cond 8 Tryd.f8 rfl rfl rfl rfl rfl rfl rfl ⟨rfl, rfl, rfl, rfl, rfl⟩ rfl rfl rfl rfl rfl (by kernel_rfl) Tryd.func8 (by kernel_rfl)
    (of_decide_eq_true (by kernel_rfl)) (by unfold Func.isWrapper; first | (rw [if_pos (by decide +kernel)]; kernel_rfl) | (rw [if_neg (by decide +kernel)]; exact ⟨rfl, rfl⟩))
    (fun os started H enc _ F => by rw [OpenClaim.pre_eq_preRow]; exact simsFanin_lifted os started H enc F)
theorem simsFanin_plain (f : FuncId) (fn : Func) (hf : Tryd.pinned.checked.prog.funcNamed "probecard/probecardlaw06.SimsFanin" = some f) (hfn : Tryd.pinned.checked.prog.funcs[f]? = some fn) :
    false = Tryd.pinned.checked.prog.looks [] ∧ ∀ (j : Nat) t, fn.params[j]? = some t → Tryd.pinned.checked.prog.wantsStandIn t = false := by
  obtain rfl : f = 8 := Option.some.inj ((show Tryd.prog.funcNamed "probecard/probecardlaw06.SimsFanin" = some 8 by kernel_rfl).symm.trans hf) |>.symm
  obtain rfl : fn = Tryd.f8 := (Option.some.inj (Tryd.func8.symm.trans hfn)).symm
  refine ⟨by kernel_rfl, fun j t ht => ?_⟩
  rw [Tryd.params8] at ht
  have hm : t = 27 ∨ t = 63 ∨ t = 22 := by simpa using Array.mem_of_getElem? ht
  rcases hm with rfl | rfl | rfl
  · exact (show Tryd.prog.wantsStandIn 27 = false by kernel_rfl)
  · exact (show Tryd.prog.wantsStandIn 63 = false by kernel_rfl)
  · exact (show Tryd.prog.wantsStandIn 22 = false by kernel_rfl)
theorem simsFanin_card : Rows.SimsFaninCardSaid :=
  Claim7.holds_tied_plain_at .later [] _ _ _ _ simsFanin_said (fun _ h => by cases h) (by kernel_rfl) (fun _ h => by cases h) simsFanin_row_tie rfl ⟨rfl, rfl⟩ (by kernel_rfl) rfl simsFanin_plain (by kernel_rfl)
#print axioms simsFanin_card
end Go.Proofs.YtgnghiijbegacaaDoor
