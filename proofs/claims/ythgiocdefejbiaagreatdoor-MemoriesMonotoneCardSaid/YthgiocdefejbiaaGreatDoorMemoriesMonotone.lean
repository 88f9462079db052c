/- The tied card of MemoriesMonotone: unknown values replaced: the next state, the response and the nets are above Conditions: those of the row, and no others. -/
import Derived.Test.YthgiocdefejbiaaGreatDoorPkF
set_option linter.unusedSimpArgs false
set_option linter.unusedVariables false
set_option maxRecDepth 100000
namespace Go.Proofs.YthgiocdefejbiaaGreatDoor
open Go Go.Lg Go.ChangeShapes Go.WideShapes Go.ChangeAt Go.RowKit
theorem memoriesMonotone_contract (H : Type) (enc : TypeId × Value → H) (W : World) (base : Nat) (args : Array Value) (ds gs : List (DataW H)) (before : List MemPlace)
  (hval : ∀ (j : Nat) t v, Tryz.f4.params[j]? = some t → args[j]? = some v → Value.okWide Tryz.prog W .any base t v)
  (hW : DataW.Whole enc Tryz.prog Tryz.f4.params.toList Rows.memoriesMonotoneSpec.vars false W args.toList ds gs before) (hL : laidMetH Tryz.prog Rows.memoriesMonotoneRow.laid W) :
  Calls Tryz.prog 4 args W fun e W' => ∃ v, e = .returned v ∧ Rows.memoriesMonotoneSpec.post enc Tryz.prog Tryz.f4 false true false false W args v W' := by
 have hW' := hW
 obtain ⟨p, q, hA0, hV, rfl, _, _⟩ := hW
 have hA : DataW.TrodAll enc Tryz.prog W 0 (fun _ => true) true Tryz.f4.params.toList args.toList ds p := hA0
 rw [Tryz.params4] at hA hval
 obtain ⟨v0, v1, v2, d0, d1, d2, p0, p1, p2, rfl, rfl, rfl, h0, h1, h2⟩ := trodAll_three hA
 obtain ⟨rfl, rfl⟩ := trodVars_none hV
 obtain ⟨x0, hx0, hr0⟩ := qJQ (hval 0 27 v0 rfl rfl) h0
 obtain ⟨x1, y1, hx1, hy1, hr1⟩ := qIs (hval 1 33 v1 rfl rfl) h1
 obtain ⟨x2, y2, hx2, hy2, hr2⟩ := qIs (hval 2 33 v2 rfl rfl) h2
 have := qHy Wt (qCR qJi x0 hx0 x1 hx1 y1 hy1 x2 hx2 y2 hy2) (qJj hL) (Eu.cons hr0 (Eu.cons hr1 (Eu.cons hr2 (Eu.nil W _))))
 refine this.mono fun e W' ⟨he, hb⟩ => ⟨_, he, qIk qJP ?_ rfl rfl Tryz.underlying4 hW' rfl rfl rfl hb⟩
 rw [Tryz.params4]
 intro t ht
 simp at ht
 rcases ht with rfl | rfl
 ·exact ⟨by kernel_rfl, of_decide_eq_true (by kernel_rfl)⟩
 ·exact ⟨by kernel_rfl, of_decide_eq_true (by kernel_rfl)⟩
theorem memoriesMonotone_laid (os : Os) : laidMet Tryz.prog Rows.memoriesMonotoneRow.laid ((qI2 os).forCall (fun _ _ => 0) ⟨#[], #[c0, .agg #[.slice none 0 0, .slice none 0 0, .slice none 0 0], .agg #[.slice none 0 0, .slice none 0 0, .slice none 0 0]], []⟩).memory :=
 laidMet_of_run' 8 (by kernel_rfl) (by kernel_rfl)
theorem memoriesMonotone_reads (os : Os) {H : Type} (enc : TypeId × Value → H) : ∃ places, DataW.whole enc Tryz.prog ((qI2 os).forCall (fun _ _ => 0) ⟨#[], #[c0, .agg #[.slice none 0 0, .slice none 0 0, .slice none 0 0], .agg #[.slice none 0 0, .slice none 0 0, .slice none 0 0]], []⟩).memory Tryz.f4.params.toList Rows.memoriesMonotoneSpec.vars false (#[c0, .agg #[.slice none 0 0, .slice none 0 0, .slice none 0 0], .agg #[.slice none 0 0, .slice none 0 0, .slice none 0 0]] : Array Value).toList 8 = some ([d0, .agg [.agg [.nil], .agg [.nil, .nil]], .agg [.agg [.nil], .agg [.nil, .nil]]], [], places) :=
 ⟨[], by kernel_rfl⟩
theorem memoriesMonotone_lifted (os : Os) (started : os.Started) (H : Type) (enc : TypeId × Value → H) (F : Stop.Interp) :
  ReturnsInHanded {} Tryz.checked os 4 .any ((OpenSpec.ofChange Rows.memoriesMonotoneSpec).preRow enc Tryz.prog Tryz.f4 Rows.memoriesMonotoneRow.domain false Rows.memoriesMonotoneRow.laid) (((OpenSpec.ofChange Rows.memoriesMonotoneSpec).at F).post enc Tryz.prog Tryz.f4 false true false false) := by
 obtain ⟨places, hx⟩ := memoriesMonotone_reads os enc
 refine returnsInHanded_of_row (C := Tryz.checked) (s := OpenSpec.ofChange Rows.memoriesMonotoneSpec) own started (by kernel_rfl) Tryz.func4
  (witness_row_at (enc := enc) (C := Tryz.checked) false (qI2 os) #[c0, .agg #[.slice none 0 0, .slice none 0 0, .slice none 0 0], .agg #[.slice none 0 0, .slice none 0 0, .slice none 0 0]] rfl (by kernel_rfl) (by kernel_rfl) (by kernel_rfl)
   (OpenSpec.preRow_of_cond 8 hx (by kernel_rfl) (fun k hk => by cases hk) (by kernel_rfl) (memoriesMonotone_laid os))) ?_
 intro W base args ds gs before hval hW _ _ _ hL _ _
 exact memoriesMonotone_contract H enc W base args ds gs before hval hW hL
theorem memoriesMonotone_said : Rows.MemoriesMonotoneSaid :=
 OpenClaim.holds_of_cond 4 Tryz.f4 rfl rfl rfl rfl rfl rfl rfl ⟨rfl, rfl, rfl, rfl, rfl⟩ rfl rfl rfl rfl rfl (by kernel_rfl) Tryz.func4 (by kernel_rfl)
  (of_decide_eq_true (by kernel_rfl)) (by unfold Func.isWrapper; first | (rw [if_pos (by decide +kernel)]; kernel_rfl) | (rw [if_neg (by decide +kernel)]; exact ⟨rfl, rfl⟩))
  (fun os started H enc _ F => by rw [OpenClaim.pre_eq_preRow]; exact memoriesMonotone_lifted os started H enc F)
theorem memoriesMonotone_plain (f : FuncId) (fn : Func) (hf : Tryz.pinned.checked.prog.funcNamed "probecard/probecardlaw09.MemoriesMonotone" = some f) (hfn : Tryz.pinned.checked.prog.funcs[f]? = some fn) :
  false = Tryz.pinned.checked.prog.looks [] ∧ ∀ (j : Nat) t, fn.params[j]? = some t → Tryz.pinned.checked.prog.wantsStandIn t = false := by
 obtain rfl : f = 4 := Option.some.inj ((show Tryz.prog.funcNamed "probecard/probecardlaw09.MemoriesMonotone" = some 4 by kernel_rfl).symm.trans hf) |>.symm
 obtain rfl : fn = Tryz.f4 := (Option.some.inj (Tryz.func4.symm.trans hfn)).symm
 refine ⟨by kernel_rfl, fun j t ht => ?_⟩
 rw [Tryz.params4] at ht
 have hm : t = 27 ∨ t = 33 ∨ t = 33 := by simpa using Array.mem_of_getElem? ht
 rcases hm with rfl | rfl | rfl
 ·exact (show Tryz.prog.wantsStandIn 27 = false by kernel_rfl)
 ·exact (show Tryz.prog.wantsStandIn 33 = false by kernel_rfl)
 ·exact (show Tryz.prog.wantsStandIn 33 = false by kernel_rfl)
theorem memoriesMonotone_card : Rows.MemoriesMonotoneCardSaid :=
 Claim7.holds_tied_plain_at .later [] _ _ _ _ memoriesMonotone_said (fun _ h => by cases h) (by kernel_rfl) (fun _ h => by cases h) memoriesMonotone_row_tie rfl ⟨rfl, rfl⟩ (by kernel_rfl) rfl memoriesMonotone_plain (by kernel_rfl)
#print axioms memoriesMonotone_card
end Go.Proofs.YthgiocdefejbiaaGreatDoor
