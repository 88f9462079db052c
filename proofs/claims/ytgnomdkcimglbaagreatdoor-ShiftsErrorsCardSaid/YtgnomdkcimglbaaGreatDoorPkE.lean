/- The abstract code of some functions, as the program gen.py prints it. Conditions: none. -/
import Derived.Test.YtgnomdkcimglbaaGreatDoorPkC
import Derived.Test.YtgnomdkcimglbaaGreatDoorProg
import Derived.KernelRfl
import Derived.Test.YtgnomdkcimglbaaGreatDoorPkD
set_option linter.unusedVariables false
namespace Go.Lg
open Go
section
variable {P : Program} {Γ : Tables} {Q : AX → St → Prop} {s : St}
/- probecard/logic.Clean (function 127) -/
abbrev logic_Clean_ic : IC := (.seq (.reg [od 2 (.mv (ku 0))] [kp [0] []]) (.seq (.seq (.reg [om 3 0, od 4 (.bin .gtr (tm 3) (ku 3))] [kp [0, 4] []]) (.cond (tm 4) (.seq (.reg [od 2 (.mv (ku 2))] [kp [2] []]) .ret) .skip)) (.seq (.reg [om 5 0, om 2 5] [kp [2]
 []]) .ret)))
def logic_Clean_rv : List RV := [.tmp 2]
/- probecard/logic.Read (function 73) -/
abbrev logic_Read_ic : IC := (.seq (.reg [od 2 (.mv (ku 0))] [kp [0] []]) (.seq (.reg [om 3 0, od 4 (.mmx false [(tm 3), (ku 2)]), om 2 4] [kp [2] []]) .ret))
def logic_Read_rv : List RV := [.tmp 2]
/- probecard/logic.Known (function 152) -/
abbrev logic_Known_ic : IC := (.seq (.reg [od 2 (.mv kF)] [kp [0] []]) (.seq (.reg [om 3 0, od 4 (.bin .leq (tm 3) (ku 1)), om 2 4] [kp [2] []]) .ret))
def logic_Known_rv : List RV := [.tmp 2]
/- probecard/logic.Not (function 115) -/
abbrev logic_Not_ic : IC := (.seq (.reg [od 2 (.mv (ku 0))] [kp [0] []]) (.seq (.seq (.reg [om 3 0, od 4 (.call 152 [(tm 3)])] [kp [0, 4] []]) (.cond (tm 4) (.seq (.reg [om 5 0, od 6 (.bin .sub (ku 1) (tm 5)), om 2 6] [kp [2] []]) .ret) .skip)) (.seq (.reg
 [od 2 (.mv (ku 2))] [kp [2] []]) .ret)))
def logic_Not_rv : List RV := [.tmp 2]
/- probecard/logic.decided (function 153) -/
abbrev logic_decided_g0 : IC := .gh (.seq (.reg [od 14 (.bin .lss (tm 13) (tm 12))] [kp [1, 2, 7, 11, 12, 13, 14] []]) (.seq (.cond (tm 14) .skip (.exit 0)) (.seq (.block 1 (.seq (.reg [od 15 (ia 1 11 13), od 16 (ld 1 15), om 9 16] [kp [1, 2, 7, 9, 11, 12, 13]
 []]) (.block 2 (.seq (.reg [om 18 9, om 19 1, od 20 (.bin .eql (tm 18) (tm 19)), om 17 20] [kp [1, 2, 7, 9, 11, 12, 13, 17] []]) (.cond (tm 17) (.seq (.reg [om 21 1, om 6 21] [kp [6] []]) .ret) (.seq (.reg [om 23 9, om 24 2, od 25
 (.bin .neq (tm 23) (tm 24)), om 22 25] [kp [1, 2, 7, 11, 12, 13, 22] []]) (.cond (tm 22) (.reg [od 7 (.mv (ku 2))] [kp [1, 2, 7, 11, 12, 13] []]) .skip))))))) (.reg [od 26 (.bin .add (tm 13) (ki 1)), om 13 26] [kp [1, 2, 7, 11, 12,
 13] []])))) [kp [1, 2, 7, 11, 12, 13] []]
def logic_decided_l1 : IC := .loop logic_decided_g0
abbrev logic_decided_ic : IC := (.seq (.reg [od 6 (.mv (ku 0))] [kp [0, 1, 2] []]) (.seq (.reg [om 10 2, om 7 10] [kp [0, 1, 2, 7] []]) (.seq (.seq (.reg [om 11 0, od 12 (le 0 11), od 13 (.mv (ki 0))] [kp [1, 2, 7, 11, 12, 13] []]) (.block 0 logic_decided_l1))
 (.seq (.reg [om 27 7, om 6 27] [kp [6] []]) .ret))))
theorem logic_decided_l1_run (h : ∀ K : St → Prop, K = run P Γ logic_decided_l1 Q → run P Γ logic_decided_g0 (thenX K Q) s) : run P Γ logic_decided_l1 Q s := run_loop h
def logic_decided_rv : List RV := [.tmp 6]
/- probecard/logic.And (function 116) -/
abbrev logic_And_ic : IC := (.seq (.reg [od 2 (.mv (ku 0))] [kp [0] []]) (.seq (.reg [om 3 0, od 4 (.call 153 [(tm 3), (ku 0), (ku 1)]), om 2 4] [kp [2] []]) .ret))
def logic_And_rv : List RV := [.tmp 2]
/- probecard/logic.Or (function 117) -/
abbrev logic_Or_ic : IC := (.seq (.reg [od 2 (.mv (ku 0))] [kp [0] []]) (.seq (.reg [om 3 0, od 4 (.call 153 [(tm 3), (ku 1), (ku 0)]), om 2 4] [kp [2] []]) .ret))
def logic_Or_rv : List RV := [.tmp 2]
/- probecard/logic.Xor (function 118) -/
abbrev logic_Xor_g0 : IC := .gh (.seq (.reg [od 9 (.bin .lss (tm 8) (tm 7))] [kp [3, 6, 7, 8, 9] []]) (.seq (.cond (tm 9) .skip (.exit 0)) (.seq (.block 1 (.seq (.reg [od 10 (ia 1 6 8), od 11 (ld 1 10), om 5 11] [kp [3, 5, 6, 7, 8] []]) (.seq (.seq (.reg [om
 12 5, od 13 (.call 152 [(tm 12)]), od 14 (.un .not (tm 13))] [kp [3, 5, 6, 7, 8, 14] []]) (.cond (tm 14) (.seq (.reg [od 2 (.mv (ku 2))] [kp [2] []]) .ret) .skip)) (.reg [om 15 3, om 16 5, od 17 (.bin .xor (tm 15) (tm 16)), om 3
 17] [kp [3, 6, 7, 8] []])))) (.reg [od 18 (.bin .add (tm 8) (ki 1)), om 8 18] [kp [3, 6, 7, 8] []])))) [kp [3, 6, 7, 8] []]
def logic_Xor_l1 : IC := .loop logic_Xor_g0
abbrev logic_Xor_ic : IC := (.seq (.reg [od 2 (.mv (ku 0))] [kp [0] []]) (.seq (.reg [od 3 (.mv (ku 0))] [kp [0, 3] []]) (.seq (.seq (.reg [om 6 0, od 7 (le 0 6), od 8 (.mv (ki 0))] [kp [3, 6, 7, 8] []]) (.block 0 logic_Xor_l1)) (.seq (.reg [om 19 3, om 2 19]
 [kp [2] []]) .ret))))
theorem logic_Xor_l1_run (h : ∀ K : St → Prop, K = run P Γ logic_Xor_l1 Q → run P Γ logic_Xor_g0 (thenX K Q) s) : run P Γ logic_Xor_l1 Q s := run_loop h
def logic_Xor_rv : List RV := [.tmp 2]
/- probecard/logic.Mux (function 119) -/
abbrev logic_Mux_ic : IC := (.seq (.reg [od 6 (.mv (ku 0))] [kp [0, 1, 2] []]) (.seq (.block 0 (.seq (.reg [om 8 0, od 9 (.bin .eql (tm 8) (ku 0)), om 7 9] [kp [0, 1, 2, 7] []]) (.cond (tm 7) (.seq (.reg [om 10 1, od 11 (.call 73 [(tm 10)]), om 6 11] [kp [6]
 []]) .ret) (.seq (.reg [om 13 0, od 14 (.bin .eql (tm 13) (ku 1)), om 12 14] [kp [1, 2, 12] []]) (.cond (tm 12) (.seq (.reg [om 15 2, od 16 (.call 73 [(tm 15)]), om 6 16] [kp [6] []]) .ret) (.seq (.reg [om 18 1, om 19 2, od 20
 (.bin .eql (tm 18) (tm 19)), om 17 20] [kp [1, 17] []]) (.cond (tm 17) (.seq (.reg [om 21 1, od 22 (.call 73 [(tm 21)]), om 6 22] [kp [6] []]) .ret) .skip))))))) (.seq (.reg [od 6 (.mv (ku 2))] [kp [6] []]) .ret)))
def logic_Mux_rv : List RV := [.tmp 6]
/- probecard/logic.Tri (function 120) -/
abbrev logic_Tri_ic : IC := (.seq (.reg [od 4 (.mv (ku 0))] [kp [0, 1] []]) (.seq (.seq (.reg [om 5 0] [kp [1, 5] []]) (.block 0 (.seq (.reg [od 7 (.bin .eql (tm 5) (ku 0)), om 6 7] [kp [1, 5, 6] []]) (.cond (tm 6) (.seq (.reg [od 4 (.mv (ku 3))] [kp [4] []])
 .ret) (.seq (.reg [od 9 (.bin .eql (tm 5) (ku 1)), om 8 9] [kp [1, 8] []]) (.cond (tm 8) (.seq (.reg [om 10 1, od 11 (.call 73 [(tm 10)]), om 4 11] [kp [4] []]) .ret) .skip)))))) (.seq (.reg [od 4 (.mv (ku 2))] [kp [4] []]) .ret)))
def logic_Tri_rv : List RV := [.tmp 4]
/- probecard/logic.Bus (function 121) -/
abbrev logic_Bus_ic : IC := (.seq (.reg [od 2 (.mv (ku 0))] [kp [0] []]) (.seq (.reg [od 3 (.mv (.func 154))] [kp [0, 3] []]) (.seq (.reg [od 4 (.mv (.func 155))] [kp [0, 3, 4] []]) (.seq (.reg [om 6 0, om 7 4, od 8 (.call 130 [(tm 6), (tm 7)]), om 5 8] [kp
 [0, 3, 5] []]) (.seq (.block 0 (.seq (.reg [om 10 5, od 11 (.bin .lss (tm 10) (ki 0)), om 9 11] [kp [0, 3, 5, 9] []]) (.cond (tm 9) (.seq (.reg [od 2 (.mv (ku 3))] [kp [2] []]) .ret) (.seq (.reg [om 13 0, od 14 (.call 128 [(tm
 13)]), om 15 14, oF 16 (.mv (tm 0)) 15, oF 17 (.mv (tm 3)) 15, oF 18 (.call 76 [(tm 16), (tm 17)]) 15, od 19 (.pick (tm 15) kT (tm 18)), om 12 19] [kp [0, 5, 12] []]) (.cond (tm 12) (.seq (.reg [od 2 (.mv (ku 2))] [kp [2] []])
 .ret) .skip))))) (.seq (.reg [om 20 0, om 21 5, od 22 (ia 1 20 21), od 23 (ld 1 22), om 2 23] [kp [2] []]) .ret))))))
def logic_Bus_rv : List RV := [.tmp 2]
/- probecard/logic.Bus$1 (function 154) -/
abbrev logic_Bus_1_ic : IC := (.seq (.reg [od 2 (.mv kF)] [kp [0] []]) (.seq (.reg [om 3 0, od 4 (.call 127 [(tm 3)]), od 5 (.bin .eql (tm 4) (ku 2)), om 2 5] [kp [2] []]) .ret))
def logic_Bus_1_rv : List RV := [.tmp 2]
/- probecard/logic.Bus$2 (function 155) -/
abbrev logic_Bus_2_ic : IC := (.seq (.reg [od 2 (.mv kF)] [kp [0] []]) (.seq (.reg [om 3 0, od 4 (.bin .neq (tm 3) (ku 3)), om 2 4] [kp [2] []]) .ret))
def logic_Bus_2_rv : List RV := [.tmp 2]
/- probecard/logic.Conflict (function 128) -/
abbrev logic_Conflict_ic : IC := (.seq (.reg [od 2 (.mv kF)] [kp [0] []]) (.seq (.reg [om 3 0, od 4 (.call 160 [(tm 3), (ku 0)]), om 5 4, oT 6 (.mv (tm 0)) 5, oT 7 (.call 160 [(tm 6), (ku 1)]) 5, od 8 (.pick (tm 5) (tm 7) kF), om 2 8] [kp [2] []]) .ret))
def logic_Conflict_rv : List RV := [.tmp 2]
/- slices.Contains[[]probecard/api.Value,probecard/api.Value] (function 160) -/
abbrev slices_Contains_api_Value_ic : IC := (.seq (.reg [od 4 (.mv kF)] [kp [0, 1] []]) (.seq (.reg [om 5 0, om 6 1, od 7 (.call 182 [(tm 5), (tm 6)]), od 8 (.bin .geq (tm 7) (ki 0)), om 4 8] [kp [4] []]) .ret))
def slices_Contains_api_Value_rv : List RV := [.tmp 4]
/- slices.Index[[]probecard/api.Value,probecard/api.Value] (function 182) -/
abbrev slices_Index_api_Value_g0 : IC := .gh (.seq (.reg [od 9 (.bin .lss (tm 8) (tm 7))] [kp [0, 1, 7, 8, 9] []]) (.seq (.cond (tm 9) .skip (.exit 0)) (.seq (.block 1 (.seq (.reg [om 10 8, om 5 10] [kp [0, 1, 5, 7, 8] []]) (.seq (.reg [om 11 1, om 12 0, om 13 5, od 14
 (ia 1 12 13), od 15 (ld 1 14), od 16 (.bin .eql (tm 11) (tm 15))] [kp [0, 1, 5, 7, 8, 16] []]) (.cond (tm 16) (.seq (.reg [om 17 5, om 4 17] [kp [4] []]) .ret) .skip)))) (.reg [od 18 (.bin .add (tm 8) (ki 1)), om 8 18] [kp [0, 1,
 7, 8] []])))) [kp [0, 1, 7, 8] []]
def slices_Index_api_Value_l1 : IC := .loop slices_Index_api_Value_g0
def slices_Index_api_Value_r7 : List RO := [od 4 (.mv (.const (.int .i64 (-1))))]
abbrev slices_Index_api_Value_ic : IC := (.seq (.reg [od 4 (.mv (ki 0))] [kp [0, 1] []]) (.seq (.seq (.reg [om 6 0, od 7 (le 0 6), od 8 (.mv (ki 0))] [kp [0, 1, 7, 8] []]) (.block 0 slices_Index_api_Value_l1)) (.seq (.reg slices_Index_api_Value_r7 [kp [4] []]) .ret)))
theorem slices_Index_api_Value_l1_run (h : ∀ K : St → Prop, K = run P Γ slices_Index_api_Value_l1 Q → run P Γ slices_Index_api_Value_g0 (thenX K Q) s) : run P Γ slices_Index_api_Value_l1 Q s := run_loop h
attribute [simp] slices_Index_api_Value_r7
def slices_Index_api_Value_rv : List RV := [.tmp 4]
/- slices.ContainsFunc[[]probecard/api.Value,probecard/api.Value] (function 76) -/
abbrev slices_ContainsFunc_api_Value_ic : IC := (.seq (.reg [od 4 (.mv kF)] [kp [0, 1] []]) (.seq (.reg [om 5 0, om 6 1, od 7 (.call 130 [(tm 5), (tm 6)]), od 8 (.bin .geq (tm 7) (ki 0)), om 4 8] [kp [4] []]) .ret))
def slices_ContainsFunc_api_Value_rv : List RV := [.tmp 4]
/- slices.IndexFunc[[]probecard/api.Value,probecard/api.Value] (function 130) -/
abbrev slices_IndexFunc_api_Value_g0 : IC := .gh (.seq (.reg [od 9 (.bin .lss (tm 8) (tm 7))] [kp [0, 1, 7, 8, 9] []]) (.seq (.cond (tm 9) .skip (.exit 0)) (.seq (.block 1 (.seq (.reg [om 10 8, om 5 10] [kp [0, 1, 5, 7, 8] []]) (.seq (.reg [om 11 1, om 12 0, om 13 5, od 14
 (ia 1 12 13), od 15 (ld 1 14), od 16 (.callv (tm 11) [(tm 15)])] [kp [0, 1, 5, 7, 8, 16] []]) (.cond (tm 16) (.seq (.reg [om 17 5, om 4 17] [kp [4] []]) .ret) .skip)))) (.reg [od 18 (.bin .add (tm 8) (ki 1)), om 8 18] [kp [0, 1, 7,
 8] []])))) [kp [0, 1, 7, 8] []]
def slices_IndexFunc_api_Value_l1 : IC := .loop slices_IndexFunc_api_Value_g0
abbrev slices_IndexFunc_api_Value_ic : IC := (.seq (.reg [od 4 (.mv (ki 0))] [kp [0, 1] []]) (.seq (.seq (.reg [om 6 0, od 7 (le 0 6), od 8 (.mv (ki 0))] [kp [0, 1, 7, 8] []]) (.block 0 slices_IndexFunc_api_Value_l1)) (.seq (.reg [od 4 (.mv (.const (.int .i64 (-1))))] [kp [4]
 []]) .ret)))
theorem slices_IndexFunc_api_Value_l1_run (h : ∀ K : St → Prop, K = run P Γ slices_IndexFunc_api_Value_l1 Q → run P Γ slices_IndexFunc_api_Value_g0 (thenX K Q) s) : run P Γ slices_IndexFunc_api_Value_l1 Q s := run_loop h
def slices_IndexFunc_api_Value_rv : List RV := [.tmp 4]
/- probecard/logic.Eval (function 57) -/
abbrev logic_Eval_ic : IC := (.seq (.reg [od 4 (.mv (ku 0))] [kp [0, 1] []]) (.seq (.seq (.reg [om 8 0, od 9 (.call 114 [(tm 8)]), om 7 9, od 10 (ex 7 0), od 11 (ex 7 1), om 5 10, om 6 11] [kp [0, 1, 5, 6] []]) (.seq (.reg [om 12 1, od 13 (le 0 12), om 14 5,
 od 15 (.bin .lss (tm 13) (tm 14)), om 16 15, oF 17 (.mv (tm 1)) 16, oF 18 (le 0 17) 16, oF 19 (.mv (tm 6)) 16, oF 20 (.bin .gtr (tm 18) (tm 19)) 16, od 21 (.pick (tm 16) kT (tm 20))] [kp [0, 1, 21] []]) (.cond (tm 21) (.seq (.reg
 [od 4 (.mv (ku 2))] [kp [4] []]) .ret) .skip))) (.seq (.seq (.reg [om 22 0] [kp [1, 22] []]) (.block 0 (.seq (.reg [od 24 (.bin .eql (tm 22) (ku 1)), om 23 24] [kp [1, 22, 23] []]) (.cond (tm 23) (.seq (.reg [od 4 (.mv (ku 0))] [kp
 [4] []]) .ret) (.seq (.reg [od 26 (.bin .eql (tm 22) (ku 2)), om 25 26] [kp [1, 22, 25] []]) (.cond (tm 25) (.seq (.reg [od 4 (.mv (ku 1))] [kp [4] []]) .ret) (.seq (.reg [od 28 (.bin .eql (tm 22) (ku 3)), om 27 28] [kp [1, 22, 27]
 []]) (.cond (tm 27) (.seq (.reg [om 29 1, od 30 (.iadr 1 (tm 29) (ki 0)), od 31 (ld 1 30), od 32 (.call 73 [(tm 31)]), om 4 32] [kp [4] []]) .ret) (.seq (.reg [od 34 (.bin .eql (tm 22) (ku 4)), om 33 34] [kp [1, 22, 33] []]) (.cond
 (tm 33) (.seq (.reg [om 35 1, od 36 (.iadr 1 (tm 35) (ki 0)), od 37 (ld 1 36), od 38 (.call 115 [(tm 37)]), om 4 38] [kp [4] []]) .ret) (.seq (.reg [od 40 (.bin .eql (tm 22) (ku 5)), om 39 40] [kp [1, 22, 39] []]) (.cond (tm 39)
 (.seq (.reg [om 41 1, od 42 (.call 116 [(tm 41)]), om 4 42] [kp [4] []]) .ret) (.seq (.reg [od 44 (.bin .eql (tm 22) (ku 6)), om 43 44] [kp [1, 22, 43] []]) (.cond (tm 43) (.seq (.reg [om 45 1, od 46 (.call 116 [(tm 45)]), od 47
 (.call 115 [(tm 46)]), om 4 47] [kp [4] []]) .ret) (.seq (.reg [od 49 (.bin .eql (tm 22) (ku 7)), om 48 49] [kp [1, 22, 48] []]) (.cond (tm 48) (.seq (.reg [om 50 1, od 51 (.call 117 [(tm 50)]), om 4 51] [kp [4] []]) .ret) (.seq
 (.reg [od 53 (.bin .eql (tm 22) (ku 8)), om 52 53] [kp [1, 22, 52] []]) (.cond (tm 52) (.seq (.reg [om 54 1, od 55 (.call 117 [(tm 54)]), od 56 (.call 115 [(tm 55)]), om 4 56] [kp [4] []]) .ret) (.seq (.reg [od 58 (.bin .eql (tm
 22) (ku 9)), om 57 58] [kp [1, 22, 57] []]) (.cond (tm 57) (.seq (.reg [om 59 1, od 60 (.call 118 [(tm 59)]), om 4 60] [kp [4] []]) .ret) (.seq (.reg [od 62 (.bin .eql (tm 22) (ku 10)), om 61 62] [kp [1, 22, 61] []]) (.cond (tm 61)
 (.seq (.reg [om 63 1, od 64 (.call 118 [(tm 63)]), od 65 (.call 115 [(tm 64)]), om 4 65] [kp [4] []]) .ret) (.seq (.reg [od 67 (.bin .eql (tm 22) (ku 11)), om 66 67] [kp [1, 22, 66] []]) (.cond (tm 66) (.seq (.reg [om 68 1, od 69
 (.iadr 1 (tm 68) (ki 0)), od 70 (ld 1 69), om 71 1, od 72 (.iadr 1 (tm 71) (ki 1)), od 73 (ld 1 72), om 74 1, od 75 (.iadr 1 (tm 74) (ki 2)), od 76 (ld 1 75), od 77 (.call 119 [(tm 70), (tm 73), (tm 76)]), om 4 77] [kp [4] []])
 .ret) (.seq (.reg [od 79 (.bin .eql (tm 22) (ku 12)), om 78 79] [kp [1, 22, 78] []]) (.cond (tm 78) (.seq (.reg [om 80 1, od 81 (.iadr 1 (tm 80) (ki 0)), od 82 (ld 1 81), om 83 1, od 84 (.iadr 1 (tm 83) (ki 1)), od 85 (ld 1 84), od
 86 (.call 120 [(tm 82), (tm 85)]), om 4 86] [kp [4] []]) .ret) (.seq (.reg [od 88 (.bin .eql (tm 22) (ku 13)), om 87 88] [kp [1, 87] []]) (.cond (tm 87) (.seq (.reg [om 89 1, od 90 (.call 121 [(tm 89)]), om 4 90] [kp [4] []]) .ret)
 .skip)))))))))))))))))))))))))))) (.seq (.reg [od 4 (.mv (ku 2))] [kp [4] []]) .ret))))
def logic_Eval_rv : List RV := [.tmp 4]
end
end Go.Lg
namespace Go.Lg
open Go Go.Proofs
theorem logic_Clean_chk : chkF Tryz.prog 127 logic_Clean_ic 6 1 logic_Clean_rv = true := by kernel_rfl
theorem logic_Read_chk : chkF Tryz.prog 73 logic_Read_ic 5 1 logic_Read_rv = true := by kernel_rfl
theorem logic_Known_chk : chkF Tryz.prog 152 logic_Known_ic 5 1 logic_Known_rv = true := by kernel_rfl
theorem logic_Not_chk : chkF Tryz.prog 115 logic_Not_ic 7 1 logic_Not_rv = true := by kernel_rfl
theorem logic_decided_chk : chkF Tryz.prog 153 logic_decided_ic 28 3 logic_decided_rv = true := by kernel_rfl
theorem logic_And_chk : chkF Tryz.prog 116 logic_And_ic 5 1 logic_And_rv = true := by kernel_rfl
theorem logic_Or_chk : chkF Tryz.prog 117 logic_Or_ic 5 1 logic_Or_rv = true := by kernel_rfl
theorem logic_Xor_chk : chkF Tryz.prog 118 logic_Xor_ic 20 1 logic_Xor_rv = true := by kernel_rfl
theorem logic_Mux_chk : chkF Tryz.prog 119 logic_Mux_ic 23 3 logic_Mux_rv = true := by kernel_rfl
theorem logic_Tri_chk : chkF Tryz.prog 120 logic_Tri_ic 12 2 logic_Tri_rv = true := by kernel_rfl
theorem logic_Bus_chk : chkF Tryz.prog 121 logic_Bus_ic 24 1 logic_Bus_rv = true := by kernel_rfl
theorem logic_Bus_1_chk : chkF Tryz.prog 154 logic_Bus_1_ic 6 1 logic_Bus_1_rv = true := by kernel_rfl
theorem logic_Bus_2_chk : chkF Tryz.prog 155 logic_Bus_2_ic 5 1 logic_Bus_2_rv = true := by kernel_rfl
theorem logic_Conflict_chk : chkF Tryz.prog 128 logic_Conflict_ic 9 1 logic_Conflict_rv = true := by kernel_rfl
theorem slices_Contains_api_Value_chk : chkF Tryz.prog 160 slices_Contains_api_Value_ic 9 2 slices_Contains_api_Value_rv = true := by kernel_rfl
theorem slices_Index_api_Value_chk : chkF Tryz.prog 182 slices_Index_api_Value_ic 19 2 slices_Index_api_Value_rv = true := by kernel_rfl
theorem slices_ContainsFunc_api_Value_chk : chkF Tryz.prog 76 slices_ContainsFunc_api_Value_ic 9 2 slices_ContainsFunc_api_Value_rv = true := by kernel_rfl
theorem slices_IndexFunc_api_Value_chk : chkF Tryz.prog 130 slices_IndexFunc_api_Value_ic 19 2 slices_IndexFunc_api_Value_rv = true := by kernel_rfl
theorem logic_Eval_chk : chkF Tryz.prog 57 logic_Eval_ic 91 2 logic_Eval_rv = true := by kernel_rfl
end Go.Lg
set_option linter.unusedSimpArgs false
set_option maxRecDepth 100000
namespace Go.Lg
open Go Go.Proofs
variable {Γ : Tables}
theorem clean_spec (v : Int) : FreshCalls Tryz.prog Γ 127 [tK v] (tK (cleanV v)) := by
  refine run_freshQ logic_Clean_chk rfl ?_
  by_cases h : 3 < v <;> simp [logic_Clean_ic, logic_Clean_rv, flatT, cleanV, h]
theorem read_spec (v : Int) : FreshCalls Tryz.prog Γ 73 [tK v] (tK (readV v)) := by
  refine run_freshQ logic_Read_chk rfl ?_
  by_cases h : v < 2 <;> simp [logic_Read_ic, logic_Read_rv, flatT, readV, h, mmxV, sameKind] <;> omega
theorem known_spec (v : Int) : FreshCalls Tryz.prog Γ 152 [tK v] (tB (knownV v)) := by
  refine run_freshQ logic_Known_chk rfl ?_
  simp [logic_Known_ic, logic_Known_rv, flatT, knownV]
theorem not_spec (v : Int) (h0 : 0 ≤ v) : FreshCalls Tryz.prog Γ 115 [tK v] (tK (notV v)) := by
  refine run_freshQ logic_Not_chk rfl ?_
  simp [logic_Not_ic]
  refine callK_fresh (known_spec v) rfl ?_
  by_cases h : v ≤ 1
  · simp (disch := omega) [logic_Not_rv, flatT, knownV, notV, h, wrap_u8]
  · simp (disch := omega) [logic_Not_rv, flatT, knownV, notV, h, wrap_u8]
theorem mux_spec (s a b : Int) : FreshCalls Tryz.prog Γ 119 [tK s, tK a, tK b] (tK (muxV s a b)) := by
  refine run_freshQ logic_Mux_chk rfl ?_
  by_cases h : s = 0
  · simp [logic_Mux_ic, h]
    refine callK_fresh (read_spec a) rfl ?_
    simp [logic_Mux_rv, flatT, muxV, h]
  by_cases h1 : s = 1
  · simp [logic_Mux_ic, h1]
    refine callK_fresh (read_spec b) rfl ?_
    simp [logic_Mux_rv, flatT, muxV, h1]
  by_cases h2 : a = b
  · simp [logic_Mux_ic, h, h1, h2]
    refine callK_fresh (read_spec b) rfl ?_
    simp [logic_Mux_rv, flatT, muxV, h, h1, h2]
  · simp [logic_Mux_ic, h, h1, h2, logic_Mux_rv, flatT, muxV]
theorem tri_spec (e d : Int) : FreshCalls Tryz.prog Γ 120 [tK e, tK d] (tK (triV e d)) := by
  refine run_freshQ logic_Tri_chk rfl ?_
  by_cases h : e = 0
  · simp [logic_Tri_ic, h, logic_Tri_rv, flatT, triV]
  by_cases h1 : e = 1
  · simp [logic_Tri_ic, h1]
    refine callK_fresh (read_spec d) rfl ?_
    simp [logic_Tri_rv, flatT, triV, h1]
  · simp [logic_Tri_ic, h, h1, logic_Tri_rv, flatT, triV]
abbrev vals (l : List Int) : List (List T) := enc1 tK l
def tV (s : Sl Int) : T := .sl (vals s.l) s.cap s.nl
theorem decided_loop {Q : AX → St → Prop} (l : List Int) (c : Option Nat) (nl : Option Bool) (low high : Int) (hl : l.length ≤ 1000000000) (R : Int)
    (h0 : Q (.exit 0) ⟨[(1, .t (tK low)), (2, .t (tK high)), (7, .t (tK R)), (11, .t (.sl (vals l) c nl)), (12, .t (tI l.length)), (13, .t (tI l.length)), (14, .t (tB false))], []⟩)
    (h1 : R = low → Q .ret ⟨[(6, .t (tK low))], []⟩) : ∀ (k i : Nat) (out : Int), k + i = l.length → decL low high out (l.drop i) = R →
    run Tryz.prog Γ logic_decided_l1 Q ⟨[(1, .t (tK low)), (2, .t (tK high)), (7, .t (tK out)), (11, .t (.sl (vals l) c nl)), (12, .t (tI l.length)), (13, .t (tI i))], []⟩
  | 0, i, out, h, hR => by
    refine logic_decided_l1_run fun K hK => ?_
    have h2 : ¬ i < l.length := by omega
    rw [List.drop_of_length_le (by omega)] at hR
    simp only [decL] at hR
    subst hR
    have h3 : i = l.length := by omega
    simp [h2]
    subst h3
    exact h0
  | k + 1, i, out, h, hR => by
    refine logic_decided_l1_run fun K hK => ?_
    have h2 : i < l.length := by omega
    rw [List.drop_eq_getElem_cons h2] at hR
    simp only [decL] at hR
    have hget := enc1_get (f := tK) 0 h2
    simp only [List.getElem?_eq_getElem h2, Option.getD_some] at hget
    generalize l[i] = v at *
    by_cases a1 : v = low
    · rw [if_pos a1] at hR
      simp (disch := omega) [h2, enc1_len, hget, enc1_wid, wrap_i64, a1]
      exact h1 hR.symm
    · by_cases a2 : v = high
      · rw [if_neg a1, if_neg (by simp [a2])] at hR
        have ih := decided_loop l c nl low high hl R h0 h1 k (i + 1) out (by omega) hR
        have a1' : ¬ high = low := by rw [← a2]; exact a1
        simp (disch := omega) [h2, enc1_len, hget, enc1_wid, wrap_i64, a1', a2]
        rw [hK]
        exact_mod_cast ih
      · rw [if_neg a1, if_pos a2] at hR
        have ih := decided_loop l c nl low high hl R h0 h1 k (i + 1) 2 (by omega) hR
        simp (disch := omega) [h2, enc1_len, hget, enc1_wid, wrap_i64, a1, a2]
        rw [hK]
        exact_mod_cast ih
theorem decided_spec (l : List Int) (c : Option Nat) (nl : Option Bool) (low high : Int) (hl : l.length ≤ 1000000000) : FreshCalls Tryz.prog Γ 153 [.sl (vals l) c nl, tK low, tK high] (tK (decL low high high l)) := by
  refine run_freshQ logic_decided_chk rfl ?_
  simp (disch := omega) [logic_decided_ic, enc1_len, wrap_i64]
  refine decided_loop l c nl low high hl (decL low high high l) ?_ (fun h => ?_) l.length 0 high (by omega) (by simp)
  · simp [logic_decided_rv, flatT]
  · simp [logic_decided_rv, flatT, h]
theorem and_spec (l : List Int) (c : Option Nat) (nl : Option Bool) (hl : l.length ≤ 1000000000) : FreshCalls Tryz.prog Γ 116 [.sl (vals l) c nl] (tK (decL 0 1 1 l)) := by
  refine run_freshQ logic_And_chk rfl ?_
  simp [logic_And_ic]
  refine callK_fresh (decided_spec l c nl 0 1 hl) rfl ?_
  simp [logic_And_rv, flatT]
theorem or_spec (l : List Int) (c : Option Nat) (nl : Option Bool) (hl : l.length ≤ 1000000000) : FreshCalls Tryz.prog Γ 117 [.sl (vals l) c nl] (tK (decL 1 0 0 l)) := by
  refine run_freshQ logic_Or_chk rfl ?_
  simp [logic_Or_ic]
  refine callK_fresh (decided_spec l c nl 1 0 hl) rfl ?_
  simp [logic_Or_rv, flatT]
theorem xor_bit {a b : Int} (ha : a = 0 ∨ a = 1) (hb : b = 0 ∨ b = 1) : IntKind.u8.wrap ((BitVec.ofInt IntKind.u8.bits a ^^^ BitVec.ofInt IntKind.u8.bits b).toNat : Int) = xor1 a b := by
  rcases ha with rfl | rfl <;> rcases hb with rfl | rfl <;> decide
theorem xor_loop {Q : AX → St → Prop} (l : List Int) (c : Option Nat) (nl : Option Bool) (hl : l.length ≤ 1000000000) (hv : ∀ v ∈ l, 0 ≤ v) (R : Int)
    (h0 : Q (.exit 0) ⟨[(3, .t (tK R)), (6, .t (.sl (vals l) c nl)), (7, .t (tI l.length)), (8, .t (tI l.length)), (9, .t (tB false))], []⟩)
    (h1 : R = 2 → Q .ret ⟨[(2, .t (tK 2))], []⟩) : ∀ (k i : Nat) (out : Int), k + i = l.length → (out = 0 ∨ out = 1) → xorL out (l.drop i) = R →
    run Tryz.prog Γ logic_Xor_l1 Q ⟨[(3, .t (tK out)), (6, .t (.sl (vals l) c nl)), (7, .t (tI l.length)), (8, .t (tI i))], []⟩
  | 0, i, out, h, ho, hR => by
    refine logic_Xor_l1_run fun K hK => ?_
    have h2 : ¬ i < l.length := by omega
    rw [List.drop_of_length_le (by omega)] at hR
    simp only [xorL] at hR
    subst hR
    have h3 : i = l.length := by omega
    simp [h2]
    subst h3
    exact h0
  | k + 1, i, out, h, ho, hR => by
    refine logic_Xor_l1_run fun K hK => ?_
    have h2 : i < l.length := by omega
    rw [List.drop_eq_getElem_cons h2] at hR
    simp only [xorL] at hR
    have hget := enc1_get (f := tK) 0 h2
    simp only [List.getElem?_eq_getElem h2, Option.getD_some] at hget
    have hv0 := hv _ (List.getElem_mem h2)
    generalize l[i] = v at *
    by_cases a1 : v ≤ 1
    · rw [if_pos a1] at hR
      have ih := xor_loop l c nl hl hv R h0 h1 k (i + 1) (xor1 out v) (by omega) (by unfold xor1; split <;> simp) hR
      simp (disch := omega) [h2, enc1_len, hget, enc1_wid, wrap_i64]
      refine callK_fresh (known_spec v) rfl ?_
      have hx := xor_bit ho (show v = 0 ∨ v = 1 by omega)
      simp (disch := omega) [knownV, a1, ↓hx, wrap_i64]
      rw [hK]
      exact_mod_cast ih
    · rw [if_neg a1] at hR
      simp (disch := omega) [h2, enc1_len, hget, enc1_wid, wrap_i64]
      refine callK_fresh (known_spec v) rfl ?_
      simp (disch := omega) [knownV, a1]
      exact h1 hR.symm
theorem xor_spec (l : List Int) (c : Option Nat) (nl : Option Bool) (hl : l.length ≤ 1000000000) (hv : ∀ v ∈ l, 0 ≤ v) : FreshCalls Tryz.prog Γ 118 [.sl (vals l) c nl] (tK (xorL 0 l)) := by
  refine run_freshQ logic_Xor_chk rfl ?_
  simp (disch := omega) [logic_Xor_ic, enc1_len, wrap_i64]
  refine xor_loop l c nl hl hv (xorL 0 l) ?_ (fun h => ?_) l.length 0 0 (by omega) (.inl rfl) (by simp)
  · simp [logic_Xor_rv, flatT]
  · simp [logic_Xor_rv, flatT, h]
end Go.Lg
namespace Go.Lg
open Go Go.Proofs
variable {Γ : Tables}
theorem index_val_loop (l : List Int) (c : Option Nat) (nl : Option Bool) (x : Int) (hl : l.length ≤ 1000000000) : ∀ (k i : Nat), k + i = l.length → (∀ j, j < i → ∀ y, l[j]? = some y → (y == x) = false) →
    run Tryz.prog Γ slices_Index_api_Value_l1 (blockX 0 (thenX (run Tryz.prog Γ (.seq (.reg slices_Index_api_Value_r7 [.keep [4] []]) .ret) (ret true slices_Index_api_Value_rv fun r => r = tI (idxP (· == x) l))) (ret true slices_Index_api_Value_rv fun r => r = tI (idxP (· == x) l)))) ⟨[(0, .t (.sl (enc1 tK l) c nl)), (1, .t (tK x)), (7, .t (tI l.length)), (8, .t (tI i))], []⟩
  | 0, i, h, hp => by
    refine slices_Index_api_Value_l1_run fun K hK => ?_
    have h2 : ¬ i < l.length := by omega
    simp (disch := omega) [enc1_len, enc1_get (0 : Int), enc1_wid, wrap_i64, h2, ret, slices_Index_api_Value_rv, flatSt, flatL, flatA, flatT]
    have : l.findIdx? (· == x) = none := by
      rw [List.findIdx?_eq_none_iff]
      intro y hy
      obtain ⟨j, hj, rfl⟩ := List.getElem_of_mem hy
      exact hp j (by omega) _ (List.getElem?_eq_getElem hj)
    have e : l.findIdx? (fun y => decide (y = x)) = _ := this
    simp [idxP, e]
  | k + 1, i, h, hp => by
    refine slices_Index_api_Value_l1_run fun K hK => ?_
    have h2 : i < l.length := by omega
    simp (disch := omega) [enc1_len, enc1_get (0 : Int), enc1_wid, wrap_i64, h2]
    refine ⟨fun hc => ?_, fun hc => ?_⟩
    · simp [Later, ret, slices_Index_api_Value_rv, flatSt, flatL, flatA, flatT]
      have := findIdx_at (p := (· == x)) hp l[i] (List.getElem?_eq_getElem h2) (by simp [hc])
      have e : l.findIdx? (fun y => decide (y = x)) = _ := this
      simp [idxP, e]
    · simp (disch := omega) [Later, wrap_i64]
      rw [hK]
      exact_mod_cast index_val_loop l c nl x hl k (i + 1) (by omega) (fun j hj y hy => by
        rcases Nat.lt_succ_iff_lt_or_eq.1 hj with hj | rfl
        · exact hp j hj y hy
        · rw [List.getElem?_eq_getElem h2] at hy; simp at hy; subst hy
          simp; exact fun e => hc e.symm)
theorem index_val (l : List Int) (c : Option Nat) (nl : Option Bool) (x : Int) (hl : l.length ≤ 1000000000) : FreshCalls Tryz.prog Γ 182 [.sl (enc1 tK l) c nl, tK x] (tI (idxP (· == x) l)) := by
  refine run_freshQ slices_Index_api_Value_chk rfl ?_
  simp (disch := omega) [slices_Index_api_Value_ic, enc1_len, wrap_i64]
  exact_mod_cast index_val_loop l c nl x hl l.length 0 (by omega) (by simp)
theorem contains_val (l : List Int) (c : Option Nat) (nl : Option Bool) (x : Int) (hl : l.length ≤ 1000000000) : FreshCalls Tryz.prog Γ 160 [.sl (enc1 tK l) c nl, tK x] (tB (l.contains x)) := by
  refine run_freshQ slices_Contains_api_Value_chk rfl ?_
  simp (disch := omega) [slices_Contains_api_Value_ic, enc1_len, wrap_i64]
  refine callK_fresh (index_val l c nl x hl) rfl ?_
  simp [ret, slices_Contains_api_Value_rv, flatSt, flatL, flatA, flatT]
  unfold idxP
  cases h : l.findIdx? (· == x) with
  | none =>
    rw [List.findIdx?_eq_none_iff] at h
    have : ¬ x ∈ l := fun hx => by simpa using h x hx
    simp [this]
  | some i =>
    rw [List.findIdx?_eq_some_iff_getElem] at h
    obtain ⟨hi, h1, _⟩ := h
    have : x ∈ l := by rw [← (show l[i] = x by simpa using h1)]; exact List.getElem_mem hi
    simp [this]
theorem indexfunc_val_loop {Q : AX → St → Prop} (l : List Int) (c : Option Nat) (nl : Option Bool) (f : FuncId) (cs : List T) (p : Int → Bool) (hp : ∀ x ∈ l, FreshCalls Tryz.prog Γ f (tK x :: cs) (tB (p x))) (hl : l.length ≤ 1000000000)
    (h0 : (∀ x ∈ l, p x = false) → Q (.exit 0) ⟨[(0, .t (.sl (enc1 tK l) c nl)), (1, .t (.fn f cs)), (7, .t (tI l.length)), (8, .t (tI l.length)), (9, .t (tB false))], []⟩)
    (h1 : ∀ i : Nat, l.findIdx? p = some i → Q .ret ⟨[(4, .t (tI i))], []⟩) : ∀ (k i : Nat), k + i = l.length → (∀ j, j < i → ∀ y, l[j]? = some y → p y = false) →
    run Tryz.prog Γ slices_IndexFunc_api_Value_l1 Q ⟨[(0, .t (.sl (enc1 tK l) c nl)), (1, .t (.fn f cs)), (7, .t (tI l.length)), (8, .t (tI i))], []⟩
  | 0, i, h, hq => by
    refine slices_IndexFunc_api_Value_l1_run fun K hK => ?_
    have h2 : ¬ i < l.length := by omega
    simp (disch := omega) [enc1_len, enc1_get (0 : Int), enc1_wid, wrap_i64, h2]
    have h3 : i = l.length := by omega
    subst h3
    refine h0 fun y hy => ?_
    obtain ⟨j, hj, rfl⟩ := List.getElem_of_mem hy
    exact hq j (by omega) _ (List.getElem?_eq_getElem hj)
  | k + 1, i, h, hq => by
    refine slices_IndexFunc_api_Value_l1_run fun K hK => ?_
    have h2 : i < l.length := by omega
    simp (disch := omega) [enc1_len, enc1_get (0 : Int), enc1_wid, wrap_i64, h2]
    refine callK_clos (hp l[i] (List.getElem_mem h2)) ?_
    simp
    refine ⟨fun hc => ?_, fun hc => ?_⟩
    · simp [Later]
      exact h1 i (findIdx_at hq l[i] (List.getElem?_eq_getElem h2) hc)
    · simp (disch := omega) [Later, wrap_i64]
      rw [hK]
      exact_mod_cast indexfunc_val_loop l c nl f cs p hp hl h0 h1 k (i + 1) (by omega) (fun j hj y hy => by
        rcases Nat.lt_succ_iff_lt_or_eq.1 hj with hj | rfl
        · exact hq j hj y hy
        · rw [List.getElem?_eq_getElem h2] at hy; simp at hy; subst hy; exact hc)
theorem indexfunc_val (l : List Int) (c : Option Nat) (nl : Option Bool) (f : FuncId) (cs : List T) (p : Int → Bool) (hp : ∀ x ∈ l, FreshCalls Tryz.prog Γ f (tK x :: cs) (tB (p x))) (hl : l.length ≤ 1000000000) : FreshCalls Tryz.prog Γ 130 [.sl (enc1 tK l) c nl, .fn f cs] (tI (idxP p l)) := by
  refine run_freshQ slices_IndexFunc_api_Value_chk rfl ?_
  simp (disch := omega) [slices_IndexFunc_api_Value_ic, enc1_len, wrap_i64]
  refine indexfunc_val_loop l c nl f cs p hp hl (fun h => ?_) (fun i h => ?_) l.length 0 (by omega) (by simp)
  · have : l.findIdx? p = none := List.findIdx?_eq_none_iff.2 h
    simp [ret, slices_IndexFunc_api_Value_rv, flatSt, flatL, flatA, flatT, idxP, this]
  · simp [ret, slices_IndexFunc_api_Value_rv, flatSt, flatL, flatA, flatT, idxP, h]
theorem containsfunc_val (l : List Int) (c : Option Nat) (nl : Option Bool) (f : FuncId) (cs : List T) (p : Int → Bool) (hp : ∀ x ∈ l, FreshCalls Tryz.prog Γ f (tK x :: cs) (tB (p x))) (hl : l.length ≤ 1000000000) : FreshCalls Tryz.prog Γ 76 [.sl (enc1 tK l) c nl, .fn f cs] (tB (l.any p)) := by
  refine run_freshQ slices_ContainsFunc_api_Value_chk rfl ?_
  simp (disch := omega) [slices_ContainsFunc_api_Value_ic, enc1_len, wrap_i64]
  refine callK_fresh (indexfunc_val l c nl f cs p hp hl) rfl ?_
  simp [ret, slices_ContainsFunc_api_Value_rv, flatSt, flatL, flatA, flatT]
  unfold idxP
  cases h : l.findIdx? p with
  | none =>
    rw [List.findIdx?_eq_none_iff] at h
    have : l.any p = false := by rw [List.any_eq_false]; intro x hx; simp [h x hx]
    simp [this]
  | some i =>
    rw [List.findIdx?_eq_some_iff_getElem] at h
    obtain ⟨hi, h1, _⟩ := h
    have : l.any p = true := List.any_eq_true.2 ⟨_, List.getElem_mem hi, h1⟩
    simp [this]
theorem conflict_spec (l : List Int) (c : Option Nat) (nl : Option Bool) (hl : l.length ≤ 1000000000) : FreshCalls Tryz.prog Γ 128 [.sl (vals l) c nl] (tB (conflL l)) := by
  refine run_freshQ logic_Conflict_chk rfl ?_
  simp [logic_Conflict_ic]
  refine callK_fresh (contains_val l c nl 0 hl) rfl ?_
  simp
  by_cases h : (0 : Int) ∈ l
  · simp [h]
    refine callK_fresh (contains_val l c nl 1 hl) rfl ?_
    simp [logic_Conflict_rv, flatT, conflL, h]
  · simp [h, logic_Conflict_rv, flatT, conflL]
theorem unk_spec (v : Int) : FreshCalls Tryz.prog Γ 154 [tK v] (tB (unkV v)) := by
  refine run_freshQ logic_Bus_1_chk rfl ?_
  simp [logic_Bus_1_ic]
  refine callK_fresh (clean_spec v) rfl ?_
  simp [logic_Bus_1_rv, flatT, unkV]
theorem drv_spec (v : Int) : FreshCalls Tryz.prog Γ 155 [tK v] (tB (drvV v)) := by
  refine run_freshQ logic_Bus_2_chk rfl ?_
  simp [logic_Bus_2_ic, logic_Bus_2_rv, flatT, drvV]
theorem bus_spec (l : List Int) (c : Option Nat) (nl : Option Bool) (hl : l.length ≤ 1000000000) : FreshCalls Tryz.prog Γ 121 [.sl (vals l) c nl] (tK (busL l)) := by
  refine run_freshQ logic_Bus_chk rfl ?_
  simp [logic_Bus_ic]
  refine callK_fresh (indexfunc_val l c nl _ [] drvV (fun x _ => drv_spec x) hl) rfl ?_
  unfold idxP
  cases h : l.findIdx? drvV with
  | none =>
    have hR : busL l = 3 := by unfold busL; rw [h]
    simp [logic_Bus_rv, flatT, hR]
  | some i =>
    have hb : busL l = if conflL l = true ∨ l.any unkV = true then 2 else l.getD i 0 := by unfold busL; rw [h]
    have hi : i < l.length := by
      rw [List.findIdx?_eq_some_iff_getElem] at h
      exact h.1
    have hget := enc1_get (f := tK) 0 hi
    have hgg : l[i]?.getD 0 = l.getD i 0 := by simp [List.getD_eq_getElem?_getD]
    rw [hgg] at hget
    have hneg : ¬ (i : Int) < 0 := by omega
    simp only
    simp [hneg]
    refine callK_fresh (conflict_spec l c nl hl) rfl ?_
    by_cases h1 : conflL l = true
    · rw [if_pos (.inl h1)] at hb
      simp [h1, logic_Bus_rv, flatT, hb]
    · simp [h1]
      refine callK_fresh (containsfunc_val l c nl _ [] unkV (fun x _ => unk_spec x) hl) rfl ?_
      by_cases h2 : l.any unkV = true
      · rw [if_pos (.inr h2)] at hb
        simp only [h2]
        simp [logic_Bus_rv, flatT, hb]
      · rw [if_neg (by rintro (h | h); exact h1 h; exact h2 h)] at hb
        simp only [Bool.not_eq_true] at h2
        generalize busL l = r at *
        subst hb
        simp only [h2]
        simp (disch := omega) [logic_Bus_rv, flatT, enc1_len, enc1_wid, hget, hi]
theorem eval_spec (hΓ : GOk Γ) (k : Int) (hk : 0 ≤ k ∧ k ≤ 255) (l : List Int) (c : Option Nat) (nl : Option Bool) (hl : l.length ≤ 1000000000) (hv : ∀ v ∈ l, V4 v) : FreshCalls Tryz.prog Γ 57 [tK k, .sl (vals l) c nl] (tK (evalL k l)) := by
  refine run_freshQ logic_Eval_chk rfl ?_
  unfold evalL
  by_cases hw : widBad k l.length = true
  · rw [if_pos hw]
    simp only [widBad, decide_eq_true_eq] at hw
    simp [logic_Eval_ic]
    refine callK_fresh (fanin_spec hΓ k hk.1 hk.2) rfl ?_
    by_cases hw1 : (l.length : Int) < (fan k).1
    · simp [enc1_len, hw1, logic_Eval_rv, flatT]
    · have hw2 : (fan k).2 < (l.length : Int) := by omega
      simp [enc1_len, hw1, hw2, logic_Eval_rv, flatT]
  rw [if_neg hw]
  simp only [widBad, decide_eq_true_eq] at hw
  have hw1 : ¬ (l.length : Int) < (fan k).1 := by omega
  have hw2 : ¬ (fan k).2 < (l.length : Int) := by omega
  have hv0 : ∀ v ∈ l, 0 ≤ v := fun v h => (hv v h).1
  have ge : ∀ i, i < l.length → (enc1 tK l)[i]?.getD [] = [tK (l.getD i 0)] := fun i hi => by
    have hget := enc1_get (f := tK) 0 hi
    have hgg : l[i]?.getD 0 = l.getD i 0 := by simp [List.getD_eq_getElem?_getD]
    rw [hgg] at hget
    exact hget
  have dA := decL_val (low := 0) (l := l) (out := 1) (high := 1) (.inr rfl)
  have dO := decL_val (low := 1) (l := l) (out := 0) (high := 0) (.inr rfl)
  have n1 : 0 ≤ decL 0 1 1 l := by rw [dA]; split; omega; split <;> omega
  have n2 : 0 ≤ decL 1 0 0 l := by rw [dO]; split; omega; split <;> omega
  have n3 : 0 ≤ xorL 0 l := (xorL_4 (by simp [V4]) hv).1
  have g0 := getD_4 hv 0
  by_cases e1 : k = 1
  · subst e1
    have hR : evalK 1 l = 0 := rfl
    generalize evalK 1 l = r at *
    subst hR
    simp [logic_Eval_ic]
    refine callK_fresh (fanin_spec hΓ 1 hk.1 hk.2) rfl ?_
    simp [enc1_len, hw1, hw2, Later, logic_Eval_rv, flatT]
  by_cases e2 : k = 2
  · subst e2
    have hR : evalK 2 l = 1 := rfl
    generalize evalK 2 l = r at *
    subst hR
    simp [logic_Eval_ic]
    refine callK_fresh (fanin_spec hΓ 2 hk.1 hk.2) rfl ?_
    simp [enc1_len, hw1, hw2, Later, logic_Eval_rv, flatT]
  by_cases e3 : k = 3
  · subst e3
    have f1 : (fan 3).1 = 1 := rfl
    have q0 : 0 < l.length := by omega
    have u0 := ge 0 q0
    have hR : evalK 3 l = readV (l.getD 0 0) := rfl
    generalize l.getD 0 0 = x0 at *
    generalize evalK 3 l = r at *
    subst hR
    simp [logic_Eval_ic]
    refine callK_fresh (fanin_spec hΓ 3 hk.1 hk.2) rfl ?_
    simp [enc1_len, hw1, hw2, Later]
    simp (disch := omega) [enc1_len, enc1_wid, q0, u0]
    refine callK_fresh (read_spec x0) rfl ?_
    simp [logic_Eval_rv, flatT]
  by_cases e4 : k = 4
  · subst e4
    have f1 : (fan 4).1 = 1 := rfl
    have q0 : 0 < l.length := by omega
    have u0 := ge 0 q0
    have p0 := g0.1
    have hR : evalK 4 l = notV (l.getD 0 0) := rfl
    generalize l.getD 0 0 = x0 at *
    generalize evalK 4 l = r at *
    subst hR
    simp [logic_Eval_ic]
    refine callK_fresh (fanin_spec hΓ 4 hk.1 hk.2) rfl ?_
    simp [enc1_len, hw1, hw2, Later]
    simp (disch := omega) [enc1_len, enc1_wid, q0, u0]
    refine callK_fresh (not_spec x0 p0) rfl ?_
    simp [logic_Eval_rv, flatT]
  by_cases e5 : k = 5
  · subst e5
    have hR : evalK 5 l = decL 0 1 1 l := rfl
    generalize evalK 5 l = r at *
    subst hR
    simp [logic_Eval_ic]
    refine callK_fresh (fanin_spec hΓ 5 hk.1 hk.2) rfl ?_
    simp [enc1_len, hw1, hw2, Later]
    refine callK_fresh (and_spec l c nl hl) rfl ?_
    simp [logic_Eval_rv, flatT]
  by_cases e6 : k = 6
  · subst e6
    have hR : evalK 6 l = notV (decL 0 1 1 l) := rfl
    generalize evalK 6 l = r at *
    subst hR
    simp [logic_Eval_ic]
    refine callK_fresh (fanin_spec hΓ 6 hk.1 hk.2) rfl ?_
    simp [enc1_len, hw1, hw2, Later]
    refine callK_fresh (and_spec l c nl hl) rfl ?_
    simp
    refine callK_fresh (not_spec _ n1) rfl ?_
    simp [logic_Eval_rv, flatT]
  by_cases e7 : k = 7
  · subst e7
    have hR : evalK 7 l = decL 1 0 0 l := rfl
    generalize evalK 7 l = r at *
    subst hR
    simp [logic_Eval_ic]
    refine callK_fresh (fanin_spec hΓ 7 hk.1 hk.2) rfl ?_
    simp [enc1_len, hw1, hw2, Later]
    refine callK_fresh (or_spec l c nl hl) rfl ?_
    simp [logic_Eval_rv, flatT]
  by_cases e8 : k = 8
  · subst e8
    have hR : evalK 8 l = notV (decL 1 0 0 l) := rfl
    generalize evalK 8 l = r at *
    subst hR
    simp [logic_Eval_ic]
    refine callK_fresh (fanin_spec hΓ 8 hk.1 hk.2) rfl ?_
    simp [enc1_len, hw1, hw2, Later]
    refine callK_fresh (or_spec l c nl hl) rfl ?_
    simp
    refine callK_fresh (not_spec _ n2) rfl ?_
    simp [logic_Eval_rv, flatT]
  by_cases e9 : k = 9
  · subst e9
    have hR : evalK 9 l = xorL 0 l := rfl
    generalize evalK 9 l = r at *
    subst hR
    simp [logic_Eval_ic]
    refine callK_fresh (fanin_spec hΓ 9 hk.1 hk.2) rfl ?_
    simp [enc1_len, hw1, hw2, Later]
    refine callK_fresh (xor_spec l c nl hl hv0) rfl ?_
    simp [logic_Eval_rv, flatT]
  by_cases e10 : k = 10
  · subst e10
    have hR : evalK 10 l = notV (xorL 0 l) := rfl
    generalize evalK 10 l = r at *
    subst hR
    simp [logic_Eval_ic]
    refine callK_fresh (fanin_spec hΓ 10 hk.1 hk.2) rfl ?_
    simp [enc1_len, hw1, hw2, Later]
    refine callK_fresh (xor_spec l c nl hl hv0) rfl ?_
    simp
    refine callK_fresh (not_spec _ n3) rfl ?_
    simp [logic_Eval_rv, flatT]
  by_cases e11 : k = 11
  · subst e11
    have f1 : (fan 11).1 = 3 := rfl
    have q0 : 0 < l.length := by omega
    have u0 := ge 0 q0
    have q1 : 1 < l.length := by omega
    have u1 := ge 1 q1
    have q2 : 2 < l.length := by omega
    have u2 := ge 2 q2
    have hR : evalK 11 l = muxV (l.getD 0 0) (l.getD 1 0) (l.getD 2 0) := rfl
    generalize l.getD 0 0 = x0 at *
    generalize l.getD 1 0 = x1 at *
    generalize l.getD 2 0 = x2 at *
    generalize evalK 11 l = r at *
    subst hR
    simp [logic_Eval_ic]
    refine callK_fresh (fanin_spec hΓ 11 hk.1 hk.2) rfl ?_
    simp [enc1_len, hw1, hw2, Later]
    simp (disch := omega) [enc1_len, enc1_wid, q0, u0, q1, u1, q2, u2]
    refine ⟨by omega, by omega, ?_⟩
    refine callK_fresh (mux_spec x0 x1 x2) rfl ?_
    simp [logic_Eval_rv, flatT]
  by_cases e12 : k = 12
  · subst e12
    have f1 : (fan 12).1 = 2 := rfl
    have q0 : 0 < l.length := by omega
    have u0 := ge 0 q0
    have q1 : 1 < l.length := by omega
    have u1 := ge 1 q1
    have hR : evalK 12 l = triV (l.getD 0 0) (l.getD 1 0) := rfl
    generalize l.getD 0 0 = x0 at *
    generalize l.getD 1 0 = x1 at *
    generalize evalK 12 l = r at *
    subst hR
    simp [logic_Eval_ic]
    refine callK_fresh (fanin_spec hΓ 12 hk.1 hk.2) rfl ?_
    simp [enc1_len, hw1, hw2, Later]
    simp (disch := omega) [enc1_len, enc1_wid, q0, u0, q1, u1]
    refine ⟨by omega, ?_⟩
    refine callK_fresh (tri_spec x0 x1) rfl ?_
    simp [logic_Eval_rv, flatT]
  by_cases e13 : k = 13
  · subst e13
    have hR : evalK 13 l = busL l := rfl
    generalize evalK 13 l = r at *
    subst hR
    simp [logic_Eval_ic]
    refine callK_fresh (fanin_spec hΓ 13 hk.1 hk.2) rfl ?_
    simp [enc1_len, hw1, hw2, Later]
    refine callK_fresh (bus_spec l c nl hl) rfl ?_
    simp [logic_Eval_rv, flatT]
  have ek : evalK k l = 2 := by
    unfold evalK
    rw [if_neg e1, if_neg e2, if_neg e3, if_neg e4, if_neg e5, if_neg e6, if_neg e7, if_neg e8, if_neg e9, if_neg e10, if_neg e11, if_neg e12, if_neg e13]
  rw [ek]
  simp [logic_Eval_ic]
  refine callK_fresh (fanin_spec hΓ k hk.1 hk.2) rfl ?_
  simp [enc1_len, hw1, hw2, logic_Eval_rv, flatT, e1, e2, e3, e4, e5, e6, e7, e8, e9, e10, e11, e12, e13]
end Go.Lg
namespace Go.Lg
open Go
section
variable {P : Program} {Γ : Tables} {Q : AX → St → Prop} {s : St}
/- slices.SortStableFunc[[]int,int] (function 110) -/
abbrev slices_SortStableFunc_int_ic : IC := (.reg [om 4 0, om 5 0, od 6 (le 0 5), om 7 1, od 8 (.hcall 150 [(tm 4), (tm 6), (tm 7)] [1000000] 8000)] [kp [] [1000000]])
def slices_SortStableFunc_int_rv : List RV := []
/- slices.stableCmpFunc[int] (function 150) -/
abbrev slices_stableCmpFunc_int_g0 : IC := .gh (.seq (.seq (.reg [om 11 8, om 12 1, od 13 (.bin .leq (tm 11) (tm 12))] [kp [0, 1, 2, 6, 7, 8, 13] [1000000]]) (.cond (tm 13) .skip (.exit 0))) (.block 1 (.seq (.reg [om 14 0, om 15 7, om 16 8, om 17 2, od 18 (.hcall 177 [(tm
 14), (tm 15), (tm 16), (tm 17)] [1000000] 18000)] [kp [0, 1, 2, 6, 8] [1000000]]) (.seq (.reg [om 19 8, om 7 19] [kp [0, 1, 2, 6, 7, 8] [1000000]]) (.reg [om 20 8, om 21 6, od 22 (.bin .add (tm 20) (tm 21)), om 8 22] [kp [0, 1, 2,
 6, 7, 8] [1000000]]))))) [kp [0, 1, 2, 6, 7, 8] [1000000]]
def slices_stableCmpFunc_int_l1 : IC := .loop slices_stableCmpFunc_int_g0
abbrev slices_stableCmpFunc_int_g2 : IC := .gh (.seq (.seq (.reg [om 33 8, om 34 1, od 35 (.bin .leq (tm 33) (tm 34))] [kp [0, 1, 2, 6, 7, 8, 35] [1000000]]) (.cond (tm 35) .skip (.exit 4))) (.block 5 (.seq (.reg [om 36 0, om 37 7, om 38 7, om 39 6, od 40 (.bin .add (tm 38)
 (tm 39)), om 41 8, om 42 2, od 43 (.hcall 178 [(tm 36), (tm 37), (tm 40), (tm 41), (tm 42)] [1000000] 43000)] [kp [0, 1, 2, 6, 8] [1000000]]) (.seq (.reg [om 44 8, om 7 44] [kp [0, 1, 2, 6, 7, 8] [1000000]]) (.reg [om 45 8, om 46
 6, od 47 (.bin .mul (ki 2) (tm 46)), od 48 (.bin .add (tm 45) (tm 47)), om 8 48] [kp [0, 1, 2, 6, 7, 8] [1000000]]))))) [kp [0, 1, 2, 6, 7, 8] [1000000]]
def slices_stableCmpFunc_int_l3 : IC := .loop slices_stableCmpFunc_int_g2
abbrev slices_stableCmpFunc_int_g4 : IC := .gh (.seq (.seq (.reg [om 28 6, om 29 1, od 30 (.bin .lss (tm 28) (tm 29))] [kp [0, 1, 2, 6, 30] [1000000]]) (.cond (tm 30) .skip (.exit 2))) (.block 3 (.seq (.reg [om 31 6, od 32 (.bin .mul (ki 2) (tm 31)), od 7 (.mv (ki 0)), om 8
 32] [kp [0, 1, 2, 6, 7, 8] [1000000]]) (.seq (.block 4 slices_stableCmpFunc_int_l3) (.seq (.seq (.reg [om 49 7, om 50 6, od 51 (.bin .add (tm 49) (tm 50)), om 9 51] [kp [0, 1, 2, 6, 7, 9] [1000000]]) (.seq (.reg [om 52 9, om 53 1,
 od 54 (.bin .lss (tm 52) (tm 53))] [kp [0, 1, 2, 6, 7, 9, 54] [1000000]]) (.cond (tm 54) (.reg [om 55 0, om 56 7, om 57 9, om 58 1, om 59 2, od 60 (.hcall 178 [(tm 55), (tm 56), (tm 57), (tm 58), (tm 59)] [1000000] 60000)] [kp [0,
 1, 2, 6] [1000000]]) .skip))) (.reg [om 61 6, od 62 (.bin .mul (tm 61) (ki 2)), om 6 62] [kp [0, 1, 2, 6] [1000000]])))))) [kp [0, 1, 2, 6] [1000000]]
def slices_stableCmpFunc_int_l5 : IC := .loop slices_stableCmpFunc_int_g4
abbrev slices_stableCmpFunc_int_ic : IC := (.seq (.reg [od 6 (.mv (ki 20))] [kp [0, 1, 2, 6] [1000000]]) (.seq (.reg [om 10 6, od 7 (.mv (ki 0)), om 8 10] [kp [0, 1, 2, 6, 7, 8] [1000000]]) (.seq (.block 0 slices_stableCmpFunc_int_l1) (.seq (.reg [om 23 0, om 24 7, om 25 1,
 om 26 2, od 27 (.hcall 177 [(tm 23), (tm 24), (tm 25), (tm 26)] [1000000] 27000)] [kp [0, 1, 2, 6] [1000000]]) (.block 2 slices_stableCmpFunc_int_l5)))))
theorem slices_stableCmpFunc_int_l1_run (h : ∀ K : St → Prop, K = run P Γ slices_stableCmpFunc_int_l1 Q → run P Γ slices_stableCmpFunc_int_g0 (thenX K Q) s) : run P Γ slices_stableCmpFunc_int_l1 Q s := run_loop h
theorem slices_stableCmpFunc_int_l5_run (h : ∀ K : St → Prop, K = run P Γ slices_stableCmpFunc_int_l5 Q → run P Γ slices_stableCmpFunc_int_g4 (thenX K Q) s) : run P Γ slices_stableCmpFunc_int_l5 Q s := run_loop h
def slices_stableCmpFunc_int_rv : List RV := []
/- slices.insertionSortCmpFunc[int] (function 177) -/
abbrev slices_insertionSortCmpFunc_int_g0 : IC := .gh (.seq (.seq (.reg [om 18 9, om 19 1, od 20 (.bin .gtr (tm 18) (tm 19)), om 21 20, oT 22 (.mv (tm 3)) 21, oT 23 (.mv (tm 0)) 21, oT 24 (.mv (tm 9)) 21, oT 25 (ia 1 23 24) 21, oT 26 (ld 1 25) 21, oT 27 (.mv (tm 0)) 21, oT 28 (.mv
 (tm 9)) 21, oT 29 (.bin .sub (tm 28) (ki 1)) 21, oT 30 (ia 1 27 29) 21, oT 31 (ld 1 30) 21, oT 32 (.callv (tm 22) [(tm 26), (tm 31)]) 21, oT 33 (.bin .lss (tm 32) (ki 0)) 21, od 34 (.pick (tm 21) (tm 33) kF)] [kp [0, 1, 2, 3, 8, 9,
 34] [1000000]]) (.cond (tm 34) .skip (.exit 2))) (.seq (.block 3 (.reg [om 37 0, om 38 9, om 39 0, om 40 9, od 41 (.bin .sub (tm 40) (ki 1)), om 42 0, om 43 9, od 44 (.bin .sub (tm 43) (ki 1)), od 45 (ia 1 42 44), od 46 (.ldR
 1000000 1 false (tm 45)), om 47 0, om 48 9, od 49 (ia 1 47 48), od 50 (.ldR 1000000 1 false (tm 49)), od 51 (ia 1 37 38), on (.stR 1000000 1 (tm 51) (tm 46)), od 52 (ia 1 39 41), on (.stR 1000000 1 (tm 52) (tm 50))] [kp [0, 1, 2,
 3, 8, 9] [1000000]])) (.reg [om 35 9, od 36 (.bin .sub (tm 35) (ki 1)), om 9 36] [kp [0, 1, 2, 3, 8, 9] [1000000]]))) [kp [0, 1, 2, 3, 8, 9] [1000000]]
def slices_insertionSortCmpFunc_int_l1 : IC := .loop slices_insertionSortCmpFunc_int_g0
abbrev slices_insertionSortCmpFunc_int_g2 : IC := .gh (.seq (.seq (.reg [om 12 8, om 13 2, od 14 (.bin .lss (tm 12) (tm 13))] [kp [0, 1, 2, 3, 8, 14] [1000000]]) (.cond (tm 14) .skip (.exit 0))) (.seq (.block 1 (.seq (.reg [om 17 8, om 9 17] [kp [0, 1, 2, 3, 8, 9] [1000000]])
 (.block 2 slices_insertionSortCmpFunc_int_l1))) (.reg [om 15 8, od 16 (.bin .add (tm 15) (ki 1)), om 8 16] [kp [0, 1, 2, 3, 8] [1000000]]))) [kp [0, 1, 2, 3, 8] [1000000]]
def slices_insertionSortCmpFunc_int_l3 : IC := .loop slices_insertionSortCmpFunc_int_g2
abbrev slices_insertionSortCmpFunc_int_ic : IC := (.seq (.reg [om 10 1, od 11 (.bin .add (tm 10) (ki 1)), om 8 11] [kp [0, 1, 2, 3, 8] [1000000]]) (.block 0 slices_insertionSortCmpFunc_int_l3))
theorem slices_insertionSortCmpFunc_int_l1_run (h : ∀ K : St → Prop, K = run P Γ slices_insertionSortCmpFunc_int_l1 Q → run P Γ slices_insertionSortCmpFunc_int_g0 (thenX K Q) s) : run P Γ slices_insertionSortCmpFunc_int_l1 Q s := run_loop h
theorem slices_insertionSortCmpFunc_int_l3_run (h : ∀ K : St → Prop, K = run P Γ slices_insertionSortCmpFunc_int_l3 Q → run P Γ slices_insertionSortCmpFunc_int_g2 (thenX K Q) s) : run P Γ slices_insertionSortCmpFunc_int_l3 Q s := run_loop h
def slices_insertionSortCmpFunc_int_rv : List RV := []
/- probecard/netlists.Order (function 53) -/
abbrev netlists_Order_g0 : IC := .gh (.seq (.reg [od 23 (.bin .lss (tm 22) (tm 21))] [kp [4, 6, 21, 22, 23] [19]]) (.seq (.cond (tm 23) .skip (.exit 0)) (.seq (.block 1 (.seq (.reg [om 24 22, om 7 24] [kp [4, 6, 7, 21, 22] [19]]) (.reg [om 25 6, om 26 7, om 27 7,
 od 28 (ia 1 25 26), on (.store 1 (tm 28) (tm 27))] [kp [4, 6, 21, 22] [19]]))) (.reg [od 29 (.bin .add (tm 22) (ki 1)), om 22 29] [kp [4, 6, 21, 22] [19]])))) [kp [4, 6, 21, 22] [19]]
def netlists_Order_l1 : IC := .loop netlists_Order_g0
abbrev netlists_Order_ic : IC := (.seq (.reg [od 1 (.box true (tm 0)), od 2 (.mv kN), od 3 (.mv (ki 0))] [kp [1] []]) (.seq (.reg [od 9 (lG 4 1), od 10 (.call 109 [(tm 9)]), om 8 10, od 11 (ex 8 0), od 12 (ex 8 1), od 4 (.alloc false [(.slice none 0 0)]), on
 (.store 1 (tm 4) (tm 11)), om 5 12] [.frz 4, kp [1, 4, 5] []]) (.seq (.seq (.reg [om 13 5, od 14 (.bin .neq (tm 13) (ki 0))] [kp [1, 4, 5, 14] []]) (.cond (tm 14) (.seq (.reg [om 15 5, od 2 (.mv kN), om 3 15] [kp [2, 3] [19]])
 .ret) .skip)) (.seq (.reg [od 16 (fa 0 1), od 17 (ld 1 16), od 18 (le 0 17), od 19 (.mk 3 1 [(.int .i64 0)] (tm 18) (tm 18)), om 6 19] [kp [4, 6] [19]]) (.seq (.seq (.reg [om 20 6, od 21 (le 0 20), od 22 (.mv (ki 0))] [kp [4, 6,
 21, 22] [19]]) (.block 0 netlists_Order_l1)) (.seq (.reg [om 30 6, od 31 (.mkf 111 [(tm 4)]), od 32 (.hcall 110 [(tm 30), (tm 31)] [19] 32000)] [kp [6] [19]]) (.seq (.reg [om 33 6, om 2 33, od 3 (.mv (ki 0))] [kp [2, 3] [19]])
 .ret)))))))
theorem netlists_Order_l1_run (h : ∀ K : St → Prop, K = run P Γ netlists_Order_l1 Q → run P Γ netlists_Order_g0 (thenX K Q) s) : run P Γ netlists_Order_l1 Q s := run_loop h
def netlists_Order_rv : List RV := [.tmp 2, .tmp 3]
/- probecard/netlists.Order$1 (function 111) -/
abbrev netlists_Order_1_ic : IC := (.seq (.reg [od 5 (.mv (ki 0))] [kp [0, 1, 2] []]) (.seq (.reg [od 6 (ld 1 2), om 7 0, od 8 (ia 1 6 7), od 9 (ld 1 8), od 10 (ld 1 2), om 11 1, od 12 (ia 1 10 11), od 13 (ld 1 12), od 14 (.call 112 [(tm 9), (tm 13)]), om 5 14] [kp
 [5] []]) .ret))
def netlists_Order_1_rv : List RV := [.tmp 5]
/- cmp.Compare[int] (function 112) -/
abbrev cmp_Compare_int_ic : IC := (.seq (.reg [od 4 (.mv (ki 0))] [kp [0, 1] []]) (.seq (.reg [om 7 0, od 8 (.call 151 [(tm 7)]), om 5 8] [kp [0, 1, 5] []]) (.seq (.reg [om 9 1, od 10 (.call 151 [(tm 9)]), om 6 10] [kp [0, 1, 5, 6] []]) (.seq (.seq (.reg [om 11 5]
 [kp [0, 1, 6, 11] []]) (.cond (tm 11) (.seq (.seq (.reg [om 12 6] [kp [12] []]) (.cond (tm 12) (.seq (.reg [od 4 (.mv (ki 0))] [kp [4] []]) .ret) .skip)) (.seq (.reg [od 4 (.mv (.const (.int .i64 (-1))))] [kp [4] []]) .ret))
 .skip)) (.seq (.seq (.reg [om 13 6] [kp [0, 1, 13] []]) (.cond (tm 13) (.seq (.reg [od 4 (.mv (ki 1))] [kp [4] []]) .ret) .skip)) (.seq (.seq (.reg [om 14 0, om 15 1, od 16 (.bin .lss (tm 14) (tm 15))] [kp [0, 1, 16] []]) (.cond
 (tm 16) (.seq (.reg [od 4 (.mv (.const (.int .i64 (-1))))] [kp [4] []]) .ret) .skip)) (.seq (.seq (.reg [om 17 0, om 18 1, od 19 (.bin .gtr (tm 17) (tm 18))] [kp [19] []]) (.cond (tm 19) (.seq (.reg [od 4 (.mv (ki 1))] [kp [4] []])
 .ret) .skip)) (.seq (.reg [od 4 (.mv (ki 0))] [kp [4] []]) .ret))))))))
def cmp_Compare_int_rv : List RV := [.tmp 4]
/- cmp.isNaN[int] (function 151) -/
abbrev cmp_isNaN_int_ic : IC := (.seq (.reg [od 2 (.mv kF)] [kp [0] []]) (.seq (.reg [om 3 0, om 4 0, od 5 (.bin .neq (tm 3) (tm 4)), om 2 5] [kp [2] []]) .ret))
def cmp_isNaN_int_rv : List RV := [.tmp 2]
end
end Go.Lg
namespace Go.Lg
open Go Go.Proofs
theorem slices_SortStableFunc_int_chk : chkF Tryz.prog 110 slices_SortStableFunc_int_ic 9 2 slices_SortStableFunc_int_rv = true := by kernel_rfl
theorem slices_stableCmpFunc_int_chk : chkF Tryz.prog 150 slices_stableCmpFunc_int_ic 63 3 slices_stableCmpFunc_int_rv = true := by kernel_rfl
theorem slices_insertionSortCmpFunc_int_chk : chkF Tryz.prog 177 slices_insertionSortCmpFunc_int_ic 53 4 slices_insertionSortCmpFunc_int_rv = true := by kernel_rfl
theorem netlists_Order_chk : chkF Tryz.prog 53 netlists_Order_ic 34 1 netlists_Order_rv = true := by kernel_rfl
theorem netlists_Order_1_chk : chkF Tryz.prog 111 netlists_Order_1_ic 15 3 netlists_Order_1_rv = true := by kernel_rfl
theorem cmp_Compare_int_chk : chkF Tryz.prog 112 cmp_Compare_int_ic 20 2 cmp_Compare_int_rv = true := by kernel_rfl
theorem cmp_isNaN_int_chk : chkF Tryz.prog 151 cmp_isNaN_int_ic 6 1 cmp_isNaN_int_rv = true := by kernel_rfl
end Go.Lg
namespace Go.Lg
open Go Go.Proofs
variable {Γ : Tables}
theorem callK_clos2 {hp : List (Nat × Reg)} {f : FuncId} {K : T → Prop} {cs : List T} {t u res : T} (h : FreshCalls Tryz.prog Γ f (t :: u :: cs) res) (hk : K res) : callK Tryz.prog Γ hp f (.t t :: .t u :: cs.map .t) K ⟨⟩ :=
  callK_fresh h (by simp only [List.map_cons, List.map_map, Function.comp_def, optAll, reify]; rw [optAll_some]; rfl) hk
theorem swap_enc {l : List Int} {a b : Nat} : ints (swapL l a b) = ((ints l).set a [tI (l.getD b 0)]).set b [tI (l.getD a 0)] := by
  show enc1 tI _ = ((enc1 tI l).set a _).set b _
  rw [enc1_set, enc1_set]; rfl
theorem ge1 {f : Int → T} {l : List Int} {i : Nat} (hi : i < l.length) : (enc1 f l)[i]?.getD [] = [f (l.getD i 0)] := by
  have hget := enc1_get (f := f) 0 hi
  have hgg : l[i]?.getD 0 = l.getD i 0 := by simp [List.getD_eq_getElem?_getD]
  rw [hgg] at hget
  exact hget
theorem sink_loop {Q : AX → St → Prop} (ty n : Nat) (cap : Option Nat) (hn : n ≤ 1000000000) (f : FuncId) (cs : List T) (cmp : Int → Int → Int) (i : Nat) (hi : i < n) (R : List Int)
    (h0 : ∀ j : Int, Q (.exit 2) ⟨[(0, .ls 1000000 0 n cap), (1, .t (tI 0)), (2, .t (tI n)), (3, .t (.fn f cs)), (8, .t (tI i)), (9, .t (tI j)), (34, .t (tB false))], [(1000000, .sl ty 1 (ints R))]⟩) :
    ∀ (j : Nat) (l : List Int), j ≤ i → l.length = n → (∀ x ∈ l, ∀ y ∈ l, FreshCalls Tryz.prog Γ f (tI x :: tI y :: cs) (tI (cmp x y))) → sink (fun a b => decide (cmp a b < 0)) j l = R →
    run Tryz.prog Γ slices_insertionSortCmpFunc_int_l1 Q ⟨[(0, .ls 1000000 0 n cap), (1, .t (tI 0)), (2, .t (tI n)), (3, .t (.fn f cs)), (8, .t (tI i)), (9, .t (tI j))], [(1000000, .sl ty 1 (ints l))]⟩
  | 0, l, hj, hl, hc, hR => by
    refine slices_insertionSortCmpFunc_int_l1_run fun K hK => ?_
    simp only [sink] at hR
    subst hR
    simp
    exact h0 0
  | j + 1, l, hj, hl, hc, hR => by
    refine slices_insertionSortCmpFunc_int_l1_run fun K hK => ?_
    simp only [sink] at hR
    have la : j < l.length := by omega
    have lb : j + 1 < l.length := by omega
    have e1 := ge1 (f := tI) la
    have e2 := ge1 (f := tI) lb
    have m1 : l.getD j 0 ∈ l := by rw [getD_eq la]; exact List.getElem_mem la
    have m2 : l.getD (j + 1) 0 ∈ l := by rw [getD_eq lb]; exact List.getElem_mem lb
    have hcc := hc _ m2 _ m1
    have hs := swap_enc (l := l) (a := j + 1) (b := j)
    have hperm : (swapL l (j + 1) j).Perm l := swapL_perm lb la
    have hpl := swapL_len (l := l) (a := j + 1) (b := j)
    have hcs : ∀ x ∈ swapL l (j + 1) j, ∀ y ∈ swapL l (j + 1) j, FreshCalls Tryz.prog Γ f (tI x :: tI y :: cs) (tI (cmp x y)) := fun x hx y hy => hc x (hperm.mem_iff.1 hx) y (hperm.mem_iff.1 hy)
    have ih := sink_loop ty n cap hn f cs cmp i hi R h0 j (swapL l (j + 1) j) (by omega) (by rw [hpl]; exact hl) hcs
    generalize swapL l (j + 1) j = l' at *
    generalize l.getD j 0 = va at *
    generalize l.getD (j + 1) 0 = vb at *
    have hj1 : (0 : Int) < (j : Int) + 1 := by omega
    have hj2 : ((j : Int) + 1).toNat = j + 1 := by omega
    have hj3 : (j : Int) + 1 < n := by omega
    have hj4 : (j : Int) < n := by omega
    have hj5 : (j : Int) + 1 - 1 = j := by omega
    have lan : j < n := by omega
    have lbn : j + 1 < n := by omega
    simp (disch := omega) [hj1, hj2, hj3, hj4, hj5, lan, lbn, enc1_len, enc1_wid, hl, e1, e2, wrap_i64]
    refine ⟨by omega, callK_clos2 hcc ?_⟩
    by_cases h : cmp vb va < 0
    · rw [if_pos (by simpa using h)] at hR
      have ih := ih hR
      rw [hs] at ih
      simp (disch := omega) [h, hj1, hj2, hj3, hj4, hj5, lan, lbn, enc1_len, enc1_wid, hl, e1, e2, wrap_i64]
      refine ⟨by omega, ?_⟩
      rw [hK]
      exact_mod_cast ih
    · rw [if_neg (by simpa using h)] at hR
      subst hR
      simp (disch := omega) [h]
      exact_mod_cast h0 (j + 1)
theorem ins_loop {Q : AX → St → Prop} (ty n : Nat) (cap : Option Nat) (hn : n ≤ 1000000000) (f : FuncId) (cs : List T) (cmp : Int → Int → Int) (R : List Int)
    (h0 : ∀ i : Int, Q (.exit 0) ⟨[(0, .ls 1000000 0 n cap), (1, .t (tI 0)), (2, .t (tI n)), (3, .t (.fn f cs)), (8, .t (tI i)), (14, .t (tB false))], [(1000000, .sl ty 1 (ints R))]⟩) :
    ∀ (k i : Nat) (l : List Int), 1 ≤ i → i + k = max 1 n → l.length = n → (∀ x ∈ l, ∀ y ∈ l, FreshCalls Tryz.prog Γ f (tI x :: tI y :: cs) (tI (cmp x y))) → insS (fun a b => decide (cmp a b < 0)) k i l = R →
    run Tryz.prog Γ slices_insertionSortCmpFunc_int_l3 Q ⟨[(0, .ls 1000000 0 n cap), (1, .t (tI 0)), (2, .t (tI n)), (3, .t (.fn f cs)), (8, .t (tI i))], [(1000000, .sl ty 1 (ints l))]⟩
  | 0, i, l, h1, h, hl, hc, hR => by
    refine slices_insertionSortCmpFunc_int_l3_run fun K hK => ?_
    simp only [insS] at hR
    subst hR
    have h2 : ¬ (i : Int) < n := by omega
    have h2' : ¬ i < n := by omega
    simp [h2, h2']
    exact h0 _
  | k + 1, i, l, h1, h, hl, hc, hR => by
    refine slices_insertionSortCmpFunc_int_l3_run fun K hK => ?_
    simp only [insS] at hR
    have h2 : (i : Int) < n := by omega
    have h2' : i < n := by omega
    have hperm := sink_perm (lt := fun a b => decide (cmp a b < 0)) (j := i) (l := l) (by omega)
    have ih := ins_loop ty n cap hn f cs cmp R h0 k (i + 1) (sink (fun a b => decide (cmp a b < 0)) i l) (by omega) (by omega) (by rw [hperm.length_eq]; exact hl) (fun x hx y hy => hc x (hperm.mem_iff.1 hx) y (hperm.mem_iff.1 hy)) hR
    have hlp := fun Q h0 => sink_loop (Γ := Γ) (Q := Q) ty n cap hn f cs cmp i h2' _ h0 i l (Nat.le_refl _) hl hc rfl
    simp (disch := omega) [h2, h2', wrap_i64]
    refine hlp _ fun j => ?_
    simp (disch := omega) [wrap_i64]
    rw [hK]
    exact_mod_cast ih
theorem insertion_h (ty n : Nat) (cap : Option Nat) (hn : n ≤ 1000000000) (f : FuncId) (cs : List T) (cmp : Int → Int → Int) (l : List Int) (hl : l.length = n) (hc : ∀ x ∈ l, ∀ y ∈ l, FreshCalls Tryz.prog Γ f (tI x :: tI y :: cs) (tI (cmp x y))) :
    HCalls Tryz.prog Γ 177 [(1000000, .sl ty 1 (ints l))] [.ls 1000000 0 n cap, .t (tI 0), .t (tI n), .t (.fn f cs)] (.t (.tup [])) [(1000000, .sl ty 1 (ints (insS (fun a b => decide (cmp a b < 0)) (n - 1) 1 l)))] := by
  refine run_handQ slices_insertionSortCmpFunc_int_chk rfl ?_
  have hlp := fun Q h0 => ins_loop (Γ := Γ) (Q := Q) ty n cap hn f cs cmp _ h0 (n - 1) 1 l (by omega) (by omega) hl hc rfl
  simp (disch := omega) [slices_insertionSortCmpFunc_int_ic, wrap_i64]
  refine hlp _ fun i => ?_
  simp [slices_insertionSortCmpFunc_int_rv]
theorem insS_perm {lt : Int → Int → Bool} : ∀ {f i : Nat} {l : List Int}, i + f ≤ l.length ∨ f = 0 → (insS lt f i l).Perm l
  | 0, i, l, _ => List.Perm.refl l
  | f + 1, i, l, h => by
    simp only [insS]
    have hp := sink_perm (lt := lt) (j := i) (l := l) (by omega)
    exact (insS_perm (by rw [hp.length_eq]; omega)).trans hp
theorem insS_len {lt : Int → Int → Bool} {l : List Int} {n : Nat} (h : l.length = n) : (insS lt (n - 1) 1 l).length = l.length := (insS_perm (by omega)).length_eq
theorem stable_h (ty n : Nat) (cap : Option Nat) (hn : n ≤ 19) (f : FuncId) (cs : List T) (cmp : Int → Int → Int) (l : List Int) (hl : l.length = n) (hc : ∀ x ∈ l, ∀ y ∈ l, FreshCalls Tryz.prog Γ f (tI x :: tI y :: cs) (tI (cmp x y))) :
    HCalls Tryz.prog Γ 150 [(1000000, .sl ty 1 (ints l))] [.ls 1000000 0 n cap, .t (tI n), .t (.fn f cs)] (.t (.tup [])) [(1000000, .sl ty 1 (ints (insS (fun a b => decide (cmp a b < 0)) (n - 1) 1 l)))] := by
  refine run_handQ slices_stableCmpFunc_int_chk rfl ?_
  have hi := insertion_h (Γ := Γ) ty n cap (by omega) f cs cmp l hl hc
  simp (disch := omega) [slices_stableCmpFunc_int_ic, wrap_i64]
  have hR := insS_len (lt := fun a b => decide (cmp a b < 0)) hl
  generalize insS (fun a b => decide (cmp a b < 0)) (n - 1) 1 l = R at *
  refine slices_stableCmpFunc_int_l1_run fun K hK => ?_
  have h1 : ¬ (20 : Int) ≤ n := by omega
  have h2 : ¬ 20 ≤ n := by omega
  have h3 : ¬ (20 : Int) < n := by omega
  have h4 : ¬ 20 < n := by omega
  simp [h1, h2]
  refine ⟨_, _, hi, ?_⟩
  simp [enc1_len, hR]
  refine slices_stableCmpFunc_int_l5_run fun K hK => ?_
  simp [h3, h4, slices_stableCmpFunc_int_rv]
theorem sort_h (ty n : Nat) (cap : Option Nat) (hn : n ≤ 19) (f : FuncId) (cs : List T) (cmp : Int → Int → Int) (l : List Int) (hl : l.length = n) (hc : ∀ x ∈ l, ∀ y ∈ l, FreshCalls Tryz.prog Γ f (tI x :: tI y :: cs) (tI (cmp x y))) :
    HCalls Tryz.prog Γ 110 [(1000000, .sl ty 1 (ints l))] [.ls 1000000 0 n cap, .t (.fn f cs)] (.t (.tup [])) [(1000000, .sl ty 1 (ints (insS (fun a b => decide (cmp a b < 0)) (n - 1) 1 l)))] := by
  refine run_handQ slices_SortStableFunc_int_chk rfl ?_
  have hi := stable_h (Γ := Γ) ty n cap hn f cs cmp l hl hc
  have hR := insS_len (lt := fun a b => decide (cmp a b < 0)) hl
  generalize insS (fun a b => decide (cmp a b < 0)) (n - 1) 1 l = R at *
  simp (disch := omega) [slices_SortStableFunc_int_ic, wrap_i64]
  refine ⟨_, _, hi, ?_⟩
  simp [slices_SortStableFunc_int_rv, enc1_len, hR]
theorem nan_spec (n : Int) : FreshCalls Tryz.prog Γ 151 [tI n] (tB false) := by
  refine run_freshQ cmp_isNaN_int_chk rfl ?_
  simp [cmp_isNaN_int_ic, cmp_isNaN_int_rv, flatT]
def cmpI (a b : Int) : Int := if a < b then -1 else if b < a then 1 else 0
theorem cmp_spec (a b : Int) : FreshCalls Tryz.prog Γ 112 [tI a, tI b] (tI (cmpI a b)) := by
  refine run_freshQ cmp_Compare_int_chk rfl ?_
  simp [cmp_Compare_int_ic]
  refine callK_fresh (nan_spec a) rfl ?_
  simp
  refine callK_fresh (nan_spec b) rfl ?_
  by_cases h : a < b
  · simp [h, cmp_Compare_int_rv, flatT, cmpI]
  · by_cases h1 : b < a <;> simp [h, h1, cmp_Compare_int_rv, flatT, cmpI]
def levT (c : Cir) : T := .sl (ints (endL c).2.out) none none
theorem order1_spec (c : Cir) (h : levErr c = 0) (a b : Int) (ha : 0 ≤ a ∧ a < c.nodes.l.length) (hb : 0 ≤ b ∧ b < c.nodes.l.length) : FreshCalls Tryz.prog Γ 111 [tI a, tI b, .ip [levT c] 0] (tI (cmpI (levAt c a.toNat) (levAt c b.toNat))) := by
  refine run_freshQ netlists_Order_1_chk rfl ?_
  have hl := (lev_lt h).1
  have e1 := ge1 (f := tI) (l := (endL c).2.out) (i := a.toNat) (by omega)
  have e2 := ge1 (f := tI) (l := (endL c).2.out) (i := b.toNat) (by omega)
  unfold levAt levT
  generalize (endL c).2.out.getD a.toNat 0 = va at *
  generalize (endL c).2.out.getD b.toNat 0 = vb at *
  simp (disch := omega) [netlists_Order_1_ic, enc1_len, enc1_wid, hl, e1, e2, ha, hb]
  refine callK_fresh (cmp_spec _ _) rfl ?_
  simp [netlists_Order_1_rv, flatT]
theorem order_loop {Q : AX → St → Prop} (n : Nat) (hn : n ≤ 1000000000) (a4 : T)
    (h0 : Q (.exit 0) ⟨[(4, .t a4), (6, .ls 19 0 n none), (21, .t (tI n)), (22, .t (tI n)), (23, .t (tB false))], [(19, .sl 3 1 (ints (rng n)))]⟩) : ∀ (k i : Nat), k + i = n →
    run Tryz.prog Γ netlists_Order_l1 Q ⟨[(4, .t a4), (6, .ls 19 0 n none), (21, .t (tI n)), (22, .t (tI i))], [(19, .sl 3 1 (ints (rng i ++ List.replicate (n - i) 0)))]⟩
  | 0, i, h => by
    refine netlists_Order_l1_run fun K hK => ?_
    have h2 : i = n := by omega
    subst h2
    simp
    simpa using h0
  | k + 1, i, h => by
    refine netlists_Order_l1_run fun K hK => ?_
    have ih := order_loop n hn a4 h0 k (i + 1) (by omega)
    have h2 : i < n := by omega
    have hs : (ints (rng i ++ List.replicate (n - i) 0)).set i [tI i] = ints (rng (i + 1) ++ List.replicate (n - (i + 1)) 0) := by
      show (enc1 tI _).set i [tI i] = enc1 tI _
      rw [enc1_set]
      congr 1
      have e : n - i = (n - (i + 1)) + 1 := by omega
      rw [e, List.replicate_succ, List.set_append, if_neg (by rw [rng_len]; omega), rng_len, Nat.sub_self]
      simp [rng, List.range_succ]
    have hlen : (ints (rng i ++ List.replicate (n - i) 0)).length = n := by rw [enc1_len]; simp [rng_len]; omega
    generalize ints (rng i ++ List.replicate (n - i) 0) = E at *
    simp (disch := omega) [h2, hlen, hs, wrap_i64]
    rw [hK]
    exact_mod_cast ih
theorem order_spec (hΓ : GOk Γ) (c : Cir) (hc : COk c) (hn : c.nodes.l.length ≤ 19) :
    FreshCalls Tryz.prog Γ 53 [.agg (tC c)] (.tup [if levErr c = 0 then .sl (ints (orderC c)) none none else .sl [] (some 0) (some true), tI (levErr c)]) := by
  refine run_freshQ netlists_Order_chk rfl ?_
  have e1 := levels_spec hΓ c hc.toCirOk hc.asc
  simp [netlists_Order_ic, tC, tNodes, tNames, tMems, tSl]
  refine callK_fresh e1 rfl ?_
  by_cases h : levErr c = 0
  case neg => simp [h, netlists_Order_rv, St.freeze, Reg.closed, frzRef, frz1, frz0, frzReg, del, reify]
  have hlp := fun Q h0 => order_loop (Γ := Γ) (Q := Q) c.nodes.l.length (by omega) (.ip [levT c] 0) h0 c.nodes.l.length 0 (by omega)
  have hz : List.replicate c.nodes.l.length [T.v (Value.int .i64 0)] = ints (rng 0 ++ List.replicate (c.nodes.l.length - 0) 0) := by simp [enc1, rng]
  have hsort := sort_h (Γ := Γ) 3 c.nodes.l.length none hn 111 [.ip [levT c] 0] (fun a b => cmpI (levAt c a.toNat) (levAt c b.toNat)) (rng c.nodes.l.length) rng_len (fun x hx y hy => order1_spec c h x y (mem_rng.1 hx) (mem_rng.1 hy))
  have hlt : (fun a b => decide (cmpI (levAt c a.toNat) (levAt c b.toNat) < 0)) = levLt c := by
    funext a b
    simp only [levLt, cmpI]
    by_cases h1 : levAt c a.toNat < levAt c b.toNat
    · simp [h1]
    · by_cases h2 : levAt c b.toNat < levAt c a.toNat <;> simp [h1, h2]
  rw [hlt] at hsort
  have ho : insS (levLt c) (c.nodes.l.length - 1) 1 (rng c.nodes.l.length) = orderC c := rfl
  rw [ho] at hsort
  have holen : (orderC c).length = c.nodes.l.length := by rw [(orderC_ok c).1.length_eq, rng_len]
  simp [h, encN_len, wrap_i64, St.freeze, Reg.closed, frzRef, frz1, frz0, frzReg, del, reify]
  refine ⟨by omega, ?_⟩
  rw [hz]
  refine hlp _ ?_
  simp
  refine ⟨_, _, hsort, ?_⟩
  have htk : (ints (orderC c)).take c.nodes.l.length = ints (orderC c) := List.take_of_length_le (by rw [enc1_len, holen]; exact Nat.le_refl _)
  simp [enc1_len, rng_len, holen, netlists_Order_rv, reify, htk, h]
end Go.Lg
namespace Go.Lg
open Go
section
variable {P : Program} {Γ : Tables} {Q : AX → St → Prop} {s : St}
/- probecard/sims.fits (function 54) -/
abbrev sims_fits_ic : IC := (.seq (.reg [od 2 (.box true (tm 0)), od 3 (.box true (tm 1)), od 4 (.mv (ki 0))] [kp [2, 3] []]) (.seq (.block 0 (.seq (.reg [od 6 (fa 2 2), od 7 (ld 1 6), od 8 (le 0 7), od 9 (.bin .gtr (tm 8) (ki 0)), om 10 9, oF 11 (lG 4 2) 10,
 oF 12 (.bsl true 102 1 [(ku 15)]) 10, oF 13 (.call 80 [(tm 11), (tm 12)]) 10, oF 14 (le 0 13) 10, oF 15 (.bin .gtr (tm 14) (ki 0)) 10, od 16 (.pick (tm 10) kT (tm 15)), om 5 16] [kp [2, 3, 5] []]) (.cond (tm 5) (.seq (.reg [od 4
 (.mv (ki 7))] [kp [4] []]) .ret) (.seq (.reg [od 18 (fa 0 3), od 19 (ld 1 18), od 20 (le 0 19), od 21 (lG 4 2), od 22 (.call 41 [(tm 21)]), od 23 (le 0 22), od 24 (.bin .neq (tm 20) (tm 23)), om 25 24, oF 26 (fa 1 3) 25, oF 27 (ld
 1 26) 25, oF 28 (le 0 27) 25, oF 29 (lG 4 2) 25, oF 30 (.call 27 [(tm 29)]) 25, oF 31 (le 0 30) 25, oF 32 (.bin .neq (tm 28) (tm 31)) 25, od 33 (.pick (tm 25) kT (tm 32)), om 17 33] [kp [3, 17] []]) (.cond (tm 17) (.seq (.reg [od 4
 (.mv (ki 8))] [kp [4] []]) .ret) (.seq (.reg [od 35 (fa 0 3), od 36 (ld 1 35), od 37 (.call 76 [(tm 36), (.func 113)]), om 38 37, oF 39 (fa 1 3) 38, oF 40 (ld 1 39) 38, oF 41 (.call 76 [(tm 40), (.func 113)]) 38, od 42 (.pick (tm
 38) kT (tm 41)), om 34 42] [kp [34] []]) (.cond (tm 34) (.seq (.reg [od 4 (.mv (ki 1))] [kp [4] []]) .ret) .skip))))))) (.seq (.reg [od 4 (.mv (ki 0))] [kp [4] []]) .ret)))
def sims_fits_rv : List RV := [.tmp 4]
/- probecard/sims.above (function 113) -/
abbrev sims_above_ic : IC := (.seq (.reg [od 2 (.mv kF)] [kp [0] []]) (.seq (.reg [om 3 0, od 4 (.bin .gtr (tm 3) (ku 3)), om 2 4] [kp [2] []]) .ret))
def sims_above_rv : List RV := [.tmp 2]
/- (probecard/sims.run).load (function 55) -/
abbrev sims_run_load_g0 : IC := .gh (.seq (.reg [od 13 (.bin .lss (tm 12) (tm 11))] [kp [2, 3, 10, 11, 12, 13] [2, 1000000]]) (.seq (.cond (tm 13) .skip (.exit 0)) (.seq (.block 1 (.seq (.reg [om 14 12, od 15 (ia 1 10 12), od 16 (ld 1 15), om 4 14, om 5 16] [kp
 [2, 3, 4, 5, 10, 11, 12] [2, 1000000]]) (.reg [od 17 (fa 4 2), od 18 (.ldR 2 1 false (tm 17)), om 19 5, od 20 (fa 0 3), od 21 (.ldT 1 false (tm 20)), om 22 4, od 23 (ia 1 21 22), od 24 (.ldT 1 false (tm 23)), od 25 (ia 1 18 19), on
 (.stR 1000000 1 (tm 25) (tm 24))] [kp [2, 3, 10, 11, 12] [2, 1000000]]))) (.reg [od 26 (.bin .add (tm 12) (ki 1)), om 12 26] [kp [2, 3, 10, 11, 12] [2, 1000000]])))) [kp [2, 3, 10, 11, 12] [2, 1000000]]
def sims_run_load_l1 : IC := .loop sims_run_load_g0
abbrev sims_run_load_g2 : IC := .gh (.seq (.reg [od 32 (.bin .lss (tm 31) (tm 30))] [kp [2, 3, 29, 30, 31, 32] [2, 1000000]]) (.seq (.cond (tm 32) .skip (.exit 2)) (.seq (.block 3 (.seq (.reg [om 33 31, od 34 (ia 1 29 31), od 35 (ld 1 34), om 6 33, om 7 35] [kp
 [2, 3, 6, 7, 29, 30, 31] [2, 1000000]]) (.reg [od 36 (fa 4 2), od 37 (.ldR 2 1 false (tm 36)), om 38 7, od 39 (fa 1 3), od 40 (.ldT 1 false (tm 39)), om 41 6, od 42 (ia 1 40 41), od 43 (.ldT 1 false (tm 42)), od 44 (ia 1 37 38), on
 (.stR 1000000 1 (tm 44) (tm 43))] [kp [2, 3, 29, 30, 31] [2, 1000000]]))) (.reg [od 45 (.bin .add (tm 31) (ki 1)), om 31 45] [kp [2, 3, 29, 30, 31] [2, 1000000]])))) [kp [2, 3, 29, 30, 31] [2, 1000000]]
def sims_run_load_l3 : IC := .loop sims_run_load_g2
abbrev sims_run_load_ic : IC := (.seq (.reg [od 2 (.box false (tm 0)), od 3 (.box true (tm 1))] [kp [2, 3] [2, 1000000]]) (.seq (.seq (.reg [od 8 (fa 0 2), od 9 (lG 4 8), od 10 (.call 41 [(tm 9)]), od 11 (le 0 10), od 12 (.mv (ki 0))] [kp [2, 3, 10, 11, 12] [2,
 1000000]]) (.block 0 sims_run_load_l1)) (.seq (.reg [od 27 (fa 0 2), od 28 (lG 4 27), od 29 (.call 27 [(tm 28)]), od 30 (le 0 29), od 31 (.mv (ki 0))] [kp [2, 3, 29, 30, 31] [2, 1000000]]) (.gh (.block 2 sims_run_load_l3) [.keep []
 [1000000]]))))
theorem sims_run_load_l1_run (h : ∀ K : St → Prop, K = run P Γ sims_run_load_l1 Q → run P Γ sims_run_load_g0 (thenX K Q) s) : run P Γ sims_run_load_l1 Q s := run_loop h
theorem sims_run_load_l3_run (h : ∀ K : St → Prop, K = run P Γ sims_run_load_l3 Q → run P Γ sims_run_load_g2 (thenX K Q) s) : run P Γ sims_run_load_l3 Q s := run_loop h
def sims_run_load_rv : List RV := []
/- probecard/sims.Run (function 15) -/
abbrev sims_Run_g0 : IC := .gh (.seq (.reg [od 62 (.bin .lss (tm 61) (tm 60))] [kp [4, 9, 10, 12, 13, 40, 41, 42, 59, 60, 61, 62] [4, 9, 13, 34, 39]]) (.seq (.cond (tm 62) .skip (.exit 2)) (.seq (.block 3 (.seq (.reg [od 63 (ia 1 59 61), od 64 (ld 1 63), om
 15 64] [kp [4, 9, 10, 12, 13, 15, 40, 41, 42, 59, 60, 61] [4, 9, 13, 34, 39]]) (.reg [om 65 10, od 66 (fa 4 9), od 67 (ld 1 66), om 68 15, od 69 (ia 1 67 68), od 70 (ld 1 69), od 71 (.bsl true 68 1 [(tm 70)]), oz 72 (.app false 68
 1 (tm 65) (tm 71)) 39, om 10 72] [kp [4, 9, 10, 12, 13, 40, 41, 42, 59, 60, 61] [4, 9, 13, 34, 39]]))) (.reg [od 73 (.bin .add (tm 61) (ki 1)), om 61 73] [kp [4, 9, 10, 12, 13, 40, 41, 42, 59, 60, 61] [4, 9, 13, 34, 39]])))) [kp
 [4, 9, 10, 12, 13, 40, 41, 42, 59, 60, 61] [4, 9, 13, 34, 39]]
def sims_Run_l1 : IC := .loop sims_Run_g0
abbrev sims_Run_g2 : IC := .gh (.seq (.reg [od 43 (.bin .lss (tm 42) (tm 41))] [kp [4, 9, 10, 40, 41, 42, 43] [4, 9, 34, 39]]) (.seq (.cond (tm 43) .skip (.exit 0)) (.seq (.block 1 (.seq (.reg [od 44 (ia 1 40 42), od 45 (ld 1 44), om 12 45] [kp [4, 9, 10,
 12, 40, 41, 42] [4, 9, 34, 39]]) (.seq (.reg [od 46 (fa 0 9), od 47 (fa 0 46), od 48 (ld 1 47), om 49 12, od 50 (ia 4 48 49), od 51 (lG 4 50), od 13 (.alloc false [(.int .u8 0), (.slice none 0 0), (.int .i64 0), (.int .i64 0)]), on
 (.store 4 (tm 13) (tm 51))] [kp [4, 9, 10, 12, 13, 40, 41, 42] [4, 9, 13, 34, 39]]) (.seq (.seq (.reg [od 52 (fa 0 13), od 53 (ld 1 52), od 54 (.call 56 [(tm 53)]), od 55 (.un .not (tm 54))] [kp [4, 9, 10, 12, 13, 40, 41, 42, 55]
 [4, 9, 13, 34, 39]]) (.cond (tm 55) (.exit 1) .skip)) (.seq (.reg [om 56 10, od 57 (.slice 1 (tm 56) none (some (ki 0)) none), om 10 57] [kp [4, 9, 10, 12, 13, 40, 41, 42] [4, 9, 13, 34, 39]]) (.seq (.seq (.reg [od 58 (fa 1 13), od
 59 (ld 1 58), od 60 (le 0 59), od 61 (.mv (ki 0))] [kp [4, 9, 10, 12, 13, 40, 41, 42, 59, 60, 61] [4, 9, 13, 34, 39]]) (.block 2 sims_Run_l1)) (.reg [od 74 (fa 4 9), od 75 (.ldR 9 1 false (tm 74)), om 76 12, od 77 (fa 0 13), od 78
 (.ldR 13 1 false (tm 77)), om 79 10, od 80 (.call 57 [(tm 78), (tm 79)]), od 81 (ia 1 75 76), on (.stR 34 1 (tm 81) (tm 80))] [kp [4, 9, 10, 40, 41, 42] [4, 9, 34, 39]]))))))) (.reg [od 82 (.bin .add (tm 42) (ki 1)), om 42 82] [kp
 [4, 9, 10, 40, 41, 42] [4, 9, 34, 39]])))) [kp [4, 9, 10, 40, 41, 42] [4, 9, 34, 39]]
def sims_Run_l3 : IC := .loop sims_Run_g2
abbrev sims_Run_ic : IC := (.seq (.reg [od 2 (.box true (tm 0)), od 3 (.box true (tm 1)), od 4 (.alloc false [(.slice none 0 0), (.slice none 0 0)]), od 5 (.mv kN), od 6 (.mv (ki 0))] [kp [2, 3, 4] [4]]) (.seq (.reg [od 17 (lG 4 2), od 18 (.call 53 [(tm
 17)]), om 16 18, od 19 (ex 16 0), od 20 (ex 16 1), om 7 19, om 8 20] [kp [2, 3, 4, 7, 8] [4]]) (.seq (.seq (.reg [om 21 8, od 22 (.bin .eql (tm 21) (ki 0))] [kp [2, 3, 4, 7, 8, 22] [4]]) (.cond (tm 22) (.reg [od 23 (lG 4 2), od 24
 (lG 2 3), od 25 (.call 54 [(tm 23), (tm 24)]), om 8 25] [kp [2, 3, 4, 7, 8] [4]]) .skip)) (.seq (.seq (.reg [om 26 8, od 27 (.bin .neq (tm 26) (ki 0))] [kp [2, 3, 4, 7, 8, 27] [4]]) (.cond (tm 27) (.seq (.reg [od 28 (.build [(1,
 kN), (1, kN)]), om 29 8, on (.store 2 (tm 4) (tm 28)), od 5 (.mv kN), om 6 29] [kp [4, 5, 6] [4, 34]]) .ret) .skip)) (.seq (.reg [od 30 (.ldT 4 true (tm 2)), od 31 (fa 0 2), od 32 (.ldT 1 false (tm 31)), od 33 (le 0 32), od 34
 (.mkE 68 1 [(.int .u8 0)] (tm 33) (tm 33)), od 35 (.build [(4, (tm 30)), (1, (tm 34))]), od 9 (.alloc false [(.slice none 0 0), (.slice none 0 0), (.slice none 0 0), (.slice none 0 0), (.slice none 0 0)]), on (.stR 9 5 (tm 9) (tm
 35))] [kp [3, 4, 7, 9] [4, 9, 34]]) (.seq (.reg [od 36 (lG 5 9), od 37 (lG 2 3), od 38 (.hcall 55 [(tm 36), (tm 37)] [34] 38000)] [kp [4, 7, 9] [4, 9, 34]]) (.seq (.reg [od 39 (.mk 68 1 [(.int .u8 0)] (ki 0) (ki 16)), om 10 39] [kp
 [4, 7, 9, 10] [4, 9, 34, 39]]) (.seq (.seq (.reg [om 40 7, od 41 (le 0 40), od 42 (.mv (ki 0))] [kp [4, 9, 10, 40, 41, 42] [4, 9, 34, 39]]) (.block 0 sims_Run_l3)) (.seq (.reg [od 83 (.ldR 9 5 true (tm 9)), od 84 (.call 58 [(tm
 83)]), od 85 (fa 4 9), od 86 (.ldR 9 1 false (tm 85)), on (.stR 4 2 (tm 4) (tm 84)), om 5 86, od 6 (.mv (ki 0))] [kp [4, 5, 6] [4, 34]]) .ret)))))))))
theorem sims_Run_l1_run (h : ∀ K : St → Prop, K = run P Γ sims_Run_l1 Q → run P Γ sims_Run_g0 (thenX K Q) s) : run P Γ sims_Run_l1 Q s := run_loop h
theorem sims_Run_l3_run (h : ∀ K : St → Prop, K = run P Γ sims_Run_l3 Q → run P Γ sims_Run_g2 (thenX K Q) s) : run P Γ sims_Run_l3 Q s := run_loop h
def sims_Run_rv : List RV := [.cell 4 2 true, .tmp 5, .tmp 6]
/- (probecard/sims.run).value (function 122) -/
abbrev sims_run_value_ic : IC := (.seq (.reg [od 2 (.box true (tm 0)), od 4 (.mv (ku 0))] [kp [1, 2] []]) (.seq (.seq (.reg [om 5 1, od 6 (.bin .lss (tm 5) (ki 0)), om 7 6, oF 8 (.mv (tm 1)) 7, oF 9 (fa 4 2) 7, oF 10 (ld 1 9) 7, oF 11 (le 0 10) 7, oF 12 (.bin .geq
 (tm 8) (tm 11)) 7, od 13 (.pick (tm 7) kT (tm 12))] [kp [1, 2, 13] []]) (.cond (tm 13) (.seq (.reg [od 4 (.mv (ku 2))] [kp [4] []]) .ret) .skip)) (.seq (.reg [od 14 (fa 4 2), od 15 (ld 1 14), om 16 1, od 17 (ia 1 15 16), od 18 (ld
 1 17), od 19 (.call 127 [(tm 18)]), om 4 19] [kp [4] []]) .ret)))
def sims_run_value_rv : List RV := [.tmp 4]
/- (probecard/sims.run).observe (function 58) -/
abbrev sims_run_observe_g0 : IC := .gh (.seq (.reg [od 15 (.bin .lss (tm 14) (tm 13))] [kp [1, 2, 3, 12, 13, 14, 15] [2, 3, 24, 55]]) (.seq (.cond (tm 15) .skip (.exit 0)) (.seq (.block 1 (.seq (.reg [od 16 (ia 1 12 14), od 17 (ld 1 16), om 5 17] [kp [1, 2, 3, 5,
 12, 13, 14] [2, 3, 24, 55]]) (.reg [od 18 (fa 0 3), od 19 (.ldR 3 1 false (tm 18)), od 20 (.ldT 5 true (tm 1)), om 21 5, od 22 (.call 122 [(tm 20), (tm 21)]), od 23 (.bsl true 68 1 [(tm 22)]), od 24 (.app false 68 1 (tm 19) (tm
 23)), od 25 (fa 0 3), on (.stR 3 1 (tm 25) (tm 24))] [kp [1, 2, 3, 12, 13, 14] [2, 3, 24, 55]]))) (.reg [od 26 (.bin .add (tm 14) (ki 1)), om 14 26] [kp [1, 2, 3, 12, 13, 14] [2, 3, 24, 55]])))) [kp [1, 2, 3, 12, 13, 14] [2, 3, 24,
 55]]
def sims_run_observe_l1 : IC := .loop sims_run_observe_g0
abbrev sims_run_observe_g2 : IC := .gh (.seq (.reg [od 32 (.bin .lss (tm 31) (tm 30))] [kp [1, 2, 3, 29, 30, 31, 32] [2, 3, 24, 55]]) (.seq (.cond (tm 32) .skip (.exit 2)) (.seq (.block 3 (.seq (.reg [od 33 (ia 1 29 31), od 34 (ld 1 33), om 7 34] [kp [1, 2, 3, 7,
 29, 30, 31] [2, 3, 24, 55]]) (.seq (.reg [od 8 (.mv (ku 2))] [kp [1, 2, 3, 7, 8, 29, 30, 31] [2, 3, 24, 55]]) (.seq (.seq (.reg [od 35 (fa 0 1), od 36 (fa 0 35), od 37 (ld 1 36), om 38 7, od 39 (ia 4 37 38), od 40 (fa 1 39), od 41
 (ld 1 40), om 9 41] [kp [1, 2, 3, 8, 9, 29, 30, 31] [2, 3, 24, 55]]) (.seq (.reg [om 42 9, od 43 (le 0 42), od 44 (.bin .eql (tm 43) (ki 1))] [kp [1, 2, 3, 8, 9, 29, 30, 31, 44] [2, 3, 24, 55]]) (.cond (tm 44) (.reg [od 45 (lG 5
 1), om 46 9, od 47 (.iadr 1 (tm 46) (ki 0)), od 48 (ld 1 47), od 49 (.call 122 [(tm 45), (tm 48)]), od 50 (.call 73 [(tm 49)]), om 8 50] [kp [1, 2, 3, 8, 29, 30, 31] [2, 3, 24, 55]]) .skip))) (.reg [od 51 (fa 1 3), od 52 (ld 1 51),
 om 53 8, od 54 (.bsl true 68 1 [(tm 53)]), od 55 (.app false 68 1 (tm 52) (tm 54)), od 56 (fa 1 3), on (.store 1 (tm 56) (tm 55))] [kp [1, 2, 3, 29, 30, 31] [2, 3, 24, 55]]))))) (.reg [od 57 (.bin .add (tm 31) (ki 1)), om 31 57]
 [kp [1, 2, 3, 29, 30, 31] [2, 3, 24, 55]])))) [kp [1, 2, 3, 29, 30, 31] [2, 3, 24, 55]]
def sims_run_observe_l3 : IC := .loop sims_run_observe_g2
abbrev sims_run_observe_ic : IC := (.seq (.reg [od 1 (.box true (tm 0)), od 2 (.alloc false [(.slice none 0 0), (.slice none 0 0)])] [kp [1, 2] [2, 24, 55]]) (.seq (.reg [od 3 (.alloc false [(.slice none 0 0), (.slice none 0 0)])] [.nlb 3 0 24 68 1, .nlb 3 1 55 68
 1, kp [1, 2, 3] [2, 3, 24, 55]]) (.seq (.seq (.reg [od 10 (fa 0 1), od 11 (fa 3 10), od 12 (ld 1 11), od 13 (le 0 12), od 14 (.mv (ki 0))] [kp [1, 2, 3, 12, 13, 14] [2, 3, 24, 55]]) (.block 0 sims_run_observe_l1)) (.seq (.seq (.reg
 [od 27 (fa 0 1), od 28 (lG 4 27), od 29 (.call 27 [(tm 28)]), od 30 (le 0 29), od 31 (.mv (ki 0))] [kp [1, 2, 3, 29, 30, 31] [2, 3, 24, 55]]) (.block 2 sims_run_observe_l3)) (.seq (.reg [od 58 (fa 0 3), od 59 (.ldR 3 1 false (tm
 58)), od 60 (.rcall 74 [(tm 59)] [24]), od 61 (fa 1 3), od 62 (.ldR 3 1 false (tm 61)), od 63 (.rcall 74 [(tm 62)] [55]), od 64 (.build [(1, (tm 60)), (1, (tm 63))]), on (.stR 2 2 (tm 2) (tm 64))] [kp [2] [2, 24, 55]]) .ret)))))
theorem sims_run_observe_l1_run (h : ∀ K : St → Prop, K = run P Γ sims_run_observe_l1 Q → run P Γ sims_run_observe_g0 (thenX K Q) s) : run P Γ sims_run_observe_l1 Q s := run_loop h
theorem sims_run_observe_l3_run (h : ∀ K : St → Prop, K = run P Γ sims_run_observe_l3 Q → run P Γ sims_run_observe_g2 (thenX K Q) s) : run P Γ sims_run_observe_l3 Q s := run_loop h
def sims_run_observe_rv : List RV := [.cell 2 2 true]
/- probecard/sims.Observe (function 18) -/
abbrev netlists_Inputs_ic : IC := (.seq (.reg [od 1 (.box true (tm 0)), od 2 (.mv kN)] [kp [1] []]) (.seq (.reg [od 3 (lG 4 1), od 4 (.bsl true 102 1 [(ku 0)]), od 5 (.call 80 [(tm 3), (tm 4)]), om 2 5] [kp [2] []]) .ret))
def netlists_Inputs_rv : List RV := [.tmp 2]
/- slices.Clip[[]probecard/api.Value,probecard/api.Value] (function 74) -/
abbrev slices_Clip_api_Value_ic : IC := (.seq (.reg [od 2 (.mv kN)] [kp [0] [1000000]]) (.seq (.reg [om 3 0, om 4 0, od 5 (le 0 4), om 6 0, od 7 (le 0 6), od 8 (.slice 1 (tm 3) none (some (tm 5)) (some (tm 7))), om 2 8] [kp [2] [1000000]]) .ret))
def slices_Clip_api_Value_rv : List RV := [.tmp 2]
end
end Go.Lg
namespace Go.Lg
open Go Go.Proofs
theorem sims_fits_chk : chkF Tryz.prog 54 sims_fits_ic 43 2 sims_fits_rv = true := by kernel_rfl
theorem sims_above_chk : chkF Tryz.prog 113 sims_above_ic 5 1 sims_above_rv = true := by kernel_rfl
theorem sims_run_load_chk : chkF Tryz.prog 55 sims_run_load_ic 46 2 sims_run_load_rv = true := by kernel_rfl
theorem sims_Run_chk : chkF Tryz.prog 15 sims_Run_ic 87 2 sims_Run_rv = true := by kernel_rfl
theorem sims_run_value_chk : chkF Tryz.prog 122 sims_run_value_ic 20 2 sims_run_value_rv = true := by kernel_rfl
theorem sims_run_observe_chk : chkF Tryz.prog 58 sims_run_observe_ic 65 1 sims_run_observe_rv = true := by kernel_rfl
theorem netlists_Inputs_chk : chkF Tryz.prog 41 netlists_Inputs_ic 6 1 netlists_Inputs_rv = true := by kernel_rfl
theorem slices_Clip_api_Value_chk : chkF Tryz.prog 74 slices_Clip_api_Value_ic 9 1 slices_Clip_api_Value_rv = true := by kernel_rfl
end Go.Lg
namespace Go.Lg
open Go Go.Proofs
variable {Γ : Tables}
theorem inputs_spec (c : Cir) (hc : COk c) : PureCalls Tryz.prog Γ 41 [.agg (tC c)] (.sl (ints (inputs c)) (some (inputs c).length) none) := by
  refine run_pureQ netlists_Inputs_chk rfl ?_
  simp [netlists_Inputs_ic, tC, tNodes, tNames, tMems, tSl]
  refine callK_fresh (of_one c hc 0) rfl ?_
  simp [netlists_Inputs_rv, inputs]
theorem clip_val (es : List (List T)) (cap : Option Nat) (nl : Option Bool) (hw : wid 1 es) : PureCalls Tryz.prog Γ 74 [.sl es cap nl] (.sl es (some es.length) nl) := by
  refine run_pureQ slices_Clip_api_Value_chk rfl ?_
  simp [slices_Clip_api_Value_ic, slices_Clip_api_Value_rv, ret, hw]
def aboveV (v : Int) : Bool := decide (3 < v)
theorem above_spec (v : Int) : FreshCalls Tryz.prog Γ 113 [tK v] (tB (aboveV v)) := by
  refine run_freshQ sims_above_chk rfl ?_
  simp [sims_above_ic, sims_above_rv, flatT, aboveV]
structure Pat where
  inn : Sl Int
  st : Sl Int
def tP (p : Pat) : List T := [tV p.inn, tV p.st]
theorem inputs_len (c : Cir) : (inputs c).length ≤ c.nodes.l.length := ofL_len _ _ _
theorem states_len' (c : Cir) : (states c).length ≤ c.nodes.l.length := ofL_len _ _ _
def fitsErr (c : Cir) (p : Pat) : Int :=
  if 0 < c.mems.l.length ∨ 0 < (mems c).length then 7 else
  if p.inn.l.length ≠ (inputs c).length ∨ p.st.l.length ≠ (states c).length then 8 else
  if p.inn.l.any aboveV = true ∨ p.st.l.any aboveV = true then 1 else 0
theorem fits_spec (c : Cir) (hc : COk c) (p : Pat) (hp : p.inn.l.length ≤ 1000000000 ∧ p.st.l.length ≤ 1000000000) : FreshCalls Tryz.prog Γ 54 [.agg (tC c), .agg (tP p)] (tI (fitsErr c p)) := by
  refine run_freshQ sims_fits_chk rfl ?_
  have e1 := of_one (Γ := Γ) c hc 15
  have e2 := inputs_spec (Γ := Γ) c hc
  have e3 := states_spec (Γ := Γ) c hc
  have e4 := containsfunc_val (Γ := Γ) p.inn.l p.inn.cap p.inn.nl 113 [] aboveV (fun x _ => above_spec x) hp.1
  have e5 := containsfunc_val (Γ := Γ) p.st.l p.st.cap p.st.nl 113 [] aboveV (fun x _ => above_spec x) hp.2
  have hm : ofL [15] c.nodes.l 0 = mems c := rfl
  rw [hm] at e1
  generalize hR : fitsErr c p = R
  unfold fitsErr at hR
  by_cases h1 : 0 < c.mems.l.length
  · rw [if_pos (.inl h1)] at hR
    subst hR
    have h1' : ¬ c.mems.l = [] := fun e => by rw [e] at h1; simp at h1
    simp [sims_fits_ic, tC, tNodes, tNames, tMems, tSl, tP, tV, encN_len, h1, h1', sims_fits_rv, flatT]
  have h1' : c.mems.l = [] := List.eq_nil_of_length_eq_zero (by omega)
  simp [sims_fits_ic, tC, tNodes, tNames, tMems, tSl, tP, tV, encN_len, h1, h1']
  refine callK_fresh e1 (by simp [reify, optAll, enc1, tC, tNodes, tNames, tMems, tSl, h1']) ?_
  by_cases h2 : 0 < (mems c).length
  · rw [if_pos (.inr h2)] at hR
    subst hR
    have h2' : ¬ mems c = [] := fun e => by rw [e] at h2; simp at h2
    simp [enc1_len, h2, h2', sims_fits_rv, flatT]
  rw [if_neg (by omega)] at hR
  have h2' : mems c = [] := List.eq_nil_of_length_eq_zero (by omega)
  simp [enc1_len, h2']
  have tt : ∀ {x : T}, x = T.agg (tC c) → optAll [some x] = some [T.agg (tC c)] := fun h => by rw [h]; rfl
  have tc : T.agg (tC c) = T.agg [T.sl (encN tNd c.nodes.l) c.nodes.cap c.nodes.nl, T.sl (enc1 tS c.names.l) c.names.cap c.names.nl, T.sl (encN tMm []) c.mems.cap c.mems.nl, T.sl (ints c.outs.l) c.outs.cap c.outs.nl] := by rw [← h1']; rfl
  refine callK_pure e2 (by rw [tc]; rfl) ?_
  simp [enc1_len]
  by_cases h3 : p.inn.l.length = (inputs c).length
  case neg =>
    have h3' : ¬ (p.inn.l.length : Int) = (inputs c).length := by omega
    rw [if_pos (.inl h3)] at hR
    subst hR
    simp [h3, h3', sims_fits_rv, flatT, Later]
  simp [h3]
  refine callK_pure e3 (by rw [tc]; rfl) ?_
  simp [enc1_len]
  by_cases h4 : p.st.l.length = (states c).length
  case neg =>
    have h4' : ¬ (p.st.l.length : Int) = (states c).length := by omega
    rw [if_pos (.inr h4)] at hR
    subst hR
    simp [h4, h4', sims_fits_rv, flatT, Later]
  rw [if_neg (by omega)] at hR
  simp [h4, Later]
  refine callK_fresh e4 rfl ?_
  by_cases h5 : p.inn.l.any aboveV = true
  · rw [if_pos (.inl h5)] at hR
    subst hR
    simp only [h5]
    simp [sims_fits_rv, flatT]
  simp only [Bool.not_eq_true] at h5
  simp only [h5]
  simp
  refine callK_fresh e5 rfl ?_
  by_cases h6 : p.st.l.any aboveV = true
  · rw [if_pos (.inr h6)] at hR
    subst hR
    simp only [h6]
    simp [sims_fits_rv, flatT]
  rw [if_neg (by simp only [h5]; simp only [Bool.not_eq_true] at h6; simp [h6])] at hR
  subst hR
  simp only [Bool.not_eq_true] at h6
  simp only [h6]
  simp [sims_fits_rv, flatT]
def runA (c : Cir) (id n : Nat) (cap : Option Nat) : List AV := [.t (tNodes c.nodes), .t (tNames c.names), .t (tMems c.mems), .t (tSl c.outs), .ls id 0 n cap]
theorem loadS_drop {ns vs l : List Int} {i : Nat} (h : i < ns.length) (hv : i < vs.length) : loadS (ns.drop i) (vs.drop i) l = loadS (ns.drop (i + 1)) (vs.drop (i + 1)) (l.set (ns.getD i 0).toNat (vs.getD i 0)) := by
  rw [List.drop_eq_getElem_cons h, List.drop_eq_getElem_cons hv]
  simp only [loadS]
  rw [getD_eq h, getD_eq hv]
theorem load_in {Q : AX → St → Prop} (c : Cir) (p : Pat) (ns : List Int) (cap : Option Nat) (n : Nat) (hn : n ≤ 1000000000) (hns : ns.length ≤ n) (hin : ∀ x ∈ ns, 0 ≤ x ∧ x < n) (hp : p.inn.l.length = ns.length) (R : List Int)
    (h0 : Q (.exit 0) ⟨[(2, .lp 2 0 0), (3, .t (.ip (tP p) 0)), (10, .t (.sl (ints ns) (some ns.length) none)), (11, .t (tI ns.length)), (12, .t (tI ns.length)), (13, .t (tB false))], [(2, .bx (runA c 1000000 n cap)), (1000000, .sl 68 1 (vals R))]⟩) :
    ∀ (k i : Nat) (l : List Int), k + i = ns.length → l.length = n → loadS (ns.drop i) (p.inn.l.drop i) l = R →
    run Tryz.prog Γ sims_run_load_l1 Q ⟨[(2, .lp 2 0 0), (3, .t (.ip (tP p) 0)), (10, .t (.sl (ints ns) (some ns.length) none)), (11, .t (tI ns.length)), (12, .t (tI i))], [(2, .bx (runA c 1000000 n cap)), (1000000, .sl 68 1 (vals l))]⟩
  | 0, i, l, h, hl, hR => by
    refine sims_run_load_l1_run fun K hK => ?_
    have h2 : i = ns.length := by omega
    subst h2
    rw [List.drop_length] at hR
    simp only [loadS] at hR
    subst hR
    simp
    exact h0
  | k + 1, i, l, h, hl, hR => by
    refine sims_run_load_l1_run fun K hK => ?_
    have h2 : i < ns.length := by omega
    have h3 : i < p.inn.l.length := by omega
    rw [loadS_drop h2 h3] at hR
    have ih := load_in c p ns cap n hn hns hin hp R h0 k (i + 1) _ (by omega) (by simp [hl]) hR
    have e1 := ge1 (f := tI) h2
    have e2 := ge1 (f := tK) h3
    have hx := hin (ns.getD i 0) (by rw [getD_eq h2]; exact List.getElem_mem h2)
    have hs : ∀ (j : Nat) (v : Int), (vals l).set j [tK v] = vals (l.set j v) := fun j v => enc1_set
    generalize ns.getD i 0 = x at *
    generalize p.inn.l.getD i 0 = v at *
    have hx2 : x.toNat < n := by omega
    simp (disch := omega) [h2, h3, enc1_len, enc1_wid, e1, e2, wrap_i64, hx, hx2, hl, runA, tP, tV, hs, hp]
    rw [hK]
    simpa [runA, tP, tV] using ih
theorem load_st {Q : AX → St → Prop} (c : Cir) (p : Pat) (ns : List Int) (cap : Option Nat) (n : Nat) (hn : n ≤ 1000000000) (hns : ns.length ≤ n) (hin : ∀ x ∈ ns, 0 ≤ x ∧ x < n) (hp : p.st.l.length = ns.length) (R : List Int)
    (h0 : Q (.exit 2) ⟨[(2, .lp 2 0 0), (3, .t (.ip (tP p) 0)), (29, .t (.sl (ints ns) (some ns.length) none)), (30, .t (tI ns.length)), (31, .t (tI ns.length)), (32, .t (tB false))], [(2, .bx (runA c 1000000 n cap)), (1000000, .sl 68 1 (vals R))]⟩) :
    ∀ (k i : Nat) (l : List Int), k + i = ns.length → l.length = n → loadS (ns.drop i) (p.st.l.drop i) l = R →
    run Tryz.prog Γ sims_run_load_l3 Q ⟨[(2, .lp 2 0 0), (3, .t (.ip (tP p) 0)), (29, .t (.sl (ints ns) (some ns.length) none)), (30, .t (tI ns.length)), (31, .t (tI i))], [(2, .bx (runA c 1000000 n cap)), (1000000, .sl 68 1 (vals l))]⟩
  | 0, i, l, h, hl, hR => by
    refine sims_run_load_l3_run fun K hK => ?_
    have h2 : i = ns.length := by omega
    subst h2
    rw [List.drop_length] at hR
    simp only [loadS] at hR
    subst hR
    simp
    exact h0
  | k + 1, i, l, h, hl, hR => by
    refine sims_run_load_l3_run fun K hK => ?_
    have h2 : i < ns.length := by omega
    have h3 : i < p.st.l.length := by omega
    rw [loadS_drop h2 h3] at hR
    have ih := load_st c p ns cap n hn hns hin hp R h0 k (i + 1) _ (by omega) (by simp [hl]) hR
    have e1 := ge1 (f := tI) h2
    have e2 := ge1 (f := tK) h3
    have hx := hin (ns.getD i 0) (by rw [getD_eq h2]; exact List.getElem_mem h2)
    have hs : ∀ (j : Nat) (v : Int), (vals l).set j [tK v] = vals (l.set j v) := fun j v => enc1_set
    generalize ns.getD i 0 = x at *
    generalize p.st.l.getD i 0 = v at *
    have hx2 : x.toNat < n := by omega
    simp (disch := omega) [h2, h3, enc1_len, enc1_wid, e1, e2, wrap_i64, hx, hx2, hl, runA, tP, tV, hs, hp]
    rw [hK]
    simpa [runA, tP, tV] using ih
theorem load_h (c : Cir) (hc : COk c) (p : Pat) (cap : Option Nat) (l : List Int) (hl : l.length = c.nodes.l.length) (h1 : p.inn.l.length = (inputs c).length) (h2 : p.st.l.length = (states c).length) :
    HCalls Tryz.prog Γ 55 [(1000000, .sl 68 1 (vals l))] [.ag (runA c 1000000 c.nodes.l.length cap), .t (.agg (tP p))] (.t (.tup [])) [(1000000, .sl 68 1 (vals (loadS (states c) p.st.l (loadS (inputs c) p.inn.l l))))] := by
  refine run_handQ sims_run_load_chk rfl ?_
  have hn := hc.nodes
  have g1 := fun Q h0 => load_in (Γ := Γ) (Q := Q) c p (inputs c) cap c.nodes.l.length hn (inputs_len c) (fun x hx => ⟨(ofL_in x hx).1, (ofL_in x hx).2.1⟩) h1 _ h0 (inputs c).length 0 l (by omega) hl rfl
  have g2 := fun Q h0 => load_st (Γ := Γ) (Q := Q) c p (states c) cap c.nodes.l.length hn (states_len' c) (fun x hx => ⟨(ofL_in x hx).1, (ofL_in x hx).2.1⟩) h2 _ h0 (states c).length 0 (loadS (inputs c) p.inn.l l) (by omega) (by rw [loadS_len]; exact hl) rfl
  simp only [List.drop_zero] at g1 g2
  simp [sims_run_load_ic, runA, tP, tV, tNodes, tNames, tMems, tSl]
  refine callK_pure (inputs_spec c hc) rfl ?_
  simp [enc1_len]
  refine g1 _ ?_
  simp [runA, tNodes, tNames, tMems, tSl]
  refine callK_pure (states_spec c hc) rfl ?_
  simp [enc1_len]
  refine g2 _ ?_
  simp [sims_run_load_rv]
end Go.Lg
namespace Go.Lg
open Go Go.Proofs
variable {Γ : Tables}
@[simp] theorem wid_sing {s : Nat} {e : List T} : wid s [e] = (e.length = s) := propext ⟨fun h => h e List.mem_cons_self, fun h x hx => by simp at hx; subst hx; exact h⟩
def runT (c : Cir) (nets : Sl Int) : List T := [tNodes c.nodes, tNames c.names, tMems c.mems, tSl c.outs, tV nets]
def valueL (nets : List Int) (n : Int) : Int := if n < 0 ∨ (nets.length : Int) ≤ n then 2 else cleanV (nets.getD n.toNat 0)
theorem value_spec (c : Cir) (nets : Sl Int) (n : Int) (hl : nets.l.length ≤ 1000000000) : FreshCalls Tryz.prog Γ 122 [.agg (runT c nets), tI n] (tK (valueL nets.l n)) := by
  refine run_freshQ sims_run_value_chk rfl ?_
  generalize hR : valueL nets.l n = R
  unfold valueL at hR
  by_cases h1 : n < 0
  · rw [if_pos (.inl h1)] at hR
    subst hR
    simp [sims_run_value_ic, runT, tNodes, tNames, tMems, tSl, tV, h1, sims_run_value_rv, flatT]
  by_cases h2 : (nets.l.length : Int) ≤ n
  · rw [if_pos (.inr h2)] at hR
    subst hR
    simp [sims_run_value_ic, runT, tNodes, tNames, tMems, tSl, tV, h1, h2, enc1_len, sims_run_value_rv, flatT]
  rw [if_neg (by omega)] at hR
  have h3 : n.toNat < nets.l.length := by omega
  have e := ge1 (f := tK) h3
  generalize nets.l.getD n.toNat 0 = v at *
  have h4 : n < nets.l.length := by omega
  simp (disch := omega) [sims_run_value_ic, runT, tNodes, tNames, tMems, tSl, tV, h1, h2, h4, enc1_len, enc1_wid, e]
  refine ⟨by omega, callK_fresh (clean_spec v) rfl ?_⟩
  simp [sims_run_value_rv, flatT, hR]
def nextL (c : Cir) (nets : List Int) (n : Int) : Int := if (innAt c n.toNat).length = 1 then readV (valueL nets ((innAt c n.toNat).getD 0 0)) else 2
def outL (c : Cir) (nets : List Int) : List Int := c.outs.l.map (valueL nets)
def nextsL (c : Cir) (nets : List Int) : List Int := (states c).map (nextL c nets)
def obsB (o s : Nat) : List AV := [.ls 24 0 o none, .ls 55 0 s none]
def obsH (o s : List Int) : List (Nat × Reg) := [(2, .bx [.t (.sl [] (some 0) (some true)), .t (.sl [] (some 0) (some true))]), (3, .bx (obsB o.length s.length)), (24, .sl 68 1 (vals o)), (55, .sl 68 1 (vals s))]
theorem vals_snoc {l : List Int} {v : Int} : vals l ++ [[tK v]] = vals (l ++ [v]) := enc1_snoc
theorem vals_take {l : List Int} : (vals l).take l.length = vals l := enc1_take_len
theorem obs_outs {Q : AX → St → Prop} (c : Cir) (nets : Sl Int) (hl : nets.l.length ≤ 1000000000) (ho : c.outs.l.length ≤ 1000000000) (R : List Int)
    (h0 : Q (.exit 0) ⟨[(1, .t (.ip (runT c nets) 0)), (2, .lp 2 0 0), (3, .lp 3 0 0), (12, .t (tSl c.outs)), (13, .t (tI c.outs.l.length)), (14, .t (tI c.outs.l.length)), (15, .t (tB false))], obsH R []⟩) :
    ∀ (k i : Nat) (out : List Int), k + i = c.outs.l.length → out.length = i → out ++ (c.outs.l.drop i).map (valueL nets.l) = R →
    run Tryz.prog Γ sims_run_observe_l1 Q ⟨[(1, .t (.ip (runT c nets) 0)), (2, .lp 2 0 0), (3, .lp 3 0 0), (12, .t (tSl c.outs)), (13, .t (tI c.outs.l.length)), (14, .t (tI i))], obsH out []⟩
  | 0, i, out, h, hi, hR => by
    refine sims_run_observe_l1_run fun K hK => ?_
    have h2 : i = c.outs.l.length := by omega
    rw [List.drop_of_length_le (by omega), List.map_nil, List.append_nil] at hR
    subst hR
    simp [obsH, obsB, h2]
    simpa [obsH, obsB] using h0
  | k + 1, i, out, h, hi, hR => by
    refine sims_run_observe_l1_run fun K hK => ?_
    have h2 : i < c.outs.l.length := by omega
    rw [List.drop_eq_getElem_cons h2, List.map_cons] at hR
    have e := ge1 (f := tI) h2
    rw [getD_eq h2] at e
    generalize c.outs.l[i] = n at *
    have ih := obs_outs c nets hl ho R h0 k (i + 1) (out ++ [valueL nets.l n]) (by omega) (by simp [hi]) (by rw [← hR]; simp)
    have vs := vals_snoc (l := out) (v := valueL nets.l n)
    have vt : (vals out).take i = vals out := by rw [← hi]; exact vals_take
    have hv := value_spec (Γ := Γ) c nets n hl
    simp (disch := omega) [obsH, obsB, h2, tSl, enc1_len, enc1_wid, e, hi, wrap_i64, runT, tNodes, tNames, tMems, tV]
    refine callK_fresh hv rfl ?_
    simp (disch := omega) [vt, vs, enc1_len, enc1_wid, hi, wrap_i64]
    refine ⟨by omega, ?_⟩
    rw [hK]
    simpa [obsH, obsB, hi, runT, tNodes, tNames, tMems, tSl, tV] using ih
theorem obs_nexts {Q : AX → St → Prop} (c : Cir) (hc : COk c) (nets : Sl Int) (hl : nets.l.length ≤ 1000000000) (ns : List Int) (hns : ns.length ≤ 1000000000) (hin : ∀ n ∈ ns, 0 ≤ n ∧ n < c.nodes.l.length) (o R : List Int)
    (h0 : Q (.exit 2) ⟨[(1, .t (.ip (runT c nets) 0)), (2, .lp 2 0 0), (3, .lp 3 0 0), (29, .t (.sl (ints ns) (some ns.length) none)), (30, .t (tI ns.length)), (31, .t (tI ns.length)), (32, .t (tB false))], obsH o R⟩) :
    ∀ (k i : Nat) (out : List Int), k + i = ns.length → out.length = i → out ++ (ns.drop i).map (nextL c nets.l) = R →
    run Tryz.prog Γ sims_run_observe_l3 Q ⟨[(1, .t (.ip (runT c nets) 0)), (2, .lp 2 0 0), (3, .lp 3 0 0), (29, .t (.sl (ints ns) (some ns.length) none)), (30, .t (tI ns.length)), (31, .t (tI i))], obsH o out⟩
  | 0, i, out, h, hi, hR => by
    refine sims_run_observe_l3_run fun K hK => ?_
    have h2 : i = ns.length := by omega
    rw [List.drop_of_length_le (by omega), List.map_nil, List.append_nil] at hR
    subst hR
    simp [obsH, obsB, h2]
    simpa [obsH, obsB] using h0
  | k + 1, i, out, h, hi, hR => by
    refine sims_run_observe_l3_run fun K hK => ?_
    have h2 : i < ns.length := by omega
    rw [List.drop_eq_getElem_cons h2, List.map_cons] at hR
    have e := ge1 (f := tI) h2
    have hn := hin ns[i] (List.getElem_mem h2)
    rw [getD_eq h2] at e
    generalize ns[i] = n at *
    have ih := obs_nexts c hc nets hl ns hns hin o R h0 k (i + 1) (out ++ [nextL c nets.l n]) (by omega) (by simp [hi]) (by rw [← hR]; simp)
    have vs := vals_snoc (l := out) (v := nextL c nets.l n)
    have vt : (vals out).take i = vals out := by rw [← hi]; exact vals_take
    have hnn : n.toNat < c.nodes.l.length := by omega
    have hget : (encN tNd c.nodes.l)[n.toNat]?.getD [] = tNd (c.nodes.l.getD n.toNat Nd.d) := by
      rw [encN_get Nd.d hnn]; simp [List.getD_eq_getElem?_getD]
    have hxi := hc.inn _ (List.getElem_mem hnn)
    have hgd : c.nodes.l.getD n.toNat Nd.d = c.nodes.l[n.toNat] := by simp [List.getD_eq_getElem?_getD, hnn]
    have hia : innAt c n.toNat = (c.nodes.l.getD n.toNat Nd.d).inn.l := rfl
    have hnl : nextL c nets.l n = if (innAt c n.toNat).length = 1 then readV (valueL nets.l ((innAt c n.toNat).getD 0 0)) else 2 := rfl
    rw [← hgd] at hxi
    rw [hia] at hnl
    generalize c.nodes.l.getD n.toNat Nd.d = x at *
    generalize nextL c nets.l n = v at *
    obtain ⟨h3, h4⟩ := hn
    by_cases h1 : x.inn.l.length = 1
    · rw [if_pos h1] at hnl
      have h10 : 0 < x.inn.l.length := by omega
      have e0 := ge1 (f := tI) h10
      have hv := value_spec (Γ := Γ) c nets (x.inn.l.getD 0 0) hl
      generalize x.inn.l.getD 0 0 = m at *
      simp (disch := omega) [obsH, obsB, h2, tSl, enc1_len, enc1_wid, e, hi, wrap_i64, runT, tNodes, tNames, tMems, tV, h3, h4, encN_len, tNd_wid, hget, tNd, h1, e0, h10]
      refine callK_fresh hv rfl ?_
      simp
      refine callK_fresh (read_spec _) rfl ?_
      rw [← hnl]
      simp (disch := omega) [vt, vs, enc1_len, enc1_wid, hi, wrap_i64]
      refine ⟨by omega, ?_⟩
      rw [hK]
      simpa [obsH, obsB, hi, runT, tNodes, tNames, tMems, tSl, tV] using ih
    · rw [if_neg h1] at hnl
      subst hnl
      have h1i : ¬ (x.inn.l.length : Int) = 1 := by omega
      simp (disch := omega) [obsH, obsB, h2, tSl, enc1_len, enc1_wid, e, hi, wrap_i64, runT, tNodes, tNames, tMems, tV, h3, h4, encN_len, tNd_wid, hget, tNd, h1, h1i, Later, vt, vs]
      refine ⟨by omega, ?_⟩
      rw [hK]
      simpa [obsH, obsB, hi, runT, tNodes, tNames, tMems, tSl, tV] using ih
theorem clip_val_r (ty : Nat) (es : List (List T)) (cap : Option Nat) (hw : wid 1 es) : HCalls Tryz.prog Γ 74 [(1000000, .sl ty 1 es)] [.ls 1000000 0 es.length cap] (.ls 1000000 0 es.length (some es.length)) [(1000000, .sl ty 1 es)] := by
  refine run_handQ slices_Clip_api_Value_chk rfl ?_
  simp [slices_Clip_api_Value_ic, slices_Clip_api_Value_rv, retH, hw]
def tVs (l : List Int) : T := .sl (vals l) (some l.length) none
theorem observe_spec (c : Cir) (hc : COk c) (nets : Sl Int) (hl : nets.l.length ≤ 1000000000) : FreshCalls Tryz.prog Γ 58 [.agg (runT c nets)] (.agg [tVs (outL c nets.l), tVs (nextsL c nets.l)]) := by
  refine run_freshQ sims_run_observe_chk rfl ?_
  have hn := hc.nodes
  have ho := hc.outs
  have hs := states_len' c
  have g1 := fun Q h0 => obs_outs (Γ := Γ) (Q := Q) c nets hl ho (outL c nets.l) h0 c.outs.l.length 0 [] (by omega) rfl (by simp [outL])
  have g2 := fun Q h0 => obs_nexts (Γ := Γ) (Q := Q) c hc nets hl (states c) (by omega) (fun x hx => ⟨(ofL_in x hx).1, (ofL_in x hx).2.1⟩) (outL c nets.l) (nextsL c nets.l) h0 (states c).length 0 [] (by omega) rfl (by simp [nextsL])
  have l1 : (outL c nets.l).length = c.outs.l.length := by simp [outL]
  have l2 : (nextsL c nets.l).length = (states c).length := by simp [nextsL]
  have t1 := vals_take (l := outL c nets.l)
  have t2 := vals_take (l := nextsL c nets.l)
  generalize outL c nets.l = O at *
  generalize nextsL c nets.l = S at *
  simp [sims_run_observe_ic, runT, tNodes, tNames, tMems, tSl, tV, enc1_len]
  refine g1 _ ?_
  simp [obsH, obsB, runT, tNodes, tNames, tMems, tSl, tV]
  refine callK_pure (states_spec c hc) rfl ?_
  simp [enc1_len]
  refine g2 _ ?_
  have hc1 := clip_val_r (Γ := Γ) 68 (vals O) none enc1_wid
  have hc2 := clip_val_r (Γ := Γ) 68 (vals S) none enc1_wid
  simp only [enc1_len] at hc1 hc2
  simp [obsH, obsB]
  refine ⟨_, hc1, ?_⟩
  simp
  refine ⟨_, hc2, ?_⟩
  simp [sims_run_observe_rv, tVs, enc1_len, flatT, reify, t1, t2]
end Go.Lg
namespace Go.Lg
open Go Go.Proofs
variable {Γ : Tables}
def nd (c : Cir) (n : Int) : Nd := c.nodes.l.getD n.toNat Nd.d
theorem nd_get {c : Cir} {n : Int} (h0 : 0 ≤ n) (h : n < c.nodes.l.length) : (encN tNd c.nodes.l)[n.toNat]?.getD [] = tNd (nd c n) := by
  rw [encN_get Nd.d (by omega)]; simp [nd, List.getD_eq_getElem?_getD]
theorem nd_mem {c : Cir} {n : Int} (h0 : 0 ≤ n) (h : n < c.nodes.l.length) : nd c n ∈ c.nodes.l := by
  have hi : n.toNat < c.nodes.l.length := by omega
  have : nd c n = c.nodes.l[n.toNat] := by simp [nd, List.getD_eq_getElem?_getD, hi]
  rw [this]; exact List.getElem_mem hi
def nilV : AV := .t (.sl [] (some 0) (some true))
def runH (c : Cir) (n : Nat) (nets inb : List Int) : List (Nat × Reg) := [(4, .bx [nilV, nilV]), (9, .bx (runA c 34 n (some n))), (34, .sl 68 1 (vals nets)), (39, .sl 68 1 (vals inb))]
def runH' (c : Cir) (n : Nat) (x : Nd) (nets inb : List Int) : List (Nat × Reg) := [(4, .bx [nilV, nilV]), (9, .bx (runA c 34 n (some n))), (13, .bx ((tNd x).map .t)), (34, .sl 68 1 (vals nets)), (39, .sl 68 1 (vals inb))]
theorem rn_inner {Q : AX → St → Prop} (c : Cir) (n : Nat) (hn : n ≤ 1000000000) (x : Nd) (hx : x.inn.l.length ≤ 1000000) (hin : ∀ k ∈ x.inn.l, 0 ≤ k ∧ k < n) (nets : List Int) (hl : nets.length = n) (nn : Int) (t40 t41 t42 : T) (R : List Int)
    (h0 : ∀ X : List Int, X.take x.inn.l.length = R → R.length = x.inn.l.length → Q (.exit 2) ⟨[(4, .lp 4 0 0), (9, .lp 9 0 0), (10, .ls 39 0 x.inn.l.length none), (12, .t (tI nn)), (13, .lp 13 0 0), (40, .t t40), (41, .t t41), (42, .t t42), (59, .t (tSl x.inn)), (60, .t (tI x.inn.l.length)), (61, .t (tI x.inn.l.length)), (62, .t (tB false))], runH' c n x nets X⟩) :
    ∀ (k i : Nat) (X : List Int), k + i = x.inn.l.length → i ≤ X.length → X.take i ++ (x.inn.l.drop i).map (fun k => nets.getD k.toNat 0) = R →
    run Tryz.prog Γ sims_Run_l1 Q ⟨[(4, .lp 4 0 0), (9, .lp 9 0 0), (10, .ls 39 0 i none), (12, .t (tI nn)), (13, .lp 13 0 0), (40, .t t40), (41, .t t41), (42, .t t42), (59, .t (tSl x.inn)), (60, .t (tI x.inn.l.length)), (61, .t (tI i))], runH' c n x nets X⟩
  | 0, i, X, h, hi, hR => by
    refine sims_Run_l1_run fun K hK => ?_
    have h2 : i = x.inn.l.length := by omega
    subst h2
    rw [List.drop_length, List.map_nil, List.append_nil] at hR
    have := h0 X hR (by rw [← hR, List.length_take]; omega)
    simp [runH', runA, tNd, nilV, tNodes, tNames, tMems, tSl]
    simpa [runH', runA, tNd, nilV, tNodes, tNames, tMems, tSl] using this
  | k + 1, i, X, h, hi, hR => by
    refine sims_Run_l1_run fun K hK => ?_
    have h2 : i < x.inn.l.length := by omega
    rw [List.drop_eq_getElem_cons h2, List.map_cons] at hR
    have e := ge1 (f := tI) h2
    have hq := hin _ (List.getElem_mem h2)
    rw [getD_eq h2] at e
    generalize x.inn.l[i] = q at *
    have hq2 : q.toNat < nets.length := by omega
    have e2 := ge1 (f := tK) hq2
    have hti : (X.take i).length = i := by rw [List.length_take]; omega
    generalize nets.getD q.toNat 0 = v at *
    have ih := rn_inner c n hn x hx hin nets hl nn t40 t41 t42 R h0 k (i + 1) (X.take i ++ [v]) (by omega) (by simp [hti]) (by rw [List.take_of_length_le (by simp [hti]), ← hR]; simp)
    have vs : vals (X.take i) ++ [[tK v]] = vals (X.take i ++ [v]) := vals_snoc
    have vt : (vals X).take i = vals (X.take i) := enc1_take
    have hxl : (vals (X.take i)).length = i := by rw [enc1_len]; exact hti
    simp (disch := omega) [runH', runA, tNd, nilV, tNodes, tNames, tMems, tSl, h2, enc1_len, enc1_wid, e, e2, hq, hl, wrap_i64, vt, vs, hti, hxl]
    refine ⟨by omega, ?_⟩
    rw [hK]
    simpa [runH', runA, tNd, nilV, tNodes, tNames, tMems, tSl] using ih
structure ROk (c : Cir) : Prop where
  ok : COk c
  inn : ∀ x ∈ c.nodes.l, x.inn.l.length ≤ 16 ∧ ∀ k ∈ x.inn.l, 0 ≤ k ∧ k < c.nodes.l.length
theorem stepR_4 {c : Cir} {nets : List Int} {n : Int} (h : ∀ v ∈ nets, V4 v) : ∀ v ∈ stepR c nets n, V4 v := by
  intro v hv
  unfold stepR at hv
  split at hv
  · rcases List.mem_or_eq_of_mem_set hv with hv | rfl
    · exact h v hv
    · refine evalL_4 fun u hu => ?_
      obtain ⟨q, _, rfl⟩ := List.mem_map.1 hu
      exact getD_4 h _
  · exact h v hv
theorem run_out {Q : AX → St → Prop} (hΓ : GOk Γ) (c : Cir) (H : ROk c) (ord : List Int) (ho : ord.length ≤ 1000000000) (hin : ∀ n ∈ ord, 0 ≤ n ∧ n < c.nodes.l.length) (R : List Int)
    (h0 : ∀ (m : Nat) (inb : List Int), Q (.exit 0) ⟨[(4, .lp 4 0 0), (9, .lp 9 0 0), (10, .ls 39 0 m none), (40, .t (.sl (ints ord) none none)), (41, .t (tI ord.length)), (42, .t (tI ord.length)), (43, .t (tB false))], runH c c.nodes.l.length R inb⟩) :
    ∀ (k i : Nat) (nets : List Int) (m : Nat) (inb : List Int), k + i = ord.length → nets.length = c.nodes.l.length → (∀ v ∈ nets, V4 v) → runL c (ord.drop i) nets = R →
    run Tryz.prog Γ sims_Run_l3 Q ⟨[(4, .lp 4 0 0), (9, .lp 9 0 0), (10, .ls 39 0 m none), (40, .t (.sl (ints ord) none none)), (41, .t (tI ord.length)), (42, .t (tI i))], runH c c.nodes.l.length nets inb⟩
  | 0, i, nets, m, inb, h, hl, hv, hR => by
    refine sims_Run_l3_run fun K hK => ?_
    have h2 : i = ord.length := by omega
    subst h2
    rw [List.drop_length] at hR
    have hR' : nets = R := hR
    subst hR'
    have := h0 m inb
    simp [runH, runA, nilV, tNodes, tNames, tMems, tSl]
    simpa [runH, runA, nilV, tNodes, tNames, tMems, tSl] using this
  | k + 1, i, nets, m, inb, h, hl, hv, hR => by
    refine sims_Run_l3_run fun K hK => ?_
    have h2 : i < ord.length := by omega
    rw [List.drop_eq_getElem_cons h2] at hR
    have hR : runL c (ord.drop (i + 1)) (stepR c nets ord[i]) = R := hR
    have e := ge1 (f := tI) h2
    have hn := hin _ (List.getElem_mem h2)
    rw [getD_eq h2] at e
    generalize ord[i] = n at *
    have ih := fun m inb => run_out hΓ c H ord ho hin R h0 k (i + 1) (stepR c nets n) m inb (by omega) (by rw [stepR_len]; exact hl) (stepR_4 hv) hR
    have hcn := H.ok.nodes
    have hget := nd_get hn.1 hn.2
    have hmem := nd_mem hn.1 hn.2
    have hk : (nd c n).k = kindAt c n.toNat := rfl
    have hxi := H.inn _ hmem
    have hkk := H.ok.kind _ hmem
    have hinv : inVals c nets n.toNat = (nd c n).inn.l.map fun k => nets.getD k.toNat 0 := rfl
    have hlR : (inVals c nets n.toNat).length = (nd c n).inn.l.length := by rw [hinv]; simp
    have hvR : ∀ v ∈ inVals c nets n.toNat, V4 v := fun v hv' => by
      rw [hinv] at hv'
      obtain ⟨q, hq, rfl⟩ := List.mem_map.1 hv'
      exact getD_4 hv _
    have hev := fun cap nl => eval_spec hΓ (nd c n).k hkk (inVals c nets n.toNat) cap nl (by rw [hlR]; omega) hvR
    have hcb := comb_spec (Γ := Γ) (nd c n).k
    have hst : stepR c nets n = if combB (nd c n).k then nets.set n.toNat (evalL (nd c n).k (inVals c nets n.toNat)) else nets := by rw [hk]; rfl
    have hlp := fun Q h0 => rn_inner (Γ := Γ) (Q := Q) c c.nodes.l.length hcn (nd c n) (by omega) hxi.2 nets hl n (.sl (ints ord) none none) (tI ord.length) (tI i) (inVals c nets n.toNat) h0 (nd c n).inn.l.length 0 inb (by omega) (by omega) (by rw [hinv]; simp)
    have hcd : decide (1 ≤ (nd c n).k ∧ (nd c n).k ≤ 13) = combB (nd c n).k := rfl
    rw [hcd] at hcb
    rw [hst] at ih
    generalize inVals c nets n.toNat = RV at *
    generalize nd c n = x at *
    obtain ⟨hn0, hn1⟩ := hn
    have hn2 : n.toNat < c.nodes.l.length := by omega
    have hn3 : n.toNat < nets.length := by omega
    simp (disch := omega) [runH, runA, nilV, tNodes, tNames, tMems, tSl, h2, enc1_len, enc1_wid, e, hn0, hn1, encN_len, tNd_wid, hget, tNd]
    refine callK_fresh hcb rfl ?_
    by_cases hc : combB x.k = true
    · rw [if_pos hc] at ih
      simp [hc, enc1_len]
      simp only [runH', runA, tNd, nilV, tNodes, tNames, tMems, tSl, List.map_cons, List.map_nil] at hlp
      refine hlp _ fun X hX hXl => ?_
      have hXR : (vals X).take x.inn.l.length = vals RV := by rw [enc1_take, hX]
      simp (disch := omega)
      refine callK_fresh (hev none none) (by simp [reify, hXR]) ?_
      have hs : (vals nets).set n.toNat [tK (evalL x.k RV)] = vals (nets.set n.toNat (evalL x.k RV)) := enc1_set
      generalize evalL x.k RV = v at *
      simp (disch := omega) [hn0, hn1, hn2, hn3, enc1_len, hl, hs, wrap_i64]
      rw [hK]
      simpa [runH, runA, nilV, tNodes, tNames, tMems, tSl] using ih _ X
    · rw [if_neg hc] at ih
      simp only [Bool.not_eq_true] at hc
      simp only [hc]
      simp (disch := omega) [wrap_i64]
      rw [hK]
      simpa [runH, runA, nilV, tNodes, tNames, tMems, tSl] using ih m inb
def runErr (c : Cir) (p : Pat) : Int := if levErr c ≠ 0 then levErr c else fitsErr c p
theorem ROk_of {c : Cir} (hc : COk c) (h : levErr c = 0) : ROk c := by
  have hs := (levErr_zero h).1
  exact ⟨hc, fun x hx => ⟨(shape_facts hs).2.1 x hx, shape_in hs x hx⟩⟩
theorem loadS_4 : ∀ {ns vs nets : List Int}, (∀ v ∈ vs, V4 v) → (∀ v ∈ nets, V4 v) → ∀ v ∈ loadS ns vs nets, V4 v
  | [], vs, nets, _, h => by cases vs <;> exact h
  | _ :: _, [], nets, _, h => h
  | n :: ns, v :: vs, nets, hv, h => by
    simp only [loadS]
    refine loadS_4 (fun u hu => hv u (List.mem_cons_of_mem _ hu)) fun u hu => ?_
    rcases List.mem_or_eq_of_mem_set hu with hu | rfl
    · exact h u hu
    · exact hv _ List.mem_cons_self
def runRes (c : Cir) (p : Pat) : T := if runErr c p = 0 then .tup [.agg [tVs (outL c (netsL c p.inn.l p.st.l)), tVs (nextsL c (netsL c p.inn.l p.st.l))], .sl (vals (netsL c p.inn.l p.st.l)) (some c.nodes.l.length) none, tI 0] else .tup [.agg [.sl [] (some 0) (some true), .sl [] (some 0) (some true)], .sl [] (some 0) (some true), tI (runErr c p)]
theorem Run_spec (hΓ : GOk Γ) (c : Cir) (hc : COk c) (hn : c.nodes.l.length ≤ 19) (p : Pat) (hp : p.inn.l.length ≤ 1000000000 ∧ p.st.l.length ≤ 1000000000) (hv : (∀ v ∈ p.inn.l, 0 ≤ v) ∧ ∀ v ∈ p.st.l, 0 ≤ v) :
    PureCalls Tryz.prog Γ 15 [.agg (tC c), .agg (tP p)] (runRes c p) := by
  refine run_pureQ sims_Run_chk rfl ?_
  generalize hR : runRes c p = RR
  unfold runRes at hR
  simp [sims_Run_ic, tC, tNodes, tNames, tMems, tSl, tP, tV]
  refine callK_fresh (order_spec hΓ c hc hn) rfl ?_
  by_cases h1 : levErr c = 0
  case neg =>
    have he : runErr c p = levErr c := by unfold runErr; rw [if_pos h1]
    rw [he, if_neg h1] at hR
    subst hR
    simp [h1, sims_Run_rv, reify, flatT]
  have he : runErr c p = fitsErr c p := by unfold runErr; rw [if_neg (by simp [h1])]
  rw [he] at hR
  simp [h1]
  refine callK_fresh (fits_spec c hc p hp) rfl ?_
  by_cases h2 : fitsErr c p = 0
  case neg =>
    rw [if_neg h2] at hR
    subst hR
    simp [h2, sims_Run_rv, reify, flatT]
  rw [if_pos h2] at hR
  obtain ⟨l1, l2, v1, v2⟩ : p.inn.l.length = (inputs c).length ∧ p.st.l.length = (states c).length ∧ (∀ v ∈ p.inn.l, V4 v) ∧ ∀ v ∈ p.st.l, V4 v := by
    unfold fitsErr at h2
    split at h2
    · cases h2
    split at h2
    · cases h2
    split at h2
    · cases h2
    rename_i a b d
    refine ⟨by omega, by omega, fun v hvm => ⟨hv.1 v hvm, ?_⟩, fun v hvm => ⟨hv.2 v hvm, ?_⟩⟩
    · have : ¬ p.inn.l.any aboveV = true := fun h => d (.inl h)
      rw [List.any_eq_true] at this
      have h3 : ¬ aboveV v = true := fun h => this ⟨v, hvm, h⟩
      simp [aboveV] at h3; omega
    · have : ¬ p.st.l.any aboveV = true := fun h => d (.inr h)
      rw [List.any_eq_true] at this
      have h3 : ¬ aboveV v = true := fun h => this ⟨v, hvm, h⟩
      simp [aboveV] at h3; omega
  have H := ROk_of hc h1
  have hzl : (List.replicate c.nodes.l.length (0 : Int)).length = c.nodes.l.length := by simp
  have hload := load_h (Γ := Γ) c hc p (some c.nodes.l.length) (List.replicate c.nodes.l.length 0) hzl l1 l2
  have hz : List.replicate c.nodes.l.length [T.v (Value.int .u8 0)] = vals (List.replicate c.nodes.l.length 0) := by simp [enc1]
  have hL : loadS (states c) p.st.l (loadS (inputs c) p.inn.l (List.replicate c.nodes.l.length 0)) = loadL c p.inn.l p.st.l := rfl
  rw [hL] at hload
  have hol : (orderC c).length = c.nodes.l.length := by rw [(orderC_ok c).1.length_eq, rng_len]
  have ho := fun Q h0 => run_out (Γ := Γ) (Q := Q) hΓ c H (orderC c) (by omega) (fun n hn => by rw [(orderC_ok c).1.mem_iff, mem_rng] at hn; exact hn) (netsL c p.inn.l p.st.l) h0 (orderC c).length 0 (loadL c p.inn.l p.st.l) 0 [] (by omega) loadL_len (loadS_4 v2 (loadS_4 v1 (fun v hv => by rw [(List.mem_replicate.1 hv).2]; simp [V4]))) rfl
  have hnl : (netsL c p.inn.l p.st.l).length = c.nodes.l.length := by unfold netsL; rw [runL_len, loadL_len]
  have hll : (loadL c p.inn.l p.st.l).length = c.nodes.l.length := loadL_len
  have hobs := observe_spec (Γ := Γ) c hc ⟨netsL c p.inn.l p.st.l, some c.nodes.l.length, none⟩ (by simp only [hnl]; omega)
  have htk : (vals (netsL c p.inn.l p.st.l)).take c.nodes.l.length = vals (netsL c p.inn.l p.st.l) := by rw [← hnl]; exact vals_take
  simp only at hobs
  generalize netsL c p.inn.l p.st.l = NL at *
  generalize loadL c p.inn.l p.st.l = LL at *
  simp [h2, encN_len]
  refine ⟨by omega, ?_⟩
  rw [hz]
  refine ⟨_, _, hload, ?_⟩
  simp [enc1_len, hll, hol]
  simp only [hol] at ho
  refine ho _ fun m inb => ?_
  simp [runH, runA, nilV, tNodes, tNames, tMems, tSl]
  refine callK_fresh hobs (by simp [reify, htk, runT, tNodes, tNames, tMems, tSl, tV]) ?_
  subst hR
  simp [sims_Run_rv, reify, htk, tVs]
end Go.Lg
namespace Go.Lg
open Go Go.Proofs
variable {Γ : Tables}
def v1 (v : Int) : Sl Int := ⟨[v], none, none⟩
end Go.Lg
namespace Go.Lg
open Go Go.Proofs Go.Proofs.YtgnomdkcimglbaaGreatDoor
theorem rdBytes : Rd Tryz.prog 25 fun ts => ∃ s : Sl Int, ts = [tV s] ∧ ∀ b ∈ s.l, Byt b := by
  refine (rd_slice Tryz.underlying25 cells5 (by decide) rdU8).mono fun ts ⟨es, cap, nl, h, _, hes⟩ => ?_
  obtain ⟨l, rfl, hl⟩ := list_of (f := fun n : Int => [tK n]) (Q := Byt) fun x hx => (hes x hx).1
  exact ⟨⟨l, cap, nl⟩, h, hl⟩
end Go.Lg
namespace Go.Proofs.YtgnomdkcimglbaaGreatDoor
open Go Go.Lg Go.ChangeShapes Go.WideShapes Go.ChangeAt Go.RowKit
end Go.Proofs.YtgnomdkcimglbaaGreatDoor
namespace Go.Proofs.YtgnomdkcimglbaaGreatDoor
open Go Go.Lg Go.ChangeShapes Go.WideShapes Go.ChangeAt Go.RowKit
theorem laidMet_tail {P : Program} {x : String × DataW Unit} {l : List (String × DataW Unit)} {w : World} (h : laidMet P (x :: l) w) : laidMet P l w := by
  obtain ⟨ps, hv, hn, hm⟩ := h
  obtain ⟨n, d⟩ := x
  obtain ⟨g, t, cs, fuel, p, q, h1, h2, h3, h4, h5, rfl⟩ := hv
  exact ⟨q, h5, (List.nodup_append.1 hn).2.1, fun b off hq => hm b off (List.mem_append_right _ hq)⟩
theorem gl_of4 {W : World} (h : laidMetH Tryz.prog [("math/bits.deBruijn32tab", Rows.laid_math_bits_deBruijn32tab), ("math/bits.deBruijn64tab", Rows.laid_math_bits_deBruijn64tab), ("internal/strconv.uint64pow10", Rows.laid_internal_strconv_uint64pow10), ("probecard/logic.fanins", Rows.laid_probecard_logic_fanins)] W) : Gl G0 W (Old W) := by
  rw [MakeChecks.laidMetH_plain _ _ _ (by kernel_rfl)] at h
  exact fan_gl (laidMet_tail (laidMet_tail (laidMet_tail h)))
noncomputable def laidWorld4 (os : Os) : World :=
  { laidWorld os with heap := (((laidWorld os).heap.modify 2 fun
      | .cells _ t frozen => .cells ([.int .u64 1, .int .u64 10, .int .u64 100, .int .u64 1000, .int .u64 10000, .int .u64 100000, .int .u64 1000000, .int .u64 10000000, .int .u64 100000000, .int .u64 1000000000, .int .u64 10000000000, .int .u64 100000000000, .int .u64 1000000000000, .int .u64 10000000000000, .int .u64 100000000000000, .int .u64 1000000000000000, .int .u64 10000000000000000, .int .u64 100000000000000000, .int .u64 1000000000000000000, .int .u64 10000000000000000000] : List Value).toArray t frozen
      | o => o).modify 3 fun
      | .cells _ t frozen => .cells ([.int .u8 0, .int .u8 1, .int .u8 28, .int .u8 2, .int .u8 29, .int .u8 14, .int .u8 24, .int .u8 3, .int .u8 30, .int .u8 22, .int .u8 20, .int .u8 15, .int .u8 25, .int .u8 17, .int .u8 4, .int .u8 8, .int .u8 31, .int .u8 27, .int .u8 13, .int .u8 23, .int .u8 21, .int .u8 19, .int .u8 16, .int .u8 7, .int .u8 26, .int .u8 12, .int .u8 18, .int .u8 6, .int .u8 11, .int .u8 5, .int .u8 10, .int .u8 9] : List Value).toArray t frozen
      | o => o).modify 4 fun
      | .cells _ t frozen => .cells ([.int .u8 0, .int .u8 1, .int .u8 56, .int .u8 2, .int .u8 57, .int .u8 49, .int .u8 28, .int .u8 3, .int .u8 61, .int .u8 58, .int .u8 42, .int .u8 50, .int .u8 38, .int .u8 29, .int .u8 17, .int .u8 4, .int .u8 62, .int .u8 47, .int .u8 59, .int .u8 36, .int .u8 45, .int .u8 43, .int .u8 51, .int .u8 22, .int .u8 53, .int .u8 39, .int .u8 33, .int .u8 30, .int .u8 24, .int .u8 18, .int .u8 12, .int .u8 5, .int .u8 63, .int .u8 55, .int .u8 48, .int .u8 27, .int .u8 60, .int .u8 41, .int .u8 37, .int .u8 16, .int .u8 46, .int .u8 35, .int .u8 44, .int .u8 21, .int .u8 52, .int .u8 32, .int .u8 23, .int .u8 11, .int .u8 54, .int .u8 26, .int .u8 40, .int .u8 15, .int .u8 34, .int .u8 20, .int .u8 31, .int .u8 10, .int .u8 25, .int .u8 14, .int .u8 19, .int .u8 9, .int .u8 13, .int .u8 8, .int .u8 7, .int .u8 6] : List Value).toArray t frozen
      | o => o }
end Go.Proofs.YtgnomdkcimglbaaGreatDoor
namespace Go.Lg
open Go Go.Proofs Go.Proofs.YtgnomdkcimglbaaGreatDoor
theorem tr_nil {w : World} {X : Nat → Prop} {es : List (List T)} {cap : Option Nat} {v : Value} (h : TR w X (.sl es cap (some true)) v) : es = [] := by
  cases h with
  | nil => rfl
  | sl => rename_i hn; exact absurd (hn true rfl) (by decide)
theorem tr_chs {w : World} {X : Nat → Prop} {s : Sl (Sl Int)} {v : Value} (h : TR w X (tChs s) v) : ∀ x ∈ s.l, x.nl = some true → x.l = [] := by
  intro x hx hn
  obtain ⟨i, hi, rfl⟩ := List.getElem_of_mem hx
  have hi' : i < (enc1 tSl s.l).length := by rw [enc1_len]; exact hi
  have e : (enc1 tSl s.l)[i]? = some [tSl s.l[i]] := by simp [enc1, hi]
  unfold tChs at h
  generalize enc1 tSl s.l = es at *
  cases h with
  | nil => simp at e
  | sl _ _ _ s' b off c f hcell hlen hrel hone hx' hle hc hq =>
    have := hrel i 0 _ _ e rfl
    unfold tSl at this
    rw [hn] at this
    have := tr_nil this
    simpa [enc1] using this
end Go.Lg
namespace Go.Proofs.YtgnomdkcimglbaaGreatDoor
open Go Go.Lg Go.ChangeShapes Go.WideShapes Go.ChangeAt Go.RowKit
theorem open_chn {H : Type} {enc : TypeId × Value → H} {W : World} {base : Nat} {v : Value} {d : DataW H} {p : List MemPlace} (hval : Value.okWide Tryz.prog W .any base 56 v) (h : DataW.Trod enc Tryz.prog W 0 (fun _ => true) true 56 v d p) : ∃ s : Sl (Sl Int), (∀ x ∈ s.l, x.nl = some true → x.l = []) ∧ TR W (Old W) (tChs s) v := by
  obtain ⟨s, hs⟩ := open_chs hval h
  exact ⟨s, tr_chs hs, hs⟩
end Go.Proofs.YtgnomdkcimglbaaGreatDoor
namespace Go.Lg
open Go
section
variable {P : Program} {Γ : Tables} {Q : AX → St → Prop} {s : St}
/- probecard/shifts.Play (function 36) -/
abbrev shifts_Play_g0 : IC := .gh (.seq (.reg [od 41 (.bin .lss (tm 40) (tm 39))] [kp [1, 3, 13, 38, 39, 40, 41] [59]]) (.seq (.cond (tm 41) .skip (.exit 0)) (.seq (.block 1 (.seq (.reg [od 42 (ia 1 38 40), od 43 (ld 1 42), om 15 43] [kp [1, 3, 13, 15, 38, 39,
 40] [59]]) (.seq (.reg [od 45 (lG 4 3), om 46 15, om 47 1, od 48 (.build [(1, (tm 46)), (1, (tm 47))]), od 49 (.call 15 [(tm 45), (tm 48)]), om 44 49, od 50 (ex 44 0), od 51 (ex 44 1), od 52 (ex 44 2), od 16 (.alloc false [(.slice
 none 0 0), (.slice none 0 0)]), on (.store 2 (tm 16) (tm 50)), om 17 51, om 18 52] [kp [3, 13, 16, 18, 38, 39, 40] [16, 59]]) (.seq (.seq (.reg [om 53 18, od 54 (.bin .neq (tm 53) (ki 0))] [kp [3, 13, 16, 18, 38, 39, 40, 54] [16,
 59]]) (.cond (tm 54) (.seq (.reg [om 55 18, od 6 (.mv kN), od 7 (.mv kN), om 8 55] [kp [6, 7, 8] []]) .ret) .skip)) (.seq (.reg [om 56 13, od 57 (lG 2 16), od 58 (.bsl true 42 2 [(tm 57)]), od 59 (.app false 42 2 (tm 56) (tm 58)),
 om 13 59] [kp [3, 13, 16, 38, 39, 40] [16, 59]]) (.reg [od 60 (fa 1 16), od 61 (ld 1 60), od 62 (.call 93 [(tm 61)]), om 1 62] [kp [1, 3, 13, 38, 39, 40] [59]])))))) (.reg [od 63 (.bin .add (tm 40) (ki 1)), om 40 63] [kp [1, 3, 13,
 38, 39, 40] [59]])))) [kp [1, 3, 13, 38, 39, 40] [59]]
def shifts_Play_l1 : IC := .loop shifts_Play_g0
abbrev shifts_Play_ic : IC := (.seq (.reg [od 3 (.box true (tm 0)), od 6 (.mv kN), od 7 (.mv kN), od 8 (.mv (ki 0))] [kp [1, 2, 3] []]) (.seq (.reg [om 19 1, od 20 (.call 93 [(tm 19)]), om 1 20] [kp [1, 2, 3] []]) (.seq (.seq (.reg [om 21 2, od 22 (le 0 21), od
 23 (.bin .eql (tm 22) (ki 0))] [kp [1, 2, 3, 23] []]) (.cond (tm 23) (.seq (.reg [od 24 (lG 4 3), od 25 (.call 99 [(tm 24)]), od 9 (.alloc false [(.slice none 0 0), (.slice none 0 0)]), on (.store 2 (tm 9) (tm 25))] [kp [1, 2, 3,
 9] [9]]) (.seq (.reg [om 26 1, od 27 (fa 1 9), on (.store 1 (tm 27) (tm 26))] [kp [1, 2, 3, 9] [9]]) (.seq (.reg [od 29 (lG 4 3), od 30 (lG 2 9), od 31 (.call 15 [(tm 29), (tm 30)]), om 28 31, od 32 (ex 28 0), od 33 (ex 28 1), od
 34 (ex 28 2), od 10 (.alloc false [(.slice none 0 0), (.slice none 0 0)]), on (.store 2 (tm 10) (tm 32)), om 11 33, om 12 34] [kp [1, 2, 3, 12] []]) (.seq (.reg [om 35 12, od 36 (.bin .neq (tm 35) (ki 0))] [kp [1, 2, 3, 12, 36]
 []]) (.cond (tm 36) (.seq (.reg [om 37 12, od 6 (.mv kN), od 7 (.mv kN), om 8 37] [kp [6, 7, 8] []]) .ret) .skip))))) .skip)) (.seq (.reg [od 13 (.mv kN)] [.nl 13 59 42 2, kp [1, 2, 3, 13] [59]]) (.seq (.seq (.reg [om 38 2, od 39
 (le 0 38), od 40 (.mv (ki 0))] [kp [1, 3, 13, 38, 39, 40] [59]]) (.gh (.block 0 shifts_Play_l1) [.frz 59])) (.seq (.reg [om 64 13, od 65 (.call 100 [(tm 64)]), om 66 1, od 67 (.call 74 [(tm 66)]), om 6 65, om 7 67, od 8 (.mv (ki
 0))] [kp [6, 7, 8] []]) .ret))))))
theorem shifts_Play_l1_run (h : ∀ K : St → Prop, K = run P Γ shifts_Play_l1 Q → run P Γ shifts_Play_g0 (thenX K Q) s) : run P Γ shifts_Play_l1 Q s := run_loop h
def shifts_Play_rv : List RV := [.tmp 6, .tmp 7, .tmp 8]
/- slices.Clip[[]probecard/api.Response,probecard/api.Response] (function 100) -/
abbrev slices_Clip_api_Response_ic : IC := (.seq (.reg [od 2 (.mv kN)] [kp [0] []]) (.seq (.reg [om 3 0, om 4 0, od 5 (le 0 4), om 6 0, od 7 (le 0 6), od 8 (.slice 2 (tm 3) none (some (tm 5)) (some (tm 7))), om 2 8] [kp [2] []]) .ret))
def slices_Clip_api_Response_rv : List RV := [.tmp 2]
/- probecard/probecardlaw35.state (function 35) -/
abbrev shifts_Apply_ic : IC := (.seq (.reg [od 4 (.box true (tm 0)), od 7 (.box true (tm 3)), od 8 (.alloc false [(.slice none 0 0), (.slice none 0 0)]), od 9 (.mv (ki 0))] [kp [1, 2, 4, 7, 8] [8]]) (.seq (.reg [od 17 (lG 4 4), om 18 1, od 19 (lG 2 7), od 20
 (.call 42 [(tm 17), (tm 18), (tm 19)]), om 16 20, od 21 (ex 16 0), od 22 (ex 16 1), om 10 21, om 11 22] [kp [1, 2, 4, 8, 10, 11] [8]]) (.seq (.seq (.reg [om 23 11, od 24 (.bin .neq (tm 23) (ki 0))] [kp [1, 2, 4, 8, 10, 11, 24]
 [8]]) (.cond (tm 24) (.seq (.reg [od 25 (.build [(1, kN), (1, kN)]), om 26 11, on (.store 2 (tm 8) (tm 25)), om 9 26] [kp [8, 9] [8]]) .ret) .skip)) (.seq (.reg [od 28 (lG 4 4), om 29 1, od 30 (.call 29 [(tm 28), (tm 29)]), om 27
 30, od 31 (ex 27 0), od 32 (ex 27 1), od 12 (.alloc false [(.slice none 0 0), (.slice none 0 0), (.slice none 0 0), (.slice none 0 0), (.slice none 0 0), (.int .i64 0), (.slice none 0 0), (.slice none 0 0)]), on (.store 8 (tm 12)
 (tm 31)), om 13 32] [kp [1, 2, 4, 8, 10, 12] [8, 12]]) (.seq (.reg [od 34 (fa 0 12), od 35 (lG 4 34), om 36 2, om 37 10, od 38 (.call 36 [(tm 35), (tm 36), (tm 37)]), om 33 38, od 39 (ex 33 0), od 40 (ex 33 1), od 41 (ex 33 2), om
 14 39, om 15 40, om 11 41] [kp [1, 4, 8, 11, 14] [8]]) (.seq (.seq (.reg [om 42 11, od 43 (.bin .neq (tm 42) (ki 0))] [kp [1, 4, 8, 11, 14, 43] [8]]) (.cond (tm 43) (.seq (.reg [od 44 (.build [(1, kN), (1, kN)]), om 45 11, on
 (.store 2 (tm 8) (tm 44)), om 9 45] [kp [8, 9] [8]]) .ret) .skip)) (.seq (.reg [od 46 (lG 4 4), om 47 1, om 48 14, od 49 (.call 43 [(tm 46), (tm 47), (tm 48)]), od 50 (ex 49 0), od 51 (ex 49 1), on (.store 2 (tm 8) (tm 50)), om 9
 51] [kp [8, 9] [8]]) .ret)))))))
def shifts_Apply_rv : List RV := [.cell 8 2 true, .tmp 9]
end
end Go.Lg
namespace Go.Lg
open Go Go.Proofs
theorem shifts_Play_chk : chkF Tryz.prog 36 shifts_Play_ic 68 3 shifts_Play_rv = true := by kernel_rfl
theorem slices_Clip_api_Response_chk : chkF Tryz.prog 100 slices_Clip_api_Response_ic 9 1 slices_Clip_api_Response_rv = true := by kernel_rfl
theorem shifts_Apply_chk : chkF Tryz.prog 40 shifts_Apply_ic 52 4 shifts_Apply_rv = true := by kernel_rfl
end Go.Lg
namespace Go.Lg
open Go
section
variable {P : Program} {Γ : Tables} {Q : AX → St → Prop} {s : St}
/- probecard/scans.Pattern (function 30) -/
abbrev slices_Concat_api_Value_g0 : IC := .gh (.seq (.reg [od 12 (.bin .lss (tm 11) (tm 10))] [kp [0, 3, 9, 10, 11, 12] []]) (.seq (.cond (tm 12) .skip (.exit 0)) (.seq (.block 1 (.seq (.reg [od 13 (ia 1 9 11), od 14 (ld 1 13), om 5 14] [kp [0, 3, 5, 9, 10, 11] []]) (.seq
 (.reg [om 15 3, om 16 5, od 17 (le 0 16), od 18 (.bin .add (tm 15) (tm 17)), om 3 18] [kp [0, 3, 9, 10, 11] []]) (.seq (.reg [om 19 3, od 20 (.bin .lss (tm 19) (ki 0))] [kp [0, 3, 9, 10, 11, 20] []]) (.cond (tm 20) .dead .skip)))))
 (.reg [od 22 (.bin .add (tm 11) (ki 1)), om 11 22] [kp [0, 3, 9, 10, 11] []])))) [kp [0, 3, 9, 10, 11] []]
def slices_Concat_api_Value_l1 : IC := .loop slices_Concat_api_Value_g0
abbrev slices_Concat_api_Value_g2 : IC := .gh (.seq (.reg [od 28 (.bin .lss (tm 27) (tm 26))] [kp [6, 25, 26, 27, 28] [24022]]) (.seq (.cond (tm 28) .skip (.exit 2)) (.seq (.block 3 (.seq (.reg [od 29 (ia 1 25 27), od 30 (ld 1 29), om 8 30] [kp [6, 8, 25, 26, 27] [24022]])
 (.reg [om 31 6, om 32 8, oz 33 (.app false 68 1 (tm 31) (tm 32)) 24022, om 6 33] [kp [6, 25, 26, 27] [24022]]))) (.reg [od 34 (.bin .add (tm 27) (ki 1)), om 27 34] [kp [6, 25, 26, 27] [24022]])))) [kp [6, 25, 26, 27] [24022]]
def slices_Concat_api_Value_l3 : IC := .loop slices_Concat_api_Value_g2
abbrev slices_Concat_api_Value_ic : IC := (.seq (.reg [od 2 (.mv kN)] [kp [0] []]) (.seq (.reg [od 3 (.mv (ki 0))] [kp [0, 3] []]) (.seq (.seq (.reg [om 9 0, od 10 (le 0 9), od 11 (.mv (ki 0))] [kp [0, 3, 9, 10, 11] []]) (.block 0 slices_Concat_api_Value_l1)) (.seq (.reg
 [om 23 3, od 24 (.hcall 138 [kN, (tm 23)] [] 24000), om 6 24] [kp [0, 6] [24022]]) (.seq (.seq (.reg [om 25 0, od 26 (le 0 25), od 27 (.mv (ki 0))] [kp [6, 25, 26, 27] [24022]]) (.block 2 slices_Concat_api_Value_l3)) (.seq (.reg
 [om 35 6, om 2 35] [kp [2] [24022]]) .ret))))))
theorem slices_Concat_api_Value_l1_run (h : ∀ K : St → Prop, K = run P Γ slices_Concat_api_Value_l1 Q → run P Γ slices_Concat_api_Value_g0 (thenX K Q) s) : run P Γ slices_Concat_api_Value_l1 Q s := run_loop h
theorem slices_Concat_api_Value_l3_run (h : ∀ K : St → Prop, K = run P Γ slices_Concat_api_Value_l3 Q → run P Γ slices_Concat_api_Value_g2 (thenX K Q) s) : run P Γ slices_Concat_api_Value_l3 Q s := run_loop h
def slices_Concat_api_Value_rv : List RV := [.tmp 2]
/- slices.Clone[[]probecard/api.Value,probecard/api.Value] (function 93) -/
abbrev slices_Clone_api_Value_ic : IC := (.seq (.reg [od 2 (.mv kN)] [kp [0] []]) (.seq (.seq (.reg [om 3 0, od 4 (.isNil true (tm 3))] [kp [0, 4] []]) (.cond (tm 4) (.seq (.reg [od 2 (.mv kN)] [kp [2] []]) .ret) .skip)) (.seq (.reg [od 5 (.bsl true 68 1 []), om 6 0, od 7
 (.appT 68 1 (tm 5) (tm 6)), om 2 7] [kp [2] []]) .ret)))
def slices_Clone_api_Value_rv : List RV := [.tmp 2]
/- slices.Grow[[]probecard/api.Value,probecard/api.Value] (function 138) -/
abbrev slices_Grow_api_Value_ic : IC := (.seq (.reg [od 4 (.mv kN)] [kp [0, 1] [22]]) (.seq (.seq (.reg [om 5 1, od 6 (.bin .lss (tm 5) (ki 0))] [kp [0, 1, 6] [22]]) (.cond (tm 6) .dead .skip)) (.seq (.seq (.reg [om 8 1, om 9 0, od 10 (.cap (tm 9)), om 11 0, od 12 (le 0
 11), od 13 (.bin .sub (tm 10) (tm 12)), od 14 (.bin .sub (tm 8) (tm 13)), om 1 14] [kp [0, 1] [22]]) (.seq (.reg [om 15 1, od 16 (.bin .gtr (tm 15) (ki 0))] [kp [0, 1, 16] [22]]) (.cond (tm 16) (.reg [om 17 0, om 18 0, od 19 (.cap
 (tm 18)), od 20 (.slice 1 (tm 17) none (some (tm 19)) none), om 21 1, od 22 (.appZ 68 1 [(.int .u8 0)] (tm 20) (tm 21)), om 23 0, od 24 (le 0 23), od 25 (.slice 1 (tm 22) none (some (tm 24)) none), om 0 25] [kp [0] [22]]) .skip)))
 (.seq (.reg [om 26 0, om 4 26] [kp [4] [22]]) .ret))))
def slices_Grow_api_Value_rv : List RV := [.tmp 4]
end
end Go.Lg
namespace Go.Lg
open Go Go.Proofs
theorem slices_Concat_api_Value_chk : chkF Tryz.prog 91 slices_Concat_api_Value_ic 36 1 slices_Concat_api_Value_rv = true := by kernel_rfl
theorem slices_Clone_api_Value_chk : chkF Tryz.prog 93 slices_Clone_api_Value_ic 8 1 slices_Clone_api_Value_rv = true := by kernel_rfl
theorem slices_Grow_api_Value_chk : chkF Tryz.prog 138 slices_Grow_api_Value_ic 27 2 slices_Grow_api_Value_rv = true := by kernel_rfl
end Go.Lg
namespace Go.Lg
open Go Go.Proofs
variable {Γ : Tables}
theorem grow_h (n : Nat) (h0 : 0 < n) (hn : n ≤ 1000000000) : HCalls Tryz.prog Γ 138 [] [.t (.sl [] (some 0) (some true)), .t (tI n)] (.ls 22 0 0 none) [(22, .sl 68 1 (List.replicate n [tK 0]))] := by
  refine run_handQ slices_Grow_api_Value_chk rfl ?_
  have h1 : (0 : Int) < n := by omega
  have h2 : ¬ (n : Int) < 0 := by omega
  have h3 : (n : Int) ≤ 2147483648 := by omega
  simp (disch := omega) [slices_Grow_api_Value_ic, slices_Grow_api_Value_rv, h1, h2, h3, h0, wrap_i64]
theorem concat_l1 {Q : AX → St → Prop} (ss : List (Sl Int)) (cap : Option Nat) (nl : Option Bool) (hs : ss.length ≤ 1000) (hl : ∀ s ∈ ss, s.l.length ≤ 1000000) (N : Nat)
    (h0 : Q (.exit 0) ⟨[(0, .t (.sl (enc1 tV ss) cap nl)), (3, .t (tI N)), (9, .t (.sl (enc1 tV ss) cap nl)), (10, .t (tI ss.length)), (11, .t (tI ss.length)), (12, .t (tB false))], []⟩) :
    ∀ (k i m : Nat), k + i = ss.length → m ≤ i * 1000000 → m + ((ss.drop i).flatMap (·.l)).length = N →
    run Tryz.prog Γ slices_Concat_api_Value_l1 Q ⟨[(0, .t (.sl (enc1 tV ss) cap nl)), (3, .t (tI m)), (9, .t (.sl (enc1 tV ss) cap nl)), (10, .t (tI ss.length)), (11, .t (tI i))], []⟩
  | 0, i, m, h, hm, hN => by
    refine slices_Concat_api_Value_l1_run fun K hK => ?_
    have h3 : i = ss.length := by omega
    subst h3
    rw [List.drop_of_length_le (Nat.le_refl _)] at hN
    simp at hN
    subst hN
    simp
    exact h0
  | k + 1, i, m, h, hm, hN => by
    refine slices_Concat_api_Value_l1_run fun K hK => ?_
    have h2 : i < ss.length := by omega
    rw [List.drop_eq_getElem_cons h2] at hN
    have e := enc1_get (f := tV) ⟨[], none, none⟩ h2
    have e2 : ss[i]?.getD ⟨[], none, none⟩ = ss[i] := by simp [h2]
    rw [e2] at e
    have hsl := hl _ (List.getElem_mem h2)
    generalize ss[i] = s at *
    simp at hN
    have ih := concat_l1 ss cap nl hs hl N h0 k (i + 1) (m + s.l.length) (by omega) (by omega) (by simp; omega)
    have e' : ∀ h : i < (enc1 tV ss).length, (enc1 tV ss)[i] = [tV s] := fun h => by rw [← e]; simp [h]
    have w1 : IntKind.i64.wrap ((m : Int) + (s.l.length : Int)) = ((m + s.l.length : Nat) : Int) := by rw [wrap_i64] <;> omega
    have w2 : ¬ ((m : Int) + (s.l.length : Int)) < 0 := by omega
    have w1' : IntKind.i64.wrap ((m : Int) + (s.l.length : Int)) = (m : Int) + (s.l.length : Int) := by rw [wrap_i64] <;> omega
    simp only [tV] at e e'
    simp [h2, enc1_len, enc1_wid, e, e', w1', w2]
    rw [wrap_i64 (by omega) (by omega), hK]
    simpa [tV] using ih
theorem concat_l3 {Q : AX → St → Prop} (ss : List (Sl Int)) (cap : Option Nat) (nl : Option Bool) (hs : ss.length ≤ 1000) (hl : ∀ s ∈ ss, s.l.length ≤ 1000000) (R : List Int)
    (h0 : ∀ E : List (List T), E.take R.length = vals R → flatReg (.sl 68 1 E) → Q (.exit 2) ⟨[(6, .ls 24022 0 R.length none), (25, .t (.sl (enc1 tV ss) cap nl)), (26, .t (tI ss.length)), (27, .t (tI ss.length)), (28, .t (tB false))], [(24022, .sl 68 1 E)]⟩) :
    ∀ (k i : Nat) (acc : List Int) (E : List (List T)), k + i = ss.length → acc.length ≤ i * 1000000 → E.take acc.length = vals acc → flatReg (.sl 68 1 E) → acc ++ (ss.drop i).flatMap (·.l) = R →
    run Tryz.prog Γ slices_Concat_api_Value_l3 Q ⟨[(6, .ls 24022 0 acc.length none), (25, .t (.sl (enc1 tV ss) cap nl)), (26, .t (tI ss.length)), (27, .t (tI i))], [(24022, .sl 68 1 E)]⟩
  | 0, i, acc, E, h, hm, hE, hF, hR => by
    refine slices_Concat_api_Value_l3_run fun K hK => ?_
    have h3 : i = ss.length := by omega
    subst h3
    rw [List.drop_of_length_le (Nat.le_refl _)] at hR
    simp at hR
    subst hR
    simp
    exact h0 E hE hF
  | k + 1, i, acc, E, h, hm, hE, hF, hR => by
    refine slices_Concat_api_Value_l3_run fun K hK => ?_
    have h2 : i < ss.length := by omega
    rw [List.drop_eq_getElem_cons h2] at hR
    have e := enc1_get (f := tV) ⟨[], none, none⟩ h2
    have e2 : ss[i]?.getD ⟨[], none, none⟩ = ss[i] := by simp [h2]
    rw [e2] at e
    have hsl := hl _ (List.getElem_mem h2)
    generalize ss[i] = s at *
    have q : vals acc ++ vals s.l = vals (acc ++ s.l) := enc1_app
    have ih := concat_l3 ss cap nl hs hl R h0 k (i + 1) (acc ++ s.l) (vals (acc ++ s.l)) (by omega) (by simp; omega) enc1_take_len (flatReg_enc1 fun _ => rfl) (by rw [← hR]; simp)
    have e' : ∀ h : i < (enc1 tV ss).length, (enc1 tV ss)[i] = [tV s] := fun h => by rw [← e]; simp [h]
    simp only [tV] at e e'
    have hm : min acc.length E.length = acc.length := by have := congrArg List.length hE; simpa [enc1_len] using this
    simp [h2, enc1_len, enc1_wid, e, e', hE, q, hm]
    refine ⟨by omega, ?_⟩
    rw [wrap_i64 (by omega) (by omega), hK]
    simpa [tV] using ih
theorem concat_spec (ss : List (Sl Int)) (cap : Option Nat) (nl : Option Bool) (hs : ss.length ≤ 1000) (hl : ∀ s ∈ ss, s.l.length ≤ 1000000) (h0 : 0 < (ss.flatMap (·.l)).length) :
    FreshCalls Tryz.prog Γ 91 [.sl (enc1 tV ss) cap nl] (.sl (vals (ss.flatMap (·.l))) none none) := by
  refine run_freshQ slices_Concat_api_Value_chk rfl ?_
  have hb : ∀ l : List (Sl Int), (∀ s ∈ l, s.l.length ≤ 1000000) → (l.flatMap (·.l)).length ≤ l.length * 1000000 := by
    intro l
    induction l with
    | nil => intro _; simp
    | cons s l ih =>
      intro h
      have h1 := h s List.mem_cons_self
      have h2 := ih fun x hx => h x (List.mem_cons_of_mem _ hx)
      simp at h2 ⊢
      omega
  have hb := hb ss hl
  have g1 := fun Q h0 => concat_l1 (Γ := Γ) (Q := Q) ss cap nl hs hl (ss.flatMap (·.l)).length h0 ss.length 0 0 (by omega) (by omega) (by simp)
  have g2 := grow_h (Γ := Γ) (ss.flatMap (·.l)).length h0 (by omega)
  have g3 := fun Q h0 E hE hF => concat_l3 (Γ := Γ) (Q := Q) ss cap nl hs hl (ss.flatMap (·.l)) h0 ss.length 0 [] E (by omega) (by simp) hE hF (by simp)
  generalize ss.flatMap (·.l) = R at *
  simp [slices_Concat_api_Value_ic, enc1_len]
  refine g1 _ ?_
  simp
  refine ⟨_, _, g2, ?_⟩
  simp [enc1_len]
  refine g3 _ (fun E hE hF => ?_) _ (by simp [enc1]) (fun e he t ht => by rw [List.eq_of_mem_replicate he] at ht; simp at ht; subst ht; rfl)
  simp [slices_Concat_api_Value_rv, hE]
  exact hF
end Go.Lg
namespace Go.Lg
open Go
section
variable {P : Program} {Γ : Tables} {Q : AX → St → Prop} {s : St}
/- probecard/scans.Insert (function 29) -/
abbrev scans_Insert_g0 : IC := .gh (.seq (.reg [od 51 (.bin .lss (tm 50) (tm 49))] [kp [1, 2, 4, 7, 8, 48, 49, 50, 51] [4, 44, 46, 78, 90, 111, 157, 62040, 62052]]) (.seq (.cond (tm 51) .skip (.exit 0)) (.seq (.block 1 (.seq (.reg [od 52 (ia 1 48 50), od 53 (ld
 1 52), om 10 53] [kp [1, 2, 4, 7, 8, 10, 48, 49, 50] [4, 44, 46, 78, 90, 111, 157, 62040, 62052]]) (.reg [om 54 8, od 55 (.nck (tm 54)), od 56 (fa 4 55), od 57 (ld 1 56), om 58 10, on (.mup .str (tm 57) (tm 58) kT)] [kp [1, 2, 4,
 7, 8, 48, 49, 50] [4, 44, 46, 78, 90, 111, 157, 62040, 62052]]))) (.reg [od 59 (.bin .add (tm 50) (ki 1)), om 50 59] [kp [1, 2, 4, 7, 8, 48, 49, 50] [4, 44, 46, 78, 90, 111, 157, 62040, 62052]])))) [kp [1, 2, 4, 7, 8, 48, 49, 50]
 [4, 44, 46, 78, 90, 111, 157, 62040, 62052]]
def scans_Insert_l1 : IC := .loop scans_Insert_g0
abbrev scans_Insert_g2 : IC := .gh (.seq (.reg [od 95 (.bin .lss (tm 94) (tm 93))] [kp [2, 4, 7, 8, 11, 12, 15, 65, 66, 67, 92, 93, 94, 95] [4, 11, 44, 46, 64, 78, 90, 111, 157, 62040, 62052]]) (.seq (.cond (tm 95) .skip (.exit 4)) (.seq (.block 5 (.seq (.reg
 [od 96 (ia 1 92 94), od 97 (ld 1 96), om 17 97] [kp [2, 4, 7, 8, 11, 12, 15, 17, 65, 66, 67, 92, 93, 94] [4, 11, 44, 46, 64, 78, 90, 111, 157, 62040, 62052]]) (.reg [om 98 12, om 99 17, om 100 15, om 101 17, on (.mup (.int .i64)
 (tm 98) (tm 99) (tm 100)), om 15 101] [kp [2, 4, 7, 8, 11, 12, 15, 65, 66, 67, 92, 93, 94] [4, 11, 44, 46, 64, 78, 90, 111, 157, 62040, 62052]]))) (.reg [od 102 (.bin .add (tm 94) (ki 1)), om 94 102] [kp [2, 4, 7, 8, 11, 12, 15,
 65, 66, 67, 92, 93, 94] [4, 11, 44, 46, 64, 78, 90, 111, 157, 62040, 62052]])))) [kp [2, 4, 7, 8, 11, 12, 15, 65, 66, 67, 92, 93, 94] [4, 11, 44, 46, 64, 78, 90, 111, 157, 62040, 62052]]
def scans_Insert_l3 : IC := .loop scans_Insert_g2
abbrev scans_Insert_g4 : IC := .gh (.seq (.reg [od 68 (.bin .lss (tm 67) (tm 66))] [kp [2, 4, 7, 8, 11, 12, 65, 66, 67, 68] [4, 11, 44, 46, 64, 78, 90, 111, 157, 62040, 62052]]) (.seq (.cond (tm 68) .skip (.exit 2)) (.seq (.block 3 (.seq (.reg [om 69 67, od 70
 (ia 1 65 67), od 71 (ld 1 70), om 13 69, om 14 71] [kp [2, 4, 7, 8, 11, 12, 13, 14, 65, 66, 67] [4, 11, 44, 46, 64, 78, 90, 111, 157, 62040, 62052]]) (.seq (.reg [od 72 (fa 4 11), od 73 (.ldR 11 1 false (tm 72)), om 74 14, od 75
 (.call 86 [(tm 74)]), od 76 (.call 85 [(tm 75)]), od 77 (.bsl true 33 1 [(tm 76)]), od 78 (.app false 33 1 (tm 73) (tm 77)), od 79 (fa 4 11), on (.stR 11 1 (tm 79) (tm 78))] [kp [2, 4, 7, 8, 11, 12, 13, 14, 65, 66, 67] [4, 11, 44,
 46, 64, 78, 90, 111, 157, 62040, 62052]]) (.seq (.reg [om 80 8, od 81 (.build [(1, (ku 0)), (1, kN), (1, (ki 0)), (1, (ki 0))]), om 82 13, od 83 (.call 87 [(tm 82)]), od 84 (.bin .add (.const (sV [115, 105])) (tm 83)), od 85
 (.hcall 84 [(tm 80), (tm 81), (tm 84)] [44, 46, 111, 62040, 62052] 85000), om 15 85] [.ren 85040 62040, .ren 85052 62052, kp [2, 4, 7, 8, 11, 12, 14, 15, 65, 66, 67] [4, 11, 44, 46, 64, 78, 90, 111, 157, 62040, 62052]]) (.seq (.reg
 [od 86 (fa 6 11), od 87 (ld 1 86), om 88 15, od 89 (.bsl true 3 1 [(tm 88)]), od 90 (.app false 3 1 (tm 87) (tm 89)), od 91 (fa 6 11), on (.store 1 (tm 91) (tm 90))] [kp [2, 4, 7, 8, 11, 12, 14, 15, 65, 66, 67] [4, 11, 44, 46, 64,
 78, 90, 111, 157, 62040, 62052]]) (.seq (.seq (.reg [om 92 14, od 93 (le 0 92), od 94 (.mv (ki 0))] [kp [2, 4, 7, 8, 11, 12, 15, 65, 66, 67, 92, 93, 94] [4, 11, 44, 46, 64, 78, 90, 111, 157, 62040, 62052]]) (.block 4
 scans_Insert_l3)) (.reg [om 103 8, om 104 8, od 105 (.nck (tm 104)), od 106 (fa 0 105), od 107 (fa 3 106), od 108 (ld 1 107), om 109 15, od 110 (.bsl true 3 1 [(tm 109)]), od 111 (.app false 3 1 (tm 108) (tm 110)), od 112 (.nck (tm
 103)), od 113 (fa 0 112), od 114 (fa 3 113), on (.store 1 (tm 114) (tm 111))] [kp [2, 4, 7, 8, 11, 12, 65, 66, 67] [4, 11, 44, 46, 64, 78, 90, 111, 157, 62040, 62052]]))))))) (.reg [od 115 (.bin .add (tm 67) (ki 1)), om 67 115] [kp
 [2, 4, 7, 8, 11, 12, 65, 66, 67] [4, 11, 44, 46, 64, 78, 90, 111, 157, 62040, 62052]])))) [kp [2, 4, 7, 8, 11, 12, 65, 66, 67] [4, 11, 44, 46, 64, 78, 90, 111, 157, 62040, 62052]]
def scans_Insert_l5 : IC := .loop scans_Insert_g4
abbrev scans_Insert_g6 : IC := .gh (.seq (.reg [od 119 (.bin .lss (tm 118) (tm 117))] [kp [2, 4, 8, 11, 12, 116, 117, 118, 119] [4, 11, 44, 46, 64, 78, 90, 111, 157, 62040, 62052]]) (.seq (.cond (tm 119) .skip (.exit 6)) (.seq (.block 7 (.seq (.reg [om 120 118,
 od 121 (ia 1 116 118), od 122 (ld 1 121), om 18 120, om 19 122] [kp [2, 4, 8, 11, 12, 18, 19, 116, 117, 118] [4, 11, 44, 46, 64, 78, 90, 111, 157, 62040, 62052]]) (.seq (.reg [om 123 8, od 124 (fa 5 11), od 125 (ld 1 124), od 126
 (fa 0 2), od 127 (ld 1 126), om 128 19, od 129 (ia 4 127 128), od 130 (fa 1 129), od 131 (ld 1 130), od 132 (.iadr 1 (tm 131) (ki 0)), od 133 (ld 1 132), om 134 12, om 135 19, od 136 (.lkup (.int .i64) (.int .i64 0) false (tm 134)
 (tm 135)), od 137 (.bsl true 3 1 [(tm 125), (tm 133), (tm 136)]), od 138 (.build [(1, (ku 11)), (1, (tm 137)), (1, (ki 0)), (1, (ki 0))]), om 139 18, od 140 (.call 87 [(tm 139)]), od 141 (.bin .add (.const (sV [115, 109])) (tm
 140)), od 142 (.hcall 84 [(tm 123), (tm 138), (tm 141)] [44, 46, 111, 62040, 62052] 142000), om 20 142] [.ren 142040 62040, .ren 142052 62052, kp [2, 4, 8, 11, 12, 19, 20, 116, 117, 118] [4, 11, 44, 46, 64, 78, 90, 111, 157, 62040,
 62052]]) (.seq (.reg [om 143 8, od 144 (.nck (tm 143)), od 145 (fa 0 144), od 146 (fa 0 145), od 147 (ld 1 146), om 148 19, om 149 20, od 150 (.bsl true 3 1 [(tm 149)]), od 151 (ia 4 147 148), od 152 (fa 1 151), on (.store 1 (tm
 152) (tm 150))] [kp [2, 4, 8, 11, 12, 20, 116, 117, 118] [4, 11, 44, 46, 64, 78, 90, 111, 157, 62040, 62052]]) (.reg [od 153 (fa 7 11), od 154 (ld 1 153), om 155 20, od 156 (.bsl true 3 1 [(tm 155)]), od 157 (.app false 3 1 (tm
 154) (tm 156)), od 158 (fa 7 11), on (.store 1 (tm 158) (tm 157))] [kp [2, 4, 8, 11, 12, 116, 117, 118] [4, 11, 44, 46, 64, 78, 90, 111, 157, 62040, 62052]]))))) (.reg [od 159 (.bin .add (tm 118) (ki 1)), om 118 159] [kp [2, 4, 8,
 11, 12, 116, 117, 118] [4, 11, 44, 46, 64, 78, 90, 111, 157, 62040, 62052]])))) [kp [2, 4, 8, 11, 12, 116, 117, 118] [4, 11, 44, 46, 64, 78, 90, 111, 157, 62040, 62052]]
def scans_Insert_l7 : IC := .loop scans_Insert_g6
abbrev scans_Insert_ic : IC := (.seq (.reg [od 2 (.box true (tm 0)), od 4 (.alloc false [(.slice none 0 0), (.slice none 0 0), (.slice none 0 0), (.slice none 0 0), (.slice none 0 0), (.int .i64 0), (.slice none 0 0), (.slice none 0 0)]), od 5 (.mv (ki 0))] [kp
 [1, 2, 4] [4, 44, 78, 90, 111, 157, 62040, 62052]]) (.seq (.seq (.reg [od 21 (lG 4 2), om 22 1, od 23 (.call 82 [(tm 21), (tm 22)]), om 6 23] [kp [1, 2, 4, 6] [4, 44, 78, 90, 111, 157, 62040, 62052]]) (.seq (.reg [om 24 6, od 25
 (.bin .neq (tm 24) (ki 0))] [kp [1, 2, 4, 6, 25] [4, 44, 78, 90, 111, 157, 62040, 62052]]) (.cond (tm 25) (.seq (.reg [od 26 (.build [(4, (.const (.agg #[(.slice none 0 0), (.slice none 0 0), (.slice none 0 0), (.slice none 0
 0)]))), (1, kN), (1, (ki 0)), (1, kN), (1, kN)]), om 27 6, on (.store 8 (tm 4) (tm 26)), om 5 27] [kp [4, 5] [4, 44, 78, 90, 111, 157, 62040, 62052]]) .ret) .skip))) (.seq (.reg [od 28 (lG 4 2), od 29 (.call 27 [(tm 28)]), om 7 29]
 [kp [1, 2, 4, 7] [4, 44, 78, 90, 111, 157, 62040, 62052]]) (.seq (.seq (.reg [od 30 (fa 0 2), od 31 (ld 1 30), od 32 (le 0 31), od 33 (.bin .add (tm 32) (ki 1)), om 34 1, od 35 (le 0 34), od 36 (.bin .add (tm 33) (tm 35)), om 37 7,
 od 38 (le 0 37), od 39 (.bin .add (tm 36) (tm 38)), od 40 (.bin .gtr (tm 39) (ki 16384))] [kp [1, 2, 4, 7, 40] [4, 44, 78, 90, 111, 157, 62040, 62052]]) (.cond (tm 40) (.seq (.reg [od 41 (.build [(4, (.const (.agg #[(.slice none 0
 0), (.slice none 0 0), (.slice none 0 0), (.slice none 0 0)]))), (1, kN), (1, (ki 0)), (1, kN), (1, kN)]), on (.store 8 (tm 4) (tm 41)), od 5 (.mv (ki 3))] [kp [4, 5] [4, 44, 78, 90, 111, 157, 62040, 62052]]) .ret) .skip)) (.seq
 (.reg [od 42 (lG 4 2), od 43 (.call 83 [(tm 42)]), od 44 (.mkmap), od 45 (.build [(4, (tm 43)), (1, (tm 44)), (1, kF)]), od 46 (.box false (tm 45)), om 8 46] [kp [1, 2, 4, 7, 8] [4, 44, 46, 78, 90, 111, 157, 62040, 62052]]) (.seq
 (.seq (.reg [od 47 (fa 1 2), od 48 (ld 1 47), od 49 (le 0 48), od 50 (.mv (ki 0))] [kp [1, 2, 4, 7, 8, 48, 49, 50] [4, 44, 46, 78, 90, 111, 157, 62040, 62052]]) (.block 0 scans_Insert_l1)) (.seq (.reg [od 11 (.alloc false [(.slice
 none 0 0), (.slice none 0 0), (.slice none 0 0), (.slice none 0 0), (.slice none 0 0), (.int .i64 0), (.slice none 0 0), (.slice none 0 0)])] [.nlb 11 4 78 33 1, .nlb 11 6 90 3 1, .nlb 11 7 157 3 1, kp [1, 2, 4, 7, 8, 11] [4, 11,
 44, 46, 78, 90, 111, 157, 62040, 62052]]) (.seq (.reg [om 60 8, od 61 (.build [(1, (ku 0)), (1, kN), (1, (ki 0)), (1, (ki 0))]), od 62 (.hcall 84 [(tm 60), (tm 61), (.const (sV [115, 101]))] [44, 46, 111, 62040, 62052] 62000), od
 63 (fa 5 11), on (.store 1 (tm 63) (tm 62))] [kp [1, 2, 4, 7, 8, 11] [4, 11, 44, 46, 78, 90, 111, 157, 62040, 62052]]) (.seq (.reg [od 64 (.mkmap), om 12 64] [kp [1, 2, 4, 7, 8, 11, 12] [4, 11, 44, 46, 64, 78, 90, 111, 157, 62040,
 62052]]) (.seq (.seq (.reg [om 65 1, od 66 (le 0 65), od 67 (.mv (ki 0))] [kp [2, 4, 7, 8, 11, 12, 65, 66, 67] [4, 11, 44, 46, 64, 78, 90, 111, 157, 62040, 62052]]) (.block 2 scans_Insert_l5)) (.seq (.seq (.reg [om 116 7, od 117
 (le 0 116), od 118 (.mv (ki 0))] [kp [2, 4, 8, 11, 12, 116, 117, 118] [4, 11, 44, 46, 64, 78, 90, 111, 157, 62040, 62052]]) (.gh (.block 6 scans_Insert_l7) [.frz 62040, .frz 62052, .frz 111, .frz 78, .frz 90, .frz 157])) (.seq
 (.seq (.reg [om 160 8, od 161 (.nck (tm 160)), od 162 (fa 5 161), od 163 (ld 1 162)] [kp [4, 8, 11, 163] [4, 11, 44, 46, 78, 90, 111, 157, 62040, 62052]]) (.cond (tm 163) (.seq (.reg [od 164 (.build [(4, (.const (.agg #[(.slice
 none 0 0), (.slice none 0 0), (.slice none 0 0), (.slice none 0 0)]))), (1, kN), (1, (ki 0)), (1, kN), (1, kN)]), on (.store 8 (tm 4) (tm 164)), od 5 (.mv (ki 5))] [kp [4, 5] [4, 44, 78, 90, 111, 157, 62040, 62052]]) .ret) .skip))
 (.seq (.reg [om 165 8, om 166 8, om 167 8, om 168 8, od 169 (.nck (tm 168)), od 170 (fa 0 169), od 171 (fa 0 170), od 172 (.ldR 46 1 false (tm 171)), od 173 (.call 88 [(tm 172)]), om 174 8, od 175 (.nck (tm 174)), od 176 (fa 0
 175), od 177 (fa 1 176), od 178 (.ldR 46 1 false (tm 177)), od 179 (.call 89 [(tm 178)]), om 180 8, od 181 (.nck (tm 180)), od 182 (fa 0 181), od 183 (fa 3 182), od 184 (.ldR 46 1 false (tm 183)), od 185 (.call 85 [(tm 184)]), od
 186 (.nck (tm 165)), od 187 (fa 0 186), od 188 (fa 0 187), on (.stR 46 1 (tm 188) (tm 173)), od 189 (.nck (tm 166)), od 190 (fa 0 189), od 191 (fa 1 190), on (.stR 46 1 (tm 191) (tm 179)), od 192 (.nck (tm 167)), od 193 (fa 0 192),
 od 194 (fa 3 193), on (.stR 46 1 (tm 194) (tm 185))] [kp [4, 8, 11] [4, 11, 44, 46, 78, 90, 111, 157, 62040, 62052]]) (.seq (.reg [om 195 8, od 196 (.nck (tm 195)), od 197 (fa 0 196), od 198 (.ldR 46 4 true (tm 197)), od 199 (fa 4
 11), od 200 (.ldR 11 1 false (tm 199)), od 201 (.call 90 [(tm 200)]), od 202 (fa 6 11), od 203 (.ldR 11 1 false (tm 202)), od 204 (.call 85 [(tm 203)]), od 205 (fa 7 11), od 206 (.ldR 11 1 false (tm 205)), od 207 (.call 85 [(tm
 206)]), od 208 (fa 0 11), on (.stR 11 4 (tm 208) (tm 198)), od 209 (fa 4 11), on (.stR 11 1 (tm 209) (tm 201)), od 210 (fa 6 11), on (.stR 11 1 (tm 210) (tm 204)), od 211 (fa 7 11), on (.stR 11 1 (tm 211) (tm 207))] [kp [4, 11] [4,
 11, 44, 78, 90, 111, 157, 62040, 62052]]) (.seq (.reg [od 212 (lG 8 11), on (.store 8 (tm 4) (tm 212)), od 5 (.mv (ki 0))] [kp [4, 5] [4, 44, 78, 90, 111, 157, 62040, 62052]]) .ret)))))))))))))))
theorem scans_Insert_l1_run (h : ∀ K : St → Prop, K = run P Γ scans_Insert_l1 Q → run P Γ scans_Insert_g0 (thenX K Q) s) : run P Γ scans_Insert_l1 Q s := run_loop h
theorem scans_Insert_l3_run (h : ∀ K : St → Prop, K = run P Γ scans_Insert_l3 Q → run P Γ scans_Insert_g2 (thenX K Q) s) : run P Γ scans_Insert_l3 Q s := run_loop h
theorem scans_Insert_l5_run (h : ∀ K : St → Prop, K = run P Γ scans_Insert_l5 Q → run P Γ scans_Insert_g4 (thenX K Q) s) : run P Γ scans_Insert_l5 Q s := run_loop h
theorem scans_Insert_l7_run (h : ∀ K : St → Prop, K = run P Γ scans_Insert_l7 Q → run P Γ scans_Insert_g6 (thenX K Q) s) : run P Γ scans_Insert_l7 Q s := run_loop h
def scans_Insert_rv : List RV := [.cell 4 8 true, .tmp 5]
/- (*probecard/scans.builder).add (function 84) -/
abbrev scans_builder_add_g0 : IC := .gh (.seq (.seq (.reg [om 7 0, od 8 (.nck (tm 7)), od 9 (fa 4 8), od 10 (ld 1 9), om 11 2, od 12 (.lkup .str (.bool false) false (tm 10) (tm 11))] [kp [0, 2, 4, 12] [40, 52, 1000000, 1000001, 1000002, 1000003, 1000004]]) (.cond (tm
 12) .skip (.exit 0))) (.block 1 (.reg [om 13 2, od 14 (.bin .add (tm 13) (.const (sV [95]))), om 2 14] [kp [0, 2, 4] [40, 52, 1000000, 1000001, 1000002, 1000003, 1000004]]))) [kp [0, 2, 4] [40, 52, 1000000, 1000001, 1000002,
 1000003, 1000004]]
def scans_builder_add_l1 : IC := .loop scans_builder_add_g0
abbrev scans_builder_add_ic : IC := (.seq (.reg [od 4 (.box true (tm 1)), od 6 (.mv (ki 0))] [kp [0, 2, 4] [40, 52, 1000000, 1000001, 1000002, 1000003, 1000004]]) (.seq (.block 0 scans_builder_add_l1) (.seq (.reg [om 15 0, od 16 (.nck (tm 15)), od 17 (fa 4 16), od 18
 (ld 1 17), om 19 2, on (.mup .str (tm 18) (tm 19) kT)] [kp [0, 2, 4] [40, 52, 1000000, 1000001, 1000002, 1000003, 1000004]]) (.seq (.reg [om 20 0, om 21 0, od 22 (.nck (tm 21)), od 23 (fa 5 22), od 24 (ld 1 23), om 25 24, oF 26
 (.mv (tm 2)) 25, oF 27 (le 1 26) 25, oF 28 (.bin .gtr (tm 27) (ki 32)) 25, od 29 (.pick (tm 25) kT (tm 28)), od 30 (.nck (tm 20)), od 31 (fa 5 30), on (.store 1 (tm 31) (tm 29))] [kp [0, 2, 4] [40, 52, 1000000, 1000001, 1000002,
 1000003, 1000004]]) (.seq (.reg [om 32 0, om 33 0, od 34 (.nck (tm 33)), od 35 (fa 0 34), od 36 (fa 0 35), od 37 (.ldR 1000001 1 false (tm 36)), od 38 (.ldT 4 true (tm 4)), od 39 (.bsl true 104 4 [(tm 38)]), od 40 (.app false 104 4
 (tm 37) (tm 39)), od 41 (.nck (tm 32)), od 42 (fa 0 41), od 43 (fa 0 42), on (.stR 1000001 1 (tm 43) (tm 40))] [kp [0, 2] [40, 52, 1000000, 1000001, 1000002, 1000003, 1000004]]) (.seq (.reg [om 44 0, om 45 0, od 46 (.nck (tm 45)),
 od 47 (fa 0 46), od 48 (fa 1 47), od 49 (ld 1 48), om 50 2, od 51 (.bsl true 9 1 [(tm 50)]), od 52 (.app false 9 1 (tm 49) (tm 51)), od 53 (.nck (tm 44)), od 54 (fa 0 53), od 55 (fa 1 54), on (.store 1 (tm 55) (tm 52))] [kp [0]
 [40, 52, 1000000, 1000001, 1000002, 1000003, 1000004]]) (.seq (.reg [om 56 0, od 57 (.nck (tm 56)), od 58 (fa 0 57), od 59 (fa 0 58), od 60 (ld 1 59), od 61 (le 0 60), od 62 (.bin .sub (tm 61) (ki 1)), om 6 62] [kp [6] [40, 52,
 1000000, 1000001, 1000002, 1000003, 1000004]]) .ret)))))))
theorem scans_builder_add_l1_run (h : ∀ K : St → Prop, K = run P Γ scans_builder_add_l1 Q → run P Γ scans_builder_add_g0 (thenX K Q) s) : run P Γ scans_builder_add_l1 Q s := run_loop h
def scans_builder_add_rv : List RV := [.tmp 6]
/- probecard/netlists.Copy (function 83) -/
abbrev netlists_Copy_g0 : IC := .gh (.seq (.reg [od 25 (.bin .lss (tm 24) (tm 23))] [kp [2, 3, 22, 23, 24, 25] [2, 3, 14007]]) (.seq (.cond (tm 25) .skip (.exit 0)) (.seq (.block 1 (.seq (.reg [om 26 24, od 27 (ia 4 22 24), od 28 (lG 4 27), od 5 (.alloc false
 [(.int .u8 0), (.slice none 0 0), (.int .i64 0), (.int .i64 0)]), om 4 26, on (.store 4 (tm 5) (tm 28))] [kp [2, 3, 4, 5, 22, 23, 24] [2, 3, 5, 14007]]) (.reg [od 29 (fa 0 3), od 30 (.ldR 3 1 false (tm 29)), om 31 4, od 32 (fa 1
 5), od 33 (.ldR 5 1 false (tm 32)), od 34 (.callT 136 [(tm 33)]), od 35 (ia 4 30 31), od 36 (fa 1 35), on (.stR 14007 1 (tm 36) (tm 34))] [kp [2, 3, 22, 23, 24] [2, 3, 14007]]))) (.reg [od 37 (.bin .add (tm 24) (ki 1)), om 24 37]
 [kp [2, 3, 22, 23, 24] [2, 3, 14007]])))) [kp [2, 3, 22, 23, 24] [2, 3, 14007]]
def netlists_Copy_l1 : IC := .loop netlists_Copy_g0
abbrev netlists_Copy_g2 : IC := .gh (.seq (.reg [od 42 (.bin .lss (tm 41) (tm 40))] [kp [2, 3, 39, 40, 41, 42] [2, 3, 14007]]) (.seq (.cond (tm 42) .skip (.exit 2)) (.seq (.block 3 (.seq (.reg [om 43 41, od 44 (ia 3 39 41), od 45 (lG 3 44), od 7 (.alloc false
 [(.slice none 0 0), (.slice none 0 0), (.int .i64 0)]), om 6 43, on (.store 3 (tm 7) (tm 45))] [kp [2, 3, 6, 7, 39, 40, 41] [2, 3, 7, 14007]]) (.reg [od 46 (fa 2 3), od 47 (.ldR 3 1 false (tm 46)), om 48 6, od 49 (fa 2 3), od 50
 (.ldR 3 1 false (tm 49)), om 51 6, od 52 (fa 0 7), od 53 (.ldR 7 1 false (tm 52)), od 54 (.callT 136 [(tm 53)]), od 55 (fa 1 7), od 56 (.ldR 7 1 false (tm 55)), od 57 (.callT 136 [(tm 56)]), od 58 (ia 3 47 48), od 59 (fa 0 58), on
 (.stR 14007 1 (tm 59) (tm 54)), od 60 (ia 3 50 51), od 61 (fa 1 60), on (.stR 14007 1 (tm 61) (tm 57))] [kp [2, 3, 39, 40, 41] [2, 3, 14007]]))) (.reg [od 62 (.bin .add (tm 41) (ki 1)), om 41 62] [kp [2, 3, 39, 40, 41] [2, 3,
 14007]])))) [kp [2, 3, 39, 40, 41] [2, 3, 14007]]
def netlists_Copy_l3 : IC := .loop netlists_Copy_g2
abbrev netlists_Copy_ic : IC := (.seq (.reg [od 1 (.box true (tm 0)), od 2 (.alloc false [(.slice none 0 0), (.slice none 0 0), (.slice none 0 0), (.slice none 0 0)])] [kp [1, 2] [2, 14007]]) (.seq (.reg [od 8 (fa 0 1), od 9 (.ldT 1 false (tm 8)), od 10 (.ncall
 133 [(tm 9)] 10000), od 11 (fa 1 1), od 12 (.ldT 1 false (tm 11)), od 13 (.callT 134 [(tm 12)]), od 14 (fa 2 1), od 15 (.ldT 1 false (tm 14)), od 16 (.callT 135 [(tm 15)]), od 17 (fa 3 1), od 18 (.ldT 1 false (tm 17)), od 19
 (.callT 136 [(tm 18)]), od 20 (.build [(1, (tm 10)), (1, (tm 13)), (1, (tm 16)), (1, (tm 19))]), od 3 (.alloc false [(.slice none 0 0), (.slice none 0 0), (.slice none 0 0), (.slice none 0 0)]), on (.stR 3 4 (tm 3) (tm 20))] [kp
 [2, 3] [2, 3, 14007]]) (.seq (.seq (.reg [od 21 (fa 0 3), od 22 (ld 1 21), od 23 (le 0 22), od 24 (.mv (ki 0))] [kp [2, 3, 22, 23, 24] [2, 3, 14007]]) (.gh (.block 0 netlists_Copy_l1) [.frz 14007])) (.seq (.seq (.reg [od 38 (fa 2
 3), od 39 (ld 1 38), od 40 (le 0 39), od 41 (.mv (ki 0))] [kp [2, 3, 39, 40, 41] [2, 3, 14007]]) (.block 2 netlists_Copy_l3)) (.seq (.reg [od 63 (lG 4 3), on (.store 4 (tm 2) (tm 63))] [kp [2] [2, 14007]]) .ret)))))
theorem netlists_Copy_l1_run (h : ∀ K : St → Prop, K = run P Γ netlists_Copy_l1 Q → run P Γ netlists_Copy_g0 (thenX K Q) s) : run P Γ netlists_Copy_l1 Q s := run_loop h
theorem netlists_Copy_l3_run (h : ∀ K : St → Prop, K = run P Γ netlists_Copy_l3 Q → run P Γ netlists_Copy_g2 (thenX K Q) s) : run P Γ netlists_Copy_l3 Q s := run_loop h
def netlists_Copy_rv : List RV := [.cell 2 4 true]
/- probecard/netlists.copied[probecard/api.Node] (function 133) -/
abbrev netlists_copied_api_Node_ic : IC := (.seq (.reg [od 2 (.mv kN)] [kp [0] []]) (.seq (.reg [om 3 0, od 4 (.hcall 162 [(tm 3)] [] 4000), od 5 (.hcall 88 [(tm 4)] [4007] 5000), om 2 5] [kp [2] [4007]]) .ret))
def netlists_copied_api_Node_rv : List RV := [.tmp 2]
/- probecard/netlists.copied[string] (function 134) -/
abbrev netlists_copied_string_ic : IC := (.seq (.reg [od 2 (.mv kN)] [kp [0] []]) (.seq (.reg [om 3 0, od 4 (.call 163 [(tm 3)]), od 5 (.call 89 [(tm 4)]), om 2 5] [kp [2] []]) .ret))
def netlists_copied_string_rv : List RV := [.tmp 2]
/- probecard/netlists.copied[probecard/api.Memory] (function 135) -/
abbrev netlists_copied_api_Memory_ic : IC := (.seq (.reg [od 2 (.mv kN)] [kp [0] []]) (.seq (.reg [om 3 0, od 4 (.call 165 [(tm 3)]), od 5 (.call 164 [(tm 4)]), om 2 5] [kp [2] []]) .ret))
def netlists_copied_api_Memory_rv : List RV := [.tmp 2]
/- probecard/netlists.copied[int] (function 136) -/
abbrev netlists_copied_int_ic : IC := (.seq (.reg [od 2 (.mv kN)] [kp [0] []]) (.seq (.reg [om 3 0, od 4 (.call 86 [(tm 3)]), od 5 (.call 85 [(tm 4)]), om 2 5] [kp [2] []]) .ret))
def netlists_copied_int_rv : List RV := [.tmp 2]
/- slices.Clone[[]probecard/api.Node,probecard/api.Node] (function 162) -/
abbrev slices_Clone_api_Node_ic : IC := (.seq (.reg [od 2 (.mv kN)] [kp [0] []]) (.seq (.seq (.reg [om 3 0, od 4 (.isNil true (tm 3))] [kp [0, 4] []]) (.cond (tm 4) (.seq (.reg [od 2 (.mv kN)] [kp [2] [7]]) .ret) .skip)) (.seq (.reg [od 5 (.bsl true 104 4 []), om 6 0, od
 7 (.app false 104 4 (tm 5) (tm 6)), om 2 7] [kp [2] [7]]) .ret)))
def slices_Clone_api_Node_rv : List RV := [.tmp 2]
/- slices.Clone[[]string,string] (function 163) -/
abbrev slices_Clone_string_ic : IC := (.seq (.reg [od 2 (.mv kN)] [kp [0] []]) (.seq (.seq (.reg [om 3 0, od 4 (.isNil true (tm 3))] [kp [0, 4] []]) (.cond (tm 4) (.seq (.reg [od 2 (.mv kN)] [kp [2] []]) .ret) .skip)) (.seq (.reg [od 5 (.bsl true 9 1 []), om 6 0, od 7
 (.appT 9 1 (tm 5) (tm 6)), om 2 7] [kp [2] []]) .ret)))
def slices_Clone_string_rv : List RV := [.tmp 2]
/- slices.Clone[[]probecard/api.Memory,probecard/api.Memory] (function 165) -/
abbrev slices_Clone_api_Memory_ic : IC := (.seq (.reg [od 2 (.mv kN)] [kp [0] []]) (.seq (.seq (.reg [om 3 0, od 4 (.isNil true (tm 3))] [kp [0, 4] []]) (.cond (tm 4) (.seq (.reg [od 2 (.mv kN)] [kp [2] []]) .ret) .skip)) (.seq (.reg [od 5 (.bsl true 110 3 []), om 6 0, od
 7 (.appT 110 3 (tm 5) (tm 6)), om 2 7] [kp [2] []]) .ret)))
def slices_Clone_api_Memory_rv : List RV := [.tmp 2]
/- slices.Clip[[]probecard/api.Node,probecard/api.Node] (function 88) -/
abbrev slices_Clip_api_Node_ic : IC := (.seq (.reg [od 2 (.mv kN)] [kp [0] [1000000]]) (.seq (.reg [om 3 0, om 4 0, od 5 (le 0 4), om 6 0, od 7 (le 0 6), od 8 (.slice 4 (tm 3) none (some (tm 5)) (some (tm 7))), om 2 8] [kp [2] [1000000]]) .ret))
def slices_Clip_api_Node_rv : List RV := [.tmp 2]
/- slices.Clip[[]string,string] (function 89) -/
abbrev slices_Clip_string_ic : IC := (.seq (.reg [od 2 (.mv kN)] [kp [0] []]) (.seq (.reg [om 3 0, om 4 0, od 5 (le 0 4), om 6 0, od 7 (le 0 6), od 8 (.slice 1 (tm 3) none (some (tm 5)) (some (tm 7))), om 2 8] [kp [2] []]) .ret))
def slices_Clip_string_rv : List RV := [.tmp 2]
/- slices.Clip[[]probecard/api.Memory,probecard/api.Memory] (function 164) -/
abbrev slices_Clip_api_Memory_ic : IC := (.seq (.reg [od 2 (.mv kN)] [kp [0] []]) (.seq (.reg [om 3 0, om 4 0, od 5 (le 0 4), om 6 0, od 7 (le 0 6), od 8 (.slice 3 (tm 3) none (some (tm 5)) (some (tm 7))), om 2 8] [kp [2] []]) .ret))
def slices_Clip_api_Memory_rv : List RV := [.tmp 2]
/- strconv.Itoa (function 87) -/
abbrev strconv_Itoa_ic : IC := (.seq (.reg [od 2 (.mv (.const (sV [])))] [kp [0] []]) (.seq (.reg [om 3 0, od 4 (.call 137 [(tm 3)]), om 2 4] [kp [2] []]) .ret))
def strconv_Itoa_rv : List RV := [.tmp 2]
/- internal/strconv.Itoa (function 137) -/
abbrev i_strconv_Itoa_ic : IC := (.seq (.reg [od 2 (.mv (.const (sV [])))] [kp [0] []]) (.seq (.reg [om 3 0, od 4 (.call 166 [(tm 3), (ki 10)]), om 2 4] [kp [2] []]) .ret))
def i_strconv_Itoa_rv : List RV := [.tmp 2]
/- internal/strconv.FormatInt (function 166) -/
abbrev i_strconv_FormatInt_ic : IC := (.seq (.reg [od 4 (.mv (.const (sV [])))] [kp [0, 1] []]) (.seq (.seq (.reg [om 10 1, od 11 (.bin .eql (tm 10) (ki 10))] [kp [0, 1, 11] []]) (.cond (tm 11) (.seq (.seq (.reg [om 12 0, od 13 (.bin .leq (ki 0) (tm 12)), om 14 13, oT
 15 (.mv (tm 0)) 14, oT 16 (.bin .lss (tm 15) (ki 100)) 14, od 17 (.pick (tm 14) (tm 16) kF)] [kp [0, 17] []]) (.cond (tm 17) (.seq (.reg [om 18 0, od 19 (.call 183 [(tm 18)]), om 4 19] [kp [4] []]) .ret) .skip)) (.seq (.reg [od 5
 (.alloc false [(.int .u8 0), (.int .u8 0), (.int .u8 0), (.int .u8 0), (.int .u8 0), (.int .u8 0), (.int .u8 0), (.int .u8 0), (.int .u8 0), (.int .u8 0), (.int .u8 0), (.int .u8 0), (.int .u8 0), (.int .u8 0), (.int .u8 0), (.int
 .u8 0), (.int .u8 0), (.int .u8 0), (.int .u8 0), (.int .u8 0), (.int .u8 0), (.int .u8 0), (.int .u8 0), (.int .u8 0)])] [kp [0, 5] [5]]) (.seq (.reg [om 20 0, od 21 (.conv .u64 (tm 20)), om 6 21] [kp [0, 5, 6] [5]]) (.seq (.seq
 (.reg [om 22 0, od 23 (.bin .lss (tm 22) (ki 0))] [kp [0, 5, 6, 23] [5]]) (.cond (tm 23) (.reg [om 24 6, od 25 (.un .neg (tm 24)), om 6 25] [kp [0, 5, 6] [5]]) .skip)) (.seq (.reg [om 26 6, od 27 (.call 184 [(tm 26)]), om 7 27] [kp
 [0, 5, 6, 7] [5]]) .dead))))) .skip)) (.seq (.reg [om 45 0, od 46 (.conv .u64 (tm 45)), om 47 1, om 48 0, od 49 (.bin .lss (tm 48) (ki 0)), od 50 (.call 186 [kN, (tm 46), (tm 47), (tm 49), kF]), om 44 50, od 51 (ex 44 0), od 52 (ex
 44 1), om 8 51, om 9 52] [kp [9] []]) (.seq (.reg [om 53 9, om 4 53] [kp [4] []]) .ret))))
def i_strconv_FormatInt_rv : List RV := [.tmp 4]
/- internal/strconv.small (function 183) -/
abbrev i_strconv_small_ic : IC := (.seq (.reg [od 2 (.mv (.const (sV [])))] [kp [0] []]) (.seq (.seq (.reg [om 3 0, od 4 (.bin .lss (tm 3) (ki 10))] [kp [0, 4] []]) (.cond (tm 4) (.seq (.reg [om 5 0, om 6 0, od 7 (.bin .add (tm 6) (ki 1)), od 8 (.slice 0 (.const
 (sV [48, 49, 50, 51, 52, 53, 54, 55, 56, 57, 97, 98, 99, 100, 101, 102, 103, 104, 105, 106, 107, 108, 109, 110, 111, 112, 113, 114, 115, 116, 117, 118, 119, 120, 121, 122])) (some (tm 5)) (some (tm 7)) none), om 2 8] [kp [2] []])
 .ret) .skip)) (.seq (.reg [om 9 0, od 10 (.bin .mul (tm 9) (ki 2)), om 11 0, od 12 (.bin .mul (tm 11) (ki 2)), od 13 (.bin .add (tm 12) (ki 2)), od 14 (.slice 0 (.const (sV [48, 48, 48, 49, 48, 50, 48, 51, 48, 52, 48, 53, 48, 54,
 48, 55, 48, 56, 48, 57, 49, 48, 49, 49, 49, 50, 49, 51, 49, 52, 49, 53, 49, 54, 49, 55, 49, 56, 49, 57, 50, 48, 50, 49, 50, 50, 50, 51, 50, 52, 50, 53, 50, 54, 50, 55, 50, 56, 50, 57, 51, 48, 51, 49, 51, 50, 51, 51, 51, 52, 51, 53,
 51, 54, 51, 55, 51, 56, 51, 57, 52, 48, 52, 49, 52, 50, 52, 51, 52, 52, 52, 53, 52, 54, 52, 55, 52, 56, 52, 57, 53, 48, 53, 49, 53, 50, 53, 51, 53, 52, 53, 53, 53, 54, 53, 55, 53, 56, 53, 57, 54, 48, 54, 49, 54, 50, 54, 51, 54, 52,
 54, 53, 54, 54, 54, 55, 54, 56, 54, 57, 55, 48, 55, 49, 55, 50, 55, 51, 55, 52, 55, 53, 55, 54, 55, 55, 55, 56, 55, 57, 56, 48, 56, 49, 56, 50, 56, 51, 56, 52, 56, 53, 56, 54, 56, 55, 56, 56, 56, 57, 57, 48, 57, 49, 57, 50, 57, 51,
 57, 52, 57, 53, 57, 54, 57, 55, 57, 56, 57, 57])) (some (tm 10)) (some (tm 13)) none), om 2 14] [kp [2] []]) .ret)))
def i_strconv_small_rv : List RV := [.tmp 2]
end
end Go.Lg
namespace Go.Lg
open Go Go.Proofs
theorem scans_Insert_chk : chkF Tryz.prog 29 scans_Insert_ic 213 2 scans_Insert_rv = true := by kernel_rfl
theorem scans_builder_add_chk : chkF Tryz.prog 84 scans_builder_add_ic 63 3 scans_builder_add_rv = true := by kernel_rfl
theorem netlists_Copy_chk : chkF Tryz.prog 83 netlists_Copy_ic 64 1 netlists_Copy_rv = true := by kernel_rfl
theorem netlists_copied_api_Node_chk : chkF Tryz.prog 133 netlists_copied_api_Node_ic 6 1 netlists_copied_api_Node_rv = true := by kernel_rfl
theorem netlists_copied_string_chk : chkF Tryz.prog 134 netlists_copied_string_ic 6 1 netlists_copied_string_rv = true := by kernel_rfl
theorem netlists_copied_api_Memory_chk : chkF Tryz.prog 135 netlists_copied_api_Memory_ic 6 1 netlists_copied_api_Memory_rv = true := by kernel_rfl
theorem netlists_copied_int_chk : chkF Tryz.prog 136 netlists_copied_int_ic 6 1 netlists_copied_int_rv = true := by kernel_rfl
theorem slices_Clone_api_Node_chk : chkF Tryz.prog 162 slices_Clone_api_Node_ic 8 1 slices_Clone_api_Node_rv = true := by kernel_rfl
theorem slices_Clone_string_chk : chkF Tryz.prog 163 slices_Clone_string_ic 8 1 slices_Clone_string_rv = true := by kernel_rfl
theorem slices_Clone_api_Memory_chk : chkF Tryz.prog 165 slices_Clone_api_Memory_ic 8 1 slices_Clone_api_Memory_rv = true := by kernel_rfl
theorem slices_Clip_api_Node_chk : chkF Tryz.prog 88 slices_Clip_api_Node_ic 9 1 slices_Clip_api_Node_rv = true := by kernel_rfl
theorem slices_Clip_string_chk : chkF Tryz.prog 89 slices_Clip_string_ic 9 1 slices_Clip_string_rv = true := by kernel_rfl
theorem slices_Clip_api_Memory_chk : chkF Tryz.prog 164 slices_Clip_api_Memory_ic 9 1 slices_Clip_api_Memory_rv = true := by kernel_rfl
theorem strconv_Itoa_chk : chkF Tryz.prog 87 strconv_Itoa_ic 5 1 strconv_Itoa_rv = true := by kernel_rfl
theorem i_strconv_Itoa_chk : chkF Tryz.prog 137 i_strconv_Itoa_ic 5 1 i_strconv_Itoa_rv = true := by kernel_rfl
theorem i_strconv_FormatInt_chk : chkF Tryz.prog 166 i_strconv_FormatInt_ic 54 2 i_strconv_FormatInt_rv = true := by kernel_rfl
theorem i_strconv_small_chk : chkF Tryz.prog 183 i_strconv_small_ic 15 1 i_strconv_small_rv = true := by kernel_rfl
end Go.Lg
namespace Go.Lg
open Go Go.Proofs
variable {Γ : Tables}
def itoaL (i : Nat) : List UInt8 := if i < 10 then [UInt8.ofNat (48 + i)] else [UInt8.ofNat (48 + i / 10), UInt8.ofNat (48 + i % 10)]
def dig1 : List UInt8 := [48, 49, 50, 51, 52, 53, 54, 55, 56, 57, 97, 98, 99, 100, 101, 102, 103, 104, 105, 106, 107, 108, 109, 110, 111, 112, 113, 114, 115, 116, 117, 118, 119, 120, 121, 122]
def dig2 : List UInt8 := (List.range 100).flatMap fun i => [UInt8.ofNat (48 + i / 10), UInt8.ofNat (48 + i % 10)]
theorem dig1_at : ∀ i, i < 10 → ((ByteArray.mk dig1.toArray).extract i (i + 1)).data.toList = [UInt8.ofNat (48 + i)] := by decide +kernel
theorem dig2_at : ∀ i, i < 100 → ((ByteArray.mk dig2.toArray).extract (i * 2) (i * 2 + 2)).data.toList = [UInt8.ofNat (48 + i / 10), UInt8.ofNat (48 + i % 10)] := by decide +kernel
theorem ba_of {a : ByteArray} {l : List UInt8} (h : a.data.toList = l) : a = ByteArray.mk l.toArray := by
  cases a; simp only at h; subst h; rfl
theorem small_spec (i : Nat) (hi : i < 100) : FreshCalls Tryz.prog Γ 183 [tI i] (tS (itoaL i)) := by
  refine run_freshQ i_strconv_small_chk rfl ?_
  by_cases h : i < 10
  · have h' : (i : Int) < 10 := by omega
    have e := ba_of (dig1_at i h)
    simp only [dig1] at e
    simp (disch := omega) [i_strconv_small_ic, sV, h, h', wrap_i64]
    have e1 : ((i : Int) + 1).toNat = i + 1 := by omega
    simp [i_strconv_small_rv, e1, e, itoaL, h, tS, sV]
    omega
  · have h' : ¬ (i : Int) < 10 := by omega
    have e := ba_of (dig2_at i hi)
    have d2 : dig2 = [48, 48, 48, 49, 48, 50, 48, 51, 48, 52, 48, 53, 48, 54, 48, 55, 48, 56, 48, 57, 49, 48, 49, 49, 49, 50, 49, 51, 49, 52, 49, 53, 49, 54, 49, 55, 49, 56, 49, 57, 50, 48, 50, 49, 50, 50, 50, 51, 50, 52, 50, 53, 50, 54, 50, 55, 50, 56, 50, 57, 51, 48, 51, 49, 51, 50, 51, 51, 51, 52, 51, 53, 51, 54, 51, 55, 51, 56, 51, 57, 52, 48, 52, 49, 52, 50, 52, 51, 52, 52, 52, 53, 52, 54, 52, 55, 52, 56, 52, 57, 53, 48, 53, 49, 53, 50, 53, 51, 53, 52, 53, 53, 53, 54, 53, 55, 53, 56, 53, 57, 54, 48, 54, 49, 54, 50, 54, 51, 54, 52, 54, 53, 54, 54, 54, 55, 54, 56, 54, 57, 55, 48, 55, 49, 55, 50, 55, 51, 55, 52, 55, 53, 55, 54, 55, 55, 55, 56, 55, 57, 56, 48, 56, 49, 56, 50, 56, 51, 56, 52, 56, 53, 56, 54, 56, 55, 56, 56, 56, 57, 57, 48, 57, 49, 57, 50, 57, 51, 57, 52, 57, 53, 57, 54, 57, 55, 57, 56, 57, 57] := by decide +kernel
    rw [d2] at e
    simp (disch := omega) [i_strconv_small_ic, sV, h, h', wrap_i64]
    have e1 : ((i : Int) * 2).toNat = i * 2 := by omega
    have e2 : ((i : Int) * 2 + 2).toNat = i * 2 + 2 := by omega
    simp [i_strconv_small_rv, e1, e2, e, itoaL, h, tS, sV]
    omega
theorem itoa_spec (i : Nat) (hi : i < 100) : FreshCalls Tryz.prog Γ 87 [tI i] (tS (itoaL i)) := by
  have h1 : FreshCalls Tryz.prog Γ 166 [tI i, tI 10] (tS (itoaL i)) := by
    refine run_freshQ i_strconv_FormatInt_chk rfl ?_
    have h0 : (0 : Int) ≤ i := by omega
    have h2 : (i : Int) < 100 := by omega
    simp (disch := omega) [i_strconv_FormatInt_ic, h2]
    refine callK_fresh (small_spec i hi) rfl ?_
    simp [i_strconv_FormatInt_rv, tS, sV]
  have h2 : FreshCalls Tryz.prog Γ 137 [tI i] (tS (itoaL i)) := by
    refine run_freshQ i_strconv_Itoa_chk rfl ?_
    simp [i_strconv_Itoa_ic]
    refine callK_fresh h1 rfl ?_
    simp [i_strconv_Itoa_rv, tS, sV]
  refine run_freshQ strconv_Itoa_chk rfl ?_
  simp [strconv_Itoa_ic]
  refine callK_fresh h2 rfl ?_
  simp [strconv_Itoa_rv, tS, sV]
end Go.Lg
namespace Go.Lg
open Go
section
variable {P : Program} {Γ : Tables} {Q : AX → St → Prop} {s : St}
/- probecard/scans.Balance (function 94) -/
abbrev scans_Check_g0 : IC := .gh (.seq (.reg [od 32 (.bin .lss (tm 31) (tm 30))] [kp [2, 6, 20, 21, 22, 29, 30, 31, 32] [19]]) (.seq (.cond (tm 32) .skip (.exit 2)) (.seq (.block 3 (.seq (.reg [od 33 (ia 1 29 31), od 34 (ld 1 33), om 10 34] [kp [2, 6, 10, 20,
 21, 22, 29, 30, 31] [19]]) (.seq (.seq (.reg [om 35 10, od 36 (.bin .lss (tm 35) (ki 0)), om 37 36, oF 38 (.mv (tm 10)) 37, oF 39 (fa 0 2) 37, oF 40 (ld 1 39) 37, oF 41 (le 0 40) 37, oF 42 (.bin .geq (tm 38) (tm 41)) 37, od 43
 (.pick (tm 37) kT (tm 42)), om 44 43, oF 45 (fa 0 2) 44, oF 46 (ld 1 45) 44, oF 47 (.mv (tm 10)) 44, oF 48 (ia 4 46 47) 44, oF 49 (fa 0 48) 44, oF 50 (ld 1 49) 44, oF 51 (.bin .neq (tm 50) (ku 14)) 44, od 52 (.pick (tm 44) kT (tm
 51)), om 53 52, oF 54 (.mv (tm 6)) 53, oF 55 (.mv (tm 10)) 53, oF 56 (.lkup (.int .i64) (.bool false) false (tm 54) (tm 55)) 53, od 57 (.pick (tm 53) kT (tm 56))] [kp [2, 6, 10, 20, 21, 22, 29, 30, 31, 57] [19]]) (.cond (tm 57)
 (.seq (.reg [od 4 (.mv (ki 1))] [kp [4] []]) .ret) .skip)) (.reg [om 58 6, om 59 10, on (.mup (.int .i64) (tm 58) (tm 59) kT)] [kp [2, 6, 20, 21, 22, 29, 30, 31] [19]])))) (.reg [od 60 (.bin .add (tm 31) (ki 1)), om 31 60] [kp [2,
 6, 20, 21, 22, 29, 30, 31] [19]])))) [kp [2, 6, 20, 21, 22, 29, 30, 31] [19]]
def scans_Check_l1 : IC := .loop scans_Check_g0
abbrev scans_Check_g2 : IC := .gh (.seq (.reg [od 23 (.bin .lss (tm 22) (tm 21))] [kp [2, 6, 20, 21, 22, 23] [19]]) (.seq (.cond (tm 23) .skip (.exit 0)) (.seq (.block 1 (.seq (.reg [od 24 (ia 1 20 22), od 25 (ld 1 24), om 8 25] [kp [2, 6, 8, 20, 21, 22] [19]])
 (.seq (.seq (.reg [om 26 8, od 27 (le 0 26), od 28 (.bin .eql (tm 27) (ki 0))] [kp [2, 6, 8, 20, 21, 22, 28] [19]]) (.cond (tm 28) (.seq (.reg [od 4 (.mv (ki 1))] [kp [4] []]) .ret) .skip)) (.seq (.reg [om 29 8, od 30 (le 0 29), od
 31 (.mv (ki 0))] [kp [2, 6, 20, 21, 22, 29, 30, 31] [19]]) (.block 2 scans_Check_l1))))) (.reg [od 61 (.bin .add (tm 22) (ki 1)), om 22 61] [kp [2, 6, 20, 21, 22] [19]])))) [kp [2, 6, 20, 21, 22] [19]]
def scans_Check_l3 : IC := .loop scans_Check_g2
abbrev scans_Check_ic : IC := (.seq (.reg [od 2 (.box true (tm 0)), od 4 (.mv (ki 0))] [kp [1, 2] []]) (.seq (.seq (.reg [od 11 (lG 4 2), od 12 (.call 132 [(tm 11)]), om 5 12] [kp [1, 2, 5] []]) (.seq (.reg [om 13 5, od 14 (.bin .neq (tm 13) (ki 0))] [kp [1, 2,
 5, 14] []]) (.cond (tm 14) (.seq (.reg [om 15 5, om 4 15] [kp [4] []]) .ret) .skip))) (.seq (.seq (.reg [om 16 1, od 17 (le 0 16), od 18 (.bin .gtr (tm 17) (ki 64))] [kp [1, 2, 18] []]) (.cond (tm 18) (.seq (.reg [od 4 (.mv (ki
 3))] [kp [4] []]) .ret) .skip)) (.seq (.reg [od 19 (.mkmap), om 6 19] [kp [1, 2, 6] [19]]) (.seq (.seq (.reg [om 20 1, od 21 (le 0 20), od 22 (.mv (ki 0))] [kp [2, 6, 20, 21, 22] [19]]) (.block 0 scans_Check_l3)) (.seq (.seq (.reg
 [om 62 6, od 63 (le 2 62), od 64 (lG 4 2), od 65 (.call 27 [(tm 64)]), od 66 (le 0 65), od 67 (.bin .neq (tm 63) (tm 66))] [kp [67] []]) (.cond (tm 67) (.seq (.reg [od 4 (.mv (ki 8))] [kp [4] []]) .ret) .skip)) (.seq (.reg [od 4
 (.mv (ki 0))] [kp [4] []]) .ret)))))))
theorem scans_Check_l1_run (h : ∀ K : St → Prop, K = run P Γ scans_Check_l1 Q → run P Γ scans_Check_g0 (thenX K Q) s) : run P Γ scans_Check_l1 Q s := run_loop h
theorem scans_Check_l3_run (h : ∀ K : St → Prop, K = run P Γ scans_Check_l3 Q → run P Γ scans_Check_g2 (thenX K Q) s) : run P Γ scans_Check_l3 Q s := run_loop h
def scans_Check_rv : List RV := [.tmp 4]
/- probecard/scans.Length (function 96) -/
end
end Go.Lg
namespace Go.Lg
open Go Go.Proofs
theorem scans_Check_chk : chkF Tryz.prog 82 scans_Check_ic 68 2 scans_Check_rv = true := by kernel_rfl
end Go.Lg
namespace Go.Lg
open Go Go.Proofs
variable {Γ : Tables}
def seenI (l : List Int) : List (Value × T) := l.map fun n => (.int .i64 n, tB true)
theorem seenI_find (x : Int) : ∀ l : List Int, findM (.int .i64 x) (seenI l) = if x ∈ l then some (tB true) else none
  | [] => rfl
  | y :: l => by
    have ih := seenI_find x l
    simp only [seenI, List.map_cons, findM, keyEq, int_beq] at ih ⊢
    by_cases h : x = y
    · simp [h]
    · simp [h, ih]
theorem seenI_set (x : Int) : ∀ l : List Int, x ∉ l → setM (.int .i64 x) (tB true) (seenI l) = seenI (l ++ [x])
  | [], _ => rfl
  | y :: l, h => by
    have ih := seenI_set x l (fun hm => h (List.mem_cons_of_mem _ hm))
    have hne : x ≠ y := fun e => h (by simp [e])
    simp only [seenI, List.map_cons, setM, keyEq, int_beq, List.cons_append] at ih ⊢
    simp [hne, ih]
theorem seenI_fit (l : List Int) : keysFit (.int .i64) (seenI l) := by
  intro e he; obtain ⟨s, _, rfl⟩ := List.mem_map.1 he; rfl
theorem seenI_len (l : List Int) : (seenI l).length = l.length := by simp [seenI]
def elemBad (c : Cir) (done : List Int) (n : Int) : Bool := decide (n < 0 ∨ (c.nodes.l.length : Int) ≤ n ∨ kindAt c n.toNat ≠ 14 ∨ n ∈ done)
def goElems (c : Cir) : List Int → List Int → Option (List Int)
  | done, [] => some done
  | done, n :: l => if elemBad c done n then none else goElems c (done ++ [n]) l
def goChains (c : Cir) : List Int → List (Sl Int) → Option (List Int)
  | done, [] => some done
  | done, s :: l => if s.l = [] then none else (goElems c done s.l).bind fun d => goChains c d l
theorem elems_loop {Q : AX → St → Prop} (c : Cir) (hn : c.nodes.l.length ≤ 1000000000) (chs : T) (a21 a22 : T) (s : Sl Int) (hs : s.l.length ≤ 1000000000) (R : Option (List Int))
    (h0 : ∀ d, R = some d → Q (.exit 2) ⟨[(2, .t (.ip (tC c) 0)), (6, .lm 19), (20, .t chs), (21, .t a21), (22, .t a22), (29, .t (tSl s)), (30, .t (tI s.l.length)), (31, .t (tI s.l.length)), (32, .t (tB false))], [(19, .mp (seenI d))]⟩)
    (h1 : R = none → Q .ret ⟨[(4, .t (tI 1))], []⟩) : ∀ (kk k : Nat) (done : List Int), kk + k = s.l.length → goElems c done (s.l.drop k) = R →
    run Tryz.prog Γ scans_Check_l1 Q ⟨[(2, .t (.ip (tC c) 0)), (6, .lm 19), (20, .t chs), (21, .t a21), (22, .t a22), (29, .t (tSl s)), (30, .t (tI s.l.length)), (31, .t (tI k))], [(19, .mp (seenI done))]⟩
  | 0, k, done, h, hR => by
    refine scans_Check_l1_run fun K hK => ?_
    have h2 : ¬ k < s.l.length := by omega
    have h3 : k = s.l.length := by omega
    simp [h2]
    subst h3
    rw [List.drop_of_length_le (Nat.le_refl _)] at hR
    exact h0 _ hR.symm
  | kk + 1, k, done, h, hR => by
    refine scans_Check_l1_run fun K hK => ?_
    have h2 : k < s.l.length := by omega
    rw [List.drop_eq_getElem_cons h2] at hR
    simp only [goElems] at hR
    have hfit := seenI_fit done
    generalize hx : s.l[k] = n at hR
    by_cases b1 : n < 0
    · rw [if_pos (show elemBad c done n = true by simp [elemBad, b1])] at hR
      simp (disch := omega) [h2, tSl, enc1_len, enc1_get (0 : Int), enc1_wid, hx, b1]
      exact h1 hR.symm
    by_cases b2 : (c.nodes.l.length : Int) ≤ n
    · rw [if_pos (show elemBad c done n = true by simp [elemBad, b2])] at hR
      simp (disch := omega) [h2, tSl, enc1_len, enc1_get (0 : Int), enc1_wid, hx, b1, b2, tC, tNodes, encN_len]
      exact h1 hR.symm
    have hj : n.toNat < c.nodes.l.length := by omega
    have hk : kindAt c n.toNat = c.nodes.l[n.toNat].k := by simp [kindAt, hj]
    by_cases b3 : c.nodes.l[n.toNat].k = 14
    case neg =>
      rw [if_pos (show elemBad c done n = true by simp [elemBad, hk, b3])] at hR
      simp (disch := omega) [h2, tSl, enc1_len, enc1_get (0 : Int), enc1_wid, hx, b1, b2, tC, tNodes, encN_len, encN_get Nd.d, tNd_wid, tNd, hj, b3]
      exact ⟨by omega, h1 hR.symm⟩
    by_cases b4 : n ∈ done
    · rw [if_pos (show elemBad c done n = true by simp [elemBad, b4])] at hR
      simp (disch := omega) [h2, tSl, enc1_len, enc1_get (0 : Int), enc1_wid, hx, b1, b2, tC, tNodes, encN_len, encN_get Nd.d, tNd_wid, tNd, hj, b3, KT.fits, hfit, seenI_find, b4]
      exact ⟨by omega, h1 hR.symm⟩
    rw [if_neg (show ¬ elemBad c done n = true by simp [elemBad, b1, b2, hk, b3, b4])] at hR
    simp (disch := omega) [h2, tSl, enc1_len, enc1_get (0 : Int), enc1_wid, hx, b1, b2, tC, tNodes, encN_len, encN_get Nd.d, tNd_wid, tNd, hj, b3, KT.fits, hfit, seenI_find, b4, seenI_set, wrap_i64]
    refine ⟨by omega, ?_⟩
    rw [hK]
    have := elems_loop c hn chs a21 a22 s hs R h0 h1 kk (k + 1) (done ++ [n]) (by omega) hR
    simpa [tSl, tC, tNodes] using this
theorem chains_loop {Q : AX → St → Prop} (c : Cir) (hn : c.nodes.l.length ≤ 1000000000) (chs : Sl (Sl Int)) (hl : chs.l.length ≤ 1000000000) (hs : ∀ s ∈ chs.l, s.l.length ≤ 1000000000) (R : Option (List Int))
    (h0 : ∀ d, R = some d → Q (.exit 0) ⟨[(2, .t (.ip (tC c) 0)), (6, .lm 19), (20, .t (tChs chs)), (21, .t (tI chs.l.length)), (22, .t (tI chs.l.length)), (23, .t (tB false))], [(19, .mp (seenI d))]⟩)
    (h1 : R = none → Q .ret ⟨[(4, .t (tI 1))], []⟩) : ∀ (kk k : Nat) (done : List Int), kk + k = chs.l.length → goChains c done (chs.l.drop k) = R →
    run Tryz.prog Γ scans_Check_l3 Q ⟨[(2, .t (.ip (tC c) 0)), (6, .lm 19), (20, .t (tChs chs)), (21, .t (tI chs.l.length)), (22, .t (tI k))], [(19, .mp (seenI done))]⟩
  | 0, k, done, h, hR => by
    refine scans_Check_l3_run fun K hK => ?_
    have h2 : ¬ k < chs.l.length := by omega
    have h3 : k = chs.l.length := by omega
    simp [h2]
    subst h3
    rw [List.drop_of_length_le (Nat.le_refl _)] at hR
    exact h0 _ hR.symm
  | kk + 1, k, done, h, hR => by
    refine scans_Check_l3_run fun K hK => ?_
    have h2 : k < chs.l.length := by omega
    have hsl := hs _ (List.getElem_mem h2)
    rw [List.drop_eq_getElem_cons h2] at hR
    simp only [goChains] at hR
    by_cases he : chs.l[k].l = []
    · rw [if_pos he] at hR
      simp (disch := omega) [h2, tChs, enc1_len, enc1_get Sl.d, enc1_wid, tSl, he, enc1_nil]
      exact h1 hR.symm
    rw [if_neg he] at hR
    have he' : ¬ chs.l[k].l.length = 0 := fun e => he (List.eq_nil_of_length_eq_zero e)
    simp (disch := omega) [h2, tChs, enc1_len, enc1_get Sl.d, enc1_wid, tSl, he, he']
    refine elems_loop c hn (.sl (enc1 tSl chs.l) chs.cap chs.nl) (tI chs.l.length) (tI k) chs.l[k] hsl (goElems c done chs.l[k].l) (fun d hd => ?_) (fun hd => ?_) chs.l[k].l.length 0 done (by omega) rfl
    · rw [hd] at hR
      simp (disch := omega) [wrap_i64]
      rw [hK]
      have := chains_loop c hn chs hl hs R h0 h1 kk (k + 1) d (by omega) hR
      simpa [tChs] using this
    · rw [hd] at hR
      simp
      exact h1 hR.symm
def checkErr (c : Cir) (chs : List (Sl Int)) : Int :=
  if plainErr c ≠ 0 then plainErr c else if 64 < chs.length then 3 else match goChains c [] chs with
    | none => 1
    | some d => if d.length ≠ (states c).length then 8 else 0
theorem scheck_spec (hΓ : GOk Γ) (c : Cir) (hc : COk c) (chs : Sl (Sl Int)) (hl : chs.l.length ≤ 1000000000) (hs : ∀ s ∈ chs.l, s.l.length ≤ 1000000000) : FreshCalls Tryz.prog Γ 82 [.agg (tC c), tChs chs] (tI (checkErr c chs.l)) := by
  refine run_freshQ scans_Check_chk rfl ?_
  simp [scans_Check_ic, tC, tNodes, tNames, tMems, tSl]
  refine callK_fresh (plain_spec hΓ c hc) rfl ?_
  by_cases h1 : plainErr c = 0
  case neg =>
    have : checkErr c chs.l = plainErr c := by unfold checkErr; rw [if_pos h1]
    simp [h1, scans_Check_rv, this]
  have hp : checkErr c chs.l = if 64 < chs.l.length then 3 else match goChains c [] chs.l with
    | none => 1
    | some d => if d.length ≠ (states c).length then 8 else 0 := by unfold checkErr; rw [if_neg (show ¬ (plainErr c ≠ 0) by simp [h1])]
  by_cases h2 : 64 < chs.l.length
  · rw [if_pos h2] at hp
    have h2' : (64 : Int) < chs.l.length := by omega
    simp [h1, tChs, enc1_len, h2', scans_Check_rv, hp]
  rw [if_neg h2] at hp
  have h2' : ¬ (64 : Int) < chs.l.length := by omega
  simp [h1, tChs, enc1_len, h2']
  refine chains_loop c hc.nodes chs hl hs (goChains c [] chs.l) (fun d hd => ?_) (fun hd => ?_) chs.l.length 0 [] (by omega) rfl
  case refine_2 =>
    rw [hd] at hp
    simp [scans_Check_rv, hp]
  rw [hd] at hp
  simp only at hp
  simp [seenI_len, tC, tNodes, tNames, tMems, tSl]
  refine callK_pure (states_spec c hc) rfl ?_
  by_cases h3 : d.length = (states c).length
  · rw [if_neg (show ¬ (d.length ≠ (states c).length) by simp [h3])] at hp
    simp [enc1_len, h3, scans_Check_rv, hp]
  · rw [if_pos h3] at hp
    have h3' : ¬ (d.length : Int) = (states c).length := by omega
    simp [enc1_len, h3, h3', scans_Check_rv, hp]
end Go.Lg
namespace Go.Lg
open Go Go.Proofs
variable {Γ : Tables}
abbrev Pnt := Int × Int
def atOf (l : List (Int × Pnt)) (n : Int) : Pnt := match l.find? (fun p => p.1 == n) with | some p => p.2 | none => (0, 0)
def Small (l : List (Int × Pnt)) : Prop := ∀ p ∈ l, -1000000 ≤ p.2.1 ∧ p.2.1 ≤ 1000000 ∧ -1000000 ≤ p.2.2 ∧ p.2.2 ≤ 1000000
theorem Small.at {l : List (Int × Pnt)} (h : Small l) (n : Int) : -1000000 ≤ (atOf l n).1 ∧ (atOf l n).1 ≤ 1000000 ∧ -1000000 ≤ (atOf l n).2 ∧ (atOf l n).2 ≤ 1000000 := by
  unfold atOf
  split
  · rename_i p hp
    exact h p (List.mem_of_find?_eq_some hp)
  · simp
end Go.Lg
namespace Go.Lg
open Go Go.Proofs
variable {Γ : Tables}
theorem states_nodup (c : Cir) : (states c).Nodup := (ofL_nodup _ _ _).2
end Go.Lg
namespace Go.Lg
open Go Go.Proofs
variable {Γ : Tables}
def SlOk {α : Type} (s : Sl α) : Prop := (s.nl = some true → s.l = []) ∧ (s.nl = none → s.l ≠ []) ∧ s.l.length ≤ 1000000
def cpS (s : Sl Int) : Sl Int := ⟨s.l, some s.l.length, if s.nl = some true then some true else none⟩
theorem clone_int_a (s : Sl Int) (hs : SlOk s) : FreshCalls Tryz.prog Γ 86 [tSl s] (if s.nl = some true then .sl [] (some 0) (some true) else .sl (ints s.l) none none) := by
  refine run_freshQ slices_Clone_int_chk rfl ?_
  obtain ⟨l, cap, nl⟩ := s
  obtain ⟨h1, h2, h3⟩ := hs
  simp only at h1 h2 h3
  rcases nl with _ | _ | _
  · have h4 : ints l ≠ [] := by simpa [enc1] using h2 rfl
    simp (disch := omega) [slices_Clone_int_ic, slices_Clone_int_rv, enc1_wid, enc1_len, h4, Later, tSl]
    omega
  · simp (disch := omega) [slices_Clone_int_ic, slices_Clone_int_rv, enc1_wid, enc1_len, Later, tSl]
    omega
  · have := h1 rfl
    subst this
    simp [slices_Clone_int_ic, slices_Clone_int_rv, tSl]
theorem copied_int_spec (s : Sl Int) (hs : SlOk s) : PureCalls Tryz.prog Γ 136 [tSl s] (tSl (cpS s)) := by
  refine run_pureQ netlists_copied_int_chk rfl ?_
  have e1 := clone_int_a (Γ := Γ) s hs
  obtain ⟨l, cap, nl⟩ := s
  obtain ⟨h1, h2, h3⟩ := hs
  simp only at h1 h2 h3
  simp only at e1
  simp [netlists_copied_int_ic, tSl]
  refine callK_fresh e1 rfl ?_
  rcases nl with _ | _ | _
  · simp
    refine callK_pure (clip_int (ints l) none none enc1_wid) rfl ?_
    simp [netlists_copied_int_rv, cpS, enc1_len]
  · simp
    refine callK_pure (clip_int (ints l) none none enc1_wid) rfl ?_
    simp [netlists_copied_int_rv, cpS, enc1_len]
  · have := h1 rfl
    subst this
    simp
    refine callK_pure (clip_int [] (some 0) (some true) (by simp)) rfl ?_
    simp [netlists_copied_int_rv, cpS, enc1_len, enc1_nil]
theorem copied_names_spec (l : List (List UInt8)) (cap : Option Nat) (nl : Option Bool) (hq : nl ≠ some true) (h : l ≠ []) (hl : l.length ≤ 1000000) : PureCalls Tryz.prog Γ 134 [.sl (enc1 tS l) cap nl] (.sl (enc1 tS l) (some l.length) none) := by
  refine run_pureQ netlists_copied_string_chk rfl ?_
  have h4 : enc1 tS l ≠ [] := by simpa [enc1] using h
  have e1 : PureCalls Tryz.prog Γ 163 [.sl (enc1 tS l) cap nl] (.sl (enc1 tS l) none none) := by
    refine run_pureQ slices_Clone_string_chk rfl ?_
    rcases nl with _ | _ | _
    · simp (disch := omega) [slices_Clone_string_ic, slices_Clone_string_rv, enc1_wid, enc1_len, h4, Later]
      omega
    · simp (disch := omega) [slices_Clone_string_ic, slices_Clone_string_rv, enc1_wid, enc1_len, h4, Later]
      omega
    · exact absurd rfl hq
  have e2 : PureCalls Tryz.prog Γ 89 [.sl (enc1 tS l) none none] (.sl (enc1 tS l) (some l.length) none) := by
    refine run_pureQ slices_Clip_string_chk rfl ?_
    simp [slices_Clip_string_ic, slices_Clip_string_rv, enc1_wid, enc1_len]
  simp [netlists_copied_string_ic]
  refine callK_pure e1 rfl ?_
  simp
  refine callK_pure e2 rfl ?_
  simp [netlists_copied_string_rv]
theorem copied_mems_nil : PureCalls Tryz.prog Γ 135 [.sl [] (some 0) (some true)] (.sl [] (some 0) (some true)) := by
  refine run_pureQ netlists_copied_api_Memory_chk rfl ?_
  have e1 : PureCalls Tryz.prog Γ 165 [.sl [] (some 0) (some true)] (.sl [] (some 0) (some true)) := by
    refine run_pureQ slices_Clone_api_Memory_chk rfl ?_
    simp [slices_Clone_api_Memory_ic, slices_Clone_api_Memory_rv]
  have e2 : PureCalls Tryz.prog Γ 164 [.sl [] (some 0) (some true)] (.sl [] (some 0) (some true)) := by
    refine run_pureQ slices_Clip_api_Memory_chk rfl ?_
    simp [slices_Clip_api_Memory_ic, slices_Clip_api_Memory_rv]
  simp [netlists_copied_api_Memory_ic]
  refine callK_pure e1 rfl ?_
  simp
  refine callK_pure e2 rfl ?_
  simp [netlists_copied_api_Memory_rv]
theorem copied_nodes_h (l : List Nd) (cap : Option Nat) (nl : Option Bool) (hq : nl ≠ some true) (h : l ≠ []) (hl : l.length ≤ 1000000) : HCalls Tryz.prog Γ 133 [] [.t (.sl (encN tNd l) cap nl)] (.ls 4007 0 l.length (some l.length)) [(4007, .sl 104 4 (encN tNd l))] := by
  refine run_handQ netlists_copied_api_Node_chk rfl ?_
  have h4 : encN tNd l ≠ [] := by simpa [encN] using h
  have e1 : HCalls Tryz.prog Γ 162 [] [.t (.sl (encN tNd l) cap nl)] (.ls 7 0 l.length none) [(7, .sl 104 4 (encN tNd l))] := by
    refine run_handQ slices_Clone_api_Node_chk rfl ?_
    rcases nl with _ | _ | _
    · simp (disch := omega) [slices_Clone_api_Node_ic, slices_Clone_api_Node_rv, tNd_wid, encN_len, h4, Later]
      omega
    · simp (disch := omega) [slices_Clone_api_Node_ic, slices_Clone_api_Node_rv, tNd_wid, encN_len, h4, Later]
      omega
    · exact absurd rfl hq
  have e2 : HCalls Tryz.prog Γ 88 [(1000000, .sl 104 4 (encN tNd l))] [.ls 1000000 0 l.length none] (.ls 1000000 0 l.length (some l.length)) [(1000000, .sl 104 4 (encN tNd l))] := by
    refine run_handQ slices_Clip_api_Node_chk rfl ?_
    simp [slices_Clip_api_Node_ic, slices_Clip_api_Node_rv, tNd_wid, encN_len]
  simp [netlists_copied_api_Node_ic]
  refine ⟨_, _, e1, ?_⟩
  simp
  refine ⟨_, _, e2, ?_⟩
  simp [netlists_copied_api_Node_rv]
end Go.Lg
namespace Go.Lg
open Go Go.Proofs
variable {Γ : Tables}
theorem clone_val (s : Sl Int) (hs : SlOk s) : PureCalls Tryz.prog Γ 93 [tV s] (if s.nl = some true then .sl [] (some 0) (some true) else .sl (vals s.l) none none) := by
  refine run_pureQ slices_Clone_api_Value_chk rfl ?_
  obtain ⟨l, cap, nl⟩ := s
  obtain ⟨h1, h2, h3⟩ := hs
  simp only at h1 h2 h3
  rcases nl with _ | _ | _
  · have h4 : vals l ≠ [] := by simpa [enc1] using h2 rfl
    simp (disch := omega) [slices_Clone_api_Value_ic, slices_Clone_api_Value_rv, enc1_wid, enc1_len, h4, Later, tV]
    omega
  · simp (disch := omega) [slices_Clone_api_Value_ic, slices_Clone_api_Value_rv, enc1_wid, enc1_len, Later, tV]
    omega
  · have := h1 rfl
    subst this
    simp [slices_Clone_api_Value_ic, slices_Clone_api_Value_rv, tV]
end Go.Lg
namespace Go.Lg
open Go Go.Proofs
variable {Γ : Tables}
theorem tr_split {w : World} {X : Nat → Prop} {cap : Option Nat} {v : Value} (h : TR w X (.sl [] cap none) v) : TR w X (.sl [] cap (some true)) v ∨ TR w X (.sl [] cap (some false)) v := by
  cases h with
  | nil _ _ a c hc hn hz =>
    cases a with
    | none => exact .inl (.nil cap (some true) none c hc (fun b hb => by cases hb; rfl) hz)
    | some a => exact .inr (.nil cap (some false) (some a) c hc (fun b hb => by cases hb; rfl) hz)
  | sl _ _ _ s b off c f hcell hlen hrel hone hx hle hc hq =>
    exact .inr (.sl [] cap (some false) s b off c f hcell hlen hrel hone hx hle hc (fun q hq => by cases hq; rfl))
theorem tr_weak {w : World} {X : Nat → Prop} {es : List (List T)} {cap : Option Nat} {nl : Option Bool} {v : Value} (h : TR w X (.sl es cap nl) v) : TR w X (.sl es none none) v := by
  cases h with
  | nil _ _ a c hc hn hz => exact .nil none none a c (fun n h => nomatch h) (fun n h => nomatch h) hz
  | sl _ _ _ s b off c f hcell hlen hrel hone hx hle hc hq => exact .sl es none none s b off c f hcell hlen hrel hone hx hle (fun n h => nomatch h) (fun n h => nomatch h)
theorem pure_weak {P : Program} {f : FuncId} {args : List T} {es : List (List T)} {cap : Option Nat} {nl : Option Bool} (h : PureCalls P Γ f args (.sl es cap nl)) : PureCalls P Γ f args (.sl es none none) :=
  fun w X vs hg hx hr => (h w X vs hg hx hr).mono fun v w' ⟨hb, ht⟩ => ⟨hb, tr_weak ht⟩
theorem pure_split {P : Program} {f : FuncId} {cap : Option Nat} {r : T} (h1 : PureCalls P Γ f [.sl [] cap (some true)] r) (h2 : PureCalls P Γ f [.sl [] cap (some false)] r) : PureCalls P Γ f [.sl [] cap none] r :=
  fun w X vs hg hx hr => by
    obtain ⟨x, ys, rfl, hx1, hy⟩ := hr.cons_inv
    rcases tr_split hx1 with h | h
    · exact h1 w X _ hg hx (TRs.cons h hy)
    · exact h2 w X _ hg hx (TRs.cons h hy)
def cloneS (s : Sl Int) : Sl Int := if s.nl = some true then ⟨[], some 0, some true⟩ else ⟨s.l, none, none⟩
theorem clone_any (s : Sl Int) (h1 : s.nl = some true → s.l = []) (h2 : s.l.length ≤ 1000000) : PureCalls Tryz.prog Γ 93 [tV s] (tV (cloneS s)) := by
  obtain ⟨l, cap, nl⟩ := s
  simp only at h1 h2
  by_cases h3 : nl = none ∧ l = []
  · obtain ⟨rfl, rfl⟩ := h3
    have a1 := clone_val (Γ := Γ) ⟨[], cap, some true⟩ ⟨fun _ => rfl, (fun h => nomatch h), Nat.zero_le _⟩
    have a2 := clone_val (Γ := Γ) ⟨[], cap, some false⟩ ⟨(fun h => nomatch h), (fun h => nomatch h), Nat.zero_le _⟩
    exact pure_split (pure_weak a1) (pure_weak a2)
  · have := clone_val (Γ := Γ) ⟨l, cap, nl⟩ ⟨h1, fun a b => h3 ⟨a, b⟩, h2⟩
    unfold cloneS
    by_cases hn : nl = some true
    · have hl := h1 hn
      subst hn
      subst hl
      simpa [tV, enc1_nil] using this
    · simpa [tV, hn] using this
theorem cloneS_l (s : Sl Int) (h1 : s.nl = some true → s.l = []) : (cloneS s).l = s.l := by
  unfold cloneS
  split
  · rename_i h; exact (h1 h).symm
  · rfl
end Go.Lg
namespace Go.Lg
open Go
section
variable {P : Program} {Γ : Tables} {Q : AX → St → Prop} {s : St}
/- probecard/shifts.Depth (function 39) -/
abbrev shifts_Depth_g0 : IC := .gh (.seq (.reg [od 9 (.bin .lss (tm 8) (tm 7))] [kp [3, 6, 7, 8, 9] []]) (.seq (.cond (tm 9) .skip (.exit 0)) (.seq (.block 1 (.seq (.reg [od 10 (ia 1 6 8), od 11 (ld 1 10), om 5 11] [kp [3, 5, 6, 7, 8] []]) (.reg [om 12 3, om 13
 5, od 14 (le 0 13), od 15 (.mmx true [(tm 12), (tm 14)]), om 3 15] [kp [3, 6, 7, 8] []]))) (.reg [od 16 (.bin .add (tm 8) (ki 1)), om 8 16] [kp [3, 6, 7, 8] []])))) [kp [3, 6, 7, 8] []]
def shifts_Depth_l1 : IC := .loop shifts_Depth_g0
abbrev shifts_Depth_ic : IC := (.seq (.reg [od 2 (.mv (ki 0))] [kp [0] []]) (.seq (.reg [od 3 (.mv (ki 0))] [kp [0, 3] []]) (.seq (.seq (.reg [om 6 0, od 7 (le 0 6), od 8 (.mv (ki 0))] [kp [3, 6, 7, 8] []]) (.block 0 shifts_Depth_l1)) (.seq (.reg [om 17 3, om 2
 17] [kp [2] []]) .ret))))
theorem shifts_Depth_l1_run (h : ∀ K : St → Prop, K = run P Γ shifts_Depth_l1 Q → run P Γ shifts_Depth_g0 (thenX K Q) s) : run P Γ shifts_Depth_l1 Q s := run_loop h
def shifts_Depth_rv : List RV := [.tmp 2]
/- probecard/shifts.values (function 101) -/
abbrev shifts_values_ic : IC := (.seq (.reg [od 4 (.mv (ki 0))] [kp [0, 1] []]) (.seq (.seq (.reg [om 5 0, od 6 (le 0 5), om 7 1, od 8 (.bin .neq (tm 6) (tm 7))] [kp [0, 8] []]) (.cond (tm 8) (.seq (.reg [od 4 (.mv (ki 8))] [kp [4] []]) .ret) .skip)) (.seq (.seq
 (.reg [om 9 0, od 10 (.call 76 [(tm 9), (.func 144)])] [kp [10] []]) (.cond (tm 10) (.seq (.reg [od 4 (.mv (ki 1))] [kp [4] []]) .ret) .skip)) (.seq (.reg [od 4 (.mv (ki 0))] [kp [4] []]) .ret))))
def shifts_values_rv : List RV := [.tmp 4]
/- probecard/shifts.values$1 (function 144) -/
abbrev shifts_values_1_ic : IC := (.seq (.reg [od 2 (.mv kF)] [kp [0] []]) (.seq (.reg [om 3 0, od 4 (.bin .gtr (tm 3) (ku 3)), om 2 4] [kp [2] []]) .ret))
def shifts_values_1_rv : List RV := [.tmp 2]
/- probecard/shifts.loads (function 102) -/
abbrev shifts_loads_g0 : IC := .gh (.seq (.reg [od 22 (.bin .lss (tm 21) (tm 20))] [kp [1, 2, 7, 19, 20, 21, 22] [17]]) (.seq (.cond (tm 22) .skip (.exit 0)) (.seq (.block 1 (.seq (.reg [om 23 21, od 24 (ia 1 19 21), od 25 (ld 1 24), om 8 23, om 9 25] [kp [1, 2,
 7, 8, 9, 19, 20, 21] [17]]) (.reg [om 26 7, om 27 9, om 28 2, om 29 8, od 30 (ia 1 28 29), od 31 (ld 1 30), od 32 (.call 73 [(tm 31)]), on (.mup (.int .i64) (tm 26) (tm 27) (tm 32))] [kp [1, 2, 7, 19, 20, 21] [17]]))) (.reg [od 33
 (.bin .add (tm 21) (ki 1)), om 21 33] [kp [1, 2, 7, 19, 20, 21] [17]])))) [kp [1, 2, 7, 19, 20, 21] [17]]
def shifts_loads_l1 : IC := .loop shifts_loads_g0
abbrev shifts_loads_g2 : IC := .gh (.seq (.reg [od 46 (.bin .lss (tm 45) (tm 44))] [kp [1, 7, 10, 11, 12, 13, 36, 37, 43, 44, 45, 46] [17, 42, 71]]) (.seq (.cond (tm 46) .skip (.exit 4)) (.seq (.block 5 (.seq (.reg [om 47 45, od 48 (ia 1 43 45), od 49 (ld 1 48),
 om 14 47, om 15 49] [kp [1, 7, 10, 11, 12, 13, 14, 15, 36, 37, 43, 44, 45] [17, 42, 71]]) (.seq (.reg [om 50 10, od 51 (.bin .sub (tm 50) (ki 1)), om 52 12, od 53 (.bin .sub (tm 51) (tm 52)), om 16 53] [kp [1, 7, 10, 11, 12, 13,
 14, 15, 16, 36, 37, 43, 44, 45] [17, 42, 71]]) (.seq (.reg [om 54 16, om 55 15, od 56 (le 0 55), od 57 (.bin .lss (tm 54) (tm 56))] [kp [1, 7, 10, 11, 12, 13, 14, 15, 16, 36, 37, 43, 44, 45, 57] [17, 42, 71]]) (.cond (tm 57) (.reg
 [om 58 13, om 59 14, om 60 7, om 61 15, om 62 16, od 63 (ia 1 61 62), od 64 (ld 1 63), od 65 (.lkup (.int .i64) (.int .u8 0) false (tm 60) (tm 64)), od 66 (ia 1 58 59), on (.store 1 (tm 66) (tm 65))] [kp [1, 7, 10, 11, 12, 13, 36,
 37, 43, 44, 45] [17, 42, 71]]) .skip))))) (.reg [od 67 (.bin .add (tm 45) (ki 1)), om 45 67] [kp [1, 7, 10, 11, 12, 13, 36, 37, 43, 44, 45] [17, 42, 71]])))) [kp [1, 7, 10, 11, 12, 13, 36, 37, 43, 44, 45] [17, 42, 71]]
def shifts_loads_l3 : IC := .loop shifts_loads_g2
abbrev shifts_loads_g4 : IC := .gh (.seq (.reg [od 38 (.bin .lss (tm 37) (tm 36))] [kp [1, 7, 10, 11, 36, 37, 38] [17, 71]]) (.seq (.cond (tm 38) .skip (.exit 2)) (.seq (.block 3 (.seq (.reg [om 39 37, om 12 39] [kp [1, 7, 10, 11, 12, 36, 37] [17, 71]]) (.seq
 (.reg [om 40 1, od 41 (le 0 40), od 42 (.mk 68 1 [(.int .u8 0)] (tm 41) (tm 41)), om 13 42] [kp [1, 7, 10, 11, 12, 13, 36, 37] [17, 42, 71]]) (.seq (.seq (.reg [om 43 1, od 44 (le 0 43), od 45 (.mv (ki 0))] [kp [1, 7, 10, 11, 12,
 13, 36, 37, 43, 44, 45] [17, 42, 71]]) (.gh (.block 4 shifts_loads_l3) [.frz 42])) (.reg [om 68 11, om 69 13, od 70 (.bsl true 37 1 [(tm 69)]), od 71 (.app false 37 1 (tm 68) (tm 70)), om 11 71] [kp [1, 7, 10, 11, 36, 37] [17,
 71]]))))) (.reg [od 72 (.bin .add (tm 37) (ki 1)), om 37 72] [kp [1, 7, 10, 11, 36, 37] [17, 71]])))) [kp [1, 7, 10, 11, 36, 37] [17, 71]]
def shifts_loads_l5 : IC := .loop shifts_loads_g4
abbrev shifts_loads_ic : IC := (.seq (.reg [od 3 (.box true (tm 0)), od 6 (.mv kN)] [kp [1, 2, 3] []]) (.seq (.reg [od 17 (.mkmap), om 7 17] [kp [1, 2, 3, 7] [17]]) (.seq (.seq (.reg [od 18 (lG 4 3), od 19 (.call 27 [(tm 18)]), od 20 (le 0 19), od 21 (.mv (ki
 0))] [kp [1, 2, 7, 19, 20, 21] [17]]) (.block 0 shifts_loads_l1)) (.seq (.reg [om 34 1, od 35 (.call 39 [(tm 34)]), om 10 35] [kp [1, 7, 10] [17]]) (.seq (.reg [od 11 (.mv kN)] [.nl 11 71 37 1, kp [1, 7, 10, 11] [17, 71]]) (.seq
 (.seq (.reg [om 36 10, od 37 (.mv (ki 0))] [kp [1, 7, 10, 11, 36, 37] [17, 71]]) (.gh (.block 2 shifts_loads_l5) [.frz 71])) (.seq (.reg [om 73 11, od 74 (.call 104 [(tm 73)]), om 6 74] [kp [6] []]) .ret)))))))
theorem shifts_loads_l1_run (h : ∀ K : St → Prop, K = run P Γ shifts_loads_l1 Q → run P Γ shifts_loads_g0 (thenX K Q) s) : run P Γ shifts_loads_l1 Q s := run_loop h
theorem shifts_loads_l3_run (h : ∀ K : St → Prop, K = run P Γ shifts_loads_l3 Q → run P Γ shifts_loads_g2 (thenX K Q) s) : run P Γ shifts_loads_l3 Q s := run_loop h
theorem shifts_loads_l5_run (h : ∀ K : St → Prop, K = run P Γ shifts_loads_l5 Q → run P Γ shifts_loads_g4 (thenX K Q) s) : run P Γ shifts_loads_l5 Q s := run_loop h
def shifts_loads_rv : List RV := [.tmp 6]
/- probecard/shifts.Loads (function 38) -/
abbrev shifts_Loads_ic : IC := (.seq (.reg [od 3 (.box true (tm 0)), od 6 (.mv kN), od 7 (.mv (ki 0))] [kp [1, 2, 3] []]) (.seq (.seq (.reg [od 12 (lG 4 3), om 13 1, od 14 (.call 29 [(tm 12), (tm 13)]), om 11 14, od 15 (ex 11 0), od 16 (ex 11 1), od 8 (.alloc
 false [(.slice none 0 0), (.slice none 0 0), (.slice none 0 0), (.slice none 0 0), (.slice none 0 0), (.int .i64 0), (.slice none 0 0), (.slice none 0 0)]), on (.store 8 (tm 8) (tm 15)), om 9 16] [kp [1, 2, 3, 9] []]) (.seq (.reg
 [om 17 9, od 18 (.bin .neq (tm 17) (ki 0))] [kp [1, 2, 3, 9, 18] []]) (.cond (tm 18) (.seq (.reg [om 19 9, od 6 (.mv kN), om 7 19] [kp [6, 7] []]) .ret) .skip))) (.seq (.seq (.reg [om 20 2, od 21 (lG 4 3), od 22 (.call 27 [(tm
 21)]), od 23 (le 0 22), od 24 (.call 101 [(tm 20), (tm 23)]), om 10 24] [kp [1, 2, 3, 10] []]) (.seq (.reg [om 25 10, od 26 (.bin .neq (tm 25) (ki 0))] [kp [1, 2, 3, 10, 26] []]) (.cond (tm 26) (.seq (.reg [om 27 10, od 6 (.mv kN),
 om 7 27] [kp [6, 7] []]) .ret) .skip))) (.seq (.reg [od 28 (lG 4 3), om 29 1, om 30 2, od 31 (.call 102 [(tm 28), (tm 29), (tm 30)]), om 6 31, od 7 (.mv (ki 0))] [kp [6, 7] []]) .ret))))
def shifts_Loads_rv : List RV := [.tmp 6, .tmp 7]
/- probecard/shifts.Test (function 42) -/
abbrev shifts_Test_g0 : IC := .gh (.seq (.reg [od 67 (.bin .lss (tm 66) (tm 65))] [kp [1, 5, 12, 13, 14, 15, 64, 65, 66, 67] [56, 59, 76]]) (.seq (.cond (tm 67) .skip (.exit 0)) (.seq (.block 1 (.seq (.reg [od 68 (ia 1 64 66), od 69 (ld 1 68), om 17 69] [kp [1,
 5, 12, 13, 14, 15, 17, 64, 65, 66] [56, 59, 76]]) (.reg [om 70 15, om 71 14, om 72 12, om 73 17, od 74 (.callv (tm 71) [(tm 72), (ku 1), (tm 73)]), od 75 (.bsl true 37 1 [(tm 74)]), od 76 (.app false 37 1 (tm 70) (tm 75)), om 15
 76] [kp [1, 5, 12, 13, 14, 15, 64, 65, 66] [56, 59, 76]]))) (.reg [od 77 (.bin .add (tm 66) (ki 1)), om 66 77] [kp [1, 5, 12, 13, 14, 15, 64, 65, 66] [56, 59, 76]])))) [kp [1, 5, 12, 13, 14, 15, 64, 65, 66] [56, 59, 76]]
def shifts_Test_l1 : IC := .loop shifts_Test_g0
abbrev shifts_Test_g2 : IC := .gh (.seq (.reg [od 89 (.bin .lss (tm 88) (tm 87))] [kp [12, 13, 14, 15, 87, 88, 89] [56, 59, 76]]) (.seq (.cond (tm 89) .skip (.exit 2)) (.seq (.block 3 (.reg [om 90 15, om 91 14, om 92 12, om 93 13, od 94 (.callv (tm 91) [(tm
 92), (ku 1), (tm 93)]), od 95 (.bsl true 37 1 [(tm 94)]), oz 96 (.app false 37 1 (tm 90) (tm 95)) 76, om 15 96] [kp [12, 13, 14, 15, 87, 88] [56, 59, 76]])) (.reg [od 97 (.bin .add (tm 88) (ki 1)), om 88 97] [kp [12, 13, 14, 15,
 87, 88] [56, 59, 76]])))) [kp [12, 13, 14, 15, 87, 88] [56, 59, 76]]
def shifts_Test_l3 : IC := .loop shifts_Test_g2
abbrev shifts_Test_ic : IC := (.seq (.reg [od 3 (.box true (tm 0)), od 5 (.box true (tm 2)), od 6 (.mv kN), od 7 (.mv (ki 0))] [kp [1, 3, 5] []]) (.seq (.seq (.reg [od 19 (lG 4 3), om 20 1, od 21 (.call 29 [(tm 19), (tm 20)]), om 18 21, od 22 (ex 18 0), od 23
 (ex 18 1), od 8 (.alloc false [(.slice none 0 0), (.slice none 0 0), (.slice none 0 0), (.slice none 0 0), (.slice none 0 0), (.int .i64 0), (.slice none 0 0), (.slice none 0 0)]), on (.store 8 (tm 8) (tm 22)), om 9 23] [kp [1, 3,
 5, 9] []]) (.seq (.reg [om 24 9, od 25 (.bin .neq (tm 24) (ki 0))] [kp [1, 3, 5, 9, 25] []]) (.cond (tm 25) (.seq (.reg [om 26 9, od 6 (.mv kN), om 7 26] [kp [6, 7] []]) .ret) .skip))) (.seq (.reg [od 27 (lG 4 3), od 28 (.call 41
 [(tm 27)]), od 29 (le 0 28), od 30 (lG 4 3), od 31 (.call 27 [(tm 30)]), od 32 (le 0 31), om 10 29, om 11 32] [kp [1, 3, 5, 10, 11] []]) (.seq (.seq (.reg [od 33 (fa 0 5), od 34 (ld 1 33), od 35 (le 0 34), om 36 10, od 37 (.bin
 .neq (tm 35) (tm 36)), om 38 37, oF 39 (fa 1 5) 38, oF 40 (ld 1 39) 38, oF 41 (le 0 40) 38, oF 42 (.mv (tm 11)) 38, oF 43 (.bin .neq (tm 41) (tm 42)) 38, od 44 (.pick (tm 38) kT (tm 43))] [kp [1, 3, 5, 10, 11, 44] []]) (.cond (tm
 44) (.seq (.reg [od 6 (.mv kN), od 7 (.mv (ki 8))] [kp [6, 7] []]) .ret) .skip)) (.seq (.seq (.reg [od 45 (fa 0 5), od 46 (ld 1 45), om 47 10, od 48 (.call 101 [(tm 46), (tm 47)]), od 49 (fa 1 5), od 50 (ld 1 49), om 51 11, od 52
 (.call 101 [(tm 50), (tm 51)]), od 53 (.mmx true [(tm 48), (tm 52)]), od 54 (.bin .neq (tm 53) (ki 0))] [kp [1, 3, 5, 10, 54] []]) (.cond (tm 54) (.seq (.reg [od 6 (.mv kN), od 7 (.mv (ki 1))] [kp [6, 7] []]) .ret) .skip)) (.seq
 (.reg [om 55 10, od 56 (.mk 68 1 [(.int .u8 0)] (tm 55) (tm 55)), om 12 56] [.frz 56, kp [1, 3, 5, 12] [56]]) (.seq (.reg [om 57 1, od 58 (le 0 57), od 59 (.mk 68 1 [(.int .u8 0)] (tm 58) (tm 58)), om 13 59] [.frz 59, kp [1, 3, 5,
 12, 13] [56, 59]]) (.seq (.reg [od 14 (.mv (.func 103))] [kp [1, 3, 5, 12, 13, 14] [56, 59]]) (.seq (.reg [od 15 (.mv kN)] [.nl 15 76 37 1, kp [1, 3, 5, 12, 13, 14, 15] [56, 59, 76]]) (.seq (.seq (.reg [od 60 (lG 4 3), om 61 1, od
 62 (fa 1 5), od 63 (ld 1 62), od 64 (.call 102 [(tm 60), (tm 61), (tm 63)]), od 65 (le 0 64), od 66 (.mv (ki 0))] [kp [1, 5, 12, 13, 14, 15, 64, 65, 66] [56, 59, 76]]) (.block 0 shifts_Test_l1)) (.seq (.reg [om 78 15, om 79 14, od
 80 (fa 0 5), od 81 (ld 1 80), om 82 13, od 83 (.callv (tm 79) [(tm 81), (ku 0), (tm 82)]), od 84 (.bsl true 37 1 [(tm 83)]), oz 85 (.app false 37 1 (tm 78) (tm 84)) 76, om 15 85] [kp [1, 12, 13, 14, 15] [56, 59, 76]]) (.seq (.seq
 (.reg [om 86 1, od 87 (.call 39 [(tm 86)]), od 88 (.mv (ki 0))] [kp [12, 13, 14, 15, 87, 88] [56, 59, 76]]) (.gh (.block 2 shifts_Test_l3) [.frz 76])) (.seq (.reg [om 98 15, od 99 (.call 104 [(tm 98)]), om 6 99, od 7 (.mv (ki 0))]
 [kp [6, 7] []]) .ret)))))))))))))
theorem shifts_Test_l1_run (h : ∀ K : St → Prop, K = run P Γ shifts_Test_l1 Q → run P Γ shifts_Test_g0 (thenX K Q) s) : run P Γ shifts_Test_l1 Q s := run_loop h
theorem shifts_Test_l3_run (h : ∀ K : St → Prop, K = run P Γ shifts_Test_l3 Q → run P Γ shifts_Test_g2 (thenX K Q) s) : run P Γ shifts_Test_l3 Q s := run_loop h
def shifts_Test_rv : List RV := [.tmp 6, .tmp 7]
/- probecard/shifts.Test$1 (function 103) -/
abbrev shifts_Test_1_ic : IC := (.seq (.reg [od 6 (.mv kN)] [kp [0, 1, 2] []]) (.seq (.reg [om 7 0, om 8 1, od 9 (.bsl true 68 1 [(tm 8)]), om 10 2, od 11 (.bsl true 37 1 [(tm 7), (tm 9), (tm 10)]), od 12 (.call 91 [(tm 11)]), od 13 (.call 74 [(tm 12)]), om 6 13]
 [kp [6] []]) .ret))
def shifts_Test_1_rv : List RV := [.tmp 6]
/- probecard/shifts.Collect (function 43) -/
abbrev shifts_Collect_g0 : IC := .gh (.seq (.reg [od 57 (.bin .lss (tm 56) (tm 55))] [kp [2, 3, 6, 10, 11, 12, 13, 14, 47, 48, 49, 55, 56, 57] [6, 46, 106]]) (.seq (.cond (tm 57) .skip (.exit 2)) (.seq (.block 3 (.seq (.reg [om 58 56, om 15 58] [kp [2, 3, 6, 10,
 11, 12, 13, 14, 15, 47, 48, 49, 55, 56] [6, 46, 106]]) (.reg [om 59 12, om 60 14, om 61 14, od 62 (le 0 61), od 63 (.bin .sub (tm 62) (ki 1)), om 64 15, od 65 (.bin .sub (tm 63) (tm 64)), od 66 (ia 1 60 65), od 67 (ld 1 66), om 68
 2, om 69 10, od 70 (.bin .add (tm 69) (ki 1)), om 71 15, od 72 (.bin .add (tm 70) (tm 71)), od 73 (ia 2 68 72), od 74 (fa 0 73), od 75 (ld 1 74), om 76 11, om 77 13, od 78 (.bin .add (tm 76) (tm 77)), od 79 (ia 1 75 78), od 80 (ld
 1 79), on (.mup (.int .i64) (tm 59) (tm 67) (tm 80))] [kp [2, 3, 6, 10, 11, 12, 13, 14, 47, 48, 49, 55, 56] [6, 46, 106]]))) (.reg [od 81 (.bin .add (tm 56) (ki 1)), om 56 81] [kp [2, 3, 6, 10, 11, 12, 13, 14, 47, 48, 49, 55, 56]
 [6, 46, 106]])))) [kp [2, 3, 6, 10, 11, 12, 13, 14, 47, 48, 49, 55, 56] [6, 46, 106]]
def shifts_Collect_l1 : IC := .loop shifts_Collect_g0
abbrev shifts_Collect_g2 : IC := .gh (.seq (.reg [od 50 (.bin .lss (tm 49) (tm 48))] [kp [2, 3, 6, 10, 11, 12, 47, 48, 49, 50] [6, 46, 106]]) (.seq (.cond (tm 50) .skip (.exit 0)) (.seq (.block 1 (.seq (.reg [om 51 49, od 52 (ia 1 47 49), od 53 (ld 1 52), om 13
 51, om 14 53] [kp [2, 3, 6, 10, 11, 12, 13, 14, 47, 48, 49] [6, 46, 106]]) (.seq (.reg [om 54 14, od 55 (le 0 54), od 56 (.mv (ki 0))] [kp [2, 3, 6, 10, 11, 12, 13, 14, 47, 48, 49, 55, 56] [6, 46, 106]]) (.block 2
 shifts_Collect_l1)))) (.reg [od 82 (.bin .add (tm 49) (ki 1)), om 49 82] [kp [2, 3, 6, 10, 11, 12, 47, 48, 49] [6, 46, 106]])))) [kp [2, 3, 6, 10, 11, 12, 47, 48, 49] [6, 46, 106]]
def shifts_Collect_l3 : IC := .loop shifts_Collect_g2
abbrev shifts_Collect_g4 : IC := .gh (.seq (.reg [od 97 (.bin .lss (tm 96) (tm 95))] [kp [6, 12, 16, 94, 95, 96, 97] [6, 16, 46, 106]]) (.seq (.cond (tm 97) .skip (.exit 4)) (.seq (.block 5 (.seq (.reg [od 98 (ia 1 94 96), od 99 (ld 1 98), om 18 99] [kp [6, 12,
 16, 18, 94, 95, 96] [6, 16, 46, 106]]) (.reg [od 100 (fa 1 16), od 101 (ld 1 100), om 102 12, om 103 18, od 104 (.lkup (.int .i64) (.int .u8 0) false (tm 102) (tm 103)), od 105 (.bsl true 68 1 [(tm 104)]), od 106 (.app false 68 1
 (tm 101) (tm 105)), od 107 (fa 1 16), on (.store 1 (tm 107) (tm 106))] [kp [6, 12, 16, 94, 95, 96] [6, 16, 46, 106]]))) (.reg [od 108 (.bin .add (tm 96) (ki 1)), om 96 108] [kp [6, 12, 16, 94, 95, 96] [6, 16, 46, 106]])))) [kp [6,
 12, 16, 94, 95, 96] [6, 16, 46, 106]]
def shifts_Collect_l5 : IC := .loop shifts_Collect_g4
abbrev shifts_Collect_ic : IC := (.seq (.reg [od 3 (.box true (tm 0)), od 6 (.alloc false [(.slice none 0 0), (.slice none 0 0)]), od 7 (.mv (ki 0))] [kp [1, 2, 3, 6] [6, 106]]) (.seq (.reg [od 20 (lG 4 3), om 21 1, od 22 (.call 29 [(tm 20), (tm 21)]), om 19 22,
 od 23 (ex 19 0), od 24 (ex 19 1), od 8 (.alloc false [(.slice none 0 0), (.slice none 0 0), (.slice none 0 0), (.slice none 0 0), (.slice none 0 0), (.int .i64 0), (.slice none 0 0), (.slice none 0 0)]), on (.store 8 (tm 8) (tm
 23)), om 9 24] [.frz 8, kp [1, 2, 3, 6, 8, 9] [6, 8, 106]]) (.seq (.seq (.reg [om 25 9, od 26 (.bin .neq (tm 25) (ki 0))] [kp [1, 2, 3, 6, 8, 9, 26] [6, 8, 106]]) (.cond (tm 26) (.seq (.reg [od 27 (.build [(1, kN), (1, kN)]), om 28
 9, on (.store 2 (tm 6) (tm 27)), om 7 28] [kp [6, 7] [6, 106]]) .ret) .skip)) (.seq (.reg [om 29 1, od 30 (.call 39 [(tm 29)]), om 10 30] [kp [1, 2, 3, 6, 8, 10] [6, 8, 106]]) (.seq (.seq (.reg [om 31 2, od 32 (le 0 31), om 33 10,
 od 34 (.bin .mul (ki 2) (tm 33)), od 35 (.bin .add (tm 34) (ki 1)), od 36 (.bin .neq (tm 32) (tm 35)), om 37 36, oF 38 (.mv (tm 2)) 37, oF 39 (.mkf 106 [(tm 8)]) 37, oF 40 (.call 105 [(tm 38), (tm 39)]) 37, od 41 (.pick (tm 37) kT
 (tm 40))] [kp [1, 2, 3, 6, 10, 41] [6, 106]]) (.cond (tm 41) (.seq (.reg [od 42 (.build [(1, kN), (1, kN)]), on (.store 2 (tm 6) (tm 42)), od 7 (.mv (ki 8))] [kp [6, 7] [6, 106]]) .ret) .skip)) (.seq (.reg [od 43 (fa 3 3), od 44
 (ld 1 43), od 45 (le 0 44), om 11 45] [kp [1, 2, 3, 6, 10, 11] [6, 106]]) (.seq (.reg [od 46 (.mkmap), om 12 46] [kp [1, 2, 3, 6, 10, 11, 12] [6, 46, 106]]) (.seq (.seq (.reg [om 47 1, od 48 (le 0 47), od 49 (.mv (ki 0))] [kp [2,
 3, 6, 10, 11, 12, 47, 48, 49] [6, 46, 106]]) (.block 0 shifts_Collect_l3)) (.seq (.reg [om 83 2, om 84 10, od 85 (ia 2 83 84), od 86 (fa 0 85), od 87 (ld 1 86), om 88 11, od 89 (.slice 1 (tm 87) none (some (tm 88)) none), od 90
 (.call 93 [(tm 89)]), od 91 (.call 74 [(tm 90)]), od 92 (.build [(1, (tm 91)), (1, kN)]), od 16 (.alloc false [(.slice none 0 0), (.slice none 0 0)]), on (.store 2 (tm 16) (tm 92))] [.nlb 16 1 106 68 1, kp [3, 6, 12, 16] [6, 16,
 46, 106]]) (.seq (.seq (.reg [od 93 (lG 4 3), od 94 (.call 27 [(tm 93)]), od 95 (le 0 94), od 96 (.mv (ki 0))] [kp [6, 12, 16, 94, 95, 96] [6, 16, 46, 106]]) (.gh (.block 4 shifts_Collect_l5) [.frz 106])) (.seq (.reg [od 109 (fa 1
 16), od 110 (ld 1 109), od 111 (.call 74 [(tm 110)]), od 112 (fa 1 16), on (.store 1 (tm 112) (tm 111))] [kp [6, 16] [6, 16, 106]]) (.seq (.reg [od 113 (lG 2 16), on (.store 2 (tm 6) (tm 113)), od 7 (.mv (ki 0))] [kp [6, 7] [6,
 106]]) .ret))))))))))))
theorem shifts_Collect_l1_run (h : ∀ K : St → Prop, K = run P Γ shifts_Collect_l1 Q → run P Γ shifts_Collect_g0 (thenX K Q) s) : run P Γ shifts_Collect_l1 Q s := run_loop h
theorem shifts_Collect_l3_run (h : ∀ K : St → Prop, K = run P Γ shifts_Collect_l3 Q → run P Γ shifts_Collect_g2 (thenX K Q) s) : run P Γ shifts_Collect_l3 Q s := run_loop h
theorem shifts_Collect_l5_run (h : ∀ K : St → Prop, K = run P Γ shifts_Collect_l5 Q → run P Γ shifts_Collect_g4 (thenX K Q) s) : run P Γ shifts_Collect_l5 Q s := run_loop h
def shifts_Collect_rv : List RV := [.cell 6 2 true, .tmp 7]
/- probecard/shifts.Collect$1 (function 106) -/
abbrev shifts_Collect_1_ic : IC := (.seq (.reg [od 2 (.box true (tm 0)), od 3 (.mv kF)] [kp [1, 2] []]) (.seq (.reg [od 4 (fa 0 2), od 5 (ld 1 4), od 6 (le 0 5), od 7 (fa 0 1), od 8 (fa 3 7), od 9 (ld 1 8), od 10 (le 0 9), od 11 (.bin .neq (tm 6) (tm 10)), om 3 11]
 [kp [3] []]) .ret))
def shifts_Collect_1_rv : List RV := [.tmp 3]
/- slices.Clip[[][]probecard/api.Value,[]probecard/api.Value] (function 104) -/
abbrev slices_Clip_api_Values_ic : IC := (.seq (.reg [od 2 (.mv kN)] [kp [0] []]) (.seq (.reg [om 3 0, om 4 0, od 5 (le 0 4), om 6 0, od 7 (le 0 6), od 8 (.slice 1 (tm 3) none (some (tm 5)) (some (tm 7))), om 2 8] [kp [2] []]) .ret))
def slices_Clip_api_Values_rv : List RV := [.tmp 2]
/- slices.ContainsFunc[[]probecard/api.Response,probecard/api.Response] (function 105) -/
abbrev slices_ContainsFunc_api_Response_ic : IC := (.seq (.reg [od 4 (.mv kF)] [kp [0, 1] []]) (.seq (.reg [om 5 0, om 6 1, od 7 (.call 145 [(tm 5), (tm 6)]), od 8 (.bin .geq (tm 7) (ki 0)), om 4 8] [kp [4] []]) .ret))
def slices_ContainsFunc_api_Response_rv : List RV := [.tmp 4]
/- slices.IndexFunc[[]probecard/api.Response,probecard/api.Response] (function 145) -/
abbrev slices_IndexFunc_api_Response_g0 : IC := .gh (.seq (.reg [od 9 (.bin .lss (tm 8) (tm 7))] [kp [0, 1, 7, 8, 9] []]) (.seq (.cond (tm 9) .skip (.exit 0)) (.seq (.block 1 (.seq (.reg [om 10 8, om 5 10] [kp [0, 1, 5, 7, 8] []]) (.seq (.reg [om 11 1, om 12 0, om 13 5, od 14
 (ia 2 12 13), od 15 (lG 2 14), od 16 (.callv (tm 11) [(tm 15)])] [kp [0, 1, 5, 7, 8, 16] []]) (.cond (tm 16) (.seq (.reg [om 17 5, om 4 17] [kp [4] []]) .ret) .skip)))) (.reg [od 18 (.bin .add (tm 8) (ki 1)), om 8 18] [kp [0, 1, 7,
 8] []])))) [kp [0, 1, 7, 8] []]
def slices_IndexFunc_api_Response_l1 : IC := .loop slices_IndexFunc_api_Response_g0
abbrev slices_IndexFunc_api_Response_ic : IC := (.seq (.reg [od 4 (.mv (ki 0))] [kp [0, 1] []]) (.seq (.seq (.reg [om 6 0, od 7 (le 0 6), od 8 (.mv (ki 0))] [kp [0, 1, 7, 8] []]) (.block 0 slices_IndexFunc_api_Response_l1)) (.seq (.reg [od 4 (.mv (.const (.int .i64 (-1))))] [kp
 [4] []]) .ret)))
theorem slices_IndexFunc_api_Response_l1_run (h : ∀ K : St → Prop, K = run P Γ slices_IndexFunc_api_Response_l1 Q → run P Γ slices_IndexFunc_api_Response_g0 (thenX K Q) s) : run P Γ slices_IndexFunc_api_Response_l1 Q s := run_loop h
def slices_IndexFunc_api_Response_rv : List RV := [.tmp 4]
/- probecard/probecardlaw35.row (function 98) -/
abbrev law35_row_ic : IC := (.seq (.reg [od 0 (.alloc false [(.slice none 0 0), (.slice none 0 0), (.slice none 0 0), (.slice none 0 0)])] [kp [0] [0]]) (.seq (.reg [od 2 (.bsl true 3 1 [(ki 0)]), od 3 (.build [(1, (ku 14)), (1, (tm 2)), (1, (ki 0)), (1, (ki
 0))]), od 1 (.alloc false [(.int .u8 0), (.slice none 0 0), (.int .i64 0), (.int .i64 0)]), on (.store 4 (tm 1) (tm 3))] [kp [0, 1] [0, 1]]) (.seq (.reg [od 4 (.build [(1, (ku 0)), (1, kN), (1, (ki 0)), (1, (ki 0))]), od 5 (lG 4
 1), od 6 (lG 4 1), od 7 (lG 4 1), od 8 (.bsl true 104 4 [(tm 4), (tm 5), (tm 6), (tm 7)]), od 9 (.bsl true 9 1 [(.const (sV [97])), (.const (sV [102])), (.const (sV [103])), (.const (sV [104]))]), od 10 (.bsl true 3 1 [(ki 0)]), od
 11 (.build [(1, (tm 8)), (1, (tm 9)), (1, kN), (1, (tm 10))]), on (.store 4 (tm 0) (tm 11))] [kp [0] [0]]) .ret)))
def law35_row_rv : List RV := [.cell 0 4 true]
/- probecard/probecardlaw35.lives (function 34) -/
abbrev law35_lives_ic : IC := (.seq (.reg [od 0 (.mv kF)] [kp [] []]) (.seq (.reg [od 6 (.bsl true 3 1 [(ki 1), (ki 2)]), od 7 (.bsl true 3 1 [(ki 3)]), od 8 (.bsl true 33 1 [(tm 6), (tm 7)]), om 1 8] [kp [1] []]) (.seq (.reg [od 10 (.call 98 []), om 11 1, od
 12 (.bsl true 68 1 [(ku 0), (ku 1), (ku 1)]), od 13 (.call 38 [(tm 10), (tm 11), (tm 12)]), om 9 13, od 14 (ex 9 0), od 15 (ex 9 1), om 2 14, om 3 15] [kp [1, 2, 3] []]) (.seq (.reg [od 17 (.call 98 []), om 18 1, od 19 (.bsl true
 68 1 [(ku 1)]), od 20 (.bsl true 68 1 [(ku 0), (ku 1), (ku 1)]), od 21 (.build [(1, (tm 19)), (1, (tm 20))]), od 22 (.call 42 [(tm 17), (tm 18), (tm 21)]), om 16 22, od 23 (ex 16 0), od 24 (ex 16 1), om 4 23, om 5 24] [kp [2, 3, 4,
 5] []]) (.seq (.seq (.reg [om 25 3, od 26 (.bin .neq (tm 25) (ki 0)), om 27 26, oF 28 (.mv (tm 5)) 27, oF 29 (.bin .neq (tm 28) (ki 0)) 27, od 30 (.pick (tm 27) kT (tm 29)), om 31 30, oF 32 (.mv (tm 2)) 31, oF 33 (le 0 32) 31, oF
 34 (.bin .neq (tm 33) (ki 2)) 31, od 35 (.pick (tm 31) kT (tm 34)), om 36 35, oF 37 (.mv (tm 2)) 36, oF 38 (.iadr 1 (tm 37) (ki 0)) 36, oF 39 (ld 1 38) 36, oF 40 (le 0 39) 36, oF 41 (.bin .neq (tm 40) (ki 2)) 36, od 42 (.pick (tm
 36) kT (tm 41)), om 43 42, oF 44 (.mv (tm 2)) 43, oF 45 (.iadr 1 (tm 44) (ki 1)) 43, oF 46 (ld 1 45) 43, oF 47 (le 0 46) 43, oF 48 (.bin .neq (tm 47) (ki 2)) 43, od 49 (.pick (tm 43) kT (tm 48)), om 50 49, oF 51 (.mv (tm 4)) 50, oF
 52 (le 0 51) 50, oF 53 (.bin .neq (tm 52) (ki 5)) 50, od 54 (.pick (tm 50) kT (tm 53))] [kp [2, 54] []]) (.cond (tm 54) (.seq (.reg [od 0 (.mv kF)] [kp [0] []]) .ret) .skip)) (.seq (.reg [om 55 2, od 56 (.iadr 1 (tm 55) (ki 0)), od
 57 (ld 1 56), od 58 (.iadr 1 (tm 57) (ki 0)), od 59 (ld 1 58), od 60 (.bin .eql (tm 59) (ku 1)), om 61 60, oT 62 (.mv (tm 2)) 61, oT 63 (.iadr 1 (tm 62) (ki 0)) 61, oT 64 (ld 1 63) 61, oT 65 (.iadr 1 (tm 64) (ki 1)) 61, oT 66 (ld 1
 65) 61, oT 67 (.bin .eql (tm 66) (ku 0)) 61, od 68 (.pick (tm 61) (tm 67) kF), om 69 68, oT 70 (.mv (tm 2)) 69, oT 71 (.iadr 1 (tm 70) (ki 1)) 69, oT 72 (ld 1 71) 69, oT 73 (.iadr 1 (tm 72) (ki 0)) 69, oT 74 (ld 1 73) 69, oT 75
 (.bin .eql (tm 74) (ku 0)) 69, od 76 (.pick (tm 69) (tm 75) kF), om 77 76, oT 78 (.mv (tm 2)) 77, oT 79 (.iadr 1 (tm 78) (ki 1)) 77, oT 80 (ld 1 79) 77, oT 81 (.iadr 1 (tm 80) (ki 1)) 77, oT 82 (ld 1 81) 77, oT 83 (.bin .eql (tm
 82) (ku 1)) 77, od 84 (.pick (tm 77) (tm 83) kF), om 0 84] [kp [0] []]) .ret))))))
def law35_lives_rv : List RV := [.tmp 0]
end
end Go.Lg
namespace Go.Lg
open Go Go.Proofs
theorem shifts_Depth_chk : chkF Tryz.prog 39 shifts_Depth_ic 18 1 shifts_Depth_rv = true := by kernel_rfl
theorem shifts_values_chk : chkF Tryz.prog 101 shifts_values_ic 11 2 shifts_values_rv = true := by kernel_rfl
theorem shifts_values_1_chk : chkF Tryz.prog 144 shifts_values_1_ic 5 1 shifts_values_1_rv = true := by kernel_rfl
theorem shifts_loads_chk : chkF Tryz.prog 102 shifts_loads_ic 75 3 shifts_loads_rv = true := by kernel_rfl
theorem shifts_Loads_chk : chkF Tryz.prog 38 shifts_Loads_ic 32 3 shifts_Loads_rv = true := by kernel_rfl
theorem shifts_Test_chk : chkF Tryz.prog 42 shifts_Test_ic 100 3 shifts_Test_rv = true := by kernel_rfl
theorem shifts_Test_1_chk : chkF Tryz.prog 103 shifts_Test_1_ic 14 3 shifts_Test_1_rv = true := by kernel_rfl
theorem shifts_Collect_chk : chkF Tryz.prog 43 shifts_Collect_ic 114 3 shifts_Collect_rv = true := by kernel_rfl
theorem shifts_Collect_1_chk : chkF Tryz.prog 106 shifts_Collect_1_ic 12 2 shifts_Collect_1_rv = true := by kernel_rfl
theorem slices_Clip_api_Values_chk : chkF Tryz.prog 104 slices_Clip_api_Values_ic 9 1 slices_Clip_api_Values_rv = true := by kernel_rfl
theorem slices_ContainsFunc_api_Response_chk : chkF Tryz.prog 105 slices_ContainsFunc_api_Response_ic 9 2 slices_ContainsFunc_api_Response_rv = true := by kernel_rfl
theorem slices_IndexFunc_api_Response_chk : chkF Tryz.prog 145 slices_IndexFunc_api_Response_ic 19 2 slices_IndexFunc_api_Response_rv = true := by kernel_rfl
theorem law35_row_chk : chkF Tryz.prog 98 law35_row_ic 12 0 law35_row_rv = true := by kernel_rfl
theorem law35_lives_chk : chkF Tryz.prog 34 law35_lives_ic 85 0 law35_lives_rv = true := by kernel_rfl
end Go.Lg
namespace Go.Lg
open Go Go.Proofs
variable {Γ : Tables}
theorem calltK_pure {f : FuncId} {as' : List AV} {ts : List T} {res : T} {K : T → Prop} (h : PureCalls Tryz.prog Γ f ts res) (ht : optAll (as'.map toT) = some ts) (hk : K res) : calltK Tryz.prog Γ f as' K ⟨⟩ := ⟨ts, res, ht, .inl h, hk⟩
theorem encN_set {α : Type} {f : α → List T} {l : List α} {n : Nat} {x : α} : (encN f l).set n (f x) = encN f (l.set n x) := by simp [encN, List.map_set]
theorem gN {l : List Nd} {i : Nat} (h : i < l.length) : (encN tNd l)[i]?.getD [] = tNd (l.getD i Nd.d) := by
  rw [encN_get Nd.d h]; rfl
def cpNd (x : Nd) : Nd := ⟨x.k, cpS x.inn, x.mem, x.bit⟩
def cpL : Nat → Nat → List Nd → List Nd
  | 0, _, L => L
  | k + 1, i, L => cpL k (i + 1) (L.set i (cpNd (L.getD i Nd.d)))
theorem cpL_eq : ∀ (k i : Nat) (L : List Nd), i + k = L.length → cpL k i L = L.take i ++ (L.drop i).map cpNd
  | 0, i, L, h => by rw [List.drop_of_length_le (by omega), List.take_of_length_le (by omega)]; simp [cpL]
  | k + 1, i, L, h => by
    have hi : i < L.length := by omega
    simp only [cpL]
    rw [cpL_eq k (i + 1) _ (by simp; omega), List.drop_eq_getElem_cons hi]
    have e : L.getD i Nd.d = L[i] := by simp [List.getD_eq_getElem?_getD, hi]
    rw [e]
    have h1 : (L.set i (cpNd L[i])).take (i + 1) = L.take i ++ [cpNd L[i]] := by
      rw [List.take_add_one, List.take_set_of_le (Nat.le_refl i)]
      simp [hi]
    rw [h1, List.drop_set_of_lt (by omega), List.map_cons, List.append_assoc]
    rfl
def cpH (n : Nat) (nm mm oo : T) (L : List Nd) : List (Nat × Reg) :=
  [(2, .bx [.t (.sl [] (some 0) (some true)), .t (.sl [] (some 0) (some true)), .t (.sl [] (some 0) (some true)), .t (.sl [] (some 0) (some true))]), (3, .bx [.ls 14007 0 n (some n), .t nm, .t mm, .t oo]), (14007, .sl 104 4 (encN tNd L))]
theorem copy_loop {Q : AX → St → Prop} (n : Nat) (hn : n ≤ 1000000) (nm mm oo : T) (R : List Nd)
    (h0 : Q (.exit 0) ⟨[(2, .lp 2 0 0), (3, .lp 3 0 0), (22, .ls 14007 0 n (some n)), (23, .t (tI n)), (24, .t (tI n)), (25, .t (tB false))], cpH n nm mm oo R⟩) :
    ∀ (k i : Nat) (L : List Nd), k + i = n → L.length = n → (∀ j, i ≤ j → j < n → SlOk (L.getD j Nd.d).inn) → cpL k i L = R →
    run Tryz.prog Γ netlists_Copy_l1 Q ⟨[(2, .lp 2 0 0), (3, .lp 3 0 0), (22, .ls 14007 0 n (some n)), (23, .t (tI n)), (24, .t (tI i))], cpH n nm mm oo L⟩
  | 0, i, L, h, hl, hs, hR => by
    refine netlists_Copy_l1_run fun K hK => ?_
    have h3 : i = n := by omega
    subst h3
    simp only [cpL] at hR
    subst hR
    simp [cpH]
    simpa [cpH] using h0
  | k + 1, i, L, h, hl, hs, hR => by
    refine netlists_Copy_l1_run fun K hK => ?_
    have h2 : i < n := by omega
    have hi : i < L.length := by omega
    simp only [cpL] at hR
    have e := gN hi
    have hx : SlOk (L.getD i Nd.d).inn := hs i (Nat.le_refl i) h2
    have e1 := copied_int_spec (Γ := Γ) _ hx
    have ih := copy_loop n hn nm mm oo R h0 k (i + 1) (L.set i (cpNd (L.getD i Nd.d))) (by omega) (by simp [hl]) (fun j hj hjn => by
      have : (L.set i (cpNd (L.getD i Nd.d))).getD j Nd.d = L.getD j Nd.d := by
        rw [List.getD_eq_getElem?_getD, List.getElem?_set, if_neg (by omega), ← List.getD_eq_getElem?_getD]
      rw [this]
      exact hs j (by omega) hjn) hR
    generalize L.getD i Nd.d = x at *
    have e' : ∀ h : i < (encN tNd L).length, (encN tNd L)[i] = tNd x := fun h => by rw [← e]; simp [hi, encN_len]
    have hset : (encN tNd L).set i [tK x.k, tSl (cpS x.inn), tI x.mem, tI x.bit] = encN tNd (L.set i (cpNd x)) := encN_set (f := tNd) (x := cpNd x)
    simp only [tSl] at e1 hset
    simp (disch := omega) [cpH, h2, encN_len, tNd_wid, e, e', hl, wrap_i64, tNd, tSl]
    refine calltK_pure e1 rfl ?_
    simp (disch := omega) [cpH, h2, hi, encN_len, tNd_wid, e, e', hl, wrap_i64, tNd, tSl, hset]
    rw [hK]
    simpa [cpH] using ih
def copyC (c : Cir) : Cir := ⟨⟨c.nodes.l.map cpNd, some c.nodes.l.length, none⟩, ⟨c.names.l, some c.names.l.length, none⟩, ⟨[], some 0, some true⟩, cpS c.outs⟩
structure CpOk (c : Cir) : Prop where
  n0 : c.nodes.l ≠ []
  n1 : c.nodes.l.length ≤ 1000000
  nn : c.nodes.nl ≠ some true
  m0 : c.names.l ≠ []
  m1 : c.names.l.length ≤ 1000000
  mn : c.names.nl ≠ some true
  mems : c.mems = ⟨[], some 0, some true⟩
  inn : ∀ x ∈ c.nodes.l, SlOk x.inn
  outs : SlOk c.outs
theorem copy_spec (c : Cir) (hc : CpOk c) : PureCalls Tryz.prog Γ 83 [.agg (tC c)] (.agg (tC (copyC c))) := by
  refine run_pureQ netlists_Copy_chk rfl ?_
  have e1 := copied_nodes_h (Γ := Γ) c.nodes.l c.nodes.cap c.nodes.nl hc.nn hc.n0 hc.n1
  have e2 := copied_names_spec (Γ := Γ) c.names.l c.names.cap c.names.nl hc.mn hc.m0 hc.m1
  have e3 := copied_mems_nil (Γ := Γ)
  have e4 := copied_int_spec (Γ := Γ) c.outs hc.outs
  have hcp : cpL c.nodes.l.length 0 c.nodes.l = c.nodes.l.map cpNd := by rw [cpL_eq _ _ _ (by omega)]; simp
  have hn1 := hc.n1
  have g1 := fun Q nm mm oo h0 => copy_loop (Γ := Γ) (Q := Q) c.nodes.l.length hc.n1 nm mm oo _ h0 c.nodes.l.length 0 c.nodes.l (by omega) rfl (fun j _ hj => hc.inn _ (by rw [List.getD_eq_getElem?_getD, List.getElem?_eq_getElem hj]; exact List.getElem_mem hj)) hcp
  have hml : (encN tNd (c.nodes.l.map cpNd)).take c.nodes.l.length = encN tNd (c.nodes.l.map cpNd) := List.take_of_length_le (by simp [encN])
  simp [netlists_Copy_ic, tC, tNodes, tNames, tMems, tSl, hc.mems]
  refine ⟨_, _, e1, ?_⟩
  simp
  refine calltK_pure e2 rfl ?_
  simp
  refine calltK_pure e3 rfl ?_
  simp
  simp [tSl] at e4
  refine calltK_pure e4 rfl ?_
  simp
  simp [cpH] at g1
  refine g1 _ _ _ _ ?_
  simp [St.freeze, Reg.closed, frzRef, frz1, frz0, frzReg, del, reify, hml]
  refine netlists_Copy_l3_run fun K hK => ?_
  simp [netlists_Copy_rv, copyC, encN_len, enc1_nil, show encN tMm [] = [] from rfl]
end Go.Lg
namespace Go.Lg
open Go Go.Proofs
variable {Γ : Tables}
theorem add_tt (seen : List (List UInt8)) (nodes : List Nd) (names : List (List UInt8)) (ol : List Int) (oc : Option Nat) (on : Option Bool) (x : Nd) (nm : List UInt8) (hn : nodes.length ≤ 1000000) (hm : names.length ≤ 1000000) (hs : nm ∉ seen) (hl : nm.length ≤ 32) :
    HCalls Tryz.prog Γ 84 [(1000000, .mp (seenM seen)), (1000001, .bx [.t (.sl (encN tNd nodes) (some nodes.length) none), .t (.sl (enc1 tS names) (some names.length) none), .t (.sl [] (some 0) (some true)), .t (.sl (ints ol) oc on), .lm 1000000, .t (tB false)])] [.lp 1000001 0 0, .ag ((tNd x).map .t), .t (tS nm)] (.t (tI nodes.length))
      [(40, .sl 104 4 (encN tNd (nodes ++ [x]))), (52, .sl 9 1 (enc1 tS (names ++ [nm]))), (1000000, .mp (seenM (seen ++ [nm]))), (1000001, .bx [.ls 40 0 (nodes.length + 1) none, .ls 52 0 (names.length + 1) none, .t (.sl [] (some 0) (some true)), .t (.sl (ints ol) oc on), .lm 1000000, .t (tB false)])] := by
  refine run_handQ scans_builder_add_chk rfl ?_
  have q1 : encN tNd nodes ++ [[tK x.k, .sl (ints x.inn.l) x.inn.cap x.inn.nl, tI x.mem, tI x.bit]] = encN tNd (nodes ++ [x]) := encN_snoc (f := tNd) (x := x)
  have q2 : enc1 tS names ++ [[.v (sV nm)]] = enc1 tS (names ++ [nm]) := enc1_snoc
  have w1 : wid 4 [[tK x.k, .sl (ints x.inn.l) x.inn.cap x.inn.nl, tI x.mem, tI x.bit]] := by intro e he; simp at he; subst he; rfl
  have w2 : wid 1 [[T.v (sV nm)]] := by intro e he; simp at he; subst he; rfl
  have t1 : (encN tNd nodes).take nodes.length = encN tNd nodes := encN_take_len
  have t2 : (enc1 tS names).take names.length = enc1 tS names := enc1_take_len
  have f1 := seenM_find nm seen
  rw [if_neg hs] at f1
  have f2 := seenM_set nm seen hs
  have f3 := seenM_fit seen
  have h32 : ¬ 32 < nm.length := by omega
  have h32' : ¬ (32 : Int) < nm.length := by omega
  have hfit : KT.str.fits (sV nm) = true := rfl
  simp only [sV] at q2 w2 f1 f2 hfit
  simp [scans_builder_add_ic, tNd, tSl, tS, sV]
  refine scans_builder_add_l1_run fun K hK => ?_
  simp (maxSteps := 1000000) (disch := omega) [f1, f2, f3, hfit, h32, h32', q1, q2, w1, w2, t1, t2, encN_len, enc1_len, tNd_wid, enc1_wid, wrap_i64]
  simp (disch := omega) [scans_builder_add_rv, wrap_i64, hn, hm]
  omega
theorem add_rt (seen : List (List UInt8)) (nodes : List Nd) (names : List (List UInt8)) (ol : List Int) (oc : Option Nat) (on : Option Bool) (x : Nd) (nm : List UInt8) (hn : nodes.length ≤ 1000000) (hm : names.length ≤ 1000000) (hs : nm ∉ seen) (hl : nm.length ≤ 32) :
    HCalls Tryz.prog Γ 84 [(1000000, .mp (seenM seen)), (1000001, .bx [.ls 1000003 0 nodes.length none, .ls 1000004 0 names.length none, .t (.sl [] (some 0) (some true)), .t (.sl (ints ol) oc on), .lm 1000000, .t (tB false)]), (1000003, .sl 104 4 (encN tNd nodes)), (1000004, .sl 9 1 (enc1 tS names))] [.lp 1000001 0 0, .ag ((tNd x).map .t), .t (tS nm)] (.t (tI nodes.length))
      [(40, .sl 104 4 (encN tNd (nodes ++ [x]))), (52, .sl 9 1 (enc1 tS (names ++ [nm]))), (1000000, .mp (seenM (seen ++ [nm]))), (1000001, .bx [.ls 40 0 (nodes.length + 1) none, .ls 52 0 (names.length + 1) none, .t (.sl [] (some 0) (some true)), .t (.sl (ints ol) oc on), .lm 1000000, .t (tB false)])] := by
  refine run_handQ scans_builder_add_chk rfl ?_
  have q1 : encN tNd nodes ++ [[tK x.k, .sl (ints x.inn.l) x.inn.cap x.inn.nl, tI x.mem, tI x.bit]] = encN tNd (nodes ++ [x]) := encN_snoc (f := tNd) (x := x)
  have q2 : enc1 tS names ++ [[.v (sV nm)]] = enc1 tS (names ++ [nm]) := enc1_snoc
  have w1 : wid 4 [[tK x.k, .sl (ints x.inn.l) x.inn.cap x.inn.nl, tI x.mem, tI x.bit]] := by intro e he; simp at he; subst he; rfl
  have w2 : wid 1 [[T.v (sV nm)]] := by intro e he; simp at he; subst he; rfl
  have t1 : (encN tNd nodes).take nodes.length = encN tNd nodes := encN_take_len
  have t2 : (enc1 tS names).take names.length = enc1 tS names := enc1_take_len
  have f1 := seenM_find nm seen
  rw [if_neg hs] at f1
  have f2 := seenM_set nm seen hs
  have f3 := seenM_fit seen
  have h32 : ¬ 32 < nm.length := by omega
  have h32' : ¬ (32 : Int) < nm.length := by omega
  have hfit : KT.str.fits (sV nm) = true := rfl
  simp only [sV] at q2 w2 f1 f2 hfit
  simp [scans_builder_add_ic, tNd, tSl, tS, sV]
  refine scans_builder_add_l1_run fun K hK => ?_
  simp (maxSteps := 1000000) (disch := omega) [f1, f2, f3, hfit, h32, h32', q1, q2, w1, w2, t1, t2, encN_len, enc1_len, tNd_wid, enc1_wid, wrap_i64]
  simp (disch := omega) [scans_builder_add_rv, wrap_i64, hn, hm]
  omega
theorem add_rr (seen : List (List UInt8)) (nodes : List Nd) (names : List (List UInt8)) (ol : List Int) (x : Nd) (nm : List UInt8) (hn : nodes.length ≤ 1000000) (hm : names.length ≤ 1000000) (hs : nm ∉ seen) (hl : nm.length ≤ 32) :
    HCalls Tryz.prog Γ 84 [(1000000, .mp (seenM seen)), (1000001, .bx [.ls 1000003 0 nodes.length none, .ls 1000004 0 names.length none, .t (.sl [] (some 0) (some true)), .ls 1000002 0 ol.length none, .lm 1000000, .t (tB false)]), (1000002, .sl 3 1 (ints ol)), (1000003, .sl 104 4 (encN tNd nodes)), (1000004, .sl 9 1 (enc1 tS names))] [.lp 1000001 0 0, .ag ((tNd x).map .t), .t (tS nm)] (.t (tI nodes.length))
      [(40, .sl 104 4 (encN tNd (nodes ++ [x]))), (52, .sl 9 1 (enc1 tS (names ++ [nm]))), (1000000, .mp (seenM (seen ++ [nm]))), (1000001, .bx [.ls 40 0 (nodes.length + 1) none, .ls 52 0 (names.length + 1) none, .t (.sl [] (some 0) (some true)), .ls 1000002 0 ol.length none, .lm 1000000, .t (tB false)]), (1000002, .sl 3 1 (ints ol))] := by
  refine run_handQ scans_builder_add_chk rfl ?_
  have q1 : encN tNd nodes ++ [[tK x.k, .sl (ints x.inn.l) x.inn.cap x.inn.nl, tI x.mem, tI x.bit]] = encN tNd (nodes ++ [x]) := encN_snoc (f := tNd) (x := x)
  have q2 : enc1 tS names ++ [[.v (sV nm)]] = enc1 tS (names ++ [nm]) := enc1_snoc
  have w1 : wid 4 [[tK x.k, .sl (ints x.inn.l) x.inn.cap x.inn.nl, tI x.mem, tI x.bit]] := by intro e he; simp at he; subst he; rfl
  have w2 : wid 1 [[T.v (sV nm)]] := by intro e he; simp at he; subst he; rfl
  have t1 : (encN tNd nodes).take nodes.length = encN tNd nodes := encN_take_len
  have t2 : (enc1 tS names).take names.length = enc1 tS names := enc1_take_len
  have f1 := seenM_find nm seen
  rw [if_neg hs] at f1
  have f2 := seenM_set nm seen hs
  have f3 := seenM_fit seen
  have h32 : ¬ 32 < nm.length := by omega
  have h32' : ¬ (32 : Int) < nm.length := by omega
  have hfit : KT.str.fits (sV nm) = true := rfl
  simp only [sV] at q2 w2 f1 f2 hfit
  simp [scans_builder_add_ic, tNd, tSl, tS, sV]
  refine scans_builder_add_l1_run fun K hK => ?_
  simp (maxSteps := 1000000) (disch := omega) [f1, f2, f3, hfit, h32, h32', q1, q2, w1, w2, t1, t2, encN_len, enc1_len, tNd_wid, enc1_wid, wrap_i64]
  simp (disch := omega) [scans_builder_add_rv, wrap_i64, hn, hm]
  omega
end Go.Lg
namespace Go.Lg
open Go Go.Proofs
variable {Γ : Tables}
def befM (l : List (Int × Int)) : List (Value × T) := l.map fun p => (.int .i64 p.1, tI p.2)
def befOf (l : List (Int × Int)) (n : Int) : Int := match l.find? (fun p => p.1 == n) with | some p => p.2 | none => 0
theorem befM_fit (l : List (Int × Int)) : keysFit (.int .i64) (befM l) := by
  intro e he; obtain ⟨s, _, rfl⟩ := List.mem_map.1 he; rfl
theorem befM_find (n : Int) : ∀ l : List (Int × Int), (findM (.int .i64 n) (befM l)).getD (tI 0) = tI (befOf l n)
  | [] => rfl
  | (a, p) :: l => by
    have ih := befM_find n l
    simp only [befM, befOf, List.map_cons, findM, keyEq, List.find?_cons] at ih ⊢
    by_cases h : n = a
    · simp [h]
    · have h' : ¬ a = n := fun e => h e.symm
      simp [h, h', ih]
theorem befM_set (n a : Int) : ∀ l : List (Int × Int), n ∉ l.map (·.1) → setM (.int .i64 n) (tI a) (befM l) = befM (l ++ [(n, a)])
  | [], _ => rfl
  | (b, p) :: l, h => by
    have ih := befM_set n a l (fun hm => h (by simp only [List.map_cons, List.mem_cons]; exact .inr hm))
    have hne : n ≠ b := fun e => h (by simp [e])
    simp only [befM, List.map_cons, setM, keyEq, List.cons_append] at ih ⊢
    simp [hne, ih]
def prevs : Int → List Int → List (Int × Int)
  | _, [] => []
  | a, n :: l => (n, a) :: prevs n l
def lastC : Int → List Int → Int
  | a, [] => a
  | _, n :: l => lastC n l
theorem prevs_keys : ∀ (l : List Int) (a : Int), (prevs a l).map (·.1) = l
  | [], _ => rfl
  | n :: l, a => by simp only [prevs, List.map_cons, prevs_keys l n]
def nilT : T := .sl [] (some 0) (some true)
def Z8 : List AV := [.t nilT, .t nilT, .t nilT, .t nilT, .t nilT, .t (tI 0), .t nilT, .t nilT]
theorem gi1 {f : Int → T} {l : List Int} {i : Nat} (hi : i < l.length) : (enc1 f l)[i]?.getD [] = [f (l.getD i 0)] := by
  rw [enc1_get 0 hi]; rfl
theorem ins_l1 {Q : AX → St → Prop} (t1 t7 : T) (c : Cir) (names : Sl (List UInt8)) (hl : names.l.length ≤ 1000000) (hnd : names.l.Nodup) (N M O : T)
    (h0 : Q (.exit 0) ⟨[(1, .t t1), (2, .t (.ip (tC c) 0)), (4, .lp 4 0 0), (7, .t t7), (8, .lp 46 0 0), (48, .t (tNames names)), (49, .t (tI names.l.length)), (50, .t (tI names.l.length)), (51, .t (tB false))], [(4, .bx Z8), (44, .mp (seenM names.l)), (46, .bx [.t N, .t M, .t nilT, .t O, .lm 44, .t (tB false)])]⟩) :
    ∀ (k i : Nat), k + i = names.l.length →
    run Tryz.prog Γ scans_Insert_l1 Q ⟨[(1, .t t1), (2, .t (.ip (tC c) 0)), (4, .lp 4 0 0), (7, .t t7), (8, .lp 46 0 0), (48, .t (tNames names)), (49, .t (tI names.l.length)), (50, .t (tI i))], [(4, .bx Z8), (44, .mp (seenM (names.l.take i))), (46, .bx [.t N, .t M, .t nilT, .t O, .lm 44, .t (tB false)])]⟩
  | 0, i, h => by
    refine scans_Insert_l1_run fun K hK => ?_
    have h3 : i = names.l.length := by omega
    subst h3
    rw [List.take_of_length_le (Nat.le_refl _)]
    simp [Z8]
    simpa [Z8] using h0
  | k + 1, i, h => by
    refine scans_Insert_l1_run fun K hK => ?_
    have h2 : i < names.l.length := by omega
    have ih := ins_l1 t1 t7 c names hl hnd N M O h0 k (i + 1) (by omega)
    have ht : names.l.take (i + 1) = names.l.take i ++ [names.l[i]] := by rw [List.take_add_one]; simp [h2]
    have hm : names.l[i] ∉ names.l.take i := fun hm => by
      obtain ⟨j, hj, e⟩ := List.getElem_of_mem hm
      simp at hj e
      have hji : j < i := by omega
      exact List.pairwise_iff_getElem.1 (List.nodup_iff_pairwise_ne.1 hnd) j i (by omega) h2 hji e
    have e := enc1_get (f := tS) [] h2
    have e2 : names.l[i]?.getD [] = names.l[i] := by simp [h2]
    rw [e2] at e
    rw [ht] at ih
    generalize names.l[i] = x at *
    have e' : ∀ h : i < (enc1 tS names.l).length, (enc1 tS names.l)[i] = [tS x] := fun h => by rw [← e]; simp [h]
    have f2 := seenM_set x _ hm
    have f3 := seenM_fit (names.l.take i)
    have hfit : KT.str.fits (sV x) = true := rfl
    simp only [tS, sV] at e e' f2 hfit
    simp [h2, tNames, enc1_len, enc1_wid, e, e', f2, f3, hfit, Z8]
    rw [wrap_i64 (by omega) (by omega), hK]
    simpa [tNames, Z8] using ih
def i3E (t2 t7 t65 t66 t67 t93 : T) (L : List Int) (lc : Option Nat) (ln : Option Bool) (last : Int) (i : Nat) : List (Nat × AV) :=
  [(2, .t t2), (4, .lp 4 0 0), (7, .t t7), (8, .lp 46 0 0), (11, .lp 11 0 0), (12, .lm 64), (15, .t (tI last)), (65, .t t65), (66, .t t66), (67, .t t67), (92, .t (.sl (ints L) lc ln)), (93, .t t93), (94, .t (tI i))]
def i3H (r11 r44 r46 r78 r90 r157 rN rM : Reg) (bef : List (Int × Int)) : List (Nat × Reg) :=
  [(4, .bx Z8), (11, r11), (44, r44), (46, r46), (64, .mp (befM bef)), (78, r78), (90, r90), (157, r157), (62040, rN), (62052, rM)]
theorem ins_l3 {Q : AX → St → Prop} (t2 t7 t65 t66 t67 : T) (r11 r44 r46 r78 r90 r157 rN rM : Reg) (L : List Int) (hL : L.length ≤ 1000000) (lc : Option Nat) (ln : Option Bool) (hnd : L.Nodup) (R : List (Int × Int)) (z : Int)
    (h0 : Q (.exit 4) ⟨i3E t2 t7 t65 t66 t67 (tI L.length) L lc ln z L.length ++ [(95, .t (tB false))], i3H r11 r44 r46 r78 r90 r157 rN rM R⟩) :
    ∀ (k i : Nat) (last : Int) (bef : List (Int × Int)), k + i = L.length → (∀ n ∈ L.drop i, n ∉ bef.map (·.1)) → bef ++ prevs last (L.drop i) = R → lastC last (L.drop i) = z →
    run Tryz.prog Γ scans_Insert_l3 Q ⟨i3E t2 t7 t65 t66 t67 (tI L.length) L lc ln last i, i3H r11 r44 r46 r78 r90 r157 rN rM bef⟩
  | 0, i, last, bef, h, hk, hR, hz => by
    refine scans_Insert_l3_run fun K hK => ?_
    have h3 : i = L.length := by omega
    subst h3
    rw [List.drop_of_length_le (Nat.le_refl _)] at hR hz
    simp only [prevs, lastC, List.append_nil] at hR hz
    subst hR; subst hz
    simp [i3E, i3H, Z8]
    simpa [i3E, i3H, Z8] using h0
  | k + 1, i, last, bef, h, hk, hR, hz => by
    refine scans_Insert_l3_run fun K hK => ?_
    have h2 : i < L.length := by omega
    have e := gi1 (f := tI) h2
    rw [getD_eq h2] at e
    have hd : L.drop (i + 1) = (L.drop i).tail := by simp
    rw [List.drop_eq_getElem_cons h2] at hR hz hk
    have hxm := List.pairwise_iff_getElem.1 (List.nodup_iff_pairwise_ne.1 hnd)
    have hnx : ∀ n ∈ L.drop (i + 1), n ≠ L[i] := fun n hn e => by
      obtain ⟨j, hj, rfl⟩ := List.getElem_of_mem hn
      simp at hj e
      exact hxm i (i + 1 + j) h2 (by omega) (by omega) e.symm
    generalize L[i] = x at *
    simp only [prevs, lastC] at hR hz
    have hx : x ∉ bef.map (·.1) := hk x List.mem_cons_self
    have ih := ins_l3 t2 t7 t65 t66 t67 r11 r44 r46 r78 r90 r157 rN rM L hL lc ln hnd R z h0 k (i + 1) x (bef ++ [(x, last)]) (by omega) (fun n hn => by
      rw [List.map_append, List.mem_append]
      rintro (h | h)
      · exact hk n (List.mem_cons_of_mem _ hn) h
      · simp at h; exact hnx n hn h) (by rw [List.append_assoc]; exact hR) hz
    have f2 := befM_set x last bef hx
    have f3 := befM_fit bef
    have hfit : (KT.int .i64).fits (.int .i64 x) = true := rfl
    have e' : ∀ h : i < (ints L).length, (ints L)[i] = [tI x] := fun h => by rw [← e]; simp [h]
    simp only [i3E, i3H] at ih ⊢
    simp [h2, enc1_len, enc1_wid, e, e', f2, f3, hfit]
    rw [wrap_i64 (by omega) (by omega), hK]
    simpa using ih
end Go.Lg
namespace Go.Lg
open Go Go.Proofs
variable {Γ : Tables}
def i3G (r11 r44 r46 r78 r90 r111 r157 rN rM : Reg) (bef : List (Int × Int)) : List (Nat × Reg) :=
  [(4, .bx Z8), (11, r11), (44, r44), (46, r46), (64, .mp (befM bef)), (78, r78), (90, r90), (111, r111), (157, r157), (62040, rN), (62052, rM)]
theorem ins_m3 {Q : AX → St → Prop} (t2 t7 t65 t66 t67 : T) (r11 r44 r46 r78 r90 r111 r157 rN rM : Reg) (L : List Int) (hL : L.length ≤ 1000000) (lc : Option Nat) (ln : Option Bool) (hnd : L.Nodup) (R : List (Int × Int)) (z : Int)
    (h0 : Q (.exit 4) ⟨i3E t2 t7 t65 t66 t67 (tI L.length) L lc ln z L.length ++ [(95, .t (tB false))], i3G r11 r44 r46 r78 r90 r111 r157 rN rM R⟩) :
    ∀ (k i : Nat) (last : Int) (bef : List (Int × Int)), k + i = L.length → (∀ n ∈ L.drop i, n ∉ bef.map (·.1)) → bef ++ prevs last (L.drop i) = R → lastC last (L.drop i) = z →
    run Tryz.prog Γ scans_Insert_l3 Q ⟨i3E t2 t7 t65 t66 t67 (tI L.length) L lc ln last i, i3G r11 r44 r46 r78 r90 r111 r157 rN rM bef⟩
  | 0, i, last, bef, h, hk, hR, hz => by
    refine scans_Insert_l3_run fun K hK => ?_
    have h3 : i = L.length := by omega
    subst h3
    rw [List.drop_of_length_le (Nat.le_refl _)] at hR hz
    simp only [prevs, lastC, List.append_nil] at hR hz
    subst hR; subst hz
    simp [i3E, i3G, Z8]
    simpa [i3E, i3G, Z8] using h0
  | k + 1, i, last, bef, h, hk, hR, hz => by
    refine scans_Insert_l3_run fun K hK => ?_
    have h2 : i < L.length := by omega
    have e := gi1 (f := tI) h2
    rw [getD_eq h2] at e
    have hd : L.drop (i + 1) = (L.drop i).tail := by simp
    rw [List.drop_eq_getElem_cons h2] at hR hz hk
    have hxm := List.pairwise_iff_getElem.1 (List.nodup_iff_pairwise_ne.1 hnd)
    have hnx : ∀ n ∈ L.drop (i + 1), n ≠ L[i] := fun n hn e => by
      obtain ⟨j, hj, rfl⟩ := List.getElem_of_mem hn
      simp at hj e
      exact hxm i (i + 1 + j) h2 (by omega) (by omega) e.symm
    generalize L[i] = x at *
    simp only [prevs, lastC] at hR hz
    have hx : x ∉ bef.map (·.1) := hk x List.mem_cons_self
    have ih := ins_m3 t2 t7 t65 t66 t67 r11 r44 r46 r78 r90 r111 r157 rN rM L hL lc ln hnd R z h0 k (i + 1) x (bef ++ [(x, last)]) (by omega) (fun n hn => by
      rw [List.map_append, List.mem_append]
      rintro (h | h)
      · exact hk n (List.mem_cons_of_mem _ hn) h
      · simp at h; exact hnx n hn h) (by rw [List.append_assoc]; exact hR) hz
    have f2 := befM_set x last bef hx
    have f3 := befM_fit bef
    have hfit : (KT.int .i64).fits (.int .i64 x) = true := rfl
    have e' : ∀ h : i < (ints L).length, (ints L)[i] = [tI x] := fun h => by rw [← e]; simp [h]
    simp only [i3E, i3G] at ih ⊢
    simp [h2, enc1_len, enc1_wid, e, e', f2, f3, hfit]
    rw [wrap_i64 (by omega) (by omega), hK]
    simpa using ih
end Go.Lg
namespace Go.Lg
open Go Go.Proofs
variable {Γ : Tables}
structure IS where
  nodes : List Nd
  names : List (List UInt8)
  cl : List (Sl Int)
  ins : List Int
  bef : List (Int × Int)
  outs : List Int
def siN (i : Nat) : List UInt8 := [115, 105] ++ itoaL i
def smN (i : Nat) : List UInt8 := [115, 109] ++ itoaL i
def stepCh (i : Nat) (s : Sl Int) (S : IS) : IS :=
  ⟨S.nodes ++ [inpN], S.names ++ [siN i], S.cl ++ [⟨s.l, some s.l.length, none⟩], S.ins ++ [(S.nodes.length : Int)], S.bef ++ prevs S.nodes.length s.l, S.outs ++ [lastC S.nodes.length s.l]⟩
def goCh : Nat → List (Sl Int) → IS → IS
  | _, [], S => S
  | i, s :: l, S => goCh (i + 1) l (stepCh i s S)
structure ISz (S : IS) : Prop where
  nodes : S.nodes.length ≤ 100000
  names : S.names.length ≤ 100000
  cl : S.cl.length ≤ 100000
  ins : S.ins.length ≤ 100000
  outs : S.outs.length ≤ 100000
structure ChOne (i : Nat) (s : Sl Int) (S : IS) : Prop where
  z : ISz S
  nm : siN i ∉ S.names
  i100 : i < 100
  ne : s.l ≠ []
  nl : s.nl ≠ some true
  len : s.l.length ≤ 1000000
  nd : s.l.Nodup
  key : ∀ n ∈ s.l, n ∉ S.bef.map (·.1)
def okCh : Nat → List (Sl Int) → IS → Prop
  | _, [], S => True
  | i, s :: l, S => ChOne i s S ∧ okCh (i + 1) l (stepCh i s S)
theorem wid1s {t : T} : wid 1 [[t]] = True := eq_true (by intro e he; simp at he; subst he; rfl)
theorem ba_cat (a b : List UInt8) : ByteArray.mk a.toArray ++ ByteArray.mk b.toArray = ByteArray.mk (a ++ b).toArray := by
  ext1; simp [ByteArray.data_append]
theorem siN_len {i : Nat} : (siN i).length ≤ 32 := by unfold siN itoaL; split <;> simp
theorem smN_len {i : Nat} : (smN i).length ≤ 32 := by unfold smN itoaL; split <;> simp
def i6E (c : Cir) (t7 : T) (chs : Sl (Sl Int)) (i : Nat) : List (Nat × AV) :=
  [(2, .t (.ip (tC c) 0)), (4, .lp 4 0 0), (7, .t t7), (8, .lp 46 0 0), (11, .lp 11 0 0), (12, .lm 64), (65, .t (.sl (enc1 tSl chs.l) chs.cap chs.nl)), (66, .t (tI chs.l.length)), (67, .t (tI i))]
def r11 (en : Int) (i : Nat) (k : Nat) : Reg := .bx [.t nilT, .t nilT, .t nilT, .t nilT, .ls 78 0 i none, .t (tI en), .ls 90 0 i none, .ls 157 0 k none]
def r46 (n m : Nat) (O : AV) : Reg := .bx [.ls 62040 0 n none, .ls 62052 0 m none, .t nilT, O, .lm 44, .t (tB false)]
def i6R (en : Int) (S : IS) : List (Nat × Reg) :=
  i3G (r11 en S.cl.length 0) (.mp (seenM S.names)) (r46 S.nodes.length S.names.length (.ls 111 0 S.outs.length none)) (.sl 33 1 (enc1 tSl S.cl)) (.sl 3 1 (ints S.ins)) (.sl 3 1 (ints S.outs)) (.sl 3 1 []) (.sl 104 4 (encN tNd S.nodes)) (.sl 9 1 (enc1 tS S.names)) S.bef
def i6T (en : Int) (ol : List Int) (oc : Option Nat) (on : Option Bool) (S : IS) : List (Nat × Reg) :=
  i3H (r11 en S.cl.length 0) (.mp (seenM S.names)) (r46 S.nodes.length S.names.length (.t (.sl (ints ol) oc on))) (.sl 33 1 (enc1 tSl S.cl)) (.sl 3 1 (ints S.ins)) (.sl 3 1 []) (.sl 104 4 (encN tNd S.nodes)) (.sl 9 1 (enc1 tS S.names)) S.bef
set_option maxHeartbeats 2000000 in
theorem ins_l5 {Q : AX → St → Prop} (c : Cir) (t7 : T) (chs : Sl (Sl Int)) (hcl : chs.l.length ≤ 100) (en : Int) (R : IS)
    (h0 : Q (.exit 2) ⟨i6E c t7 chs chs.l.length ++ [(68, .t (tB false))], i6R en R⟩) :
    ∀ (k i : Nat) (S : IS), k + i = chs.l.length → S.ins.length = S.cl.length → okCh i (chs.l.drop i) S → goCh i (chs.l.drop i) S = R →
    run Tryz.prog Γ scans_Insert_l5 Q ⟨i6E c t7 chs i, i6R en S⟩
  | 0, i, S, h, hic, hk, hR => by
    refine scans_Insert_l5_run fun K hK => ?_
    have h3 : i = chs.l.length := by omega
    subst h3
    rw [List.drop_of_length_le (Nat.le_refl _)] at hR
    simp only [goCh] at hR
    subst hR
    simp [i6E, i6R, i3G, Z8]
    simpa [i6E, i6R, i3G, Z8] using h0
  | k + 1, i, S, h, hic, hk, hR => by
    refine scans_Insert_l5_run fun K hK => ?_
    have h2 : i < chs.l.length := by omega
    rw [List.drop_eq_getElem_cons h2] at hR hk
    have e := enc1_get (f := tSl) ⟨[], none, none⟩ h2
    have e2 : chs.l[i]?.getD ⟨[], none, none⟩ = chs.l[i] := by simp [h2]
    rw [e2] at e
    generalize chs.l[i] = s at *
    obtain ⟨h1, h5⟩ := hk
    simp only [goCh] at hR
    have ih := ins_l5 c t7 chs hcl en R h0 k (i + 1) (stepCh i s S) (by omega) (by simp [stepCh, hic]) h5 hR
    have e' : ∀ h : i < (enc1 tSl chs.l).length, (enc1 tSl chs.l)[i] = [tSl s] := fun h => by rw [← e]; simp [h]
    have hz := h1.z
    have hso : SlOk s := ⟨fun h => absurd h h1.nl, fun _ => h1.ne, h1.len⟩
    have c1 := clone_int_a (Γ := Γ) s hso
    rw [if_neg h1.nl] at c1
    have c2 := clip_int (Γ := Γ) (ints s.l) none none enc1_wid
    have c3 := itoa_spec (Γ := Γ) i h1.i100
    have z1 := hz.nodes
    have z2 := hz.names
    have c4 := add_rr (Γ := Γ) S.names S.nodes S.names S.outs inpN (siN i) (by omega) (by omega) h1.nm siN_len
    have tk1 : (enc1 tSl S.cl).take S.cl.length = enc1 tSl S.cl := enc1_take_len
    have q1 : enc1 tSl S.cl ++ [[.sl (ints s.l) (some s.l.length) none]] = enc1 tSl (S.cl ++ [⟨s.l, some s.l.length, none⟩]) := enc1_snoc (f := tSl) (x := ⟨s.l, some s.l.length, none⟩)
    simp only [tSl] at c1 e e' q1
    simp [i6E, i6R, i3G, r11, r46, h2, enc1_len, enc1_wid, e, e']
    refine callK_fresh c1 rfl ?_
    simp
    refine callK_pure c2 rfl ?_
    simp [enc1_len, enc1_wid, tk1, q1, wid1s, Z8]
    have hcl2 : S.cl.length ≤ 2147483647 := by have := hz.cl; omega
    refine ⟨hcl2, ?_⟩
    refine callK_fresh c3 rfl ?_
    simp [tS, sV, ba_cat, List.idxOf_cons]
    have hil : 2 + (itoaL i).length ≤ 9223372036854775807 := by unfold itoaL; split <;> simp
    refine ⟨hil, ?_⟩
    simp [tNd, inpN, tSl, enc1_nil, tS, sV, siN] at c4
    have g3 := fun Q r11 r44 r46 r78 r90 r111 r157 rN rM h0 => ins_m3 (Γ := Γ) (Q := Q) (.ip (tC c) 0) t7 (.sl (enc1 tSl chs.l) chs.cap chs.nl) (tI chs.l.length) (tI i) r11 r44 r46 r78 r90 r111 r157 rN rM s.l h1.len s.cap s.nl h1.nd _ _ h0 s.l.length 0 S.nodes.length S.bef (by omega) h1.key rfl rfl
    simp [i3E, i3G, Z8] at g3
    have q2 : ints S.ins ++ [[tI S.nodes.length]] = ints (S.ins ++ [(S.nodes.length : Int)]) := enc1_snoc
    have tk2 : (ints S.ins).take S.cl.length = ints S.ins := by rw [← hic]; exact enc1_take_len
    have q3 : ints S.outs ++ [[tI (lastC S.nodes.length s.l)]] = ints (S.outs ++ [lastC S.nodes.length s.l]) := enc1_snoc
    have tk3 : (ints S.outs).take S.outs.length = ints S.outs := enc1_take_len
    refine ⟨_, _, c4, ?_⟩
    simp [List.idxOf_cons, renSt, wid1s, hcl2, tk2, q2, enc1_len]
    refine g3 _ _ _ _ _ _ _ _ _ _ ?_
    simp [wid1s, tk3, q3, enc1_len]
    refine ⟨by have := hz.outs; omega, ?_⟩
    rw [wrap_i64 (by omega) (by omega), hK]
    simpa [i6E, i6R, i3G, r11, r46, Z8, stepCh, nilT, inpN, siN, hic, tSl] using ih
end Go.Lg
namespace Go.Lg
open Go Go.Proofs
variable {Γ : Tables}
set_option maxHeartbeats 2000000 in
theorem ins_l5t {Q : AX → St → Prop} (c : Cir) (t7 : T) (chs : Sl (Sl Int)) (hcl : chs.l.length ≤ 100) (en : Int) (R : IS) (on : Option Bool) (S : IS)
    (h0 : chs.l ≠ [] → Q (.exit 2) ⟨i6E c t7 chs chs.l.length ++ [(68, .t (tB false))], i6R en R⟩)
    (h0t : chs.l = [] → Q (.exit 2) ⟨i6E c t7 chs 0 ++ [(68, .t (tB false))], i6T en S.outs (some S.outs.length) on S⟩)
    (hic : S.ins.length = S.cl.length) (hk : okCh 0 chs.l S) (hR : goCh 0 chs.l S = R) :
    run Tryz.prog Γ scans_Insert_l5 Q ⟨i6E c t7 chs 0, i6T en S.outs (some S.outs.length) on S⟩ := by
  by_cases hne : chs.l = []
  · have hh := h0t hne
    refine scans_Insert_l5_run fun K hK => ?_
    have hl0 : chs.l.length = 0 := by rw [hne]; rfl
    simp [i6E, i6T, i3H, Z8, hl0] at hh ⊢
    simpa [i6E, i6T, i3H, Z8] using hh
  · have h0 := h0 hne
    have hlen : 0 < chs.l.length := List.length_pos_iff.2 hne
    have step := fun S hs h1 h2 => ins_l5 (Γ := Γ) (Q := Q) c t7 chs hcl en R h0 (chs.l.length - 1) 1 S (by omega) hs h1 h2
    refine scans_Insert_l5_run fun K hK => ?_
    have hdr : chs.l = chs.l[0] :: chs.l.drop 1 := by
      have := List.drop_eq_getElem_cons hlen
      simpa using this
    rw [hdr] at hk hR
    have e := enc1_get (f := tSl) ⟨[], none, none⟩ hlen
    have e2 : chs.l[0]?.getD ⟨[], none, none⟩ = chs.l[0] := by simp [hlen]
    rw [e2] at e
    generalize chs.l[0] = s at *
    obtain ⟨h1, h5⟩ := hk
    simp only [goCh] at hR
    have ih := step (stepCh 0 s S) (by simp [stepCh, hic]) h5 hR
    have e' : ∀ h : 0 < (enc1 tSl chs.l).length, (enc1 tSl chs.l)[0] = [tSl s] := fun h => by rw [← e]; simp [h]
    have hz := h1.z
    have hso : SlOk s := ⟨fun h => absurd h h1.nl, fun _ => h1.ne, h1.len⟩
    have c1 := clone_int_a (Γ := Γ) s hso
    rw [if_neg h1.nl] at c1
    have c2 := clip_int (Γ := Γ) (ints s.l) none none enc1_wid
    have c3 := itoa_spec (Γ := Γ) 0 h1.i100
    have z1 := hz.nodes
    have z2 := hz.names
    have c4 := add_rt (Γ := Γ) S.names S.nodes S.names S.outs (some S.outs.length) on inpN (siN 0) (by omega) (by omega) h1.nm siN_len
    have tk1 : (enc1 tSl S.cl).take S.cl.length = enc1 tSl S.cl := enc1_take_len
    have q1 : enc1 tSl S.cl ++ [[.sl (ints s.l) (some s.l.length) none]] = enc1 tSl (S.cl ++ [⟨s.l, some s.l.length, none⟩]) := enc1_snoc (f := tSl) (x := ⟨s.l, some s.l.length, none⟩)
    have hlen' : chs.l.length ≠ 0 := by omega
    simp only [tSl] at c1 e e' q1
    simp [i6E, i6T, i3H, r11, r46, hlen, enc1_len, enc1_wid, e, e']
    refine callK_fresh c1 rfl ?_
    simp
    refine callK_pure c2 rfl ?_
    simp [enc1_len, enc1_wid, tk1, q1, wid1s, Z8]
    have hcl2 : S.cl.length ≤ 2147483647 := by have := hz.cl; omega
    refine ⟨hcl2, ?_⟩
    refine callK_fresh c3 rfl ?_
    simp [tS, sV, ba_cat, List.idxOf_cons]
    have hil : 2 + (itoaL 0).length ≤ 9223372036854775807 := by unfold itoaL; split <;> simp
    refine ⟨hil, ?_⟩
    simp [tNd, inpN, tSl, enc1_nil, tS, sV, siN] at c4
    have g3 := fun Q r11 r44 r46 r78 r90 r157 rN rM h0 => ins_l3 (Γ := Γ) (Q := Q) (.ip (tC c) 0) t7 (.sl (enc1 tSl chs.l) chs.cap chs.nl) (tI chs.l.length) (tI 0) r11 r44 r46 r78 r90 r157 rN rM s.l h1.len s.cap s.nl h1.nd _ _ h0 s.l.length 0 S.nodes.length S.bef (by omega) h1.key rfl rfl
    simp [i3E, i3H, Z8] at g3
    have q2 : ints S.ins ++ [[tI S.nodes.length]] = ints (S.ins ++ [(S.nodes.length : Int)]) := enc1_snoc
    have tk2 : (ints S.ins).take S.cl.length = ints S.ins := by rw [← hic]; exact enc1_take_len
    have q3 : ints S.outs ++ [[tI (lastC S.nodes.length s.l)]] = ints (S.outs ++ [lastC S.nodes.length s.l]) := enc1_snoc
    have tk3 : (ints S.outs).take S.outs.length = ints S.outs := enc1_take_len
    refine ⟨_, _, c4, ?_⟩
    simp [List.idxOf_cons, renSt, wid1s, hcl2, tk2, q2, enc1_len]
    refine g3 _ _ _ _ _ _ _ _ _ ?_
    simp [wid1s, tk3, q3, enc1_len, enc1_wid]
    refine ⟨by have := hz.outs; omega, ?_⟩
    rw [wrap_i64 (by omega) (by omega), hK]
    simpa [i6E, i6R, i3G, r11, r46, Z8, stepCh, nilT, inpN, siN, hic, tSl] using ih
end Go.Lg
namespace Go.Lg
open Go Go.Proofs
structure NG (B : Bool) (ns : List Nd) (i : Nat) (x : Nd) : Prop where
  k : 0 ≤ x.k ∧ x.k ≤ 15
  f : (fan x.k).1 ≤ x.inn.l.length ∧ (x.inn.l.length : Int) ≤ (fan x.k).2
  inn : ∀ p ∈ x.inn.l, 0 ≤ p ∧ p < ns.length
  top : 1 ≤ x.k ∧ x.k ≤ 13 → ∀ p ∈ x.inn.l, p < i
  bus : x.k = 13 → ∀ p ∈ x.inn.l, (ns.getD p.toNat Nd.d).k = 12
  mm : (x.k ≠ 15 → x.mem = 0 ∧ x.bit = 0) ∧ (x.k = 15 → B = true ∧ x.mem = 0 ∧ 0 ≤ x.bit ∧ x.bit ≤ 1)
theorem NG.mono {B : Bool} {ns ys : List Nd} {i : Nat} {x : Nd} (h : NG B ns i x) : NG B (ns ++ ys) i x :=
  ⟨h.k, h.f, fun p hp => by have := h.inn p hp; simp; omega, h.top, fun hk p hp => by
    have h1 := h.inn p hp
    rw [List.getD_eq_getElem?_getD, List.getElem?_append_left (by omega), ← List.getD_eq_getElem?_getD]
    exact h.bus hk p hp, h.mm⟩
def GNs (B : Bool) (ns : List Nd) : Prop := ∀ i (h : i < ns.length), NG B ns i ns[i]
theorem GNs.add {B : Bool} {ns : List Nd} {y : Nd} (h : GNs B ns) (hy : NG B (ns ++ [y]) ns.length y) : GNs B (ns ++ [y]) := by
  intro i hi
  by_cases h1 : i < ns.length
  · rw [List.getElem_append_left h1]; exact (h i h1).mono
  · have : i = ns.length := by simp at hi; omega
    subst this
    simpa using hy
theorem fan_at : fan 0 = (0, 0) ∧ fan 1 = (0, 0) ∧ fan 2 = (0, 0) ∧ fan 3 = (1, 1) ∧ fan 4 = (1, 1) ∧ fan 5 = (2, 16) ∧ fan 6 = (2, 16) ∧ fan 7 = (2, 16) ∧ fan 8 = (2, 16) ∧ fan 9 = (2, 16) ∧ fan 10 = (2, 16) ∧ fan 11 = (3, 3) ∧ fan 12 = (2, 2) ∧ fan 13 = (1, 16) ∧ fan 14 = (1, 1) ∧ fan 15 = (0, 0) := by decide
theorem ng_inp {B : Bool} {ns : List Nd} {i : Nat} : NG B ns i inpN := ⟨by decide, by decide, by simp [inpN], by simp [inpN], by simp [inpN], by simp [inpN]⟩
theorem ng_dff {B : Bool} {ns : List Nd} {i : Nat} {v : Int} (h : 0 ≤ v ∧ v < ns.length) : NG B ns i (dffN v) := ⟨by simp [dffN], by simp [dffN, fan_at], by simp [dffN]; exact h, by simp [dffN], by simp [dffN], by simp [dffN]⟩
theorem ng_mem {ns : List Nd} {i : Nat} {b : Int} (h : b = 0 ∨ b = 1) : NG true ns i (memN b) := ⟨by simp [memN], by simp [memN, fan_at], by simp [memN], by simp [memN], by simp [memN], by simp [memN]; omega⟩
theorem tri_at {ns : List Nd} : ∀ p ∈ triL ns, 0 ≤ p ∧ p < ns.length ∧ (ns.getD p.toNat Nd.d).k = 12 := by
  intro p hp
  obtain ⟨h1, h2, h3⟩ := ofL_kind [12] ns 0 p hp
  refine ⟨by omega, by omega, ?_⟩
  simpa using h3
theorem getD_in {l : List Int} {q : Nat} (h : q < l.length) : l.getD q 0 ∈ l := by
  rw [List.getD_eq_getElem?_getD, List.getElem?_eq_getElem h]; exact List.getElem_mem h
theorem ng_gate {B bus : Bool} {g : Gd} {ns : List Nd} (hg : GdOk g) (h0 : 1 ≤ ns.length) : NG B (ns ++ [gateN bus g ns]) ns.length (gateN bus g ns) := by
  have a := tmod_lt (n := ns.length) hg.2.1.1 (by omega)
  have b := tmod_lt (n := ns.length) hg.2.2.1.1 (by omega)
  have d := tmod_lt (n := ns.length) hg.2.2.2.1 (by omega)
  have m13 : 0 ≤ g.k.tmod 13 ∧ g.k.tmod 13 < 13 := tmod_lt (n := 13) hg.1.1 (by omega)
  have m9 : 0 ≤ g.k.tmod 9 ∧ g.k.tmod 9 < 9 := tmod_lt (n := 9) hg.1.1 (by omega)
  have ma : 0 ≤ g.a.tmod 2 ∧ g.a.tmod 2 < 2 := tmod_lt (n := 2) hg.2.1.1 (by omega)
  have hkk : 0 ≤ (if bus then g.k.tmod 13 else g.k.tmod 9) ∧ (if bus then g.k.tmod 13 else g.k.tmod 9) < 13 := by cases bus <;> simp <;> omega
  have ht := tri_at (ns := ns)
  obtain ⟨y, hy⟩ : ∃ y, y = gateN bus g ns := ⟨_, rfl⟩
  rw [← hy]
  have hlen : (ns ++ [y]).length = ns.length + 1 := by simp
  have old : ∀ p : Int, 0 ≤ p → p < ns.length → ((ns ++ [y]).getD p.toNat Nd.d).k = (ns.getD p.toNat Nd.d).k := fun p h1 h2 => by
    rw [List.getD_eq_getElem?_getD, List.getElem?_append_left (by omega), ← List.getD_eq_getElem?_getD]
  -- what suffices of a plain gate
  have mk : ∀ (k : Int) (l : List Int) (cap : Option Nat) (nl : Option Bool), 0 ≤ k → k ≤ 15 → k ≠ 13 → k ≠ 15 → (fan k).1 ≤ l.length → (l.length : Int) ≤ (fan k).2 → (∀ p ∈ l, 0 ≤ p ∧ p < ns.length) → NG B (ns ++ [y]) ns.length ⟨k, ⟨l, cap, nl⟩, 0, 0⟩ := fun k l cap nl h1 h2 h3 h4 h5 h6 h7 =>
    ⟨⟨h1, h2⟩, ⟨h5, h6⟩, fun p hp => by have := h7 p hp; omega, fun _ p hp => (h7 p hp).2, fun e => absurd e h3, fun _ => ⟨rfl, rfl⟩, fun e => absurd e h4⟩
  unfold gateN gateT at hy
  simp only at hy
  generalize g.a.tmod ns.length = a' at *
  generalize g.b.tmod ns.length = b' at *
  generalize g.d.tmod ns.length = d' at *
  generalize (if bus = true then g.k.tmod 13 else g.k.tmod 9) = kk at *
  have two : ∀ p ∈ [a', b'], 0 ≤ p ∧ p < ns.length := by intro p hp; simp at hp; rcases hp with rfl | rfl; exact a; exact b
  have three : ∀ p ∈ [a', b', d'], 0 ≤ p ∧ p < ns.length := by intro p hp; simp at hp; rcases hp with rfl | rfl | rfl; exact a; exact b; exact d
  have one : ∀ p ∈ [a'], 0 ≤ p ∧ p < ns.length := by intro p hp; simp at hp; rcases hp with rfl; exact a
  split at hy
  · rename_i h6
    have hc : kk = 0 ∨ kk = 1 ∨ kk = 2 ∨ kk = 3 ∨ kk = 4 ∨ kk = 5 := by omega
    split at hy
    · rw [hy]
      have hf : (fan (5 + kk)).1 = 2 ∧ (fan (5 + kk)).2 = 16 := by rcases hc with rfl | rfl | rfl | rfl | rfl | rfl <;> decide
      rw [← hy]
      have := mk (5 + kk) [a', b', d'] none none (by omega) (by omega) (by omega) (by omega) (by rw [hf.1]; simp) (by rw [hf.2]; simp) three
      rw [← hy] at this; exact this
    · have hf : (fan (5 + kk)).1 = 2 ∧ (fan (5 + kk)).2 = 16 := by rcases hc with rfl | rfl | rfl | rfl | rfl | rfl <;> decide
      have := mk (5 + kk) [a', b'] none none (by omega) (by omega) (by omega) (by omega) (by rw [hf.1]; simp) (by rw [hf.2]; simp) two
      rw [← hy] at this; exact this
  split at hy
  · have := mk 4 [a'] none none (by omega) (by omega) (by omega) (by omega) (by simp [fan_at]) (by simp [fan_at]) one
    rw [← hy] at this; exact this
  split at hy
  · have := mk 11 [a', b', d'] none none (by omega) (by omega) (by omega) (by omega) (by simp [fan_at]) (by simp [fan_at]) three
    rw [← hy] at this; exact this
  split at hy
  · have := mk 12 [a', b'] none none (by omega) (by omega) (by omega) (by omega) (by simp [fan_at]) (by simp [fan_at]) two
    rw [← hy] at this; exact this
  split at hy
  · rename_i ht2
    generalize triL ns = t at *
    have mt := tmod_lt (n := t.length) hg.2.1.1 ht2.2
    have mt2 := tmod_lt (a := g.a.tmod t.length + 1) (n := t.length) (by omega) ht2.2
    have q1 := ht _ (getD_in (l := t) (q := (g.a.tmod t.length).toNat) (by omega))
    have q2 := ht _ (getD_in (l := t) (q := ((g.a.tmod t.length + 1).tmod t.length).toNat) (by omega))
    generalize t.getD (g.a.tmod t.length).toNat 0 = u1 at *
    generalize t.getD ((g.a.tmod t.length + 1).tmod t.length).toNat 0 = u2 at *
    have mkb : ∀ (l : List Int) (cap : Option Nat) (nl : Option Bool), 1 ≤ l.length → l.length ≤ 16 → (∀ p ∈ l, 0 ≤ p ∧ p < ns.length ∧ (ns.getD p.toNat Nd.d).k = 12) → NG B (ns ++ [y]) ns.length ⟨13, ⟨l, cap, nl⟩, 0, 0⟩ := fun l cap nl h5 h6 h7 =>
      ⟨by simp, ⟨by simp [fan_at]; omega, by simp [fan_at]; omega⟩, fun p hp => by have := h7 p hp; omega, fun _ p hp => (h7 p hp).2.1, fun _ p hp => by rw [old p (h7 p hp).1 (h7 p hp).2.1]; exact (h7 p hp).2.2, fun _ => ⟨rfl, rfl⟩, fun e => by simp at e⟩
    split at hy
    · have := mkb [u1, u2] none none (by simp) (by simp) (by intro p hp; simp at hp; rcases hp with rfl | rfl; exact q1; exact q2)
      rw [← hy] at this; exact this
    · have := mkb [u1] none none (by simp) (by simp) (by intro p hp; simp at hp; rcases hp with rfl; exact q1)
      rw [← hy] at this; exact this
  split at hy
  · have hc : g.a.tmod 2 = 0 ∨ g.a.tmod 2 = 1 := by omega
    have hf : (fan (1 + g.a.tmod 2)).1 = 0 ∧ (fan (1 + g.a.tmod 2)).2 = 0 := by rcases hc with e | e <;> rw [e] <;> decide
    have := mk (1 + g.a.tmod 2) [] (some 0) (some true) (by omega) (by omega) (by omega) (by omega) (by rw [hf.1]; simp) (by rw [hf.2]; simp) (by simp)
    rw [← hy] at this; exact this
  · have := mk 3 [a'] none none (by omega) (by omega) (by omega) (by omega) (by simp [fan_at]) (by simp [fan_at]) one
    rw [← hy] at this; exact this
theorem gns_gates {B bus : Bool} : ∀ {l : List Gd} {ns : List Nd}, (∀ g ∈ l, GdOk g) → 1 ≤ ns.length → GNs B ns → GNs B (gatesN bus l ns)
  | [], ns, _, _, h => h
  | g :: l, ns, hg, h0, h => by
    simp only [gatesN]
    exact gns_gates (fun y hy => hg y (List.mem_cons_of_mem _ hy)) (by simp) (h.add (ng_gate (hg g List.mem_cons_self) h0))
theorem gns_set {B : Bool} {ns : List Nd} {j : Nat} {v : Int} (h : GNs B ns) (hj : j < ns.length) (hk : ns[j].k = 14) (hv : 0 ≤ v ∧ v < ns.length) : GNs B (setIn ns j v) := by
  have hm := (h j hj).mm.1 (by rw [hk]; decide)
  have hgd : ns.getD j Nd.d = ns[j] := by simp [List.getD_eq_getElem?_getD, hj]
  have kinds : ∀ q : Nat, ((setIn ns j v).getD q Nd.d).k = (ns.getD q Nd.d).k := fun q => by
    unfold setIn
    simp only [List.getD_eq_getElem?_getD, List.getElem?_set]
    split
    · rename_i e; subst e; simp [hj]
    · rfl
  intro i hi
  have hi' : i < ns.length := by rw [setIn_len] at hi; exact hi
  by_cases hij : i = j
  · subst hij
    have : (setIn ns i v)[i] = ⟨14, ⟨[v], some 1, some false⟩, 0, 0⟩ := by
      simp only [setIn, hgd, hk, hm.1, hm.2, List.getElem_set_self]
    rw [this]
    exact ⟨by simp, by simp [fan_at], by simp [setIn_len]; exact hv, by simp, by simp, by simp⟩
  · have : (setIn ns j v)[i] = ns[i] := by
      simp only [setIn]
      rw [List.getElem_set_ne (fun e => hij e.symm)]
    rw [this]
    have hn := h i hi'
    exact ⟨hn.k, hn.f, fun p hp => by rw [setIn_len]; exact hn.inn p hp, hn.top, fun hk p hp => by rw [kinds]; exact hn.bus hk p hp, hn.mm⟩
theorem setIn_kind {ns : List Nd} {j q : Nat} {v : Int} : ((setIn ns j v).getD q Nd.d).k = (ns.getD q Nd.d).k := by
  unfold setIn
  simp only [List.getD_eq_getElem?_getD, List.getElem?_set]
  split
  · rename_i e; subst e
    split
    · simp
    · rename_i h; simp [List.getElem?_eq_none (Nat.le_of_not_lt h)]
  · rfl
theorem gns_data {B : Bool} {x : CD} {first : Nat} (h0 : Byt x.d0) (h1 : Byt x.d1) : ∀ {k i : Nat} {ns : List Nd}, GNs B ns → (∀ q, q < i + k → first + q < ns.length ∧ (ns.getD (first + q) Nd.d).k = 14) → GNs B (dataN x first k i ns)
  | 0, _, _, h, _ => h
  | k + 1, i, ns, h, hq => by
    simp only [dataN]
    obtain ⟨hl, hk⟩ := hq i (by omega)
    have hd : 0 ≤ ddN x i := by unfold ddN; split; exact h0.1; exact h1.1
    have hv := tmod_lt (n := ns.length) hd (by omega)
    refine gns_data h0 h1 (gns_set h hl (by simpa [List.getD_eq_getElem?_getD, hl] using hk) hv) fun q hq' => ?_
    rw [setIn_len, setIn_kind]
    exact hq q (by omega)
theorem gatesN_kind {bus : Bool} : ∀ {l : List Gd} {ns : List Nd} {q : Nat}, q < ns.length → ((gatesN bus l ns).getD q Nd.d) = (ns.getD q Nd.d)
  | [], _, _, _ => rfl
  | g :: l, ns, q, h => by
    simp only [gatesN]
    rw [gatesN_kind (by simp; omega)]
    rw [List.getD_eq_getElem?_getD, List.getElem?_append_left h, ← List.getD_eq_getElem?_getD]
theorem gns_rep {B : Bool} {x : Nd} (h : ∀ ns : List Nd, 1 ≤ ns.length → ∀ i, NG B ns i x) : ∀ (k : Nat) {ns : List Nd}, GNs B ns → GNs B (ns ++ List.replicate k x)
  | 0, ns, hn => by simpa using hn
  | k + 1, ns, hn => by
    rw [List.replicate_succ, List.append_cons]
    exact gns_rep h k (hn.add (h _ (by simp) _))
theorem nodes5_good {x : CD} (hx : CDOk x) : GNs x.mem (nodes5 x) := by
  have m4 : 0 ≤ x.i.tmod 4 ∧ x.i.tmod 4 < 4 := tmod_lt (n := 4) hx.i.1 (by omega)
  have m3 : 0 ≤ x.f.tmod 3 ∧ x.f.tmod 3 < 3 := tmod_lt (n := 3) hx.f.1 (by omega)
  have g0 : GNs x.mem [] := fun i h => by simp at h
  have g1 : GNs x.mem (nodes1 x) := by
    have := gns_rep (B := x.mem) (x := inpN) (fun ns _ i => ng_inp) (x.i.tmod 4 + 1).toNat g0
    simpa [nodes1] using this
  have l1 : 1 ≤ (nodes1 x).length := by simp [nodes1]; omega
  have g2 : GNs x.mem (nodes2 x) := gns_rep (fun ns h i => ng_dff ⟨by omega, by omega⟩) _ g1
  have l2 : (nodes2 x).length = (nodes1 x).length + (x.f.tmod 3).toNat := by simp [nodes2]
  have g3 : GNs x.mem (nodes3 x) := by
    unfold nodes3
    split
    · rename_i hm
      rw [hm] at g2 ⊢
      have a1 := g2.add (y := memN 0) (ng_mem (.inl rfl))
      have a2 := a1.add (y := memN 1) (ng_mem (.inr rfl))
      rw [List.append_assoc] at a2
      exact a2
    · exact g2
  have l3 : (nodes2 x).length ≤ (nodes3 x).length := by unfold nodes3; split <;> simp
  have g4 : GNs x.mem (nodes4 x) := gns_gates (fun g hg => hx.gates g (List.mem_of_mem_take hg)) (by omega) g3
  have l4 : (nodes3 x).length ≤ (nodes4 x).length := by unfold nodes4; rw [gatesN_len]; omega
  refine gns_data hx.d0 hx.d1 g4 fun q hq => ⟨by omega, ?_⟩
  unfold nodes4
  rw [gatesN_kind (by omega)]
  have e : (nodes3 x).getD ((nodes1 x).length + q) Nd.d = (nodes2 x).getD ((nodes1 x).length + q) Nd.d := by
    unfold nodes3
    split
    · rw [List.getD_eq_getElem?_getD, List.getElem?_append_left (by omega), ← List.getD_eq_getElem?_getD]
    · rfl
  rw [e]
  unfold nodes2
  rw [List.getD_eq_getElem?_getD, List.getElem?_append_right (by omega)]
  simp only [Nat.add_sub_cancel_left]
  rw [List.getElem?_replicate, if_pos (by omega)]
  rfl
theorem firstErr_all {α : Type} {f : α → Int} : ∀ {l : List α}, (∀ x ∈ l, f x = 0) → firstErr (l.map f) = 0
  | [], _ => rfl
  | x :: l, h => by
    simp only [List.map_cons, firstErr, h x List.mem_cons_self, ne_eq, not_true_eq_false, if_false]
    exact firstErr_all fun y hy => h y (List.mem_cons_of_mem _ hy)
theorem names_fine : ∀ n, n ≤ 16 → namesErr [] ((List.range' 0 n).map nameL) = 0 := by
  intro n hn
  have : n = 0 ∨ n = 1 ∨ n = 2 ∨ n = 3 ∨ n = 4 ∨ n = 5 ∨ n = 6 ∨ n = 7 ∨ n = 8 ∨ n = 9 ∨ n = 10 ∨ n = 11 ∨ n = 12 ∨ n = 13 ∨ n = 14 ∨ n = 15 ∨ n = 16 := by omega
  rcases this with rfl | rfl | rfl | rfl | rfl | rfl | rfl | rfl | rfl | rfl | rfl | rfl | rfl | rfl | rfl | rfl | rfl <;> decide +kernel
theorem ofC_shape {x : CD} (hx : CDOk x) : shapeErr (ofC x) = 0 := by
  have hl := nodes4_len hx
  have h5 := nodes5_len hx
  have hg := nodes5_good hx
  have hN : (ofC x).nodes.l = nodes5 x := rfl
  have hmods : ∀ b, Byt b → 0 ≤ b.tmod (nodes4 x).length ∧ b.tmod (nodes4 x).length < (nodes5 x).length := fun b hb => by
    have := tmod_lt (n := (nodes4 x).length) hb.1 (by omega); omega
  have hout : ∀ n, 0 ≤ n ∧ n < ((nodes5 x).length : Int) → outP (ofC x) n = false := fun n h => by simp [outP, hN]; omega
  have hnode : ∀ y ∈ nodes5 x, nodeErr (ofC x) y = 0 := by
    intro y hy
    obtain ⟨i, hi, rfl⟩ := List.getElem_of_mem hy
    have hn := hg i hi
    unfold nodeErr
    rw [if_neg (by have := hn.k; omega), if_neg (by have := hn.f; omega)]
    have h1 : (nodes5 x)[i].inn.l.any (outP (ofC x)) = false := List.any_eq_false.2 fun p hp => by rw [hout p (hn.inn p hp)]; simp
    rw [h1]
    have h2 : ¬ ((nodes5 x)[i].k = 13 ∧ (nodes5 x)[i].inn.l.any (notTri (ofC x)) = true) := by
      rintro ⟨hk, ha⟩
      obtain ⟨p, hp, hq⟩ := List.any_eq_true.1 ha
      have := hn.bus hk p hp
      simp [notTri, hN] at hq
      rw [List.getD_eq_getElem?_getD] at this
      exact hq this
    rw [if_neg (by simp), if_neg h2]
    have h3 : bitOk (ofC x) (nodes5 x)[i] = true := by
      unfold bitOk
      by_cases hk : (nodes5 x)[i].k = 15
      · obtain ⟨hm, e1, e2, e3⟩ := hn.mm.2 hk
        simp only [hk, ne_eq, not_true_eq_false, if_false, decide_eq_true_eq]
        simp [ofC, memM, hm, e1]
        omega
      · have := hn.mm.1 hk
        simp [hk, this]
    rw [h3]; simp
  unfold shapeErr
  have e1 : ¬ (16384 < (ofC x).nodes.l.length ∨ 16 < (ofC x).mems.l.length ∨ 16384 < (ofC x).outs.l.length) := by
    have : (ofC x).mems.l.length ≤ 1 := by simp only [ofC, memM]; split <;> simp
    have : (ofC x).outs.l.length ≤ 4 := by simp [ofC]; omega
    rw [hN]; omega
  have e2 : (ofC x).names.l.length = (ofC x).nodes.l.length := by rw [hN]; simp [ofC]; omega
  rw [if_neg e1, if_neg (by simp [e2]), if_neg (by rw [hN, firstErr_all hnode]; simp), if_neg (by
    rw [show (ofC x).names.l = (List.range' 0 (nodes4 x).length).map nameL from rfl, names_fine _ hl.2]; simp), if_neg (by
    rw [firstErr_all]
    · simp
    · intro m hm
      simp only [ofC, memM] at hm
      split at hm
      · simp at hm; subst hm
        unfold memErr
        have a0 := hout _ (hmods _ hx.p0)
        have a1 := hout _ (hmods _ hx.p1)
        have a2 := hout _ (hmods _ hx.p2)
        have a3 := hout _ (hmods _ hx.p3)
        simp [memOut, a0, a1, a2, a3]
      · cases hm)]
  have ho : (ofC x).outs.l.any (outP (ofC x)) = false := by
    refine List.any_eq_false.2 fun p hp => ?_
    have : 0 ≤ p ∧ p < ((nodes5 x).length : Int) := by
      simp only [ofC, List.mem_append, List.mem_map, List.mem_singleton] at hp
      rcases hp with ⟨b, hb, rfl⟩ | rfl
      · exact hmods b (hx.outs b (List.mem_of_mem_take hb))
      · omega
    rw [hout p this]; simp
  rw [ho]; rfl
theorem ofC_valid {x : CD} (hx : CDOk x) : levErr (ofC x) = 0 := by
  have hs := ofC_shape hx
  have hg := nodes5_good hx
  have hN : (ofC x).nodes.l = nodes5 x := rfl
  have hin : ∀ y ∈ (ofC x).nodes.l, ∀ p ∈ y.inn.l, 0 ≤ p ∧ p < (ofC x).nodes.l.length := by
    intro y hy p hp
    rw [hN] at hy ⊢
    obtain ⟨i, hi, rfl⟩ := List.getElem_of_mem hy
    exact (hg i hi).inn p hp
  have hd := levels_done (ofC x) (shape_facts hs).2.1 hin (by
    intro i hi hc p hp
    rw [hN] at hi
    have e : (ofC x).nodes.l.getD i Nd.d = (nodes5 x)[i] := by rw [hN]; simp [List.getD_eq_getElem?_getD, hi]
    simp only [kindAt, innAt, e] at hc hp
    exact (hg i hi).top (by simpa [combB] using hc) p hp)
  unfold levErr
  rw [if_neg (by simp [hs]), if_neg hd]
theorem ofC_plain {x : CD} (hx : CDOk x) (hm : x.mem = false) : plainErr (ofC x) = 0 := by
  have hv := ofC_valid hx
  have hg := nodes5_good hx
  have h1 : (ofC x).mems.l = [] := by simp [ofC, memM, hm]
  have h2 : mems (ofC x) = [] := by
    refine List.eq_nil_iff_forall_not_mem.2 fun n hn => ?_
    obtain ⟨a, b, h3⟩ := ofL_kind [15] (ofC x).nodes.l 0 n hn
    have hi : n.toNat < (nodes5 x).length := by have : (ofC x).nodes.l = nodes5 x := rfl; rw [this] at b; omega
    have hk : (nodes5 x)[n.toNat].k = 15 := by
      have : (ofC x).nodes.l = nodes5 x := rfl
      rw [this] at h3
      simpa [List.getD_eq_getElem?_getD, hi] using h3
    have := ((hg _ hi).mm.2 hk).1
    rw [hm] at this; cases this
  unfold plainErr
  rw [if_neg (by simp [hv]), h1, h2]; simp
end Go.Lg
namespace Go.Lg
open Go Go.Proofs
variable {Γ : Tables}
structure JS where
  nodes : List Nd
  names : List (List UInt8)
  muxes : List Int
def muxN (e d b : Int) : Nd := ⟨11, ⟨[e, d, b], some 3, some false⟩, 0, 0⟩
def in0 (c : Cir) (n : Int) : Int := (innAt c n.toNat).getD 0 0
def stepSt (c : Cir) (en : Int) (bef : List (Int × Int)) (i : Nat) (n : Int) (J : JS) : JS :=
  ⟨setIn (J.nodes ++ [muxN en (in0 c n) (befOf bef n)]) n.toNat J.nodes.length, J.names ++ [smN i], J.muxes ++ [(J.nodes.length : Int)]⟩
def goSt (c : Cir) (en : Int) (bef : List (Int × Int)) : Nat → List Int → JS → JS
  | _, [], J => J
  | i, n :: l, J => goSt c en bef (i + 1) l (stepSt c en bef i n J)
structure StOne (c : Cir) (i : Nat) (n : Int) (J : JS) : Prop where
  nodes : J.nodes.length ≤ 100000
  names : J.names.length ≤ 100000
  muxes : J.muxes.length ≤ 100000
  nm : smN i ∉ J.names
  i100 : i < 100
  n0 : 0 ≤ n
  n1 : n < c.nodes.l.length
  n2 : n < J.nodes.length
  inn : innAt c n.toNat ≠ []
def okSt (c : Cir) (en : Int) (bef : List (Int × Int)) : Nat → List Int → JS → Prop
  | _, [], _ => True
  | i, n :: l, J => StOne c i n J ∧ okSt c en bef (i + 1) l (stepSt c en bef i n J)
def i8E (c : Cir) (st : List Int) (sc : Option Nat) (sn : Option Bool) (i : Nat) : List (Nat × AV) :=
  [(2, .t (.ip (tC c) 0)), (4, .lp 4 0 0), (8, .lp 46 0 0), (11, .lp 11 0 0), (12, .lm 64), (116, .t (.sl (ints st) sc sn)), (117, .t (tI st.length)), (118, .t (tI i))]
def i8R (en : Int) (S : IS) (J : JS) : List (Nat × Reg) :=
  i3G (r11 en S.cl.length J.muxes.length) (.mp (seenM J.names)) (r46 J.nodes.length J.names.length (.ls 111 0 S.outs.length none)) (.sl 33 1 (enc1 tSl S.cl)) (.sl 3 1 (ints S.ins)) (.sl 3 1 (ints S.outs)) (.sl 3 1 (ints J.muxes)) (.sl 104 4 (encN tNd J.nodes)) (.sl 9 1 (enc1 tS J.names)) S.bef
theorem nd_at {c : Cir} {n : Int} (h0 : 0 ≤ n) (h : n < c.nodes.l.length) : (encN tNd c.nodes.l)[n.toNat]?.getD [] = tNd (c.nodes.l.getD n.toNat Nd.d) := gN (by omega)
set_option maxHeartbeats 2000000 in
theorem ins_l7 {Q : AX → St → Prop} (c : Cir) (hcn : c.nodes.l.length ≤ 100000) (st : List Int) (hst : st.length ≤ 100) (sc : Option Nat) (sn : Option Bool) (en : Int) (S : IS) (R : JS)
    (h0 : Q (.exit 6) ⟨i8E c st sc sn st.length ++ [(119, .t (tB false))], i8R en S R⟩) :
    ∀ (k i : Nat) (J : JS), k + i = st.length → okSt c en S.bef i (st.drop i) J → goSt c en S.bef i (st.drop i) J = R →
    run Tryz.prog Γ scans_Insert_l7 Q ⟨i8E c st sc sn i, i8R en S J⟩
  | 0, i, J, h, hk, hR => by
    refine scans_Insert_l7_run fun K hK => ?_
    have h3 : i = st.length := by omega
    subst h3
    rw [List.drop_of_length_le (Nat.le_refl _)] at hR
    simp only [goSt] at hR
    subst hR
    simp [i8E, i8R, i3G, Z8]
    simpa [i8E, i8R, i3G, Z8] using h0
  | k + 1, i, J, h, hk, hR => by
    refine scans_Insert_l7_run fun K hK => ?_
    have h2 : i < st.length := by omega
    rw [List.drop_eq_getElem_cons h2] at hR hk
    have e := gi1 (f := tI) h2
    rw [getD_eq h2] at e
    generalize st[i] = n at *
    obtain ⟨h1, h5⟩ := hk
    simp only [goSt] at hR
    have ih := ins_l7 c hcn st hst sc sn en S R h0 k (i + 1) (stepSt c en S.bef i n J) (by omega) h5 hR
    have e' : ∀ h : i < (ints st).length, (ints st)[i] = [tI n] := fun h => by rw [← e]; simp [h]
    have n0 := h1.n0
    have n1 := h1.n1
    have n2 := h1.n2
    have n3 : n.toNat < c.nodes.l.length := by omega
    have n4 : n.toNat < J.nodes.length := by omega
    have en1 := nd_at (c := c) n0 n1
    have en1' : ∀ h : n.toNat < (encN tNd c.nodes.l).length, (encN tNd c.nodes.l)[n.toNat] = tNd (c.nodes.l.getD n.toNat Nd.d) := fun h => by rw [← en1]; simp [h]
    have hin : innAt c n.toNat = (c.nodes.l.getD n.toNat Nd.d).inn.l := rfl
    have hne := h1.inn
    have hd : (ints (c.nodes.l.getD n.toNat Nd.d).inn.l)[0]?.getD [] = [tI (in0 c n)] := by
      rw [← hin]
      cases hl : innAt c n.toNat with
      | nil => exact absurd hl hne
      | cons a l => simp [in0, hl, enc1]
    rw [hin] at hne
    have hlp : 0 < (c.nodes.l.getD n.toNat Nd.d).inn.l.length := List.length_pos_iff.2 hne
    generalize c.nodes.l.getD n.toNat Nd.d = x at *
    have hd' : ∀ h : 0 < (ints x.inn.l).length, (ints x.inn.l)[0] = [tI (in0 c n)] := fun h => by rw [← hd]; simp [h]
    have hb := befM_find n S.bef
    have hbf := befM_fit S.bef
    have c3 := itoa_spec (Γ := Γ) i h1.i100
    have z1 := h1.nodes
    have z2 := h1.names
    have c4 := add_rr (Γ := Γ) J.names J.nodes J.names S.outs (muxN en (in0 c n) (befOf S.bef n)) (smN i) (by omega) (by omega) h1.nm smN_len
    have hil : 2 + (itoaL i).length ≤ 9223372036854775807 := by unfold itoaL; split <;> simp
    have q1 : ints J.muxes ++ [[tI J.nodes.length]] = ints (J.muxes ++ [(J.nodes.length : Int)]) := enc1_snoc
    have tk1 : (ints J.muxes).take J.muxes.length = ints J.muxes := enc1_take_len
    simp [i8E, i8R, i3G, r11, r46, h2, enc1_len, enc1_wid, e, e', tC, tNodes, encN_len, tNd_wid, n0, n1, en1, en1', tNd, tSl, hd, hd', hlp, hb, hbf, KT.fits]
    refine callK_fresh c3 rfl ?_
    simp [tS, sV, ba_cat, List.idxOf_cons, Z8]
    refine ⟨hil, ?_⟩
    simp [tNd, muxN, tSl, enc1_nil, tS, sV, smN] at c4
    have hm : (⟨11, ⟨[en, in0 c n, befOf S.bef n], some 3, some false⟩, 0, 0⟩ : Nd) = muxN en (in0 c n) (befOf S.bef n) := rfl
    rw [hm] at c4
    have hLl : (J.nodes ++ [muxN en (in0 c n) (befOf S.bef n)]).length = J.nodes.length + 1 := by simp
    have y1 := gN (l := J.nodes ++ [muxN en (in0 c n) (befOf S.bef n)]) (i := n.toNat) (by omega)
    have y2 : ∀ y : Nd, (J.nodes ++ [muxN en (in0 c n) (befOf S.bef n)]).getD n.toNat Nd.d = y → (encN tNd (J.nodes ++ [muxN en (in0 c n) (befOf S.bef n)])).set n.toNat [tK y.k, .sl [[tI J.nodes.length]] (some 1) (some false), tI y.mem, tI y.bit] = encN tNd (setIn (J.nodes ++ [muxN en (in0 c n) (befOf S.bef n)]) n.toNat J.nodes.length) := fun y hy => by
      unfold setIn
      rw [hy]
      exact encN_set (f := tNd) (x := ⟨y.k, ⟨[(J.nodes.length : Int)], some 1, some false⟩, y.mem, y.bit⟩)
    have ihn : (stepSt c en S.bef i n J).nodes = setIn (J.nodes ++ [muxN en (in0 c n) (befOf S.bef n)]) n.toNat J.nodes.length := rfl
    have ihl : (setIn (J.nodes ++ [muxN en (in0 c n) (befOf S.bef n)]) n.toNat J.nodes.length).length = J.nodes.length + 1 := by unfold setIn; simp
    simp [i8E, i8R, i3G, r11, r46, Z8, ihn, ihl, tC, tNodes] at ih
    generalize J.nodes ++ [muxN en (in0 c n) (befOf S.bef n)] = L at *
    generalize setIn L n.toNat J.nodes.length = L2 at *
    have y3 := y2 _ rfl
    generalize L.getD n.toNat Nd.d = y at *
    have y1' : ∀ h : n.toNat < (encN tNd L).length, (encN tNd L)[n.toNat] = tNd y := fun h => by rw [← y1]; simp [h]
    have n5 : n < (J.nodes.length : Int) + 1 := by omega
    have n6 : n.toNat < J.nodes.length + 1 := by omega
    refine ⟨_, _, c4, ?_⟩
    simp [List.idxOf_cons, renSt, wid1s, tk1, q1, enc1_len, encN_len, hLl, n0, n5, n6, y1, y1', y3, tNd_wid, tNd, tSl]
    refine ⟨by have := h1.muxes; omega, ?_⟩
    rw [wrap_i64 (by omega) (by omega), hK]
    simpa [stepSt, nilT, smN, tSl] using ih
end Go.Lg
