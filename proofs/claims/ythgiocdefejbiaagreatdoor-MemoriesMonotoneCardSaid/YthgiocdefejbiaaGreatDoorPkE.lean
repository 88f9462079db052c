/- The abstract code of some functions, as the program gen.py prints it. Conditions: none. -/
import Derived.Test.YthgiocdefejbiaaGreatDoorPkC
import Derived.Test.YthgiocdefejbiaaGreatDoorProg
import Derived.KernelRfl
import Derived.Test.YthgiocdefejbiaaGreatDoorPkD
set_option linter.unusedVariables false
namespace Go.Lg
open Go
section
variable {P : Program} {Γ : Tables} {Q : AX → St → Prop} {s : St}
/- probecard/logic.Clean (function 133) -/
abbrev q18 : IC := (.seq (.reg [od 2 (.mv (ku 0))] [kp [0] []]) (.seq (.seq (.reg [om 3 0, od 4 (.bin .gtr (tm 3) (ku 3))] [kp [0, 4] []]) (.cond (tm 4) (.seq (.reg [od 2 (.mv (ku 2))] [kp [2] []]) .ret) .skip)) (.seq (.reg [om 5 0, om 2 5] [kp [2]
 []]) .ret)))
def q19 : List RV := [.tmp 2]
/- probecard/logic.Read (function 114) -/
abbrev q2X : IC := (.seq (.reg [od 2 (.mv (ku 0))] [kp [0] []]) (.seq (.reg [om 3 0, od 4 (.mmx false [(tm 3), (ku 2)]), om 2 4] [kp [2] []]) .ret))
def q2Y : List RV := [.tmp 2]
/- probecard/logic.Known (function 29) -/
abbrev q1A : IC := (.seq (.reg [od 2 (.mv kF)] [kp [0] []]) (.seq (.reg [om 3 0, od 4 (.bin .leq (tm 3) (ku 1)), om 2 4] [kp [2] []]) .ret))
def q1B : List RV := [.tmp 2]
/- probecard/logic.Not (function 115) -/
abbrev q40 : IC := (.seq (.reg [od 2 (.mv (ku 0))] [kp [0] []]) (.seq (.seq (.reg [om 3 0, od 4 (.call 29 [(tm 3)])] [kp [0, 4] []]) (.cond (tm 4) (.seq (.reg [om 5 0, od 6 (.bin .sub (ku 1) (tm 5)), om 2 6] [kp [2] []]) .ret) .skip)) (.seq (.reg [od
 2 (.mv (ku 2))] [kp [2] []]) .ret)))
def q02 : List RV := [.tmp 2]
/- probecard/logic.decided (function 155) -/
abbrev Z8 : IC := .gh (.seq (.reg [od 14 (.bin .lss (tm 13) (tm 12))] [kp [1, 2, 7, 11, 12, 13, 14] []]) (.seq (.cond (tm 14) .skip (.exit 0)) (.seq (.block 1 (.seq (.reg [od 15 (ia 1 11 13), od 16 (ld 1 15), om 9 16] [kp [1, 2, 7, 9, 11, 12, 13]
 []]) (.block 2 (.seq (.reg [om 18 9, om 19 1, od 20 (.bin .eql (tm 18) (tm 19)), om 17 20] [kp [1, 2, 7, 9, 11, 12, 13, 17] []]) (.cond (tm 17) (.seq (.reg [om 21 1, om 6 21] [kp [6] []]) .ret) (.seq (.reg [om 23 9, om 24 2, od 25
 (.bin .neq (tm 23) (tm 24)), om 22 25] [kp [1, 2, 7, 11, 12, 13, 22] []]) (.cond (tm 22) (.reg [od 7 (.mv (ku 2))] [kp [1, 2, 7, 11, 12, 13] []]) .skip))))))) (.reg [od 26 (.bin .add (tm 13) (ki 1)), om 13 26] [kp [1, 2, 7, 11, 12,
 13] []])))) [kp [1, 2, 7, 11, 12, 13] []]
def Ko : IC := .loop Z8
abbrev Z9 : IC := (.seq (.reg [od 6 (.mv (ku 0))] [kp [0, 1, 2] []]) (.seq (.reg [om 10 2, om 7 10] [kp [0, 1, 2, 7] []]) (.seq (.seq (.reg [om 11 0, od 12 (le 0 11), od 13 (.mv (ki 0))] [kp [1, 2, 7, 11, 12, 13] []]) (.block 0 Ko))
 (.seq (.reg [om 27 7, om 6 27] [kp [6] []]) .ret))))
theorem S7 (h : ∀ K : St → Prop, K = run P Γ Ko Q → run P Γ Z8 (Ao K Q) s) : run P Γ Ko Q s := Ad h
def Qm : List RV := [.tmp 6]
/- probecard/logic.And (function 116) -/
abbrev q41 : IC := (.seq (.reg [od 2 (.mv (ku 0))] [kp [0] []]) (.seq (.reg [om 3 0, od 4 (.call 155 [(tm 3), (ku 0), (ku 1)]), om 2 4] [kp [2] []]) .ret))
def q42 : List RV := [.tmp 2]
/- probecard/logic.Or (function 117) -/
abbrev q5R : IC := (.seq (.reg [od 2 (.mv (ku 0))] [kp [0] []]) (.seq (.reg [om 3 0, od 4 (.call 155 [(tm 3), (ku 1), (ku 0)]), om 2 4] [kp [2] []]) .ret))
def q5S : List RV := [.tmp 2]
/- probecard/logic.Xor (function 118) -/
abbrev q43 : IC := .gh (.seq (.reg [od 9 (.bin .lss (tm 8) (tm 7))] [kp [3, 6, 7, 8, 9] []]) (.seq (.cond (tm 9) .skip (.exit 0)) (.seq (.block 1 (.seq (.reg [od 10 (ia 1 6 8), od 11 (ld 1 10), om 5 11] [kp [3, 5, 6, 7, 8] []]) (.seq (.seq (.reg [om
 12 5, od 13 (.call 29 [(tm 12)]), od 14 (.un .not (tm 13))] [kp [3, 5, 6, 7, 8, 14] []]) (.cond (tm 14) (.seq (.reg [od 2 (.mv (ku 2))] [kp [2] []]) .ret) .skip)) (.reg [om 15 3, om 16 5, od 17 (.bin .xor (tm 15) (tm 16)), om 3 17]
 [kp [3, 6, 7, 8] []])))) (.reg [od 18 (.bin .add (tm 8) (ki 1)), om 8 18] [kp [3, 6, 7, 8] []])))) [kp [3, 6, 7, 8] []]
def Ut : IC := .loop q43
abbrev q44 : IC := (.seq (.reg [od 2 (.mv (ku 0))] [kp [0] []]) (.seq (.reg [od 3 (.mv (ku 0))] [kp [0, 3] []]) (.seq (.seq (.reg [om 6 0, od 7 (le 0 6), od 8 (.mv (ki 0))] [kp [3, 6, 7, 8] []]) (.block 0 Ut)) (.seq (.reg [om 19 3, om 2 19]
 [kp [2] []]) .ret))))
theorem Za (h : ∀ K : St → Prop, K = run P Γ Ut Q → run P Γ q43 (Ao K Q) s) : run P Γ Ut Q s := Ad h
def q03 : List RV := [.tmp 2]
/- probecard/logic.Mux (function 119) -/
abbrev Ou : IC := (.seq (.reg [od 6 (.mv (ku 0))] [kp [0, 1, 2] []]) (.seq (.block 0 (.seq (.reg [om 8 0, od 9 (.bin .eql (tm 8) (ku 0)), om 7 9] [kp [0, 1, 2, 7] []]) (.cond (tm 7) (.seq (.reg [om 10 1, od 11 (.call 114 [(tm 10)]), om 6 11] [kp [6]
 []]) .ret) (.seq (.reg [om 13 0, od 14 (.bin .eql (tm 13) (ku 1)), om 12 14] [kp [1, 2, 12] []]) (.cond (tm 12) (.seq (.reg [om 15 2, od 16 (.call 114 [(tm 15)]), om 6 16] [kp [6] []]) .ret) (.seq (.reg [om 18 1, om 19 2, od 20
 (.bin .eql (tm 18) (tm 19)), om 17 20] [kp [1, 17] []]) (.cond (tm 17) (.seq (.reg [om 21 1, od 22 (.call 114 [(tm 21)]), om 6 22] [kp [6] []]) .ret) .skip))))))) (.seq (.reg [od 6 (.mv (ku 2))] [kp [6] []]) .ret)))
def Ov : List RV := [.tmp 6]
/- probecard/logic.Tri (function 120) -/
abbrev Uu : IC := (.seq (.reg [od 4 (.mv (ku 0))] [kp [0, 1] []]) (.seq (.seq (.reg [om 5 0] [kp [1, 5] []]) (.block 0 (.seq (.reg [od 7 (.bin .eql (tm 5) (ku 0)), om 6 7] [kp [1, 5, 6] []]) (.cond (tm 6) (.seq (.reg [od 4 (.mv (ku 3))] [kp [4] []])
 .ret) (.seq (.reg [od 9 (.bin .eql (tm 5) (ku 1)), om 8 9] [kp [1, 8] []]) (.cond (tm 8) (.seq (.reg [om 10 1, od 11 (.call 114 [(tm 10)]), om 4 11] [kp [4] []]) .ret) .skip)))))) (.seq (.reg [od 4 (.mv (ku 2))] [kp [4] []])
 .ret)))
def Uw : List RV := [.tmp 4]
/- probecard/logic.Bus (function 121) -/
abbrev q45 : IC := (.seq (.reg [od 2 (.mv (ku 0))] [kp [0] []]) (.seq (.reg [od 3 (.mv (.func 156))] [kp [0, 3] []]) (.seq (.reg [od 4 (.mv (.func 157))] [kp [0, 3, 4] []]) (.seq (.reg [om 6 0, om 7 4, od 8 (.call 150 [(tm 6), (tm 7)]), om 5 8] [kp
 [0, 3, 5] []]) (.seq (.block 0 (.seq (.reg [om 10 5, od 11 (.bin .lss (tm 10) (ki 0)), om 9 11] [kp [0, 3, 5, 9] []]) (.cond (tm 9) (.seq (.reg [od 2 (.mv (ku 3))] [kp [2] []]) .ret) (.seq (.reg [om 13 0, od 14 (.call 158 [(tm
 13)]), om 15 14, oF 16 (.mv (tm 0)) 15, oF 17 (.mv (tm 3)) 15, oF 18 (.call 100 [(tm 16), (tm 17)]) 15, od 19 (.pick (tm 15) kT (tm 18)), om 12 19] [kp [0, 5, 12] []]) (.cond (tm 12) (.seq (.reg [od 2 (.mv (ku 2))] [kp [2] []])
 .ret) .skip))))) (.seq (.reg [om 20 0, om 21 5, od 22 (ia 1 20 21), od 23 (ld 1 22), om 2 23] [kp [2] []]) .ret))))))
def Ox : List RV := [.tmp 2]
/- probecard/logic.Bus$1 (function 156) -/
abbrev q1C : IC := (.seq (.reg [od 2 (.mv kF)] [kp [0] []]) (.seq (.reg [om 3 0, od 4 (.call 133 [(tm 3)]), od 5 (.bin .eql (tm 4) (ku 2)), om 2 5] [kp [2] []]) .ret))
def q1D : List RV := [.tmp 2]
/- probecard/logic.Bus$2 (function 157) -/
abbrev q1E : IC := (.seq (.reg [od 2 (.mv kF)] [kp [0] []]) (.seq (.reg [om 3 0, od 4 (.bin .neq (tm 3) (ku 3)), om 2 4] [kp [2] []]) .ret))
def q1F : List RV := [.tmp 2]
/- probecard/logic.Conflict (function 158) -/
abbrev Xk : IC := (.seq (.reg [od 2 (.mv kF)] [kp [0] []]) (.seq (.reg [om 3 0, od 4 (.call 177 [(tm 3), (ku 0)]), om 5 4, oT 6 (.mv (tm 0)) 5, oT 7 (.call 177 [(tm 6), (ku 1)]) 5, od 8 (.pick (tm 5) (tm 7) kF), om 2 8] [kp [2] []]) .ret))
def Oy : List RV := [.tmp 2]
/- slices.Contains[[]probecard/api.Value,probecard/api.Value] (function 177) -/
abbrev It : IC := (.seq (.reg [od 4 (.mv kF)] [kp [0, 1] []]) (.seq (.reg [om 5 0, om 6 1, od 7 (.call 195 [(tm 5), (tm 6)]), od 8 (.bin .geq (tm 7) (ki 0)), om 4 8] [kp [4] []]) .ret))
def Iu : List RV := [.tmp 4]
/- slices.Index[[]probecard/api.Value,probecard/api.Value] (function 195) -/
abbrev Kw : IC := .gh (.seq (.reg [od 9 (.bin .lss (tm 8) (tm 7))] [kp [0, 1, 7, 8, 9] []]) (.seq (.cond (tm 9) .skip (.exit 0)) (.seq (.block 1 (.seq (.reg [om 10 8, om 5 10] [kp [0, 1, 5, 7, 8] []]) (.seq (.reg [om 11 1, om 12 0, om 13 5, od 14
 (ia 1 12 13), od 15 (ld 1 14), od 16 (.bin .eql (tm 11) (tm 15))] [kp [0, 1, 5, 7, 8, 16] []]) (.cond (tm 16) (.seq (.reg [om 17 5, om 4 17] [kp [4] []]) .ret) .skip)))) (.reg [od 18 (.bin .add (tm 8) (ki 1)), om 8 18] [kp [0, 1,
 7, 8] []])))) [kp [0, 1, 7, 8] []]
def E0 : IC := .loop Kw
def Gf : List RO := [od 4 (.mv (.const (.int .i64 (-1))))]
abbrev Kx : IC := (.seq (.reg [od 4 (.mv (ki 0))] [kp [0, 1] []]) (.seq (.seq (.reg [om 6 0, od 7 (le 0 6), od 8 (.mv (ki 0))] [kp [0, 1, 7, 8] []]) (.block 0 E0)) (.seq (.reg Gf [kp [4] []]) .ret)))
theorem Hy (h : ∀ K : St → Prop, K = run P Γ E0 Q → run P Γ Kw (Ao K Q) s) : run P Γ E0 Q s := Ad h
attribute [simp] Gf
def D5 : List RV := [.tmp 4]
/- slices.ContainsFunc[[]probecard/api.Value,probecard/api.Value] (function 100) -/
abbrev Gt : IC := (.seq (.reg [od 4 (.mv kF)] [kp [0, 1] []]) (.seq (.reg [om 5 0, om 6 1, od 7 (.call 150 [(tm 5), (tm 6)]), od 8 (.bin .geq (tm 7) (ki 0)), om 4 8] [kp [4] []]) .ret))
def Gu : List RV := [.tmp 4]
/- slices.IndexFunc[[]probecard/api.Value,probecard/api.Value] (function 150) -/
abbrev Hz : IC := .gh (.seq (.reg [od 9 (.bin .lss (tm 8) (tm 7))] [kp [0, 1, 7, 8, 9] []]) (.seq (.cond (tm 9) .skip (.exit 0)) (.seq (.block 1 (.seq (.reg [om 10 8, om 5 10] [kp [0, 1, 5, 7, 8] []]) (.seq (.reg [om 11 1, om 12 0, om 13 5, od 14
 (ia 1 12 13), od 15 (ld 1 14), od 16 (.callv (tm 11) [(tm 15)])] [kp [0, 1, 5, 7, 8, 16] []]) (.cond (tm 16) (.seq (.reg [om 17 5, om 4 17] [kp [4] []]) .ret) .skip)))) (.reg [od 18 (.bin .add (tm 8) (ki 1)), om 8 18] [kp [0, 1, 7,
 8] []])))) [kp [0, 1, 7, 8] []]
def D8 : IC := .loop Hz
abbrev I0 : IC := (.seq (.reg [od 4 (.mv (ki 0))] [kp [0, 1] []]) (.seq (.seq (.reg [om 6 0, od 7 (le 0 6), od 8 (.mv (ki 0))] [kp [0, 1, 7, 8] []]) (.block 0 D8)) (.seq (.reg [od 4 (.mv (.const (.int .i64 (-1))))] [kp [4]
 []]) .ret)))
theorem G3 (h : ∀ K : St → Prop, K = run P Γ D8 Q → run P Γ Hz (Ao K Q) s) : run P Γ D8 Q s := Ad h
def Ef : List RV := [.tmp 4]
/- probecard/logic.Eval (function 49) -/
abbrev B9 : IC := (.seq (.reg [od 4 (.mv (ku 0))] [kp [0, 1] []]) (.seq (.seq (.reg [om 8 0, od 9 (.call 113 [(tm 8)]), om 7 9, od 10 (ex 7 0), od 11 (ex 7 1), om 5 10, om 6 11] [kp [0, 1, 5, 6] []]) (.seq (.reg [om 12 1, od 13 (le 0 12), om 14 5,
 od 15 (.bin .lss (tm 13) (tm 14)), om 16 15, oF 17 (.mv (tm 1)) 16, oF 18 (le 0 17) 16, oF 19 (.mv (tm 6)) 16, oF 20 (.bin .gtr (tm 18) (tm 19)) 16, od 21 (.pick (tm 16) kT (tm 20))] [kp [0, 1, 21] []]) (.cond (tm 21) (.seq (.reg
 [od 4 (.mv (ku 2))] [kp [4] []]) .ret) .skip))) (.seq (.seq (.reg [om 22 0] [kp [1, 22] []]) (.block 0 (.seq (.reg [od 24 (.bin .eql (tm 22) (ku 1)), om 23 24] [kp [1, 22, 23] []]) (.cond (tm 23) (.seq (.reg [od 4 (.mv (ku 0))] [kp
 [4] []]) .ret) (.seq (.reg [od 26 (.bin .eql (tm 22) (ku 2)), om 25 26] [kp [1, 22, 25] []]) (.cond (tm 25) (.seq (.reg [od 4 (.mv (ku 1))] [kp [4] []]) .ret) (.seq (.reg [od 28 (.bin .eql (tm 22) (ku 3)), om 27 28] [kp [1, 22, 27]
 []]) (.cond (tm 27) (.seq (.reg [om 29 1, od 30 (.iadr 1 (tm 29) (ki 0)), od 31 (ld 1 30), od 32 (.call 114 [(tm 31)]), om 4 32] [kp [4] []]) .ret) (.seq (.reg [od 34 (.bin .eql (tm 22) (ku 4)), om 33 34] [kp [1, 22, 33] []])
 (.cond (tm 33) (.seq (.reg [om 35 1, od 36 (.iadr 1 (tm 35) (ki 0)), od 37 (ld 1 36), od 38 (.call 115 [(tm 37)]), om 4 38] [kp [4] []]) .ret) (.seq (.reg [od 40 (.bin .eql (tm 22) (ku 5)), om 39 40] [kp [1, 22, 39] []]) (.cond (tm
 39) (.seq (.reg [om 41 1, od 42 (.call 116 [(tm 41)]), om 4 42] [kp [4] []]) .ret) (.seq (.reg [od 44 (.bin .eql (tm 22) (ku 6)), om 43 44] [kp [1, 22, 43] []]) (.cond (tm 43) (.seq (.reg [om 45 1, od 46 (.call 116 [(tm 45)]), od
 47 (.call 115 [(tm 46)]), om 4 47] [kp [4] []]) .ret) (.seq (.reg [od 49 (.bin .eql (tm 22) (ku 7)), om 48 49] [kp [1, 22, 48] []]) (.cond (tm 48) (.seq (.reg [om 50 1, od 51 (.call 117 [(tm 50)]), om 4 51] [kp [4] []]) .ret) (.seq
 (.reg [od 53 (.bin .eql (tm 22) (ku 8)), om 52 53] [kp [1, 22, 52] []]) (.cond (tm 52) (.seq (.reg [om 54 1, od 55 (.call 117 [(tm 54)]), od 56 (.call 115 [(tm 55)]), om 4 56] [kp [4] []]) .ret) (.seq (.reg [od 58 (.bin .eql (tm
 22) (ku 9)), om 57 58] [kp [1, 22, 57] []]) (.cond (tm 57) (.seq (.reg [om 59 1, od 60 (.call 118 [(tm 59)]), om 4 60] [kp [4] []]) .ret) (.seq (.reg [od 62 (.bin .eql (tm 22) (ku 10)), om 61 62] [kp [1, 22, 61] []]) (.cond (tm 61)
 (.seq (.reg [om 63 1, od 64 (.call 118 [(tm 63)]), od 65 (.call 115 [(tm 64)]), om 4 65] [kp [4] []]) .ret) (.seq (.reg [od 67 (.bin .eql (tm 22) (ku 11)), om 66 67] [kp [1, 22, 66] []]) (.cond (tm 66) (.seq (.reg [om 68 1, od 69
 (.iadr 1 (tm 68) (ki 0)), od 70 (ld 1 69), om 71 1, od 72 (.iadr 1 (tm 71) (ki 1)), od 73 (ld 1 72), om 74 1, od 75 (.iadr 1 (tm 74) (ki 2)), od 76 (ld 1 75), od 77 (.call 119 [(tm 70), (tm 73), (tm 76)]), om 4 77] [kp [4] []])
 .ret) (.seq (.reg [od 79 (.bin .eql (tm 22) (ku 12)), om 78 79] [kp [1, 22, 78] []]) (.cond (tm 78) (.seq (.reg [om 80 1, od 81 (.iadr 1 (tm 80) (ki 0)), od 82 (ld 1 81), om 83 1, od 84 (.iadr 1 (tm 83) (ki 1)), od 85 (ld 1 84), od
 86 (.call 120 [(tm 82), (tm 85)]), om 4 86] [kp [4] []]) .ret) (.seq (.reg [od 88 (.bin .eql (tm 22) (ku 13)), om 87 88] [kp [1, 87] []]) (.cond (tm 87) (.seq (.reg [om 89 1, od 90 (.call 121 [(tm 89)]), om 4 90] [kp [4] []]) .ret)
 .skip)))))))))))))))))))))))))))) (.seq (.reg [od 4 (.mv (ku 2))] [kp [4] []]) .ret))))
def B5 : List RV := [.tmp 4]
end
end Go.Lg
namespace Go.Lg
open Go Go.Proofs
theorem q5n : Aq Tryz.prog 133 q18 6 1 q19 = true := by kernel_rfl
theorem q6z : Aq Tryz.prog 114 q2X 5 1 q2Y = true := by kernel_rfl
theorem q5o : Aq Tryz.prog 29 q1A 5 1 q1B = true := by kernel_rfl
theorem q7b : Aq Tryz.prog 115 q40 7 1 q02 = true := by kernel_rfl
theorem q46 : Aq Tryz.prog 155 Z9 28 3 Qm = true := by kernel_rfl
theorem q7c : Aq Tryz.prog 116 q41 5 1 q42 = true := by kernel_rfl
theorem q8o : Aq Tryz.prog 117 q5R 5 1 q5S = true := by kernel_rfl
theorem q7d : Aq Tryz.prog 118 q44 20 1 q03 = true := by kernel_rfl
theorem q7e : Aq Tryz.prog 119 Ou 23 3 Ov = true := by kernel_rfl
theorem q7f : Aq Tryz.prog 120 Uu 12 2 Uw = true := by kernel_rfl
theorem q7g : Aq Tryz.prog 121 q45 24 1 Ox = true := by kernel_rfl
theorem q5p : Aq Tryz.prog 156 q1C 6 1 q1D = true := by kernel_rfl
theorem q5q : Aq Tryz.prog 157 q1E 5 1 q1F = true := by kernel_rfl
theorem q3F : Aq Tryz.prog 158 Xk 9 1 Oy = true := by kernel_rfl
theorem S8 : Aq Tryz.prog 177 It 9 2 Iu = true := by kernel_rfl
theorem W1 : Aq Tryz.prog 195 Kx 19 2 D5 = true := by kernel_rfl
theorem O5 : Aq Tryz.prog 100 Gt 9 2 Gu = true := by kernel_rfl
theorem Qn : Aq Tryz.prog 150 I0 19 2 Ef = true := by kernel_rfl
theorem q70 : Aq Tryz.prog 49 B9 91 2 B5 = true := by kernel_rfl
end Go.Lg
set_option linter.unusedSimpArgs false
set_option maxRecDepth 100000
namespace Go.Lg
open Go Go.Proofs
variable {Γ : Tables}
theorem W2 (v : Int) : A3 Tryz.prog Γ 133 [tK v] (tK (Dl v)) := by
 refine A6 q5n rfl ?_
 by_cases h : 3 < v <;> simp [q18, q19, Ap, Dl, h]
theorem Qo (v : Int) : A3 Tryz.prog Γ 114 [tK v] (tK (Dv v)) := by
 refine A6 q6z rfl ?_
 by_cases h : v < 2 <;> simp [q2X, q2Y, Ap, Dv, h, Yp, Ha] <;> omega
theorem W3 (v : Int) : A3 Tryz.prog Γ 29 [tK v] (tB (Ot v)) := by
 refine A6 q5o rfl ?_
 simp [q1A, q1B, Ap, Ot]
theorem q47 (v : Int) (h0 : 0 ≤ v) : A3 Tryz.prog Γ 115 [tK v] (tK (Us v)) := by
 refine A6 q7b rfl ?_
 simp [q40]
 refine A0 (W3 v) rfl ?_
 by_cases h : v ≤ 1
 ·simp (disch := omega) [q02, Ap, Ot, Us, h, B7]
 ·simp (disch := omega) [q02, Ap, Ot, Us, h, B7]
theorem qDz (s a b : Int) : A3 Tryz.prog Γ 119 [tK s, tK a, tK b] (tK (q6v s a b)) := by
 refine A6 q7e rfl ?_
 by_cases h : s = 0
 ·simp [Ou, h]
  refine A0 (Qo a) rfl ?_
  simp [Ov, Ap, q6v, h]
 by_cases h1 : s = 1
 ·simp [Ou, h1]
  refine A0 (Qo b) rfl ?_
  simp [Ov, Ap, q6v, h1]
 by_cases h2 : a = b
 ·simp [Ou, h, h1, h2]
  refine A0 (Qo b) rfl ?_
  simp [Ov, Ap, q6v, h, h1, h2]
 ·simp [Ou, h, h1, h2, Ov, Ap, q6v]
theorem qE0 (e d : Int) : A3 Tryz.prog Γ 120 [tK e, tK d] (tK (q7a e d)) := by
 refine A6 q7f rfl ?_
 by_cases h : e = 0
 ·simp [Uu, h, Uw, Ap, q7a]
 by_cases h1 : e = 1
 ·simp [Uu, h1]
  refine A0 (Qo d) rfl ?_
  simp [Uw, Ap, q7a, h1]
 ·simp [Uu, h, h1, Uw, Ap, q7a]
abbrev Ag (l : List Int) : List (List T) := A9 tK l
def tV (s : Sl Int) : T := .sl (Ag s.l) s.cap s.nl
theorem q04 {Q : AX → St → Prop} (l : List Int) (c : Option Nat) (nl : Option Bool) (low high : Int) (hl : l.length ≤ 1000000000) (R : Int)
  (h0 : Q (.exit 0) ⟨[(1, .t (tK low)), (2, .t (tK high)), (7, .t (tK R)), (11, .t (.sl (Ag l) c nl)), (12, .t (tI l.length)), (13, .t (tI l.length)), (14, .t (tB false))], []⟩)
  (h1 : R = low → Q .ret ⟨[(6, .t (tK low))], []⟩) : ∀ (k i : Nat) (out : Int), k + i = l.length → Il low high out (l.drop i) = R →
  run Tryz.prog Γ Ko Q ⟨[(1, .t (tK low)), (2, .t (tK high)), (7, .t (tK out)), (11, .t (.sl (Ag l) c nl)), (12, .t (tI l.length)), (13, .t (tI i))], []⟩
 | 0, i, out, h, hR => by
  refine S7 fun K hK => ?_
  have h2 : ¬ i < l.length := by omega
  rw [List.drop_of_length_le (by omega)] at hR
  simp only [Il] at hR
  subst hR
  have h3 : i = l.length := by omega
  simp [h2]
  subst h3
  exact h0
 | k + 1, i, out, h, hR => by
  refine S7 fun K hK => ?_
  have h2 : i < l.length := by omega
  rw [List.drop_eq_getElem_cons h2] at hR
  simp only [Il] at hR
  have hget := Bt (f := tK) 0 h2
  simp only [List.getElem?_eq_getElem h2, Option.getD_some] at hget
  generalize l[i] = v at *
  by_cases a1 : v = low
  ·rw [if_pos a1] at hR
   simp (disch := omega) [h2, A1, hget, A5, A4, a1]
   exact h1 hR.symm
  ·by_cases a2 : v = high
   ·rw [if_neg a1, if_neg (by simp [a2])] at hR
    have ih := q04 l c nl low high hl R h0 h1 k (i + 1) out (by omega) hR
    have a1' : ¬ high = low := by rw [← a2]; exact a1
    simp (disch := omega) [h2, A1, hget, A5, A4, a1', a2]
    rw [hK]
    exact_mod_cast ih
   ·rw [if_neg a1, if_pos a2] at hR
    have ih := q04 l c nl low high hl R h0 h1 k (i + 1) 2 (by omega) hR
    simp (disch := omega) [h2, A1, hget, A5, A4, a1, a2]
    rw [hK]
    exact_mod_cast ih
theorem q48 (l : List Int) (c : Option Nat) (nl : Option Bool) (low high : Int) (hl : l.length ≤ 1000000000) : A3 Tryz.prog Γ 155 [.sl (Ag l) c nl, tK low, tK high] (tK (Il low high high l)) := by
 refine A6 q46 rfl ?_
 simp (disch := omega) [Z9, A1, A4]
 refine q04 l c nl low high hl (Il low high high l) ?_ (fun h => ?_) l.length 0 high (by omega) (by simp)
 ·simp [Qm, Ap]
 ·simp [Qm, Ap, h]
theorem q9y (l : List Int) (c : Option Nat) (nl : Option Bool) (hl : l.length ≤ 1000000000) : A3 Tryz.prog Γ 116 [.sl (Ag l) c nl] (tK (Il 0 1 1 l)) := by
 refine A6 q7c rfl ?_
 simp [q41]
 refine A0 (q48 l c nl 0 1 hl) rfl ?_
 simp [q42, Ap]
theorem qCB (l : List Int) (c : Option Nat) (nl : Option Bool) (hl : l.length ≤ 1000000000) : A3 Tryz.prog Γ 117 [.sl (Ag l) c nl] (tK (Il 1 0 0 l)) := by
 refine A6 q8o rfl ?_
 simp [q5R]
 refine A0 (q48 l c nl 1 0 hl) rfl ?_
 simp [q5S, Ap]
theorem qFP {a b : Int} (ha : a = 0 ∨ a = 1) (hb : b = 0 ∨ b = 1) : IntKind.u8.wrap ((BitVec.ofInt IntKind.u8.bits a ^^^ BitVec.ofInt IntKind.u8.bits b).toNat : Int) = qDw a b := by
 rcases ha with rfl | rfl <;> rcases hb with rfl | rfl <;> decide
theorem q9z {Q : AX → St → Prop} (l : List Int) (c : Option Nat) (nl : Option Bool) (hl : l.length ≤ 1000000000) (hv : ∀ v ∈ l, 0 ≤ v) (R : Int)
  (h0 : Q (.exit 0) ⟨[(3, .t (tK R)), (6, .t (.sl (Ag l) c nl)), (7, .t (tI l.length)), (8, .t (tI l.length)), (9, .t (tB false))], []⟩)
  (h1 : R = 2 → Q .ret ⟨[(2, .t (tK 2))], []⟩) : ∀ (k i : Nat) (out : Int), k + i = l.length → (out = 0 ∨ out = 1) → Z5 out (l.drop i) = R →
  run Tryz.prog Γ Ut Q ⟨[(3, .t (tK out)), (6, .t (.sl (Ag l) c nl)), (7, .t (tI l.length)), (8, .t (tI i))], []⟩
 | 0, i, out, h, ho, hR => by
  refine Za fun K hK => ?_
  have h2 : ¬ i < l.length := by omega
  rw [List.drop_of_length_le (by omega)] at hR
  simp only [Z5] at hR
  subst hR
  have h3 : i = l.length := by omega
  simp [h2]
  subst h3
  exact h0
 | k + 1, i, out, h, ho, hR => by
  refine Za fun K hK => ?_
  have h2 : i < l.length := by omega
  rw [List.drop_eq_getElem_cons h2] at hR
  simp only [Z5] at hR
  have hget := Bt (f := tK) 0 h2
  simp only [List.getElem?_eq_getElem h2, Option.getD_some] at hget
  have hv0 := hv _ (List.getElem_mem h2)
  generalize l[i] = v at *
  by_cases a1 : v ≤ 1
  ·rw [if_pos a1] at hR
   have ih := q9z l c nl hl hv R h0 h1 k (i + 1) (qDw out v) (by omega) (by unfold qDw; split <;> simp) hR
   simp (disch := omega) [h2, A1, hget, A5, A4]
   refine A0 (W3 v) rfl ?_
   have hx := qFP ho (show v = 0 ∨ v = 1 by omega)
   simp (disch := omega) [Ot, a1, ↓hx, A4]
   rw [hK]
   exact_mod_cast ih
  ·rw [if_neg a1] at hR
   simp (disch := omega) [h2, A1, hget, A5, A4]
   refine A0 (W3 v) rfl ?_
   simp (disch := omega) [Ot, a1]
   exact h1 hR.symm
theorem qA0 (l : List Int) (c : Option Nat) (nl : Option Bool) (hl : l.length ≤ 1000000000) (hv : ∀ v ∈ l, 0 ≤ v) : A3 Tryz.prog Γ 118 [.sl (Ag l) c nl] (tK (Z5 0 l)) := by
 refine A6 q7d rfl ?_
 simp (disch := omega) [q44, A1, A4]
 refine q9z l c nl hl hv (Z5 0 l) ?_ (fun h => ?_) l.length 0 0 (by omega) (.inl rfl) (by simp)
 ·simp [q03, Ap]
 ·simp [q03, Ap, h]
theorem q1G (l : List Int) (c : Option Nat) (nl : Option Bool) (x : Int) (hl : l.length ≤ 1000000000) : ∀ (k i : Nat), k + i = l.length → (∀ j, j < i → ∀ y, l[j]? = some y → (y == x) = false) →
  run Tryz.prog Γ E0 (L8 0 (Ao (run Tryz.prog Γ (.seq (.reg Gf [.keep [4] []]) .ret) (ret true D5 fun r => r = tI (Yj (· == x) l))) (ret true D5 fun r => r = tI (Yj (· == x) l)))) ⟨[(0, .t (.sl (A9 tK l) c nl)), (1, .t (tK x)), (7, .t (tI l.length)), (8, .t (tI i))], []⟩
 | 0, i, h, hp => by
  refine Hy fun K hK => ?_
  have h2 : ¬ i < l.length := by omega
  simp (disch := omega) [A1, Bt (0 : Int), A5, A4, h2, ret, D5, Da, F5, F4, Ap]
  have : l.findIdx? (· == x) = none := by
   rw [List.findIdx?_eq_none_iff]
   intro y hy
   obtain ⟨j, hj, rfl⟩ := List.getElem_of_mem hy
   exact hp j (by omega) _ (List.getElem?_eq_getElem hj)
  have e : l.findIdx? (fun y => decide (y = x)) = _ := this
  simp [Yj, e]
 | k + 1, i, h, hp => by
  refine Hy fun K hK => ?_
  have h2 : i < l.length := by omega
  simp (disch := omega) [A1, Bt (0 : Int), A5, A4, h2]
  refine ⟨fun hc => ?_, fun hc => ?_⟩
  ·simp [Ba, ret, D5, Da, F5, F4, Ap]
   have := Zy (p := (· == x)) hp l[i] (List.getElem?_eq_getElem h2) (by simp [hc])
   have e : l.findIdx? (fun y => decide (y = x)) = _ := this
   simp [Yj, e]
  ·simp (disch := omega) [Ba, A4]
   rw [hK]
   exact_mod_cast q1G l c nl x hl k (i + 1) (by omega) (fun j hj y hy => by
    rcases Nat.lt_succ_iff_lt_or_eq.1 hj with hj | rfl
    ·exact hp j hj y hy
    ·rw [List.getElem?_eq_getElem h2] at hy; simp at hy; subst hy
     simp; exact fun e => hc e.symm)
theorem qD2 (l : List Int) (c : Option Nat) (nl : Option Bool) (x : Int) (hl : l.length ≤ 1000000000) : A3 Tryz.prog Γ 195 [.sl (A9 tK l) c nl, tK x] (tI (Yj (· == x) l)) := by
 refine A6 W1 rfl ?_
 simp (disch := omega) [Kx, A1, A4]
 exact_mod_cast q1G l c nl x hl l.length 0 (by omega) (by simp)
theorem q49 (l : List Int) (c : Option Nat) (nl : Option Bool) (x : Int) (hl : l.length ≤ 1000000000) : A3 Tryz.prog Γ 177 [.sl (A9 tK l) c nl, tK x] (tB (l.contains x)) := by
 refine A6 S8 rfl ?_
 simp (disch := omega) [It, A1, A4]
 refine A0 (qD2 l c nl x hl) rfl ?_
 simp [ret, Iu, Da, F5, F4, Ap]
 unfold Yj
 cases h : l.findIdx? (· == x) with
 | none =>
  rw [List.findIdx?_eq_none_iff] at h
  have : ¬ x ∈ l := fun hx => by simpa using h x hx
  simp [this]
 | some i =>
  rw [List.findIdx?_eq_some_iff_getElem] at h
  obtain ⟨hi, h1, _⟩ := h
  have : x ∈ l := by rw [← (show l[i] = x by simpa using h1)]; exact List.getElem_mem hi
  simp [this]
theorem W4 {Q : AX → St → Prop} (l : List Int) (c : Option Nat) (nl : Option Bool) (f : FuncId) (cs : List T) (p : Int → Bool) (hp : ∀ x ∈ l, A3 Tryz.prog Γ f (tK x :: cs) (tB (p x))) (hl : l.length ≤ 1000000000)
  (h0 : (∀ x ∈ l, p x = false) → Q (.exit 0) ⟨[(0, .t (.sl (A9 tK l) c nl)), (1, .t (.fn f cs)), (7, .t (tI l.length)), (8, .t (tI l.length)), (9, .t (tB false))], []⟩)
  (h1 : ∀ i : Nat, l.findIdx? p = some i → Q .ret ⟨[(4, .t (tI i))], []⟩) : ∀ (k i : Nat), k + i = l.length → (∀ j, j < i → ∀ y, l[j]? = some y → p y = false) →
  run Tryz.prog Γ D8 Q ⟨[(0, .t (.sl (A9 tK l) c nl)), (1, .t (.fn f cs)), (7, .t (tI l.length)), (8, .t (tI i))], []⟩
 | 0, i, h, hq => by
  refine G3 fun K hK => ?_
  have h2 : ¬ i < l.length := by omega
  simp (disch := omega) [A1, Bt (0 : Int), A5, A4, h2]
  have h3 : i = l.length := by omega
  subst h3
  refine h0 fun y hy => ?_
  obtain ⟨j, hj, rfl⟩ := List.getElem_of_mem hy
  exact hq j (by omega) _ (List.getElem?_eq_getElem hj)
 | k + 1, i, h, hq => by
  refine G3 fun K hK => ?_
  have h2 : i < l.length := by omega
  simp (disch := omega) [A1, Bt (0 : Int), A5, A4, h2]
  refine Vu (hp l[i] (List.getElem_mem h2)) ?_
  simp
  refine ⟨fun hc => ?_, fun hc => ?_⟩
  ·simp [Ba]
   exact h1 i (Zy hq l[i] (List.getElem?_eq_getElem h2) hc)
  ·simp (disch := omega) [Ba, A4]
   rw [hK]
   exact_mod_cast W4 l c nl f cs p hp hl h0 h1 k (i + 1) (by omega) (fun j hj y hy => by
    rcases Nat.lt_succ_iff_lt_or_eq.1 hj with hj | rfl
    ·exact hq j hj y hy
    ·rw [List.getElem?_eq_getElem h2] at hy; simp at hy; subst hy; exact hc)
theorem q2Z (l : List Int) (c : Option Nat) (nl : Option Bool) (f : FuncId) (cs : List T) (p : Int → Bool) (hp : ∀ x ∈ l, A3 Tryz.prog Γ f (tK x :: cs) (tB (p x))) (hl : l.length ≤ 1000000000) : A3 Tryz.prog Γ 150 [.sl (A9 tK l) c nl, .fn f cs] (tI (Yj p l)) := by
 refine A6 Qn rfl ?_
 simp (disch := omega) [I0, A1, A4]
 refine W4 l c nl f cs p hp hl (fun h => ?_) (fun i h => ?_) l.length 0 (by omega) (by simp)
 ·have : l.findIdx? p = none := List.findIdx?_eq_none_iff.2 h
  simp [ret, Ef, Da, F5, F4, Ap, Yj, this]
 ·simp [ret, Ef, Da, F5, F4, Ap, Yj, h]
theorem Kp (l : List Int) (c : Option Nat) (nl : Option Bool) (f : FuncId) (cs : List T) (p : Int → Bool) (hp : ∀ x ∈ l, A3 Tryz.prog Γ f (tK x :: cs) (tB (p x))) (hl : l.length ≤ 1000000000) : A3 Tryz.prog Γ 100 [.sl (A9 tK l) c nl, .fn f cs] (tB (l.any p)) := by
 refine A6 O5 rfl ?_
 simp (disch := omega) [Gt, A1, A4]
 refine A0 (q2Z l c nl f cs p hp hl) rfl ?_
 simp [ret, Gu, Da, F5, F4, Ap]
 unfold Yj
 cases h : l.findIdx? p with
 | none =>
  rw [List.findIdx?_eq_none_iff] at h
  have : l.any p = false := by rw [List.any_eq_false]; intro x hx; simp [h x hx]
  simp [this]
 | some i =>
  rw [List.findIdx?_eq_some_iff_getElem] at h
  obtain ⟨hi, h1, _⟩ := h
  have : l.any p = true := List.any_eq_true.2 ⟨_, List.getElem_mem hi, h1⟩
  simp [this]
theorem q7h (l : List Int) (c : Option Nat) (nl : Option Bool) (hl : l.length ≤ 1000000000) : A3 Tryz.prog Γ 158 [.sl (Ag l) c nl] (tB (q4p l)) := by
 refine A6 q3F rfl ?_
 simp [Xk]
 refine A0 (q49 l c nl 0 hl) rfl ?_
 simp
 by_cases h : (0 : Int) ∈ l
 ·simp [h]
  refine A0 (q49 l c nl 1 hl) rfl ?_
  simp [Oy, Ap, q4p, h]
 ·simp [h, Oy, Ap, q4p]
theorem qE1 (v : Int) : A3 Tryz.prog Γ 156 [tK v] (tB (q9v v)) := by
 refine A6 q5p rfl ?_
 simp [q1C]
 refine A0 (W2 v) rfl ?_
 simp [q1D, Ap, q9v]
theorem qE2 (v : Int) : A3 Tryz.prog Γ 157 [tK v] (tB (qCz v)) := by
 refine A6 q5q rfl ?_
 simp [q1E, q1F, Ap, qCz]
theorem qE3 (l : List Int) (c : Option Nat) (nl : Option Bool) (hl : l.length ≤ 1000000000) : A3 Tryz.prog Γ 121 [.sl (Ag l) c nl] (tK (q3v l)) := by
 refine A6 q7g rfl ?_
 simp [q45]
 refine A0 (q2Z l c nl _ [] qCz (fun x _ => qE2 x) hl) rfl ?_
 unfold Yj
 cases h : l.findIdx? qCz with
 | none =>
  have hR : q3v l = 3 := by unfold q3v; rw [h]
  simp [Ox, Ap, hR]
 | some i =>
  have hb : q3v l = if q4p l = true ∨ l.any q9v = true then 2 else l.getD i 0 := by unfold q3v; rw [h]
  have hi : i < l.length := by
   rw [List.findIdx?_eq_some_iff_getElem] at h
   exact h.1
  have hget := Bt (f := tK) 0 hi
  have hgg : l[i]?.getD 0 = l.getD i 0 := by simp [List.getD_eq_getElem?_getD]
  rw [hgg] at hget
  have hneg : ¬ (i : Int) < 0 := by omega
  simp only
  simp [hneg]
  refine A0 (q7h l c nl hl) rfl ?_
  by_cases h1 : q4p l = true
  ·rw [if_pos (.inl h1)] at hb
   simp [h1, Ox, Ap, hb]
  ·simp [h1]
   refine A0 (Kp l c nl _ [] q9v (fun x _ => qE1 x) hl) rfl ?_
   by_cases h2 : l.any q9v = true
   ·rw [if_pos (.inr h2)] at hb
    simp only [h2]
    simp [Ox, Ap, hb]
   ·rw [if_neg (by rintro (h | h); exact h1 h; exact h2 h)] at hb
    simp only [Bool.not_eq_true] at h2
    generalize q3v l = r at *
    subst hb
    simp only [h2]
    simp (disch := omega) [Ox, Ap, A1, A5, hget, hi]
theorem qD3 (hΓ : GOk Γ) (k : Int) (hk : 0 ≤ k ∧ k ≤ 255) (l : List Int) (c : Option Nat) (nl : Option Bool) (hl : l.length ≤ 1000000000) (hv : ∀ v ∈ l, V4 v) : A3 Tryz.prog Γ 49 [tK k, .sl (Ag l) c nl] (tK (Vy k l)) := by
 refine A6 q70 rfl ?_
 unfold Vy
 by_cases hw : q4q k l.length = true
 ·rw [if_pos hw]
  simp only [q4q, decide_eq_true_eq] at hw
  simp [B9]
  refine A0 (D7 hΓ k hk.1 hk.2) rfl ?_
  by_cases hw1 : (l.length : Int) < (Td k).1
  ·simp [A1, hw1, B5, Ap]
  ·have hw2 : (Td k).2 < (l.length : Int) := by omega
   simp [A1, hw1, hw2, B5, Ap]
 rw [if_neg hw]
 simp only [q4q, decide_eq_true_eq] at hw
 have hw1 : ¬ (l.length : Int) < (Td k).1 := by omega
 have hw2 : ¬ (Td k).2 < (l.length : Int) := by omega
 have hv0 : ∀ v ∈ l, 0 ≤ v := fun v h => (hv v h).1
 have ge : ∀ i, i < l.length → (A9 tK l)[i]?.getD [] = [tK (l.getD i 0)] := fun i hi => by
  have hget := Bt (f := tK) 0 hi
  have hgg : l[i]?.getD 0 = l.getD i 0 := by simp [List.getD_eq_getElem?_getD]
  rw [hgg] at hget
  exact hget
 have dA := Vz (low := 0) (l := l) (out := 1) (high := 1) (.inr rfl)
 have dO := Vz (low := 1) (l := l) (out := 0) (high := 0) (.inr rfl)
 have n1 : 0 ≤ Il 0 1 1 l := by rw [dA]; split; omega; split <;> omega
 have n2 : 0 ≤ Il 1 0 0 l := by rw [dO]; split; omega; split <;> omega
 have n3 : 0 ≤ Z5 0 l := (qBE (by simp [V4]) hv).1
 have g0 := N1 hv 0
 by_cases e1 : k = 1
 ·subst e1
  have hR : F6 1 l = 0 := rfl
  generalize F6 1 l = r at *
  subst hR
  simp [B9]
  refine A0 (D7 hΓ 1 hk.1 hk.2) rfl ?_
  simp [A1, hw1, hw2, Ba, B5, Ap]
 by_cases e2 : k = 2
 ·subst e2
  have hR : F6 2 l = 1 := rfl
  generalize F6 2 l = r at *
  subst hR
  simp [B9]
  refine A0 (D7 hΓ 2 hk.1 hk.2) rfl ?_
  simp [A1, hw1, hw2, Ba, B5, Ap]
 by_cases e3 : k = 3
 ·subst e3
  have f1 : (Td 3).1 = 1 := rfl
  have q0 : 0 < l.length := by omega
  have u0 := ge 0 q0
  have hR : F6 3 l = Dv (l.getD 0 0) := rfl
  generalize l.getD 0 0 = x0 at *
  generalize F6 3 l = r at *
  subst hR
  simp [B9]
  refine A0 (D7 hΓ 3 hk.1 hk.2) rfl ?_
  simp [A1, hw1, hw2, Ba]
  simp (disch := omega) [A1, A5, q0, u0]
  refine A0 (Qo x0) rfl ?_
  simp [B5, Ap]
 by_cases e4 : k = 4
 ·subst e4
  have f1 : (Td 4).1 = 1 := rfl
  have q0 : 0 < l.length := by omega
  have u0 := ge 0 q0
  have p0 := g0.1
  have hR : F6 4 l = Us (l.getD 0 0) := rfl
  generalize l.getD 0 0 = x0 at *
  generalize F6 4 l = r at *
  subst hR
  simp [B9]
  refine A0 (D7 hΓ 4 hk.1 hk.2) rfl ?_
  simp [A1, hw1, hw2, Ba]
  simp (disch := omega) [A1, A5, q0, u0]
  refine A0 (q47 x0 p0) rfl ?_
  simp [B5, Ap]
 by_cases e5 : k = 5
 ·subst e5
  have hR : F6 5 l = Il 0 1 1 l := rfl
  generalize F6 5 l = r at *
  subst hR
  simp [B9]
  refine A0 (D7 hΓ 5 hk.1 hk.2) rfl ?_
  simp [A1, hw1, hw2, Ba]
  refine A0 (q9y l c nl hl) rfl ?_
  simp [B5, Ap]
 by_cases e6 : k = 6
 ·subst e6
  have hR : F6 6 l = Us (Il 0 1 1 l) := rfl
  generalize F6 6 l = r at *
  subst hR
  simp [B9]
  refine A0 (D7 hΓ 6 hk.1 hk.2) rfl ?_
  simp [A1, hw1, hw2, Ba]
  refine A0 (q9y l c nl hl) rfl ?_
  simp
  refine A0 (q47 _ n1) rfl ?_
  simp [B5, Ap]
 by_cases e7 : k = 7
 ·subst e7
  have hR : F6 7 l = Il 1 0 0 l := rfl
  generalize F6 7 l = r at *
  subst hR
  simp [B9]
  refine A0 (D7 hΓ 7 hk.1 hk.2) rfl ?_
  simp [A1, hw1, hw2, Ba]
  refine A0 (qCB l c nl hl) rfl ?_
  simp [B5, Ap]
 by_cases e8 : k = 8
 ·subst e8
  have hR : F6 8 l = Us (Il 1 0 0 l) := rfl
  generalize F6 8 l = r at *
  subst hR
  simp [B9]
  refine A0 (D7 hΓ 8 hk.1 hk.2) rfl ?_
  simp [A1, hw1, hw2, Ba]
  refine A0 (qCB l c nl hl) rfl ?_
  simp
  refine A0 (q47 _ n2) rfl ?_
  simp [B5, Ap]
 by_cases e9 : k = 9
 ·subst e9
  have hR : F6 9 l = Z5 0 l := rfl
  generalize F6 9 l = r at *
  subst hR
  simp [B9]
  refine A0 (D7 hΓ 9 hk.1 hk.2) rfl ?_
  simp [A1, hw1, hw2, Ba]
  refine A0 (qA0 l c nl hl hv0) rfl ?_
  simp [B5, Ap]
 by_cases e10 : k = 10
 ·subst e10
  have hR : F6 10 l = Us (Z5 0 l) := rfl
  generalize F6 10 l = r at *
  subst hR
  simp [B9]
  refine A0 (D7 hΓ 10 hk.1 hk.2) rfl ?_
  simp [A1, hw1, hw2, Ba]
  refine A0 (qA0 l c nl hl hv0) rfl ?_
  simp
  refine A0 (q47 _ n3) rfl ?_
  simp [B5, Ap]
 by_cases e11 : k = 11
 ·subst e11
  have f1 : (Td 11).1 = 3 := rfl
  have q0 : 0 < l.length := by omega
  have u0 := ge 0 q0
  have q1 : 1 < l.length := by omega
  have u1 := ge 1 q1
  have q2 : 2 < l.length := by omega
  have u2 := ge 2 q2
  have hR : F6 11 l = q6v (l.getD 0 0) (l.getD 1 0) (l.getD 2 0) := rfl
  generalize l.getD 0 0 = x0 at *
  generalize l.getD 1 0 = x1 at *
  generalize l.getD 2 0 = x2 at *
  generalize F6 11 l = r at *
  subst hR
  simp [B9]
  refine A0 (D7 hΓ 11 hk.1 hk.2) rfl ?_
  simp [A1, hw1, hw2, Ba]
  simp (disch := omega) [A1, A5, q0, u0, q1, u1, q2, u2]
  refine ⟨by omega, by omega, ?_⟩
  refine A0 (qDz x0 x1 x2) rfl ?_
  simp [B5, Ap]
 by_cases e12 : k = 12
 ·subst e12
  have f1 : (Td 12).1 = 2 := rfl
  have q0 : 0 < l.length := by omega
  have u0 := ge 0 q0
  have q1 : 1 < l.length := by omega
  have u1 := ge 1 q1
  have hR : F6 12 l = q7a (l.getD 0 0) (l.getD 1 0) := rfl
  generalize l.getD 0 0 = x0 at *
  generalize l.getD 1 0 = x1 at *
  generalize F6 12 l = r at *
  subst hR
  simp [B9]
  refine A0 (D7 hΓ 12 hk.1 hk.2) rfl ?_
  simp [A1, hw1, hw2, Ba]
  simp (disch := omega) [A1, A5, q0, u0, q1, u1]
  refine ⟨by omega, ?_⟩
  refine A0 (qE0 x0 x1) rfl ?_
  simp [B5, Ap]
 by_cases e13 : k = 13
 ·subst e13
  have hR : F6 13 l = q3v l := rfl
  generalize F6 13 l = r at *
  subst hR
  simp [B9]
  refine A0 (D7 hΓ 13 hk.1 hk.2) rfl ?_
  simp [A1, hw1, hw2, Ba]
  refine A0 (qE3 l c nl hl) rfl ?_
  simp [B5, Ap]
 have ek : F6 k l = 2 := by
  unfold F6
  rw [if_neg e1, if_neg e2, if_neg e3, if_neg e4, if_neg e5, if_neg e6, if_neg e7, if_neg e8, if_neg e9, if_neg e10, if_neg e11, if_neg e12, if_neg e13]
 rw [ek]
 simp [B9]
 refine A0 (D7 hΓ k hk.1 hk.2) rfl ?_
 simp [A1, hw1, hw2, B5, Ap, e1, e2, e3, e4, e5, e6, e7, e8, e9, e10, e11, e12, e13]
end Go.Lg
namespace Go.Lg
open Go
section
variable {P : Program} {Γ : Tables} {Q : AX → St → Prop} {s : St}
/- slices.SortStableFunc[[]int,int] (function 110) -/
abbrev Iw : IC := (.reg [om 4 0, om 5 0, od 6 (le 0 5), om 7 1, od 8 (.hcall 153 [(tm 4), (tm 6), (tm 7)] [1000000] 8000)] [kp [] [1000000]])
def Ix : List RV := []
/- slices.stableCmpFunc[int] (function 153) -/
abbrev Ja : IC := .gh (.seq (.seq (.reg [om 11 8, om 12 1, od 13 (.bin .leq (tm 11) (tm 12))] [kp [0, 1, 2, 6, 7, 8, 13] [1000000]]) (.cond (tm 13) .skip (.exit 0))) (.block 1 (.seq (.reg [om 14 0, om 15 7, om 16 8, om 17 2, od 18 (.hcall 175 [(tm
 14), (tm 15), (tm 16), (tm 17)] [1000000] 18000)] [kp [0, 1, 2, 6, 8] [1000000]]) (.seq (.reg [om 19 8, om 7 19] [kp [0, 1, 2, 6, 7, 8] [1000000]]) (.reg [om 20 8, om 21 6, od 22 (.bin .add (tm 20) (tm 21)), om 8 22] [kp [0, 1, 2,
 6, 7, 8] [1000000]]))))) [kp [0, 1, 2, 6, 7, 8] [1000000]]
def Ey : IC := .loop Ja
abbrev Ux : IC := .gh (.seq (.seq (.reg [om 33 8, om 34 1, od 35 (.bin .leq (tm 33) (tm 34))] [kp [0, 1, 2, 6, 7, 8, 35] [1000000]]) (.cond (tm 35) .skip (.exit 4))) (.block 5 (.seq (.reg [om 36 0, om 37 7, om 38 7, om 39 6, od 40 (.bin .add (tm 38)
 (tm 39)), om 41 8, om 42 2, od 43 (.hcall 176 [(tm 36), (tm 37), (tm 40), (tm 41), (tm 42)] [1000000] 43000)] [kp [0, 1, 2, 6, 8] [1000000]]) (.seq (.reg [om 44 8, om 7 44] [kp [0, 1, 2, 6, 7, 8] [1000000]]) (.reg [om 45 8, om 46
 6, od 47 (.bin .mul (ki 2) (tm 46)), od 48 (.bin .add (tm 45) (tm 47)), om 8 48] [kp [0, 1, 2, 6, 7, 8] [1000000]]))))) [kp [0, 1, 2, 6, 7, 8] [1000000]]
def Uy : IC := .loop Ux
abbrev Jb : IC := .gh (.seq (.seq (.reg [om 28 6, om 29 1, od 30 (.bin .lss (tm 28) (tm 29))] [kp [0, 1, 2, 6, 30] [1000000]]) (.cond (tm 30) .skip (.exit 2))) (.block 3 (.seq (.reg [om 31 6, od 32 (.bin .mul (ki 2) (tm 31)), od 7 (.mv (ki 0)), om 8
 32] [kp [0, 1, 2, 6, 7, 8] [1000000]]) (.seq (.block 4 Uy) (.seq (.seq (.reg [om 49 7, om 50 6, od 51 (.bin .add (tm 49) (tm 50)), om 9 51] [kp [0, 1, 2, 6, 7, 9] [1000000]]) (.seq (.reg [om 52 9, om 53 1,
 od 54 (.bin .lss (tm 52) (tm 53))] [kp [0, 1, 2, 6, 7, 9, 54] [1000000]]) (.cond (tm 54) (.reg [om 55 0, om 56 7, om 57 9, om 58 1, om 59 2, od 60 (.hcall 176 [(tm 55), (tm 56), (tm 57), (tm 58), (tm 59)] [1000000] 60000)] [kp [0,
 1, 2, 6] [1000000]]) .skip))) (.reg [om 61 6, od 62 (.bin .mul (tm 61) (ki 2)), om 6 62] [kp [0, 1, 2, 6] [1000000]])))))) [kp [0, 1, 2, 6] [1000000]]
def Ez : IC := .loop Jb
abbrev Jc : IC := (.seq (.reg [od 6 (.mv (ki 20))] [kp [0, 1, 2, 6] [1000000]]) (.seq (.reg [om 10 6, od 7 (.mv (ki 0)), om 8 10] [kp [0, 1, 2, 6, 7, 8] [1000000]]) (.seq (.block 0 Ey) (.seq (.reg [om 23 0, om 24 7, om 25 1,
 om 26 2, od 27 (.hcall 175 [(tm 23), (tm 24), (tm 25), (tm 26)] [1000000] 27000)] [kp [0, 1, 2, 6] [1000000]]) (.block 2 Ez)))))
theorem Pi (h : ∀ K : St → Prop, K = run P Γ Ey Q → run P Γ Ja (Ao K Q) s) : run P Γ Ey Q s := Ad h
theorem Pj (h : ∀ K : St → Prop, K = run P Γ Ez Q → run P Γ Jb (Ao K Q) s) : run P Γ Ez Q s := Ad h
def Jd : List RV := []
/- slices.insertionSortCmpFunc[int] (function 175) -/
abbrev Fo : IC := .gh (.seq (.seq (.reg [om 18 9, om 19 1, od 20 (.bin .gtr (tm 18) (tm 19)), om 21 20, oT 22 (.mv (tm 3)) 21, oT 23 (.mv (tm 0)) 21, oT 24 (.mv (tm 9)) 21, oT 25 (ia 1 23 24) 21, oT 26 (ld 1 25) 21, oT 27 (.mv (tm 0)) 21, oT 28 (.mv
 (tm 9)) 21, oT 29 (.bin .sub (tm 28) (ki 1)) 21, oT 30 (ia 1 27 29) 21, oT 31 (ld 1 30) 21, oT 32 (.callv (tm 22) [(tm 26), (tm 31)]) 21, oT 33 (.bin .lss (tm 32) (ki 0)) 21, od 34 (.pick (tm 21) (tm 33) kF)] [kp [0, 1, 2, 3, 8, 9,
 34] [1000000]]) (.cond (tm 34) .skip (.exit 2))) (.seq (.block 3 (.reg [om 37 0, om 38 9, om 39 0, om 40 9, od 41 (.bin .sub (tm 40) (ki 1)), om 42 0, om 43 9, od 44 (.bin .sub (tm 43) (ki 1)), od 45 (ia 1 42 44), od 46 (.ldR
 1000000 1 false (tm 45)), om 47 0, om 48 9, od 49 (ia 1 47 48), od 50 (.ldR 1000000 1 false (tm 49)), od 51 (ia 1 37 38), on (.stR 1000000 1 (tm 51) (tm 46)), od 52 (ia 1 39 41), on (.stR 1000000 1 (tm 52) (tm 50))] [kp [0, 1, 2,
 3, 8, 9] [1000000]])) (.reg [om 35 9, od 36 (.bin .sub (tm 35) (ki 1)), om 9 36] [kp [0, 1, 2, 3, 8, 9] [1000000]]))) [kp [0, 1, 2, 3, 8, 9] [1000000]]
def Bm : IC := .loop Fo
abbrev Fp : IC := .gh (.seq (.seq (.reg [om 12 8, om 13 2, od 14 (.bin .lss (tm 12) (tm 13))] [kp [0, 1, 2, 3, 8, 14] [1000000]]) (.cond (tm 14) .skip (.exit 0))) (.seq (.block 1 (.seq (.reg [om 17 8, om 9 17] [kp [0, 1, 2, 3, 8, 9] [1000000]])
 (.block 2 Bm))) (.reg [om 15 8, od 16 (.bin .add (tm 15) (ki 1)), om 8 16] [kp [0, 1, 2, 3, 8] [1000000]]))) [kp [0, 1, 2, 3, 8] [1000000]]
def Bn : IC := .loop Fp
abbrev Fq : IC := (.seq (.reg [om 10 1, od 11 (.bin .add (tm 10) (ki 1)), om 8 11] [kp [0, 1, 2, 3, 8] [1000000]]) (.block 0 Bn))
theorem Eg (h : ∀ K : St → Prop, K = run P Γ Bm Q → run P Γ Fo (Ao K Q) s) : run P Γ Bm Q s := Ad h
theorem Eh (h : ∀ K : St → Prop, K = run P Γ Bn Q → run P Γ Fp (Ao K Q) s) : run P Γ Bn Q s := Ad h
def Ft : List RV := []
/- probecard/netlists.Order (function 47) -/
abbrev Xl : IC := .gh (.seq (.reg [od 23 (.bin .lss (tm 22) (tm 21))] [kp [4, 6, 21, 22, 23] [19]]) (.seq (.cond (tm 23) .skip (.exit 0)) (.seq (.block 1 (.seq (.reg [om 24 22, om 7 24] [kp [4, 6, 7, 21, 22] [19]]) (.reg [om 25 6, om 26 7, om 27 7,
 od 28 (ia 1 25 26), on (.store 1 (tm 28) (tm 27))] [kp [4, 6, 21, 22] [19]]))) (.reg [od 29 (.bin .add (tm 22) (ki 1)), om 22 29] [kp [4, 6, 21, 22] [19]])))) [kp [4, 6, 21, 22] [19]]
def Je : IC := .loop Xl
abbrev Xm : IC := (.seq (.reg [od 1 (.box true (tm 0)), od 2 (.mv kN), od 3 (.mv (ki 0))] [kp [1] []]) (.seq (.reg [od 9 (lG 4 1), od 10 (.call 91 [(tm 9)]), om 8 10, od 11 (ex 8 0), od 12 (ex 8 1), od 4 (.alloc false [(.slice none 0 0)]), on
 (.store 1 (tm 4) (tm 11)), om 5 12] [.frz 4, kp [1, 4, 5] []]) (.seq (.seq (.reg [om 13 5, od 14 (.bin .neq (tm 13) (ki 0))] [kp [1, 4, 5, 14] []]) (.cond (tm 14) (.seq (.reg [om 15 5, od 2 (.mv kN), om 3 15] [kp [2, 3] [19]])
 .ret) .skip)) (.seq (.reg [od 16 (fa 0 1), od 17 (ld 1 16), od 18 (le 0 17), od 19 (.mk 3 1 [(.int .i64 0)] (tm 18) (tm 18)), om 6 19] [kp [4, 6] [19]]) (.seq (.seq (.reg [om 20 6, od 21 (le 0 20), od 22 (.mv (ki 0))] [kp [4, 6,
 21, 22] [19]]) (.block 0 Je)) (.seq (.reg [om 30 6, od 31 (.mkf 111 [(tm 4)]), od 32 (.hcall 110 [(tm 30), (tm 31)] [19] 32000)] [kp [6] [19]]) (.seq (.reg [om 33 6, om 2 33, od 3 (.mv (ki 0))] [kp [2, 3] [19]])
 .ret)))))))
theorem Pz (h : ∀ K : St → Prop, K = run P Γ Je Q → run P Γ Xl (Ao K Q) s) : run P Γ Je Q s := Ad h
def Oz : List RV := [.tmp 2, .tmp 3]
/- probecard/netlists.Order$1 (function 111) -/
abbrev Tz : IC := (.seq (.reg [od 5 (.mv (ki 0))] [kp [0, 1, 2] []]) (.seq (.reg [od 6 (ld 1 2), om 7 0, od 8 (ia 1 6 7), od 9 (ld 1 8), od 10 (ld 1 2), om 11 1, od 12 (ia 1 10 11), od 13 (ld 1 12), od 14 (.call 112 [(tm 9), (tm 13)]), om 5 14] [kp
 [5] []]) .ret))
def U0 : List RV := [.tmp 5]
/- cmp.Compare[int] (function 112) -/
abbrev W5 : IC := (.seq (.reg [od 4 (.mv (ki 0))] [kp [0, 1] []]) (.seq (.reg [om 7 0, od 8 (.call 154 [(tm 7)]), om 5 8] [kp [0, 1, 5] []]) (.seq (.reg [om 9 1, od 10 (.call 154 [(tm 9)]), om 6 10] [kp [0, 1, 5, 6] []]) (.seq (.seq (.reg [om 11 5]
 [kp [0, 1, 6, 11] []]) (.cond (tm 11) (.seq (.seq (.reg [om 12 6] [kp [12] []]) (.cond (tm 12) (.seq (.reg [od 4 (.mv (ki 0))] [kp [4] []]) .ret) .skip)) (.seq (.reg [od 4 (.mv (.const (.int .i64 (-1))))] [kp [4] []]) .ret))
 .skip)) (.seq (.seq (.reg [om 13 6] [kp [0, 1, 13] []]) (.cond (tm 13) (.seq (.reg [od 4 (.mv (ki 1))] [kp [4] []]) .ret) .skip)) (.seq (.seq (.reg [om 14 0, om 15 1, od 16 (.bin .lss (tm 14) (tm 15))] [kp [0, 1, 16] []]) (.cond
 (tm 16) (.seq (.reg [od 4 (.mv (.const (.int .i64 (-1))))] [kp [4] []]) .ret) .skip)) (.seq (.seq (.reg [om 17 0, om 18 1, od 19 (.bin .gtr (tm 17) (tm 18))] [kp [19] []]) (.cond (tm 19) (.seq (.reg [od 4 (.mv (ki 1))] [kp [4] []])
 .ret) .skip)) (.seq (.reg [od 4 (.mv (ki 0))] [kp [4] []]) .ret))))))))
def N3 : List RV := [.tmp 4]
/- cmp.isNaN[int] (function 154) -/
abbrev Zb : IC := (.seq (.reg [od 2 (.mv kF)] [kp [0] []]) (.seq (.reg [om 3 0, om 4 0, od 5 (.bin .neq (tm 3) (tm 4)), om 2 5] [kp [2] []]) .ret))
def Zc : List RV := [.tmp 2]
end
end Go.Lg
namespace Go.Lg
open Go Go.Proofs
theorem S9 : Aq Tryz.prog 110 Iw 9 2 Ix = true := by kernel_rfl
theorem Tj : Aq Tryz.prog 153 Jc 63 3 Jd = true := by kernel_rfl
theorem Lq : Aq Tryz.prog 175 Fq 53 4 Ft = true := by kernel_rfl
theorem q3G : Aq Tryz.prog 47 Xm 34 1 Oz = true := by kernel_rfl
theorem q1H : Aq Tryz.prog 111 Tz 15 3 U0 = true := by kernel_rfl
theorem q2F : Aq Tryz.prog 112 W5 20 2 N3 = true := by kernel_rfl
theorem q4A : Aq Tryz.prog 154 Zb 6 1 Zc = true := by kernel_rfl
end Go.Lg
namespace Go.Lg
open Go Go.Proofs
variable {Γ : Tables}
theorem qA1 {hp : List (Nat × B0)} {f : FuncId} {K : T → Prop} {cs : List T} {t u res : T} (h : A3 Tryz.prog Γ f (t :: u :: cs) res) (hk : K res) : q2M Tryz.prog Γ hp f (.t t :: .t u :: cs.map .t) K ⟨⟩ :=
 A0 h (by simp only [List.map_cons, List.map_map, Function.comp_def, Aj, Ae]; rw [Nw]; rfl) hk
theorem qE4 {l : List Int} {a b : Nat} : Bw (Xe l a b) = ((Bw l).set a [tI (l.getD b 0)]).set b [tI (l.getD a 0)] := by
 show A9 tI _ = ((A9 tI l).set a _).set b _
 rw [Gj, Gj]; rfl
theorem ge1 {f : Int → T} {l : List Int} {i : Nat} (hi : i < l.length) : (A9 f l)[i]?.getD [] = [f (l.getD i 0)] := by
 have hget := Bt (f := f) 0 hi
 have hgg : l[i]?.getD 0 = l.getD i 0 := by simp [List.getD_eq_getElem?_getD]
 rw [hgg] at hget
 exact hget
theorem q8I {Q : AX → St → Prop} (ty n : Nat) (cap : Option Nat) (hn : n ≤ 1000000000) (f : FuncId) (cs : List T) (cmp : Int → Int → Int) (i : Nat) (hi : i < n) (R : List Int)
  (h0 : ∀ j : Int, Q (.exit 2) ⟨[(0, .ls 1000000 0 n cap), (1, .t (tI 0)), (2, .t (tI n)), (3, .t (.fn f cs)), (8, .t (tI i)), (9, .t (tI j)), (34, .t (tB false))], [(1000000, .sl ty 1 (Bw R))]⟩) :
  ∀ (j : Nat) (l : List Int), j ≤ i → l.length = n → (∀ x ∈ l, ∀ y ∈ l, A3 Tryz.prog Γ f (tI x :: tI y :: cs) (tI (cmp x y))) → q6x (fun a b => decide (cmp a b < 0)) j l = R →
  run Tryz.prog Γ Bm Q ⟨[(0, .ls 1000000 0 n cap), (1, .t (tI 0)), (2, .t (tI n)), (3, .t (.fn f cs)), (8, .t (tI i)), (9, .t (tI j))], [(1000000, .sl ty 1 (Bw l))]⟩
 | 0, l, hj, hl, hc, hR => by
  refine Eg fun K hK => ?_
  simp only [q6x] at hR
  subst hR
  simp
  exact h0 0
 | j + 1, l, hj, hl, hc, hR => by
  refine Eg fun K hK => ?_
  simp only [q6x] at hR
  have la : j < l.length := by omega
  have lb : j + 1 < l.length := by omega
  have e1 := ge1 (f := tI) la
  have e2 := ge1 (f := tI) lb
  have m1 : l.getD j 0 ∈ l := by rw [Bg la]; exact List.getElem_mem la
  have m2 : l.getD (j + 1) 0 ∈ l := by rw [Bg lb]; exact List.getElem_mem lb
  have hcc := hc _ m2 _ m1
  have hs := qE4 (l := l) (a := j + 1) (b := j)
  have hperm : (Xe l (j + 1) j).Perm l := q6s lb la
  have hpl := q4k (l := l) (a := j + 1) (b := j)
  have hcs : ∀ x ∈ Xe l (j + 1) j, ∀ y ∈ Xe l (j + 1) j, A3 Tryz.prog Γ f (tI x :: tI y :: cs) (tI (cmp x y)) := fun x hx y hy => hc x (hperm.mem_iff.1 hx) y (hperm.mem_iff.1 hy)
  have ih := q8I ty n cap hn f cs cmp i hi R h0 j (Xe l (j + 1) j) (by omega) (by rw [hpl]; exact hl) hcs
  generalize Xe l (j + 1) j = l' at *
  generalize l.getD j 0 = va at *
  generalize l.getD (j + 1) 0 = vb at *
  have hj1 : (0 : Int) < (j : Int) + 1 := by omega
  have hj2 : ((j : Int) + 1).toNat = j + 1 := by omega
  have hj3 : (j : Int) + 1 < n := by omega
  have hj4 : (j : Int) < n := by omega
  have hj5 : (j : Int) + 1 - 1 = j := by omega
  have lan : j < n := by omega
  have lbn : j + 1 < n := by omega
  simp (disch := omega) [hj1, hj2, hj3, hj4, hj5, lan, lbn, A1, A5, hl, e1, e2, A4]
  refine ⟨by omega, qA1 hcc ?_⟩
  by_cases h : cmp vb va < 0
  ·rw [if_pos (by simpa using h)] at hR
   have ih := ih hR
   rw [hs] at ih
   simp (disch := omega) [h, hj1, hj2, hj3, hj4, hj5, lan, lbn, A1, A5, hl, e1, e2, A4]
   refine ⟨by omega, ?_⟩
   rw [hK]
   exact_mod_cast ih
  ·rw [if_neg (by simpa using h)] at hR
   subst hR
   simp (disch := omega) [h]
   exact_mod_cast h0 (j + 1)
theorem qA2 {Q : AX → St → Prop} (ty n : Nat) (cap : Option Nat) (hn : n ≤ 1000000000) (f : FuncId) (cs : List T) (cmp : Int → Int → Int) (R : List Int)
  (h0 : ∀ i : Int, Q (.exit 0) ⟨[(0, .ls 1000000 0 n cap), (1, .t (tI 0)), (2, .t (tI n)), (3, .t (.fn f cs)), (8, .t (tI i)), (14, .t (tB false))], [(1000000, .sl ty 1 (Bw R))]⟩) :
  ∀ (k i : Nat) (l : List Int), 1 ≤ i → i + k = max 1 n → l.length = n → (∀ x ∈ l, ∀ y ∈ l, A3 Tryz.prog Γ f (tI x :: tI y :: cs) (tI (cmp x y))) → q16 (fun a b => decide (cmp a b < 0)) k i l = R →
  run Tryz.prog Γ Bn Q ⟨[(0, .ls 1000000 0 n cap), (1, .t (tI 0)), (2, .t (tI n)), (3, .t (.fn f cs)), (8, .t (tI i))], [(1000000, .sl ty 1 (Bw l))]⟩
 | 0, i, l, h1, h, hl, hc, hR => by
  refine Eh fun K hK => ?_
  simp only [q16] at hR
  subst hR
  have h2 : ¬ (i : Int) < n := by omega
  have h2' : ¬ i < n := by omega
  simp [h2, h2']
  exact h0 _
 | k + 1, i, l, h1, h, hl, hc, hR => by
  refine Eh fun K hK => ?_
  simp only [q16] at hR
  have h2 : (i : Int) < n := by omega
  have h2' : i < n := by omega
  have hperm := q24 (lt := fun a b => decide (cmp a b < 0)) (j := i) (l := l) (by omega)
  have ih := qA2 ty n cap hn f cs cmp R h0 k (i + 1) (q6x (fun a b => decide (cmp a b < 0)) i l) (by omega) (by omega) (by rw [hperm.length_eq]; exact hl) (fun x hx y hy => hc x (hperm.mem_iff.1 hx) y (hperm.mem_iff.1 hy)) hR
  have hlp := fun Q h0 => q8I (Γ := Γ) (Q := Q) ty n cap hn f cs cmp i h2' _ h0 i l (Nat.le_refl _) hl hc rfl
  simp (disch := omega) [h2, h2', A4]
  refine hlp _ fun j => ?_
  simp (disch := omega) [A4]
  rw [hK]
  exact_mod_cast ih
theorem qA3 (ty n : Nat) (cap : Option Nat) (hn : n ≤ 1000000000) (f : FuncId) (cs : List T) (cmp : Int → Int → Int) (l : List Int) (hl : l.length = n) (hc : ∀ x ∈ l, ∀ y ∈ l, A3 Tryz.prog Γ f (tI x :: tI y :: cs) (tI (cmp x y))) :
  Fe Tryz.prog Γ 175 [(1000000, .sl ty 1 (Bw l))] [.ls 1000000 0 n cap, .t (tI 0), .t (tI n), .t (.fn f cs)] (.t (.tup [])) [(1000000, .sl ty 1 (Bw (q16 (fun a b => decide (cmp a b < 0)) (n - 1) 1 l)))] := by
 refine Hg Lq rfl ?_
 have hlp := fun Q h0 => qA2 (Γ := Γ) (Q := Q) ty n cap hn f cs cmp _ h0 (n - 1) 1 l (by omega) (by omega) hl hc rfl
 simp (disch := omega) [Fq, A4]
 refine hlp _ fun i => ?_
 simp [Ft]
theorem q8J {lt : Int → Int → Bool} : ∀ {f i : Nat} {l : List Int}, i + f ≤ l.length ∨ f = 0 → (q16 lt f i l).Perm l
 | 0, i, l, _ => List.Perm.refl l
 | f + 1, i, l, h => by
  simp only [q16]
  have hp := q24 (lt := lt) (j := i) (l := l) (by omega)
  exact (q8J (by rw [hp.length_eq]; omega)).trans hp
theorem qA4 {lt : Int → Int → Bool} {l : List Int} {n : Nat} (h : l.length = n) : (q16 lt (n - 1) 1 l).length = l.length := (q8J (by omega)).length_eq
theorem qE5 (ty n : Nat) (cap : Option Nat) (hn : n ≤ 19) (f : FuncId) (cs : List T) (cmp : Int → Int → Int) (l : List Int) (hl : l.length = n) (hc : ∀ x ∈ l, ∀ y ∈ l, A3 Tryz.prog Γ f (tI x :: tI y :: cs) (tI (cmp x y))) :
  Fe Tryz.prog Γ 153 [(1000000, .sl ty 1 (Bw l))] [.ls 1000000 0 n cap, .t (tI n), .t (.fn f cs)] (.t (.tup [])) [(1000000, .sl ty 1 (Bw (q16 (fun a b => decide (cmp a b < 0)) (n - 1) 1 l)))] := by
 refine Hg Tj rfl ?_
 have hi := qA3 (Γ := Γ) ty n cap (by omega) f cs cmp l hl hc
 simp (disch := omega) [Jc, A4]
 have hR := qA4 (lt := fun a b => decide (cmp a b < 0)) hl
 generalize q16 (fun a b => decide (cmp a b < 0)) (n - 1) 1 l = R at *
 refine Pi fun K hK => ?_
 have h1 : ¬ (20 : Int) ≤ n := by omega
 have h2 : ¬ 20 ≤ n := by omega
 have h3 : ¬ (20 : Int) < n := by omega
 have h4 : ¬ 20 < n := by omega
 simp [h1, h2]
 refine ⟨_, _, hi, ?_⟩
 simp [A1, hR]
 refine Pj fun K hK => ?_
 simp [h3, h4, Jd]
theorem qHB (ty n : Nat) (cap : Option Nat) (hn : n ≤ 19) (f : FuncId) (cs : List T) (cmp : Int → Int → Int) (l : List Int) (hl : l.length = n) (hc : ∀ x ∈ l, ∀ y ∈ l, A3 Tryz.prog Γ f (tI x :: tI y :: cs) (tI (cmp x y))) :
  Fe Tryz.prog Γ 110 [(1000000, .sl ty 1 (Bw l))] [.ls 1000000 0 n cap, .t (.fn f cs)] (.t (.tup [])) [(1000000, .sl ty 1 (Bw (q16 (fun a b => decide (cmp a b < 0)) (n - 1) 1 l)))] := by
 refine Hg S9 rfl ?_
 have hi := qE5 (Γ := Γ) ty n cap hn f cs cmp l hl hc
 have hR := qA4 (lt := fun a b => decide (cmp a b < 0)) hl
 generalize q16 (fun a b => decide (cmp a b < 0)) (n - 1) 1 l = R at *
 simp (disch := omega) [Iw, A4]
 refine ⟨_, _, hi, ?_⟩
 simp [Ix, A1, hR]
theorem qA5 (n : Int) : A3 Tryz.prog Γ 154 [tI n] (tB false) := by
 refine A6 q4A rfl ?_
 simp [Zb, Zc, Ap]
def qBI (a b : Int) : Int := if a < b then -1 else if b < a then 1 else 0
theorem qE6 (a b : Int) : A3 Tryz.prog Γ 112 [tI a, tI b] (tI (qBI a b)) := by
 refine A6 q2F rfl ?_
 simp [W5]
 refine A0 (qA5 a) rfl ?_
 simp
 refine A0 (qA5 b) rfl ?_
 by_cases h : a < b
 ·simp [h, N3, Ap, qBI]
 ·by_cases h1 : b < a <;> simp [h, h1, N3, Ap, qBI]
def qFQ (c : B1) : T := .sl (Bw (Me c).2.out) none none
theorem qA6 (c : B1) (h : Ew c = 0) (a b : Int) (ha : 0 ≤ a ∧ a < c.nodes.l.length) (hb : 0 ≤ b ∧ b < c.nodes.l.length) : A3 Tryz.prog Γ 111 [tI a, tI b, .ip [qFQ c] 0] (tI (qBI (Lp c a.toNat) (Lp c b.toNat))) := by
 refine A6 q1H rfl ?_
 have hl := (qBH h).1
 have e1 := ge1 (f := tI) (l := (Me c).2.out) (i := a.toNat) (by omega)
 have e2 := ge1 (f := tI) (l := (Me c).2.out) (i := b.toNat) (by omega)
 unfold Lp qFQ
 generalize (Me c).2.out.getD a.toNat 0 = va at *
 generalize (Me c).2.out.getD b.toNat 0 = vb at *
 simp (disch := omega) [Tz, A1, A5, hl, e1, e2, ha, hb]
 refine A0 (qE6 _ _) rfl ?_
 simp [U0, Ap]
theorem q71 {Q : AX → St → Prop} (n : Nat) (hn : n ≤ 1000000000) (a4 : T)
  (h0 : Q (.exit 0) ⟨[(4, .t a4), (6, .ls 19 0 n none), (21, .t (tI n)), (22, .t (tI n)), (23, .t (tB false))], [(19, .sl 3 1 (Bw (rng n)))]⟩) : ∀ (k i : Nat), k + i = n →
  run Tryz.prog Γ Je Q ⟨[(4, .t a4), (6, .ls 19 0 n none), (21, .t (tI n)), (22, .t (tI i))], [(19, .sl 3 1 (Bw (rng i ++ List.replicate (n - i) 0)))]⟩
 | 0, i, h => by
  refine Pz fun K hK => ?_
  have h2 : i = n := by omega
  subst h2
  simp
  simpa using h0
 | k + 1, i, h => by
  refine Pz fun K hK => ?_
  have ih := q71 n hn a4 h0 k (i + 1) (by omega)
  have h2 : i < n := by omega
  have hs : (Bw (rng i ++ List.replicate (n - i) 0)).set i [tI i] = Bw (rng (i + 1) ++ List.replicate (n - (i + 1)) 0) := by
   show (A9 tI _).set i [tI i] = A9 tI _
   rw [Gj]
   congr 1
   have e : n - i = (n - (i + 1)) + 1 := by omega
   rw [e, List.replicate_succ, List.set_append, if_neg (by rw [Rk]; omega), Rk, Nat.sub_self]
   simp [rng, List.range_succ]
  have hlen : (Bw (rng i ++ List.replicate (n - i) 0)).length = n := by rw [A1]; simp [Rk]; omega
  generalize Bw (rng i ++ List.replicate (n - i) 0) = E at *
  simp (disch := omega) [h2, hlen, hs, A4]
  rw [hK]
  exact_mod_cast ih
theorem qBJ (hΓ : GOk Γ) (c : B1) (hc : COk c) (hn : c.nodes.l.length ≤ 19) :
  A3 Tryz.prog Γ 47 [.agg (tC c)] (.tup [if Ew c = 0 then .sl (Bw (Ti c)) none none else .sl [] (some 0) (some true), tI (Ew c)]) := by
 refine A6 q3G rfl ?_
 have e1 := q5N hΓ c hc.toCirOk hc.asc
 simp [Xm, tC, A7, Ac, Af, Bo]
 refine A0 e1 rfl ?_
 by_cases h : Ew c = 0
 case neg => simp [h, Oz, St.freeze, B0.closed, Cm, frz1, frz0, G9, del, Ae]
 have hlp := fun Q h0 => q71 (Γ := Γ) (Q := Q) c.nodes.l.length (by omega) (.ip [qFQ c] 0) h0 c.nodes.l.length 0 (by omega)
 have hz : List.replicate c.nodes.l.length [T.v (Value.int .i64 0)] = Bw (rng 0 ++ List.replicate (c.nodes.l.length - 0) 0) := by simp [A9, rng]
 have hsort := qHB (Γ := Γ) 3 c.nodes.l.length none hn 111 [.ip [qFQ c] 0] (fun a b => qBI (Lp c a.toNat) (Lp c b.toNat)) (rng c.nodes.l.length) Rk (fun x hx y hy => qA6 c h x y (q6A.1 hx) (q6A.1 hy))
 have hlt : (fun a b => decide (qBI (Lp c a.toNat) (Lp c b.toNat) < 0)) = qC8 c := by
  funext a b
  simp only [qC8, qBI]
  by_cases h1 : Lp c a.toNat < Lp c b.toNat
  ·simp [h1]
  ·by_cases h2 : Lp c b.toNat < Lp c a.toNat <;> simp [h1, h2]
 rw [hlt] at hsort
 have ho : q16 (qC8 c) (c.nodes.l.length - 1) 1 (rng c.nodes.l.length) = Ti c := rfl
 rw [ho] at hsort
 have holen : (Ti c).length = c.nodes.l.length := by rw [(Z6 c).1.length_eq, Rk]
 simp [h, Aa, A4, St.freeze, B0.closed, Cm, frz1, frz0, G9, del, Ae]
 refine ⟨by omega, ?_⟩
 rw [hz]
 refine hlp _ ?_
 simp
 refine ⟨_, _, hsort, ?_⟩
 have htk : (Bw (Ti c)).take c.nodes.l.length = Bw (Ti c) := List.take_of_length_le (by rw [A1, holen]; exact Nat.le_refl _)
 simp [A1, Rk, holen, Oz, Ae, htk, h]
end Go.Lg
namespace Go.Lg
open Go
section
variable {P : Program} {Γ : Tables} {Q : AX → St → Prop} {s : St}
/- probecard/sims.fits (function 77) -/
abbrev Jf : IC := (.seq (.reg [od 2 (.box true (tm 0)), od 4 (.mv (ku 0))] [kp [1, 2] []]) (.seq (.seq (.reg [om 5 1, od 6 (.bin .lss (tm 5) (ki 0)), om 7 6, oF 8 (.mv (tm 1)) 7, oF 9 (fa 4 2) 7, oF 10 (ld 1 9) 7, oF 11 (le 0 10) 7, oF 12 (.bin .geq
 (tm 8) (tm 11)) 7, od 13 (.pick (tm 7) kT (tm 12))] [kp [1, 2, 13] []]) (.cond (tm 13) (.seq (.reg [od 4 (.mv (ku 2))] [kp [4] []]) .ret) .skip)) (.seq (.reg [od 14 (fa 4 2), od 15 (ld 1 14), om 16 1, od 17 (ia 1 15 16), od 18 (ld
 1 17), od 19 (.call 133 [(tm 18)]), om 4 19] [kp [4] []]) .ret)))
def Jg : List RV := [.tmp 4]
/- (probecard/sims.run).observe (function 79) -/
abbrev U1 : IC := .gh (.seq (.reg [od 15 (.bin .lss (tm 14) (tm 13))] [kp [1, 2, 3, 12, 13, 14, 15] [2, 3, 24, 55]]) (.seq (.cond (tm 15) .skip (.exit 0)) (.seq (.block 1 (.seq (.reg [od 16 (ia 1 12 14), od 17 (ld 1 16), om 5 17] [kp [1, 2, 3, 5,
 12, 13, 14] [2, 3, 24, 55]]) (.reg [od 18 (fa 0 3), od 19 (.ldR 3 1 false (tm 18)), od 20 (.ldT 5 true (tm 1)), om 21 5, od 22 (.call 142 [(tm 20), (tm 21)]), od 23 (.bsl true 64 1 [(tm 22)]), od 24 (.app false 64 1 (tm 19) (tm
 23)), od 25 (fa 0 3), on (.stR 3 1 (tm 25) (tm 24))] [kp [1, 2, 3, 12, 13, 14] [2, 3, 24, 55]]))) (.reg [od 26 (.bin .add (tm 14) (ki 1)), om 14 26] [kp [1, 2, 3, 12, 13, 14] [2, 3, 24, 55]])))) [kp [1, 2, 3, 12, 13, 14] [2, 3, 24,
 55]]
def H7 : IC := .loop U1
abbrev U2 : IC := .gh (.seq (.reg [od 32 (.bin .lss (tm 31) (tm 30))] [kp [1, 2, 3, 29, 30, 31, 32] [2, 3, 24, 55]]) (.seq (.cond (tm 32) .skip (.exit 2)) (.seq (.block 3 (.seq (.reg [od 33 (ia 1 29 31), od 34 (ld 1 33), om 7 34] [kp [1, 2, 3, 7,
 29, 30, 31] [2, 3, 24, 55]]) (.seq (.reg [od 8 (.mv (ku 2))] [kp [1, 2, 3, 7, 8, 29, 30, 31] [2, 3, 24, 55]]) (.seq (.seq (.reg [od 35 (fa 0 1), od 36 (fa 0 35), od 37 (ld 1 36), om 38 7, od 39 (ia 4 37 38), od 40 (fa 1 39), od 41
 (ld 1 40), om 9 41] [kp [1, 2, 3, 8, 9, 29, 30, 31] [2, 3, 24, 55]]) (.seq (.reg [om 42 9, od 43 (le 0 42), od 44 (.bin .eql (tm 43) (ki 1))] [kp [1, 2, 3, 8, 9, 29, 30, 31, 44] [2, 3, 24, 55]]) (.cond (tm 44) (.reg [od 45 (lG 5
 1), om 46 9, od 47 (.iadr 1 (tm 46) (ki 0)), od 48 (ld 1 47), od 49 (.call 142 [(tm 45), (tm 48)]), od 50 (.call 114 [(tm 49)]), om 8 50] [kp [1, 2, 3, 8, 29, 30, 31] [2, 3, 24, 55]]) .skip))) (.reg [od 51 (fa 1 3), od 52 (ld 1
 51), om 53 8, od 54 (.bsl true 64 1 [(tm 53)]), od 55 (.app false 64 1 (tm 52) (tm 54)), od 56 (fa 1 3), on (.store 1 (tm 56) (tm 55))] [kp [1, 2, 3, 29, 30, 31] [2, 3, 24, 55]]))))) (.reg [od 57 (.bin .add (tm 31) (ki 1)), om 31
 57] [kp [1, 2, 3, 29, 30, 31] [2, 3, 24, 55]])))) [kp [1, 2, 3, 29, 30, 31] [2, 3, 24, 55]]
def H8 : IC := .loop U2
abbrev U3 : IC := (.seq (.reg [od 1 (.box true (tm 0)), od 2 (.alloc false [(.slice none 0 0), (.slice none 0 0)])] [kp [1, 2] [2, 24, 55]]) (.seq (.reg [od 3 (.alloc false [(.slice none 0 0), (.slice none 0 0)])] [.nlb 3 0 24 64 1, .nlb 3 1 55 64
 1, kp [1, 2, 3] [2, 3, 24, 55]]) (.seq (.seq (.reg [od 10 (fa 0 1), od 11 (fa 3 10), od 12 (ld 1 11), od 13 (le 0 12), od 14 (.mv (ki 0))] [kp [1, 2, 3, 12, 13, 14] [2, 3, 24, 55]]) (.block 0 H7)) (.seq (.seq (.reg
 [od 27 (fa 0 1), od 28 (lG 4 27), od 29 (.call 31 [(tm 28)]), od 30 (le 0 29), od 31 (.mv (ki 0))] [kp [1, 2, 3, 29, 30, 31] [2, 3, 24, 55]]) (.block 2 H8)) (.seq (.reg [od 58 (fa 0 3), od 59 (.ldR 3 1 false (tm
 58)), od 60 (.rcall 52 [(tm 59)] [24]), od 61 (fa 1 3), od 62 (.ldR 3 1 false (tm 61)), od 63 (.rcall 52 [(tm 62)] [55]), od 64 (.build [(1, (tm 60)), (1, (tm 63))]), on (.stR 2 2 (tm 2) (tm 64))] [kp [2] [2, 24, 55]]) .ret)))))
theorem O1 (h : ∀ K : St → Prop, K = run P Γ H7 Q → run P Γ U1 (Ao K Q) s) : run P Γ H7 Q s := Ad h
theorem O2 (h : ∀ K : St → Prop, K = run P Γ H8 Q → run P Γ U2 (Ao K Q) s) : run P Γ H8 Q s := Ad h
def U4 : List RV := [.cell 2 2 true]
/- probecard/sims.Observe (function 51) -/
abbrev q0O : IC := (.seq (.reg [od 2 (.box true (tm 0)), od 4 (.alloc false [(.slice none 0 0), (.slice none 0 0)])] [kp [1, 2, 4] [4]]) (.seq (.reg [od 5 (lG 4 2), om 6 1, od 7 (.build [(4, (tm 5)), (1, (tm 6))]), od 8 (.call 79 [(tm 7)]), on
 (.store 2 (tm 4) (tm 8))] [kp [4] [4]]) .ret))
def q0P : List RV := [.cell 4 2 true]
/- probecard/netlists.Inputs (function 97) -/
abbrev W6 : IC := (.seq (.reg [od 1 (.box true (tm 0)), od 2 (.mv kN)] [kp [1] []]) (.seq (.reg [od 3 (lG 4 1), od 4 (.bsl true 80 1 [(ku 0)]), od 5 (.call 90 [(tm 3), (tm 4)]), om 2 5] [kp [2] []]) .ret))
def W7 : List RV := [.tmp 2]
/- slices.Clip[[]probecard/api.Value,probecard/api.Value] (function 52) -/
abbrev Gz : IC := (.seq (.reg [od 2 (.mv kN)] [kp [0] [1000000]]) (.seq (.reg [om 3 0, om 4 0, od 5 (le 0 4), om 6 0, od 7 (le 0 6), od 8 (.slice 1 (tm 3) none (some (tm 5)) (some (tm 7))), om 2 8] [kp [2] [1000000]]) .ret))
def H2 : List RV := [.tmp 2]
end
end Go.Lg
namespace Go.Lg
open Go Go.Proofs
theorem q3H : Aq Tryz.prog 142 Jf 20 2 Jg = true := by kernel_rfl
theorem q1I : Aq Tryz.prog 79 U3 65 1 U4 = true := by kernel_rfl
theorem q4u : Aq Tryz.prog 51 q0O 9 2 q0P = true := by kernel_rfl
theorem q2G : Aq Tryz.prog 97 W6 6 1 W7 = true := by kernel_rfl
theorem Ky : Aq Tryz.prog 52 Gz 9 1 H2 = true := by kernel_rfl
end Go.Lg
namespace Go.Lg
open Go Go.Proofs
variable {Γ : Tables}
theorem q5T (c : B1) (hc : COk c) : Ab Tryz.prog Γ 97 [.agg (tC c)] (.sl (Bw (Bz c)) (some (Bz c).length) none) := by
 refine Ax q2G rfl ?_
 simp [W6, tC, A7, Ac, Af, Bo]
 refine A0 (qBD c hc 0) rfl ?_
 simp [W7, Bz]
theorem qE7 (es : List (List T)) (cap : Option Nat) (nl : Option Bool) (hw : E5 1 es) : Ab Tryz.prog Γ 52 [.sl es cap nl] (.sl es (some es.length) nl) := by
 refine Ax Ky rfl ?_
 simp [Gz, H2, ret, hw]
structure Pat where
 inn : Sl Int
 st : Sl Int
theorem q05 (c : B1) : (Bz c).length ≤ c.nodes.l.length := Up _ _ _
theorem Gv (c : B1) : (Av c).length ≤ c.nodes.l.length := Up _ _ _
def Wx (c : B1) (id n : Nat) (cap : Option Nat) : List AV := [.t (A7 c.nodes), .t (Ac c.names), .t (Af c.mems), .t (Bo c.outs), .ls id 0 n cap]
theorem q72 {ns vs l : List Int} {i : Nat} (h : i < ns.length) (hv : i < vs.length) : F7 (ns.drop i) (vs.drop i) l = F7 (ns.drop (i + 1)) (vs.drop (i + 1)) (l.set (ns.getD i 0).toNat (vs.getD i 0)) := by
 rw [List.drop_eq_getElem_cons h, List.drop_eq_getElem_cons hv]
 simp only [F7]
 rw [Bg h, Bg hv]
@[simp] theorem qIm {s : Nat} {e : List T} : E5 s [e] = (e.length = s) := propext ⟨fun h => h e List.mem_cons_self, fun h x hx => by simp at hx; subst hx; exact h⟩
def Le (c : B1) (nets : Sl Int) : List T := [A7 c.nodes, Ac c.names, Af c.mems, Bo c.outs, tV nets]
def Qp (nets : List Int) (n : Int) : Int := if n < 0 ∨ (nets.length : Int) ≤ n then 2 else Dl (nets.getD n.toNat 0)
theorem q73 (c : B1) (nets : Sl Int) (n : Int) (hl : nets.l.length ≤ 1000000000) : A3 Tryz.prog Γ 142 [.agg (Le c nets), tI n] (tK (Qp nets.l n)) := by
 refine A6 q3H rfl ?_
 generalize hR : Qp nets.l n = R
 unfold Qp at hR
 by_cases h1 : n < 0
 ·rw [if_pos (.inl h1)] at hR
  subst hR
  simp [Jf, Le, A7, Ac, Af, Bo, tV, h1, Jg, Ap]
 by_cases h2 : (nets.l.length : Int) ≤ n
 ·rw [if_pos (.inr h2)] at hR
  subst hR
  simp [Jf, Le, A7, Ac, Af, Bo, tV, h1, h2, A1, Jg, Ap]
 rw [if_neg (by omega)] at hR
 have h3 : n.toNat < nets.l.length := by omega
 have e := ge1 (f := tK) h3
 generalize nets.l.getD n.toNat 0 = v at *
 have h4 : n < nets.l.length := by omega
 simp (disch := omega) [Jf, Le, A7, Ac, Af, Bo, tV, h1, h2, h4, A1, A5, e]
 refine ⟨by omega, A0 (W2 v) rfl ?_⟩
 simp [Jg, Ap, hR]
def q0Q (c : B1) (nets : List Int) (n : Int) : Int := if (Hl c n.toNat).length = 1 then Dv (Qp nets ((Hl c n.toNat).getD 0 0)) else 2
def q06 (c : B1) (nets : List Int) : List Int := c.outs.l.map (Qp nets)
def Dh (c : B1) (nets : List Int) : List Int := (Av c).map (q0Q c nets)
def q4v (o s : Nat) : List AV := [.ls 24 0 o none, .ls 55 0 s none]
def q2H (o s : List Int) : List (Nat × B0) := [(2, .bx [.t (.sl [] (some 0) (some true)), .t (.sl [] (some 0) (some true))]), (3, .bx (q4v o.length s.length)), (24, .sl 64 1 (Ag o)), (55, .sl 64 1 (Ag s))]
theorem O3 {l : List Int} {v : Int} : Ag l ++ [[tK v]] = Ag (l ++ [v]) := C6
theorem D1 {l : List Int} : (Ag l).take l.length = Ag l := An
theorem qA7 {Q : AX → St → Prop} (c : B1) (nets : Sl Int) (hl : nets.l.length ≤ 1000000000) (ho : c.outs.l.length ≤ 1000000000) (R : List Int)
  (h0 : Q (.exit 0) ⟨[(1, .t (.ip (Le c nets) 0)), (2, .lp 2 0 0), (3, .lp 3 0 0), (12, .t (Bo c.outs)), (13, .t (tI c.outs.l.length)), (14, .t (tI c.outs.l.length)), (15, .t (tB false))], q2H R []⟩) :
  ∀ (k i : Nat) (out : List Int), k + i = c.outs.l.length → out.length = i → out ++ (c.outs.l.drop i).map (Qp nets.l) = R →
  run Tryz.prog Γ H7 Q ⟨[(1, .t (.ip (Le c nets) 0)), (2, .lp 2 0 0), (3, .lp 3 0 0), (12, .t (Bo c.outs)), (13, .t (tI c.outs.l.length)), (14, .t (tI i))], q2H out []⟩
 | 0, i, out, h, hi, hR => by
  refine O1 fun K hK => ?_
  have h2 : i = c.outs.l.length := by omega
  rw [List.drop_of_length_le (by omega), List.map_nil, List.append_nil] at hR
  subst hR
  simp [q2H, q4v, h2]
  simpa [q2H, q4v] using h0
 | k + 1, i, out, h, hi, hR => by
  refine O1 fun K hK => ?_
  have h2 : i < c.outs.l.length := by omega
  rw [List.drop_eq_getElem_cons h2, List.map_cons] at hR
  have e := ge1 (f := tI) h2
  rw [Bg h2] at e
  generalize c.outs.l[i] = n at *
  have ih := qA7 c nets hl ho R h0 k (i + 1) (out ++ [Qp nets.l n]) (by omega) (by simp [hi]) (by rw [← hR]; simp)
  have vs := O3 (l := out) (v := Qp nets.l n)
  have vt : (Ag out).take i = Ag out := by rw [← hi]; exact D1
  have hv := q73 (Γ := Γ) c nets n hl
  simp (disch := omega) [q2H, q4v, h2, Bo, A1, A5, e, hi, A4, Le, A7, Ac, Af, tV]
  refine A0 hv rfl ?_
  simp (disch := omega) [vt, vs, A1, A5, hi, A4]
  refine ⟨by omega, ?_⟩
  rw [hK]
  simpa [q2H, q4v, hi, Le, A7, Ac, Af, Bo, tV] using ih
theorem q8K {Q : AX → St → Prop} (c : B1) (hc : COk c) (nets : Sl Int) (hl : nets.l.length ≤ 1000000000) (ns : List Int) (hns : ns.length ≤ 1000000000) (hin : ∀ n ∈ ns, 0 ≤ n ∧ n < c.nodes.l.length) (o R : List Int)
  (h0 : Q (.exit 2) ⟨[(1, .t (.ip (Le c nets) 0)), (2, .lp 2 0 0), (3, .lp 3 0 0), (29, .t (.sl (Bw ns) (some ns.length) none)), (30, .t (tI ns.length)), (31, .t (tI ns.length)), (32, .t (tB false))], q2H o R⟩) :
  ∀ (k i : Nat) (out : List Int), k + i = ns.length → out.length = i → out ++ (ns.drop i).map (q0Q c nets.l) = R →
  run Tryz.prog Γ H8 Q ⟨[(1, .t (.ip (Le c nets) 0)), (2, .lp 2 0 0), (3, .lp 3 0 0), (29, .t (.sl (Bw ns) (some ns.length) none)), (30, .t (tI ns.length)), (31, .t (tI i))], q2H o out⟩
 | 0, i, out, h, hi, hR => by
  refine O2 fun K hK => ?_
  have h2 : i = ns.length := by omega
  rw [List.drop_of_length_le (by omega), List.map_nil, List.append_nil] at hR
  subst hR
  simp [q2H, q4v, h2]
  simpa [q2H, q4v] using h0
 | k + 1, i, out, h, hi, hR => by
  refine O2 fun K hK => ?_
  have h2 : i < ns.length := by omega
  rw [List.drop_eq_getElem_cons h2, List.map_cons] at hR
  have e := ge1 (f := tI) h2
  have hn := hin ns[i] (List.getElem_mem h2)
  rw [Bg h2] at e
  generalize ns[i] = n at *
  have ih := q8K c hc nets hl ns hns hin o R h0 k (i + 1) (out ++ [q0Q c nets.l n]) (by omega) (by simp [hi]) (by rw [← hR]; simp)
  have vs := O3 (l := out) (v := q0Q c nets.l n)
  have vt : (Ag out).take i = Ag out := by rw [← hi]; exact D1
  have hnn : n.toNat < c.nodes.l.length := by omega
  have hget : (B8 Gq c.nodes.l)[n.toNat]?.getD [] = Gq (c.nodes.l.getD n.toNat Nd.d) := by
   rw [E4 Nd.d hnn]; simp [List.getD_eq_getElem?_getD]
  have hxi := hc.inn _ (List.getElem_mem hnn)
  have hgd : c.nodes.l.getD n.toNat Nd.d = c.nodes.l[n.toNat] := by simp [List.getD_eq_getElem?_getD, hnn]
  have hia : Hl c n.toNat = (c.nodes.l.getD n.toNat Nd.d).inn.l := rfl
  have hnl : q0Q c nets.l n = if (Hl c n.toNat).length = 1 then Dv (Qp nets.l ((Hl c n.toNat).getD 0 0)) else 2 := rfl
  rw [← hgd] at hxi
  rw [hia] at hnl
  generalize c.nodes.l.getD n.toNat Nd.d = x at *
  generalize q0Q c nets.l n = v at *
  obtain ⟨h3, h4⟩ := hn
  by_cases h1 : x.inn.l.length = 1
  ·rw [if_pos h1] at hnl
   have h10 : 0 < x.inn.l.length := by omega
   have e0 := ge1 (f := tI) h10
   have hv := q73 (Γ := Γ) c nets (x.inn.l.getD 0 0) hl
   generalize x.inn.l.getD 0 0 = m at *
   simp (disch := omega) [q2H, q4v, h2, Bo, A1, A5, e, hi, A4, Le, A7, Ac, Af, tV, h3, h4, Aa, Bl, hget, Gq, h1, e0, h10]
   refine A0 hv rfl ?_
   simp
   refine A0 (Qo _) rfl ?_
   rw [← hnl]
   simp (disch := omega) [vt, vs, A1, A5, hi, A4]
   refine ⟨by omega, ?_⟩
   rw [hK]
   simpa [q2H, q4v, hi, Le, A7, Ac, Af, Bo, tV] using ih
  ·rw [if_neg h1] at hnl
   subst hnl
   have h1i : ¬ (x.inn.l.length : Int) = 1 := by omega
   simp (disch := omega) [q2H, q4v, h2, Bo, A1, A5, e, hi, A4, Le, A7, Ac, Af, tV, h3, h4, Aa, Bl, hget, Gq, h1, h1i, Ba, vt, vs]
   refine ⟨by omega, ?_⟩
   rw [hK]
   simpa [q2H, q4v, hi, Le, A7, Ac, Af, Bo, tV] using ih
theorem q74 (ty : Nat) (es : List (List T)) (cap : Option Nat) (hw : E5 1 es) : Fe Tryz.prog Γ 52 [(1000000, .sl ty 1 es)] [.ls 1000000 0 es.length cap] (.ls 1000000 0 es.length (some es.length)) [(1000000, .sl ty 1 es)] := by
 refine Hg Ky rfl ?_
 simp [Gz, H2, qCl, hw]
def tVs (l : List Int) : T := .sl (Ag l) (some l.length) none
theorem q8p (c : B1) (hc : COk c) (nets : Sl Int) (hl : nets.l.length ≤ 1000000000) : A3 Tryz.prog Γ 79 [.agg (Le c nets)] (.agg [tVs (q06 c nets.l), tVs (Dh c nets.l)]) := by
 refine A6 q1I rfl ?_
 have hn := hc.nodes
 have ho := hc.outs
 have hs := Gv c
 have g1 := fun Q h0 => qA7 (Γ := Γ) (Q := Q) c nets hl ho (q06 c nets.l) h0 c.outs.l.length 0 [] (by omega) rfl (by simp [q06])
 have g2 := fun Q h0 => q8K (Γ := Γ) (Q := Q) c hc nets hl (Av c) (by omega) (fun x hx => ⟨(Ld x hx).1, (Ld x hx).2.1⟩) (q06 c nets.l) (Dh c nets.l) h0 (Av c).length 0 [] (by omega) rfl (by simp [Dh])
 have l1 : (q06 c nets.l).length = c.outs.l.length := by simp [q06]
 have l2 : (Dh c nets.l).length = (Av c).length := by simp [Dh]
 have t1 := D1 (l := q06 c nets.l)
 have t2 := D1 (l := Dh c nets.l)
 generalize q06 c nets.l = O at *
 generalize Dh c nets.l = S at *
 simp [U3, Le, A7, Ac, Af, Bo, tV, A1]
 refine g1 _ ?_
 simp [q2H, q4v, Le, A7, Ac, Af, Bo, tV]
 refine A8 (Xd c hc) rfl ?_
 simp [A1]
 refine g2 _ ?_
 have hc1 := q74 (Γ := Γ) 64 (Ag O) none A5
 have hc2 := q74 (Γ := Γ) 64 (Ag S) none A5
 simp only [A1] at hc1 hc2
 simp [q2H, q4v]
 refine ⟨_, hc1, ?_⟩
 simp
 refine ⟨_, hc2, ?_⟩
 simp [U4, tVs, A1, Ap, Ae, t1, t2]
def nd (c : B1) (n : Int) : Nd := c.nodes.l.getD n.toNat Nd.d
theorem q75 {c : B1} {n : Int} (h0 : 0 ≤ n) (h : n < c.nodes.l.length) : (B8 Gq c.nodes.l)[n.toNat]?.getD [] = Gq (nd c n) := by
 rw [E4 Nd.d (by omega)]; simp [nd, List.getD_eq_getElem?_getD]
theorem qE8 {c : B1} {n : Int} (h0 : 0 ≤ n) (h : n < c.nodes.l.length) : nd c n ∈ c.nodes.l := by
 have hi : n.toNat < c.nodes.l.length := by omega
 have : nd c n = c.nodes.l[n.toNat] := by simp [nd, List.getD_eq_getElem?_getD, hi]
 rw [this]; exact List.getElem_mem hi
def Dq : AV := .t (.sl [] (some 0) (some true))
structure ROk (c : B1) : Prop where
 ok : COk c
 inn : ∀ x ∈ c.nodes.l, x.inn.l.length ≤ 16 ∧ ∀ k ∈ x.inn.l, 0 ≤ k ∧ k < c.nodes.l.length
theorem qCC {c : B1} {nets : List Int} {n : Int} (h : ∀ v ∈ nets, V4 v) : ∀ v ∈ S5 c nets n, V4 v := by
 intro v hv
 unfold S5 at hv
 split at hv
 ·rcases List.mem_or_eq_of_mem_set hv with hv | rfl
  ·exact h v hv
  ·refine qFK fun u hu => ?_
   obtain ⟨q, _, rfl⟩ := List.mem_map.1 hu
   exact N1 h _
 ·exact h v hv
theorem qHC {c : B1} (hc : COk c) (h : Ew c = 0) : ROk c := by
 have hs := (Ny h).1
 exact ⟨hc, fun x hx => ⟨(Hw hs).2.1 x hx, q9x hs x hx⟩⟩
theorem q6C : ∀ {ns vs nets : List Int}, (∀ v ∈ vs, V4 v) → (∀ v ∈ nets, V4 v) → ∀ v ∈ F7 ns vs nets, V4 v
 | [], vs, nets, _, h => by cases vs <;> exact h
 | _ :: _, [], nets, _, h => h
 | n :: ns, v :: vs, nets, hv, h => by
  simp only [F7]
  refine q6C (fun u hu => hv u (List.mem_cons_of_mem _ hu)) fun u hu => ?_
  rcases List.mem_or_eq_of_mem_set hu with hu | rfl
  ·exact h u hu
  ·exact hv _ List.mem_cons_self
end Go.Lg
namespace Go.Lg
open Go
section
variable {P : Program} {Γ : Tables} {Q : AX → St → Prop} {s : St}
/- probecard/probecardlaw06.taken (function 81) -/
abbrev q1J : IC := .gh (.seq (.seq (.reg [om 9 8, om 10 1, od 11 (.bin .lss (tm 9) (tm 10))] [kp [0, 1, 2, 7, 8, 11] [19]]) (.cond (tm 11) .skip (.exit 0))) (.seq (.block 1 (.seq (.reg [om 14 0, od 15 (le 0 14), od 16 (.bin .eql (tm 15) (ki 0))] [kp
 [0, 1, 2, 7, 8, 16] [19]]) (.cond (tm 16) (.reg [om 17 7, od 18 (.bsl true 64 1 [(ku 2)]), od 19 (.app false 64 1 (tm 17) (tm 18)), om 7 19] [kp [0, 1, 2, 7, 8] [19]]) (.reg [om 20 7, om 21 0, om 22 8, om 23 0, od 24 (le 0 23), od
 25 (.bin .rem (tm 22) (tm 24)), od 26 (ia 1 21 25), od 27 (ld 1 26), om 28 2, od 29 (.bin .rem (tm 27) (tm 28)), od 30 (.bsl true 64 1 [(tm 29)]), oz 31 (.app false 64 1 (tm 20) (tm 30)) 19, om 7 31] [kp [0, 1, 2, 7, 8] [19]]))))
 (.reg [om 12 8, od 13 (.bin .add (tm 12) (ki 1)), om 8 13] [kp [0, 1, 2, 7, 8] [19]]))) [kp [0, 1, 2, 7, 8] [19]]
def P0 : IC := .loop q1J
abbrev q1K : IC := (.seq (.reg [od 6 (.mv kN)] [kp [0, 1, 2] []]) (.seq (.reg [od 7 (.mv kN)] [.nl 7 19 64 1, kp [0, 1, 2, 7] [19]]) (.seq (.seq (.reg [od 8 (.mv (ki 0))] [kp [0, 1, 2, 7, 8] [19]]) (.block 0 P0)) (.seq (.reg [om 32 7, om
 6 32] [kp [6] [19]]) .ret))))
theorem W8 (h : ∀ K : St → Prop, K = run P Γ P0 Q → run P Γ q1J (Ao K Q) s) : run P Γ P0 Q s := Ad h
def q1L : List RV := [.tmp 6]
/- probecard/probecardlaw06.count (function 82) -/
abbrev q1M : IC := .gh (.seq (.seq (.reg [om 7 6, od 8 (fa 0 2), od 9 (ld 1 8), od 10 (le 0 9), od 11 (.bin .lss (tm 7) (tm 10))] [kp [1, 2, 5, 6, 11] []]) (.cond (tm 11) .skip (.exit 0))) (.seq (.block 1 (.seq (.reg [od 14 (fa 0 2), od 15 (ld 1 14),
 om 16 6, od 17 (ia 4 15 16), od 18 (fa 0 17), od 19 (ld 1 18), om 20 1, od 21 (.bin .eql (tm 19) (tm 20))] [kp [1, 2, 5, 6, 21] []]) (.cond (tm 21) (.reg [om 22 5, od 23 (.bin .add (tm 22) (ki 1)), om 5 23] [kp [1, 2, 5, 6] []])
 .skip))) (.reg [om 12 6, od 13 (.bin .add (tm 12) (ki 1)), om 6 13] [kp [1, 2, 5, 6] []]))) [kp [1, 2, 5, 6] []]
def P1 : IC := .loop q1M
abbrev q1N : IC := (.seq (.reg [od 2 (.box true (tm 0)), od 4 (.mv (ki 0))] [kp [1, 2] []]) (.seq (.reg [od 5 (.mv (ki 0))] [kp [1, 2, 5] []]) (.seq (.seq (.reg [od 6 (.mv (ki 0))] [kp [1, 2, 5, 6] []]) (.block 0 P1)) (.seq (.reg [om 24
 5, om 4 24] [kp [4] []]) .ret))))
theorem W9 (h : ∀ K : St → Prop, K = run P Γ P1 Q → run P Γ q1M (Ao K Q) s) : run P Γ P1 Q s := Ad h
def q1O : List RV := [.tmp 4]
/- (probecard/probecardlaw06.P).Of (function 44) -/
abbrev q2a : IC := (.seq (.reg [od 2 (.box true (tm 0)), od 3 (.box true (tm 1)), od 4 (.alloc false [(.slice none 0 0), (.slice none 0 0)])] [kp [2, 3, 4] [4, 9019, 14019]]) (.seq (.reg [od 5 (fa 0 2), od 6 (.ldT 1 false (tm 5)), od 7 (.ldT 4 true
 (tm 3)), od 8 (.callT 82 [(tm 7), (ku 0)]), od 9 (.ncall 81 [(tm 6), (tm 8), (ku 4)] 9000), od 10 (fa 1 2), od 11 (.ldT 1 false (tm 10)), od 12 (.ldT 4 true (tm 3)), od 13 (.callT 82 [(tm 12), (ku 14)]), od 14 (.ncall 81 [(tm 11),
 (tm 13), (ku 3)] 14000), od 15 (.build [(1, (tm 9)), (1, (tm 14))]), on (.stR 4 2 (tm 4) (tm 15))] [kp [4] [4, 9019, 14019]]) .ret))
def q2b : List RV := [.cell 4 2 true]
/- probecard/probecardlaw06.Same (function 16) -/
abbrev q2c : IC := .gh (.seq (.reg [od 12 (.bin .lss (tm 11) (tm 10))] [kp [3, 9, 10, 11, 12] [8]]) (.seq (.cond (tm 12) .skip (.exit 0)) (.seq (.block 1 (.seq (.reg [om 13 11, od 14 (ia 1 9 11), od 15 (ld 1 14), om 4 13, om 5 15] [kp [3, 4, 5, 9,
 10, 11] [8]]) (.reg [om 16 3, om 17 4, om 18 5, od 19 (.call 133 [(tm 18)]), od 20 (.idxS (.const (sV [48, 49, 88, 90])) (tm 19)), od 21 (ia 1 16 17), on (.store 1 (tm 21) (tm 20))] [kp [3, 9, 10, 11] [8]]))) (.reg [od 22 (.bin
 .add (tm 11) (ki 1)), om 11 22] [kp [3, 9, 10, 11] [8]])))) [kp [3, 9, 10, 11] [8]]
def Rl : IC := .loop q2c
abbrev q2d : IC := (.seq (.reg [od 2 (.mv (.const (sV [])))] [kp [0] []]) (.seq (.reg [om 6 0, od 7 (le 0 6), od 8 (.mk 5 1 [(.int .u8 0)] (tm 7) (tm 7)), om 3 8] [kp [0, 3] [8]]) (.seq (.seq (.reg [om 9 0, od 10 (le 0 9), od 11 (.mv (ki 0))] [kp [3,
 9, 10, 11] [8]]) (.block 0 Rl)) (.seq (.reg [om 23 3, od 24 (.bytesStr (tm 23)), om 2 24] [kp [2] []]) .ret))))
theorem Xn (h : ∀ K : St → Prop, K = run P Γ Rl Q → run P Γ q2c (Ao K Q) s) : run P Γ Rl Q s := Ad h
def q2e : List RV := [.tmp 2]
/- probecard/logic.Parse (function 139) -/
abbrev q1P : IC := .gh (.seq (.reg [od 13 (.bin .lss (tm 12) (tm 11))] [kp [0, 4, 11, 12, 13] [9]]) (.seq (.cond (tm 13) .skip (.exit 0)) (.seq (.block 1 (.seq (.reg [om 14 12, om 5 14] [kp [0, 4, 5, 11, 12] [9]]) (.seq (.reg [om 15 0, om 16 5, od 17
 (.idxS (tm 15) (tm 16)), od 18 (.call 162 [(.const (sV [48, 49, 88, 90])), (tm 17)]), om 6 18] [kp [0, 4, 5, 6, 11, 12] [9]]) (.seq (.seq (.reg [om 19 6, od 20 (.bin .lss (tm 19) (ki 0))] [kp [0, 4, 5, 6, 11, 12, 20] [9]]) (.cond
 (tm 20) (.seq (.reg [od 2 (.mv kN), od 3 (.mv (ki 4))] [kp [2, 3] [9]]) .ret) .skip)) (.reg [om 21 4, om 22 5, om 23 6, od 24 (.conv .u8 (tm 23)), od 25 (ia 1 21 22), on (.store 1 (tm 25) (tm 24))] [kp [0, 4, 11, 12] [9]])))))
 (.reg [od 26 (.bin .add (tm 12) (ki 1)), om 12 26] [kp [0, 4, 11, 12] [9]])))) [kp [0, 4, 11, 12] [9]]
def P2 : IC := .loop q1P
abbrev q1Q : IC := (.seq (.reg [od 2 (.mv kN), od 3 (.mv (ki 0))] [kp [0] []]) (.seq (.reg [om 7 0, od 8 (le 1 7), od 9 (.mk 64 1 [(.int .u8 0)] (tm 8) (tm 8)), om 4 9] [kp [0, 4] [9]]) (.seq (.seq (.reg [om 10 0, od 11 (le 1 10), od 12 (.mv (ki 0))]
 [kp [0, 4, 11, 12] [9]]) (.block 0 P2)) (.seq (.reg [om 27 4, om 2 27, od 3 (.mv (ki 0))] [kp [2, 3] [9]]) .ret))))
theorem Wa (h : ∀ K : St → Prop, K = run P Γ P2 Q → run P Γ q1P (Ao K Q) s) : run P Γ P2 Q s := Ad h
def q1R : List RV := [.tmp 2, .tmp 3]
end
end Go.Lg
namespace Go.Lg
open Go Go.Proofs
theorem q5r : Aq Tryz.prog 81 q1K 33 3 q1L = true := by kernel_rfl
theorem q5s : Aq Tryz.prog 82 q1N 25 2 q1O = true := by kernel_rfl
theorem q76 : Aq Tryz.prog 44 q2a 16 2 q2b = true := by kernel_rfl
theorem q77 : Aq Tryz.prog 64 q2d 25 1 q2e = true := by kernel_rfl
theorem q5t : Aq Tryz.prog 139 q1Q 28 1 q1R = true := by kernel_rfl
end Go.Lg
namespace Go.Lg
open Go Go.Proofs
variable {Γ : Tables}
theorem qA8 {ks : List Int} {c : B1} {i : Nat} (hi : i < c.nodes.l.length) : K9 ks (c.nodes.l.take (i + 1)) 0 = K9 ks (c.nodes.l.take i) 0 ++ if ks.contains (Ar c i) then [(i : Int)] else [] := by
 have hk : Ar c i = c.nodes.l[i].k := by simp [Ar, hi]
 rw [List.take_add_one, List.getElem?_eq_getElem hi, q3n, hk]
 have : (c.nodes.l.take i).length = i := by rw [List.length_take]; omega
 rw [this]
 simp [K9]
theorem q78 {Q : AX → St → Prop} (c : B1) (hc : COk c) (k : Int)
  (h0 : Q (.exit 0) ⟨[(1, .t (tK k)), (2, .t (.ip (tC c) 0)), (5, .t (tI (K9 [k] c.nodes.l 0).length)), (6, .t (tI c.nodes.l.length)), (11, .t (tB false))], []⟩) : ∀ (f i : Nat), f + i = c.nodes.l.length →
  run Tryz.prog Γ P1 Q ⟨[(1, .t (tK k)), (2, .t (.ip (tC c) 0)), (5, .t (tI (K9 [k] (c.nodes.l.take i) 0).length)), (6, .t (tI i))], []⟩
 | 0, i, h => by
  refine W9 fun K hK => ?_
  have h2 : i = c.nodes.l.length := by omega
  subst h2
  rw [List.take_length]
  simp [tC, A7, Ac, Af, Bo, Aa]
  simpa [tC, A7, Ac, Af, Bo] using h0
 | f + 1, i, h => by
  refine W9 fun K hK => ?_
  have h2 : i < c.nodes.l.length := by omega
  have hn := hc.nodes
  have ih := q78 c hc k h0 f (i + 1) (by omega)
  rw [qA8 h2] at ih
  have hget := q75 (c := c) (n := (i : Int)) (by omega) (by omega)
  have hk : (nd c i).k = Ar c i := by simp [nd, Ar]
  simp only [Int.toNat_natCast] at hget
  have hle := Up [k] (c.nodes.l.take i) 0
  rw [List.length_take] at hle
  generalize nd c i = x at *
  by_cases h1 : x.k = k
  ·have hkk : [k].contains (Ar c i) = true := by rw [← hk, h1]; simp
   rw [hkk, if_pos rfl, List.length_append] at ih
   simp (disch := omega) [tC, A7, Ac, Af, Bo, Aa, h2, Bl, hget, Gq, h1, A4]
   rw [hK]
   simpa [tC, A7, Ac, Af, Bo] using ih
  ·have hkk : [k].contains (Ar c i) = false := by rw [← hk]; simp; exact h1
   rw [hkk, if_neg (by simp), List.append_nil] at ih
   simp (disch := omega) [tC, A7, Ac, Af, Bo, Aa, h2, Bl, hget, Gq, h1, A4]
   rw [hK]
   simpa [tC, A7, Ac, Af, Bo] using ih
theorem q79 (c : B1) (hc : COk c) (k : Int) : A3 Tryz.prog Γ 82 [.agg (tC c), tK k] (tI (K9 [k] c.nodes.l 0).length) := by
 refine A6 q5s rfl ?_
 have g := fun Q h0 => q78 (Γ := Γ) (Q := Q) c hc k h0 c.nodes.l.length 0 (by omega)
 simp [q1N, tC, A7, Ac, Af, Bo]
 refine g _ ?_
 simp [q1O, Ap]
def q1S (l : List Int) (n : Nat) (most : Int) : List Int := (List.range' 0 n).map fun i => if l = [] then 2 else (l.getD (i % l.length) 0).tmod most
theorem q7A {l : List Int} {n : Nat} {most : Int} : (q1S l n most).length = n := by simp [q1S]
theorem q3I {Q : AX → St → Prop} (l : Sl Int) (n : Nat) (hn : n ≤ 1000000000) (most : Int) (hm : 0 < most) (R : List Int)
  (h0 : Q (.exit 0) ⟨[(0, .t (tV l)), (1, .t (tI n)), (2, .t (tK most)), (7, .ls 19 0 n none), (8, .t (tI n)), (11, .t (tB false))], [(19, .sl 64 1 (Ag R))]⟩) : ∀ (k i : Nat) (out : List Int), k + i = n → out.length = i → out ++ (List.range' i k).map (fun i => if l.l = [] then 2 else (l.l.getD (i % l.l.length) 0).tmod most) = R →
  run Tryz.prog Γ P0 Q ⟨[(0, .t (tV l)), (1, .t (tI n)), (2, .t (tK most)), (7, .ls 19 0 i none), (8, .t (tI i))], [(19, .sl 64 1 (Ag out))]⟩
 | 0, i, out, h, hi, hR => by
  refine W8 fun K hK => ?_
  have h2 : i = n := by omega
  subst h2
  simp only [List.range'_zero, List.map_nil, List.append_nil] at hR
  subst hR
  simp
  exact h0
 | k + 1, i, out, h, hi, hR => by
  refine W8 fun K hK => ?_
  have h2 : i < n := by omega
  rw [List.range'_succ, List.map_cons] at hR
  have vt : (Ag out).take i = Ag out := by rw [← hi]; exact D1
  by_cases h1 : l.l = []
  ·have ih := q3I l n hn most hm R h0 k (i + 1) (out ++ [2]) (by omega) (by simp [hi]) (by rw [← hR]; simp [h1])
   have vs := O3 (l := out) (v := 2)
   simp (disch := omega) [h2, tV, A1, h1, A4, vt, vs, hi]
   refine ⟨by omega, ?_⟩
   rw [hK]
   simpa [tV, h1] using ih
  ·have hpos : 0 < l.l.length := List.length_pos_iff.2 h1
   have hlt : i % l.l.length < l.l.length := Nat.mod_lt _ hpos
   have hmod : (i : Int).tmod (l.l.length : Int) = ((i % l.l.length : Nat) : Int) := by rw [Int.natCast_emod]; exact Int.tmod_eq_emod_of_nonneg (by omega)
   rw [if_neg h1] at hR
   have e := ge1 (f := tK) hlt
   generalize hj : i % l.l.length = j at *
   generalize l.l.getD j 0 = v at *
   have ih := q3I l n hn most hm R h0 k (i + 1) (out ++ [v.tmod most]) (by omega) (by simp [hi]) (by rw [← hR]; simp)
   have vs := O3 (l := out) (v := v.tmod most)
   have hne : ¬ (l.l.length : Int) = 0 := by omega
   have hm0 : ¬ most = 0 := by omega
   simp (disch := omega) [h2, tV, A1, A5, h1, hne, hm0, hmod, hlt, e, A4, vt, vs, hi, -Int.natCast_emod]
   refine ⟨by omega, ?_⟩
   rw [hK]
   simpa [tV] using ih
theorem qCD (l : Sl Int) (n : Nat) (hn : n ≤ 1000000000) (most : Int) (hm : 0 < most) : Fe Tryz.prog Γ 81 [] [.t (tV l), .t (tI n), .t (tK most)] (.ls 19 0 n none) [(19, .sl 64 1 (Ag (q1S l.l n most)))] := by
 refine Hg q5r rfl ?_
 have g := fun Q h0 => q3I (Γ := Γ) (Q := Q) l n hn most hm (q1S l.l n most) h0 n 0 [] (by omega) rfl (by simp [q1S])
 simp [q1K]
 refine g _ ?_
 simp [q1L]
def chV (v : Int) : Int := if v = 0 then 48 else if v = 1 then 49 else if v = 2 then 88 else 90
def q2f (l : List Int) : List UInt8 := l.map fun v => UInt8.ofNat (chV (Dl v)).toNat
theorem q8L {Q : AX → St → Prop} (l : Sl Int) (hl : l.l.length ≤ 1000000000) (hv : ∀ v ∈ l.l, 0 ≤ v) (R : List Int)
  (h0 : Q (.exit 0) ⟨[(3, .ls 8 0 l.l.length none), (9, .t (tV l)), (10, .t (tI l.l.length)), (11, .t (tI l.l.length)), (12, .t (tB false))], [(8, .sl 5 1 (Ag R))]⟩) : ∀ (k i : Nat), k + i = l.l.length → R = l.l.map (fun v => chV (Dl v)) →
  run Tryz.prog Γ Rl Q ⟨[(3, .ls 8 0 l.l.length none), (9, .t (tV l)), (10, .t (tI l.l.length)), (11, .t (tI i))], [(8, .sl 5 1 (Ag (R.take i ++ List.replicate (l.l.length - i) 0)))]⟩
 | 0, i, h, hR => by
  refine Xn fun K hK => ?_
  have h2 : i = l.l.length := by omega
  have h3 : R.length = l.l.length := by rw [hR]; simp
  subst h2
  rw [← h3, List.take_length, h3, Nat.sub_self, List.replicate_zero, List.append_nil]
  simp
  exact h0
 | k + 1, i, h, hR => by
  refine Xn fun K hK => ?_
  have h2 : i < l.l.length := by omega
  have h3 : R.length = l.l.length := by rw [hR]; simp
  have ih := q8L l hl hv R h0 k (i + 1) (by omega) hR
  have e1 := ge1 (f := tK) h2
  have hv0 := hv (l.l.getD i 0) (by rw [Bg h2]; exact List.getElem_mem h2)
  have hRi : R.getD i 0 = chV (Dl (l.l.getD i 0)) := by rw [hR, Bg h2]; simp [List.getD_eq_getElem?_getD, h2]
  have hset : ∀ v, v = R.getD i 0 → (Ag (R.take i ++ List.replicate (l.l.length - i) 0)).set i [tK v] = Ag (R.take (i + 1) ++ List.replicate (l.l.length - (i + 1)) 0) := by
   rintro v rfl
   show (A9 tK _).set i [tK _] = A9 tK _
   rw [Gj]
   congr 1
   have e : l.l.length - i = (l.l.length - (i + 1)) + 1 := by omega
   have ht : (R.take i).length = i := by rw [List.length_take]; omega
   have hri : i < R.length := by omega
   have hta : R.take (i + 1) = R.take i ++ [R.getD i 0] := by rw [List.take_add_one, List.getElem?_eq_getElem hri, Bg hri]; rfl
   rw [e, List.replicate_succ, List.set_append, if_neg (by rw [ht]; omega), ht, Nat.sub_self, hta]
   simp
  have hlen : (Ag (R.take i ++ List.replicate (l.l.length - i) 0)).length = l.l.length := by rw [A1]; simp; omega
  generalize Ag (R.take i ++ List.replicate (l.l.length - i) 0) = E at *
  generalize l.l.getD i 0 = v at *
  have hc4 : Dl v = 0 ∨ Dl v = 1 ∨ Dl v = 2 ∨ Dl v = 3 := by unfold Dl; split <;> omega
  simp (disch := omega) [h2, tV, A1, A5, e1, A4]
  refine A0 (W2 v) rfl ?_
  have hch : (ByteArray.mk #[48, 49, 88, 90]).size = 4 := rfl
  have hb : ∀ q : Int, Dl v = q → (0 ≤ q ∧ q < 4) := fun q hq => by omega
  generalize Dl v = w at *
  have hval : ((([48, 49, 88, 90] : List UInt8)[w.toNat]?.getD 0).toNat : Int) = chV w := by
   rcases hc4 with rfl | rfl | rfl | rfl <;> rfl
  have hw := hb w rfl
  have hs := hset _ (hval.trans hRi.symm)
  simp (disch := omega) [h2, hlen, hs, A4, sV, hch, hw]
  rw [hK]
  simpa [tV] using ih
theorem q7B : ∀ (l : List Int), (∀ v ∈ l, 0 ≤ v ∧ v < 256) → Ly (Ag l) = some (l.map fun v => UInt8.ofNat v.toNat)
 | [], _ => rfl
 | v :: l, h => by
  have ih := q7B l fun u hu => h u (List.mem_cons_of_mem _ hu)
  have hv := h v List.mem_cons_self
  show (Ly (Ag l)).map _ = _
  rw [ih]; rfl
theorem q8M (l : Sl Int) (hl : l.l.length ≤ 1000000000) (hv : ∀ v ∈ l.l, 0 ≤ v) : A3 Tryz.prog Γ 64 [tV l] (tS (q2f l.l)) := by
 refine A6 q77 rfl ?_
 have g := fun Q h0 => q8L (Γ := Γ) (Q := Q) l hl hv (l.l.map fun v => chV (Dl v)) h0 l.l.length 0 (by omega) rfl
 have hz : List.replicate l.l.length [T.v (Value.int .u8 0)] = Ag (([] : List Int) ++ List.replicate (l.l.length - 0) 0) := by simp [A9]
 have hlen : (l.l.map fun v => chV (Dl v)).length = l.l.length := by simp
 have hR : Ly (Ag (l.l.map fun v => chV (Dl v))) = some (q2f l.l) := by
  rw [q7B]
  ·simp [q2f]
  ·intro v hv'
   obtain ⟨u, _, rfl⟩ := List.mem_map.1 hv'
   unfold chV; split; omega; split; omega; split <;> omega
 have htk : (Ag (l.l.map fun v => chV (Dl v))).take l.l.length = Ag (l.l.map fun v => chV (Dl v)) := by rw [← hlen]; exact D1
 rw [List.take_zero] at g
 generalize Ag (l.l.map fun v => chV (Dl v)) = E at *
 simp (disch := omega) [q2d, tV, A1, A4]
 refine ⟨by omega, ?_⟩
 rw [hz]
 refine g _ ?_
 simp [q2e, Ap, htk, hR, tS, sV]
structure PD where
 i : Sl Int
 s : Sl Int
def tPD (q : PD) : List T := [tV q.i, tV q.s]
def q8q (q : PD) : Prop := (∀ v ∈ q.i.l, Byt v) ∧ ∀ v ∈ q.s.l, Byt v
def qJc (q : PD) (c : B1) : List Int := q1S q.i.l (Bz c).length 4
def qJd (q : PD) (c : B1) : List Int := q1S q.s.l (Av c).length 3
def q5U (q : PD) (c : B1) : Pat := ⟨⟨qJc q c, none, none⟩, ⟨qJd q c, none, none⟩⟩
def Qq (b : UInt8) : Int := if b = 48 then 0 else if b = 49 then 1 else if b = 88 then 2 else 3
def v1 (v : Int) : Sl Int := ⟨[v], none, none⟩
end Go.Lg
namespace Go.Lg
open Go Go.Proofs Go.Proofs.YthgiocdefejbiaaGreatDoor
theorem qCE : Tryz.prog.cellsOf 31 = 2 := by kernel_rfl
theorem q8r : Rd Tryz.prog 25 fun ts => ∃ s : Sl Int, ts = [tV s] ∧ ∀ b ∈ s.l, Byt b := by
 refine (q6f Tryz.underlying25 q13 (by decide) q9u).mono fun ts ⟨es, cap, nl, h, _, hes⟩ => ?_
 obtain ⟨l, rfl, hl⟩ := q69 (f := fun n : Int => [tK n]) (Q := Byt) fun x hx => (hes x hx).1
 exact ⟨⟨l, cap, nl⟩, h, hl⟩
theorem qJe : Rd Tryz.prog 31 fun ts => ∃ q, ts = tPD q ∧ q8q q := by
 refine (Yx (l := [(1, fun ts => ∃ s : Sl Int, ts = [tV s] ∧ ∀ b ∈ s.l, Byt b), (1, fun ts => ∃ s : Sl Int, ts = [tV s] ∧ ∀ b ∈ s.l, Byt b)]) Tryz.underlying31 qCE
  (.cons rfl q68 q8r (.cons rfl q68 q8r (.nil _)))).mono fun ts h => ?_
 obtain ⟨_, _, rfl, ⟨a, rfl, ha⟩, _, _, rfl, ⟨b, rfl, hb⟩, rfl⟩ := h
 exact ⟨⟨a, b⟩, rfl, ha, hb⟩
end Go.Lg
namespace Go.Proofs.YthgiocdefejbiaaGreatDoor
open Go Go.Lg Go.ChangeShapes Go.WideShapes Go.ChangeAt Go.RowKit
end Go.Proofs.YthgiocdefejbiaaGreatDoor
namespace Go.Lg
open Go
section
variable {P : Program} {Γ : Tables} {Q : AX → St → Prop} {s : St}
/- probecard/memories.matches (function 122) -/
abbrev U5 : IC := .gh (.seq (.reg [od 10 (.bin .lss (tm 9) (tm 8))] [kp [0, 7, 8, 9, 10] []]) (.seq (.cond (tm 10) .skip (.exit 0)) (.seq (.block 1 (.seq (.reg [od 11 (ia 1 7 9), od 12 (ld 1 11), om 6 12] [kp [0, 6, 7, 8, 9] []]) (.seq (.seq (.reg
 [om 13 6, od 14 (.call 29 [(tm 13)]), om 15 14, oT 16 (.mv (tm 6)) 15, oT 17 (.conv .i64 (tm 16)) 15, oT 18 (.mv (tm 0)) 15, oT 19 (.bin .and (tm 18) (ki 1)) 15, oT 20 (.bin .neq (tm 17) (tm 19)) 15, od 21 (.pick (tm 15) (tm 20)
 kF)] [kp [0, 7, 8, 9, 21] []]) (.cond (tm 21) (.seq (.reg [od 4 (.mv kF)] [kp [4] []]) .ret) .skip)) (.reg [om 22 0, od 23 (.bin .shr (tm 22) (.const (.int .u64 1))), om 0 23] [kp [0, 7, 8, 9] []])))) (.reg [od 24 (.bin .add (tm 9)
 (ki 1)), om 9 24] [kp [0, 7, 8, 9] []])))) [kp [0, 7, 8, 9] []]
def H9 : IC := .loop U5
abbrev U6 : IC := (.seq (.reg [od 4 (.mv kF)] [kp [0, 1] []]) (.seq (.seq (.reg [om 7 1, od 8 (le 0 7), od 9 (.mv (ki 0))] [kp [0, 7, 8, 9] []]) (.block 0 H9)) (.seq (.reg [om 25 0, od 26 (.bin .eql (tm 25) (ki 0)), om 4 26] [kp [4]
 []]) .ret)))
theorem O4 (h : ∀ K : St → Prop, K = run P Γ H9 Q → run P Γ U5 (Ao K Q) s) : run P Γ H9 Q s := Ad h
def Lh : List RV := [.tmp 4]
/- probecard/memories.bit (function 123) -/
abbrev Tm : IC := (.seq (.reg [od 4 (.mv (ku 0))] [kp [0, 1] []]) (.seq (.seq (.reg [om 5 1, om 6 0, od 7 (le 0 6), od 8 (.bin .geq (tm 5) (tm 7))] [kp [0, 1, 8] []]) (.cond (tm 8) (.seq (.reg [od 4 (.mv (ku 2))] [kp [4] []]) .ret) .skip)) (.seq
 (.reg [om 9 0, om 10 1, od 11 (ia 1 9 10), od 12 (ld 1 11), od 13 (.call 114 [(tm 12)]), om 4 13] [kp [4] []]) .ret)))
def Tn : List RV := [.tmp 4]
/- probecard/memories.common (function 124) -/
abbrev N5 : IC := (.seq (.reg [od 4 (.mv (ku 0))] [kp [0, 1] []]) (.seq (.seq (.reg [om 5 0, om 6 1, od 7 (.bin .neq (tm 5) (tm 6))] [kp [0, 7] []]) (.cond (tm 7) (.seq (.reg [od 4 (.mv (ku 2))] [kp [4] []]) .ret) .skip)) (.seq (.reg [om 8 0, om 4
 8] [kp [4] []]) .ret)))
def N6 : List RV := [.tmp 4]
/- probecard/memories.Look (function 54) -/
abbrev Zd : IC := .gh (.seq (.reg [od 32 (.bin .lss (tm 31) (tm 30))] [kp [1, 5, 6, 8, 18, 19, 20, 30, 31, 32] [22030]]) (.seq (.cond (tm 32) .skip (.exit 2)) (.seq (.block 3 (.seq (.reg [om 33 31, om 9 33] [kp [1, 5, 6, 8, 9, 18, 19, 20, 30, 31]
 [22030]]) (.seq (.reg [om 34 6] [kp [1, 5, 6, 8, 9, 18, 19, 20, 30, 31, 34] [22030]]) (.cond (tm 34) (.reg [om 35 5, om 36 9, om 37 8, om 38 9, od 39 (.call 123 [(tm 37), (tm 38)]), od 40 (ia 1 35 36), on (.store 1 (tm 40) (tm
 39))] [kp [1, 5, 6, 8, 18, 19, 20, 30, 31] [22030]]) (.reg [om 41 5, om 42 9, om 43 5, om 44 9, od 45 (ia 1 43 44), od 46 (.ldR 22030 1 false (tm 45)), om 47 8, om 48 9, od 49 (.call 123 [(tm 47), (tm 48)]), od 50 (.call 124 [(tm
 46), (tm 49)]), od 51 (ia 1 41 42), on (.stR 22030 1 (tm 51) (tm 50))] [kp [1, 5, 6, 8, 18, 19, 20, 30, 31] [22030]]))))) (.reg [od 52 (.bin .add (tm 31) (ki 1)), om 31 52] [kp [1, 5, 6, 8, 18, 19, 20, 30, 31] [22030]])))) [kp [1,
 5, 6, 8, 18, 19, 20, 30, 31] [22030]]
def Kq : IC := .loop Zd
abbrev Ze : IC := .gh (.seq (.reg [od 21 (.bin .lss (tm 20) (tm 19))] [kp [1, 5, 6, 18, 19, 20, 21] [22030]]) (.seq (.cond (tm 21) .skip (.exit 0)) (.seq (.block 1 (.seq (.reg [om 22 20, od 23 (ia 1 18 20), od 24 (ld 1 23), om 7 22, om 8 24] [kp [1,
 5, 6, 7, 8, 18, 19, 20] [22030]]) (.seq (.seq (.reg [om 25 7, om 26 1, od 27 (.call 122 [(tm 25), (tm 26)]), od 28 (.un .not (tm 27))] [kp [1, 5, 6, 8, 18, 19, 20, 28] [22030]]) (.cond (tm 28) (.exit 1) .skip)) (.seq (.seq (.reg
 [om 29 5, od 30 (le 0 29), od 31 (.mv (ki 0))] [kp [1, 5, 6, 8, 18, 19, 20, 30, 31] [22030]]) (.block 2 Kq)) (.reg [od 6 (.mv kF)] [kp [1, 5, 6, 18, 19, 20] [22030]]))))) (.reg [od 53 (.bin .add (tm 20) (ki 1)), om 20
 53] [kp [1, 5, 6, 18, 19, 20] [22030]])))) [kp [1, 5, 6, 18, 19, 20] [22030]]
def Kr : IC := .loop Ze
abbrev Qr : IC := (.seq (.reg [od 4 (.mv kN)] [kp [0, 1] []]) (.seq (.seq (.reg [om 10 0, od 11 (le 0 10), od 12 (.bin .eql (tm 11) (ki 0))] [kp [0, 1, 12] []]) (.cond (tm 12) (.seq (.reg [od 4 (.mv kN)] [kp [4] [22030]]) .ret) .skip)) (.seq (.reg
 [om 13 0, od 14 (.iadr 1 (tm 13) (ki 0)), od 15 (ld 1 14), od 16 (le 0 15), od 17 (.ncall 76 [(tm 16)] 17000), om 5 17] [kp [0, 1, 5] [22030]]) (.seq (.reg [od 6 (.mv kT)] [kp [0, 1, 5, 6] [22030]]) (.seq (.seq (.reg [om 18 0, od
 19 (le 0 18), od 20 (.mv (ki 0))] [kp [1, 5, 6, 18, 19, 20] [22030]]) (.block 0 Kr)) (.seq (.reg [om 54 5, om 4 54] [kp [4] [22030]]) .ret))))))
theorem Si (h : ∀ K : St → Prop, K = run P Γ Kq Q → run P Γ Zd (Ao K Q) s) : run P Γ Kq Q s := Ad h
theorem Sj (h : ∀ K : St → Prop, K = run P Γ Kr Q → run P Γ Ze (Ao K Q) s) : run P Γ Kr Q s := Ad h
def Qs : List RV := [.tmp 4]
/- probecard/memories.Store (function 55) -/
abbrev Xo : IC := .gh (.seq (.reg [od 51 (.bin .lss (tm 50) (tm 49))] [kp [1, 2, 3, 9, 10, 11, 12, 26, 27, 28, 49, 50, 51] [25, 37]]) (.seq (.cond (tm 51) .skip (.exit 2)) (.seq (.block 3 (.seq (.reg [om 52 50, om 13 52] [kp [1, 2, 3, 9, 10, 11, 12,
 13, 26, 27, 28, 49, 50] [25, 37]]) (.seq (.reg [om 53 12, om 54 13, od 55 (.call 123 [(tm 53), (tm 54)]), om 56 2, om 57 13, od 58 (.call 123 [(tm 56), (tm 57)]), om 14 55, om 15 58] [kp [1, 2, 3, 9, 10, 11, 12, 13, 14, 15, 26, 27,
 28, 49, 50] [25, 37]]) (.block 4 (.seq (.reg [om 69 3, od 70 (.bin .eql (tm 69) (ku 0)), om 71 70, oF 72 (.mv (tm 11)) 71, oF 73 (.mv (tm 1)) 71, oF 74 (.call 122 [(tm 72), (tm 73)]) 71, oF 75 (.un .not (tm 74)) 71, od 76 (.pick
 (tm 71) kT (tm 75)), om 68 76] [kp [1, 2, 3, 9, 10, 11, 12, 13, 14, 15, 26, 27, 28, 49, 50, 68] [25, 37]]) (.cond (tm 68) (.reg [om 77 10, om 78 11, od 79 (ia 1 77 78), od 80 (ld 1 79), om 81 13, om 82 14, od 83 (ia 1 80 81), on
 (.store 1 (tm 83) (tm 82))] [kp [1, 2, 3, 9, 10, 11, 12, 26, 27, 28, 49, 50] [25, 37]]) (.seq (.reg [om 85 9, om 84 85] [kp [1, 2, 3, 9, 10, 11, 12, 13, 14, 15, 26, 27, 28, 49, 50, 84] [25, 37]]) (.cond (tm 84) (.reg [om 86 10, om
 87 11, od 88 (ia 1 86 87), od 89 (ld 1 88), om 90 13, om 91 15, od 92 (ia 1 89 90), on (.store 1 (tm 92) (tm 91))] [kp [1, 2, 3, 9, 10, 11, 12, 26, 27, 28, 49, 50] [25, 37]]) (.reg [om 59 10, om 60 11, od 61 (ia 1 59 60), od 62
 (.ldR 25 1 false (tm 61)), om 63 13, om 64 14, om 65 15, od 66 (.call 124 [(tm 64), (tm 65)]), od 67 (ia 1 62 63), on (.stR 37 1 (tm 67) (tm 66))] [kp [1, 2, 3, 9, 10, 11, 12, 26, 27, 28, 49, 50] [25, 37]]))))))))) (.reg [od 93
 (.bin .add (tm 50) (ki 1)), om 50 93] [kp [1, 2, 3, 9, 10, 11, 12, 26, 27, 28, 49, 50] [25, 37]])))) [kp [1, 2, 3, 9, 10, 11, 12, 26, 27, 28, 49, 50] [25, 37]]
def Jh : IC := .loop Xo
abbrev Xp : IC := .gh (.seq (.reg [od 29 (.bin .lss (tm 28) (tm 27))] [kp [1, 2, 3, 9, 10, 26, 27, 28, 29] [25, 37]]) (.seq (.cond (tm 29) .skip (.exit 0)) (.seq (.block 1 (.seq (.reg [om 30 28, od 31 (ia 1 26 28), od 32 (ld 1 31), om 11 30, om 12
 32] [kp [1, 2, 3, 9, 10, 11, 12, 26, 27, 28] [25, 37]]) (.seq (.reg [om 33 10, om 34 11, om 35 12, od 36 (le 0 35), od 37 (.mk 64 1 [(.int .u8 0)] (tm 36) (tm 36)), od 38 (ia 1 33 34), on (.store 1 (tm 38) (tm 37))] [kp [1, 2, 3,
 9, 10, 11, 12, 26, 27, 28] [25, 37]]) (.seq (.reg [om 39 10, om 40 11, od 41 (ia 1 39 40), od 42 (ld 1 41), om 43 12, od 44 (.cpy 1 (tm 42) (tm 43))] [kp [1, 2, 3, 9, 10, 11, 12, 26, 27, 28] [25, 37]]) (.seq (.reg [om 45 10, om 46
 11, od 47 (ia 1 45 46), od 48 (ld 1 47), od 49 (le 0 48), od 50 (.mv (ki 0))] [kp [1, 2, 3, 9, 10, 11, 12, 26, 27, 28, 49, 50] [25, 37]]) (.block 2 Jh)))))) (.reg [od 94 (.bin .add (tm 28) (ki 1)), om 28 94] [.frz
 37, kp [1, 2, 3, 9, 10, 26, 27, 28] [25, 37]])))) [kp [1, 2, 3, 9, 10, 26, 27, 28] [25, 37]]
def Ji : IC := .loop Xp
abbrev P3 : IC := (.seq (.reg [od 8 (.mv kN)] [kp [0, 1, 2, 3] []]) (.seq (.reg [om 16 3, od 17 (.bin .eql (tm 16) (ku 1)), om 18 17, oT 19 (.mv (tm 1)) 18, oT 20 (.call 100 [(tm 19), (.func 125)]) 18, oT 21 (.un .not (tm 20)) 18, od 22 (.pick (tm
 18) (tm 21) kF), om 9 22] [kp [0, 1, 2, 3, 9] []]) (.seq (.reg [om 23 0, od 24 (le 0 23), od 25 (.mkB 41 [(.slice none 0 0)] (tm 24) (tm 24)), om 10 25] [kp [0, 1, 2, 3, 9, 10] [25, 37]]) (.seq (.seq (.reg [om 26 0, od 27 (le 0
 26), od 28 (.mv (ki 0))] [kp [1, 2, 3, 9, 10, 26, 27, 28] [25, 37]]) (.block 0 Ji)) (.seq (.reg [om 95 10, om 8 95] [kp [8] [25, 37]]) .ret)))))
theorem Q0 (h : ∀ K : St → Prop, K = run P Γ Jh Q → run P Γ Xo (Ao K Q) s) : run P Γ Jh Q s := Ad h
theorem Q1 (h : ∀ K : St → Prop, K = run P Γ Ji Q → run P Γ Xp (Ao K Q) s) : run P Γ Ji Q s := Ad h
def P4 : List RV := [.tmp 8]
/- probecard/memories.Store$1 (function 125) -/
abbrev U7 : IC := (.seq (.reg [od 2 (.mv kF)] [kp [0] []]) (.seq (.reg [om 3 0, od 4 (.call 29 [(tm 3)]), od 5 (.un .not (tm 4)), om 2 5] [kp [2] []]) .ret))
def U8 : List RV := [.tmp 2]
/- probecard/memories.unknown (function 76) -/
abbrev U9 : IC := (.seq (.reg [od 2 (.mv kN)] [kp [0] []]) (.seq (.reg [od 3 (.bsl true 64 1 [(ku 2)]), om 4 0, od 5 (.call 140 [(tm 3), (tm 4)]), om 2 5] [kp [2] []]) .ret))
def Ua : List RV := [.tmp 2]
/- (probecard/memories.machine).values (function 50) -/
abbrev K2 : IC := .gh (.seq (.reg [od 14 (.bin .lss (tm 13) (tm 12))] [kp [2, 5, 11, 12, 13, 14] [10]]) (.seq (.cond (tm 14) .skip (.exit 0)) (.seq (.block 1 (.seq (.reg [od 15 (ia 1 11 13), od 16 (ld 1 15), om 7 16] [kp [2, 5, 7, 11, 12, 13] [10]])
 (.reg [om 17 5, od 18 (fa 4 2), od 19 (ld 1 18), om 20 7, od 21 (ia 1 19 20), od 22 (ld 1 21), od 23 (.bsl true 64 1 [(tm 22)]), oz 24 (.app false 64 1 (tm 17) (tm 23)) 10, om 5 24] [kp [2, 5, 11, 12, 13] [10]]))) (.reg [od 25
 (.bin .add (tm 13) (ki 1)), om 13 25] [kp [2, 5, 11, 12, 13] [10]])))) [kp [2, 5, 11, 12, 13] [10]]
def Dw : IC := .loop K2
abbrev K3 : IC := (.seq (.reg [od 2 (.box true (tm 0)), od 4 (.mv kN)] [kp [1, 2] []]) (.seq (.reg [om 8 1, od 9 (le 0 8), od 10 (.mk 64 1 [(.int .u8 0)] (ki 0) (tm 9)), om 5 10] [kp [1, 2, 5] [10]]) (.seq (.seq (.reg [om 11 1, od 12 (le 0 11), od
 13 (.mv (ki 0))] [kp [2, 5, 11, 12, 13] [10]]) (.block 0 Dw)) (.seq (.reg [om 26 5, om 4 26] [kp [4] [10]]) .ret))))
theorem Hm (h : ∀ K : St → Prop, K = run P Γ Dw Q → run P Γ K2 (Ao K Q) s) : run P Γ Dw Q s := Ad h
def K4 : List RV := [.tmp 4]
/- (probecard/memories.machine).load (function 46) -/
abbrev Lr : IC := .gh (.seq (.reg [od 17 (.bin .lss (tm 16) (tm 15))] [kp [2, 3, 4, 14, 15, 16, 17] [3, 1000000]]) (.seq (.cond (tm 17) .skip (.exit 0)) (.seq (.block 1 (.seq (.reg [om 18 16, od 19 (ia 1 14 16), od 20 (ld 1 19), om 6 18, om 7 20]
 [kp [2, 3, 4, 6, 7, 14, 15, 16] [3, 1000000]]) (.reg [od 21 (fa 4 3), od 22 (.ldR 3 1 false (tm 21)), om 23 7, om 24 2, om 25 6, od 26 (ia 1 24 25), od 27 (.ldT 1 false (tm 26)), od 28 (ia 1 22 23), on (.stR 1000000 1 (tm 28) (tm
 27))] [kp [2, 3, 4, 14, 15, 16] [3, 1000000]]))) (.reg [od 29 (.bin .add (tm 16) (ki 1)), om 16 29] [kp [2, 3, 4, 14, 15, 16] [3, 1000000]])))) [kp [2, 3, 4, 14, 15, 16] [3, 1000000]]
def Eb : IC := .loop Lr
abbrev Ls : IC := .gh (.seq (.reg [od 35 (.bin .lss (tm 34) (tm 33))] [kp [3, 4, 32, 33, 34, 35] [3, 1000000]]) (.seq (.cond (tm 35) .skip (.exit 2)) (.seq (.block 3 (.seq (.reg [om 36 34, od 37 (ia 1 32 34), od 38 (ld 1 37), om 8 36, om 9 38] [kp
 [3, 4, 8, 9, 32, 33, 34] [3, 1000000]]) (.reg [od 39 (fa 4 3), od 40 (.ldR 3 1 false (tm 39)), om 41 9, od 42 (fa 0 4), od 43 (.ldT 1 false (tm 42)), om 44 8, od 45 (ia 1 43 44), od 46 (.ldT 1 false (tm 45)), od 47 (ia 1 40 41), on
 (.stR 1000000 1 (tm 47) (tm 46))] [kp [3, 4, 32, 33, 34] [3, 1000000]]))) (.reg [od 48 (.bin .add (tm 34) (ki 1)), om 34 48] [kp [3, 4, 32, 33, 34] [3, 1000000]])))) [kp [3, 4, 32, 33, 34] [3, 1000000]]
def Ec : IC := .loop Ls
abbrev Lt : IC := .gh (.seq (.reg [od 55 (.bin .lss (tm 54) (tm 53))] [kp [3, 4, 52, 53, 54, 55] [3, 1000000]]) (.seq (.cond (tm 55) .skip (.exit 4)) (.seq (.block 5 (.seq (.reg [od 56 (ia 1 52 54), od 57 (ld 1 56), om 11 57] [kp [3, 4, 11, 52, 53,
 54] [3, 1000000]]) (.reg [od 58 (fa 4 3), od 59 (.ldR 3 1 false (tm 58)), om 60 11, od 61 (fa 2 4), od 62 (.ldT 1 false (tm 61)), od 63 (fa 0 3), od 64 (fa 0 63), od 65 (.ldR 3 1 false (tm 64)), om 66 11, od 67 (ia 4 65 66), od 68
 (fa 2 67), od 69 (.ldT 1 false (tm 68)), od 70 (ia 1 62 69), od 71 (.ldT 1 false (tm 70)), od 72 (fa 0 3), od 73 (fa 0 72), od 74 (.ldR 3 1 false (tm 73)), om 75 11, od 76 (ia 4 74 75), od 77 (fa 3 76), od 78 (.ldT 1 false (tm
 77)), od 79 (ia 1 71 78), od 80 (.ldT 1 false (tm 79)), od 81 (ia 1 59 60), on (.stR 1000000 1 (tm 81) (tm 80))] [kp [3, 4, 52, 53, 54] [3, 1000000]]))) (.reg [od 82 (.bin .add (tm 54) (ki 1)), om 54 82] [kp [3, 4, 52, 53, 54] [3,
 1000000]])))) [kp [3, 4, 52, 53, 54] [3, 1000000]]
def Ed : IC := .loop Lt
abbrev Lu : IC := (.seq (.reg [od 3 (.box false (tm 0)), od 4 (.box true (tm 1))] [kp [2, 3, 4] [3, 1000000]]) (.seq (.seq (.reg [od 12 (fa 0 3), od 13 (lG 4 12), od 14 (.call 97 [(tm 13)]), od 15 (le 0 14), od 16 (.mv (ki 0))] [kp [2, 3, 4, 14, 15,
 16] [3, 1000000]]) (.block 0 Eb)) (.seq (.seq (.reg [od 30 (fa 0 3), od 31 (lG 4 30), od 32 (.call 31 [(tm 31)]), od 33 (le 0 32), od 34 (.mv (ki 0))] [kp [3, 4, 32, 33, 34] [3, 1000000]]) (.block 2
 Ec)) (.seq (.reg [od 49 (fa 0 3), od 50 (lG 4 49), od 51 (.bsl true 80 1 [(ku 15)]), od 52 (.call 90 [(tm 50), (tm 51)]), od 53 (le 0 52), od 54 (.mv (ki 0))] [kp [3, 4, 52, 53, 54] [3, 1000000]]) (.gh (.block
 4 Ed) [.keep [] [1000000]])))))
theorem Iy (h : ∀ K : St → Prop, K = run P Γ Eb Q → run P Γ Lr (Ao K Q) s) : run P Γ Eb Q s := Ad h
theorem Iz (h : ∀ K : St → Prop, K = run P Γ Ec Q → run P Γ Ls (Ao K Q) s) : run P Γ Ec Q s := Ad h
theorem J0 (h : ∀ K : St → Prop, K = run P Γ Ed Q → run P Γ Lt (Ao K Q) s) : run P Γ Ed Q s := Ad h
def Lx : List RV := []
/- probecard/memories.lists (function 109) -/
abbrev Xq : IC := .gh (.seq (.reg [od 16 (.bin .lss (tm 15) (tm 14))] [kp [3, 13, 14, 15, 16] [11]]) (.seq (.cond (tm 16) .skip (.exit 0)) (.seq (.block 1 (.seq (.reg [od 17 (ia 1 13 15), od 18 (ld 1 17), om 5 18] [kp [3, 5, 13, 14, 15] [11]]) (.reg
 [om 19 3, om 20 5, oz 21 (.app false 41 1 (tm 19) (tm 20)) 11, om 3 21] [kp [3, 13, 14, 15] [11]]))) (.reg [od 22 (.bin .add (tm 15) (ki 1)), om 15 22] [kp [3, 13, 14, 15] [11]])))) [kp [3, 13, 14, 15] [11]]
def Jj : IC := .loop Xq
abbrev Xr : IC := (.seq (.reg [od 1 (.box true (tm 0)), od 2 (.mv kN)] [kp [1] []]) (.seq (.reg [od 6 (fa 0 1), od 7 (ld 1 6), od 8 (.bsl true 41 1 [(tm 7)]), od 9 (fa 2 1), od 10 (ld 1 9), od 11 (.app false 41 1 (tm 8) (tm 10)), om 3 11] [kp [1, 3]
 [11]]) (.seq (.seq (.reg [od 12 (fa 1 1), od 13 (ld 1 12), od 14 (le 0 13), od 15 (.mv (ki 0))] [kp [3, 13, 14, 15] [11]]) (.block 0 Jj)) (.seq (.reg [om 23 3, om 2 23] [kp [2] [11]]) .ret))))
theorem Q2 (h : ∀ K : St → Prop, K = run P Γ Jj Q → run P Γ Xq (Ao K Q) s) : run P Γ Jj Q s := Ad h
def Xs : List RV := [.tmp 2]
/- probecard/memories.lists (function 109) -/
abbrev Wb : IC := .gh (.seq (.reg [od 16 (.bin .lss (tm 15) (tm 14))] [kp [3, 13, 14, 15, 16] [21]]) (.seq (.cond (tm 16) .skip (.exit 0)) (.seq (.block 1 (.seq (.reg [od 17 (ia 1 13 15), od 18 (ld 1 17), om 5 18] [kp [3, 5, 13, 14, 15] [21]]) (.reg
 [om 19 3, om 20 5, od 21 (.app false 41 1 (tm 19) (tm 20)), om 3 21] [kp [3, 13, 14, 15] [21]]))) (.reg [od 22 (.bin .add (tm 15) (ki 1)), om 15 22] [kp [3, 13, 14, 15] [21]])))) [kp [3, 13, 14, 15] [21]]
def N7 : IC := .loop Wb
abbrev Wc : IC := (.seq (.reg [od 1 (.box true (tm 0)), od 2 (.mv kN)] [kp [1] []]) (.seq (.reg [od 6 (fa 0 1), od 7 (ld 1 6), od 8 (.bsl true 41 1 [(tm 7)]), od 9 (fa 2 1), od 10 (ld 1 9), od 11 (.appT 41 1 (tm 8) (tm 10)), om 3 11] [kp [1, 3]
 [21]]) (.seq (.seq (.reg [od 12 (fa 1 1), od 13 (ld 1 12), od 14 (le 0 13), od 15 (.mv (ki 0))] [kp [3, 13, 14, 15] [21]]) (.block 0 N7)) (.seq (.reg [om 23 3, om 2 23] [kp [2] [21]]) .ret))))
theorem q07 (h : ∀ K : St → Prop, K = run P Γ N7 Q → run P Γ Wb (Ao K Q) s) : run P Γ N7 Q s := Ad h
def We : List RV := [.tmp 2]
/- probecard/memories.unknown (function 76) -/
abbrev Sr : IC := (.seq (.reg [od 2 (.mv kN)] [kp [0] []]) (.seq (.reg [od 3 (.bsl true 64 1 [(ku 2)]), om 4 0, od 5 (.ncall 140 [(tm 3), (tm 4)] 5000), om 2 5] [kp [2] [5030]]) .ret))
def Ss : List RV := [.tmp 2]
/- probecard/memories.fits (function 108) -/
abbrev Zf : IC := .gh (.seq (.reg [od 37 (.bin .lss (tm 36) (tm 35))] [kp [3, 34, 35, 36, 37] []]) (.seq (.cond (tm 37) .skip (.exit 0)) (.seq (.block 1 (.seq (.reg [om 38 36, od 39 (ia 3 34 36), od 40 (lG 3 39), od 6 (.alloc false [(.slice none 0
 0), (.slice none 0 0), (.int .i64 0)]), om 5 38, on (.store 3 (tm 6) (tm 40))] [kp [3, 5, 6, 34, 35, 36] [6]]) (.seq (.reg [od 41 (.mkf 152 [(tm 6)]), om 7 41] [kp [3, 5, 6, 7, 34, 35, 36] [6]]) (.seq (.reg [od 42 (fa 1 3), od 43
 (ld 1 42), om 44 5, od 45 (ia 1 43 44), od 46 (ld 1 45), od 47 (le 0 46), od 48 (fa 0 6), od 49 (ld 1 48), od 50 (le 0 49), od 51 (.bin .shl (ki 1) (tm 50)), od 52 (.bin .neq (tm 47) (tm 51)), om 53 52, oF 54 (.mv (tm 7)) 53, oF 55
 (fa 2 3) 53, oF 56 (ld 1 55) 53, oF 57 (.mv (tm 5)) 53, oF 58 (ia 1 56 57) 53, oF 59 (ld 1 58) 53, oF 60 (.callv (tm 54) [(tm 59)]) 53, od 61 (.pick (tm 53) kT (tm 60)), om 62 61, oF 63 (fa 1 3) 62, oF 64 (ld 1 63) 62, oF 65 (.mv
 (tm 5)) 62, oF 66 (ia 1 64 65) 62, oF 67 (ld 1 66) 62, oF 68 (.mv (tm 7)) 62, oF 69 (.call 102 [(tm 67), (tm 68)]) 62, od 70 (.pick (tm 62) kT (tm 69))] [kp [3, 34, 35, 36, 70] []]) (.cond (tm 70) (.seq (.reg [od 4 (.mv kF)] [kp
 [4] []]) .ret) .skip))))) (.reg [od 71 (.bin .add (tm 36) (ki 1)), om 36 71] [kp [3, 34, 35, 36] []])))) [kp [3, 34, 35, 36] []]
def Ks : IC := .loop Zf
abbrev Zg : IC := (.seq (.reg [od 2 (.box true (tm 0)), od 3 (.box true (tm 1)), od 4 (.mv kF)] [kp [2, 3] []]) (.seq (.seq (.reg [od 8 (fa 0 3), od 9 (ld 1 8), od 10 (le 0 9), od 11 (lG 4 2), od 12 (.call 31 [(tm 11)]), od 13 (le 0 12), od 14 (.bin
 .neq (tm 10) (tm 13)), om 15 14, oF 16 (fa 1 3) 15, oF 17 (ld 1 16) 15, oF 18 (le 0 17) 15, oF 19 (fa 2 2) 15, oF 20 (ld 1 19) 15, oF 21 (le 0 20) 15, oF 22 (.bin .neq (tm 18) (tm 21)) 15, od 23 (.pick (tm 15) kT (tm 22)), om 24
 23, oF 25 (fa 2 3) 24, oF 26 (ld 1 25) 24, oF 27 (le 0 26) 24, oF 28 (fa 2 2) 24, oF 29 (ld 1 28) 24, oF 30 (le 0 29) 24, oF 31 (.bin .neq (tm 27) (tm 30)) 24, od 32 (.pick (tm 24) kT (tm 31))] [kp [2, 3, 32] []]) (.cond (tm 32)
 (.seq (.reg [od 4 (.mv kF)] [kp [4] []]) .ret) .skip)) (.seq (.seq (.reg [od 33 (fa 2 2), od 34 (ld 1 33), od 35 (le 0 34), od 36 (.mv (ki 0))] [kp [3, 34, 35, 36] []]) (.block 0 Ks)) (.seq (.reg [od 4 (.mv kT)] [kp
 [4] []]) .ret))))
theorem Su (h : ∀ K : St → Prop, K = run P Γ Ks Q → run P Γ Zf (Ao K Q) s) : run P Γ Ks Q s := Ad h
def Zh : List RV := [.tmp 4]
/- probecard/memories.fits$1 (function 152) -/
abbrev Wg : IC := (.seq (.reg [od 3 (.mv kF)] [kp [0, 1] []]) (.seq (.reg [om 4 0, od 5 (le 0 4), od 6 (fa 1 1), od 7 (ld 1 6), od 8 (le 0 7), od 9 (.bin .neq (tm 5) (tm 8)), om 3 9] [kp [3] []]) .ret))
def Wh : List RV := [.tmp 3]
/- probecard/memories.Check (function 45) -/
abbrev Xt : IC := (.seq (.reg [od 3 (.box true (tm 0)), od 4 (.box true (tm 1)), od 6 (.mv (ki 0))] [kp [2, 3, 4] []]) (.seq (.seq (.reg [od 10 (lG 4 3), od 11 (.call 32 [(tm 10)]), om 7 11] [kp [2, 3, 4, 7] []]) (.seq (.reg [om 12 7, od 13 (.bin
 .neq (tm 12) (ki 0))] [kp [2, 3, 4, 7, 13] []]) (.cond (tm 13) (.seq (.reg [om 14 7, om 6 14] [kp [6] []]) .ret) .skip))) (.seq (.reg [od 8 (.alloc false [.nilFunc]), on (.store 1 (tm 8) (.func 105))] [kp [2, 3, 4, 8] [8]]) (.seq
 (.reg [od 15 (.mkf 107 [(tm 8)]), om 9 15] [kp [2, 3, 4, 8, 9] [8]]) (.seq (.block 0 (.seq (.reg [om 17 2, od 18 (le 0 17), od 19 (lG 4 3), od 20 (.call 97 [(tm 19)]), od 21 (le 0 20), od 22 (.bin .neq (tm 18) (tm 21)), om 23 22,
 oF 24 (lG 4 3) 23, oF 25 (lG 3 4) 23, oF 26 (.call 108 [(tm 24), (tm 25)]) 23, oF 27 (.un .not (tm 26)) 23, od 28 (.pick (tm 23) kT (tm 27)), om 16 28] [kp [2, 4, 8, 9, 16] [8]]) (.cond (tm 16) (.seq (.reg [od 6 (.mv (ki 8))] [kp
 [6] []]) .ret) (.seq (.reg [om 30 2, od 31 (ld 1 8), od 32 (.callv (tm 31) [(ku 3)]), od 33 (.call 100 [(tm 30), (tm 32)]), om 34 33, oF 35 (lG 3 4) 34, oF 36 (.call 109 [(tm 35)]) 34, oF 37 (.mv (tm 9)) 34, oF 38 (.call 102 [(tm
 36), (tm 37)]) 34, od 39 (.pick (tm 34) kT (tm 38)), om 29 39] [kp [29] []]) (.cond (tm 29) (.seq (.reg [od 6 (.mv (ki 1))] [kp [6] []]) .ret) .skip))))) (.seq (.reg [od 6 (.mv (ki 0))] [kp [6] []]) .ret))))))
def Xu : List RV := [.tmp 6]
/- probecard/memories.Check$1 (function 105) -/
abbrev Ub : IC := (.seq (.reg [od 1 (.box true (tm 0)), od 2 (.mv (.const .nilFunc))] [kp [1] []]) (.seq (.reg [od 3 (.mkf 106 [(tm 1)]), om 2 3] [kp [2] []]) .ret))
def Uc : List RV := [.tmp 2]
/- probecard/memories.Check$1$1 (function 106) -/
abbrev Q3 : IC := (.seq (.reg [od 3 (.mv kF)] [kp [0, 1] []]) (.seq (.reg [om 4 0, od 5 (ld 1 1), od 6 (.bin .gtr (tm 4) (tm 5)), om 3 6] [kp [3] []]) .ret))
def Q4 : List RV := [.tmp 3]
/- probecard/memories.Check$2 (function 107) -/
abbrev Ud : IC := (.seq (.reg [od 3 (.mv kF)] [kp [0, 1] []]) (.seq (.reg [om 4 0, od 5 (ld 1 1), od 6 (.callv (tm 5) [(ku 2)]), od 7 (.call 100 [(tm 4), (tm 6)]), om 3 7] [kp [3] []]) .ret))
def Ue : List RV := [.tmp 3]
/- probecard/memories.Cycle (function 13) -/
abbrev Xv : IC := .gh (.seq (.reg [od 49 (.bin .lss (tm 48) (tm 47))] [kp [3, 4, 6, 7, 11, 46, 47, 48, 49] [6, 7, 11, 35, 105, 127]]) (.seq (.cond (tm 49) .skip (.exit 0)) (.seq (.block 1 (.seq (.reg [od 50 (ia 1 46 48), od 51 (ld 1 50), om 15 51]
 [kp [3, 4, 6, 7, 11, 15, 46, 47, 48] [6, 7, 11, 35, 105, 127]]) (.seq (.reg [od 52 (fa 0 11), od 53 (fa 0 52), od 54 (ld 1 53), om 55 15, od 56 (ia 4 54 55), od 57 (lG 4 56), od 16 (.alloc false [(.int .u8 0), (.slice none 0 0),
 (.int .i64 0), (.int .i64 0)]), on (.store 4 (tm 16) (tm 57))] [kp [3, 4, 6, 7, 11, 15, 16, 46, 47, 48] [6, 7, 11, 16, 35, 105, 127]]) (.seq (.reg [od 58 (fa 0 16), od 59 (ld 1 58), od 60 (.call 48 [(tm 59)])] [kp [3, 4, 6, 7, 11,
 15, 16, 46, 47, 48, 60] [6, 7, 11, 16, 35, 105, 127]]) (.cond (tm 60) (.reg [od 61 (fa 4 11), od 62 (.ldR 11 1 false (tm 61)), om 63 15, od 64 (fa 0 16), od 65 (.ldR 16 1 false (tm 64)), od 66 (.ldR 11 5 true (tm 11)), od 67 (fa 1
 16), od 68 (.ldR 16 1 false (tm 67)), od 69 (.call 50 [(tm 66), (tm 68)]), od 70 (.call 49 [(tm 65), (tm 69)]), od 71 (ia 1 62 63), on (.stR 35 1 (tm 71) (tm 70))] [kp [3, 4, 6, 7, 11, 46, 47, 48] [6, 7, 11, 35, 105, 127]])
 .skip))))) (.reg [od 72 (.bin .add (tm 48) (ki 1)), om 48 72] [kp [3, 4, 6, 7, 11, 46, 47, 48] [6, 7, 11, 35, 105, 127]])))) [kp [3, 4, 6, 7, 11, 46, 47, 48] [6, 7, 11, 35, 105, 127]]
def Jk : IC := .loop Xv
abbrev Xw : IC := .gh (.seq (.reg [od 87 (.bin .lss (tm 86) (tm 85))] [kp [4, 6, 7, 11, 17, 18, 84, 85, 86, 87] [6, 7, 11, 17, 18, 35, 105, 127]]) (.seq (.cond (tm 87) .skip (.exit 2)) (.seq (.block 3 (.seq (.reg [om 88 86, od 89 (ia 3 84 86), od 90
 (lG 3 89), od 20 (.alloc false [(.slice none 0 0), (.slice none 0 0), (.int .i64 0)]), om 19 88, on (.store 3 (tm 20) (tm 90))] [kp [4, 6, 7, 11, 17, 18, 19, 20, 84, 85, 86] [6, 7, 11, 17, 18, 20, 35, 105, 127]]) (.seq (.reg [od 91
 (lG 5 11), od 92 (fa 0 20), od 93 (ld 1 92), od 94 (.call 50 [(tm 91), (tm 93)]), om 21 94] [kp [4, 6, 7, 11, 17, 18, 19, 20, 21, 84, 85, 86] [6, 7, 11, 17, 18, 20, 35, 105, 127]]) (.seq (.reg [od 95 (fa 2 18), od 96 (.ldR 18 1
 false (tm 95)), od 97 (fa 1 4), od 98 (.ldT 1 false (tm 97)), om 99 19, od 100 (ia 1 98 99), od 101 (.ldT 1 false (tm 100)), om 102 21, od 103 (.call 54 [(tm 101), (tm 102)]), od 104 (.bsl true 41 1 [(tm 103)]), od 105 (.app false
 41 1 (tm 96) (tm 104)), od 106 (fa 2 18), on (.stR 18 1 (tm 106) (tm 105))] [kp [4, 6, 7, 11, 17, 18, 19, 20, 21, 84, 85, 86] [6, 7, 11, 17, 18, 20, 35, 105, 127]]) (.reg [od 107 (fa 1 18), od 108 (.ldR 18 1 false (tm 107)), od 109
 (fa 1 4), od 110 (.ldT 1 false (tm 109)), om 111 19, od 112 (ia 1 110 111), od 113 (.ldT 1 false (tm 112)), om 114 21, od 115 (.ldR 11 5 true (tm 11)), od 116 (fa 1 20), od 117 (.ldR 20 1 false (tm 116)), od 118 (.call 50 [(tm
 115), (tm 117)]), od 119 (fa 4 11), od 120 (.ldR 11 1 false (tm 119)), od 121 (fa 2 20), od 122 (.ldR 20 1 false (tm 121)), od 123 (ia 1 120 122), od 124 (.ldT 1 false (tm 123)), od 125 (.call 55 [(tm 113), (tm 114), (tm 118), (tm
 124)]), od 126 (.bsl true 43 1 [(tm 125)]), od 127 (.app false 43 1 (tm 108) (tm 126)), od 128 (fa 1 18), on (.stR 18 1 (tm 128) (tm 127))] [kp [4, 6, 7, 11, 17, 18, 84, 85, 86] [6, 7, 11, 17, 18, 35, 105, 127]]))))) (.reg [od 129
 (.bin .add (tm 86) (ki 1)), om 86 129] [kp [4, 6, 7, 11, 17, 18, 84, 85, 86] [6, 7, 11, 17, 18, 35, 105, 127]])))) [kp [4, 6, 7, 11, 17, 18, 84, 85, 86] [6, 7, 11, 17, 18, 35, 105, 127]]
def Jl : IC := .loop Xw
abbrev Xx : IC := (.seq (.reg [od 3 (.box true (tm 0)), od 4 (.box true (tm 1)), od 6 (.alloc false [(.slice none 0 0), (.slice none 0 0), (.slice none 0 0)]), od 7 (.alloc false [(.slice none 0 0), (.slice none 0 0)]), od 8 (.mv kN), od 9 (.mv (ki
 0))] [kp [2, 3, 4, 6, 7] [6, 7, 105, 127]]) (.seq (.seq (.reg [od 22 (lG 4 3), od 23 (lG 3 4), om 24 2, od 25 (.call 45 [(tm 22), (tm 23), (tm 24)]), om 10 25] [kp [2, 3, 4, 6, 7, 10] [6, 7, 105, 127]]) (.seq (.reg [om 26 10, od 27
 (.bin .neq (tm 26) (ki 0))] [kp [2, 3, 4, 6, 7, 10, 27] [6, 7, 105, 127]]) (.cond (tm 27) (.seq (.reg [od 28 (.build [(1, kN), (1, kN), (1, kN)]), od 29 (.build [(1, kN), (1, kN)]), om 30 10, on (.store 3 (tm 6) (tm 28)), on
 (.store 2 (tm 7) (tm 29)), od 8 (.mv kN), om 9 30] [kp [6, 7, 8, 9] [6, 7, 35, 105, 127]]) .ret) .skip))) (.seq (.reg [od 31 (.ldT 4 true (tm 3)), od 32 (fa 0 3), od 33 (.ldT 1 false (tm 32)), od 34 (le 0 33), od 35 (.mkE 64 1
 [(.int .u8 0)] (tm 34) (tm 34)), od 36 (.build [(4, (tm 31)), (1, (tm 35))]), od 11 (.alloc false [(.slice none 0 0), (.slice none 0 0), (.slice none 0 0), (.slice none 0 0), (.slice none 0 0)]), on (.stR 11 5 (tm 11) (tm 36))] [kp
 [2, 3, 4, 6, 7, 11] [6, 7, 11, 35, 105, 127]]) (.seq (.reg [od 37 (lG 5 11), od 38 (lG 3 4), om 39 2, od 40 (.hcall 46 [(tm 37), (tm 38), (tm 39)] [35] 40000)] [kp [3, 4, 6, 7, 11] [6, 7, 11, 35, 105, 127]]) (.seq (.reg [od 42 (lG
 4 3), od 43 (.call 47 [(tm 42)]), om 41 43, od 44 (ex 41 0), od 45 (ex 41 1), om 12 44, om 13 45] [kp [3, 4, 6, 7, 11, 12] [6, 7, 11, 35, 105, 127]]) (.seq (.seq (.reg [om 46 12, od 47 (le 0 46), od 48 (.mv (ki 0))] [kp [3, 4, 6,
 7, 11, 46, 47, 48] [6, 7, 11, 35, 105, 127]]) (.gh (.block 0 Jk) [.frz 35])) (.seq (.reg [od 73 (lG 4 3), od 74 (fa 4 11), od 75 (ld 1 74), od 76 (.call 51 [(tm 73), (tm 75)]), od 17 (.alloc false [(.slice none 0 0),
 (.slice none 0 0)]), on (.store 2 (tm 17) (tm 76))] [kp [4, 6, 7, 11, 17] [6, 7, 11, 17, 35, 105, 127]]) (.seq (.reg [od 77 (fa 1 17), od 78 (ld 1 77), od 79 (.call 53 [(tm 78)]), od 80 (.call 52 [(tm 79)]), od 81 (.build [(1, (tm
 80)), (1, kN), (1, kN)]), od 18 (.alloc false [(.slice none 0 0), (.slice none 0 0), (.slice none 0 0)]), on (.store 3 (tm 18) (tm 81))] [.nlb 18 1 127 43 1, .nlb 18 2 105 41 1, kp [4, 6, 7, 11, 17, 18] [6, 7, 11, 17, 18, 35, 105,
 127]]) (.seq (.seq (.reg [od 82 (fa 0 11), od 83 (fa 2 82), od 84 (ld 1 83), od 85 (le 0 84), od 86 (.mv (ki 0))] [kp [4, 6, 7, 11, 17, 18, 84, 85, 86] [6, 7, 11, 17, 18, 35, 105, 127]]) (.gh (.block 2 Jl) [.frz 127,
 .frz 105])) (.seq (.reg [od 130 (fa 1 18), od 131 (.ldR 18 1 false (tm 130)), od 132 (.call 56 [(tm 131)]), od 133 (fa 2 18), od 134 (.ldR 18 1 false (tm 133)), od 135 (.call 57 [(tm 134)]), od 136 (fa 1 18), on (.stR 18 1 (tm 136)
 (tm 132)), od 137 (fa 2 18), on (.stR 18 1 (tm 137) (tm 135))] [kp [6, 7, 11, 17, 18] [6, 7, 11, 17, 18, 35, 105, 127]]) (.seq (.reg [od 138 (.ldR 18 3 true (tm 18)), od 139 (.ldR 17 2 true (tm 17)), od 140 (fa 4 11), od 141 (.ldR
 11 1 false (tm 140)), on (.stR 6 3 (tm 6) (tm 138)), on (.stR 7 2 (tm 7) (tm 139)), om 8 141, od 9 (.mv (ki 0))] [kp [6, 7, 8, 9] [6, 7, 35, 105, 127]]) .ret)))))))))))
theorem Q5 (h : ∀ K : St → Prop, K = run P Γ Jk Q → run P Γ Xv (Ao K Q) s) : run P Γ Jk Q s := Ad h
theorem Q6 (h : ∀ K : St → Prop, K = run P Γ Jl Q → run P Γ Xw (Ao K Q) s) : run P Γ Jl Q s := Ad h
def Xy : List RV := [.cell 6 3 true, .cell 7 2 true, .tmp 8, .tmp 9]
/- probecard/memories.Blank (function 24) -/
abbrev Xz : IC := .gh (.seq (.reg [od 32 (.bin .lss (tm 31) (tm 30))] [kp [2, 3, 5, 6, 18, 19, 20, 30, 31, 32] [2, 3, 5, 28, 46, 55]]) (.seq (.cond (tm 32) .skip (.exit 2)) (.seq (.block 3 (.seq (.reg [om 33 31, om 7 33] [kp [2, 3, 5, 6, 7, 18, 19,
 20, 30, 31] [2, 3, 5, 28, 46, 55]]) (.reg [om 34 6, om 35 7, od 36 (fa 1 5), od 37 (ld 1 36), od 38 (le 0 37), od 39 (.call 76 [(tm 38)]), od 40 (ia 1 34 35), on (.store 1 (tm 40) (tm 39))] [kp [2, 3, 5, 6, 18, 19, 20, 30, 31] [2,
 3, 5, 28, 46, 55]]))) (.reg [od 41 (.bin .add (tm 31) (ki 1)), om 31 41] [kp [2, 3, 5, 6, 18, 19, 20, 30, 31] [2, 3, 5, 28, 46, 55]])))) [kp [2, 3, 5, 6, 18, 19, 20, 30, 31] [2, 3, 5, 28, 46, 55]]
def Jm : IC := .loop Xz
abbrev Y0 : IC := .gh (.seq (.reg [od 21 (.bin .lss (tm 20) (tm 19))] [kp [2, 3, 18, 19, 20, 21] [2, 3, 46, 55]]) (.seq (.cond (tm 21) .skip (.exit 0)) (.seq (.block 1 (.seq (.reg [od 22 (ia 3 18 20), od 23 (lG 3 22), od 5 (.alloc false [(.slice
 none 0 0), (.slice none 0 0), (.int .i64 0)]), on (.store 3 (tm 5) (tm 23))] [kp [2, 3, 5, 18, 19, 20] [2, 3, 5, 46, 55]]) (.seq (.reg [od 24 (fa 0 5), od 25 (ld 1 24), od 26 (le 0 25), od 27 (.bin .shl (ki 1) (tm 26)), od 28 (.mk
 41 1 [(.slice none 0 0)] (tm 27) (tm 27)), om 6 28] [kp [2, 3, 5, 6, 18, 19, 20] [2, 3, 5, 28, 46, 55]]) (.seq (.seq (.reg [om 29 6, od 30 (le 0 29), od 31 (.mv (ki 0))] [kp [2, 3, 5, 6, 18, 19, 20, 30, 31] [2, 3, 5, 28, 46, 55]])
 (.gh (.block 2 Jm) [.frz 28])) (.seq (.reg [od 42 (fa 1 3), od 43 (ld 1 42), om 44 6, od 45 (.bsl true 43 1 [(tm 44)]), od 46 (.app false 43 1 (tm 43) (tm 45)), od 47 (fa 1 3), on (.store 1 (tm 47) (tm 46))] [kp [2,
 3, 5, 18, 19, 20] [2, 3, 5, 46, 55]]) (.reg [od 48 (fa 2 3), od 49 (.ldR 3 1 false (tm 48)), od 50 (fa 1 5), od 51 (.ldR 5 1 false (tm 50)), od 52 (le 0 51), od 53 (.call 76 [(tm 52)]), od 54 (.bsl true 41 1 [(tm 53)]), od 55 (.app
 false 41 1 (tm 49) (tm 54)), od 56 (fa 2 3), on (.stR 3 1 (tm 56) (tm 55))] [kp [2, 3, 18, 19, 20] [2, 3, 46, 55]])))))) (.reg [od 57 (.bin .add (tm 20) (ki 1)), om 20 57] [kp [2, 3, 18, 19, 20] [2, 3, 46, 55]])))) [kp [2, 3, 18,
 19, 20] [2, 3, 46, 55]]
def Jn : IC := .loop Y0
abbrev Y1 : IC := (.seq (.reg [od 1 (.box true (tm 0)), od 2 (.alloc false [(.slice none 0 0), (.slice none 0 0), (.slice none 0 0)])] [kp [1, 2] [2, 46, 55]]) (.seq (.seq (.reg [od 8 (lG 4 1), od 9 (.call 32 [(tm 8)]), od 10 (.bin .neq (tm 9) (ki
 0))] [kp [1, 2, 10] [2, 46, 55]]) (.cond (tm 10) (.seq (.reg [od 11 (.build [(1, kN), (1, kN), (1, kN)]), on (.store 3 (tm 2) (tm 11))] [kp [2] [2, 46, 55]]) .ret) .skip)) (.seq (.reg [od 12 (lG 4 1), od 13 (.call 31 [(tm 12)]), od
 14 (le 0 13), od 15 (.call 76 [(tm 14)]), od 16 (.build [(1, (tm 15)), (1, kN), (1, kN)]), od 3 (.alloc false [(.slice none 0 0), (.slice none 0 0), (.slice none 0 0)]), on (.store 3 (tm 3) (tm 16))] [.nlb 3 1 46 43 1, .nlb 3 2 55
 41 1, kp [1, 2, 3] [2, 3, 46, 55]]) (.seq (.seq (.reg [od 17 (fa 2 1), od 18 (ld 1 17), od 19 (le 0 18), od 20 (.mv (ki 0))] [kp [2, 3, 18, 19, 20] [2, 3, 46, 55]]) (.gh (.block 0 Jn) [.frz 46, .frz 55])) (.seq (.reg
 [od 58 (fa 1 3), od 59 (.ldR 3 1 false (tm 58)), od 60 (.call 56 [(tm 59)]), od 61 (fa 2 3), od 62 (.ldR 3 1 false (tm 61)), od 63 (.call 57 [(tm 62)]), od 64 (fa 1 3), on (.stR 3 1 (tm 64) (tm 60)), od 65 (fa 2 3), on (.stR 3 1
 (tm 65) (tm 63))] [kp [2, 3] [2, 3, 46, 55]]) (.seq (.reg [od 66 (lG 3 3), on (.store 3 (tm 2) (tm 66))] [kp [2] [2, 46, 55]]) .ret))))))
theorem Q7 (h : ∀ K : St → Prop, K = run P Γ Jm Q → run P Γ Xz (Ao K Q) s) : run P Γ Jm Q s := Ad h
theorem Q8 (h : ∀ K : St → Prop, K = run P Γ Jn Q → run P Γ Y0 (Ao K Q) s) : run P Γ Jn Q s := Ad h
def Y2 : List RV := [.cell 2 3 true]
/- slices.Clip[[][][]probecard/api.Value,[][]probecard/api.Value] (function 56) -/
abbrev K5 : IC := (.seq (.reg [od 2 (.mv kN)] [kp [0] []]) (.seq (.reg [om 3 0, om 4 0, od 5 (le 0 4), om 6 0, od 7 (le 0 6), od 8 (.slice 1 (tm 3) none (some (tm 5)) (some (tm 7))), om 2 8] [kp [2] []]) .ret))
def K6 : List RV := [.tmp 2]
/- slices.Grow[[][]probecard/api.Value,[]probecard/api.Value] (function 148) -/
abbrev G4 : IC := (.seq (.reg [od 4 (.mv kF)] [kp [0, 1] []]) (.seq (.reg [om 5 0, om 6 1, od 7 (.call 151 [(tm 5), (tm 6)]), od 8 (.bin .geq (tm 7) (ki 0)), om 4 8] [kp [4] []]) .ret))
def G5 : List RV := [.tmp 4]
/- slices.IndexFunc[[][]probecard/api.Value,[]probecard/api.Value] (function 151) -/
abbrev Hn : IC := .gh (.seq (.reg [od 9 (.bin .lss (tm 8) (tm 7))] [kp [0, 1, 7, 8, 9] []]) (.seq (.cond (tm 9) .skip (.exit 0)) (.seq (.block 1 (.seq (.reg [om 10 8, om 5 10] [kp [0, 1, 5, 7, 8] []]) (.seq (.reg [om 11 1, om 12 0, om 13 5, od 14
 (ia 1 12 13), od 15 (ld 1 14), od 16 (.callv (tm 11) [(tm 15)])] [kp [0, 1, 5, 7, 8, 16] []]) (.cond (tm 16) (.seq (.reg [om 17 5, om 4 17] [kp [4] []]) .ret) .skip)))) (.reg [od 18 (.bin .add (tm 8) (ki 1)), om 8 18] [kp [0, 1, 7,
 8] []])))) [kp [0, 1, 7, 8] []]
def D2 : IC := .loop Hn
abbrev Ho : IC := (.seq (.reg [od 4 (.mv (ki 0))] [kp [0, 1] []]) (.seq (.seq (.reg [om 6 0, od 7 (le 0 6), od 8 (.mv (ki 0))] [kp [0, 1, 7, 8] []]) (.block 0 D2)) (.seq (.reg [od 4 (.mv (.const (.int .i64 (-1))))] [kp
 [4] []]) .ret)))
theorem Fv (h : ∀ K : St → Prop, K = run P Γ D2 Q → run P Γ Hn (Ao K Q) s) : run P Γ D2 Q s := Ad h
def Hq : List RV := [.tmp 4]
end
end Go.Lg
namespace Go.Lg
open Go Go.Proofs
theorem q1T : Aq Tryz.prog 122 U6 27 2 Lh = true := by kernel_rfl
theorem q4w : Aq Tryz.prog 123 Tm 14 2 Tn = true := by kernel_rfl
theorem q2I : Aq Tryz.prog 124 N5 9 2 N6 = true := by kernel_rfl
theorem q4B : Aq Tryz.prog 54 Qr 55 2 Qs = true := by kernel_rfl
theorem q3J : Aq Tryz.prog 55 P3 96 4 P4 = true := by kernel_rfl
theorem q1U : Aq Tryz.prog 125 U7 6 1 U8 = true := by kernel_rfl
theorem q1V : Aq Tryz.prog 76 U9 6 1 Ua = true := by kernel_rfl
theorem Uz : Aq Tryz.prog 50 K3 27 2 K4 = true := by kernel_rfl
theorem Wy : Aq Tryz.prog 46 Lu 83 3 Lx = true := by kernel_rfl
theorem q3K : Aq Tryz.prog 109 Xr 24 1 Xs = true := by kernel_rfl
theorem q2J : Aq Tryz.prog 109 Wc 24 1 We = true := by kernel_rfl
theorem q0d : Aq Tryz.prog 76 Sr 6 1 Ss = true := by kernel_rfl
theorem q4C : Aq Tryz.prog 108 Zg 72 2 Zh = true := by kernel_rfl
theorem q2K : Aq Tryz.prog 152 Wg 10 2 Wh = true := by kernel_rfl
theorem q3L : Aq Tryz.prog 45 Xt 40 3 Xu = true := by kernel_rfl
theorem q1W : Aq Tryz.prog 105 Ub 4 1 Uc = true := by kernel_rfl
theorem q08 : Aq Tryz.prog 106 Q3 7 2 Q4 = true := by kernel_rfl
theorem q1X : Aq Tryz.prog 107 Ud 8 2 Ue = true := by kernel_rfl
theorem q3M : Aq Tryz.prog 13 Xx 142 3 Xy = true := by kernel_rfl
theorem q3N : Aq Tryz.prog 24 Y1 67 1 Y2 = true := by kernel_rfl
theorem V0 : Aq Tryz.prog 56 K5 9 1 K6 = true := by kernel_rfl
theorem N8 : Aq Tryz.prog 102 G4 9 2 G5 = true := by kernel_rfl
theorem Pl : Aq Tryz.prog 151 Ho 19 2 Hq = true := by kernel_rfl
end Go.Lg
namespace Go.Lg
open Go
section
variable {P : Program} {Γ : Tables} {Q : AX → St → Prop} {s : St}
/- probecard/logic.Below (function 75) -/
abbrev q1Y : IC := (.seq (.reg [od 4 (.mv kF)] [kp [0, 1] []]) (.seq (.reg [om 5 0, od 6 (.call 133 [(tm 5)]), om 7 1, od 8 (.call 133 [(tm 7)]), om 0 6, om 1 8] [kp [0, 1] []]) (.seq (.reg [om 9 0, om 10 1, od 11 (.bin .eql (tm 9) (tm 10)), om 12
 11, oF 13 (.mv (tm 0)) 12, oF 14 (.bin .eql (tm 13) (ku 2)) 12, od 15 (.pick (tm 12) kT (tm 14)), om 4 15] [kp [4] []]) .ret)))
def q1Z : List RV := [.tmp 4]
end
end Go.Lg
namespace Go.Lg
open Go Go.Proofs
theorem q5u : Aq Tryz.prog 75 q1Y 16 2 q1Z = true := by kernel_rfl
end Go.Lg
namespace Go.Lg
open Go Go.Proofs
variable {Γ : Tables}
theorem q7C (a b : Int) : A3 Tryz.prog Γ 75 [tK a, tK b] (tB (q01 a b)) := by
 refine A6 q5u rfl ?_
 simp [q1Y]
 refine A0 (W2 a) rfl ?_
 simp
 refine A0 (W2 b) rfl ?_
 simp
 by_cases h : Dl a = Dl b <;> simp [q1Z, Ap, q01, h]
end Go.Lg
namespace Go.Lg
open Go
section
variable {P : Program} {Γ : Tables} {Q : AX → St → Prop} {s : St}
/- probecard/probecardlaw06.Below (function 25) -/
abbrev q1a : IC := .gh (.seq (.seq (.reg [om 11 5, om 12 0, od 13 (le 0 12), od 14 (.bin .lss (tm 11) (tm 13))] [kp [0, 1, 5, 14] []]) (.cond (tm 14) .skip (.exit 0))) (.seq (.block 1 (.seq (.reg [om 17 0, om 18 5, od 19 (ia 1 17 18), od 20 (ld 1
 19), om 21 1, om 22 5, od 23 (ia 1 21 22), od 24 (ld 1 23), od 25 (.call 75 [(tm 20), (tm 24)]), od 26 (.un .not (tm 25))] [kp [0, 1, 5, 26] []]) (.cond (tm 26) (.seq (.reg [od 4 (.mv (ki 1))] [kp [4] []]) .ret) .skip))) (.reg [om
 15 5, od 16 (.bin .add (tm 15) (ki 1)), om 5 16] [kp [0, 1, 5] []]))) [kp [0, 1, 5] []]
def P5 : IC := .loop q1a
abbrev q1b : IC := (.seq (.reg [od 4 (.mv (ki 0))] [kp [0, 1] []]) (.seq (.seq (.reg [om 6 0, od 7 (le 0 6), om 8 1, od 9 (le 0 8), od 10 (.bin .neq (tm 7) (tm 9))] [kp [0, 1, 10] []]) (.cond (tm 10) (.seq (.reg [od 4 (.mv (ki 1))] [kp [4] []]) .ret)
 .skip)) (.seq (.seq (.reg [od 5 (.mv (ki 0))] [kp [0, 1, 5] []]) (.block 0 P5)) (.seq (.reg [od 4 (.mv (ki 0))] [kp [4] []]) .ret))))
theorem Wi (h : ∀ K : St → Prop, K = run P Γ P5 Q → run P Γ q1a (Ao K Q) s) : run P Γ P5 Q s := Ad h
def q1c : List RV := [.tmp 4]
end
end Go.Lg
namespace Go.Lg
open Go Go.Proofs
theorem q5v : Aq Tryz.prog 25 q1b 27 2 q1c = true := by kernel_rfl
end Go.Lg
namespace Go.Lg
open Go Go.Proofs
variable {Γ : Tables}
theorem q7D {Q : AX → St → Prop} (a b : Sl Int) (hl : a.l.length ≤ 1000000000) (he : a.l.length = b.l.length)
  (h0 : (∀ j, j < a.l.length → q01 (a.l.getD j 0) (b.l.getD j 0) = true) → Q (.exit 0) ⟨[(0, .t (tV a)), (1, .t (tV b)), (5, .t (tI a.l.length)), (14, .t (tB false))], []⟩)
  (h1 : (∃ j, j < a.l.length ∧ q01 (a.l.getD j 0) (b.l.getD j 0) = false) → Q .ret ⟨[(4, .t (tI 1))], []⟩) : ∀ (k i : Nat), k + i = a.l.length → (∀ j, j < i → q01 (a.l.getD j 0) (b.l.getD j 0) = true) →
  run Tryz.prog Γ P5 Q ⟨[(0, .t (tV a)), (1, .t (tV b)), (5, .t (tI i))], []⟩
 | 0, i, h, hp => by
  refine Wi fun K hK => ?_
  have h2 : i = a.l.length := by omega
  subst h2
  simp [tV, A1]
  exact h0 hp
 | k + 1, i, h, hp => by
  refine Wi fun K hK => ?_
  have h2 : i < a.l.length := by omega
  have h3 : i < b.l.length := by omega
  have e1 := ge1 (f := tK) h2
  have e2 := ge1 (f := tK) h3
  have hs := q7C (Γ := Γ) (a.l.getD i 0) (b.l.getD i 0)
  by_cases hv : q01 (a.l.getD i 0) (b.l.getD i 0) = true
  ·have ih := q7D a b hl he h0 h1 k (i + 1) (by omega) (fun j hj => by
    rcases Nat.lt_succ_iff_lt_or_eq.1 hj with hj | rfl
    ·exact hp j hj
    ·exact hv)
   generalize b.l.getD i 0 = v at *
   generalize a.l.getD i 0 = u at *
   simp (disch := omega) [h2, h3, tV, A1, A5, e1, e2, A4]
   refine A0 hs rfl ?_
   simp (disch := omega) [hv, A4]
   rw [hK]
   simpa [tV] using ih
  ·simp only [Bool.not_eq_true] at hv
   have hq := h1 ⟨i, h2, hv⟩
   generalize b.l.getD i 0 = v at *
   generalize a.l.getD i 0 = u at *
   simp (disch := omega) [h2, h3, tV, A1, A5, e1, e2, A4]
   refine A0 hs rfl ?_
   simp [hv]
   exact hq
theorem q7E (a b : Sl Int) (hl : a.l.length ≤ 1000000000) (he : a.l.length = b.l.length) (hb : ∀ j, j < a.l.length → q01 (a.l.getD j 0) (b.l.getD j 0) = true) : A3 Tryz.prog Γ 25 [tV a, tV b] (tI 0) := by
 refine A6 q5v rfl ?_
 have g := fun Q h0 h1 => q7D (Γ := Γ) (Q := Q) a b hl he h0 h1 a.l.length 0 (by omega) (by simp)
 simp [q1b, tV, A1, he]
 simp only [tV] at g
 refine g _ (fun h => ?_) (fun h => ?_)
 ·simp [q1c, Ap]
 ·obtain ⟨j, h1, h2⟩ := h
  rw [hb j h1] at h2; cases h2
end Go.Lg
namespace Go.Lg
open Go Go.Proofs
structure NG (B : Bool) (ns : List Nd) (i : Nat) (x : Nd) : Prop where
 k : 0 ≤ x.k ∧ x.k ≤ 15
 f : (Td x.k).1 ≤ x.inn.l.length ∧ (x.inn.l.length : Int) ≤ (Td x.k).2
 inn : ∀ p ∈ x.inn.l, 0 ≤ p ∧ p < ns.length
 top : 1 ≤ x.k ∧ x.k ≤ 13 → ∀ p ∈ x.inn.l, p < i
 bus : x.k = 13 → ∀ p ∈ x.inn.l, (ns.getD p.toNat Nd.d).k = 12
 mm : (x.k ≠ 15 → x.mem = 0 ∧ x.bit = 0) ∧ (x.k = 15 → B = true ∧ x.mem = 0 ∧ 0 ≤ x.bit ∧ x.bit ≤ 1)
theorem NG.mono {B : Bool} {ns ys : List Nd} {i : Nat} {x : Nd} (h : NG B ns i x) : NG B (ns ++ ys) i x :=
 ⟨h.k, h.f, fun p hp => by have := h.inn p hp; simp; omega, h.top, fun hk p hp => by
  have h1 := h.inn p hp
  rw [List.getD_eq_getElem?_getD, List.getElem?_append_left (by omega), ← List.getD_eq_getElem?_getD]
  exact h.bus hk p hp, h.mm⟩
def GNs (B : Bool) (ns : List Nd) : Prop := ∀ i (h : i < ns.length), NG B ns i ns[i]
theorem GNs.add {B : Bool} {ns : List Nd} {y : Nd} (h : GNs B ns) (hy : NG B (ns ++ [y]) ns.length y) : GNs B (ns ++ [y]) := by
 intro i hi
 by_cases h1 : i < ns.length
 ·rw [List.getElem_append_left h1]; exact (h i h1).mono
 ·have : i = ns.length := by simp at hi; omega
  subst this
  simpa using hy
theorem Qu : Td 0 = (0, 0) ∧ Td 1 = (0, 0) ∧ Td 2 = (0, 0) ∧ Td 3 = (1, 1) ∧ Td 4 = (1, 1) ∧ Td 5 = (2, 16) ∧ Td 6 = (2, 16) ∧ Td 7 = (2, 16) ∧ Td 8 = (2, 16) ∧ Td 9 = (2, 16) ∧ Td 10 = (2, 16) ∧ Td 11 = (3, 3) ∧ Td 12 = (2, 2) ∧ Td 13 = (1, 16) ∧ Td 14 = (1, 1) ∧ Td 15 = (0, 0) := by decide
theorem qHD {B : Bool} {ns : List Nd} {i : Nat} : NG B ns i q5l := ⟨by decide, by decide, by simp [q5l], by simp [q5l], by simp [q5l], by simp [q5l]⟩
theorem qHE {B : Bool} {ns : List Nd} {i : Nat} {v : Int} (h : 0 ≤ v ∧ v < ns.length) : NG B ns i (q4m v) := ⟨by simp [q4m], by simp [q4m, Qu], by simp [q4m]; exact h, by simp [q4m], by simp [q4m], by simp [q4m]⟩
theorem qE9 {ns : List Nd} {i : Nat} {b : Int} (h : b = 0 ∨ b = 1) : NG true ns i (q3B b) := ⟨by simp [q3B], by simp [q3B, Qu], by simp [q3B], by simp [q3B], by simp [q3B], by simp [q3B]; omega⟩
theorem qHF {ns : List Nd} : ∀ p ∈ q3t ns, 0 ≤ p ∧ p < ns.length ∧ (ns.getD p.toNat Nd.d).k = 12 := by
 intro p hp
 obtain ⟨h1, h2, h3⟩ := q3s [12] ns 0 p hp
 refine ⟨by omega, by omega, ?_⟩
 simpa using h3
theorem qCF {l : List Int} {q : Nat} (h : q < l.length) : l.getD q 0 ∈ l := by
 rw [List.getD_eq_getElem?_getD, List.getElem?_eq_getElem h]; exact List.getElem_mem h
theorem qFR {B bus : Bool} {g : Gd} {ns : List Nd} (hg : q8l g) (h0 : 1 ≤ ns.length) : NG B (ns ++ [q3u bus g ns]) ns.length (q3u bus g ns) := by
 have a := Cb (n := ns.length) hg.2.1.1 (by omega)
 have b := Cb (n := ns.length) hg.2.2.1.1 (by omega)
 have d := Cb (n := ns.length) hg.2.2.2.1 (by omega)
 have m13 : 0 ≤ g.k.tmod 13 ∧ g.k.tmod 13 < 13 := Cb (n := 13) hg.1.1 (by omega)
 have m9 : 0 ≤ g.k.tmod 9 ∧ g.k.tmod 9 < 9 := Cb (n := 9) hg.1.1 (by omega)
 have ma : 0 ≤ g.a.tmod 2 ∧ g.a.tmod 2 < 2 := Cb (n := 2) hg.2.1.1 (by omega)
 have hkk : 0 ≤ (if bus then g.k.tmod 13 else g.k.tmod 9) ∧ (if bus then g.k.tmod 13 else g.k.tmod 9) < 13 := by cases bus <;> simp <;> omega
 have ht := qHF (ns := ns)
 obtain ⟨y, hy⟩ : ∃ y, y = q3u bus g ns := ⟨_, rfl⟩
 rw [← hy]
 have hlen : (ns ++ [y]).length = ns.length + 1 := by simp
 have old : ∀ p : Int, 0 ≤ p → p < ns.length → ((ns ++ [y]).getD p.toNat Nd.d).k = (ns.getD p.toNat Nd.d).k := fun p h1 h2 => by
  rw [List.getD_eq_getElem?_getD, List.getElem?_append_left (by omega), ← List.getD_eq_getElem?_getD]
 -- what suffices of a plain gate
 have mk : ∀ (k : Int) (l : List Int) (cap : Option Nat) (nl : Option Bool), 0 ≤ k → k ≤ 15 → k ≠ 13 → k ≠ 15 → (Td k).1 ≤ l.length → (l.length : Int) ≤ (Td k).2 → (∀ p ∈ l, 0 ≤ p ∧ p < ns.length) → NG B (ns ++ [y]) ns.length ⟨k, ⟨l, cap, nl⟩, 0, 0⟩ := fun k l cap nl h1 h2 h3 h4 h5 h6 h7 =>
  ⟨⟨h1, h2⟩, ⟨h5, h6⟩, fun p hp => by have := h7 p hp; omega, fun _ p hp => (h7 p hp).2, fun e => absurd e h3, fun _ => ⟨rfl, rfl⟩, fun e => absurd e h4⟩
 unfold q3u q9o at hy
 simp only at hy
 generalize g.a.tmod ns.length = a' at *
 generalize g.b.tmod ns.length = b' at *
 generalize g.d.tmod ns.length = d' at *
 generalize (if bus = true then g.k.tmod 13 else g.k.tmod 9) = kk at *
 have two : ∀ p ∈ [a', b'], 0 ≤ p ∧ p < ns.length := by intro p hp; simp at hp; rcases hp with rfl | rfl; exact a; exact b
 have three : ∀ p ∈ [a', b', d'], 0 ≤ p ∧ p < ns.length := by intro p hp; simp at hp; rcases hp with rfl | rfl | rfl; exact a; exact b; exact d
 have one : ∀ p ∈ [a'], 0 ≤ p ∧ p < ns.length := by intro p hp; simp at hp; rcases hp with rfl; exact a
 split at hy
 ·rename_i h6
  have hc : kk = 0 ∨ kk = 1 ∨ kk = 2 ∨ kk = 3 ∨ kk = 4 ∨ kk = 5 := by omega
  split at hy
  ·rw [hy]
   have hf : (Td (5 + kk)).1 = 2 ∧ (Td (5 + kk)).2 = 16 := by rcases hc with rfl | rfl | rfl | rfl | rfl | rfl <;> decide
   rw [← hy]
   have := mk (5 + kk) [a', b', d'] none none (by omega) (by omega) (by omega) (by omega) (by rw [hf.1]; simp) (by rw [hf.2]; simp) three
   rw [← hy] at this; exact this
  ·have hf : (Td (5 + kk)).1 = 2 ∧ (Td (5 + kk)).2 = 16 := by rcases hc with rfl | rfl | rfl | rfl | rfl | rfl <;> decide
   have := mk (5 + kk) [a', b'] none none (by omega) (by omega) (by omega) (by omega) (by rw [hf.1]; simp) (by rw [hf.2]; simp) two
   rw [← hy] at this; exact this
 split at hy
 ·have := mk 4 [a'] none none (by omega) (by omega) (by omega) (by omega) (by simp [Qu]) (by simp [Qu]) one
  rw [← hy] at this; exact this
 split at hy
 ·have := mk 11 [a', b', d'] none none (by omega) (by omega) (by omega) (by omega) (by simp [Qu]) (by simp [Qu]) three
  rw [← hy] at this; exact this
 split at hy
 ·have := mk 12 [a', b'] none none (by omega) (by omega) (by omega) (by omega) (by simp [Qu]) (by simp [Qu]) two
  rw [← hy] at this; exact this
 split at hy
 ·rename_i ht2
  generalize q3t ns = t at *
  have mt := Cb (n := t.length) hg.2.1.1 ht2.2
  have mt2 := Cb (a := g.a.tmod t.length + 1) (n := t.length) (by omega) ht2.2
  have q1 := ht _ (qCF (l := t) (q := (g.a.tmod t.length).toNat) (by omega))
  have q2 := ht _ (qCF (l := t) (q := ((g.a.tmod t.length + 1).tmod t.length).toNat) (by omega))
  generalize t.getD (g.a.tmod t.length).toNat 0 = u1 at *
  generalize t.getD ((g.a.tmod t.length + 1).tmod t.length).toNat 0 = u2 at *
  have mkb : ∀ (l : List Int) (cap : Option Nat) (nl : Option Bool), 1 ≤ l.length → l.length ≤ 16 → (∀ p ∈ l, 0 ≤ p ∧ p < ns.length ∧ (ns.getD p.toNat Nd.d).k = 12) → NG B (ns ++ [y]) ns.length ⟨13, ⟨l, cap, nl⟩, 0, 0⟩ := fun l cap nl h5 h6 h7 =>
   ⟨by simp, ⟨by simp [Qu]; omega, by simp [Qu]; omega⟩, fun p hp => by have := h7 p hp; omega, fun _ p hp => (h7 p hp).2.1, fun _ p hp => by rw [old p (h7 p hp).1 (h7 p hp).2.1]; exact (h7 p hp).2.2, fun _ => ⟨rfl, rfl⟩, fun e => by simp at e⟩
  split at hy
  ·have := mkb [u1, u2] none none (by simp) (by simp) (by intro p hp; simp at hp; rcases hp with rfl | rfl; exact q1; exact q2)
   rw [← hy] at this; exact this
  ·have := mkb [u1] none none (by simp) (by simp) (by intro p hp; simp at hp; rcases hp with rfl; exact q1)
   rw [← hy] at this; exact this
 split at hy
 ·have hc : g.a.tmod 2 = 0 ∨ g.a.tmod 2 = 1 := by omega
  have hf : (Td (1 + g.a.tmod 2)).1 = 0 ∧ (Td (1 + g.a.tmod 2)).2 = 0 := by rcases hc with e | e <;> rw [e] <;> decide
  have := mk (1 + g.a.tmod 2) [] (some 0) (some true) (by omega) (by omega) (by omega) (by omega) (by rw [hf.1]; simp) (by rw [hf.2]; simp) (by simp)
  rw [← hy] at this; exact this
 ·have := mk 3 [a'] none none (by omega) (by omega) (by omega) (by omega) (by simp [Qu]) (by simp [Qu]) one
  rw [← hy] at this; exact this
theorem q8N {B bus : Bool} : ∀ {l : List Gd} {ns : List Nd}, (∀ g ∈ l, q8l g) → 1 ≤ ns.length → GNs B ns → GNs B (Qj bus l ns)
 | [], ns, _, _, h => h
 | g :: l, ns, hg, h0, h => by
  simp only [Qj]
  exact q8N (fun y hy => hg y (List.mem_cons_of_mem _ hy)) (by simp) (h.add (qFR (hg g List.mem_cons_self) h0))
theorem qFS {B : Bool} {ns : List Nd} {j : Nat} {v : Int} (h : GNs B ns) (hj : j < ns.length) (hk : ns[j].k = 14) (hv : 0 ≤ v ∧ v < ns.length) : GNs B (Tv ns j v) := by
 have hm := (h j hj).mm.1 (by rw [hk]; decide)
 have hgd : ns.getD j Nd.d = ns[j] := by simp [List.getD_eq_getElem?_getD, hj]
 have kinds : ∀ q : Nat, ((Tv ns j v).getD q Nd.d).k = (ns.getD q Nd.d).k := fun q => by
  unfold Tv
  simp only [List.getD_eq_getElem?_getD, List.getElem?_set]
  split
  ·rename_i e; subst e; simp [hj]
  ·rfl
 intro i hi
 have hi' : i < ns.length := by rw [Nx] at hi; exact hi
 by_cases hij : i = j
 ·subst hij
  have : (Tv ns i v)[i] = ⟨14, ⟨[v], some 1, some false⟩, 0, 0⟩ := by
   simp only [Tv, hgd, hk, hm.1, hm.2, List.getElem_set_self]
  rw [this]
  exact ⟨by simp, by simp [Qu], by simp [Nx]; exact hv, by simp, by simp, by simp⟩
 ·have : (Tv ns j v)[i] = ns[i] := by
   simp only [Tv]
   rw [List.getElem_set_ne (fun e => hij e.symm)]
  rw [this]
  have hn := h i hi'
  exact ⟨hn.k, hn.f, fun p hp => by rw [Nx]; exact hn.inn p hp, hn.top, fun hk p hp => by rw [kinds]; exact hn.bus hk p hp, hn.mm⟩
theorem qBK {ns : List Nd} {j q : Nat} {v : Int} : ((Tv ns j v).getD q Nd.d).k = (ns.getD q Nd.d).k := by
 unfold Tv
 simp only [List.getD_eq_getElem?_getD, List.getElem?_set]
 split
 ·rename_i e; subst e
  split
  ·simp
  ·rename_i h; simp [List.getElem?_eq_none (Nat.le_of_not_lt h)]
 ·rfl
theorem qA9 {B : Bool} {x : CD} {first : Nat} (h0 : Byt x.d0) (h1 : Byt x.d1) : ∀ {k i : Nat} {ns : List Nd}, GNs B ns → (∀ q, q < i + k → first + q < ns.length ∧ (ns.getD (first + q) Nd.d).k = 14) → GNs B (q12 x first k i ns)
 | 0, _, _, h, _ => h
 | k + 1, i, ns, h, hq => by
  simp only [q12]
  obtain ⟨hl, hk⟩ := hq i (by omega)
  have hd : 0 ≤ ddN x i := by unfold ddN; split; exact h0.1; exact h1.1
  have hv := Cb (n := ns.length) hd (by omega)
  refine qA9 h0 h1 (qFS h hl (by simpa [List.getD_eq_getElem?_getD, hl] using hk) hv) fun q hq' => ?_
  rw [Nx, qBK]
  exact hq q (by omega)
theorem q5V {bus : Bool} : ∀ {l : List Gd} {ns : List Nd} {q : Nat}, q < ns.length → ((Qj bus l ns).getD q Nd.d) = (ns.getD q Nd.d)
 | [], _, _, _ => rfl
 | g :: l, ns, q, h => by
  simp only [Qj]
  rw [q5V (by simp; omega)]
  rw [List.getD_eq_getElem?_getD, List.getElem?_append_left h, ← List.getD_eq_getElem?_getD]
theorem q8s {B : Bool} {x : Nd} (h : ∀ ns : List Nd, 1 ≤ ns.length → ∀ i, NG B ns i x) : ∀ (k : Nat) {ns : List Nd}, GNs B ns → GNs B (ns ++ List.replicate k x)
 | 0, ns, hn => by simpa using hn
 | k + 1, ns, hn => by
  rw [List.replicate_succ, List.append_cons]
  exact q8s h k (hn.add (h _ (by simp) _))
theorem q5W {x : CD} (hx : q4o x) : GNs x.mem (Gy x) := by
 have m4 : 0 ≤ x.i.tmod 4 ∧ x.i.tmod 4 < 4 := Cb (n := 4) hx.i.1 (by omega)
 have m3 : 0 ≤ x.f.tmod 3 ∧ x.f.tmod 3 < 3 := Cb (n := 3) hx.f.1 (by omega)
 have g0 : GNs x.mem [] := fun i h => by simp at h
 have g1 : GNs x.mem (Ik x) := by
  have := q8s (B := x.mem) (x := q5l) (fun ns _ i => qHD) (x.i.tmod 4 + 1).toNat g0
  simpa [Ik] using this
 have l1 : 1 ≤ (Ik x).length := by simp [Ik]; omega
 have g2 : GNs x.mem (Fh x) := q8s (fun ns h i => qHE ⟨by omega, by omega⟩) _ g1
 have l2 : (Fh x).length = (Ik x).length + (x.f.tmod 3).toNat := by simp [Fh]
 have g3 : GNs x.mem (Ep x) := by
  unfold Ep
  split
  ·rename_i hm
   rw [hm] at g2 ⊢
   have a1 := g2.add (y := q3B 0) (qE9 (.inl rfl))
   have a2 := a1.add (y := q3B 1) (qE9 (.inr rfl))
   rw [List.append_assoc] at a2
   exact a2
  ·exact g2
 have l3 : (Fh x).length ≤ (Ep x).length := by unfold Ep; split <;> simp
 have g4 : GNs x.mem (Bv x) := q8N (fun g hg => hx.gates g (List.mem_of_mem_take hg)) (by omega) g3
 have l4 : (Ep x).length ≤ (Bv x).length := by unfold Bv; rw [q00]; omega
 refine qA9 hx.d0 hx.d1 g4 fun q hq => ⟨by omega, ?_⟩
 unfold Bv
 rw [q5V (by omega)]
 have e : (Ep x).getD ((Ik x).length + q) Nd.d = (Fh x).getD ((Ik x).length + q) Nd.d := by
  unfold Ep
  split
  ·rw [List.getD_eq_getElem?_getD, List.getElem?_append_left (by omega), ← List.getD_eq_getElem?_getD]
  ·rfl
 rw [e]
 unfold Fh
 rw [List.getD_eq_getElem?_getD, List.getElem?_append_right (by omega)]
 simp only [Nat.add_sub_cancel_left]
 rw [List.getElem?_replicate, if_pos (by omega)]
 rfl
theorem q09 {α : Type} {f : α → Int} : ∀ {l : List α}, (∀ x ∈ l, f x = 0) → Dc (l.map f) = 0
 | [], _ => rfl
 | x :: l, h => by
  simp only [List.map_cons, Dc, h x List.mem_cons_self, ne_eq, not_true_eq_false, if_false]
  exact q09 fun y hy => h y (List.mem_cons_of_mem _ hy)
theorem qBL : ∀ n, n ≤ 16 → Is [] ((List.range' 0 n).map Z4) = 0 := by
 intro n hn
 have : n = 0 ∨ n = 1 ∨ n = 2 ∨ n = 3 ∨ n = 4 ∨ n = 5 ∨ n = 6 ∨ n = 7 ∨ n = 8 ∨ n = 9 ∨ n = 10 ∨ n = 11 ∨ n = 12 ∨ n = 13 ∨ n = 14 ∨ n = 15 ∨ n = 16 := by omega
 rcases this with rfl | rfl | rfl | rfl | rfl | rfl | rfl | rfl | rfl | rfl | rfl | rfl | rfl | rfl | rfl | rfl | rfl <;> decide +kernel
theorem qD4 {x : CD} (hx : q4o x) : Dp (V6 x) = 0 := by
 have hl := q3D hx
 have h5 := q3E hx
 have hg := q5W hx
 have hN : (V6 x).nodes.l = Gy x := rfl
 have hmods : ∀ b, Byt b → 0 ≤ b.tmod (Bv x).length ∧ b.tmod (Bv x).length < (Gy x).length := fun b hb => by
  have := Cb (n := (Bv x).length) hb.1 (by omega); omega
 have hout : ∀ n, 0 ≤ n ∧ n < ((Gy x).length : Int) → Oo (V6 x) n = false := fun n h => by simp [Oo, hN]; omega
 have hnode : ∀ y ∈ Gy x, Di (V6 x) y = 0 := by
  intro y hy
  obtain ⟨i, hi, rfl⟩ := List.getElem_of_mem hy
  have hn := hg i hi
  unfold Di
  rw [if_neg (by have := hn.k; omega), if_neg (by have := hn.f; omega)]
  have h1 : (Gy x)[i].inn.l.any (Oo (V6 x)) = false := List.any_eq_false.2 fun p hp => by rw [hout p (hn.inn p hp)]; simp
  rw [h1]
  have h2 : ¬ ((Gy x)[i].k = 13 ∧ (Gy x)[i].inn.l.any (q0w (V6 x)) = true) := by
   rintro ⟨hk, ha⟩
   obtain ⟨p, hp, hq⟩ := List.any_eq_true.1 ha
   have := hn.bus hk p hp
   simp [q0w, hN] at hq
   rw [List.getD_eq_getElem?_getD] at this
   exact hq this
  rw [if_neg (by simp), if_neg h2]
  have h3 : Z2 (V6 x) (Gy x)[i] = true := by
   unfold Z2
   by_cases hk : (Gy x)[i].k = 15
   ·obtain ⟨hm, e1, e2, e3⟩ := hn.mm.2 hk
    simp only [hk, ne_eq, not_true_eq_false, if_false, decide_eq_true_eq]
    simp [V6, q7Z, hm, e1]
    omega
   ·have := hn.mm.1 hk
    simp [hk, this]
  rw [h3]; simp
 unfold Dp
 have e1 : ¬ (16384 < (V6 x).nodes.l.length ∨ 16 < (V6 x).mems.l.length ∨ 16384 < (V6 x).outs.l.length) := by
  have : (V6 x).mems.l.length ≤ 1 := by simp only [V6, q7Z]; split <;> simp
  have : (V6 x).outs.l.length ≤ 4 := by simp [V6]; omega
  rw [hN]; omega
 have e2 : (V6 x).names.l.length = (V6 x).nodes.l.length := by rw [hN]; simp [V6]; omega
 rw [if_neg e1, if_neg (by simp [e2]), if_neg (by rw [hN, q09 hnode]; simp), if_neg (by
  rw [show (V6 x).names.l = (List.range' 0 (Bv x).length).map Z4 from rfl, qBL _ hl.2]; simp), if_neg (by
  rw [q09]
  ·simp
  ·intro m hm
   simp only [V6, q7Z] at hm
   split at hm
   ·simp at hm; subst hm
    unfold Mc
    have a0 := hout _ (hmods _ hx.p0)
    have a1 := hout _ (hmods _ hx.p1)
    have a2 := hout _ (hmods _ hx.p2)
    have a3 := hout _ (hmods _ hx.p3)
    simp [Tf, a0, a1, a2, a3]
   ·cases hm)]
 have ho : (V6 x).outs.l.any (Oo (V6 x)) = false := by
  refine List.any_eq_false.2 fun p hp => ?_
  have : 0 ≤ p ∧ p < ((Gy x).length : Int) := by
   simp only [V6, List.mem_append, List.mem_map, List.mem_singleton] at hp
   rcases hp with ⟨b, hb, rfl⟩ | rfl
   ·exact hmods b (hx.outs b (List.mem_of_mem_take hb))
   ·omega
  rw [hout p this]; simp
 rw [ho]; rfl
theorem q8O {x : CD} (hx : q4o x) : Ew (V6 x) = 0 := by
 have hs := qD4 hx
 have hg := q5W hx
 have hN : (V6 x).nodes.l = Gy x := rfl
 have hin : ∀ y ∈ (V6 x).nodes.l, ∀ p ∈ y.inn.l, 0 ≤ p ∧ p < (V6 x).nodes.l.length := by
  intro y hy p hp
  rw [hN] at hy ⊢
  obtain ⟨i, hi, rfl⟩ := List.getElem_of_mem hy
  exact (hg i hi).inn p hp
 have hd := q9w (V6 x) (Hw hs).2.1 hin (by
  intro i hi hc p hp
  rw [hN] at hi
  have e : (V6 x).nodes.l.getD i Nd.d = (Gy x)[i] := by rw [hN]; simp [List.getD_eq_getElem?_getD, hi]
  simp only [Ar, Hl, e] at hc hp
  exact (hg i hi).top (by simpa [Dt] using hc) p hp)
 unfold Ew
 rw [if_neg (by simp [hs]), if_neg hd]
end Go.Lg
namespace Go.Lg
open Go Go.Proofs
variable {Γ : Tables}
theorem q4D {f : FuncId} {as' : List AV} {ts : List T} {res : T} {K : T → Prop} (h : A3 Tryz.prog Γ f ts res) (ht : Aj (as'.map toT) = some ts) (hk : K res) : q8h Tryz.prog Γ f as' K ⟨⟩ := ⟨ts, res, ht, .inr h, hk⟩
theorem qCG {l : List Int} {n : Nat} {most : Int} (hl : ∀ v ∈ l, 0 ≤ v) (hm : 0 < most ∧ most ≤ 4) : ∀ v ∈ q1S l n most, V4 v := by
 intro v hv
 obtain ⟨i, _, rfl⟩ := List.mem_map.1 hv
 split
 ·simp [V4]
 ·rename_i h
  have hpos : 0 < l.length := List.length_pos_iff.2 h
  have h0 : 0 ≤ l.getD (i % l.length) 0 := by
   rw [Bg (Nat.mod_lt _ hpos)]; exact hl _ (List.getElem_mem _)
  generalize l.getD (i % l.length) 0 = u at *
  rw [Int.tmod_eq_emod_of_nonneg h0]
  have := Int.emod_nonneg u (show most ≠ 0 by omega)
  have := Int.emod_lt_of_pos u hm.1
  unfold V4; omega
structure POk (c : B1) (p : Pat) : Prop where
 i : p.inn.l.length = (Bz c).length
 s : p.st.l.length = (Av c).length
 vi : ∀ v ∈ p.inn.l, V4 v
 vs : ∀ v ∈ p.st.l, V4 v
theorem qAA {q : PD} (hq : q8q q) (c : B1) : POk c (q5U q c) :=
 ⟨q7A, q7A, qCG (fun v hv => (hq.1 v hv).1) (by omega), qCG (fun v hv => (hq.2 v hv).1) (by omega)⟩
def q4E : Nat → Nat → List Int → List Int → List Int
 | 0, _, _, m => m
 | k + 1, i, p, m => q4E k (i + 1) p (if p.getD i 0 = 2 then m else m.set i (p.getD i 0))
theorem qAB : ∀ {k i : Nat} {p m : List Int}, (q4E k i p m).length = m.length
 | 0, _, _, _ => rfl
 | k + 1, i, p, m => by simp only [q4E]; rw [qAB]; split <;> simp
theorem qAC : ∀ (k i : Nat) (p m : List Int) (j : Nat), i + k ≤ m.length → (q4E k i p m).getD j 0 = if i ≤ j ∧ j < i + k ∧ p.getD j 0 ≠ 2 then p.getD j 0 else m.getD j 0
 | 0, i, p, m, j, h => by rw [if_neg (by omega)]; rfl
 | k + 1, i, p, m, j, h => by
  simp only [q4E]
  rw [qAC k (i + 1) p _ j (by split <;> (try simp) <;> omega)]
  by_cases hj : i = j
  ·subst hj
   rw [if_neg (by omega)]
   by_cases hv : p.getD i 0 = 2
   ·rw [if_pos hv, if_neg (by omega)]
   ·rw [if_neg hv, if_pos ⟨by omega, by omega, hv⟩]
    simp [List.getD_eq_getElem?_getD, List.getElem?_set, show i < m.length by omega]
  ·by_cases hv : p.getD i 0 = 2
   ·rw [if_pos hv]
    by_cases h1 : i + 1 ≤ j ∧ j < i + 1 + k ∧ p.getD j 0 ≠ 2
    ·rw [if_pos h1, if_pos ⟨by omega, by omega, h1.2.2⟩]
    ·rw [if_neg h1, if_neg (fun h2 => h1 ⟨by omega, by omega, h2.2.2⟩)]
   ·rw [if_neg hv]
    have e : (m.set i (p.getD i 0)).getD j 0 = m.getD j 0 := by simp [List.getD_eq_getElem?_getD, List.getElem?_set, hj]
    rw [e]
    by_cases h1 : i + 1 ≤ j ∧ j < i + 1 + k ∧ p.getD j 0 ≠ 2
    ·rw [if_pos h1, if_pos ⟨by omega, by omega, h1.2.2⟩]
    ·rw [if_neg h1, if_neg (fun h2 => h1 ⟨by omega, by omega, h2.2.2⟩)]
theorem N2.below {a b : Int} (h : N2 a b) : q01 a b = true := by
 unfold q01
 rcases h with rfl | rfl
 ·simp
 ·simp [Dl]
theorem N2.clean {a b : Int} (h : N2 a b) : N2 (Dl a) (Dl b) := by
 rcases h with rfl | rfl
 ·exact .inl rfl
 ·exact .inr (by simp [Dl])
theorem Qk.map {α : Type} {f g : α → Int} {l : List α} (h : ∀ x ∈ l, N2 (f x) (g x)) : Qk (l.map f) (l.map g) := by
 refine ⟨by simp, fun i => ?_⟩
 by_cases hi : i < l.length
 ·rw [Bg (by simpa using hi), Bg (by simpa using hi), List.getElem_map, List.getElem_map]
  exact h _ (List.getElem_mem hi)
 ·rw [List.getD_eq_getElem?_getD, List.getD_eq_getElem?_getD, List.getElem?_eq_none (by simp; omega), List.getElem?_eq_none (by simp; omega)]
  exact .refl _
theorem q5X {l m : List Int} (h : Qk l m) (n : Int) : N2 (Qp l n) (Qp m n) := by
 unfold Qp
 rw [h.1]
 split
 ·exact .refl _
 ·exact (h.2 _).clean
theorem q7F {c : B1} {l m : List Int} (h : Qk l m) (n : Int) : N2 (q0Q c l n) (q0Q c m n) := by
 unfold q0Q
 split
 ·exact Fj (q5X h _)
 ·exact .refl _
theorem qHG {p b : List Int} {n : Nat} (hp : p.length = n) (hb : b.length = n) (h4 : ∀ v ∈ p, V4 v) (h4b : ∀ v ∈ b, V4 v) :
  (q4E n 0 p b).length = n ∧ (∀ v ∈ q4E n 0 p b, V4 v) ∧ ∀ j, N2 (p.getD j 0) ((q4E n 0 p b).getD j 0) := by
 have hl : (q4E n 0 p b).length = n := by rw [qAB, hb]
 have hg : ∀ j, (q4E n 0 p b).getD j 0 = if j < n ∧ p.getD j 0 ≠ 2 then p.getD j 0 else b.getD j 0 := fun j => by
  rw [qAC n 0 p b j (by omega)]; simp
 refine ⟨hl, fun v hv => ?_, fun j => ?_⟩
 ·obtain ⟨j, hj, rfl⟩ := List.getElem_of_mem hv
  rw [← Bg hj, hg]
  split
  ·exact N1 h4 _
  ·exact N1 h4b _
 ·rw [hg]
  by_cases h1 : p.getD j 0 = 2
  ·exact .inr h1
  ·by_cases h2 : j < n
   ·rw [if_pos ⟨h2, h1⟩]; exact .refl _
   ·rw [if_neg (fun h => h2 h.1), List.getD_eq_getElem?_getD, List.getD_eq_getElem?_getD, List.getElem?_eq_none (by omega), List.getElem?_eq_none (by omega)]
    exact .refl _
end Go.Lg
namespace Go.Lg
open Go Go.Proofs
structure T3 where
 a : Int
 b : Int
 d : Int
deriving DecidableEq
theorem qEA {c : B1} (h : Ew c = 0) {i1 i2 f1 f2 : List Int} (h1 : qFN c i1 f1) (h2 : qFN c i2 f2)
  (hb : ∀ i, i < c.nodes.l.length → Dt (Ar c i) = false → N2 (i1.getD i 0) (i2.getD i 0)) : Qk f1 f2 := by
 have key := qFM h (Q := fun i => N2 (f1.getD i 0) (f2.getD i 0)) fun i hi hcb => by
  rw [h1.2 i hi, h2.2 i hi]
  by_cases hk : Dt (Ar c i) = true
  ·rw [if_pos hk, if_pos hk]
   exact qBF (Qk.map fun q hq => (hcb hk q hq).2)
  ·rw [if_neg hk, if_neg hk]
   exact hb i hi (by simpa using hk)
 refine ⟨by rw [h1.1, h2.1], fun i => ?_⟩
 by_cases hi : i < c.nodes.l.length
 ·exact key i hi
 ·rw [List.getD_eq_getElem?_getD, List.getD_eq_getElem?_getD, List.getElem?_eq_none (by rw [h1.1]; omega), List.getElem?_eq_none (by rw [h2.1]; omega)]
  exact .refl _
def V1 (c : B1) (rd : List (List Int)) : List Int := (mems c).map fun n => (rd.getD (nd c n).mem.toNat []).getD (nd c n).bit.toNat 0
def Uf (c : B1) (pin pst : List Int) (rd : List (List Int)) : List Int := F7 (mems c) (V1 c rd) (q5Q c pin pst)
def q8P (c : B1) (pin pst : List Int) (rd : List (List Int)) : List Int := q5m c (Ti c) (Uf c pin pst rd)
theorem qAD {c : B1} {rd : List (List Int)} : (V1 c rd).length = (mems c).length := by simp [V1]
theorem q25 {c : B1} {pin pst : List Int} {rd : List (List Int)} : (Uf c pin pst rd).length = c.nodes.l.length := by unfold Uf; rw [Nz, q8G]
theorem q4x {c : B1} {pin pst : List Int} {rd : List (List Int)} : (q8P c pin pst rd).length = c.nodes.l.length := by unfold q8P; rw [q6y, q25]
theorem q8Q {c : B1} (h : Ew c = 0) (pin pst : List Int) (rd : List (List Int)) : qFN c (Uf c pin pst rd) (q8P c pin pst rd) := qFO h (Z6 c).1 (Z6 c).2 q25
theorem qAE {c : B1} {pin pst : List Int} {rd : List (List Int)} {i : Nat} (hi : i < c.nodes.l.length) :
  (Uf c pin pst rd).getD i 0 = if Ar c i = 15 then (V1 c rd).getD (O0 15 c i) 0 else (q5Q c pin pst).getD i 0 := by
 have n15 := (q22 [15] c.nodes.l 0).2
 have r15 : ∀ n ∈ mems c, 0 ≤ n := fun n hn => (Ld n hn).1
 unfold Uf
 by_cases hk : Ar c i = 15
 ·obtain ⟨a, b⟩ := q6B hi hk
  have e : (mems c)[O0 15 c i]'a = (i : Int) := by show (K9 [15] c.nodes.l 0)[O0 15 c i] = _; rw [← b, Bg a]
  have := q3z (ns := mems c) (vs := V1 c rd) (nets := q5Q c pin pst) (j := O0 15 c i) n15 (fun n hn => by rw [q8G]; have := Ld n hn; omega) qAD.symm a
  rw [e] at this
  simp only [Int.toNat_natCast] at this
  rw [this, if_pos hk]
 ·have : (i : Int) ∉ mems c := fun hm => hk ((q8n hi).1 hm)
  rw [Z7 r15 this, if_neg hk]
theorem q7G {c : B1} {rd : List (List Int)} {i : Nat} (hi : i < c.nodes.l.length) (hk : Ar c i = 15) :
  (V1 c rd).getD (O0 15 c i) 0 = (rd.getD (nd c i).mem.toNat []).getD (nd c i).bit.toNat 0 := by
 obtain ⟨a, b⟩ := q6B hi hk
 have e : (mems c)[O0 15 c i]'a = (i : Int) := by show (K9 [15] c.nodes.l 0)[O0 15 c i] = _; rw [← b, Bg a]
 have e2 : (mems c)[O0 15 c i]? = some (i : Int) := by rw [List.getElem?_eq_getElem (l := mems c) a, e]
 unfold V1
 rw [List.getD_eq_getElem?_getD, List.getElem?_map, e2]
 rfl
theorem qBM {c : B1} (h : Ew c = 0) {a b a' b' : List Int} {rd rd' : List (List Int)} (ha : a.length = (Bz c).length) (hb : b.length = (Av c).length) (ha' : a'.length = (Bz c).length) (hb' : b'.length = (Av c).length)
  (h1 : ∀ j, N2 (a.getD j 0) (a'.getD j 0)) (h2 : ∀ j, N2 (b.getD j 0) (b'.getD j 0)) (h3 : ∀ m j, N2 ((rd.getD m []).getD j 0) ((rd'.getD m []).getD j 0)) : Qk (q8P c a b rd) (q8P c a' b' rd') := by
 refine qEA h (q8Q h a b rd) (q8Q h a' b' rd') fun i hi hc => ?_
 rw [qAE hi, qAE hi, qCA ha hb hi, qCA ha' hb' hi]
 split
 ·rename_i hk
  rw [q7G hi hk, q7G hi hk]
  exact h3 _ _
 split
 ·exact h1 _
 split
 ·exact h2 _
 ·exact .refl _
def P6 : Nat → List Int → Bool
 | i, [] => decide (i = 0)
 | i, v :: l => if v ≤ 1 ∧ v ≠ (i : Int) % 2 then false else P6 (i / 2) l
def q2g (a b : Int) : Int := if a = b then a else 2
def Ym (w : List Int) (b : Nat) : Int := if b < w.length then Dv (w.getD b 0) else 2
def Ug (w : List Int) (first : Bool) : Nat → Nat → List Int → List Int
 | 0, _, out => out
 | k + 1, b, out => Ug w first k (b + 1) (out.set b (if first then Ym w b else q2g (out.getD b 0) (Ym w b)))
def q1d (addr : List Int) : Nat → List (List Int) → List Int × Bool → List Int × Bool
 | _, [], s => s
 | i, w :: ws, s => q1d addr (i + 1) ws (if P6 i addr then (Ug w s.2 s.1.length 0 s.1, false) else s)
def Uh (words : List (List Int)) (addr : List Int) : List Int := match words with
 | [] => []
 | w :: ws => (q1d addr 0 (w :: ws) (List.replicate w.length 2, true)).1
def q4F (addr : List Int) (en : Int) : Bool := decide (en = 1) && !addr.any fun v => !Ot v
def q1e (i : Nat) (addr : List Int) (en old new : Int) : Int := if en = 0 ∨ P6 i addr = false then old else if q4F addr en = true then new else q2g old new
def Qv (i : Nat) (addr data : List Int) (en : Int) (w : List Int) : Nat → Nat → List Int
 | 0, _ => []
 | k + 1, b => q1e i addr en (Ym w b) (Ym data b) :: Qv i addr data en w k (b + 1)
def E7 (addr data : List Int) (en : Int) : Nat → List (List Int) → List (List Int)
 | _, [] => []
 | i, w :: ws => Qv i addr data en w w.length 0 :: E7 addr data en (i + 1) ws
def q5Y (v x y : Int) : Int := if v = 0 then x else if v = 1 then y else q2g x y
def q7i (i : Int) (v en w d : Int) : Int := if en = 0 ∨ v ≤ 1 ∧ v ≠ i then w else if en = 1 ∧ v ≤ 1 then d else q2g w d
theorem qEB {v : Int} (h : 0 ≤ v) : (P6 0 [v] = !decide (v = 1)) ∧ (P6 1 [v] = !decide (v = 0)) := by
 constructor
 ·simp only [P6]
  by_cases h1 : v = 1
  ·simp [h1]
  ·rw [if_neg (by omega)]; simp [h1]
 ·simp only [P6]
  by_cases h1 : v = 0
  ·simp [h1]
  ·rw [if_neg (by omega)]; simp [h1]
theorem qFx {a b c d v : Int} (h : 0 ≤ v) : Uh [[a, b], [c, d]] [v] = [q5Y v (Dv a) (Dv c), q5Y v (Dv b) (Dv d)] := by
 obtain ⟨h0, h1⟩ := qEB h
 simp only [Uh, q1d, h0, h1]
 by_cases e1 : v = 1
 ·subst e1; simp [Ug, Ym, q5Y, List.replicate]
 by_cases e0 : v = 0
 ·subst e0; simp [Ug, Ym, q5Y, List.replicate]
 simp [e0, e1, Ug, Ym, q5Y, List.replicate]
theorem qEC {a b c d v x y en : Int} (h : 0 ≤ v) : E7 [v] [x, y] en 0 [[a, b], [c, d]] = [[q7i 0 v en (Dv a) (Dv x), q7i 0 v en (Dv b) (Dv y)], [q7i 1 v en (Dv c) (Dv x), q7i 1 v en (Dv d) (Dv y)]] := by
 obtain ⟨h0, h1⟩ := qEB h
 have e : ∀ (o n : Int), q1e 0 [v] en o n = q7i 0 v en o n ∧ q1e 1 [v] en o n = q7i 1 v en o n := fun o n => by
  unfold q1e q7i q4F
  rw [h0, h1]
  simp only [List.any_cons, List.any_nil, Ot]
  constructor
  ·by_cases e1 : v = 1 <;> by_cases e2 : en = 0 <;> by_cases e3 : en = 1 <;> by_cases e4 : v ≤ 1 <;> simp_all <;> omega
  ·by_cases e1 : v = 0 <;> by_cases e2 : en = 0 <;> by_cases e3 : en = 1 <;> by_cases e4 : v ≤ 1 <;> simp_all <;> omega
 simp [E7, Qv, Ym, e]
theorem q7H {v v' x y x' y' : Int} (hv : N2 v v') (hx : N2 x x') (hy : N2 y y') : N2 (q5Y v x y) (q5Y v' x' y') := by
 unfold N2 q5Y q2g at *
 repeat' split
 all_goals omega
theorem q26 {i v v' en en' w w' d d' : Int} (hi : i = 0 ∨ i = 1) (hv : N2 v v') (he : N2 en en') (hw : N2 w w') (hd : N2 d d') : N2 (q7i i v en w d) (q7i i v' en' w' d') := by
 unfold N2 q7i q2g at *
 repeat' split
 all_goals omega
end Go.Lg
namespace Go.Lg
open Go
section
variable {P : Program} {Γ : Tables} {Q : AX → St → Prop} {s : St}
/- slices.Repeat[[]probecard/api.Value,probecard/api.Value] (function 140) -/
abbrev K7 : IC := .gh (.seq (.seq (.reg [om 34 8, om 35 7, od 36 (le 0 35), od 37 (.bin .lss (tm 34) (tm 36))] [kp [7, 8, 37] [30]]) (.cond (tm 37) .skip (.exit 0))) (.block 1 (.reg [om 38 8, om 39 7, om 40 8, od 41 (.slice 1 (tm 39) (some (tm 40))
 none none), om 42 7, om 43 8, od 44 (.slice 1 (tm 42) none (some (tm 43)) none), od 45 (.cpy 1 (tm 41) (tm 44)), od 46 (.bin .add (tm 38) (tm 45)), om 8 46] [kp [7, 8] [30]]))) [kp [7, 8] [30]]
def Dx : IC := .loop K7
abbrev Fz : IC := (.seq (.reg [od 4 (.mv kN)] [kp [0, 1] []]) (.seq (.seq (.reg [om 9 1, od 10 (.bin .lss (tm 9) (ki 0))] [kp [0, 1, 10] []]) (.cond (tm 10) .dead .skip)) (.seq (.reg [om 13 0, od 14 (le 0 13), od 15 (.conv .u64 (tm 14)), om 16 1, od
 17 (.conv .u64 (tm 16)), od 18 (.call 163 [(tm 15), (tm 17)]), om 12 18, od 19 (ex 12 0), od 20 (ex 12 1), om 5 19, om 6 20] [kp [0, 5, 6] []]) (.seq (.seq (.reg [om 21 5, od 22 (.bin .gtr (tm 21) (.const (.int .u64 0))), om 23 22,
 oF 24 (.mv (tm 6)) 23, oF 25 (.bin .gtr (tm 24) (.const (.int .u64 9223372036854775807))) 23, od 26 (.pick (tm 23) kT (tm 25))] [kp [0, 6, 26] []]) (.cond (tm 26) .dead .skip)) (.seq (.reg [om 28 6, od 29 (.conv .i64 (tm 28)), od
 30 (.mk 64 1 [(.int .u8 0)] (tm 29) (tm 29)), om 7 30] [kp [0, 7] [30]]) (.seq (.reg [om 31 7, om 32 0, od 33 (.cpy 1 (tm 31) (tm 32)), om 8 33] [kp [7, 8] [30]]) (.seq (.block 0 Dx) (.seq (.reg [om 47 7, om
 4 47] [kp [4] [30]]) .ret))))))))
theorem D3 (h : ∀ K : St → Prop, K = run P Γ Dx Q → run P Γ K7 (Ao K Q) s) : run P Γ Dx Q s := Ad h
def Cf : List RV := [.tmp 4]
/- probecard/sims.Blank (function 95) -/
abbrev q5Z : IC := (.seq (.reg [od 4 (.mv (.const (.int .u64 0))), od 5 (.mv (.const (.int .u64 0)))] [kp [0, 1] []]) (.seq (.cond kF (.seq (.reg [om 11 0, od 12 (.conv .u32 (tm 11)), om 13 1, od 14 (.conv .u32 (tm 13)), od 15 (.call 181 [(tm 12),
 (tm 14)]), om 10 15, od 16 (ex 10 0), od 17 (ex 10 1), om 6 16, om 7 17] [kp [6, 7] []]) (.seq (.reg [om 18 6, od 19 (.conv .u64 (tm 18)), om 20 7, od 21 (.conv .u64 (tm 20)), om 4 19, om 5 21] [kp [4, 5] []]) .ret)) .skip) (.seq
 (.reg [om 23 0, om 24 1, od 25 (.call 182 [(tm 23), (tm 24)]), om 22 25, od 26 (ex 22 0), od 27 (ex 22 1), om 8 26, om 9 27] [kp [8, 9] []]) (.seq (.reg [om 28 8, om 29 9, om 4 28, om 5 29] [kp [4, 5] []]) .ret))))
def q5a : List RV := [.tmp 4, .tmp 5]
/- math/bits.Mul64 (function 182) -/
abbrev q2h : IC := (.seq (.reg [od 4 (.mv (.const (.int .u64 0))), od 5 (.mv (.const (.int .u64 0)))] [kp [0, 1] []]) (.seq (.reg [om 14 0, od 15 (.bin .and (tm 14) (.const (.int .u64 4294967295))), om 6 15] [kp [0, 1, 6] []]) (.seq (.reg [om 16 0,
 od 17 (.bin .shr (tm 16) (.const (.int .u64 32))), om 7 17] [kp [0, 1, 6, 7] []]) (.seq (.reg [om 18 1, od 19 (.bin .and (tm 18) (.const (.int .u64 4294967295))), om 8 19] [kp [0, 1, 6, 7, 8] []]) (.seq (.reg [om 20 1, od 21 (.bin
 .shr (tm 20) (.const (.int .u64 32))), om 9 21] [kp [0, 1, 6, 7, 8, 9] []]) (.seq (.reg [om 22 6, om 23 8, od 24 (.bin .mul (tm 22) (tm 23)), om 10 24] [kp [0, 1, 6, 7, 8, 9, 10] []]) (.seq (.reg [om 25 7, om 26 8, od 27 (.bin .mul
 (tm 25) (tm 26)), om 28 10, od 29 (.bin .shr (tm 28) (.const (.int .u64 32))), od 30 (.bin .add (tm 27) (tm 29)), om 11 30] [kp [0, 1, 6, 7, 9, 11] []]) (.seq (.reg [om 31 11, od 32 (.bin .and (tm 31) (.const (.int .u64
 4294967295))), om 12 32] [kp [0, 1, 6, 7, 9, 11, 12] []]) (.seq (.reg [om 33 11, od 34 (.bin .shr (tm 33) (.const (.int .u64 32))), om 13 34] [kp [0, 1, 6, 7, 9, 12, 13] []]) (.seq (.reg [om 35 12, om 36 6, om 37 9, od 38 (.bin
 .mul (tm 36) (tm 37)), od 39 (.bin .add (tm 35) (tm 38)), om 12 39] [kp [0, 1, 7, 9, 12, 13] []]) (.seq (.reg [om 40 7, om 41 9, od 42 (.bin .mul (tm 40) (tm 41)), om 43 13, od 44 (.bin .add (tm 42) (tm 43)), om 45 12, od 46 (.bin
 .shr (tm 45) (.const (.int .u64 32))), od 47 (.bin .add (tm 44) (tm 46)), om 4 47] [kp [0, 1, 4] []]) (.seq (.reg [om 48 0, om 49 1, od 50 (.bin .mul (tm 48) (tm 49)), om 5 50] [kp [4, 5] []]) .ret))))))))))))
def q2i : List RV := [.tmp 4, .tmp 5]
end
end Go.Lg
namespace Go.Lg
open Go Go.Proofs
theorem Jo : Aq Tryz.prog 140 Fz 48 2 Cf = true := by kernel_rfl
theorem q8t : Aq Tryz.prog 163 q5Z 30 2 q5a = true := by kernel_rfl
theorem q7I : Aq Tryz.prog 182 q2h 51 2 q2i = true := by kernel_rfl
end Go.Lg
namespace Go.Lg
open Go
section
variable {P : Program} {Γ : Tables} {Q : AX → St → Prop} {s : St}
/- slices.Clone[[]probecard/api.Value,probecard/api.Value] (function 53) -/
abbrev E1 : IC := (.seq (.reg [od 2 (.mv kN)] [kp [0] []]) (.seq (.seq (.reg [om 3 0, od 4 (.isNil true (tm 3))] [kp [0, 4] []]) (.cond (tm 4) (.seq (.reg [od 2 (.mv kN)] [kp [2] []]) .ret) .skip)) (.seq (.reg [od 5 (.bsl true 64 1 []), om 6 0, od 7
 (.appT 64 1 (tm 5) (tm 6)), om 2 7] [kp [2] []]) .ret)))
def E2 : List RV := [.tmp 2]
end
end Go.Lg
namespace Go.Lg
open Go Go.Proofs
theorem Wj : Aq Tryz.prog 53 E1 8 1 E2 = true := by kernel_rfl
end Go.Lg
namespace Go.Lg
open Go Go.Proofs
variable {Γ : Tables}
abbrev Pnt := Int × Int
def qED (l : List (Int × Pnt)) (n : Int) : Pnt := match l.find? (fun p => p.1 == n) with | some p => p.2 | none => (0, 0)
def qFy (l : List (Int × Pnt)) : Prop := ∀ p ∈ l, -1000000 ≤ p.2.1 ∧ p.2.1 ≤ 1000000 ∧ -1000000 ≤ p.2.2 ∧ p.2.2 ≤ 1000000
theorem qFy.at {l : List (Int × Pnt)} (h : qFy l) (n : Int) : -1000000 ≤ (qED l n).1 ∧ (qED l n).1 ≤ 1000000 ∧ -1000000 ≤ (qED l n).2 ∧ (qED l n).2 ≤ 1000000 := by
 unfold qED
 split
 ·rename_i p hp
  exact h p (List.mem_of_find?_eq_some hp)
 ·simp
def qJf {α : Type} (s : Sl α) : Prop := (s.nl = some true → s.l = []) ∧ (s.nl = none → s.l ≠ []) ∧ s.l.length ≤ 1000000
theorem q4y (s : Sl Int) (hs : qJf s) : Ab Tryz.prog Γ 53 [tV s] (if s.nl = some true then .sl [] (some 0) (some true) else .sl (Ag s.l) none none) := by
 refine Ax Wj rfl ?_
 obtain ⟨l, cap, nl⟩ := s
 obtain ⟨h1, h2, h3⟩ := hs
 simp only at h1 h2 h3
 rcases nl with _ | _ | _
 ·have h4 : Ag l ≠ [] := by simpa [A9] using h2 rfl
  simp (disch := omega) [E1, E2, A5, A1, h4, Ba, tV]
  omega
 ·simp (disch := omega) [E1, E2, A5, A1, Ba, tV]
  omega
 ·have := h1 rfl
  subst this
  simp [E1, E2, tV]
theorem qEE {w : World} {X : Nat → Prop} {cap : Option Nat} {v : Value} (h : TR w X (.sl [] cap none) v) : TR w X (.sl [] cap (some true)) v ∨ TR w X (.sl [] cap (some false)) v := by
 cases h with
 | nil _ _ a c hc hn hz =>
  cases a with
  | none => exact .inl (.nil cap (some true) none c hc (fun b hb => by cases hb; rfl) hz)
  | some a => exact .inr (.nil cap (some false) (some a) c hc (fun b hb => by cases hb; rfl) hz)
 | sl _ _ _ s b off c f hcell hlen hrel hone hx hle hc hq =>
  exact .inr (.sl [] cap (some false) s b off c f hcell hlen hrel hone hx hle hc (fun q hq => by cases hq; rfl))
theorem qFT {w : World} {X : Nat → Prop} {es : List (List T)} {cap : Option Nat} {nl : Option Bool} {v : Value} (h : TR w X (.sl es cap nl) v) : TR w X (.sl es none none) v := by
 cases h with
 | nil _ _ a c hc hn hz => exact .nil none none a c (fun n h => nomatch h) (fun n h => nomatch h) hz
 | sl _ _ _ s b off c f hcell hlen hrel hone hx hle hc hq => exact .sl es none none s b off c f hcell hlen hrel hone hx hle (fun n h => nomatch h) (fun n h => nomatch h)
theorem q8R {P : Program} {f : FuncId} {args : List T} {es : List (List T)} {cap : Option Nat} {nl : Option Bool} (h : Ab P Γ f args (.sl es cap nl)) : Ab P Γ f args (.sl es none none) :=
 fun w X vs hg hx hr => (h w X vs hg hx hr).mono fun v w' ⟨hb, ht⟩ => ⟨hb, qFT ht⟩
theorem qBN {P : Program} {f : FuncId} {cap : Option Nat} {r : T} (h1 : Ab P Γ f [.sl [] cap (some true)] r) (h2 : Ab P Γ f [.sl [] cap (some false)] r) : Ab P Γ f [.sl [] cap none] r :=
 fun w X vs hg hx hr => by
  obtain ⟨x, ys, rfl, hx1, hy⟩ := hr.cons_inv
  rcases qEE hx1 with h | h
  ·exact h1 w X _ hg hx (Eu.cons h hy)
  ·exact h2 w X _ hg hx (Eu.cons h hy)
def q8u (s : Sl Int) : Sl Int := if s.nl = some true then ⟨[], some 0, some true⟩ else ⟨s.l, none, none⟩
theorem qD5 (s : Sl Int) (h1 : s.nl = some true → s.l = []) (h2 : s.l.length ≤ 1000000) : Ab Tryz.prog Γ 53 [tV s] (tV (q8u s)) := by
 obtain ⟨l, cap, nl⟩ := s
 simp only at h1 h2
 by_cases h3 : nl = none ∧ l = []
 ·obtain ⟨rfl, rfl⟩ := h3
  have a1 := q4y (Γ := Γ) ⟨[], cap, some true⟩ ⟨fun _ => rfl, (fun h => nomatch h), Nat.zero_le _⟩
  have a2 := q4y (Γ := Γ) ⟨[], cap, some false⟩ ⟨(fun h => nomatch h), (fun h => nomatch h), Nat.zero_le _⟩
  exact qBN (q8R a1) (q8R a2)
 ·have := q4y (Γ := Γ) ⟨l, cap, nl⟩ ⟨h1, fun a b => h3 ⟨a, b⟩, h2⟩
  unfold q8u
  by_cases hn : nl = some true
  ·have hl := h1 hn
   subst hn
   subst hl
   simpa [tV, Gk] using this
  ·simpa [tV, hn] using this
end Go.Lg
namespace Go.Lg
open Go
section
variable {P : Program} {Γ : Tables} {Q : AX → St → Prop} {s : St}
/- slices.Clip[[][]probecard/api.Value,[]probecard/api.Value] (function 57) -/
abbrev Kz : IC := (.seq (.reg [od 2 (.mv kN)] [kp [0] []]) (.seq (.reg [om 3 0, om 4 0, od 5 (le 0 4), om 6 0, od 7 (le 0 6), od 8 (.slice 1 (tm 3) none (some (tm 5)) (some (tm 7))), om 2 8] [kp [2] []]) .ret))
def L0 : List RV := [.tmp 2]
end
end Go.Lg
namespace Go.Lg
open Go Go.Proofs
theorem Wl : Aq Tryz.prog 57 Kz 9 1 L0 = true := by kernel_rfl
end Go.Lg
namespace Go.Lg
open Go Go.Proofs
variable {Γ : Tables}
def qIn (l : List (Sl Int)) : List Int := (l.map fun s => s.l).flatten
end Go.Lg
namespace Go.Lg
open Go Go.Proofs
def m0 (c : B1) (ch : List (Sl Int)) : Nat := c.nodes.l.length + 1 + ch.length
end Go.Lg
namespace Go.Lg
open Go Go.Proofs
variable {Γ : Tables}
theorem gE' {α : Type} {f : α → T} {l : List α} {i : Nat} (d : α) (h0 : i < l.length) : ∀ h : i < (A9 f l).length, (A9 f l)[i] = [f (l.getD i d)] := fun h => by
 have := Bt (f := f) d h0
 rw [List.getElem?_eq_getElem h] at this
 simpa [List.getD_eq_getElem?_getD] using this
theorem gE {α : Type} {f : α → T} {l : List α} {i : Nat} (d : α) (h0 : i < l.length) : (A9 f l)[i]?.getD [] = [f (l.getD i d)] := by
 rw [List.getElem?_eq_getElem (by rw [A1]; exact h0)]
 exact gE' d h0 _
theorem q4G {n : Int} (h1 : 0 ≤ n) (h2 : n < 18446744073709551616) : IntKind.u64.wrap n = n := by
 simp [IntKind.wrap, IntKind.signed, IntKind.bits]
 omega
theorem qIo {n : Nat} (h : n < 4294967296) : IntKind.u64.wrap ((BitVec.ofInt 64 (n : Int) &&& BitVec.ofInt 64 4294967295).toNat : Int) = n := by
 have e : (BitVec.ofInt 64 (n : Int) &&& BitVec.ofInt 64 4294967295).toNat = n := by
  rw [BitVec.toNat_and]
  have h1 : (BitVec.ofInt 64 (n : Int)).toNat = n := by
   simp [BitVec.toNat_ofInt]; omega
  have h2 : (BitVec.ofInt 64 4294967295).toNat = 2 ^ 32 - 1 := by decide
  rw [h1, h2, Nat.and_two_pow_sub_one_eq_mod]
  omega
 rw [e, q4G] <;> omega
theorem qBO {n : Nat} (h : n < 4294967296) : IntKind.u64.wrap ((BitVec.ofNat 64 n &&& 4294967295#64).toNat : Int) = n := by
 have := qIo h
 rwa [show BitVec.ofInt 64 (n : Int) = BitVec.ofNat 64 n from by simp, show BitVec.ofInt 64 4294967295 = 4294967295#64 from rfl] at this
abbrev tU (n : Int) : T := .v (.int .u64 n)
theorem qBP {n : Nat} (h : n < 4294967296) : (n : Int).fdiv 4294967296 = 0 := by
 rw [Int.fdiv_eq_ediv_of_nonneg _ (by omega)]; omega
theorem qBQ (a b : Nat) (ha : a < 65536) (hb : b < 65536) : A3 Tryz.prog Γ 182 [tU a, tU b] (.tup [tU 0, tU (a * b : Nat)]) := by
 refine A6 q7I rfl ?_
 have hab : a * b ≤ 65535 * 65535 := Nat.mul_le_mul (by omega) (by omega)
 have a1 := qBO (n := a) (by omega)
 have b1 := qBO (n := b) (by omega)
 have z1 := qBO (n := 0) (by omega)
 have a2 := qBP (n := a) (by omega)
 have b2 := qBP (n := b) (by omega)
 have c2 := qBP (n := a * b) (by omega)
 have m32 : min (32 : Int).toNat 64 = 32 := by decide
 have c1 : IntKind.u64.wrap ((a : Int) * b) = ((a * b : Nat) : Int) := by rw [← Int.natCast_mul, q4G] <;> omega
 have z2 : IntKind.u64.wrap 0 = 0 := by decide
 simp [q2h, q2i, IntKind.bits, a1, b1, a2, b2, c1, c2, z1, z2, m32, -Int.natCast_mul]
 erw [a1, b1, c1, c2, z2]
theorem qAF (a b : Nat) (ha : a < 65536) (hb : b < 65536) : A3 Tryz.prog Γ 163 [tU a, tU b] (.tup [tU 0, tU (a * b : Nat)]) := by
 refine A6 q8t rfl ?_
 simp [q5Z]
 refine A0 (qBQ a b ha hb) rfl ?_
 simp [q5a]
theorem qEF {j n : Nat} (h1 : 0 < j) (h2 : j < n) : (List.replicate j [tK 2] ++ List.replicate (n - j) [tK 0]).take j ++ ((List.replicate j [tK 2] ++ List.replicate (n - j) [tK 0]).take j).take (min (n - j) j) ++ (List.replicate j [tK 2] ++ List.replicate (n - j) [tK 0]).drop (j + min (n - j) j) = List.replicate (j + min (n - j) j) [tK 2] ++ List.replicate (n - (j + min (n - j) j)) [tK 0] := by
 have e1 : (List.replicate j [tK 2] ++ List.replicate (n - j) [tK 0]).take j = List.replicate j [tK 2] := by
  rw [List.take_append_of_le_length (by simp), List.take_of_length_le (by simp)]
 have e2 : (List.replicate j [tK 2]).take (min (n - j) j) = List.replicate (min (n - j) j) [tK 2] := by
  rw [List.take_replicate, Nat.min_eq_left (Nat.min_le_right _ _)]
 rw [e1, e2, ← List.replicate_append_replicate (n := j), List.drop_append, List.drop_of_length_le (by simp), List.nil_append, List.drop_replicate]
 congr 2
 simp; omega
theorem q7J {Q : AX → St → Prop} (n : Nat) (hn : n ≤ 1000000)
  (h0 : Q (.exit 0) ⟨[(7, .ls 30 0 n none), (8, .t (tI n)), (37, .t (tB false))], [(30, .sl 64 1 (List.replicate n [tK 2]))]⟩) :
  ∀ (f j : Nat), n - j ≤ f → 0 < j → j ≤ n →
  run Tryz.prog Γ Dx Q ⟨[(7, .ls 30 0 n none), (8, .t (tI j))], [(30, .sl 64 1 (List.replicate j [tK 2] ++ List.replicate (n - j) [tK 0]))]⟩
 | 0, j, hf, h1, h2 => by
  refine D3 fun K hK => ?_
  have h3 : j = n := by omega
  subst h3
  simp
  simpa using h0
 | f + 1, j, hf, h1, h2 => by
  refine D3 fun K hK => ?_
  by_cases h3 : j = n
  ·subst h3
   simp
   simpa using h0
  ·have h4 : j < n := by omega
   have ih := q7J n hn h0 f (j + min (n - j) j) (by omega) (by omega) (by omega)
   rw [← qEF h1 h4] at ih
   have hw : E5 1 (List.replicate j [tK 2] ++ List.replicate (n - j) [tK 0]) := by
    intro e he
    rcases List.mem_append.1 he with he | he <;> rw [List.eq_of_mem_replicate he] <;> rfl
   have hl : (List.replicate j [tK 2] ++ List.replicate (n - j) [tK 0]).length = n := by simp; omega
   generalize List.replicate j [tK 2] ++ List.replicate (n - j) [tK 0] = es at *
   have hwt : E5 1 (es.take j) := fun e he => hw e (List.mem_of_mem_take he)
   have hjn : min j n = j := by omega
   have w1 : IntKind.i64.wrap ((j : Int) + ((min (n - j) j : Nat) : Int)) = ((j + min (n - j) j : Nat) : Int) := by rw [A4] <;> omega
   simp [h4, h2, hl, hwt, hjn, w1, -Int.natCast_add]
   rw [hK]
   simpa using ih
theorem qAG (n : Nat) (hn : n ≤ 60000) : Ab Tryz.prog Γ 140 [.sl [[tK 2]] (some 1) (some false), tI n] (.sl (List.replicate n [tK 2]) none none) := by
 refine Ax Jo rfl ?_
 have em : A3 Tryz.prog Γ 163 [tU 1, tU n] (.tup [tU 0, tU n]) := by
  have := qAF (Γ := Γ) 1 n (by omega) (by omega)
  rwa [Nat.one_mul] at this
 have u1 : IntKind.u64.wrap (n : Int) = n := by rw [q4G] <;> omega
 have u2 : IntKind.u64.wrap 1 = 1 := by decide
 have u3 : IntKind.i64.wrap (n : Int) = n := by rw [A4] <;> omega
 have u4 : ¬ (9223372036854775807 : Int) < n := by omega
 have u5 : ¬ (n : Int) < 0 := by omega
 have hw2 : E5 1 [[tK 2]] := by intro e he; simp at he; subst he; rfl
 simp [Fz, u1, u2, u5]
 refine A0 em rfl ?_
 simp [u3, u4]
 refine ⟨by omega, ?_⟩
 by_cases h0 : n = 0
 ·subst h0
  simp
  refine D3 fun K hK => ?_
  simp [Cf, Ae]
 ·have hm1 : min n 1 = 1 := by omega
  have hdr : (List.replicate n [tK 0]).drop 1 = List.replicate (n - 1) [tK 0] := by rw [List.drop_replicate]
  have g := fun Q h0 => q7J (Γ := Γ) (Q := Q) n (by omega) h0 n 1 (by omega) (by omega) (by omega)
  simp at g
  simp [hm1]
  refine g _ ?_
  simp [Cf, Ae]
theorem qJg {n : Nat} (h : n < 4611686018427387904) : IntKind.i64.wrap ((n % 2 ^ IntKind.i64.bits &&& 1 % 2 ^ IntKind.i64.bits : Nat) : Int) = ((n % 2 : Nat) : Int) := by
 have e : (n % 2 ^ IntKind.i64.bits &&& 1 % 2 ^ IntKind.i64.bits : Nat) = n % 2 := by
  have h0 : IntKind.i64.bits = 64 := rfl
  rw [h0, Nat.mod_eq_of_lt (show n < 2 ^ 64 by omega), show 1 % 2 ^ 64 = 2 ^ 1 - 1 by decide, Nat.and_two_pow_sub_one_eq_mod]
 rw [e, A4] <;> omega
theorem qIp {n : Nat} : (n : Int).fdiv (2 ^ min 1 IntKind.i64.bits) = ((n / 2 : Nat) : Int) := by
 have h1 : min 1 IntKind.i64.bits = 1 := by decide
 rw [h1, Int.fdiv_eq_ediv_of_nonneg _ (by omega)]; omega
theorem qBR {Q : AX → St → Prop} (addr : Sl Int) (hl : addr.l.length ≤ 1000000) (hv : ∀ v ∈ addr.l, 0 ≤ v) (R : Bool)
  (h0 : ∀ i : Nat, decide (i = 0) = R → Q (.exit 0) ⟨[(0, .t (tI i)), (7, .t (tV addr)), (8, .t (tI addr.l.length)), (9, .t (tI addr.l.length)), (10, .t (tB false))], []⟩)
  (h1 : R = false → Q .ret ⟨[(4, .t (tB false))], []⟩) :
  ∀ (k j i : Nat), k + j = addr.l.length → i ≤ 1000000000 → P6 i (addr.l.drop j) = R →
  run Tryz.prog Γ H9 Q ⟨[(0, .t (tI i)), (7, .t (tV addr)), (8, .t (tI addr.l.length)), (9, .t (tI j))], []⟩
 | 0, j, i, h, hi, hR => by
  refine O4 fun K hK => ?_
  have h2 : j = addr.l.length := by omega
  subst h2
  rw [List.drop_of_length_le (Nat.le_refl _)] at hR
  have := h0 i hR
  simp
  simpa using this
 | k + 1, j, i, h, hi, hR => by
  refine O4 fun K hK => ?_
  have h2 : j < addr.l.length := by omega
  rw [List.drop_eq_getElem_cons h2] at hR
  have e1 := gE (f := tK) 0 h2
  have e1' := gE' (f := tK) 0 h2
  have hv0 := hv _ (List.getElem_mem h2)
  rw [Bg h2] at e1 e1'
  generalize addr.l[j] = v at *
  have w1 : IntKind.i64.wrap ((j : Int) + 1) = (j : Int) + 1 := by rw [A4] <;> omega
  have a1 := qJg (n := i) (by omega)
  have f1 := qIp (n := i)
  have hk := W3 (Γ := Γ) v
  simp only [P6] at hR
  simp [tV, A1, A5, h2, e1, e1']
  refine A0 hk rfl ?_
  by_cases hv1 : v ≤ 1
  ·have wv : IntKind.i64.wrap v = v := by rw [A4] <;> omega
   by_cases hne : v = (i : Int) % 2
   ·rw [if_neg (by simp [hne])] at hR
    have ih := qBR addr hl hv R h0 h1 k (j + 1) (i / 2) (by omega) (by omega) hR
    simp [Ot, hv1, wv, a1, ← hne, f1, w1]
    rw [hK]
    simpa [tV] using ih
   ·rw [if_pos ⟨hv1, hne⟩] at hR
    simp [Ot, hv1, wv, a1, hne]
    exact h1 hR.symm
  ·rw [if_neg (by simp [hv1])] at hR
   have ih := qBR addr hl hv R h0 h1 k (j + 1) (i / 2) (by omega) (by omega) hR
   simp [Ot, hv1, f1, w1]
   rw [hK]
   simpa [tV] using ih
theorem Bj {i : Nat} (h : i ≤ 1000000000) : IntKind.i64.wrap ((i : Int) + 1) = (i : Int) + 1 := by rw [A4] <;> omega
theorem q4H (i : Nat) (hi : i ≤ 1000000000) (addr : Sl Int) (hl : addr.l.length ≤ 1000000) (hv : ∀ v ∈ addr.l, 0 ≤ v) : A3 Tryz.prog Γ 122 [tI i, tV addr] (tB (P6 i addr.l)) := by
 refine A6 q1T rfl ?_
 have g := fun Q h0 h1 => qBR (Γ := Γ) (Q := Q) addr hl hv (P6 i addr.l) h0 h1 addr.l.length 0 i (by omega) hi rfl
 simp [U6, tV, A1] at g ⊢
 refine g _ (fun q hq => ?_) (fun hq => ?_)
 ·simp [Lh, ← hq]
 ·simp [Lh, hq]
theorem q4z (w : Sl Int) (b : Nat) (hb : b ≤ 1000000000) (hw : w.l.length ≤ 1000000000) : A3 Tryz.prog Γ 123 [tV w, tI b] (tK (Ym w.l b)) := by
 refine A6 q4w rfl ?_
 unfold Ym
 by_cases h : b < w.l.length
 ·have e1 := gE (f := tK) 0 h
  have e1' := gE' (f := tK) 0 h
  rw [if_pos h]
  have hr := Qo (Γ := Γ) (w.l.getD b 0)
  generalize w.l.getD b 0 = v at *
  have h2 : ¬ (w.l.length : Int) ≤ b := by omega
  have h3 : ¬ w.l.length ≤ b := by omega
  simp [Tm, tV, A1, A5, h, h2, h3, e1, e1']
  refine A0 hr rfl ?_
  simp [Tn]
 ·rw [if_neg h]
  have h2 : (w.l.length : Int) ≤ b := by omega
  have h3 : w.l.length ≤ b := by omega
  simp [Tm, tV, A1, h2, h3, Tn]
theorem q5b (a b : Int) : A3 Tryz.prog Γ 124 [tK a, tK b] (tK (q2g a b)) := by
 refine A6 q2I rfl ?_
 unfold q2g
 by_cases h : a = b
 ·simp [N5, h, N6]
 ·simp [N5, h, N6]
theorem qEG (n : Nat) (hn : n ≤ 60000) : Fe Tryz.prog Γ 140 [] [.t (.sl [[tK 2]] (some 1) (some false)), .t (tI n)] (.ls 30 0 n none) [(30, .sl 64 1 (Ag (List.replicate n 2)))] := by
 refine Hg Jo rfl ?_
 have em : A3 Tryz.prog Γ 163 [tU 1, tU n] (.tup [tU 0, tU n]) := by
  have := qAF (Γ := Γ) 1 n (by omega) (by omega)
  rwa [Nat.one_mul] at this
 have u1 : IntKind.u64.wrap (n : Int) = n := by rw [q4G] <;> omega
 have u2 : IntKind.u64.wrap 1 = 1 := by decide
 have u3 : IntKind.i64.wrap (n : Int) = n := by rw [A4] <;> omega
 have u4 : ¬ (9223372036854775807 : Int) < n := by omega
 have u5 : ¬ (n : Int) < 0 := by omega
 have hw2 : E5 1 [[tK 2]] := by intro e he; simp at he; subst he; rfl
 have v1 : Ag (List.replicate n 2) = List.replicate n [tK 2] := by simp [A9]
 rw [v1]
 simp [Fz, u1, u2, u5]
 refine A0 em rfl ?_
 simp [u3, u4]
 refine ⟨by omega, ?_⟩
 by_cases h0 : n = 0
 ·subst h0
  simp
  refine D3 fun K hK => ?_
  simp [Cf]
 ·have hm1 : min n 1 = 1 := by omega
  have hdr : (List.replicate n [tK 0]).drop 1 = List.replicate (n - 1) [tK 0] := by rw [List.drop_replicate]
  have g := fun Q h0 => q7J (Γ := Γ) (Q := Q) n (by omega) h0 n 1 (by omega) (by omega) (by omega)
  simp at g
  simp [hm1]
  refine g _ ?_
  simp [Cf]
theorem q0A (n : Nat) (hn : n ≤ 60000) : Ab Tryz.prog Γ 76 [tI n] (.sl (Ag (List.replicate n 2)) none none) := by
 refine Ax q1V rfl ?_
 have v1 : Ag (List.replicate n 2) = List.replicate n [tK 2] := by simp [A9]
 simp [U9]
 refine A8 (qAG n hn) rfl ?_
 simp [Ua, v1]
theorem qD6 (n : Nat) (hn : n ≤ 60000) : Fe Tryz.prog Γ 76 [] [.t (tI n)] (.ls 5030 0 n none) [(5030, .sl 64 1 (Ag (List.replicate n 2)))] := by
 refine Hg q0d rfl ?_
 simp [Sr]
 refine ⟨_, _, qEG n hn, ?_⟩
 simp [Ss]
def tW (s : Sl (Sl Int)) : T := .sl (A9 tV s.l) s.cap s.nl
def Sl.z : Sl Int := ⟨[], none, none⟩
theorem qFz {Q : AX → St → Prop} (addr : Sl Int) (n : Nat) (hn : n ≤ 1000000) (first : Bool) (w : Sl Int) (hw : w.l.length ≤ 1000000) (tw : T) (len i : Int) (R : List Int)
  (h0 : R.length = n → Q (.exit 2) ⟨[(1, .t (tV addr)), (5, .ls 22030 0 n none), (6, .t (tB first)), (8, .t (tV w)), (18, .t tw), (19, .t (tI len)), (20, .t (tI i)), (30, .t (tI n)), (31, .t (tI n)), (32, .t (tB false))], [(22030, .sl 64 1 (Ag R))]⟩) :
  ∀ (k b : Nat) (out : List Int), k + b = n → out.length = n → Ug w.l first k b out = R →
  run Tryz.prog Γ Kq Q ⟨[(1, .t (tV addr)), (5, .ls 22030 0 n none), (6, .t (tB first)), (8, .t (tV w)), (18, .t tw), (19, .t (tI len)), (20, .t (tI i)), (30, .t (tI n)), (31, .t (tI b))], [(22030, .sl 64 1 (Ag out))]⟩
 | 0, b, out, h, ho, hR => by
  refine Si fun K hK => ?_
  have h2 : b = n := by omega
  subst h2
  have hR : out = R := hR
  subst hR
  simp
  simpa using h0 ho
 | k + 1, b, out, h, ho, hR => by
  refine Si fun K hK => ?_
  have h2 : b < n := by omega
  have hbo : b < out.length := by omega
  simp only [Ug] at hR
  have ih := qFz addr n hn first w hw tw len i R h0 k (b + 1) _ (by omega) (by rw [List.length_set]; exact ho) hR
  have e1 := gE (f := tK) 0 hbo
  have e1' := gE' (f := tK) 0 hbo
  have hb := q4z (Γ := Γ) w b (by omega) (by omega)
  have hs : ∀ v : Int, (Ag out).set b [tK v] = Ag (out.set b v) := fun v => Gj
  have w1 := Bj (i := b) (by omega)
  generalize out.getD b 0 = o at *
  cases first with
  | true =>
   simp only [if_pos] at ih
   simp [h2]
   refine A0 hb rfl ?_
   simp [h2, hbo, A1, hs, w1, ho]
   rw [hK]
   simpa using ih
  | false =>
   simp only [Bool.false_eq_true, if_false] at ih
   simp [h2, hbo, A1, A5, e1, e1', ho]
   refine A0 hb rfl ?_
   simp
   refine A0 (q5b o (Ym w.l b)) rfl ?_
   simp [h2, hbo, A1, hs, w1, ho]
   rw [hK]
   simpa using ih
theorem qEH {Q : AX → St → Prop} (addr : Sl Int) (ha : addr.l.length ≤ 1000000) (hv : ∀ v ∈ addr.l, 0 ≤ v) (n : Nat) (hn : n ≤ 1000000) (words : Sl (Sl Int)) (hl : words.l.length ≤ 1000000) (hw : ∀ w ∈ words.l, w.l.length ≤ 1000000) (R : List Int × Bool)
  (h0 : R.1.length = n → Q (.exit 0) ⟨[(1, .t (tV addr)), (5, .ls 22030 0 n none), (6, .t (tB R.2)), (18, .t (tW words)), (19, .t (tI words.l.length)), (20, .t (tI words.l.length)), (21, .t (tB false))], [(22030, .sl 64 1 (Ag R.1))]⟩) :
  ∀ (k i : Nat) (out : List Int) (first : Bool), k + i = words.l.length → out.length = n → q1d addr.l i ((words.l.drop i).map (·.l)) (out, first) = R →
  run Tryz.prog Γ Kr Q ⟨[(1, .t (tV addr)), (5, .ls 22030 0 n none), (6, .t (tB first)), (18, .t (tW words)), (19, .t (tI words.l.length)), (20, .t (tI i))], [(22030, .sl 64 1 (Ag out))]⟩
 | 0, i, out, first, h, ho, hR => by
  refine Sj fun K hK => ?_
  have h2 : i = words.l.length := by omega
  subst h2
  rw [List.drop_of_length_le (Nat.le_refl _)] at hR
  have hR : (out, first) = R := hR
  subst hR
  have := h0 ho
  simp
  simpa using this
 | k + 1, i, out, first, h, ho, hR => by
  refine Sj fun K hK => ?_
  have h2 : i < words.l.length := by omega
  rw [List.drop_eq_getElem_cons h2, List.map_cons] at hR
  simp only [q1d] at hR
  have e1 := gE (f := tV) Sl.z h2
  have e1' := gE' (f := tV) Sl.z h2
  have hwi := hw _ (List.getElem_mem h2)
  rw [show words.l.getD i Sl.z = words.l[i] by simp [List.getD_eq_getElem?_getD, h2]] at e1 e1'
  have hm := q4H (Γ := Γ) i (by omega) addr ha hv
  have w1 := Bj (i := i) (by omega)
  by_cases hmm : P6 i addr.l = true
  ·rw [if_pos hmm] at hR
   have hlen : ∀ (w : List Int) (f : Bool) (k b : Nat) (o : List Int), (Ug w f k b o).length = o.length := by
    intro w f k
    induction k with
    | zero => intro b o; rfl
    | succ k ih => intro b o; simp only [Ug]; rw [ih, List.length_set]
   have ih := qEH addr ha hv n hn words hl hw R h0 k (i + 1) _ _ (by omega) (by rw [hlen]; exact ho) hR
   generalize words.l[i] = w at *
   have g := fun Q h0 => qFz (Γ := Γ) (Q := Q) addr n hn first w hwi (tW words) words.l.length i (Ug w.l first n 0 out) h0 n 0 out (by omega) ho rfl
   simp only [ho] at ih
   generalize Ug w.l first n 0 out = R1 at *
   rw [hmm] at hm
   simp [tW] at ih g
   simp [tW, A1, A5, h2, e1, e1']
   refine A0 hm rfl ?_
   simp [h2]
   refine g _ fun hR1 => ?_
   simp [w1]
   rw [hK]
   simpa using ih
  ·rw [if_neg hmm] at hR
   have ih := qEH addr ha hv n hn words hl hw R h0 k (i + 1) _ _ (by omega) ho hR
   generalize words.l[i] = w at *
   simp only [Bool.not_eq_true] at hmm
   rw [hmm] at hm
   simp [tW] at ih
   simp [tW, A1, A5, h2, e1, e1']
   refine A0 hm rfl ?_
   simp [w1]
   rw [hK]
   simpa using ih
theorem q8S (words : Sl (Sl Int)) (hl : words.l.length ≤ 1000000) (hw : ∀ w ∈ words.l, w.l.length ≤ 60000) (addr : Sl Int) (ha : addr.l.length ≤ 1000000) (hv : ∀ v ∈ addr.l, 0 ≤ v) :
  Ab Tryz.prog Γ 54 [tW words, tV addr] (if words.l = [] then .sl [] (some 0) (some true) else .sl (Ag (Uh (words.l.map (·.l)) addr.l)) none none) := by
 refine Ax q4B rfl ?_
 by_cases h0 : words.l = []
 ·rw [if_pos h0]
  simp [Qr, tW, h0, Gk, Qs]
 ·rw [if_neg h0]
  have h1 : 0 < words.l.length := List.length_pos_iff.2 h0
  have e1 := gE (f := tV) Sl.z h1
  have e1' := gE' (f := tV) Sl.z h1
  rw [show words.l.getD 0 Sl.z = words.l[0] by simp [List.getD_eq_getElem?_getD, h1]] at e1 e1'
  have hw0 := hw _ (List.getElem_mem h1)
  have hu := qD6 (Γ := Γ) words.l[0].l.length hw0
  have hR : Uh (words.l.map (·.l)) addr.l = (q1d addr.l 0 (words.l.map (·.l)) (List.replicate words.l[0].l.length 2, true)).1 := by
   obtain ⟨l, cp, n0⟩ := words
   cases l with
   | nil => exact absurd rfl h0
   | cons w ws => rfl
  rw [hR]
  generalize words.l[0] = w at *
  have g := fun Q h0 => qEH (Γ := Γ) (Q := Q) addr ha hv w.l.length (by omega) words hl (fun w h => by have := hw w h; omega) (q1d addr.l 0 (words.l.map (·.l)) (List.replicate w.l.length 2, true)) h0 words.l.length 0 (List.replicate w.l.length 2) true (by omega) (by simp) (by rw [List.drop_zero])
  generalize q1d addr.l 0 (words.l.map (·.l)) (List.replicate w.l.length 2, true) = R at *
  obtain ⟨R1, R2⟩ := R
  simp [tW] at g
  simp only [tV] at e1 e1'
  have h0' : ¬ (words.l.length : Int) = 0 := by omega
  simp [Qr, tW, h0, h0', h1, A1, A5, e1, e1']
  refine ⟨_, _, hu, ?_⟩
  simp [A1]
  refine g _ fun hR1 => ?_
  have vt : (Ag R1).take w.l.length = Ag R1 := by rw [← hR1]; exact D1
  simp [Qs, Ae, vt]
theorem q0B {i : Nat} {addr data w : List Int} {en : Int} : ∀ {k b : Nat}, (Qv i addr data en w k b).length = k
 | 0, _ => rfl
 | k + 1, b => by simp [Qv, q0B]
theorem q3O {i : Nat} {addr data w : List Int} {en : Int} : ∀ {k b j : Nat}, j < k → (Qv i addr data en w k b).getD j 0 = q1e i addr en (Ym w (b + j)) (Ym data (b + j))
 | k + 1, b, 0, _ => rfl
 | k + 1, b, j + 1, h => by
  show (Qv i addr data en w k (b + 1)).getD j 0 = _
  rw [q3O (by omega), show b + 1 + j = b + (j + 1) by omega]
theorem qAH {hp : List (Nat × B0)} {k : Nat} : ∀ (l : List T), Aj ((l.map AV.t).map (Ae hp k)) = some l
 | [] => rfl
 | t :: l => by
  have ih := qAH (hp := hp) (k := k) l
  cases k <;> simp only [List.map_cons, Ae, Aj, ih] <;> rfl
theorem qG0 {Q : AX → St → Prop} (addr data : Sl Int) (ha : addr.l.length ≤ 1000000) (hv : ∀ v ∈ addr.l, 0 ≤ v) (hd : data.l.length ≤ 1000000) (en : Int) (tw : T) (n i : Nat) (hi : i < n) (hn : n ≤ 1000000) (w : Sl Int) (hw : w.l.length ≤ 1000000) (cells : List AV)
  (hcl : i + 1 ≤ cells.length) (hc : (cells.drop i).take 1 = [.ls 37 0 w.l.length none]) (R : List Int) (hRl : R.length = w.l.length) (hR : ∀ b, b < w.l.length → R.getD b 0 = q1e i addr.l en (Ym w.l b) (Ym data.l b))
  (h0 : Q (.exit 2) ⟨[(1, .t (tV addr)), (2, .t (tV data)), (3, .t (tK en)), (9, .t (tB (q4F addr.l en))), (10, .lb 25 n), (11, .t (tI i)), (12, .t (tV w)), (26, .t tw), (27, .t (tI n)), (28, .t (tI i)), (49, .t (tI w.l.length)), (50, .t (tI w.l.length)), (51, .t (tB false))], [(25, .bx cells), (37, .sl 64 1 (Ag R))]⟩) :
  ∀ (k b : Nat) (row : List Int), k + b = w.l.length → row = R.take b ++ w.l.drop b →
  run Tryz.prog Γ Jh Q ⟨[(1, .t (tV addr)), (2, .t (tV data)), (3, .t (tK en)), (9, .t (tB (q4F addr.l en))), (10, .lb 25 n), (11, .t (tI i)), (12, .t (tV w)), (26, .t tw), (27, .t (tI n)), (28, .t (tI i)), (49, .t (tI w.l.length)), (50, .t (tI b))], [(25, .bx cells), (37, .sl 64 1 (Ag row))]⟩
 | 0, b, row, h, hr => by
  refine Q0 fun K hK => ?_
  have h2 : b = w.l.length := by omega
  subst h2
  rw [List.drop_length, List.append_nil, ← hRl, List.take_length] at hr
  subst hr
  simp
  simpa using h0
 | k + 1, b, row, h, hr => by
  refine Q0 fun K hK => ?_
  have h2 : b < w.l.length := by omega
  have h2R : b < R.length := by omega
  have hrl : row.length = w.l.length := by rw [hr]; simp; omega
  have ih := qG0 addr data ha hv hd en tw n i hi hn w hw cells hcl hc R hRl hR h0 k (b + 1) _ (by omega) rfl
  have hset : ∀ v : Int, v = R.getD b 0 → (Ag row).set b [tK v] = Ag (R.take (b + 1) ++ w.l.drop (b + 1)) := by
   rintro v rfl
   rw [show (Ag row).set b [tK (R.getD b 0)] = Ag (row.set b (R.getD b 0)) from Gj, hr]
   congr 1
   have ht : (R.take b).length = b := by rw [List.length_take]; omega
   rw [List.set_append_right _ _ (by omega), ht, Nat.sub_self, List.drop_eq_getElem_cons h2, List.set_cons_zero, show R.take (b + 1) = R.take b ++ [R.getD b 0] by rw [List.take_add_one, List.getElem?_eq_getElem h2R, Bg h2R]; rfl, List.append_assoc]
   rfl
  have hRb := hR b h2
  have hb1 := q4z (Γ := Γ) w b (by omega) (by omega)
  have hb2 := q4z (Γ := Γ) data b (by omega) (by omega)
  have hm := q4H (Γ := Γ) i (by omega) addr ha hv
  have w1 := Bj (i := b) (by omega)
  generalize R.take (b + 1) ++ w.l.drop (b + 1) = row' at *
  generalize R.getD b 0 = v at *
  generalize Ym w.l b = o at *
  generalize Ym data.l b = d at *
  unfold q1e at hRb
  generalize q4F addr.l en = su at *
  have hcv := q5b (Γ := Γ) o d
  have hii : (i : Int) < n := by omega
  simp [h2]
  refine A0 hb1 rfl ?_
  simp
  refine A0 hb2 rfl ?_
  by_cases he : en = 0
  ·rw [if_pos (.inl he)] at hRb
   subst hRb
   simp [he, hi, hii, hcl, hc, hrl, h2, A1, hset, w1]
   rw [hK]
   simpa [he] using ih
  ·simp [he]
   refine A0 hm rfl ?_
   cases hmm : P6 i addr.l with
   | false =>
    rw [if_pos (.inr hmm)] at hRb
    subst hRb
    simp [hmm, hi, hii, hcl, hc, hrl, h2, A1, hset, w1]
    rw [hK]
    simpa using ih
   | true =>
    rw [if_neg (by simp [he, hmm])] at hRb
    cases su with
    | true =>
     rw [if_pos rfl] at hRb
     subst hRb
     simp [hmm, hi, hii, hcl, hc, hrl, h2, A1, hset, w1]
     rw [hK]
     simpa using ih
    | false =>
     rw [if_neg (by simp)] at hRb
     simp [hmm, hi, hii, hcl, hc, hrl, h2, A1, w1]
     refine A0 hcv rfl ?_
     rw [← hRb]
     simp [hi, hii, hcl, hc, hrl, h2, A1, hset, w1]
     rw [hK]
     simpa using ih
def q3P (done : List (List Int)) (n : Nat) : List AV := (done.map fun r => T.sl (Ag r) none none).map AV.t ++ List.replicate (n - done.length) (AV.t (T.sl [] (some 0) (some true)))
theorem qEI {done : List (List Int)} {n : Nat} (h : done.length ≤ n) : (q3P done n).length = n := by simp [q3P]; omega
theorem qEJ {done : List (List Int)} {n : Nat} (h : done.length < n) (a : AV) : (q3P done n).take done.length ++ [a] ++ (q3P done n).drop (done.length + 1) = (done.map fun r => T.sl (Ag r) none none).map AV.t ++ [a] ++ List.replicate (n - (done.length + 1)) (AV.t (T.sl [] (some 0) (some true))) := by
 have e : ((done.map fun r => T.sl (Ag r) none none).map AV.t).length = done.length := by simp
 unfold q3P
 rw [show n - done.length = (n - (done.length + 1)) + 1 by omega, List.replicate_succ]
 rw [List.take_append_of_le_length (by omega), List.take_of_length_le (by omega), List.drop_append, List.drop_of_length_le (by omega), e, show done.length + 1 - done.length = 1 by omega]
 simp
theorem qEK {done : List (List Int)} {n : Nat} (h : done.length < n) (R : List Int) (ty : Nat) :
  ((done.map fun r => T.sl (Ag r) none none).map AV.t ++ [AV.ls 37 0 R.length none] ++ List.replicate (n - (done.length + 1)) (AV.t (T.sl [] (some 0) (some true)))).map (Cm 37 (.sl ty 1 (Ag R))) = q3P (done ++ [R]) n := by
 have vt : (Ag R).take R.length = Ag R := D1
 unfold q3P
 simp [Cm, frz1, frz0, Ae, A2, vt, Function.comp_def]
theorem qG1 {Q : AX → St → Prop} (addr data : Sl Int) (ha : addr.l.length ≤ 1000000) (hv : ∀ v ∈ addr.l, 0 ≤ v) (hd : data.l.length ≤ 1000000) (en : Int) (words : Sl (Sl Int)) (hl : words.l.length ≤ 1000000) (hw : ∀ w ∈ words.l, w.l.length ≤ 1000000) (R : List (List Int)) (hRl : R.length = words.l.length)
  (h0 : Q (.exit 0) ⟨[(1, .t (tV addr)), (2, .t (tV data)), (3, .t (tK en)), (9, .t (tB (q4F addr.l en))), (10, .lb 25 words.l.length), (26, .t (tW words)), (27, .t (tI words.l.length)), (28, .t (tI words.l.length)), (29, .t (tB false))], [(25, .bx (q3P R words.l.length))]⟩) :
  ∀ (k : Nat) (done : List (List Int)), k + done.length = words.l.length → done ++ E7 addr.l data.l en done.length ((words.l.drop done.length).map (·.l)) = R →
  run Tryz.prog Γ Ji Q ⟨[(1, .t (tV addr)), (2, .t (tV data)), (3, .t (tK en)), (9, .t (tB (q4F addr.l en))), (10, .lb 25 words.l.length), (26, .t (tW words)), (27, .t (tI words.l.length)), (28, .t (tI done.length))], [(25, .bx (q3P done words.l.length))]⟩
 | 0, done, h, hR => by
  refine Q1 fun K hK => ?_
  have h2 : done.length = words.l.length := by omega
  rw [List.drop_of_length_le (by omega)] at hR
  simp only [List.map_nil, E7, List.append_nil] at hR
  subst hR
  simp [h2]
  simpa using h0
 | k + 1, done, h, hR => by
  refine Q1 fun K hK => ?_
  have h2 : done.length < words.l.length := by omega
  rw [List.drop_eq_getElem_cons h2, List.map_cons] at hR
  simp only [E7] at hR
  have e1 := gE (f := tV) Sl.z h2
  have e1' := gE' (f := tV) Sl.z h2
  have hwi := hw _ (List.getElem_mem h2)
  rw [show words.l.getD done.length Sl.z = words.l[done.length] by simp [List.getD_eq_getElem?_getD, h2]] at e1 e1'
  have hrow : (Qv done.length addr.l data.l en words.l[done.length].l words.l[done.length].l.length 0).length = words.l[done.length].l.length := q0B
  have hget := fun b (hb : b < words.l[done.length].l.length) => q3O (i := done.length) (addr := addr.l) (data := data.l) (en := en) (w := words.l[done.length].l) (b := 0) hb
  simp only [Nat.zero_add] at hget
  have ih := qG1 addr data ha hv hd en words hl hw R hRl h0 k (done ++ [Qv done.length addr.l data.l en words.l[done.length].l words.l[done.length].l.length 0]) (by simp; omega) (by rw [← hR]; simp)
  generalize words.l[done.length] = w at *
  generalize Qv done.length addr.l data.l en w.l w.l.length 0 = row at *
  have hcl := qEI (done := done) (n := words.l.length) (by omega)
  have hput := qEJ h2 (.ls 37 0 w.l.length none)
  have hfz := qEK h2 row 64
  rw [hrow] at hfz
  have g := fun Q cells hc1 hc2 h0 => qG0 (Γ := Γ) (Q := Q) addr data ha hv hd en (tW words) words.l.length done.length h2 hl w hwi cells hc1 hc2 row hrow hget h0 w.l.length 0 w.l (by omega) (by simp)
  generalize hC0 : q3P done words.l.length = C0 at *
  generalize hC1 : (done.map fun r => T.sl (Ag r) none none).map AV.t ++ [AV.ls 37 0 w.l.length none] ++ List.replicate (words.l.length - (done.length + 1)) (AV.t (T.sl [] (some 0) (some true))) = C1 at *
  have hc1 : done.length + 1 ≤ C1.length := by rw [← hC1]; simp
  have hc2 : (C1.drop done.length).take 1 = [.ls 37 0 w.l.length none] := by
   rw [← hC1, List.append_assoc, List.drop_append, List.drop_of_length_le (by simp)]
   simp
  have g := fun Q h0 => g Q C1 hc1 hc2 h0
  have w1 := Bj (i := done.length) (by omega)
  have hz : List.replicate w.l.length [T.v (Value.int .u8 0)] = Ag (List.replicate w.l.length 0) := by simp [A9]
  have hcp : (Ag w.l).take w.l.length = Ag w.l := D1
  have hdl : (Ag (List.replicate w.l.length (0 : Int))).drop w.l.length = [] := by rw [List.drop_of_length_le (by simp [A9])]
  have hii : (done.length : Int) < words.l.length := by omega
  simp [tW] at ih g
  simp only [tV] at e1 e1' g ih
  rw [List.append_assoc, List.singleton_append] at hput
  simp [tV, tW, A1, A5, h2, e1, e1']
  simp [hz, A1, A5, h2, hii, hcl, hput, hc1, hc2, hcp, hdl]
  refine ⟨by omega, by omega, by omega, g _ ?_⟩
  simp [w1, St.freeze, B0.closed, Cm, frz1, frz0, G9, del, hfz]
  rw [hK]
  simpa using ih
theorem qAI (v : Int) : A3 Tryz.prog Γ 125 [tK v] (tB (!Ot v)) := by
 refine A6 q1U rfl ?_
 simp [U7]
 refine A0 (W3 v) rfl ?_
 simp [U8]
def qCH (R : List (List Int)) : T := .sl ((R.map fun r => T.sl (Ag r) none none).map fun t => [t]) (some R.length) none
theorem q3Q {addr data : List Int} {en : Int} : ∀ {ws : List (List Int)} {i : Nat}, (E7 addr data en i ws).length = ws.length
 | [], _ => rfl
 | w :: ws, i => by simp [E7, q3Q]
theorem q7K (words : Sl (Sl Int)) (hl : words.l.length ≤ 1000000) (hw : ∀ w ∈ words.l, w.l.length ≤ 1000000) (addr data : Sl Int) (ha : addr.l.length ≤ 1000000) (hv : ∀ v ∈ addr.l, 0 ≤ v) (hd : data.l.length ≤ 1000000) (en : Int) :
  Ab Tryz.prog Γ 55 [tW words, tV addr, tV data, tK en] (qCH (E7 addr.l data.l en 0 (words.l.map (·.l)))) := by
 refine Ax q3J rfl ?_
 have hcf := Kp (Γ := Γ) addr.l addr.cap addr.nl 125 [] (fun v => !Ot v) (fun x _ => qAI x) (by omega)
 have hRl : (E7 addr.l data.l en 0 (words.l.map (·.l))).length = words.l.length := by rw [q3Q, List.length_map]
 have g := fun Q h0 => qG1 (Γ := Γ) (Q := Q) addr data ha hv hd en words hl hw (E7 addr.l data.l en 0 (words.l.map (·.l))) hRl h0 words.l.length [] (by simp) (by simp)
 have hsu : q4F addr.l en = if en = 1 then !addr.l.any (fun v => !Ot v) else false := by
  unfold q4F
  by_cases h : en = 1 <;> simp [h]
 have hall := qAH (hp := [(25, B0.bx (q3P (E7 addr.l data.l en 0 (words.l.map (·.l))) words.l.length))]) (k := 3) ((E7 addr.l data.l en 0 (words.l.map (·.l))).map fun r => T.sl (Ag r) none none)
 have hst : q3P (E7 addr.l data.l en 0 (words.l.map (·.l))) words.l.length = ((E7 addr.l data.l en 0 (words.l.map (·.l))).map fun r => T.sl (Ag r) none none).map AV.t := by
  unfold q3P
  rw [hRl, Nat.sub_self]
  simp
 have h0 : q3P [] words.l.length = List.replicate words.l.length (AV.t (T.sl [] (some 0) (some true))) := by simp [q3P]
 rw [h0] at g
 rw [hst] at g hall
 generalize E7 addr.l data.l en 0 (words.l.map (·.l)) = R at *
 have hT : qCH R = .sl ((R.map fun r => T.sl (Ag r) none none).map fun t => [t]) (some words.l.length) none := by rw [← hRl]; rfl
 rw [hT]
 generalize (R.map fun r => T.sl (Ag r) none none) = RT at *
 rw [List.map_map] at hall
 simp [tW, tV] at g
 by_cases he : en = 1
 ·rw [if_pos he] at hsu
  simp [P3, tW, tV, he]
  refine A0 hcf rfl ?_
  rw [hsu, he] at g
  simp [A1]
  refine ⟨by omega, g _ ?_⟩
  simp [P4, Ae, hall]
 ·rw [if_neg he] at hsu
  rw [hsu] at g
  simp [P3, tW, tV, he, A1]
  refine ⟨by omega, g _ ?_⟩
  simp [P4, Ae, hall]
end Go.Lg
namespace Go.Lg
open Go
section
variable {P : Program} {Γ : Tables} {Q : AX → St → Prop} {s : St}
/- probecard/probecardref01.Choices (function 130) -/
abbrev q5c : IC := .gh (.seq (.seq (.reg [om 7 6, od 8 (fa 0 2), od 9 (ld 1 8), od 10 (le 0 9), od 11 (.bin .lss (tm 7) (tm 10))] [kp [1, 2, 5, 6, 11] [25]]) (.cond (tm 11) .skip (.exit 0))) (.seq (.block 1 (.seq (.reg [od 14 (fa 0 2), od 15 (ld 1
 14), om 16 6, od 17 (ia 4 15 16), od 18 (fa 0 17), od 19 (ld 1 18), om 20 1, od 21 (.bin .eql (tm 19) (tm 20))] [kp [1, 2, 5, 6, 21] [25]]) (.cond (tm 21) (.reg [om 22 5, om 23 6, od 24 (.bsl true 3 1 [(tm 23)]), od 25 (.app false
 3 1 (tm 22) (tm 24)), om 5 25] [kp [1, 2, 5, 6] [25]]) .skip))) (.reg [om 12 6, od 13 (.bin .add (tm 12) (ki 1)), om 6 13] [kp [1, 2, 5, 6] [25]]))) [kp [1, 2, 5, 6] [25]]
def Y3 : IC := .loop q5c
abbrev q5d : IC := (.seq (.reg [od 2 (.box true (tm 0)), od 4 (.mv kN)] [kp [1, 2] []]) (.seq (.reg [od 5 (.mv kN)] [.nl 5 25 3 1, kp [1, 2, 5] [25]]) (.seq (.seq (.reg [od 6 (.mv (ki 0))] [kp [1, 2, 5, 6] [25]]) (.block 0 Y3)) (.seq (.reg
 [om 26 5, om 4 26] [kp [4] [25]]) .ret))))
theorem q0R (h : ∀ K : St → Prop, K = run P Γ Y3 Q → run P Γ q5c (Ao K Q) s) : run P Γ Y3 Q s := Ad h
def q5e : List RV := [.tmp 4]
/- probecard/probecardref03.Levels (function 159) -/
end
end Go.Lg
namespace Go.Lg
open Go Go.Proofs
theorem q8v : Aq Tryz.prog 60 q5d 27 2 q5e = true := by kernel_rfl
end Go.Lg
namespace Go.Lg
open Go Go.Proofs
variable {Γ : Tables}
def Sm (B : Nat) (t : T3) : Prop := (0 ≤ t.a ∧ t.a ≤ B) ∧ (0 ≤ t.b ∧ t.b ≤ B) ∧ (0 ≤ t.d ∧ t.d ≤ B)
theorem Sm.mono {B C : Nat} (hBC : B ≤ C) {t : T3} (h : Sm B t) : Sm C t := by
 obtain ⟨⟨a0, a1⟩, ⟨b0, b1⟩, ⟨d0, d1⟩⟩ := h
 exact ⟨⟨a0, by omega⟩, ⟨b0, by omega⟩, ⟨d0, by omega⟩⟩
theorem q8w {c : B1} {n : Int} (h0 : 0 ≤ n) (h : n < c.nodes.l.length) : ∀ h' : n.toNat < (B8 Gq c.nodes.l).length, (B8 Gq c.nodes.l)[n.toNat]'h' = Gq (nd c n) := fun h' => by
 have := q75 h0 h
 rw [List.getElem?_eq_getElem h'] at this
 simpa using this
theorem qEL {Q : AX → St → Prop} (c : B1) (hc : COk c) (k : Int) (hn : c.nodes.l.length ≤ 1000000)
  (h0 : Q (.exit 0) ⟨[(1, .t (tK k)), (2, .t (.ip (tC c) 0)), (5, .ls 25 0 (K9 [k] c.nodes.l 0).length none), (6, .t (tI c.nodes.l.length)), (11, .t (tB false))], [(25, .sl 3 1 (Bw (K9 [k] c.nodes.l 0)))]⟩) :
  ∀ (f i : Nat), f + i = c.nodes.l.length → run Tryz.prog Γ Y3 Q ⟨[(1, .t (tK k)), (2, .t (.ip (tC c) 0)), (5, .ls 25 0 (K9 [k] (c.nodes.l.take i) 0).length none), (6, .t (tI i))], [(25, .sl 3 1 (Bw (K9 [k] (c.nodes.l.take i) 0)))]⟩
 | 0, i, h => by
  refine q0R fun K hK => ?_
  have h2 : i = c.nodes.l.length := by omega
  subst h2
  rw [List.take_length]
  simp [tC, A7, Ac, Af, Bo] at h0
  simp [tC, A7, Ac, Af, Bo, Aa]
  simpa using h0
 | f + 1, i, h => by
  refine q0R fun K hK => ?_
  have h2 : i < c.nodes.l.length := by omega
  have ih := qEL c hc k hn h0 f (i + 1) (by omega)
  rw [qA8 h2] at ih
  have hget := q75 (c := c) (n := (i : Int)) (by omega) (by omega)
  have hget' := q8w (c := c) (n := (i : Int)) (by omega) (by omega)
  have hk : (nd c i).k = Ar c i := by simp [nd, Ar]
  simp only [Int.toNat_natCast] at hget hget'
  have hle := Up [k] (c.nodes.l.take i) 0
  rw [List.length_take] at hle
  generalize nd c i = x at *
  generalize K9 [k] (c.nodes.l.take i) 0 = out at *
  have w1 : IntKind.i64.wrap ((i : Int) + 1) = (i : Int) + 1 := by rw [A4] <;> omega
  have vt : (Bw out).take out.length = Bw out := An
  have vs : Bw out ++ [[tI i]] = Bw (out ++ [(i : Int)]) := C6
  by_cases h1 : x.k = k
  ·have hkk : [k].contains (Ar c i) = true := by rw [← hk, h1]; simp
   rw [hkk, if_pos rfl] at ih
   simp [tC, A7, Ac, Af, Bo] at ih
   simp [tC, A7, Ac, Af, Bo, Aa, h2, Bl, hget, hget', Gq, h1, A1, A5, vt, vs, w1]
   refine ⟨by omega, ?_⟩
   rw [hK]
   simpa using ih
  ·have hkk : [k].contains (Ar c i) = false := by rw [← hk]; simp; exact h1
   rw [hkk, if_neg (by simp), List.append_nil] at ih
   simp [tC, A7, Ac, Af, Bo] at ih
   simp [tC, A7, Ac, Af, Bo, Aa, h2, Bl, hget, hget', Gq, h1, w1]
   rw [hK]
   simpa using ih
theorem qBS (c : B1) (hc : COk c) (k : Int) (hn : c.nodes.l.length ≤ 1000000) : Ab Tryz.prog Γ 60 [.agg (tC c), tK k] (.sl (Bw (K9 [k] c.nodes.l 0)) none none) := by
 refine Ax q8v rfl ?_
 have g := fun Q h0 => qEL (Γ := Γ) (Q := Q) c hc k hn h0 c.nodes.l.length 0 (by omega)
 have ht : (Bw (K9 [k] c.nodes.l 0)).take (K9 [k] c.nodes.l 0).length = Bw (K9 [k] c.nodes.l 0) := An
 have hz : K9 [k] (c.nodes.l.take 0) 0 = [] := rfl
 rw [hz] at g
 simp only [List.length_nil, Gk] at g
 generalize K9 [k] c.nodes.l 0 = R at *
 simp [tC, A7, Ac, Af, Bo] at g
 simp [q5d, tC, A7, Ac, Af, Bo]
 refine g _ ?_
 simp [q5e, Ae, ht]
structure Q9 where
 dff : Sl Int
 words : Sl (Sl (Sl Int))
 read : Sl (Sl Int)
def tWs (s : Sl (Sl (Sl Int))) : T := .sl (A9 tW s.l) s.cap s.nl
def C9 (s : Q9) : List T := [tV s.dff, tWs s.words, tW s.read]
def Q9.rd (s : Q9) : List (List Int) := s.read.l.map (·.l)
def Q9.ws (s : Q9) : List (List (List Int)) := s.words.l.map fun w => w.l.map (·.l)
def Sl.zz : Sl (Sl Int) := ⟨[], none, none⟩
def Bc (nets : List Int) (l : List Int) : List Int := l.map fun k => nets.getD k.toNat 0
theorem qG2 {Q : AX → St → Prop} (c : B1) (nets : Sl Int) (hn : nets.l.length ≤ 1000000) (l : Sl Int) (hl : l.l.length ≤ 1000000) (hin : ∀ k ∈ l.l, 0 ≤ k ∧ k < nets.l.length) (R : List Int)
  (h0 : R.length = l.l.length → Q (.exit 0) ⟨[(2, .t (.ip (Le c nets) 0)), (5, .ls 10 0 l.l.length none), (11, .t (Bo l)), (12, .t (tI l.l.length)), (13, .t (tI l.l.length)), (14, .t (tB false))], [(10, .sl 64 1 (Ag R))]⟩) :
  ∀ (k i : Nat) (out : List Int), k + i = l.l.length → out.length = i → out ++ Bc nets.l (l.l.drop i) = R →
  run Tryz.prog Γ Dw Q ⟨[(2, .t (.ip (Le c nets) 0)), (5, .ls 10 0 i none), (11, .t (Bo l)), (12, .t (tI l.l.length)), (13, .t (tI i))], [(10, .sl 64 1 (Ag out))]⟩
 | 0, i, out, h, ho, hR => by
  refine Hm fun K hK => ?_
  have h2 : i = l.l.length := by omega
  subst h2
  rw [List.drop_length] at hR
  simp only [Bc, List.map_nil, List.append_nil] at hR
  subst hR
  have := h0 ho
  simp [Bo] at this
  simp [Bo]
  simpa using this
 | k + 1, i, out, h, ho, hR => by
  refine Hm fun K hK => ?_
  have h2 : i < l.l.length := by omega
  rw [List.drop_eq_getElem_cons h2] at hR
  simp only [Bc, List.map_cons] at hR
  have e1 := gE (f := tI) 0 h2
  have e1' := gE' (f := tI) 0 h2
  obtain ⟨q0, q1⟩ := hin _ (List.getElem_mem h2)
  rw [Bg h2] at e1 e1'
  generalize l.l[i] = q at *
  have h3 : q.toNat < nets.l.length := by omega
  have e2 := gE (f := tK) 0 h3
  have e2' := gE' (f := tK) 0 h3
  have ih := qG2 c nets hn l hl hin R h0 k (i + 1) (out ++ [nets.l.getD q.toNat 0]) (by omega) (by simp [ho]) (by rw [← hR]; simp [Bc])
  generalize nets.l.getD q.toNat 0 = v at *
  have vs := O3 (l := out) (v := v)
  have vt : (Ag out).take i = Ag out := by rw [← ho]; exact D1
  have w1 := Bj (i := i) (by omega)
  simp [Le, A7, Ac, Af, Bo, tV] at ih
  simp [Le, A7, Ac, Af, Bo, tV, A1, A5, h2, e1, e1', q0, q1, h3, e2, e2', vt, vs, ho, w1]
  refine ⟨by omega, ?_⟩
  rw [hK]
  simpa using ih
theorem q0C (c : B1) (nets : Sl Int) (hn : nets.l.length ≤ 1000000) (l : Sl Int) (hl : l.l.length ≤ 1000000) (hin : ∀ k ∈ l.l, 0 ≤ k ∧ k < nets.l.length) :
  A3 Tryz.prog Γ 50 [.agg (Le c nets), Bo l] (tV ⟨Bc nets.l l.l, none, none⟩) := by
 refine A6 Uz rfl ?_
 have g := fun Q h0 => qG2 (Γ := Γ) (Q := Q) c nets hn l hl hin (Bc nets.l l.l) h0 l.l.length 0 [] (by omega) rfl (by simp)
 generalize Bc nets.l l.l = R at *
 simp [Le, A7, Ac, Af, Bo, tV, Gk] at g
 simp [K3, Le, A7, Ac, Af, Bo, tV, A1]
 refine ⟨by omega, g _ fun hR => ?_⟩
 have vt : (Ag R).take l.l.length = Ag R := by rw [← hR]; exact D1
 simp [K4, Ae, vt]
theorem qG3 {Q : AX → St → Prop} (c : B1) (s : Q9) (inn : Sl Int) (ns : List Int) (cap : Option Nat) (n : Nat) (hn : n ≤ 1000000) (hns : ns.length ≤ n) (hin : ∀ x ∈ ns, 0 ≤ x ∧ x < n) (hp : inn.l.length = ns.length) (R : List Int)
  (h0 : Q (.exit 0) ⟨[(2, .t (tV inn)), (3, .lp 3 0 0), (4, .t (.ip (C9 s) 0)), (14, .t (.sl (Bw ns) (some ns.length) none)), (15, .t (tI ns.length)), (16, .t (tI ns.length)), (17, .t (tB false))], [(3, .bx (Wx c 1000000 n cap)), (1000000, .sl 64 1 (Ag R))]⟩) :
  ∀ (k i : Nat) (l : List Int), k + i = ns.length → l.length = n → F7 (ns.drop i) (inn.l.drop i) l = R →
  run Tryz.prog Γ Eb Q ⟨[(2, .t (tV inn)), (3, .lp 3 0 0), (4, .t (.ip (C9 s) 0)), (14, .t (.sl (Bw ns) (some ns.length) none)), (15, .t (tI ns.length)), (16, .t (tI i))], [(3, .bx (Wx c 1000000 n cap)), (1000000, .sl 64 1 (Ag l))]⟩
 | 0, i, l, h, hl, hR => by
  refine Iy fun K hK => ?_
  have h2 : i = ns.length := by omega
  subst h2
  rw [List.drop_length] at hR
  simp only [F7] at hR
  subst hR
  simp
  exact h0
 | k + 1, i, l, h, hl, hR => by
  refine Iy fun K hK => ?_
  have h2 : i < ns.length := by omega
  have h3 : i < inn.l.length := by omega
  rw [q72 h2 h3] at hR
  have ih := qG3 c s inn ns cap n hn hns hin hp R h0 k (i + 1) _ (by omega) (by simp [hl]) hR
  have e1 := gE (f := tI) 0 h2
  have e1' := gE' (f := tI) 0 h2
  have e2 := gE (f := tK) 0 h3
  have e2' := gE' (f := tK) 0 h3
  obtain ⟨hx0, hx1⟩ := hin (ns.getD i 0) (by rw [Bg h2]; exact List.getElem_mem h2)
  have hs : ∀ (j : Nat) (v : Int), (Ag l).set j [tK v] = Ag (l.set j v) := fun j v => Gj
  generalize ns.getD i 0 = x at *
  generalize inn.l.getD i 0 = v at *
  have hx2 : x.toNat < n := by omega
  have w1 := Bj (i := i) (by omega)
  simp [Wx, tV] at ih
  simp [h2, h3, A1, A5, e1, e1', e2, e2', hx0, hx1, hx2, hl, Wx, tV, hs, hp, w1]
  rw [hK]
  simpa using ih
theorem qG4 {Q : AX → St → Prop} (c : B1) (s : Q9) (ns : List Int) (cap : Option Nat) (n : Nat) (hn : n ≤ 1000000) (hns : ns.length ≤ n) (hin : ∀ x ∈ ns, 0 ≤ x ∧ x < n) (hp : s.dff.l.length = ns.length) (R : List Int)
  (h0 : Q (.exit 2) ⟨[(3, .lp 3 0 0), (4, .t (.ip (C9 s) 0)), (32, .t (.sl (Bw ns) (some ns.length) none)), (33, .t (tI ns.length)), (34, .t (tI ns.length)), (35, .t (tB false))], [(3, .bx (Wx c 1000000 n cap)), (1000000, .sl 64 1 (Ag R))]⟩) :
  ∀ (k i : Nat) (l : List Int), k + i = ns.length → l.length = n → F7 (ns.drop i) (s.dff.l.drop i) l = R →
  run Tryz.prog Γ Ec Q ⟨[(3, .lp 3 0 0), (4, .t (.ip (C9 s) 0)), (32, .t (.sl (Bw ns) (some ns.length) none)), (33, .t (tI ns.length)), (34, .t (tI i))], [(3, .bx (Wx c 1000000 n cap)), (1000000, .sl 64 1 (Ag l))]⟩
 | 0, i, l, h, hl, hR => by
  refine Iz fun K hK => ?_
  have h2 : i = ns.length := by omega
  subst h2
  rw [List.drop_length] at hR
  simp only [F7] at hR
  subst hR
  simp
  exact h0
 | k + 1, i, l, h, hl, hR => by
  refine Iz fun K hK => ?_
  have h2 : i < ns.length := by omega
  have h3 : i < s.dff.l.length := by omega
  rw [q72 h2 h3] at hR
  have ih := qG4 c s ns cap n hn hns hin hp R h0 k (i + 1) _ (by omega) (by simp [hl]) hR
  have e1 := gE (f := tI) 0 h2
  have e1' := gE' (f := tI) 0 h2
  have e2 := gE (f := tK) 0 h3
  have e2' := gE' (f := tK) 0 h3
  obtain ⟨hx0, hx1⟩ := hin (ns.getD i 0) (by rw [Bg h2]; exact List.getElem_mem h2)
  have hs : ∀ (j : Nat) (v : Int), (Ag l).set j [tK v] = Ag (l.set j v) := fun j v => Gj
  generalize ns.getD i 0 = x at *
  generalize s.dff.l.getD i 0 = v at *
  have hx2 : x.toNat < n := by omega
  have w1 := Bj (i := i) (by omega)
  simp [Wx, tV, C9] at ih
  simp [h2, h3, A1, A5, e1, e1', e2, e2', hx0, hx1, hx2, hl, Wx, tV, C9, hs, hp, w1]
  rw [hK]
  simpa using ih
theorem qG5 {Q : AX → St → Prop} (c : B1) (s : Q9) (ns : List Int) (cap : Option Nat) (hn : c.nodes.l.length ≤ 1000000) (hns : ns.length ≤ c.nodes.l.length) (hin : ∀ x ∈ ns, 0 ≤ x ∧ x < c.nodes.l.length)
  (hm : ∀ x ∈ ns, 0 ≤ (nd c x).mem ∧ (nd c x).mem < s.read.l.length ∧ 0 ≤ (nd c x).bit ∧ (nd c x).bit < (s.read.l.getD (nd c x).mem.toNat Sl.z).l.length) (R : List Int)
  (h0 : Q (.exit 4) ⟨[(3, .lp 3 0 0), (4, .t (.ip (C9 s) 0)), (52, .t (.sl (Bw ns) (some ns.length) none)), (53, .t (tI ns.length)), (54, .t (tI ns.length)), (55, .t (tB false))], [(3, .bx (Wx c 1000000 c.nodes.l.length cap)), (1000000, .sl 64 1 (Ag R))]⟩) :
  ∀ (k i : Nat) (l : List Int), k + i = ns.length → l.length = c.nodes.l.length → F7 (ns.drop i) ((ns.drop i).map fun n => (s.read.l.getD (nd c n).mem.toNat Sl.z).l.getD (nd c n).bit.toNat 0) l = R →
  run Tryz.prog Γ Ed Q ⟨[(3, .lp 3 0 0), (4, .t (.ip (C9 s) 0)), (52, .t (.sl (Bw ns) (some ns.length) none)), (53, .t (tI ns.length)), (54, .t (tI i))], [(3, .bx (Wx c 1000000 c.nodes.l.length cap)), (1000000, .sl 64 1 (Ag l))]⟩
 | 0, i, l, h, hl, hR => by
  refine J0 fun K hK => ?_
  have h2 : i = ns.length := by omega
  subst h2
  rw [List.drop_length] at hR
  simp only [F7] at hR
  subst hR
  simp
  exact h0
 | k + 1, i, l, h, hl, hR => by
  refine J0 fun K hK => ?_
  have h2 : i < ns.length := by omega
  rw [List.drop_eq_getElem_cons h2, List.map_cons] at hR
  simp only [F7] at hR
  have e1 := gE (f := tI) 0 h2
  have e1' := gE' (f := tI) 0 h2
  have hxm := List.getElem_mem h2
  rw [Bg h2] at e1 e1'
  generalize ns[i] = x at *
  obtain ⟨hx0, hx1⟩ := hin x hxm
  obtain ⟨m0, m1, b0, b1⟩ := hm x hxm
  have ih := qG5 c s ns cap hn hns hin hm R h0 k (i + 1) _ (by omega) (by rw [List.length_set]; exact hl) hR
  have hget := q75 hx0 hx1
  have hget' := q8w hx0 hx1
  generalize nd c x = y at *
  have hm2 : y.mem.toNat < s.read.l.length := by omega
  have e2 := gE (f := tV) Sl.z hm2
  have e2' := gE' (f := tV) Sl.z hm2
  generalize s.read.l.getD y.mem.toNat Sl.z = row at *
  have hb2 : y.bit.toNat < row.l.length := by omega
  have e3 := gE (f := tK) 0 hb2
  have e3' := gE' (f := tK) 0 hb2
  generalize row.l.getD y.bit.toNat 0 = v at *
  have hs : ∀ (j : Nat) (v : Int), (Ag l).set j [tK v] = Ag (l.set j v) := fun j v => Gj
  have hx2 : x.toNat < c.nodes.l.length := by omega
  have w1 := Bj (i := i) (by omega)
  simp only [tV] at e2 e2'
  simp [Wx, C9, tW] at ih
  simp [h2, A1, A5, Aa, Bl, e1, e1', e2, e2', e3, e3', hx0, hx1, hx2, hl, Wx, C9, tW, A7, Gq, hget, hget', m0, m1, hm2, b0, b1, hb2, hs, w1]
  rw [hK]
  simpa [A7] using ih
theorem qFU (c : B1) (hc : COk c) (s : Q9) (inn : Sl Int) (cap : Option Nat) (l : List Int) (hl : l.length = c.nodes.l.length) (hn : c.nodes.l.length ≤ 1000000) (h1 : inn.l.length = (Bz c).length) (h2 : s.dff.l.length = (Av c).length)
  (hm : ∀ x ∈ mems c, 0 ≤ (nd c x).mem ∧ (nd c x).mem < s.read.l.length ∧ 0 ≤ (nd c x).bit ∧ (nd c x).bit < (s.read.l.getD (nd c x).mem.toNat Sl.z).l.length) (hz : l = List.replicate c.nodes.l.length 0) :
  Fe Tryz.prog Γ 46 [(1000000, .sl 64 1 (Ag l))] [.ag (Wx c 1000000 c.nodes.l.length cap), .t (.agg (C9 s)), .t (tV inn)] (.t (.tup [])) [(1000000, .sl 64 1 (Ag (Uf c inn.l s.dff.l s.rd)))] := by
 refine Hg Wy rfl ?_
 have hmv : V1 c s.rd = (mems c).map fun n => (s.read.l.getD (nd c n).mem.toNat Sl.z).l.getD (nd c n).bit.toNat 0 := by
  unfold V1
  refine List.map_congr_left fun x hx => ?_
  obtain ⟨m0, m1, _, _⟩ := hm x hx
  have : (nd c x).mem.toNat < s.read.l.length := by omega
  simp [Q9.rd, List.getD_eq_getElem?_getD, this]
 have hL : Uf c inn.l s.dff.l s.rd = F7 (mems c) ((mems c).map fun n => (s.read.l.getD (nd c n).mem.toNat Sl.z).l.getD (nd c n).bit.toNat 0) (F7 (Av c) s.dff.l (F7 (Bz c) inn.l l)) := by
  unfold Uf q5Q
  rw [hmv, hz]
 have g1 := fun Q h0 => qG3 (Γ := Γ) (Q := Q) c s inn (Bz c) cap c.nodes.l.length hn (q05 c) (fun x hx => ⟨(Ld x hx).1, (Ld x hx).2.1⟩) h1 _ h0 (Bz c).length 0 l (by omega) hl rfl
 have g2 := fun Q h0 => qG4 (Γ := Γ) (Q := Q) c s (Av c) cap c.nodes.l.length hn (Gv c) (fun x hx => ⟨(Ld x hx).1, (Ld x hx).2.1⟩) h2 _ h0 (Av c).length 0 (F7 (Bz c) inn.l l) (by omega) (by rw [Nz]; exact hl) rfl
 have g3 := fun Q h0 => qG5 (Γ := Γ) (Q := Q) c s (mems c) cap hn (Up _ _ _) (fun x hx => ⟨(Ld x hx).1, (Ld x hx).2.1⟩) hm (Uf c inn.l s.dff.l s.rd) h0 (mems c).length 0 (F7 (Av c) s.dff.l (F7 (Bz c) inn.l l)) (by omega) (by rw [Nz, Nz]; exact hl) (by rw [hL, List.drop_zero])
 simp only [List.drop_zero] at g1 g2
 have e3 := qBD (Γ := Γ) c hc 15
 have hmm : K9 [15] c.nodes.l 0 = mems c := rfl
 rw [hmm] at e3
 generalize Uf c inn.l s.dff.l s.rd = RR at *
 generalize F7 (Av c) s.dff.l (F7 (Bz c) inn.l l) = R2 at *
 generalize F7 (Bz c) inn.l l = R1 at *
 simp [Wx, C9, tV, tW, tWs, A7, Ac, Af, Bo] at g1 g2 g3
 simp [Lu, Wx, C9, tV, tW, tWs, A7, Ac, Af, Bo]
 refine A8 (q5T c hc) rfl ?_
 simp [A1]
 refine g1 _ ?_
 simp
 refine A8 (Xd c hc) rfl ?_
 simp [A1]
 refine g2 _ ?_
 simp
 refine A0 e3 rfl ?_
 simp [A1]
 refine g3 _ ?_
 simp [Lx]
structure G6 (c : B1) (s : Q9) : Prop where
 d : s.dff.l.length = (Av c).length
 w : s.words.l.length = c.mems.l.length
 r : s.read.l.length = c.mems.l.length
 wl : ∀ i, i < c.mems.l.length → (s.words.l.getD i Sl.zz).l.length = 2 ^ (c.mems.l.getD i Mm.d).addr.l.length
 wr : ∀ i, i < c.mems.l.length → ∀ w ∈ (s.words.l.getD i Sl.zz).l, w.l.length = (c.mems.l.getD i Mm.d).data.l.length
 rl : ∀ i, i < c.mems.l.length → (s.read.l.getD i Sl.z).l.length = (c.mems.l.getD i Mm.d).data.l.length
 vd : ∀ v ∈ s.dff.l, 0 ≤ v ∧ v ≤ 2
 vw : ∀ w ∈ s.words.l, ∀ r ∈ w.l, ∀ v ∈ r.l, 0 ≤ v ∧ v ≤ 2
 vr : ∀ r ∈ s.read.l, ∀ v ∈ r.l, 0 ≤ v ∧ v ≤ 2
theorem qD7 {c : B1} (h : Dp c = 0) : ∀ m ∈ c.mems.l, (1 ≤ m.addr.l.length ∧ m.addr.l.length ≤ 8) ∧ (1 ≤ m.data.l.length ∧ m.data.l.length ≤ 32) ∧ (∀ n ∈ m.addr.l, 0 ≤ n ∧ n < c.nodes.l.length) ∧ (∀ n ∈ m.data.l, 0 ≤ n ∧ n < c.nodes.l.length) ∧ 0 ≤ m.write ∧ m.write < c.nodes.l.length := by
 unfold Dp at h
 split at h
 ·cases h
 split at h
 ·cases h
 split at h
 ·rename_i h2; exact absurd h h2
 split at h
 ·rename_i h2; exact absurd h h2
 split at h
 ·rename_i h2; exact absurd h h2
 rename_i h2
 intro m hm
 have h3 := Yl (by simpa using h2) m hm
 unfold Mc at h3
 split at h3
 ·cases h3
 rename_i h4
 split at h3
 ·cases h3
 rename_i h5
 simp only [not_or, Bool.not_eq_true] at h4 h5
 obtain ⟨a1, a2⟩ := h4
 obtain ⟨a3, a4, a5⟩ := h5
 simp [Tf] at a1 a2
 simp [Oo] at a5
 refine ⟨⟨by have := List.length_pos_iff.2 a1.1; omega, by omega⟩, ⟨by have := List.length_pos_iff.2 a2.1; omega, by omega⟩, q20 a3, q20 a4, a5.1, a5.2⟩
theorem qAJ {hp : List (Nat × B0)} {f : FuncId} {K : T → Prop} {cs : List T} {t res : T} (h : Ab Tryz.prog Γ f (t :: cs) res ∨ A3 Tryz.prog Γ f (t :: cs) res) (hk : K res) : q2M Tryz.prog Γ hp f (.t t :: cs.map .t) K ⟨⟩ := by
 rcases h with h | h
 ·exact A8 h (by simp only [List.map_cons, List.map_map, Function.comp_def, Aj, toT]; rw [Nw]; rfl) hk
 ·exact Vu h hk
theorem qCI {Q : AX → St → Prop} (l : List (Sl Int)) (c : Option Nat) (nl : Option Bool) (f : FuncId) (cs : List T) (hp : ∀ x ∈ l, Ab Tryz.prog Γ f (tV x :: cs) (tB false) ∨ A3 Tryz.prog Γ f (tV x :: cs) (tB false)) (hl : l.length ≤ 1000000)
  (h0 : Q (.exit 0) ⟨[(0, .t (.sl (A9 tV l) c nl)), (1, .t (.fn f cs)), (7, .t (tI l.length)), (8, .t (tI l.length)), (9, .t (tB false))], []⟩) : ∀ (k i : Nat), k + i = l.length →
  run Tryz.prog Γ D2 Q ⟨[(0, .t (.sl (A9 tV l) c nl)), (1, .t (.fn f cs)), (7, .t (tI l.length)), (8, .t (tI i))], []⟩
 | 0, i, h => by
  refine Fv fun K hK => ?_
  have h2 : i = l.length := by omega
  subst h2
  simp
  simpa using h0
 | k + 1, i, h => by
  refine Fv fun K hK => ?_
  have h2 : i < l.length := by omega
  have ih := qCI l c nl f cs hp hl h0 k (i + 1) (by omega)
  have e1 := gE (f := tV) Sl.z h2
  have e1' := gE' (f := tV) Sl.z h2
  rw [show l.getD i Sl.z = l[i] by simp [List.getD_eq_getElem?_getD, h2]] at e1 e1'
  have hq := hp _ (List.getElem_mem h2)
  generalize l[i] = x at *
  have w1 := Bj (i := i) (by omega)
  simp [A1, A5, h2, e1, e1']
  refine qAJ hq ?_
  simp [w1]
  rw [hK]
  simpa using ih
theorem q8T (l : List (Sl Int)) (c : Option Nat) (nl : Option Bool) (f : FuncId) (cs : List T) (hp : ∀ x ∈ l, Ab Tryz.prog Γ f (tV x :: cs) (tB false) ∨ A3 Tryz.prog Γ f (tV x :: cs) (tB false)) (hl : l.length ≤ 1000000) : A3 Tryz.prog Γ 102 [.sl (A9 tV l) c nl, .fn f cs] (tB false) := by
 have hi : A3 Tryz.prog Γ 151 [.sl (A9 tV l) c nl, .fn f cs] (tI (-1)) := by
  refine A6 Pl rfl ?_
  have g := fun Q h0 => qCI (Γ := Γ) (Q := Q) l c nl f cs hp hl h0 l.length 0 (by omega)
  simp at g
  simp [Ho, A1]
  refine g _ ?_
  simp [Hq]
 refine A6 N8 rfl ?_
 simp [G4]
 refine A0 hi rfl ?_
 simp [G5]
theorem q7L (l : Sl Int) (m : Mm) : A3 Tryz.prog Γ 152 [tV l, .ip (tMm m) 0] (tB (decide (¬ (l.l.length : Int) = m.data.l.length))) := by
 refine A6 q2K rfl ?_
 simp [Wg, tV, tMm, Bo, A1, Wh]
theorem qHH {n : Nat} (h : n ≤ 8) : IntKind.i64.wrap (2 ^ min n IntKind.i64.bits) = ((2 ^ n : Nat) : Int) := by
 have e : min n IntKind.i64.bits = n := by
  have : IntKind.i64.bits = 64 := rfl
  rw [this]
  exact Nat.min_eq_left (by omega)
 rw [e]
 have h2 : 2 ^ n ≤ 2 ^ 8 := Nat.pow_le_pow_right (by omega) h
 have h3 : (2 : Int) ^ n = ((2 ^ n : Nat) : Int) := by simp
 rw [h3]
 generalize 2 ^ n = q at *
 exact A4 (by omega) (by omega)
theorem qAK {Q : AX → St → Prop} (c : B1) (hcm : c.mems.l.length ≤ 16) (hma : ∀ m ∈ c.mems.l, m.addr.l.length ≤ 8) (s : Q9) (H : G6 c s)
  (h0 : Q (.exit 0) ⟨[(3, .t (.ip (C9 s) 0)), (34, .t (Af c.mems)), (35, .t (tI c.mems.l.length)), (36, .t (tI c.mems.l.length)), (37, .t (tB false))], []⟩) : ∀ (k i : Nat), k + i = c.mems.l.length →
  run Tryz.prog Γ Ks Q ⟨[(3, .t (.ip (C9 s) 0)), (34, .t (Af c.mems)), (35, .t (tI c.mems.l.length)), (36, .t (tI i))], []⟩
 | 0, i, h => by
  refine Su fun K hK => ?_
  have h2 : i = c.mems.l.length := by omega
  subst h2
  simp [C9, Af] at h0
  simp [C9, Af]
  simpa using h0
 | k + 1, i, h => by
  refine Su fun K hK => ?_
  have h2 : i < c.mems.l.length := by omega
  have ih := qAK c hcm hma s H h0 k (i + 1) (by omega)
  have e1 : (B8 tMm c.mems.l)[i]?.getD [] = tMm (c.mems.l.getD i Mm.d) := by simp [B8, h2]
  have e1' : ∀ h, (B8 tMm c.mems.l)[i]'h = tMm (c.mems.l.getD i Mm.d) := fun h => by simp [B8, h2]
  have ma : (c.mems.l.getD i Mm.d).addr.l.length ≤ 8 := by
   rw [show c.mems.l.getD i Mm.d = c.mems.l[i] by simp [List.getD_eq_getElem?_getD, h2]]
   exact hma _ (List.getElem_mem h2)
  have h3 : i < s.words.l.length := by rw [H.w]; exact h2
  have h4 : i < s.read.l.length := by rw [H.r]; exact h2
  have e2 := gE (f := tW) Sl.zz h3
  have e2' := gE' (f := tW) Sl.zz h3
  have e3 := gE (f := tV) Sl.z h4
  have e3' := gE' (f := tV) Sl.z h4
  have wl := H.wl i h2
  have wr := H.wr i h2
  have rl := H.rl i h2
  generalize s.words.l.getD i Sl.zz = W at *
  generalize s.read.l.getD i Sl.z = rd at *
  generalize c.mems.l.getD i Mm.d = m at *
  have sh := qHH ma
  have hwl : (W.l.length : Int) = 2 ^ m.addr.l.length := by rw [wl]; simp
  have hWl : W.l.length ≤ 256 := by rw [wl]; exact Nat.pow_le_pow_right (by omega) ma
  have f1 := q7L (Γ := Γ) rd m
  have hrl : ¬ (¬ (rd.l.length : Int) = m.data.l.length) := by omega
  rw [decide_eq_false hrl] at f1
  have f2 := q8T (Γ := Γ) W.l W.cap W.nl 152 [.ip (tMm m) 0] (fun x hx => by
   have := q7L (Γ := Γ) x m
   rw [decide_eq_false (by have := wr x hx; omega)] at this
   exact .inr this) (by omega)
  have w1 := Bj (i := i) (by omega)
  have h3' : (i : Int) < s.words.l.length := by omega
  have h4' : (i : Int) < s.read.l.length := by omega
  simp only [tV] at e3 e3' f1
  simp only [tW] at e2 e2'
  simp only [tMm, Bo] at e1 e1' f1 f2
  simp [C9, Af, tW, tWs] at ih
  simp [C9, Af, On, tW, tWs, Aa, A1, A5, h2, e1, e1', e2, e2', e3, e3', h3, h4, sh, hwl]
  refine A0 f1 rfl ?_
  simp [h2, e1, e1', e2, e2', e3, e3', h3, h4, A1, A5]
  refine A0 f2 rfl ?_
  simp [w1]
  rw [hK]
  simpa using ih
theorem qBT (c : B1) (hc : COk c) (hcm : c.mems.l.length ≤ 16) (hma : ∀ m ∈ c.mems.l, m.addr.l.length ≤ 8) (s : Q9) (H : G6 c s) : Ab Tryz.prog Γ 108 [.agg (tC c), .agg (C9 s)] (tB true) := by
 refine Ax q4C rfl ?_
 have g := fun Q h0 => qAK (Γ := Γ) (Q := Q) c hcm hma s H h0 c.mems.l.length 0 (by omega)
 have es := Xd (Γ := Γ) c hc
 have h1 := H.d
 have h2 := H.w
 have h3 := H.r
 simp [C9, tV, tW, tWs, Af] at g
 simp [tC, A7, Ac, Af, Bo] at es
 simp [Zg, tC, A7, Ac, Af, Bo, C9, tV, tW, tWs]
 refine A8 es rfl ?_
 simp [A1, Aa, h1, h2, h3]
 refine g _ ?_
 simp [Zh]
def P7 (s : Q9) : List (Sl Int) := s.dff :: s.read.l ++ s.words.l.flatMap (·.l)
theorem qAL {Q : AX → St → Prop} (words : Sl (Sl (Sl Int))) (hl : words.l.length ≤ 1000) (hw : ∀ w ∈ words.l, w.l.length ≤ 1000) (hw1 : ∀ w ∈ words.l, w.l ≠ []) (R : List (Sl Int))
  (h0 : Q (.exit 0) ⟨[(3, .ls 11 0 R.length none), (13, .t (tWs words)), (14, .t (tI words.l.length)), (15, .t (tI words.l.length)), (16, .t (tB false))], [(11, .sl 41 1 (A9 tV R))]⟩) :
  ∀ (k i : Nat) (out : List (Sl Int)), k + i = words.l.length → out.length ≤ 2000 + 1000 * i → out ++ (words.l.drop i).flatMap (·.l) = R →
  run Tryz.prog Γ Jj Q ⟨[(3, .ls 11 0 out.length none), (13, .t (tWs words)), (14, .t (tI words.l.length)), (15, .t (tI i))], [(11, .sl 41 1 (A9 tV out))]⟩
 | 0, i, out, h, ho, hR => by
  refine Q2 fun K hK => ?_
  have h2 : i = words.l.length := by omega
  subst h2
  rw [List.drop_length] at hR
  simp only [List.flatMap_nil, List.append_nil] at hR
  subst hR
  simp
  simpa using h0
 | k + 1, i, out, h, ho, hR => by
  refine Q2 fun K hK => ?_
  have h2 : i < words.l.length := by omega
  rw [List.drop_eq_getElem_cons h2, List.flatMap_cons] at hR
  have e1 := gE (f := tW) Sl.zz h2
  have e1' := gE' (f := tW) Sl.zz h2
  rw [show words.l.getD i Sl.zz = words.l[i] by simp [List.getD_eq_getElem?_getD, h2]] at e1 e1'
  have hwl := hw _ (List.getElem_mem h2)
  have hwn := hw1 _ (List.getElem_mem h2)
  generalize words.l[i] = w at *
  have ih := qAL words hl hw hw1 R h0 k (i + 1) (out ++ w.l) (by omega) (by simp; omega) (by rw [← hR]; simp)
  have w1 := Bj (i := i) (by omega)
  have vt : (A9 tV out).take out.length = A9 tV out := An
  have va : A9 tV out ++ A9 tV w.l = A9 tV (out ++ w.l) := qDj
  simp only [tW] at e1 e1'
  simp [tWs] at ih
  simp [tWs, A1, A5, h2, e1, e1', vt, va, w1]
  refine ⟨by omega, ?_⟩
  rw [hK]
  simpa using ih
theorem qBU (s : Q9) (hl : s.words.l.length ≤ 1000) (hr : s.read.l.length = s.words.l.length) (hw : ∀ w ∈ s.words.l, w.l.length ≤ 1000) (hw1 : ∀ w ∈ s.words.l, w.l ≠ []) : Ab Tryz.prog Γ 109 [.agg (C9 s)] (.sl (A9 tV (P7 s)) none none) := by
 have hwid : E5 1 [[T.sl (Ag s.dff.l) s.dff.cap s.dff.nl]] := by intro e he; simp at he; subst he; rfl
 by_cases h0 : s.words.l = []
 ·have h1 : s.read.l = [] := List.eq_nil_of_length_eq_zero (by rw [hr, h0]; rfl)
  refine Ax q2J rfl ?_
  simp [Wc, C9, tV, tW, tWs, h0, h1, Gk]
  refine q07 fun K hK => ?_
  simp [We, P7, h0, h1, A9, tV]
 ·refine Ax q3K rfl ?_
  have g := fun Q h0 => qAL (Γ := Γ) (Q := Q) s.words hl hw hw1 (P7 s) h0 s.words.l.length 0 (s.dff :: s.read.l) (by omega) (by simp; omega) (by simp [P7])
  have vt : (A9 tV (P7 s)).take (P7 s).length = A9 tV (P7 s) := An
  have hrn : ¬ s.read.l = [] := fun e => by rw [e] at hr; exact h0 (List.eq_nil_of_length_eq_zero hr.symm)
  have hen : ¬ A9 tV s.read.l = [] := fun e => hrn (by have := congrArg List.length e; rw [A1] at this; exact List.eq_nil_of_length_eq_zero this)
  have hcons : A9 tV (s.dff :: s.read.l) = [tV s.dff] :: A9 tV s.read.l := rfl
  rw [hcons] at g
  generalize P7 s = R at *
  simp [tV, tW, tWs] at g
  simp [Xr, C9, tV, tW, tWs, A1, A5, hen, hwid]
  rw [Nat.add_comm 1]
  refine ⟨by omega, g _ ?_⟩
  simp [Xs, Ae, vt]
theorem q8U (v m : Int) : A3 Tryz.prog Γ 106 [tK v, .ip [tK m] 0] (tB (decide (v > m))) := by
 refine A6 q08 rfl ?_
 simp [Q3, Q4]
theorem qAM (m : Int) : Ab Tryz.prog Γ 105 [tK m] (.fn 106 [.ip [tK m] 0]) := by
 refine Ax q1W rfl ?_
 simp [Ub, Uc, Ae, Wu, qCS, Aj]
theorem qEM (l : Sl Int) (hl : l.l.length ≤ 1000000) (hv : ∀ v ∈ l.l, v ≤ 2) : A3 Tryz.prog Γ 107 [tV l, .ip [.fn 105 []] 0] (tB false) := by
 refine A6 q1X rfl ?_
 have e := Kp (Γ := Γ) l.l l.cap l.nl 106 [.ip [tK 2] 0] (fun v => decide (v > 2)) (fun x _ => q8U x 2) (by omega)
 have ha : l.l.any (fun v => decide (v > 2)) = false := by
  rw [List.any_eq_false]
  intro v h
  have := hv v h
  simp; omega
 rw [ha] at e
 simp [Ud, tV]
 refine A8 (qAM 2) rfl ?_
 simp
 refine A0 e rfl ?_
 simp [Ue]
structure MOk (c : B1) : Prop where
 ok : COk c
 lev : Ew c = 0
 n : c.nodes.l.length ≤ 1000000
theorem MOk.cm {c : B1} (h : MOk c) : c.mems.l.length ≤ 16 := (Hw (Ny h.lev).1).2.2.2
theorem MOk.mf {c : B1} (h : MOk c) : ∀ m ∈ c.mems.l, (1 ≤ m.addr.l.length ∧ m.addr.l.length ≤ 8) ∧ (1 ≤ m.data.l.length ∧ m.data.l.length ≤ 32) ∧ (∀ n ∈ m.addr.l, 0 ≤ n ∧ n < c.nodes.l.length) ∧ (∀ n ∈ m.data.l, 0 ≤ n ∧ n < c.nodes.l.length) ∧ 0 ≤ m.write ∧ m.write < c.nodes.l.length := qD7 (Ny h.lev).1
theorem Qw {α : Type} {l : List α} {d : α} {i : Nat} (h : i < l.length) : l.getD i d ∈ l := by
 rw [show l.getD i d = l[i] by simp [List.getD_eq_getElem?_getD, h]]
 exact List.getElem_mem h
theorem G6.words {c : B1} {s : Q9} (h : MOk c) (H : G6 c s) : ∀ w ∈ s.words.l, w.l.length ≤ 256 ∧ w.l ≠ [] ∧ ∀ r ∈ w.l, r.l.length ≤ 32 := by
 intro w hw
 obtain ⟨i, hi, rfl⟩ := List.getElem_of_mem hw
 have hi' : i < c.mems.l.length := by rw [← H.w]; exact hi
 have e : s.words.l.getD i Sl.zz = s.words.l[i] := by simp [List.getD_eq_getElem?_getD, hi]
 have h1 := H.wl i hi'
 have h2 := H.wr i hi'
 have h3 := h.mf _ (Qw (d := Mm.d) hi')
 rw [e] at h1 h2
 have h4 : 2 ^ (c.mems.l.getD i Mm.d).addr.l.length ≤ 2 ^ 8 := Nat.pow_le_pow_right (by omega) h3.1.2
 have h5 : 0 < 2 ^ (c.mems.l.getD i Mm.d).addr.l.length := Nat.pow_pos (by omega)
 exact ⟨by omega, fun e => by have := congrArg List.length e; rw [h1, List.length_nil] at this; omega, fun r hr => by rw [h2 r hr]; exact h3.2.1.2⟩
theorem G6.reads {c : B1} {s : Q9} (h : MOk c) (H : G6 c s) : ∀ r ∈ s.read.l, r.l.length ≤ 32 := by
 intro r hr
 obtain ⟨i, hi, rfl⟩ := List.getElem_of_mem hr
 have hi' : i < c.mems.l.length := by rw [← H.r]; exact hi
 have e : s.read.l.getD i Sl.z = s.read.l[i] := by simp [List.getD_eq_getElem?_getD, hi]
 have h1 := H.rl i hi'
 have h3 := h.mf _ (Qw (d := Mm.d) hi')
 rw [e] at h1
 rw [h1]; exact h3.2.1.2
theorem qAN (hΓ : GOk Γ) (c : B1) (h : MOk c) (s : Q9) (H : G6 c s) (inn : Sl Int) (hi : inn.l.length = (Bz c).length) (hv : ∀ v ∈ inn.l, v ≤ 3) : Ab Tryz.prog Γ 45 [.agg (tC c), .agg (C9 s), tV inn] (tI 0) := by
 refine Ax q3L rfl ?_
 have e1 := q6r hΓ c h.ok
 have e2 := q5T (Γ := Γ) c h.ok
 have e3 := qBT (Γ := Γ) c h.ok h.cm (fun m hm => (h.mf m hm).1.2) s H
 have hcm := h.cm
 have hsw := H.w
 have hsr := H.r
 have hsd := H.d
 have hsl := Gv c
 have hil := q05 c
 have hn := h.n
 have hW := H.words h
 have hR := H.reads h
 have e4 := qBU (Γ := Γ) s (by omega) (by omega) (fun w hw => by have := (hW w hw).1; omega) (fun w hw => (hW w hw).2.1)
 have hlen : (P7 s).length ≤ 1000000 := by
  have : (s.words.l.flatMap (·.l)).length ≤ 256 * s.words.l.length := by
   have key : ∀ l : List (Sl (Sl Int)), (∀ w ∈ l, w.l.length ≤ 256) → (l.flatMap (·.l)).length ≤ 256 * l.length := by
    intro l
    induction l with
    | nil => intro _; simp
    | cons w l ih =>
     intro hl
     have h1 := hl w List.mem_cons_self
     have h2 := ih fun x hx => hl x (List.mem_cons_of_mem _ hx)
     simp only [List.flatMap_cons, List.length_append, List.length_cons]
     omega
   exact key _ fun w hw => (hW w hw).1
  simp only [P7, List.cons_append, List.length_cons, List.length_append]
  omega
 have hall : ∀ r ∈ P7 s, r.l.length ≤ 1000000 ∧ ∀ v ∈ r.l, v ≤ 2 := by
  intro r hr
  simp only [P7, List.cons_append, List.mem_cons, List.mem_append, List.mem_flatMap] at hr
  rcases hr with rfl | hr | ⟨w, hw, hr⟩
  ·exact ⟨by omega, fun v hv => (H.vd v hv).2⟩
  ·exact ⟨by have := hR r hr; omega, fun v hv => (H.vr r hr v hv).2⟩
  ·exact ⟨by have := (hW w hw).2.2 r hr; omega, fun v hv => (H.vw w hw r hr v hv).2⟩
 have e5 := q8T (Γ := Γ) (P7 s) none none 107 [.ip [.fn 105 []] 0] (fun x hx => .inr (qEM x (hall x hx).1 (hall x hx).2)) hlen
 have e6 := Kp (Γ := Γ) inn.l inn.cap inn.nl 106 [.ip [tK 3] 0] (fun v => decide (v > 3)) (fun x _ => q8U x 3) (by omega)
 have ha : inn.l.any (fun v => decide (v > 3)) = false := by
  rw [List.any_eq_false]
  intro v h
  have := hv v h
  simp; omega
 rw [ha] at e6
 rw [h.lev] at e1
 generalize P7 s = L at *
 simp [tC, A7, Ac, Af, Bo] at e1 e2 e3
 simp [C9, tV, tW, tWs] at e3 e4
 simp [Xt, tC, A7, Ac, Af, Bo, C9, tV, tW, tWs]
 refine A0 e1 rfl ?_
 simp
 refine A8 e2 rfl ?_
 simp [A1, hi]
 refine A8 e3 rfl ?_
 simp
 refine A8 (qAM 3) rfl ?_
 simp
 refine A0 e6 rfl ?_
 simp
 refine A8 e4 rfl ?_
 simp
 refine A0 e5 rfl ?_
 simp [Xu]
end Go.Lg
