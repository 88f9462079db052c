/- The abstract code of some functions, as the program gen.py prints it. Conditions: none. -/
import Derived.Test.YtjcogpofldkniaaGreatDoorPkC
import Derived.Test.YtjcogpofldkniaaGreatDoorProg
import Derived.KernelRfl
import Derived.Test.YtjcogpofldkniaaGreatDoorPkD
set_option linter.unusedVariables false
namespace Go.Lg
open Go
section
variable {P : Program} {Γ : Tables} {Q : AX → St → Prop} {s : St}
/- probecard/logic.Clean (function 109) -/
abbrev q0t : IC := (.seq (.reg [od 2 (.mv (ku 0))] [kp [0] []]) (.seq (.seq (.reg [om 3 0, od 4 (.bin .gtr (tm 3) (ku 3))] [kp [0, 4] []]) (.cond (tm 4) (.seq (.reg [od 2 (.mv (ku 2))] [kp [2] []]) .ret) .skip)) (.seq (.reg [om 5 0, om 2 5] [kp [2]
 []]) .ret)))
def q0u : List RV := [.tmp 2]
/- probecard/logic.Read (function 94) -/
abbrev q2E : IC := (.seq (.reg [od 2 (.mv (ku 0))] [kp [0] []]) (.seq (.reg [om 3 0, od 4 (.mmx false [(tm 3), (ku 2)]), om 2 4] [kp [2] []]) .ret))
def q2F : List RV := [.tmp 2]
/- probecard/logic.Known (function 16) -/
abbrev q0v : IC := (.seq (.reg [od 2 (.mv kF)] [kp [0] []]) (.seq (.reg [om 3 0, od 4 (.bin .leq (tm 3) (ku 1)), om 2 4] [kp [2] []]) .ret))
def q0w : List RV := [.tmp 2]
/- probecard/logic.Not (function 95) -/
abbrev q3k : IC := (.seq (.reg [od 2 (.mv (ku 0))] [kp [0] []]) (.seq (.seq (.reg [om 3 0, od 4 (.call 16 [(tm 3)])] [kp [0, 4] []]) (.cond (tm 4) (.seq (.reg [om 5 0, od 6 (.bin .sub (ku 1) (tm 5)), om 2 6] [kp [2] []]) .ret) .skip)) (.seq (.reg [od
 2 (.mv (ku 2))] [kp [2] []]) .ret)))
def Zp : List RV := [.tmp 2]
/- probecard/logic.decided (function 128) -/
abbrev Yq : IC := .gh (.seq (.reg [od 14 (.bin .lss (tm 13) (tm 12))] [kp [1, 2, 7, 11, 12, 13, 14] []]) (.seq (.cond (tm 14) .skip (.exit 0)) (.seq (.block 1 (.seq (.reg [od 15 (ia 1 11 13), od 16 (ld 1 15), om 9 16] [kp [1, 2, 7, 9, 11, 12, 13]
 []]) (.block 2 (.seq (.reg [om 18 9, om 19 1, od 20 (.bin .eql (tm 18) (tm 19)), om 17 20] [kp [1, 2, 7, 9, 11, 12, 13, 17] []]) (.cond (tm 17) (.seq (.reg [om 21 1, om 6 21] [kp [6] []]) .ret) (.seq (.reg [om 23 9, om 24 2, od 25
 (.bin .neq (tm 23) (tm 24)), om 22 25] [kp [1, 2, 7, 11, 12, 13, 22] []]) (.cond (tm 22) (.reg [od 7 (.mv (ku 2))] [kp [1, 2, 7, 11, 12, 13] []]) .skip))))))) (.reg [od 26 (.bin .add (tm 13) (ki 1)), om 13 26] [kp [1, 2, 7, 11, 12,
 13] []])))) [kp [1, 2, 7, 11, 12, 13] []]
def K3 : IC := .loop Yq
abbrev Yr : IC := (.seq (.reg [od 6 (.mv (ku 0))] [kp [0, 1, 2] []]) (.seq (.reg [om 10 2, om 7 10] [kp [0, 1, 2, 7] []]) (.seq (.seq (.reg [om 11 0, od 12 (le 0 11), od 13 (.mv (ki 0))] [kp [1, 2, 7, 11, 12, 13] []]) (.block 0 K3))
 (.seq (.reg [om 27 7, om 6 27] [kp [6] []]) .ret))))
theorem Ry (h : ∀ K : St → Prop, K = run P Γ K3 Q → run P Γ Yq (Aq K Q) s) : run P Γ K3 Q s := Ac h
def Qd : List RV := [.tmp 6]
/- probecard/logic.And (function 96) -/
abbrev q3l : IC := (.seq (.reg [od 2 (.mv (ku 0))] [kp [0] []]) (.seq (.reg [om 3 0, od 4 (.call 128 [(tm 3), (ku 0), (ku 1)]), om 2 4] [kp [2] []]) .ret))
def q3m : List RV := [.tmp 2]
/- probecard/logic.Or (function 97) -/
abbrev q55 : IC := (.seq (.reg [od 2 (.mv (ku 0))] [kp [0] []]) (.seq (.reg [om 3 0, od 4 (.call 128 [(tm 3), (ku 1), (ku 0)]), om 2 4] [kp [2] []]) .ret))
def q56 : List RV := [.tmp 2]
/- probecard/logic.Xor (function 98) -/
abbrev q3n : IC := .gh (.seq (.reg [od 9 (.bin .lss (tm 8) (tm 7))] [kp [3, 6, 7, 8, 9] []]) (.seq (.cond (tm 9) .skip (.exit 0)) (.seq (.block 1 (.seq (.reg [od 10 (ia 1 6 8), od 11 (ld 1 10), om 5 11] [kp [3, 5, 6, 7, 8] []]) (.seq (.seq (.reg [om
 12 5, od 13 (.call 16 [(tm 12)]), od 14 (.un .not (tm 13))] [kp [3, 5, 6, 7, 8, 14] []]) (.cond (tm 14) (.seq (.reg [od 2 (.mv (ku 2))] [kp [2] []]) .ret) .skip)) (.reg [om 15 3, om 16 5, od 17 (.bin .xor (tm 15) (tm 16)), om 3 17]
 [kp [3, 6, 7, 8] []])))) (.reg [od 18 (.bin .add (tm 8) (ki 1)), om 8 18] [kp [3, 6, 7, 8] []])))) [kp [3, 6, 7, 8] []]
def Ud : IC := .loop q3n
abbrev q3o : IC := (.seq (.reg [od 2 (.mv (ku 0))] [kp [0] []]) (.seq (.reg [od 3 (.mv (ku 0))] [kp [0, 3] []]) (.seq (.seq (.reg [om 6 0, od 7 (le 0 6), od 8 (.mv (ki 0))] [kp [3, 6, 7, 8] []]) (.block 0 Ud)) (.seq (.reg [om 19 3, om 2 19]
 [kp [2] []]) .ret))))
theorem Ys (h : ∀ K : St → Prop, K = run P Γ Ud Q → run P Γ q3n (Aq K Q) s) : run P Γ Ud Q s := Ac h
def Zq : List RV := [.tmp 2]
/- probecard/logic.Mux (function 99) -/
abbrev Oh : IC := (.seq (.reg [od 6 (.mv (ku 0))] [kp [0, 1, 2] []]) (.seq (.block 0 (.seq (.reg [om 8 0, od 9 (.bin .eql (tm 8) (ku 0)), om 7 9] [kp [0, 1, 2, 7] []]) (.cond (tm 7) (.seq (.reg [om 10 1, od 11 (.call 94 [(tm 10)]), om 6 11] [kp [6]
 []]) .ret) (.seq (.reg [om 13 0, od 14 (.bin .eql (tm 13) (ku 1)), om 12 14] [kp [1, 2, 12] []]) (.cond (tm 12) (.seq (.reg [om 15 2, od 16 (.call 94 [(tm 15)]), om 6 16] [kp [6] []]) .ret) (.seq (.reg [om 18 1, om 19 2, od 20
 (.bin .eql (tm 18) (tm 19)), om 17 20] [kp [1, 17] []]) (.cond (tm 17) (.seq (.reg [om 21 1, od 22 (.call 94 [(tm 21)]), om 6 22] [kp [6] []]) .ret) .skip))))))) (.seq (.reg [od 6 (.mv (ku 2))] [kp [6] []]) .ret)))
def Oi : List RV := [.tmp 6]
/- probecard/logic.Tri (function 100) -/
abbrev Ue : IC := (.seq (.reg [od 4 (.mv (ku 0))] [kp [0, 1] []]) (.seq (.seq (.reg [om 5 0] [kp [1, 5] []]) (.block 0 (.seq (.reg [od 7 (.bin .eql (tm 5) (ku 0)), om 6 7] [kp [1, 5, 6] []]) (.cond (tm 6) (.seq (.reg [od 4 (.mv (ku 3))] [kp [4] []])
 .ret) (.seq (.reg [od 9 (.bin .eql (tm 5) (ku 1)), om 8 9] [kp [1, 8] []]) (.cond (tm 8) (.seq (.reg [om 10 1, od 11 (.call 94 [(tm 10)]), om 4 11] [kp [4] []]) .ret) .skip)))))) (.seq (.reg [od 4 (.mv (ku 2))] [kp [4] []]) .ret)))
def Uf : List RV := [.tmp 4]
/- probecard/logic.Bus (function 101) -/
abbrev q3p : IC := (.seq (.reg [od 2 (.mv (ku 0))] [kp [0] []]) (.seq (.reg [od 3 (.mv (.func 129))] [kp [0, 3] []]) (.seq (.reg [od 4 (.mv (.func 130))] [kp [0, 3, 4] []]) (.seq (.reg [om 6 0, om 7 4, od 8 (.call 123 [(tm 6), (tm 7)]), om 5 8] [kp
 [0, 3, 5] []]) (.seq (.block 0 (.seq (.reg [om 10 5, od 11 (.bin .lss (tm 10) (ki 0)), om 9 11] [kp [0, 3, 5, 9] []]) (.cond (tm 9) (.seq (.reg [od 2 (.mv (ku 3))] [kp [2] []]) .ret) (.seq (.reg [om 13 0, od 14 (.call 131 [(tm
 13)]), om 15 14, oF 16 (.mv (tm 0)) 15, oF 17 (.mv (tm 3)) 15, oF 18 (.call 80 [(tm 16), (tm 17)]) 15, od 19 (.pick (tm 15) kT (tm 18)), om 12 19] [kp [0, 5, 12] []]) (.cond (tm 12) (.seq (.reg [od 2 (.mv (ku 2))] [kp [2] []])
 .ret) .skip))))) (.seq (.reg [om 20 0, om 21 5, od 22 (ia 1 20 21), od 23 (ld 1 22), om 2 23] [kp [2] []]) .ret))))))
def Oj : List RV := [.tmp 2]
/- probecard/logic.Bus$1 (function 129) -/
abbrev q0x : IC := (.seq (.reg [od 2 (.mv kF)] [kp [0] []]) (.seq (.reg [om 3 0, od 4 (.call 109 [(tm 3)]), od 5 (.bin .eql (tm 4) (ku 2)), om 2 5] [kp [2] []]) .ret))
def q0y : List RV := [.tmp 2]
/- probecard/logic.Bus$2 (function 130) -/
abbrev q0z : IC := (.seq (.reg [od 2 (.mv kF)] [kp [0] []]) (.seq (.reg [om 3 0, od 4 (.bin .neq (tm 3) (ku 3)), om 2 4] [kp [2] []]) .ret))
def q10 : List RV := [.tmp 2]
/- probecard/logic.Conflict (function 131) -/
abbrev Wy : IC := (.seq (.reg [od 2 (.mv kF)] [kp [0] []]) (.seq (.reg [om 3 0, od 4 (.call 147 [(tm 3), (ku 0)]), om 5 4, oT 6 (.mv (tm 0)) 5, oT 7 (.call 147 [(tm 6), (ku 1)]) 5, od 8 (.pick (tm 5) (tm 7) kF), om 2 8] [kp [2] []]) .ret))
def Ol : List RV := [.tmp 2]
/- slices.Contains[[]probecard/api.Value,probecard/api.Value] (function 147) -/
abbrev Ib : IC := (.seq (.reg [od 4 (.mv kF)] [kp [0, 1] []]) (.seq (.reg [om 5 0, om 6 1, od 7 (.call 163 [(tm 5), (tm 6)]), od 8 (.bin .geq (tm 7) (ki 0)), om 4 8] [kp [4] []]) .ret))
def Ic : List RV := [.tmp 4]
/- slices.Index[[]probecard/api.Value,probecard/api.Value] (function 163) -/
abbrev Kq : IC := .gh (.seq (.reg [od 9 (.bin .lss (tm 8) (tm 7))] [kp [0, 1, 7, 8, 9] []]) (.seq (.cond (tm 9) .skip (.exit 0)) (.seq (.block 1 (.seq (.reg [om 10 8, om 5 10] [kp [0, 1, 5, 7, 8] []]) (.seq (.reg [om 11 1, om 12 0, om 13 5, od 14
 (ia 1 12 13), od 15 (ld 1 14), od 16 (.bin .eql (tm 11) (tm 15))] [kp [0, 1, 5, 7, 8, 16] []]) (.cond (tm 16) (.seq (.reg [om 17 5, om 4 17] [kp [4] []]) .ret) .skip)))) (.reg [od 18 (.bin .add (tm 8) (ki 1)), om 8 18] [kp [0, 1,
 7, 8] []])))) [kp [0, 1, 7, 8] []]
def Dv : IC := .loop Kq
def Gg : List RO := [od 4 (.mv (.const (.int .i64 (-1))))]
abbrev Kr : IC := (.seq (.reg [od 4 (.mv (ki 0))] [kp [0, 1] []]) (.seq (.seq (.reg [om 6 0, od 7 (le 0 6), od 8 (.mv (ki 0))] [kp [0, 1, 7, 8] []]) (.block 0 Dv)) (.seq (.reg Gg [kp [4] []]) .ret)))
theorem Hn (h : ∀ K : St → Prop, K = run P Γ Dv Q → run P Γ Kq (Aq K Q) s) : run P Γ Dv Q s := Ac h
attribute [simp] Gg
def D2 : List RV := [.tmp 4]
/- slices.ContainsFunc[[]probecard/api.Value,probecard/api.Value] (function 80) -/
abbrev Gp : IC := (.seq (.reg [od 4 (.mv kF)] [kp [0, 1] []]) (.seq (.reg [om 5 0, om 6 1, od 7 (.call 123 [(tm 5), (tm 6)]), od 8 (.bin .geq (tm 7) (ki 0)), om 4 8] [kp [4] []]) .ret))
def Gq : List RV := [.tmp 4]
/- slices.IndexFunc[[]probecard/api.Value,probecard/api.Value] (function 123) -/
abbrev Ho : IC := .gh (.seq (.reg [od 9 (.bin .lss (tm 8) (tm 7))] [kp [0, 1, 7, 8, 9] []]) (.seq (.cond (tm 9) .skip (.exit 0)) (.seq (.block 1 (.seq (.reg [om 10 8, om 5 10] [kp [0, 1, 5, 7, 8] []]) (.seq (.reg [om 11 1, om 12 0, om 13 5, od 14
 (ia 1 12 13), od 15 (ld 1 14), od 16 (.callv (tm 11) [(tm 15)])] [kp [0, 1, 5, 7, 8, 16] []]) (.cond (tm 16) (.seq (.reg [om 17 5, om 4 17] [kp [4] []]) .ret) .skip)))) (.reg [od 18 (.bin .add (tm 8) (ki 1)), om 8 18] [kp [0, 1, 7,
 8] []])))) [kp [0, 1, 7, 8] []]
def D5 : IC := .loop Ho
abbrev Hq : IC := (.seq (.reg [od 4 (.mv (ki 0))] [kp [0, 1] []]) (.seq (.seq (.reg [om 6 0, od 7 (le 0 6), od 8 (.mv (ki 0))] [kp [0, 1, 7, 8] []]) (.block 0 D5)) (.seq (.reg [od 4 (.mv (.const (.int .i64 (-1))))] [kp [4]
 []]) .ret)))
theorem G6 (h : ∀ K : St → Prop, K = run P Γ D5 Q → run P Γ Ho (Aq K Q) s) : run P Γ D5 Q s := Ac h
def Ec : List RV := [.tmp 4]
/- probecard/logic.Eval (function 40) -/
abbrev Ba : IC := (.seq (.reg [od 4 (.mv (ku 0))] [kp [0, 1] []]) (.seq (.seq (.reg [om 8 0, od 9 (.call 93 [(tm 8)]), om 7 9, od 10 (ex 7 0), od 11 (ex 7 1), om 5 10, om 6 11] [kp [0, 1, 5, 6] []]) (.seq (.reg [om 12 1, od 13 (le 0 12), om 14 5, od
 15 (.bin .lss (tm 13) (tm 14)), om 16 15, oF 17 (.mv (tm 1)) 16, oF 18 (le 0 17) 16, oF 19 (.mv (tm 6)) 16, oF 20 (.bin .gtr (tm 18) (tm 19)) 16, od 21 (.pick (tm 16) kT (tm 20))] [kp [0, 1, 21] []]) (.cond (tm 21) (.seq (.reg [od
 4 (.mv (ku 2))] [kp [4] []]) .ret) .skip))) (.seq (.seq (.reg [om 22 0] [kp [1, 22] []]) (.block 0 (.seq (.reg [od 24 (.bin .eql (tm 22) (ku 1)), om 23 24] [kp [1, 22, 23] []]) (.cond (tm 23) (.seq (.reg [od 4 (.mv (ku 0))] [kp [4]
 []]) .ret) (.seq (.reg [od 26 (.bin .eql (tm 22) (ku 2)), om 25 26] [kp [1, 22, 25] []]) (.cond (tm 25) (.seq (.reg [od 4 (.mv (ku 1))] [kp [4] []]) .ret) (.seq (.reg [od 28 (.bin .eql (tm 22) (ku 3)), om 27 28] [kp [1, 22, 27]
 []]) (.cond (tm 27) (.seq (.reg [om 29 1, od 30 (.iadr 1 (tm 29) (ki 0)), od 31 (ld 1 30), od 32 (.call 94 [(tm 31)]), om 4 32] [kp [4] []]) .ret) (.seq (.reg [od 34 (.bin .eql (tm 22) (ku 4)), om 33 34] [kp [1, 22, 33] []]) (.cond
 (tm 33) (.seq (.reg [om 35 1, od 36 (.iadr 1 (tm 35) (ki 0)), od 37 (ld 1 36), od 38 (.call 95 [(tm 37)]), om 4 38] [kp [4] []]) .ret) (.seq (.reg [od 40 (.bin .eql (tm 22) (ku 5)), om 39 40] [kp [1, 22, 39] []]) (.cond (tm 39)
 (.seq (.reg [om 41 1, od 42 (.call 96 [(tm 41)]), om 4 42] [kp [4] []]) .ret) (.seq (.reg [od 44 (.bin .eql (tm 22) (ku 6)), om 43 44] [kp [1, 22, 43] []]) (.cond (tm 43) (.seq (.reg [om 45 1, od 46 (.call 96 [(tm 45)]), od 47
 (.call 95 [(tm 46)]), om 4 47] [kp [4] []]) .ret) (.seq (.reg [od 49 (.bin .eql (tm 22) (ku 7)), om 48 49] [kp [1, 22, 48] []]) (.cond (tm 48) (.seq (.reg [om 50 1, od 51 (.call 97 [(tm 50)]), om 4 51] [kp [4] []]) .ret) (.seq
 (.reg [od 53 (.bin .eql (tm 22) (ku 8)), om 52 53] [kp [1, 22, 52] []]) (.cond (tm 52) (.seq (.reg [om 54 1, od 55 (.call 97 [(tm 54)]), od 56 (.call 95 [(tm 55)]), om 4 56] [kp [4] []]) .ret) (.seq (.reg [od 58 (.bin .eql (tm 22)
 (ku 9)), om 57 58] [kp [1, 22, 57] []]) (.cond (tm 57) (.seq (.reg [om 59 1, od 60 (.call 98 [(tm 59)]), om 4 60] [kp [4] []]) .ret) (.seq (.reg [od 62 (.bin .eql (tm 22) (ku 10)), om 61 62] [kp [1, 22, 61] []]) (.cond (tm 61)
 (.seq (.reg [om 63 1, od 64 (.call 98 [(tm 63)]), od 65 (.call 95 [(tm 64)]), om 4 65] [kp [4] []]) .ret) (.seq (.reg [od 67 (.bin .eql (tm 22) (ku 11)), om 66 67] [kp [1, 22, 66] []]) (.cond (tm 66) (.seq (.reg [om 68 1, od 69
 (.iadr 1 (tm 68) (ki 0)), od 70 (ld 1 69), om 71 1, od 72 (.iadr 1 (tm 71) (ki 1)), od 73 (ld 1 72), om 74 1, od 75 (.iadr 1 (tm 74) (ki 2)), od 76 (ld 1 75), od 77 (.call 99 [(tm 70), (tm 73), (tm 76)]), om 4 77] [kp [4] []])
 .ret) (.seq (.reg [od 79 (.bin .eql (tm 22) (ku 12)), om 78 79] [kp [1, 22, 78] []]) (.cond (tm 78) (.seq (.reg [om 80 1, od 81 (.iadr 1 (tm 80) (ki 0)), od 82 (ld 1 81), om 83 1, od 84 (.iadr 1 (tm 83) (ki 1)), od 85 (ld 1 84), od
 86 (.call 100 [(tm 82), (tm 85)]), om 4 86] [kp [4] []]) .ret) (.seq (.reg [od 88 (.bin .eql (tm 22) (ku 13)), om 87 88] [kp [1, 87] []]) (.cond (tm 87) (.seq (.reg [om 89 1, od 90 (.call 101 [(tm 89)]), om 4 90] [kp [4] []]) .ret)
 .skip)))))))))))))))))))))))))))) (.seq (.reg [od 4 (.mv (ku 2))] [kp [4] []]) .ret))))
def B1 : List RV := [.tmp 4]
end
end Go.Lg
namespace Go.Lg
open Go Go.Proofs
theorem q5R : As Tryz.prog 109 q0t 6 1 q0u = true := by kernel_rfl
theorem q6c : As Tryz.prog 94 q2E 5 1 q2F = true := by kernel_rfl
theorem q5S : As Tryz.prog 16 q0v 5 1 q0w = true := by kernel_rfl
theorem q7A : As Tryz.prog 95 q3k 7 1 Zp = true := by kernel_rfl
theorem q3q : As Tryz.prog 128 Yr 28 3 Qd = true := by kernel_rfl
theorem q7B : As Tryz.prog 96 q3l 5 1 q3m = true := by kernel_rfl
theorem q8N : As Tryz.prog 97 q55 5 1 q56 = true := by kernel_rfl
theorem q7C : As Tryz.prog 98 q3o 20 1 Zq = true := by kernel_rfl
theorem q7D : As Tryz.prog 99 Oh 23 3 Oi = true := by kernel_rfl
theorem q7E : As Tryz.prog 100 Ue 12 2 Uf = true := by kernel_rfl
theorem q7F : As Tryz.prog 101 q3p 24 1 Oj = true := by kernel_rfl
theorem q5T : As Tryz.prog 129 q0x 6 1 q0y = true := by kernel_rfl
theorem q5U : As Tryz.prog 130 q0z 5 1 q10 = true := by kernel_rfl
theorem q2y : As Tryz.prog 131 Wy 9 1 Ol = true := by kernel_rfl
theorem Rz : As Tryz.prog 147 Ib 9 2 Ic = true := by kernel_rfl
theorem Vl : As Tryz.prog 163 Kr 19 2 D2 = true := by kernel_rfl
theorem Nw : As Tryz.prog 80 Gp 9 2 Gq = true := by kernel_rfl
theorem Qe : As Tryz.prog 123 Hq 19 2 Ec = true := by kernel_rfl
theorem q6d : As Tryz.prog 40 Ba 91 2 B1 = true := by kernel_rfl
end Go.Lg
set_option linter.unusedSimpArgs false
set_option maxRecDepth 100000
namespace Go.Lg
open Go Go.Proofs
variable {Γ : Tables}
theorem q2z (v : Int) : A3 Tryz.prog Γ 109 [tK v] (tK (E2 v)) := by
 refine A7 q5R rfl ?_
 by_cases h : 3 < v <;> simp [q0t, q0u, Am, E2, h]
theorem Qf (v : Int) : A3 Tryz.prog Γ 94 [tK v] (tK (Du v)) := by
 refine A7 q6c rfl ?_
 by_cases h : v < 2 <;> simp [q2E, q2F, Am, Du, h, Y5, H5] <;> omega
theorem Qg (v : Int) : A3 Tryz.prog Γ 16 [tK v] (tB (Kz v)) := by
 refine A7 q5S rfl ?_
 simp [q0v, q0w, Am, Kz]
theorem q3r (v : Int) (h0 : 0 ≤ v) : A3 Tryz.prog Γ 95 [tK v] (tK (Uc v)) := by
 refine A7 q7A rfl ?_
 simp [q3k]
 refine A0 (Qg v) rfl ?_
 by_cases h : v ≤ 1
 ·simp (disch := omega) [Zp, Am, Kz, Uc, h, B7]
 ·simp (disch := omega) [Zp, Am, Kz, Uc, h, B7]
theorem qDh (s a b : Int) : A3 Tryz.prog Γ 99 [tK s, tK a, tK b] (tK (q6Y s a b)) := by
 refine A7 q7D rfl ?_
 by_cases h : s = 0
 ·simp [Oh, h]
  refine A0 (Qf a) rfl ?_
  simp [Oi, Am, q6Y, h]
 by_cases h1 : s = 1
 ·simp [Oh, h1]
  refine A0 (Qf b) rfl ?_
  simp [Oi, Am, q6Y, h1]
 by_cases h2 : a = b
 ·simp [Oh, h, h1, h2]
  refine A0 (Qf b) rfl ?_
  simp [Oi, Am, q6Y, h, h1, h2]
 ·simp [Oh, h, h1, h2, Oi, Am, q6Y]
theorem qDi (e d : Int) : A3 Tryz.prog Γ 100 [tK e, tK d] (tK (q8L e d)) := by
 refine A7 q7E rfl ?_
 by_cases h : e = 0
 ·simp [Ue, h, Uf, Am, q8L]
 by_cases h1 : e = 1
 ·simp [Ue, h1]
  refine A0 (Qf d) rfl ?_
  simp [Uf, Am, q8L, h1]
 ·simp [Ue, h, h1, Uf, Am, q8L]
abbrev Ab (l : List Int) : List (List T) := Af tK l
def tV (s : Sl Int) : T := .sl (Ab s.l) s.cap s.nl
theorem Zr {Q : AX → St → Prop} (l : List Int) (c : Option Nat) (nl : Option Bool) (low high : Int) (hl : l.length ≤ 1000000000) (R : Int)
  (h0 : Q (.exit 0) ⟨[(1, .t (tK low)), (2, .t (tK high)), (7, .t (tK R)), (11, .t (.sl (Ab l) c nl)), (12, .t (tI l.length)), (13, .t (tI l.length)), (14, .t (tB false))], []⟩)
  (h1 : R = low → Q .ret ⟨[(6, .t (tK low))], []⟩) : ∀ (k i : Nat) (out : Int), k + i = l.length → K1 low high out (l.drop i) = R →
  run Tryz.prog Γ K3 Q ⟨[(1, .t (tK low)), (2, .t (tK high)), (7, .t (tK out)), (11, .t (.sl (Ab l) c nl)), (12, .t (tI l.length)), (13, .t (tI i))], []⟩
 | 0, i, out, h, hR => by
  refine Ry fun K hK => ?_
  have h2 : ¬ i < l.length := by omega
  rw [List.drop_of_length_le (by omega)] at hR
  simp only [K1] at hR
  subst hR
  have h3 : i = l.length := by omega
  simp [h2]
  subst h3
  exact h0
 | k + 1, i, out, h, hR => by
  refine Ry fun K hK => ?_
  have h2 : i < l.length := by omega
  rw [List.drop_eq_getElem_cons h2] at hR
  simp only [K1] at hR
  have hget := C2 (f := tK) 0 h2
  simp only [List.getElem?_eq_getElem h2, Option.getD_some] at hget
  generalize l[i] = v at *
  by_cases a1 : v = low
  ·rw [if_pos a1] at hR
   simp (disch := omega) [h2, A1, hget, A5, A4, a1]
   exact h1 hR.symm
  ·by_cases a2 : v = high
   ·rw [if_neg a1, if_neg (by simp [a2])] at hR
    have ih := Zr l c nl low high hl R h0 h1 k (i + 1) out (by omega) hR
    have a1' : ¬ high = low := by rw [← a2]; exact a1
    simp (disch := omega) [h2, A1, hget, A5, A4, a1', a2]
    rw [hK]
    exact_mod_cast ih
   ·rw [if_neg a1, if_pos a2] at hR
    have ih := Zr l c nl low high hl R h0 h1 k (i + 1) 2 (by omega) hR
    simp (disch := omega) [h2, A1, hget, A5, A4, a1, a2]
    rw [hK]
    exact_mod_cast ih
theorem q3s (l : List Int) (c : Option Nat) (nl : Option Bool) (low high : Int) (hl : l.length ≤ 1000000000) : A3 Tryz.prog Γ 128 [.sl (Ab l) c nl, tK low, tK high] (tK (K1 low high high l)) := by
 refine A7 q3q rfl ?_
 simp (disch := omega) [Yr, A1, A4]
 refine Zr l c nl low high hl (K1 low high high l) ?_ (fun h => ?_) l.length 0 high (by omega) (by simp)
 ·simp [Qd, Am]
 ·simp [Qd, Am, h]
theorem q9T (l : List Int) (c : Option Nat) (nl : Option Bool) (hl : l.length ≤ 1000000000) : A3 Tryz.prog Γ 96 [.sl (Ab l) c nl] (tK (K1 0 1 1 l)) := by
 refine A7 q7B rfl ?_
 simp [q3l]
 refine A0 (q3s l c nl 0 1 hl) rfl ?_
 simp [q3m, Am]
theorem qBk (l : List Int) (c : Option Nat) (nl : Option Bool) (hl : l.length ≤ 1000000000) : A3 Tryz.prog Γ 97 [.sl (Ab l) c nl] (tK (K1 1 0 0 l)) := by
 refine A7 q8N rfl ?_
 simp [q55]
 refine A0 (q3s l c nl 1 0 hl) rfl ?_
 simp [q56, Am]
theorem qF8 {a b : Int} (ha : a = 0 ∨ a = 1) (hb : b = 0 ∨ b = 1) : IntKind.u8.wrap ((BitVec.ofInt IntKind.u8.bits a ^^^ BitVec.ofInt IntKind.u8.bits b).toNat : Int) = qCY a b := by
 rcases ha with rfl | rfl <;> rcases hb with rfl | rfl <;> decide
theorem q9U {Q : AX → St → Prop} (l : List Int) (c : Option Nat) (nl : Option Bool) (hl : l.length ≤ 1000000000) (hv : ∀ v ∈ l, 0 ≤ v) (R : Int)
  (h0 : Q (.exit 0) ⟨[(3, .t (tK R)), (6, .t (.sl (Ab l) c nl)), (7, .t (tI l.length)), (8, .t (tI l.length)), (9, .t (tB false))], []⟩)
  (h1 : R = 2 → Q .ret ⟨[(2, .t (tK 2))], []⟩) : ∀ (k i : Nat) (out : Int), k + i = l.length → (out = 0 ∨ out = 1) → Ym out (l.drop i) = R →
  run Tryz.prog Γ Ud Q ⟨[(3, .t (tK out)), (6, .t (.sl (Ab l) c nl)), (7, .t (tI l.length)), (8, .t (tI i))], []⟩
 | 0, i, out, h, ho, hR => by
  refine Ys fun K hK => ?_
  have h2 : ¬ i < l.length := by omega
  rw [List.drop_of_length_le (by omega)] at hR
  simp only [Ym] at hR
  subst hR
  have h3 : i = l.length := by omega
  simp [h2]
  subst h3
  exact h0
 | k + 1, i, out, h, ho, hR => by
  refine Ys fun K hK => ?_
  have h2 : i < l.length := by omega
  rw [List.drop_eq_getElem_cons h2] at hR
  simp only [Ym] at hR
  have hget := C2 (f := tK) 0 h2
  simp only [List.getElem?_eq_getElem h2, Option.getD_some] at hget
  have hv0 := hv _ (List.getElem_mem h2)
  generalize l[i] = v at *
  by_cases a1 : v ≤ 1
  ·rw [if_pos a1] at hR
   have ih := q9U l c nl hl hv R h0 h1 k (i + 1) (qCY out v) (by omega) (by unfold qCY; split <;> simp) hR
   simp (disch := omega) [h2, A1, hget, A5, A4]
   refine A0 (Qg v) rfl ?_
   have hx := qF8 ho (show v = 0 ∨ v = 1 by omega)
   simp (disch := omega) [Kz, a1, ↓hx, A4]
   rw [hK]
   exact_mod_cast ih
  ·rw [if_neg a1] at hR
   simp (disch := omega) [h2, A1, hget, A5, A4]
   refine A0 (Qg v) rfl ?_
   simp (disch := omega) [Kz, a1]
   exact h1 hR.symm
theorem q9V (l : List Int) (c : Option Nat) (nl : Option Bool) (hl : l.length ≤ 1000000000) (hv : ∀ v ∈ l, 0 ≤ v) : A3 Tryz.prog Γ 98 [.sl (Ab l) c nl] (tK (Ym 0 l)) := by
 refine A7 q7C rfl ?_
 simp (disch := omega) [q3o, A1, A4]
 refine q9U l c nl hl hv (Ym 0 l) ?_ (fun h => ?_) l.length 0 0 (by omega) (.inl rfl) (by simp)
 ·simp [Zq, Am]
 ·simp [Zq, Am, h]
theorem q11 (l : List Int) (c : Option Nat) (nl : Option Bool) (x : Int) (hl : l.length ≤ 1000000000) : ∀ (k i : Nat), k + i = l.length → (∀ j, j < i → ∀ y, l[j]? = some y → (y == x) = false) →
  run Tryz.prog Γ Dv (Kv 0 (Aq (run Tryz.prog Γ (.seq (.reg Gg [.keep [4] []]) .ret) (ret true D2 fun r => r = tI (Xx (· == x) l))) (ret true D2 fun r => r = tI (Xx (· == x) l)))) ⟨[(0, .t (.sl (Af tK l) c nl)), (1, .t (tK x)), (7, .t (tI l.length)), (8, .t (tI i))], []⟩
 | 0, i, h, hp => by
  refine Hn fun K hK => ?_
  have h2 : ¬ i < l.length := by omega
  simp (disch := omega) [A1, C2 (0 : Int), A5, A4, h2, ret, D2, D7, F9, F8, Am]
  have : l.findIdx? (· == x) = none := by
   rw [List.findIdx?_eq_none_iff]
   intro y hy
   obtain ⟨j, hj, rfl⟩ := List.getElem_of_mem hy
   exact hp j (by omega) _ (List.getElem?_eq_getElem hj)
  have e : l.findIdx? (fun y => decide (y = x)) = _ := this
  simp [Xx, e]
 | k + 1, i, h, hp => by
  refine Hn fun K hK => ?_
  have h2 : i < l.length := by omega
  simp (disch := omega) [A1, C2 (0 : Int), A5, A4, h2]
  refine ⟨fun hc => ?_, fun hc => ?_⟩
  ·simp [B6, ret, D2, D7, F9, F8, Am]
   have := Zk (p := (· == x)) hp l[i] (List.getElem?_eq_getElem h2) (by simp [hc])
   have e : l.findIdx? (fun y => decide (y = x)) = _ := this
   simp [Xx, e]
  ·simp (disch := omega) [B6, A4]
   rw [hK]
   exact_mod_cast q11 l c nl x hl k (i + 1) (by omega) (fun j hj y hy => by
    rcases Nat.lt_succ_iff_lt_or_eq.1 hj with hj | rfl
    ·exact hp j hj y hy
    ·rw [List.getElem?_eq_getElem h2] at hy; simp at hy; subst hy
     simp; exact fun e => hc e.symm)
theorem qCb (l : List Int) (c : Option Nat) (nl : Option Bool) (x : Int) (hl : l.length ≤ 1000000000) : A3 Tryz.prog Γ 163 [.sl (Af tK l) c nl, tK x] (tI (Xx (· == x) l)) := by
 refine A7 Vl rfl ?_
 simp (disch := omega) [Kr, A1, A4]
 exact_mod_cast q11 l c nl x hl l.length 0 (by omega) (by simp)
theorem q3t (l : List Int) (c : Option Nat) (nl : Option Bool) (x : Int) (hl : l.length ≤ 1000000000) : A3 Tryz.prog Γ 147 [.sl (Af tK l) c nl, tK x] (tB (l.contains x)) := by
 refine A7 Rz rfl ?_
 simp (disch := omega) [Ib, A1, A4]
 refine A0 (qCb l c nl x hl) rfl ?_
 simp [ret, Ic, D7, F9, F8, Am]
 unfold Xx
 cases h : l.findIdx? (· == x) with
 | none =>
  rw [List.findIdx?_eq_none_iff] at h
  have : ¬ x ∈ l := fun hx => by simpa using h x hx
  simp [this]
 | some i =>
  rw [List.findIdx?_eq_some_iff_getElem] at h
  obtain ⟨hi, h1, _⟩ := h
  have : x ∈ l := by rw [← (show l[i] = x by simpa using h1)]; exact List.getElem_mem hi
  simp [this]
theorem Vm {Q : AX → St → Prop} (l : List Int) (c : Option Nat) (nl : Option Bool) (f : FuncId) (cs : List T) (p : Int → Bool) (hp : ∀ x ∈ l, A3 Tryz.prog Γ f (tK x :: cs) (tB (p x))) (hl : l.length ≤ 1000000000)
  (h0 : (∀ x ∈ l, p x = false) → Q (.exit 0) ⟨[(0, .t (.sl (Af tK l) c nl)), (1, .t (.fn f cs)), (7, .t (tI l.length)), (8, .t (tI l.length)), (9, .t (tB false))], []⟩)
  (h1 : ∀ i : Nat, l.findIdx? p = some i → Q .ret ⟨[(4, .t (tI i))], []⟩) : ∀ (k i : Nat), k + i = l.length → (∀ j, j < i → ∀ y, l[j]? = some y → p y = false) →
  run Tryz.prog Γ D5 Q ⟨[(0, .t (.sl (Af tK l) c nl)), (1, .t (.fn f cs)), (7, .t (tI l.length)), (8, .t (tI i))], []⟩
 | 0, i, h, hq => by
  refine G6 fun K hK => ?_
  have h2 : ¬ i < l.length := by omega
  simp (disch := omega) [A1, C2 (0 : Int), A5, A4, h2]
  have h3 : i = l.length := by omega
  subst h3
  refine h0 fun y hy => ?_
  obtain ⟨j, hj, rfl⟩ := List.getElem_of_mem hy
  exact hq j (by omega) _ (List.getElem?_eq_getElem hj)
 | k + 1, i, h, hq => by
  refine G6 fun K hK => ?_
  have h2 : i < l.length := by omega
  simp (disch := omega) [A1, C2 (0 : Int), A5, A4, h2]
  refine Vg (hp l[i] (List.getElem_mem h2)) ?_
  simp
  refine ⟨fun hc => ?_, fun hc => ?_⟩
  ·simp [B6]
   exact h1 i (Zk hq l[i] (List.getElem?_eq_getElem h2) hc)
  ·simp (disch := omega) [B6, A4]
   rw [hK]
   exact_mod_cast Vm l c nl f cs p hp hl h0 h1 k (i + 1) (by omega) (fun j hj y hy => by
    rcases Nat.lt_succ_iff_lt_or_eq.1 hj with hj | rfl
    ·exact hq j hj y hy
    ·rw [List.getElem?_eq_getElem h2] at hy; simp at hy; subst hy; exact hc)
theorem q2G (l : List Int) (c : Option Nat) (nl : Option Bool) (f : FuncId) (cs : List T) (p : Int → Bool) (hp : ∀ x ∈ l, A3 Tryz.prog Γ f (tK x :: cs) (tB (p x))) (hl : l.length ≤ 1000000000) : A3 Tryz.prog Γ 123 [.sl (Af tK l) c nl, .fn f cs] (tI (Xx p l)) := by
 refine A7 Qe rfl ?_
 simp (disch := omega) [Hq, A1, A4]
 refine Vm l c nl f cs p hp hl (fun h => ?_) (fun i h => ?_) l.length 0 (by omega) (by simp)
 ·have : l.findIdx? p = none := List.findIdx?_eq_none_iff.2 h
  simp [ret, Ec, D7, F9, F8, Am, Xx, this]
 ·simp [ret, Ec, D7, F9, F8, Am, Xx, h]
theorem Fh (l : List Int) (c : Option Nat) (nl : Option Bool) (f : FuncId) (cs : List T) (p : Int → Bool) (hp : ∀ x ∈ l, A3 Tryz.prog Γ f (tK x :: cs) (tB (p x))) (hl : l.length ≤ 1000000000) : A3 Tryz.prog Γ 80 [.sl (Af tK l) c nl, .fn f cs] (tB (l.any p)) := by
 refine A7 Nw rfl ?_
 simp (disch := omega) [Gp, A1, A4]
 refine A0 (q2G l c nl f cs p hp hl) rfl ?_
 simp [ret, Gq, D7, F9, F8, Am]
 unfold Xx
 cases h : l.findIdx? p with
 | none =>
  rw [List.findIdx?_eq_none_iff] at h
  have : l.any p = false := by rw [List.any_eq_false]; intro x hx; simp [h x hx]
  simp [this]
 | some i =>
  rw [List.findIdx?_eq_some_iff_getElem] at h
  obtain ⟨hi, h1, _⟩ := h
  have : l.any p = true := List.any_eq_true.2 ⟨_, List.getElem_mem hi, h1⟩
  simp [this]
theorem q7G (l : List Int) (c : Option Nat) (nl : Option Bool) (hl : l.length ≤ 1000000000) : A3 Tryz.prog Γ 131 [.sl (Ab l) c nl] (tB (q4X l)) := by
 refine A7 q2y rfl ?_
 simp [Wy]
 refine A0 (q3t l c nl 0 hl) rfl ?_
 simp
 by_cases h : (0 : Int) ∈ l
 ·simp [h]
  refine A0 (q3t l c nl 1 hl) rfl ?_
  simp [Ol, Am, q4X, h]
 ·simp [h, Ol, Am, q4X]
theorem qDj (v : Int) : A3 Tryz.prog Γ 129 [tK v] (tB (qCZ v)) := by
 refine A7 q5T rfl ?_
 simp [q0x]
 refine A0 (q2z v) rfl ?_
 simp [q0y, Am, qCZ]
theorem qDk (v : Int) : A3 Tryz.prog Γ 130 [tK v] (tB (qDd v)) := by
 refine A7 q5U rfl ?_
 simp [q0z, q10, Am, qDd]
theorem qDl (l : List Int) (c : Option Nat) (nl : Option Bool) (hl : l.length ≤ 1000000000) : A3 Tryz.prog Γ 101 [.sl (Ab l) c nl] (tK (q6Z l)) := by
 refine A7 q7F rfl ?_
 simp [q3p]
 refine A0 (q2G l c nl _ [] qDd (fun x _ => qDk x) hl) rfl ?_
 unfold Xx
 cases h : l.findIdx? qDd with
 | none =>
  have hR : q6Z l = 3 := by unfold q6Z; rw [h]
  simp [Oj, Am, hR]
 | some i =>
  have hb : q6Z l = if q4X l = true ∨ l.any qCZ = true then 2 else l.getD i 0 := by unfold q6Z; rw [h]
  have hi : i < l.length := by
   rw [List.findIdx?_eq_some_iff_getElem] at h
   exact h.1
  have hget := C2 (f := tK) 0 hi
  have hgg : l[i]?.getD 0 = l.getD i 0 := by simp [List.getD_eq_getElem?_getD]
  rw [hgg] at hget
  have hneg : ¬ (i : Int) < 0 := by omega
  simp only
  simp [hneg]
  refine A0 (q7G l c nl hl) rfl ?_
  by_cases h1 : q4X l = true
  ·rw [if_pos (.inl h1)] at hb
   simp [h1, Oj, Am, hb]
  ·simp [h1]
   refine A0 (Fh l c nl _ [] qCZ (fun x _ => qDj x) hl) rfl ?_
   by_cases h2 : l.any qCZ = true
   ·rw [if_pos (.inr h2)] at hb
    simp only [h2]
    simp [Oj, Am, hb]
   ·rw [if_neg (by rintro (h | h); exact h1 h; exact h2 h)] at hb
    simp only [Bool.not_eq_true] at h2
    generalize q6Z l = r at *
    subst hb
    simp only [h2]
    simp (disch := omega) [Oj, Am, A1, A5, hget, hi]
theorem q7o (hΓ : GOk Γ) (k : Int) (hk : 0 ≤ k ∧ k ≤ 255) (l : List Int) (c : Option Nat) (nl : Option Bool) (hl : l.length ≤ 1000000000) (hv : ∀ v ∈ l, V4 v) : A3 Tryz.prog Γ 40 [tK k, .sl (Ab l) c nl] (tK (Oe k l)) := by
 refine A7 q6d rfl ?_
 unfold Oe
 by_cases hw : q4Y k l.length = true
 ·rw [if_pos hw]
  simp only [q4Y, decide_eq_true_eq] at hw
  simp [Ba]
  refine A0 (D4 hΓ k hk.1 hk.2) rfl ?_
  by_cases hw1 : (l.length : Int) < (Q8 k).1
  ·simp [A1, hw1, B1, Am]
  ·have hw2 : (Q8 k).2 < (l.length : Int) := by omega
   simp [A1, hw1, hw2, B1, Am]
 rw [if_neg hw]
 simp only [q4Y, decide_eq_true_eq] at hw
 have hw1 : ¬ (l.length : Int) < (Q8 k).1 := by omega
 have hw2 : ¬ (Q8 k).2 < (l.length : Int) := by omega
 have hv0 : ∀ v ∈ l, 0 ≤ v := fun v h => (hv v h).1
 have ge : ∀ i, i < l.length → (Af tK l)[i]?.getD [] = [tK (l.getD i 0)] := fun i hi => by
  have hget := C2 (f := tK) 0 hi
  have hgg : l[i]?.getD 0 = l.getD i 0 := by simp [List.getD_eq_getElem?_getD]
  rw [hgg] at hget
  exact hget
 have dA := Vk (low := 0) (l := l) (out := 1) (high := 1) (.inr rfl)
 have dO := Vk (low := 1) (l := l) (out := 0) (high := 0) (.inr rfl)
 have n1 : 0 ≤ K1 0 1 1 l := by rw [dA]; split; omega; split <;> omega
 have n2 : 0 ≤ K1 1 0 0 l := by rw [dO]; split; omega; split <;> omega
 have n3 : 0 ≤ Ym 0 l := (qAk (by simp [V4]) hv).1
 have g0 := Y1 hv 0
 by_cases e1 : k = 1
 ·subst e1
  have hR : Fa 1 l = 0 := rfl
  generalize Fa 1 l = r at *
  subst hR
  simp [Ba]
  refine A0 (D4 hΓ 1 hk.1 hk.2) rfl ?_
  simp [A1, hw1, hw2, B6, B1, Am]
 by_cases e2 : k = 2
 ·subst e2
  have hR : Fa 2 l = 1 := rfl
  generalize Fa 2 l = r at *
  subst hR
  simp [Ba]
  refine A0 (D4 hΓ 2 hk.1 hk.2) rfl ?_
  simp [A1, hw1, hw2, B6, B1, Am]
 by_cases e3 : k = 3
 ·subst e3
  have f1 : (Q8 3).1 = 1 := rfl
  have q0 : 0 < l.length := by omega
  have u0 := ge 0 q0
  have hR : Fa 3 l = Du (l.getD 0 0) := rfl
  generalize l.getD 0 0 = x0 at *
  generalize Fa 3 l = r at *
  subst hR
  simp [Ba]
  refine A0 (D4 hΓ 3 hk.1 hk.2) rfl ?_
  simp [A1, hw1, hw2, B6]
  simp (disch := omega) [A1, A5, q0, u0]
  refine A0 (Qf x0) rfl ?_
  simp [B1, Am]
 by_cases e4 : k = 4
 ·subst e4
  have f1 : (Q8 4).1 = 1 := rfl
  have q0 : 0 < l.length := by omega
  have u0 := ge 0 q0
  have p0 := g0.1
  have hR : Fa 4 l = Uc (l.getD 0 0) := rfl
  generalize l.getD 0 0 = x0 at *
  generalize Fa 4 l = r at *
  subst hR
  simp [Ba]
  refine A0 (D4 hΓ 4 hk.1 hk.2) rfl ?_
  simp [A1, hw1, hw2, B6]
  simp (disch := omega) [A1, A5, q0, u0]
  refine A0 (q3r x0 p0) rfl ?_
  simp [B1, Am]
 by_cases e5 : k = 5
 ·subst e5
  have hR : Fa 5 l = K1 0 1 1 l := rfl
  generalize Fa 5 l = r at *
  subst hR
  simp [Ba]
  refine A0 (D4 hΓ 5 hk.1 hk.2) rfl ?_
  simp [A1, hw1, hw2, B6]
  refine A0 (q9T l c nl hl) rfl ?_
  simp [B1, Am]
 by_cases e6 : k = 6
 ·subst e6
  have hR : Fa 6 l = Uc (K1 0 1 1 l) := rfl
  generalize Fa 6 l = r at *
  subst hR
  simp [Ba]
  refine A0 (D4 hΓ 6 hk.1 hk.2) rfl ?_
  simp [A1, hw1, hw2, B6]
  refine A0 (q9T l c nl hl) rfl ?_
  simp
  refine A0 (q3r _ n1) rfl ?_
  simp [B1, Am]
 by_cases e7 : k = 7
 ·subst e7
  have hR : Fa 7 l = K1 1 0 0 l := rfl
  generalize Fa 7 l = r at *
  subst hR
  simp [Ba]
  refine A0 (D4 hΓ 7 hk.1 hk.2) rfl ?_
  simp [A1, hw1, hw2, B6]
  refine A0 (qBk l c nl hl) rfl ?_
  simp [B1, Am]
 by_cases e8 : k = 8
 ·subst e8
  have hR : Fa 8 l = Uc (K1 1 0 0 l) := rfl
  generalize Fa 8 l = r at *
  subst hR
  simp [Ba]
  refine A0 (D4 hΓ 8 hk.1 hk.2) rfl ?_
  simp [A1, hw1, hw2, B6]
  refine A0 (qBk l c nl hl) rfl ?_
  simp
  refine A0 (q3r _ n2) rfl ?_
  simp [B1, Am]
 by_cases e9 : k = 9
 ·subst e9
  have hR : Fa 9 l = Ym 0 l := rfl
  generalize Fa 9 l = r at *
  subst hR
  simp [Ba]
  refine A0 (D4 hΓ 9 hk.1 hk.2) rfl ?_
  simp [A1, hw1, hw2, B6]
  refine A0 (q9V l c nl hl hv0) rfl ?_
  simp [B1, Am]
 by_cases e10 : k = 10
 ·subst e10
  have hR : Fa 10 l = Uc (Ym 0 l) := rfl
  generalize Fa 10 l = r at *
  subst hR
  simp [Ba]
  refine A0 (D4 hΓ 10 hk.1 hk.2) rfl ?_
  simp [A1, hw1, hw2, B6]
  refine A0 (q9V l c nl hl hv0) rfl ?_
  simp
  refine A0 (q3r _ n3) rfl ?_
  simp [B1, Am]
 by_cases e11 : k = 11
 ·subst e11
  have f1 : (Q8 11).1 = 3 := rfl
  have q0 : 0 < l.length := by omega
  have u0 := ge 0 q0
  have q1 : 1 < l.length := by omega
  have u1 := ge 1 q1
  have q2 : 2 < l.length := by omega
  have u2 := ge 2 q2
  have hR : Fa 11 l = q6Y (l.getD 0 0) (l.getD 1 0) (l.getD 2 0) := rfl
  generalize l.getD 0 0 = x0 at *
  generalize l.getD 1 0 = x1 at *
  generalize l.getD 2 0 = x2 at *
  generalize Fa 11 l = r at *
  subst hR
  simp [Ba]
  refine A0 (D4 hΓ 11 hk.1 hk.2) rfl ?_
  simp [A1, hw1, hw2, B6]
  simp (disch := omega) [A1, A5, q0, u0, q1, u1, q2, u2]
  refine ⟨by omega, by omega, ?_⟩
  refine A0 (qDh x0 x1 x2) rfl ?_
  simp [B1, Am]
 by_cases e12 : k = 12
 ·subst e12
  have f1 : (Q8 12).1 = 2 := rfl
  have q0 : 0 < l.length := by omega
  have u0 := ge 0 q0
  have q1 : 1 < l.length := by omega
  have u1 := ge 1 q1
  have hR : Fa 12 l = q8L (l.getD 0 0) (l.getD 1 0) := rfl
  generalize l.getD 0 0 = x0 at *
  generalize l.getD 1 0 = x1 at *
  generalize Fa 12 l = r at *
  subst hR
  simp [Ba]
  refine A0 (D4 hΓ 12 hk.1 hk.2) rfl ?_
  simp [A1, hw1, hw2, B6]
  simp (disch := omega) [A1, A5, q0, u0, q1, u1]
  refine ⟨by omega, ?_⟩
  refine A0 (qDi x0 x1) rfl ?_
  simp [B1, Am]
 by_cases e13 : k = 13
 ·subst e13
  have hR : Fa 13 l = q6Z l := rfl
  generalize Fa 13 l = r at *
  subst hR
  simp [Ba]
  refine A0 (D4 hΓ 13 hk.1 hk.2) rfl ?_
  simp [A1, hw1, hw2, B6]
  refine A0 (qDl l c nl hl) rfl ?_
  simp [B1, Am]
 have ek : Fa k l = 2 := by
  unfold Fa
  rw [if_neg e1, if_neg e2, if_neg e3, if_neg e4, if_neg e5, if_neg e6, if_neg e7, if_neg e8, if_neg e9, if_neg e10, if_neg e11, if_neg e12, if_neg e13]
 rw [ek]
 simp [Ba]
 refine A0 (D4 hΓ k hk.1 hk.2) rfl ?_
 simp [A1, hw1, hw2, B1, Am, e1, e2, e3, e4, e5, e6, e7, e8, e9, e10, e11, e12, e13]
end Go.Lg
namespace Go.Lg
open Go
section
variable {P : Program} {Γ : Tables} {Q : AX → St → Prop} {s : St}
/- slices.SortStableFunc[[]int,int] (function 90) -/
abbrev Ie : IC := (.reg [om 4 0, om 5 0, od 6 (le 0 5), om 7 1, od 8 (.hcall 126 [(tm 4), (tm 6), (tm 7)] [1000000] 8000)] [kp [] [1000000]])
def Ig : List RV := []
/- slices.stableCmpFunc[int] (function 126) -/
abbrev Iz : IC := .gh (.seq (.seq (.reg [om 11 8, om 12 1, od 13 (.bin .leq (tm 11) (tm 12))] [kp [0, 1, 2, 6, 7, 8, 13] [1000000]]) (.cond (tm 13) .skip (.exit 0))) (.block 1 (.seq (.reg [om 14 0, om 15 7, om 16 8, om 17 2, od 18 (.hcall 145 [(tm
 14), (tm 15), (tm 16), (tm 17)] [1000000] 18000)] [kp [0, 1, 2, 6, 8] [1000000]]) (.seq (.reg [om 19 8, om 7 19] [kp [0, 1, 2, 6, 7, 8] [1000000]]) (.reg [om 20 8, om 21 6, od 22 (.bin .add (tm 20) (tm 21)), om 8 22] [kp [0, 1, 2,
 6, 7, 8] [1000000]]))))) [kp [0, 1, 2, 6, 7, 8] [1000000]]
def Eu : IC := .loop Iz
abbrev Ug : IC := .gh (.seq (.seq (.reg [om 33 8, om 34 1, od 35 (.bin .leq (tm 33) (tm 34))] [kp [0, 1, 2, 6, 7, 8, 35] [1000000]]) (.cond (tm 35) .skip (.exit 4))) (.block 5 (.seq (.reg [om 36 0, om 37 7, om 38 7, om 39 6, od 40 (.bin .add (tm 38)
 (tm 39)), om 41 8, om 42 2, od 43 (.hcall 146 [(tm 36), (tm 37), (tm 40), (tm 41), (tm 42)] [1000000] 43000)] [kp [0, 1, 2, 6, 8] [1000000]]) (.seq (.reg [om 44 8, om 7 44] [kp [0, 1, 2, 6, 7, 8] [1000000]]) (.reg [om 45 8, om 46
 6, od 47 (.bin .mul (ki 2) (tm 46)), od 48 (.bin .add (tm 45) (tm 47)), om 8 48] [kp [0, 1, 2, 6, 7, 8] [1000000]]))))) [kp [0, 1, 2, 6, 7, 8] [1000000]]
def Uh : IC := .loop Ug
abbrev J0 : IC := .gh (.seq (.seq (.reg [om 28 6, om 29 1, od 30 (.bin .lss (tm 28) (tm 29))] [kp [0, 1, 2, 6, 30] [1000000]]) (.cond (tm 30) .skip (.exit 2))) (.block 3 (.seq (.reg [om 31 6, od 32 (.bin .mul (ki 2) (tm 31)), od 7 (.mv (ki 0)), om 8
 32] [kp [0, 1, 2, 6, 7, 8] [1000000]]) (.seq (.block 4 Uh) (.seq (.seq (.reg [om 49 7, om 50 6, od 51 (.bin .add (tm 49) (tm 50)), om 9 51] [kp [0, 1, 2, 6, 7, 9] [1000000]]) (.seq (.reg [om 52 9, om 53 1,
 od 54 (.bin .lss (tm 52) (tm 53))] [kp [0, 1, 2, 6, 7, 9, 54] [1000000]]) (.cond (tm 54) (.reg [om 55 0, om 56 7, om 57 9, om 58 1, om 59 2, od 60 (.hcall 146 [(tm 55), (tm 56), (tm 57), (tm 58), (tm 59)] [1000000] 60000)] [kp [0,
 1, 2, 6] [1000000]]) .skip))) (.reg [om 61 6, od 62 (.bin .mul (tm 61) (ki 2)), om 6 62] [kp [0, 1, 2, 6] [1000000]])))))) [kp [0, 1, 2, 6] [1000000]]
def Ew : IC := .loop J0
abbrev J1 : IC := (.seq (.reg [od 6 (.mv (ki 20))] [kp [0, 1, 2, 6] [1000000]]) (.seq (.reg [om 10 6, od 7 (.mv (ki 0)), om 8 10] [kp [0, 1, 2, 6, 7, 8] [1000000]]) (.seq (.block 0 Eu) (.seq (.reg [om 23 0, om 24 7, om 25 1,
 om 26 2, od 27 (.hcall 145 [(tm 23), (tm 24), (tm 25), (tm 26)] [1000000] 27000)] [kp [0, 1, 2, 6] [1000000]]) (.block 2 Ew)))))
theorem P8 (h : ∀ K : St → Prop, K = run P Γ Eu Q → run P Γ Iz (Aq K Q) s) : run P Γ Eu Q s := Ac h
theorem P9 (h : ∀ K : St → Prop, K = run P Γ Ew Q → run P Γ J0 (Aq K Q) s) : run P Γ Ew Q s := Ac h
def J2 : List RV := []
/- slices.insertionSortCmpFunc[int] (function 145) -/
abbrev Fp : IC := .gh (.seq (.seq (.reg [om 18 9, om 19 1, od 20 (.bin .gtr (tm 18) (tm 19)), om 21 20, oT 22 (.mv (tm 3)) 21, oT 23 (.mv (tm 0)) 21, oT 24 (.mv (tm 9)) 21, oT 25 (ia 1 23 24) 21, oT 26 (ld 1 25) 21, oT 27 (.mv (tm 0)) 21, oT 28 (.mv
 (tm 9)) 21, oT 29 (.bin .sub (tm 28) (ki 1)) 21, oT 30 (ia 1 27 29) 21, oT 31 (ld 1 30) 21, oT 32 (.callv (tm 22) [(tm 26), (tm 31)]) 21, oT 33 (.bin .lss (tm 32) (ki 0)) 21, od 34 (.pick (tm 21) (tm 33) kF)] [kp [0, 1, 2, 3, 8, 9,
 34] [1000000]]) (.cond (tm 34) .skip (.exit 2))) (.seq (.block 3 (.reg [om 37 0, om 38 9, om 39 0, om 40 9, od 41 (.bin .sub (tm 40) (ki 1)), om 42 0, om 43 9, od 44 (.bin .sub (tm 43) (ki 1)), od 45 (ia 1 42 44), od 46 (.ldR
 1000000 1 false (tm 45)), om 47 0, om 48 9, od 49 (ia 1 47 48), od 50 (.ldR 1000000 1 false (tm 49)), od 51 (ia 1 37 38), on (.stR 1000000 1 (tm 51) (tm 46)), od 52 (ia 1 39 41), on (.stR 1000000 1 (tm 52) (tm 50))] [kp [0, 1, 2,
 3, 8, 9] [1000000]])) (.reg [om 35 9, od 36 (.bin .sub (tm 35) (ki 1)), om 9 36] [kp [0, 1, 2, 3, 8, 9] [1000000]]))) [kp [0, 1, 2, 3, 8, 9] [1000000]]
def Bv : IC := .loop Fp
abbrev Fq : IC := .gh (.seq (.seq (.reg [om 12 8, om 13 2, od 14 (.bin .lss (tm 12) (tm 13))] [kp [0, 1, 2, 3, 8, 14] [1000000]]) (.cond (tm 14) .skip (.exit 0))) (.seq (.block 1 (.seq (.reg [om 17 8, om 9 17] [kp [0, 1, 2, 3, 8, 9] [1000000]])
 (.block 2 Bv))) (.reg [om 15 8, od 16 (.bin .add (tm 15) (ki 1)), om 8 16] [kp [0, 1, 2, 3, 8] [1000000]]))) [kp [0, 1, 2, 3, 8] [1000000]]
def Bw : IC := .loop Fq
abbrev Ft : IC := (.seq (.reg [om 10 1, od 11 (.bin .add (tm 10) (ki 1)), om 8 11] [kp [0, 1, 2, 3, 8] [1000000]]) (.block 0 Bw))
theorem Ed (h : ∀ K : St → Prop, K = run P Γ Bv Q → run P Γ Fp (Aq K Q) s) : run P Γ Bv Q s := Ac h
theorem Ee (h : ∀ K : St → Prop, K = run P Γ Bw Q → run P Γ Fq (Aq K Q) s) : run P Γ Bw Q s := Ac h
def Fv : List RV := []
/- probecard/netlists.Order (function 38) -/
abbrev Wz : IC := .gh (.seq (.reg [od 23 (.bin .lss (tm 22) (tm 21))] [kp [4, 6, 21, 22, 23] [19]]) (.seq (.cond (tm 23) .skip (.exit 0)) (.seq (.block 1 (.seq (.reg [om 24 22, om 7 24] [kp [4, 6, 7, 21, 22] [19]]) (.reg [om 25 6, om 26 7, om 27 7,
 od 28 (ia 1 25 26), on (.store 1 (tm 28) (tm 27))] [kp [4, 6, 21, 22] [19]]))) (.reg [od 29 (.bin .add (tm 22) (ki 1)), om 22 29] [kp [4, 6, 21, 22] [19]])))) [kp [4, 6, 21, 22] [19]]
def J3 : IC := .loop Wz
abbrev X1 : IC := (.seq (.reg [od 1 (.box true (tm 0)), od 2 (.mv kN), od 3 (.mv (ki 0))] [kp [1] []]) (.seq (.reg [od 9 (lG 4 1), od 10 (.call 67 [(tm 9)]), om 8 10, od 11 (ex 8 0), od 12 (ex 8 1), od 4 (.alloc false [(.slice none 0 0)]), on
 (.store 1 (tm 4) (tm 11)), om 5 12] [.frz 4, kp [1, 4, 5] []]) (.seq (.seq (.reg [om 13 5, od 14 (.bin .neq (tm 13) (ki 0))] [kp [1, 4, 5, 14] []]) (.cond (tm 14) (.seq (.reg [om 15 5, od 2 (.mv kN), om 3 15] [kp [2, 3] [19]])
 .ret) .skip)) (.seq (.reg [od 16 (fa 0 1), od 17 (ld 1 16), od 18 (le 0 17), od 19 (.mk 3 1 [(.int .i64 0)] (tm 18) (tm 18)), om 6 19] [kp [4, 6] [19]]) (.seq (.seq (.reg [om 20 6, od 21 (le 0 20), od 22 (.mv (ki 0))] [kp [4, 6,
 21, 22] [19]]) (.block 0 J3)) (.seq (.reg [om 30 6, od 31 (.mkf 91 [(tm 4)]), od 32 (.hcall 90 [(tm 30), (tm 31)] [19] 32000)] [kp [6] [19]]) (.seq (.reg [om 33 6, om 2 33, od 3 (.mv (ki 0))] [kp [2, 3] [19]])
 .ret)))))))
theorem Pn (h : ∀ K : St → Prop, K = run P Γ J3 Q → run P Γ Wz (Aq K Q) s) : run P Γ J3 Q s := Ac h
def Om : List RV := [.tmp 2, .tmp 3]
/- probecard/netlists.Order$1 (function 91) -/
abbrev Tj : IC := (.seq (.reg [od 5 (.mv (ki 0))] [kp [0, 1, 2] []]) (.seq (.reg [od 6 (ld 1 2), om 7 0, od 8 (ia 1 6 7), od 9 (ld 1 8), od 10 (ld 1 2), om 11 1, od 12 (ia 1 10 11), od 13 (ld 1 12), od 14 (.call 92 [(tm 9), (tm 13)]), om 5 14] [kp
 [5] []]) .ret))
def Tm : List RV := [.tmp 5]
/- cmp.Compare[int] (function 92) -/
abbrev Vn : IC := (.seq (.reg [od 4 (.mv (ki 0))] [kp [0, 1] []]) (.seq (.reg [om 7 0, od 8 (.call 127 [(tm 7)]), om 5 8] [kp [0, 1, 5] []]) (.seq (.reg [om 9 1, od 10 (.call 127 [(tm 9)]), om 6 10] [kp [0, 1, 5, 6] []]) (.seq (.seq (.reg [om 11 5]
 [kp [0, 1, 6, 11] []]) (.cond (tm 11) (.seq (.seq (.reg [om 12 6] [kp [12] []]) (.cond (tm 12) (.seq (.reg [od 4 (.mv (ki 0))] [kp [4] []]) .ret) .skip)) (.seq (.reg [od 4 (.mv (.const (.int .i64 (-1))))] [kp [4] []]) .ret))
 .skip)) (.seq (.seq (.reg [om 13 6] [kp [0, 1, 13] []]) (.cond (tm 13) (.seq (.reg [od 4 (.mv (ki 1))] [kp [4] []]) .ret) .skip)) (.seq (.seq (.reg [om 14 0, om 15 1, od 16 (.bin .lss (tm 14) (tm 15))] [kp [0, 1, 16] []]) (.cond
 (tm 16) (.seq (.reg [od 4 (.mv (.const (.int .i64 (-1))))] [kp [4] []]) .ret) .skip)) (.seq (.seq (.reg [om 17 0, om 18 1, od 19 (.bin .gtr (tm 17) (tm 18))] [kp [19] []]) (.cond (tm 19) (.seq (.reg [od 4 (.mv (ki 1))] [kp [4] []])
 .ret) .skip)) (.seq (.reg [od 4 (.mv (ki 0))] [kp [4] []]) .ret))))))))
def M5 : List RV := [.tmp 4]
/- cmp.isNaN[int] (function 127) -/
abbrev Yt : IC := (.seq (.reg [od 2 (.mv kF)] [kp [0] []]) (.seq (.reg [om 3 0, om 4 0, od 5 (.bin .neq (tm 3) (tm 4)), om 2 5] [kp [2] []]) .ret))
def Yu : List RV := [.tmp 2]
end
end Go.Lg
namespace Go.Lg
open Go Go.Proofs
theorem S0 : As Tryz.prog 90 Ie 9 2 Ig = true := by kernel_rfl
theorem T0 : As Tryz.prog 126 J1 63 3 J2 = true := by kernel_rfl
theorem Lh : As Tryz.prog 145 Ft 53 4 Fv = true := by kernel_rfl
theorem q30 : As Tryz.prog 38 X1 34 1 Om = true := by kernel_rfl
theorem q12 : As Tryz.prog 91 Tj 15 3 Tm = true := by kernel_rfl
theorem q1x : As Tryz.prog 92 Vn 20 2 M5 = true := by kernel_rfl
theorem q3u : As Tryz.prog 127 Yt 6 1 Yu = true := by kernel_rfl
end Go.Lg
namespace Go.Lg
open Go Go.Proofs
variable {Γ : Tables}
theorem q9W {hp : List (Nat × B0)} {f : FuncId} {K : T → Prop} {cs : List T} {t u res : T} (h : A3 Tryz.prog Γ f (t :: u :: cs) res) (hk : K res) : q3Q Tryz.prog Γ hp f (.t t :: .t u :: cs.map .t) K ⟨⟩ :=
 A0 h (by simp only [List.map_cons, List.map_map, Function.comp_def, Ak, Ag]; rw [Wj]; rfl) hk
theorem qDm {l : List Int} {a b : Nat} : Bo (Wq l a b) = ((Bo l).set a [tI (l.getD b 0)]).set b [tI (l.getD a 0)] := by
 show Af tI _ = ((Af tI l).set a _).set b _
 rw [Ep, Ep]; rfl
theorem ge1 {f : Int → T} {l : List Int} {i : Nat} (hi : i < l.length) : (Af f l)[i]?.getD [] = [f (l.getD i 0)] := by
 have hget := C2 (f := f) 0 hi
 have hgg : l[i]?.getD 0 = l.getD i 0 := by simp [List.getD_eq_getElem?_getD]
 rw [hgg] at hget
 exact hget
theorem q7p {Q : AX → St → Prop} (ty n : Nat) (cap : Option Nat) (hn : n ≤ 1000000000) (f : FuncId) (cs : List T) (cmp : Int → Int → Int) (i : Nat) (hi : i < n) (R : List Int)
  (h0 : ∀ j : Int, Q (.exit 2) ⟨[(0, .ls 1000000 0 n cap), (1, .t (tI 0)), (2, .t (tI n)), (3, .t (.fn f cs)), (8, .t (tI i)), (9, .t (tI j)), (34, .t (tB false))], [(1000000, .sl ty 1 (Bo R))]⟩) :
  ∀ (j : Nat) (l : List Int), j ≤ i → l.length = n → (∀ x ∈ l, ∀ y ∈ l, A3 Tryz.prog Γ f (tI x :: tI y :: cs) (tI (cmp x y))) → q6b (fun a b => decide (cmp a b < 0)) j l = R →
  run Tryz.prog Γ Bv Q ⟨[(0, .ls 1000000 0 n cap), (1, .t (tI 0)), (2, .t (tI n)), (3, .t (.fn f cs)), (8, .t (tI i)), (9, .t (tI j))], [(1000000, .sl ty 1 (Bo l))]⟩
 | 0, l, hj, hl, hc, hR => by
  refine Ed fun K hK => ?_
  simp only [q6b] at hR
  subst hR
  simp
  exact h0 0
 | j + 1, l, hj, hl, hc, hR => by
  refine Ed fun K hK => ?_
  simp only [q6b] at hR
  have la : j < l.length := by omega
  have lb : j + 1 < l.length := by omega
  have e1 := ge1 (f := tI) la
  have e2 := ge1 (f := tI) lb
  have m1 : l.getD j 0 ∈ l := by rw [Aw la]; exact List.getElem_mem la
  have m2 : l.getD (j + 1) 0 ∈ l := by rw [Aw lb]; exact List.getElem_mem lb
  have hcc := hc _ m2 _ m1
  have hs := qDm (l := l) (a := j + 1) (b := j)
  have hperm : (Wq l (j + 1) j).Perm l := q6T lb la
  have hpl := q4U (l := l) (a := j + 1) (b := j)
  have hcs : ∀ x ∈ Wq l (j + 1) j, ∀ y ∈ Wq l (j + 1) j, A3 Tryz.prog Γ f (tI x :: tI y :: cs) (tI (cmp x y)) := fun x hx y hy => hc x (hperm.mem_iff.1 hx) y (hperm.mem_iff.1 hy)
  have ih := q7p ty n cap hn f cs cmp i hi R h0 j (Wq l (j + 1) j) (by omega) (by rw [hpl]; exact hl) hcs
  generalize Wq l (j + 1) j = l' at *
  generalize l.getD j 0 = va at *
  generalize l.getD (j + 1) 0 = vb at *
  have hj1 : (0 : Int) < (j : Int) + 1 := by omega
  have hj2 : ((j : Int) + 1).toNat = j + 1 := by omega
  have hj3 : (j : Int) + 1 < n := by omega
  have hj4 : (j : Int) < n := by omega
  have hj5 : (j : Int) + 1 - 1 = j := by omega
  have lan : j < n := by omega
  have lbn : j + 1 < n := by omega
  simp (disch := omega) [hj1, hj2, hj3, hj4, hj5, lan, lbn, A1, A5, hl, e1, e2, A4]
  refine ⟨by omega, q9W hcc ?_⟩
  by_cases h : cmp vb va < 0
  ·rw [if_pos (by simpa using h)] at hR
   have ih := ih hR
   rw [hs] at ih
   simp (disch := omega) [h, hj1, hj2, hj3, hj4, hj5, lan, lbn, A1, A5, hl, e1, e2, A4]
   refine ⟨by omega, ?_⟩
   rw [hK]
   exact_mod_cast ih
  ·rw [if_neg (by simpa using h)] at hR
   subst hR
   simp (disch := omega) [h]
   exact_mod_cast h0 (j + 1)
theorem q9X {Q : AX → St → Prop} (ty n : Nat) (cap : Option Nat) (hn : n ≤ 1000000000) (f : FuncId) (cs : List T) (cmp : Int → Int → Int) (R : List Int)
  (h0 : ∀ i : Int, Q (.exit 0) ⟨[(0, .ls 1000000 0 n cap), (1, .t (tI 0)), (2, .t (tI n)), (3, .t (.fn f cs)), (8, .t (tI i)), (14, .t (tB false))], [(1000000, .sl ty 1 (Bo R))]⟩) :
  ∀ (k i : Nat) (l : List Int), 1 ≤ i → i + k = max 1 n → l.length = n → (∀ x ∈ l, ∀ y ∈ l, A3 Tryz.prog Γ f (tI x :: tI y :: cs) (tI (cmp x y))) → q0r (fun a b => decide (cmp a b < 0)) k i l = R →
  run Tryz.prog Γ Bw Q ⟨[(0, .ls 1000000 0 n cap), (1, .t (tI 0)), (2, .t (tI n)), (3, .t (.fn f cs)), (8, .t (tI i))], [(1000000, .sl ty 1 (Bo l))]⟩
 | 0, i, l, h1, h, hl, hc, hR => by
  refine Ee fun K hK => ?_
  simp only [q0r] at hR
  subst hR
  have h2 : ¬ (i : Int) < n := by omega
  have h2' : ¬ i < n := by omega
  simp [h2, h2']
  exact h0 _
 | k + 1, i, l, h1, h, hl, hc, hR => by
  refine Ee fun K hK => ?_
  simp only [q0r] at hR
  have h2 : (i : Int) < n := by omega
  have h2' : i < n := by omega
  have hperm := q1g (lt := fun a b => decide (cmp a b < 0)) (j := i) (l := l) (by omega)
  have ih := q9X ty n cap hn f cs cmp R h0 k (i + 1) (q6b (fun a b => decide (cmp a b < 0)) i l) (by omega) (by omega) (by rw [hperm.length_eq]; exact hl) (fun x hx y hy => hc x (hperm.mem_iff.1 hx) y (hperm.mem_iff.1 hy)) hR
  have hlp := fun Q h0 => q7p (Γ := Γ) (Q := Q) ty n cap hn f cs cmp i h2' _ h0 i l (Nat.le_refl _) hl hc rfl
  simp (disch := omega) [h2, h2', A4]
  refine hlp _ fun j => ?_
  simp (disch := omega) [A4]
  rw [hK]
  exact_mod_cast ih
theorem q9Y (ty n : Nat) (cap : Option Nat) (hn : n ≤ 1000000000) (f : FuncId) (cs : List T) (cmp : Int → Int → Int) (l : List Int) (hl : l.length = n) (hc : ∀ x ∈ l, ∀ y ∈ l, A3 Tryz.prog Γ f (tI x :: tI y :: cs) (tI (cmp x y))) :
  Ge Tryz.prog Γ 145 [(1000000, .sl ty 1 (Bo l))] [.ls 1000000 0 n cap, .t (tI 0), .t (tI n), .t (.fn f cs)] (.t (.tup [])) [(1000000, .sl ty 1 (Bo (q0r (fun a b => decide (cmp a b < 0)) (n - 1) 1 l)))] := by
 refine Ik Lh rfl ?_
 have hlp := fun Q h0 => q9X (Γ := Γ) (Q := Q) ty n cap hn f cs cmp _ h0 (n - 1) 1 l (by omega) (by omega) hl hc rfl
 simp (disch := omega) [Ft, A4]
 refine hlp _ fun i => ?_
 simp [Fv]
theorem q7q {lt : Int → Int → Bool} : ∀ {f i : Nat} {l : List Int}, i + f ≤ l.length ∨ f = 0 → (q0r lt f i l).Perm l
 | 0, i, l, _ => List.Perm.refl l
 | f + 1, i, l, h => by
  simp only [q0r]
  have hp := q1g (lt := lt) (j := i) (l := l) (by omega)
  exact (q7q (by rw [hp.length_eq]; omega)).trans hp
theorem q9Z {lt : Int → Int → Bool} {l : List Int} {n : Nat} (h : l.length = n) : (q0r lt (n - 1) 1 l).length = l.length := (q7q (by omega)).length_eq
theorem qDn (ty n : Nat) (cap : Option Nat) (hn : n ≤ 19) (f : FuncId) (cs : List T) (cmp : Int → Int → Int) (l : List Int) (hl : l.length = n) (hc : ∀ x ∈ l, ∀ y ∈ l, A3 Tryz.prog Γ f (tI x :: tI y :: cs) (tI (cmp x y))) :
  Ge Tryz.prog Γ 126 [(1000000, .sl ty 1 (Bo l))] [.ls 1000000 0 n cap, .t (tI n), .t (.fn f cs)] (.t (.tup [])) [(1000000, .sl ty 1 (Bo (q0r (fun a b => decide (cmp a b < 0)) (n - 1) 1 l)))] := by
 refine Ik T0 rfl ?_
 have hi := q9Y (Γ := Γ) ty n cap (by omega) f cs cmp l hl hc
 simp (disch := omega) [J1, A4]
 have hR := q9Z (lt := fun a b => decide (cmp a b < 0)) hl
 generalize q0r (fun a b => decide (cmp a b < 0)) (n - 1) 1 l = R at *
 refine P8 fun K hK => ?_
 have h1 : ¬ (20 : Int) ≤ n := by omega
 have h2 : ¬ 20 ≤ n := by omega
 have h3 : ¬ (20 : Int) < n := by omega
 have h4 : ¬ 20 < n := by omega
 simp [h1, h2]
 refine ⟨_, _, hi, ?_⟩
 simp [A1, hR]
 refine P9 fun K hK => ?_
 simp [h3, h4, J2]
theorem qGw (ty n : Nat) (cap : Option Nat) (hn : n ≤ 19) (f : FuncId) (cs : List T) (cmp : Int → Int → Int) (l : List Int) (hl : l.length = n) (hc : ∀ x ∈ l, ∀ y ∈ l, A3 Tryz.prog Γ f (tI x :: tI y :: cs) (tI (cmp x y))) :
  Ge Tryz.prog Γ 90 [(1000000, .sl ty 1 (Bo l))] [.ls 1000000 0 n cap, .t (.fn f cs)] (.t (.tup [])) [(1000000, .sl ty 1 (Bo (q0r (fun a b => decide (cmp a b < 0)) (n - 1) 1 l)))] := by
 refine Ik S0 rfl ?_
 have hi := qDn (Γ := Γ) ty n cap hn f cs cmp l hl hc
 have hR := q9Z (lt := fun a b => decide (cmp a b < 0)) hl
 generalize q0r (fun a b => decide (cmp a b < 0)) (n - 1) 1 l = R at *
 simp (disch := omega) [Ie, A4]
 refine ⟨_, _, hi, ?_⟩
 simp [Ig, A1, hR]
theorem q9a (n : Int) : A3 Tryz.prog Γ 127 [tI n] (tB false) := by
 refine A7 q3u rfl ?_
 simp [Yt, Yu, Am]
def qAn (a b : Int) : Int := if a < b then -1 else if b < a then 1 else 0
theorem qDo (a b : Int) : A3 Tryz.prog Γ 92 [tI a, tI b] (tI (qAn a b)) := by
 refine A7 q1x rfl ?_
 simp [Vn]
 refine A0 (q9a a) rfl ?_
 simp
 refine A0 (q9a b) rfl ?_
 by_cases h : a < b
 ·simp [h, M5, Am, qAn]
 ·by_cases h1 : b < a <;> simp [h, h1, M5, Am, qAn]
def qF9 (c : Ax) : T := .sl (Bo (M4 c).2.out) none none
theorem q9b (c : Ax) (h : Cj c = 0) (a b : Int) (ha : 0 ≤ a ∧ a < c.nodes.l.length) (hb : 0 ≤ b ∧ b < c.nodes.l.length) : A3 Tryz.prog Γ 91 [tI a, tI b, .ip [qF9 c] 0] (tI (qAn (Le c a.toNat) (Le c b.toNat))) := by
 refine A7 q12 rfl ?_
 have hl := (qAm h).1
 have e1 := ge1 (f := tI) (l := (M4 c).2.out) (i := a.toNat) (by omega)
 have e2 := ge1 (f := tI) (l := (M4 c).2.out) (i := b.toNat) (by omega)
 unfold Le qF9
 generalize (M4 c).2.out.getD a.toNat 0 = va at *
 generalize (M4 c).2.out.getD b.toNat 0 = vb at *
 simp (disch := omega) [Tj, A1, A5, hl, e1, e2, ha, hb]
 refine A0 (qDo _ _) rfl ?_
 simp [Tm, Am]
theorem q6e {Q : AX → St → Prop} (n : Nat) (hn : n ≤ 1000000000) (a4 : T)
  (h0 : Q (.exit 0) ⟨[(4, .t a4), (6, .ls 19 0 n none), (21, .t (tI n)), (22, .t (tI n)), (23, .t (tB false))], [(19, .sl 3 1 (Bo (rng n)))]⟩) : ∀ (k i : Nat), k + i = n →
  run Tryz.prog Γ J3 Q ⟨[(4, .t a4), (6, .ls 19 0 n none), (21, .t (tI n)), (22, .t (tI i))], [(19, .sl 3 1 (Bo (rng i ++ List.replicate (n - i) 0)))]⟩
 | 0, i, h => by
  refine Pn fun K hK => ?_
  have h2 : i = n := by omega
  subst h2
  simp
  simpa using h0
 | k + 1, i, h => by
  refine Pn fun K hK => ?_
  have ih := q6e n hn a4 h0 k (i + 1) (by omega)
  have h2 : i < n := by omega
  have hs : (Bo (rng i ++ List.replicate (n - i) 0)).set i [tI i] = Bo (rng (i + 1) ++ List.replicate (n - (i + 1)) 0) := by
   show (Af tI _).set i [tI i] = Af tI _
   rw [Ep]
   congr 1
   have e : n - i = (n - (i + 1)) + 1 := by omega
   rw [e, List.replicate_succ, List.set_append, if_neg (by rw [Og]; omega), Og, Nat.sub_self]
   simp [rng, List.range_succ]
  have hlen : (Bo (rng i ++ List.replicate (n - i) 0)).length = n := by rw [A1]; simp [Og]; omega
  generalize Bo (rng i ++ List.replicate (n - i) 0) = E at *
  simp (disch := omega) [h2, hlen, hs, A4]
  rw [hK]
  exact_mod_cast ih
theorem q6f (hΓ : GOk Γ) (c : Ax) (hc : COk c) (hn : c.nodes.l.length ≤ 19) :
  A3 Tryz.prog Γ 38 [.agg (tC c)] (.tup [if Cj c = 0 then .sl (Bo (L0 c)) none none else .sl [] (some 0) (some true), tI (Cj c)]) := by
 refine A7 q30 rfl ?_
 have e1 := q52 hΓ c hc.toCirOk hc.asc
 simp [X1, tC, A6, A8, Ad, Bl]
 refine A0 e1 rfl ?_
 by_cases h : Cj c = 0
 case neg => simp [h, Om, St.freeze, B0.closed, Dl, frz1, frz0, Im, del, Ag]
 have hlp := fun Q h0 => q6e (Γ := Γ) (Q := Q) c.nodes.l.length (by omega) (.ip [qF9 c] 0) h0 c.nodes.l.length 0 (by omega)
 have hz : List.replicate c.nodes.l.length [T.v (Value.int .i64 0)] = Bo (rng 0 ++ List.replicate (c.nodes.l.length - 0) 0) := by simp [Af, rng]
 have hsort := qGw (Γ := Γ) 3 c.nodes.l.length none hn 91 [.ip [qF9 c] 0] (fun a b => qAn (Le c a.toNat) (Le c b.toNat)) (rng c.nodes.l.length) Og (fun x hx y hy => q9b c h x y (q3g.1 hx) (q3g.1 hy))
 have hlt : (fun a b => decide (qAn (Le c a.toNat) (Le c b.toNat) < 0)) = qBi c := by
  funext a b
  simp only [qBi, qAn]
  by_cases h1 : Le c a.toNat < Le c b.toNat
  ·simp [h1]
  ·by_cases h2 : Le c b.toNat < Le c a.toNat <;> simp [h1, h2]
 rw [hlt] at hsort
 have ho : q0r (qBi c) (c.nodes.l.length - 1) 1 (rng c.nodes.l.length) = L0 c := rfl
 rw [ho] at hsort
 have holen : (L0 c).length = c.nodes.l.length := by rw [(Qc c).1.length_eq, Og]
 simp [h, Aa, A4, St.freeze, B0.closed, Dl, frz1, frz0, Im, del, Ag]
 refine ⟨by omega, ?_⟩
 rw [hz]
 refine hlp _ ?_
 simp
 refine ⟨_, _, hsort, ?_⟩
 have htk : (Bo (L0 c)).take c.nodes.l.length = Bo (L0 c) := List.take_of_length_le (by rw [A1, holen]; exact Nat.le_refl _)
 simp [A1, Og, holen, Om, Ag, htk, h]
end Go.Lg
namespace Go.Lg
open Go
section
variable {P : Program} {Γ : Tables} {Q : AX → St → Prop} {s : St}
/- probecard/sims.fits (function 49) -/
abbrev Zs : IC := (.seq (.reg [od 2 (.box true (tm 0)), od 3 (.box true (tm 1)), od 4 (.mv (ki 0))] [kp [2, 3] []]) (.seq (.block 0 (.seq (.reg [od 6 (fa 2 2), od 7 (ld 1 6), od 8 (le 0 7), od 9 (.bin .gtr (tm 8) (ki 0)), om 10 9, oF 11 (lG 4 2) 10,
 oF 12 (.bsl true 71 1 [(ku 15)]) 10, oF 13 (.call 66 [(tm 11), (tm 12)]) 10, oF 14 (le 0 13) 10, oF 15 (.bin .gtr (tm 14) (ki 0)) 10, od 16 (.pick (tm 10) kT (tm 15)), om 5 16] [kp [2, 3, 5] []]) (.cond (tm 5) (.seq (.reg [od 4
 (.mv (ki 7))] [kp [4] []]) .ret) (.seq (.reg [od 18 (fa 0 3), od 19 (ld 1 18), od 20 (le 0 19), od 21 (lG 4 2), od 22 (.call 77 [(tm 21)]), od 23 (le 0 22), od 24 (.bin .neq (tm 20) (tm 23)), om 25 24, oF 26 (fa 1 3) 25, oF 27 (ld
 1 26) 25, oF 28 (le 0 27) 25, oF 29 (lG 4 2) 25, oF 30 (.call 19 [(tm 29)]) 25, oF 31 (le 0 30) 25, oF 32 (.bin .neq (tm 28) (tm 31)) 25, od 33 (.pick (tm 25) kT (tm 32)), om 17 33] [kp [3, 17] []]) (.cond (tm 17) (.seq (.reg [od 4
 (.mv (ki 8))] [kp [4] []]) .ret) (.seq (.reg [od 35 (fa 0 3), od 36 (ld 1 35), od 37 (.call 80 [(tm 36), (.func 106)]), om 38 37, oF 39 (fa 1 3) 38, oF 40 (ld 1 39) 38, oF 41 (.call 80 [(tm 40), (.func 106)]) 38, od 42 (.pick (tm
 38) kT (tm 41)), om 34 42] [kp [34] []]) (.cond (tm 34) (.seq (.reg [od 4 (.mv (ki 1))] [kp [4] []]) .ret) .skip))))))) (.seq (.reg [od 4 (.mv (ki 0))] [kp [4] []]) .ret)))
def Gs : List RV := [.tmp 4]
/- probecard/sims.above (function 106) -/
abbrev q2H : IC := (.seq (.reg [od 2 (.mv kF)] [kp [0] []]) (.seq (.reg [om 3 0, od 4 (.bin .gtr (tm 3) (ku 3)), om 2 4] [kp [2] []]) .ret))
def q2I : List RV := [.tmp 2]
/- (probecard/sims.run).load (function 50) -/
abbrev Yv : IC := .gh (.seq (.reg [od 13 (.bin .lss (tm 12) (tm 11))] [kp [2, 3, 10, 11, 12, 13] [2, 1000000]]) (.seq (.cond (tm 13) .skip (.exit 0)) (.seq (.block 1 (.seq (.reg [om 14 12, od 15 (ia 1 10 12), od 16 (ld 1 15), om 4 14, om 5 16] [kp
 [2, 3, 4, 5, 10, 11, 12] [2, 1000000]]) (.reg [od 17 (fa 4 2), od 18 (.ldR 2 1 false (tm 17)), om 19 5, od 20 (fa 0 3), od 21 (.ldT 1 false (tm 20)), om 22 4, od 23 (ia 1 21 22), od 24 (.ldT 1 false (tm 23)), od 25 (ia 1 18 19), on
 (.stR 1000000 1 (tm 25) (tm 24))] [kp [2, 3, 10, 11, 12] [2, 1000000]]))) (.reg [od 26 (.bin .add (tm 12) (ki 1)), om 12 26] [kp [2, 3, 10, 11, 12] [2, 1000000]])))) [kp [2, 3, 10, 11, 12] [2, 1000000]]
def K4 : IC := .loop Yv
abbrev Yw : IC := .gh (.seq (.reg [od 32 (.bin .lss (tm 31) (tm 30))] [kp [2, 3, 29, 30, 31, 32] [2, 1000000]]) (.seq (.cond (tm 32) .skip (.exit 2)) (.seq (.block 3 (.seq (.reg [om 33 31, od 34 (ia 1 29 31), od 35 (ld 1 34), om 6 33, om 7 35] [kp
 [2, 3, 6, 7, 29, 30, 31] [2, 1000000]]) (.reg [od 36 (fa 4 2), od 37 (.ldR 2 1 false (tm 36)), om 38 7, od 39 (fa 1 3), od 40 (.ldT 1 false (tm 39)), om 41 6, od 42 (ia 1 40 41), od 43 (.ldT 1 false (tm 42)), od 44 (ia 1 37 38), on
 (.stR 1000000 1 (tm 44) (tm 43))] [kp [2, 3, 29, 30, 31] [2, 1000000]]))) (.reg [od 45 (.bin .add (tm 31) (ki 1)), om 31 45] [kp [2, 3, 29, 30, 31] [2, 1000000]])))) [kp [2, 3, 29, 30, 31] [2, 1000000]]
def K5 : IC := .loop Yw
abbrev Yx : IC := (.seq (.reg [od 2 (.box false (tm 0)), od 3 (.box true (tm 1))] [kp [2, 3] [2, 1000000]]) (.seq (.seq (.reg [od 8 (fa 0 2), od 9 (lG 4 8), od 10 (.call 77 [(tm 9)]), od 11 (le 0 10), od 12 (.mv (ki 0))] [kp [2, 3, 10, 11, 12] [2,
 1000000]]) (.block 0 K4)) (.seq (.reg [od 27 (fa 0 2), od 28 (lG 4 27), od 29 (.call 19 [(tm 28)]), od 30 (le 0 29), od 31 (.mv (ki 0))] [kp [2, 3, 29, 30, 31] [2, 1000000]]) (.gh (.block 2 K5) [.keep []
 [1000000]]))))
theorem S1 (h : ∀ K : St → Prop, K = run P Γ K4 Q → run P Γ Yv (Aq K Q) s) : run P Γ K4 Q s := Ac h
theorem S3 (h : ∀ K : St → Prop, K = run P Γ K5 Q → run P Γ Yw (Aq K Q) s) : run P Γ K5 Q s := Ac h
def Yy : List RV := []
/- probecard/sims.Run (function 12) -/
abbrev q57 : IC := .gh (.seq (.reg [od 62 (.bin .lss (tm 61) (tm 60))] [kp [4, 9, 10, 12, 13, 40, 41, 42, 59, 60, 61, 62] [4, 9, 13, 34, 39]]) (.seq (.cond (tm 62) .skip (.exit 2)) (.seq (.block 3 (.seq (.reg [od 63 (ia 1 59 61), od 64 (ld 1 63), om
 15 64] [kp [4, 9, 10, 12, 13, 15, 40, 41, 42, 59, 60, 61] [4, 9, 13, 34, 39]]) (.reg [om 65 10, od 66 (fa 4 9), od 67 (ld 1 66), om 68 15, od 69 (ia 1 67 68), od 70 (ld 1 69), od 71 (.bsl true 61 1 [(tm 70)]), oz 72 (.app false 61
 1 (tm 65) (tm 71)) 39, om 10 72] [kp [4, 9, 10, 12, 13, 40, 41, 42, 59, 60, 61] [4, 9, 13, 34, 39]]))) (.reg [od 73 (.bin .add (tm 61) (ki 1)), om 61 73] [kp [4, 9, 10, 12, 13, 40, 41, 42, 59, 60, 61] [4, 9, 13, 34, 39]])))) [kp
 [4, 9, 10, 12, 13, 40, 41, 42, 59, 60, 61] [4, 9, 13, 34, 39]]
def X2 : IC := .loop q57
abbrev q58 : IC := .gh (.seq (.reg [od 43 (.bin .lss (tm 42) (tm 41))] [kp [4, 9, 10, 40, 41, 42, 43] [4, 9, 34, 39]]) (.seq (.cond (tm 43) .skip (.exit 0)) (.seq (.block 1 (.seq (.reg [od 44 (ia 1 40 42), od 45 (ld 1 44), om 12 45] [kp [4, 9, 10,
 12, 40, 41, 42] [4, 9, 34, 39]]) (.seq (.reg [od 46 (fa 0 9), od 47 (fa 0 46), od 48 (ld 1 47), om 49 12, od 50 (ia 4 48 49), od 51 (lG 4 50), od 13 (.alloc false [(.int .u8 0), (.slice none 0 0), (.int .i64 0), (.int .i64 0)]), on
 (.store 4 (tm 13) (tm 51))] [kp [4, 9, 10, 12, 13, 40, 41, 42] [4, 9, 13, 34, 39]]) (.seq (.seq (.reg [od 52 (fa 0 13), od 53 (ld 1 52), od 54 (.call 39 [(tm 53)]), od 55 (.un .not (tm 54))] [kp [4, 9, 10, 12, 13, 40, 41, 42, 55]
 [4, 9, 13, 34, 39]]) (.cond (tm 55) (.exit 1) .skip)) (.seq (.reg [om 56 10, od 57 (.slice 1 (tm 56) none (some (ki 0)) none), om 10 57] [kp [4, 9, 10, 12, 13, 40, 41, 42] [4, 9, 13, 34, 39]]) (.seq (.seq (.reg [od 58 (fa 1 13), od
 59 (ld 1 58), od 60 (le 0 59), od 61 (.mv (ki 0))] [kp [4, 9, 10, 12, 13, 40, 41, 42, 59, 60, 61] [4, 9, 13, 34, 39]]) (.block 2 X2)) (.reg [od 74 (fa 4 9), od 75 (.ldR 9 1 false (tm 74)), om 76 12, od 77 (fa 0 13), od 78
 (.ldR 13 1 false (tm 77)), om 79 10, od 80 (.call 40 [(tm 78), (tm 79)]), od 81 (ia 1 75 76), on (.stR 34 1 (tm 81) (tm 80))] [kp [4, 9, 10, 40, 41, 42] [4, 9, 34, 39]]))))))) (.reg [od 82 (.bin .add (tm 42) (ki 1)), om 42 82] [kp
 [4, 9, 10, 40, 41, 42] [4, 9, 34, 39]])))) [kp [4, 9, 10, 40, 41, 42] [4, 9, 34, 39]]
def X3 : IC := .loop q58
abbrev q59 : IC := (.seq (.reg [od 2 (.box true (tm 0)), od 3 (.box true (tm 1)), od 4 (.alloc false [(.slice none 0 0), (.slice none 0 0)]), od 5 (.mv kN), od 6 (.mv (ki 0))] [kp [2, 3, 4] [4]]) (.seq (.reg [od 17 (lG 4 2), od 18 (.call 38 [(tm
 17)]), om 16 18, od 19 (ex 16 0), od 20 (ex 16 1), om 7 19, om 8 20] [kp [2, 3, 4, 7, 8] [4]]) (.seq (.seq (.reg [om 21 8, od 22 (.bin .eql (tm 21) (ki 0))] [kp [2, 3, 4, 7, 8, 22] [4]]) (.cond (tm 22) (.reg [od 23 (lG 4 2), od 24
 (lG 2 3), od 25 (.call 49 [(tm 23), (tm 24)]), om 8 25] [kp [2, 3, 4, 7, 8] [4]]) .skip)) (.seq (.seq (.reg [om 26 8, od 27 (.bin .neq (tm 26) (ki 0))] [kp [2, 3, 4, 7, 8, 27] [4]]) (.cond (tm 27) (.seq (.reg [od 28 (.build [(1,
 kN), (1, kN)]), om 29 8, on (.store 2 (tm 4) (tm 28)), od 5 (.mv kN), om 6 29] [kp [4, 5, 6] [4, 34]]) .ret) .skip)) (.seq (.reg [od 30 (.ldT 4 true (tm 2)), od 31 (fa 0 2), od 32 (.ldT 1 false (tm 31)), od 33 (le 0 32), od 34
 (.mkE 61 1 [(.int .u8 0)] (tm 33) (tm 33)), od 35 (.build [(4, (tm 30)), (1, (tm 34))]), od 9 (.alloc false [(.slice none 0 0), (.slice none 0 0), (.slice none 0 0), (.slice none 0 0), (.slice none 0 0)]), on (.stR 9 5 (tm 9) (tm
 35))] [kp [3, 4, 7, 9] [4, 9, 34]]) (.seq (.reg [od 36 (lG 5 9), od 37 (lG 2 3), od 38 (.hcall 50 [(tm 36), (tm 37)] [34] 38000)] [kp [4, 7, 9] [4, 9, 34]]) (.seq (.reg [od 39 (.mk 61 1 [(.int .u8 0)] (ki 0) (ki 16)), om 10 39] [kp
 [4, 7, 9, 10] [4, 9, 34, 39]]) (.seq (.seq (.reg [om 40 7, od 41 (le 0 40), od 42 (.mv (ki 0))] [kp [4, 9, 10, 40, 41, 42] [4, 9, 34, 39]]) (.block 0 X3)) (.seq (.reg [od 83 (.ldR 9 5 true (tm 9)), od 84 (.call 51 [(tm
 83)]), od 85 (fa 4 9), od 86 (.ldR 9 1 false (tm 85)), on (.stR 4 2 (tm 4) (tm 84)), om 5 86, od 6 (.mv (ki 0))] [kp [4, 5, 6] [4, 34]]) .ret)))))))))
theorem q08 (h : ∀ K : St → Prop, K = run P Γ X2 Q → run P Γ q57 (Aq K Q) s) : run P Γ X2 Q s := Ac h
theorem q09 (h : ∀ K : St → Prop, K = run P Γ X3 Q → run P Γ q58 (Aq K Q) s) : run P Γ X3 Q s := Ac h
def X4 : List RV := [.cell 4 2 true, .tmp 5, .tmp 6]
/- (probecard/sims.run).value (function 107) -/
abbrev J4 : IC := (.seq (.reg [od 2 (.box true (tm 0)), od 4 (.mv (ku 0))] [kp [1, 2] []]) (.seq (.seq (.reg [om 5 1, od 6 (.bin .lss (tm 5) (ki 0)), om 7 6, oF 8 (.mv (tm 1)) 7, oF 9 (fa 4 2) 7, oF 10 (ld 1 9) 7, oF 11 (le 0 10) 7, oF 12 (.bin .geq
 (tm 8) (tm 11)) 7, od 13 (.pick (tm 7) kT (tm 12))] [kp [1, 2, 13] []]) (.cond (tm 13) (.seq (.reg [od 4 (.mv (ku 2))] [kp [4] []]) .ret) .skip)) (.seq (.reg [od 14 (fa 4 2), od 15 (ld 1 14), om 16 1, od 17 (ia 1 15 16), od 18 (ld
 1 17), od 19 (.call 109 [(tm 18)]), om 4 19] [kp [4] []]) .ret)))
def J5 : List RV := [.tmp 4]
/- (probecard/sims.run).observe (function 51) -/
abbrev Tn : IC := .gh (.seq (.reg [od 15 (.bin .lss (tm 14) (tm 13))] [kp [1, 2, 3, 12, 13, 14, 15] [2, 3, 24, 55]]) (.seq (.cond (tm 15) .skip (.exit 0)) (.seq (.block 1 (.seq (.reg [od 16 (ia 1 12 14), od 17 (ld 1 16), om 5 17] [kp [1, 2, 3, 5,
 12, 13, 14] [2, 3, 24, 55]]) (.reg [od 18 (fa 0 3), od 19 (.ldR 3 1 false (tm 18)), od 20 (.ldT 5 true (tm 1)), om 21 5, od 22 (.call 107 [(tm 20), (tm 21)]), od 23 (.bsl true 61 1 [(tm 22)]), od 24 (.app false 61 1 (tm 19) (tm
 23)), od 25 (fa 0 3), on (.stR 3 1 (tm 25) (tm 24))] [kp [1, 2, 3, 12, 13, 14] [2, 3, 24, 55]]))) (.reg [od 26 (.bin .add (tm 14) (ki 1)), om 14 26] [kp [1, 2, 3, 12, 13, 14] [2, 3, 24, 55]])))) [kp [1, 2, 3, 12, 13, 14] [2, 3, 24,
 55]]
def Gz : IC := .loop Tn
abbrev To : IC := .gh (.seq (.reg [od 32 (.bin .lss (tm 31) (tm 30))] [kp [1, 2, 3, 29, 30, 31, 32] [2, 3, 24, 55]]) (.seq (.cond (tm 32) .skip (.exit 2)) (.seq (.block 3 (.seq (.reg [od 33 (ia 1 29 31), od 34 (ld 1 33), om 7 34] [kp [1, 2, 3, 7,
 29, 30, 31] [2, 3, 24, 55]]) (.seq (.reg [od 8 (.mv (ku 2))] [kp [1, 2, 3, 7, 8, 29, 30, 31] [2, 3, 24, 55]]) (.seq (.seq (.reg [od 35 (fa 0 1), od 36 (fa 0 35), od 37 (ld 1 36), om 38 7, od 39 (ia 4 37 38), od 40 (fa 1 39), od 41
 (ld 1 40), om 9 41] [kp [1, 2, 3, 8, 9, 29, 30, 31] [2, 3, 24, 55]]) (.seq (.reg [om 42 9, od 43 (le 0 42), od 44 (.bin .eql (tm 43) (ki 1))] [kp [1, 2, 3, 8, 9, 29, 30, 31, 44] [2, 3, 24, 55]]) (.cond (tm 44) (.reg [od 45 (lG 5
 1), om 46 9, od 47 (.iadr 1 (tm 46) (ki 0)), od 48 (ld 1 47), od 49 (.call 107 [(tm 45), (tm 48)]), od 50 (.call 94 [(tm 49)]), om 8 50] [kp [1, 2, 3, 8, 29, 30, 31] [2, 3, 24, 55]]) .skip))) (.reg [od 51 (fa 1 3), od 52 (ld 1 51),
 om 53 8, od 54 (.bsl true 61 1 [(tm 53)]), od 55 (.app false 61 1 (tm 52) (tm 54)), od 56 (fa 1 3), on (.store 1 (tm 56) (tm 55))] [kp [1, 2, 3, 29, 30, 31] [2, 3, 24, 55]]))))) (.reg [od 57 (.bin .add (tm 31) (ki 1)), om 31 57]
 [kp [1, 2, 3, 29, 30, 31] [2, 3, 24, 55]])))) [kp [1, 2, 3, 29, 30, 31] [2, 3, 24, 55]]
def H2 : IC := .loop To
abbrev Tq : IC := (.seq (.reg [od 1 (.box true (tm 0)), od 2 (.alloc false [(.slice none 0 0), (.slice none 0 0)])] [kp [1, 2] [2, 24, 55]]) (.seq (.reg [od 3 (.alloc false [(.slice none 0 0), (.slice none 0 0)])] [.nlb 3 0 24 61 1, .nlb 3 1 55 61
 1, kp [1, 2, 3] [2, 3, 24, 55]]) (.seq (.seq (.reg [od 10 (fa 0 1), od 11 (fa 3 10), od 12 (ld 1 11), od 13 (le 0 12), od 14 (.mv (ki 0))] [kp [1, 2, 3, 12, 13, 14] [2, 3, 24, 55]]) (.block 0 Gz)) (.seq (.seq (.reg
 [od 27 (fa 0 1), od 28 (lG 4 27), od 29 (.call 19 [(tm 28)]), od 30 (le 0 29), od 31 (.mv (ki 0))] [kp [1, 2, 3, 29, 30, 31] [2, 3, 24, 55]]) (.block 2 H2)) (.seq (.reg [od 58 (fa 0 3), od 59 (.ldR 3 1 false (tm
 58)), od 60 (.rcall 43 [(tm 59)] [24]), od 61 (fa 1 3), od 62 (.ldR 3 1 false (tm 61)), od 63 (.rcall 43 [(tm 62)] [55]), od 64 (.build [(1, (tm 60)), (1, (tm 63))]), on (.stR 2 2 (tm 2) (tm 64))] [kp [2] [2, 24, 55]]) .ret)))))
theorem Nq (h : ∀ K : St → Prop, K = run P Γ Gz Q → run P Γ Tn (Aq K Q) s) : run P Γ Gz Q s := Ac h
theorem Nr (h : ∀ K : St → Prop, K = run P Γ H2 Q → run P Γ To (Aq K Q) s) : run P Γ H2 Q s := Ac h
def Tt : List RV := [.cell 2 2 true]
/- probecard/sims.Observe (function 42) -/
abbrev q0A : IC := (.seq (.reg [od 2 (.box true (tm 0)), od 4 (.alloc false [(.slice none 0 0), (.slice none 0 0)])] [kp [1, 2, 4] [4]]) (.seq (.reg [od 5 (lG 4 2), om 6 1, od 7 (.build [(4, (tm 5)), (1, (tm 6))]), od 8 (.call 51 [(tm 7)]), on
 (.store 2 (tm 4) (tm 8))] [kp [4] [4]]) .ret))
def q0B : List RV := [.cell 4 2 true]
/- probecard/netlists.Inputs (function 77) -/
abbrev Vo : IC := (.seq (.reg [od 1 (.box true (tm 0)), od 2 (.mv kN)] [kp [1] []]) (.seq (.reg [od 3 (lG 4 1), od 4 (.bsl true 71 1 [(ku 0)]), od 5 (.call 66 [(tm 3), (tm 4)]), om 2 5] [kp [2] []]) .ret))
def Vp : List RV := [.tmp 2]
/- slices.Clip[[]probecard/api.Value,probecard/api.Value] (function 43) -/
abbrev Gw : IC := (.seq (.reg [od 2 (.mv kN)] [kp [0] [1000000]]) (.seq (.reg [om 3 0, om 4 0, od 5 (le 0 4), om 6 0, od 7 (le 0 6), od 8 (.slice 1 (tm 3) none (some (tm 5)) (some (tm 7))), om 2 8] [kp [2] [1000000]]) .ret))
def Gx : List RV := [.tmp 2]
end
end Go.Lg
namespace Go.Lg
open Go Go.Proofs
theorem q7H : As Tryz.prog 49 Zs 43 2 Gs = true := by kernel_rfl
theorem q6g : As Tryz.prog 106 q2H 5 1 q2I = true := by kernel_rfl
theorem q3v : As Tryz.prog 50 Yx 46 2 Yy = true := by kernel_rfl
theorem q8O : As Tryz.prog 12 q59 87 2 X4 = true := by kernel_rfl
theorem q31 : As Tryz.prog 107 J4 20 2 J5 = true := by kernel_rfl
theorem q13 : As Tryz.prog 51 Tq 65 1 Tt = true := by kernel_rfl
theorem q4b : As Tryz.prog 42 q0A 9 2 q0B = true := by kernel_rfl
theorem q1y : As Tryz.prog 77 Vo 6 1 Vp = true := by kernel_rfl
theorem Ks : As Tryz.prog 43 Gw 9 1 Gx = true := by kernel_rfl
end Go.Lg
namespace Go.Lg
open Go Go.Proofs
variable {Γ : Tables}
theorem X5 (c : Ax) (hc : COk c) : Ae Tryz.prog Γ 77 [.agg (tC c)] (.sl (Bo (Be c)) (some (Be c).length) none) := by
 refine B5 q1y rfl ?_
 simp [Vo, tC, A6, A8, Ad, Bl]
 refine A0 (q8J c hc 0) rfl ?_
 simp [Vp, Be]
theorem qDp (es : List (List T)) (cap : Option Nat) (nl : Option Bool) (hw : E4 1 es) : Ae Tryz.prog Γ 43 [.sl es cap nl] (.sl es (some es.length) nl) := by
 refine B5 Ks rfl ?_
 simp [Gw, Gx, ret, hw]
def L1 (v : Int) : Bool := decide (3 < v)
theorem q6h (v : Int) : A3 Tryz.prog Γ 106 [tK v] (tB (L1 v)) := by
 refine A7 q6g rfl ?_
 simp [q2H, q2I, Am, L1]
structure Pat where
 inn : Sl Int
 st : Sl Int
def tP (p : Pat) : List T := [tV p.inn, tV p.st]
theorem M6 (c : Ax) : (Be c).length ≤ c.nodes.l.length := Ua _ _ _
theorem Ef (c : Ax) : (Ap c).length ≤ c.nodes.l.length := Ua _ _ _
def X6 (c : Ax) (p : Pat) : Int :=
 if 0 < c.mems.l.length ∨ 0 < (mems c).length then 7 else
 if p.inn.l.length ≠ (Be c).length ∨ p.st.l.length ≠ (Ap c).length then 8 else
 if p.inn.l.any L1 = true ∨ p.st.l.any L1 = true then 1 else 0
theorem qCc (c : Ax) (hc : COk c) (p : Pat) (hp : p.inn.l.length ≤ 1000000000 ∧ p.st.l.length ≤ 1000000000) : A3 Tryz.prog Γ 49 [.agg (tC c), .agg (tP p)] (tI (X6 c p)) := by
 refine A7 q7H rfl ?_
 have e1 := q8J (Γ := Γ) c hc 15
 have e2 := X5 (Γ := Γ) c hc
 have e3 := Rx (Γ := Γ) c hc
 have e4 := Fh (Γ := Γ) p.inn.l p.inn.cap p.inn.nl 106 [] L1 (fun x _ => q6h x) hp.1
 have e5 := Fh (Γ := Γ) p.st.l p.st.cap p.st.nl 106 [] L1 (fun x _ => q6h x) hp.2
 have hm : Il [15] c.nodes.l 0 = mems c := rfl
 rw [hm] at e1
 generalize hR : X6 c p = R
 unfold X6 at hR
 by_cases h1 : 0 < c.mems.l.length
 ·rw [if_pos (.inl h1)] at hR
  subst hR
  have h1' : ¬ c.mems.l = [] := fun e => by rw [e] at h1; simp at h1
  simp [Zs, tC, A6, A8, Ad, Bl, tP, tV, Aa, h1, h1', Gs, Am]
 have h1' : c.mems.l = [] := List.eq_nil_of_length_eq_zero (by omega)
 simp [Zs, tC, A6, A8, Ad, Bl, tP, tV, Aa, h1, h1']
 refine A0 e1 (by simp [Ag, Ak, Af, tC, A6, A8, Ad, Bl, h1']) ?_
 by_cases h2 : 0 < (mems c).length
 ·rw [if_pos (.inr h2)] at hR
  subst hR
  have h2' : ¬ mems c = [] := fun e => by rw [e] at h2; simp at h2
  simp [A1, h2, h2', Gs, Am]
 rw [if_neg (by omega)] at hR
 have h2' : mems c = [] := List.eq_nil_of_length_eq_zero (by omega)
 simp [A1, h2']
 have tt : ∀ {x : T}, x = T.agg (tC c) → Ak [some x] = some [T.agg (tC c)] := fun h => by rw [h]; rfl
 have tc : T.agg (tC c) = T.agg [T.sl (Bc Fg c.nodes.l) c.nodes.cap c.nodes.nl, T.sl (Af tS c.names.l) c.names.cap c.names.nl, T.sl (Bc tMm []) c.mems.cap c.mems.nl, T.sl (Bo c.outs.l) c.outs.cap c.outs.nl] := by rw [← h1']; rfl
 refine A9 e2 (by rw [tc]; rfl) ?_
 simp [A1]
 by_cases h3 : p.inn.l.length = (Be c).length
 case neg =>
  have h3' : ¬ (p.inn.l.length : Int) = (Be c).length := by omega
  rw [if_pos (.inl h3)] at hR
  subst hR
  simp [h3, h3', Gs, Am, B6]
 simp [h3]
 refine A9 e3 (by rw [tc]; rfl) ?_
 simp [A1]
 by_cases h4 : p.st.l.length = (Ap c).length
 case neg =>
  have h4' : ¬ (p.st.l.length : Int) = (Ap c).length := by omega
  rw [if_pos (.inr h4)] at hR
  subst hR
  simp [h4, h4', Gs, Am, B6]
 rw [if_neg (by omega)] at hR
 simp [h4, B6]
 refine A0 e4 rfl ?_
 by_cases h5 : p.inn.l.any L1 = true
 ·rw [if_pos (.inl h5)] at hR
  subst hR
  simp only [h5]
  simp [Gs, Am]
 simp only [Bool.not_eq_true] at h5
 simp only [h5]
 simp
 refine A0 e5 rfl ?_
 by_cases h6 : p.st.l.any L1 = true
 ·rw [if_pos (.inr h6)] at hR
  subst hR
  simp only [h6]
  simp [Gs, Am]
 rw [if_neg (by simp only [h5]; simp only [Bool.not_eq_true] at h6; simp [h6])] at hR
 subst hR
 simp only [Bool.not_eq_true] at h6
 simp only [h6]
 simp [Gs, Am]
def G3 (c : Ax) (id n : Nat) (cap : Option Nat) : List AV := [.t (A6 c.nodes), .t (A8 c.names), .t (Ad c.mems), .t (Bl c.outs), .ls id 0 n cap]
theorem Zt {ns vs l : List Int} {i : Nat} (h : i < ns.length) (hv : i < vs.length) : Dk (ns.drop i) (vs.drop i) l = Dk (ns.drop (i + 1)) (vs.drop (i + 1)) (l.set (ns.getD i 0).toNat (vs.getD i 0)) := by
 rw [List.drop_eq_getElem_cons h, List.drop_eq_getElem_cons hv]
 simp only [Dk]
 rw [Aw h, Aw hv]
theorem qBl {Q : AX → St → Prop} (c : Ax) (p : Pat) (ns : List Int) (cap : Option Nat) (n : Nat) (hn : n ≤ 1000000000) (hns : ns.length ≤ n) (hin : ∀ x ∈ ns, 0 ≤ x ∧ x < n) (hp : p.inn.l.length = ns.length) (R : List Int)
  (h0 : Q (.exit 0) ⟨[(2, .lp 2 0 0), (3, .t (.ip (tP p) 0)), (10, .t (.sl (Bo ns) (some ns.length) none)), (11, .t (tI ns.length)), (12, .t (tI ns.length)), (13, .t (tB false))], [(2, .bx (G3 c 1000000 n cap)), (1000000, .sl 61 1 (Ab R))]⟩) :
  ∀ (k i : Nat) (l : List Int), k + i = ns.length → l.length = n → Dk (ns.drop i) (p.inn.l.drop i) l = R →
  run Tryz.prog Γ K4 Q ⟨[(2, .lp 2 0 0), (3, .t (.ip (tP p) 0)), (10, .t (.sl (Bo ns) (some ns.length) none)), (11, .t (tI ns.length)), (12, .t (tI i))], [(2, .bx (G3 c 1000000 n cap)), (1000000, .sl 61 1 (Ab l))]⟩
 | 0, i, l, h, hl, hR => by
  refine S1 fun K hK => ?_
  have h2 : i = ns.length := by omega
  subst h2
  rw [List.drop_length] at hR
  simp only [Dk] at hR
  subst hR
  simp
  exact h0
 | k + 1, i, l, h, hl, hR => by
  refine S1 fun K hK => ?_
  have h2 : i < ns.length := by omega
  have h3 : i < p.inn.l.length := by omega
  rw [Zt h2 h3] at hR
  have ih := qBl c p ns cap n hn hns hin hp R h0 k (i + 1) _ (by omega) (by simp [hl]) hR
  have e1 := ge1 (f := tI) h2
  have e2 := ge1 (f := tK) h3
  have hx := hin (ns.getD i 0) (by rw [Aw h2]; exact List.getElem_mem h2)
  have hs : ∀ (j : Nat) (v : Int), (Ab l).set j [tK v] = Ab (l.set j v) := fun j v => Ep
  generalize ns.getD i 0 = x at *
  generalize p.inn.l.getD i 0 = v at *
  have hx2 : x.toNat < n := by omega
  simp (disch := omega) [h2, h3, A1, A5, e1, e2, A4, hx, hx2, hl, G3, tP, tV, hs, hp]
  rw [hK]
  simpa [G3, tP, tV] using ih
theorem qBm {Q : AX → St → Prop} (c : Ax) (p : Pat) (ns : List Int) (cap : Option Nat) (n : Nat) (hn : n ≤ 1000000000) (hns : ns.length ≤ n) (hin : ∀ x ∈ ns, 0 ≤ x ∧ x < n) (hp : p.st.l.length = ns.length) (R : List Int)
  (h0 : Q (.exit 2) ⟨[(2, .lp 2 0 0), (3, .t (.ip (tP p) 0)), (29, .t (.sl (Bo ns) (some ns.length) none)), (30, .t (tI ns.length)), (31, .t (tI ns.length)), (32, .t (tB false))], [(2, .bx (G3 c 1000000 n cap)), (1000000, .sl 61 1 (Ab R))]⟩) :
  ∀ (k i : Nat) (l : List Int), k + i = ns.length → l.length = n → Dk (ns.drop i) (p.st.l.drop i) l = R →
  run Tryz.prog Γ K5 Q ⟨[(2, .lp 2 0 0), (3, .t (.ip (tP p) 0)), (29, .t (.sl (Bo ns) (some ns.length) none)), (30, .t (tI ns.length)), (31, .t (tI i))], [(2, .bx (G3 c 1000000 n cap)), (1000000, .sl 61 1 (Ab l))]⟩
 | 0, i, l, h, hl, hR => by
  refine S3 fun K hK => ?_
  have h2 : i = ns.length := by omega
  subst h2
  rw [List.drop_length] at hR
  simp only [Dk] at hR
  subst hR
  simp
  exact h0
 | k + 1, i, l, h, hl, hR => by
  refine S3 fun K hK => ?_
  have h2 : i < ns.length := by omega
  have h3 : i < p.st.l.length := by omega
  rw [Zt h2 h3] at hR
  have ih := qBm c p ns cap n hn hns hin hp R h0 k (i + 1) _ (by omega) (by simp [hl]) hR
  have e1 := ge1 (f := tI) h2
  have e2 := ge1 (f := tK) h3
  have hx := hin (ns.getD i 0) (by rw [Aw h2]; exact List.getElem_mem h2)
  have hs : ∀ (j : Nat) (v : Int), (Ab l).set j [tK v] = Ab (l.set j v) := fun j v => Ep
  generalize ns.getD i 0 = x at *
  generalize p.st.l.getD i 0 = v at *
  have hx2 : x.toNat < n := by omega
  simp (disch := omega) [h2, h3, A1, A5, e1, e2, A4, hx, hx2, hl, G3, tP, tV, hs, hp]
  rw [hK]
  simpa [G3, tP, tV] using ih
theorem qGx (c : Ax) (hc : COk c) (p : Pat) (cap : Option Nat) (l : List Int) (hl : l.length = c.nodes.l.length) (h1 : p.inn.l.length = (Be c).length) (h2 : p.st.l.length = (Ap c).length) :
  Ge Tryz.prog Γ 50 [(1000000, .sl 61 1 (Ab l))] [.ag (G3 c 1000000 c.nodes.l.length cap), .t (.agg (tP p))] (.t (.tup [])) [(1000000, .sl 61 1 (Ab (Dk (Ap c) p.st.l (Dk (Be c) p.inn.l l))))] := by
 refine Ik q3v rfl ?_
 have hn := hc.nodes
 have g1 := fun Q h0 => qBl (Γ := Γ) (Q := Q) c p (Be c) cap c.nodes.l.length hn (M6 c) (fun x hx => ⟨(Gv x hx).1, (Gv x hx).2.1⟩) h1 _ h0 (Be c).length 0 l (by omega) hl rfl
 have g2 := fun Q h0 => qBm (Γ := Γ) (Q := Q) c p (Ap c) cap c.nodes.l.length hn (Ef c) (fun x hx => ⟨(Gv x hx).1, (Gv x hx).2.1⟩) h2 _ h0 (Ap c).length 0 (Dk (Be c) p.inn.l l) (by omega) (by rw [K2]; exact hl) rfl
 simp only [List.drop_zero] at g1 g2
 simp [Yx, G3, tP, tV, A6, A8, Ad, Bl]
 refine A9 (X5 c hc) rfl ?_
 simp [A1]
 refine g1 _ ?_
 simp [G3, A6, A8, Ad, Bl]
 refine A9 (Rx c hc) rfl ?_
 simp [A1]
 refine g2 _ ?_
 simp [Yy]
@[simp] theorem qIb {s : Nat} {e : List T} : E4 s [e] = (e.length = s) := propext ⟨fun h => h e List.mem_cons_self, fun h x hx => by simp at hx; subst hx; exact h⟩
def K6 (c : Ax) (nets : Sl Int) : List T := [A6 c.nodes, A8 c.names, Ad c.mems, Bl c.outs, tV nets]
def Qh (nets : List Int) (n : Int) : Int := if n < 0 ∨ (nets.length : Int) ≤ n then 2 else E2 (nets.getD n.toNat 0)
theorem q6i (c : Ax) (nets : Sl Int) (n : Int) (hl : nets.l.length ≤ 1000000000) : A3 Tryz.prog Γ 107 [.agg (K6 c nets), tI n] (tK (Qh nets.l n)) := by
 refine A7 q31 rfl ?_
 generalize hR : Qh nets.l n = R
 unfold Qh at hR
 by_cases h1 : n < 0
 ·rw [if_pos (.inl h1)] at hR
  subst hR
  simp [J4, K6, A6, A8, Ad, Bl, tV, h1, J5, Am]
 by_cases h2 : (nets.l.length : Int) ≤ n
 ·rw [if_pos (.inr h2)] at hR
  subst hR
  simp [J4, K6, A6, A8, Ad, Bl, tV, h1, h2, A1, J5, Am]
 rw [if_neg (by omega)] at hR
 have h3 : n.toNat < nets.l.length := by omega
 have e := ge1 (f := tK) h3
 generalize nets.l.getD n.toNat 0 = v at *
 have h4 : n < nets.l.length := by omega
 simp (disch := omega) [J4, K6, A6, A8, Ad, Bl, tV, h1, h2, h4, A1, A5, e]
 refine ⟨by omega, A0 (q2z v) rfl ?_⟩
 simp [J5, Am, hR]
def q5A (c : Ax) (nets : List Int) (n : Int) : Int := if (G5 c n.toNat).length = 1 then Du (Qh nets ((G5 c n.toNat).getD 0 0)) else 2
def Vq (c : Ax) (nets : List Int) : List Int := c.outs.l.map (Qh nets)
def C6 (c : Ax) (nets : List Int) : List Int := (Ap c).map (q5A c nets)
def q4c (o s : Nat) : List AV := [.ls 24 0 o none, .ls 55 0 s none]
def q1z (o s : List Int) : List (Nat × B0) := [(2, .bx [.t (.sl [] (some 0) (some true)), .t (.sl [] (some 0) (some true))]), (3, .bx (q4c o.length s.length)), (24, .sl 61 1 (Ab o)), (55, .sl 61 1 (Ab s))]
theorem Ns {l : List Int} {v : Int} : Ab l ++ [[tK v]] = Ab (l ++ [v]) := E0
theorem B9 {l : List Int} : (Ab l).take l.length = Ab l := Bh
theorem q9c {Q : AX → St → Prop} (c : Ax) (nets : Sl Int) (hl : nets.l.length ≤ 1000000000) (ho : c.outs.l.length ≤ 1000000000) (R : List Int)
  (h0 : Q (.exit 0) ⟨[(1, .t (.ip (K6 c nets) 0)), (2, .lp 2 0 0), (3, .lp 3 0 0), (12, .t (Bl c.outs)), (13, .t (tI c.outs.l.length)), (14, .t (tI c.outs.l.length)), (15, .t (tB false))], q1z R []⟩) :
  ∀ (k i : Nat) (out : List Int), k + i = c.outs.l.length → out.length = i → out ++ (c.outs.l.drop i).map (Qh nets.l) = R →
  run Tryz.prog Γ Gz Q ⟨[(1, .t (.ip (K6 c nets) 0)), (2, .lp 2 0 0), (3, .lp 3 0 0), (12, .t (Bl c.outs)), (13, .t (tI c.outs.l.length)), (14, .t (tI i))], q1z out []⟩
 | 0, i, out, h, hi, hR => by
  refine Nq fun K hK => ?_
  have h2 : i = c.outs.l.length := by omega
  rw [List.drop_of_length_le (by omega), List.map_nil, List.append_nil] at hR
  subst hR
  simp [q1z, q4c, h2]
  simpa [q1z, q4c] using h0
 | k + 1, i, out, h, hi, hR => by
  refine Nq fun K hK => ?_
  have h2 : i < c.outs.l.length := by omega
  rw [List.drop_eq_getElem_cons h2, List.map_cons] at hR
  have e := ge1 (f := tI) h2
  rw [Aw h2] at e
  generalize c.outs.l[i] = n at *
  have ih := q9c c nets hl ho R h0 k (i + 1) (out ++ [Qh nets.l n]) (by omega) (by simp [hi]) (by rw [← hR]; simp)
  have vs := Ns (l := out) (v := Qh nets.l n)
  have vt : (Ab out).take i = Ab out := by rw [← hi]; exact B9
  have hv := q6i (Γ := Γ) c nets n hl
  simp (disch := omega) [q1z, q4c, h2, Bl, A1, A5, e, hi, A4, K6, A6, A8, Ad, tV]
  refine A0 hv rfl ?_
  simp (disch := omega) [vt, vs, A1, A5, hi, A4]
  refine ⟨by omega, ?_⟩
  rw [hK]
  simpa [q1z, q4c, hi, K6, A6, A8, Ad, Bl, tV] using ih
theorem q7r {Q : AX → St → Prop} (c : Ax) (hc : COk c) (nets : Sl Int) (hl : nets.l.length ≤ 1000000000) (ns : List Int) (hns : ns.length ≤ 1000000000) (hin : ∀ n ∈ ns, 0 ≤ n ∧ n < c.nodes.l.length) (o R : List Int)
  (h0 : Q (.exit 2) ⟨[(1, .t (.ip (K6 c nets) 0)), (2, .lp 2 0 0), (3, .lp 3 0 0), (29, .t (.sl (Bo ns) (some ns.length) none)), (30, .t (tI ns.length)), (31, .t (tI ns.length)), (32, .t (tB false))], q1z o R⟩) :
  ∀ (k i : Nat) (out : List Int), k + i = ns.length → out.length = i → out ++ (ns.drop i).map (q5A c nets.l) = R →
  run Tryz.prog Γ H2 Q ⟨[(1, .t (.ip (K6 c nets) 0)), (2, .lp 2 0 0), (3, .lp 3 0 0), (29, .t (.sl (Bo ns) (some ns.length) none)), (30, .t (tI ns.length)), (31, .t (tI i))], q1z o out⟩
 | 0, i, out, h, hi, hR => by
  refine Nr fun K hK => ?_
  have h2 : i = ns.length := by omega
  rw [List.drop_of_length_le (by omega), List.map_nil, List.append_nil] at hR
  subst hR
  simp [q1z, q4c, h2]
  simpa [q1z, q4c] using h0
 | k + 1, i, out, h, hi, hR => by
  refine Nr fun K hK => ?_
  have h2 : i < ns.length := by omega
  rw [List.drop_eq_getElem_cons h2, List.map_cons] at hR
  have e := ge1 (f := tI) h2
  have hn := hin ns[i] (List.getElem_mem h2)
  rw [Aw h2] at e
  generalize ns[i] = n at *
  have ih := q7r c hc nets hl ns hns hin o R h0 k (i + 1) (out ++ [q5A c nets.l n]) (by omega) (by simp [hi]) (by rw [← hR]; simp)
  have vs := Ns (l := out) (v := q5A c nets.l n)
  have vt : (Ab out).take i = Ab out := by rw [← hi]; exact B9
  have hnn : n.toNat < c.nodes.l.length := by omega
  have hget : (Bc Fg c.nodes.l)[n.toNat]?.getD [] = Fg (c.nodes.l.getD n.toNat Nd.d) := by
   rw [Dy Nd.d hnn]; simp [List.getD_eq_getElem?_getD]
  have hxi := hc.inn _ (List.getElem_mem hnn)
  have hgd : c.nodes.l.getD n.toNat Nd.d = c.nodes.l[n.toNat] := by simp [List.getD_eq_getElem?_getD, hnn]
  have hia : G5 c n.toNat = (c.nodes.l.getD n.toNat Nd.d).inn.l := rfl
  have hnl : q5A c nets.l n = if (G5 c n.toNat).length = 1 then Du (Qh nets.l ((G5 c n.toNat).getD 0 0)) else 2 := rfl
  rw [← hgd] at hxi
  rw [hia] at hnl
  generalize c.nodes.l.getD n.toNat Nd.d = x at *
  generalize q5A c nets.l n = v at *
  obtain ⟨h3, h4⟩ := hn
  by_cases h1 : x.inn.l.length = 1
  ·rw [if_pos h1] at hnl
   have h10 : 0 < x.inn.l.length := by omega
   have e0 := ge1 (f := tI) h10
   have hv := q6i (Γ := Γ) c nets (x.inn.l.getD 0 0) hl
   generalize x.inn.l.getD 0 0 = m at *
   simp (disch := omega) [q1z, q4c, h2, Bl, A1, A5, e, hi, A4, K6, A6, A8, Ad, tV, h3, h4, Aa, Br, hget, Fg, h1, e0, h10]
   refine A0 hv rfl ?_
   simp
   refine A0 (Qf _) rfl ?_
   rw [← hnl]
   simp (disch := omega) [vt, vs, A1, A5, hi, A4]
   refine ⟨by omega, ?_⟩
   rw [hK]
   simpa [q1z, q4c, hi, K6, A6, A8, Ad, Bl, tV] using ih
  ·rw [if_neg h1] at hnl
   subst hnl
   have h1i : ¬ (x.inn.l.length : Int) = 1 := by omega
   simp (disch := omega) [q1z, q4c, h2, Bl, A1, A5, e, hi, A4, K6, A6, A8, Ad, tV, h3, h4, Aa, Br, hget, Fg, h1, h1i, B6, vt, vs]
   refine ⟨by omega, ?_⟩
   rw [hK]
   simpa [q1z, q4c, hi, K6, A6, A8, Ad, Bl, tV] using ih
theorem q6j (ty : Nat) (es : List (List T)) (cap : Option Nat) (hw : E4 1 es) : Ge Tryz.prog Γ 43 [(1000000, .sl ty 1 es)] [.ls 1000000 0 es.length cap] (.ls 1000000 0 es.length (some es.length)) [(1000000, .sl ty 1 es)] := by
 refine Ik Ks rfl ?_
 simp [Gw, Gx, qCK, hw]
def tVs (l : List Int) : T := .sl (Ab l) (some l.length) none
theorem q3w (c : Ax) (hc : COk c) (nets : Sl Int) (hl : nets.l.length ≤ 1000000000) : A3 Tryz.prog Γ 51 [.agg (K6 c nets)] (.agg [tVs (Vq c nets.l), tVs (C6 c nets.l)]) := by
 refine A7 q13 rfl ?_
 have hn := hc.nodes
 have ho := hc.outs
 have hs := Ef c
 have g1 := fun Q h0 => q9c (Γ := Γ) (Q := Q) c nets hl ho (Vq c nets.l) h0 c.outs.l.length 0 [] (by omega) rfl (by simp [Vq])
 have g2 := fun Q h0 => q7r (Γ := Γ) (Q := Q) c hc nets hl (Ap c) (by omega) (fun x hx => ⟨(Gv x hx).1, (Gv x hx).2.1⟩) (Vq c nets.l) (C6 c nets.l) h0 (Ap c).length 0 [] (by omega) rfl (by simp [C6])
 have l1 : (Vq c nets.l).length = c.outs.l.length := by simp [Vq]
 have l2 : (C6 c nets.l).length = (Ap c).length := by simp [C6]
 have t1 := B9 (l := Vq c nets.l)
 have t2 := B9 (l := C6 c nets.l)
 generalize Vq c nets.l = O at *
 generalize C6 c nets.l = S at *
 simp [Tq, K6, A6, A8, Ad, Bl, tV, A1]
 refine g1 _ ?_
 simp [q1z, q4c, K6, A6, A8, Ad, Bl, tV]
 refine A9 (Rx c hc) rfl ?_
 simp [A1]
 refine g2 _ ?_
 have hc1 := q6j (Γ := Γ) 61 (Ab O) none A5
 have hc2 := q6j (Γ := Γ) 61 (Ab S) none A5
 simp only [A1] at hc1 hc2
 simp [q1z, q4c]
 refine ⟨_, hc1, ?_⟩
 simp
 refine ⟨_, hc2, ?_⟩
 simp [Tt, tVs, A1, Am, Ag, t1, t2]
def nd (c : Ax) (n : Int) : Nd := c.nodes.l.getD n.toNat Nd.d
theorem q4d {c : Ax} {n : Int} (h0 : 0 ≤ n) (h : n < c.nodes.l.length) : (Bc Fg c.nodes.l)[n.toNat]?.getD [] = Fg (nd c n) := by
 rw [Dy Nd.d (by omega)]; simp [nd, List.getD_eq_getElem?_getD]
theorem q8P {c : Ax} {n : Int} (h0 : 0 ≤ n) (h : n < c.nodes.l.length) : nd c n ∈ c.nodes.l := by
 have hi : n.toNat < c.nodes.l.length := by omega
 have : nd c n = c.nodes.l[n.toNat] := by simp [nd, List.getD_eq_getElem?_getD, hi]
 rw [this]; exact List.getElem_mem hi
def Fz : AV := .t (.sl [] (some 0) (some true))
def q9d (c : Ax) (n : Nat) (nets inb : List Int) : List (Nat × B0) := [(4, .bx [Fz, Fz]), (9, .bx (G3 c 34 n (some n))), (34, .sl 61 1 (Ab nets)), (39, .sl 61 1 (Ab inb))]
def q6k (c : Ax) (n : Nat) (x : Nd) (nets inb : List Int) : List (Nat × B0) := [(4, .bx [Fz, Fz]), (9, .bx (G3 c 34 n (some n))), (13, .bx ((Fg x).map .t)), (34, .sl 61 1 (Ab nets)), (39, .sl 61 1 (Ab inb))]
theorem q9e {Q : AX → St → Prop} (c : Ax) (n : Nat) (hn : n ≤ 1000000000) (x : Nd) (hx : x.inn.l.length ≤ 1000000) (hin : ∀ k ∈ x.inn.l, 0 ≤ k ∧ k < n) (nets : List Int) (hl : nets.length = n) (nn : Int) (t40 t41 t42 : T) (R : List Int)
  (h0 : ∀ X : List Int, X.take x.inn.l.length = R → R.length = x.inn.l.length → Q (.exit 2) ⟨[(4, .lp 4 0 0), (9, .lp 9 0 0), (10, .ls 39 0 x.inn.l.length none), (12, .t (tI nn)), (13, .lp 13 0 0), (40, .t t40), (41, .t t41), (42, .t t42), (59, .t (Bl x.inn)), (60, .t (tI x.inn.l.length)), (61, .t (tI x.inn.l.length)), (62, .t (tB false))], q6k c n x nets X⟩) :
  ∀ (k i : Nat) (X : List Int), k + i = x.inn.l.length → i ≤ X.length → X.take i ++ (x.inn.l.drop i).map (fun k => nets.getD k.toNat 0) = R →
  run Tryz.prog Γ X2 Q ⟨[(4, .lp 4 0 0), (9, .lp 9 0 0), (10, .ls 39 0 i none), (12, .t (tI nn)), (13, .lp 13 0 0), (40, .t t40), (41, .t t41), (42, .t t42), (59, .t (Bl x.inn)), (60, .t (tI x.inn.l.length)), (61, .t (tI i))], q6k c n x nets X⟩
 | 0, i, X, h, hi, hR => by
  refine q08 fun K hK => ?_
  have h2 : i = x.inn.l.length := by omega
  subst h2
  rw [List.drop_length, List.map_nil, List.append_nil] at hR
  have := h0 X hR (by rw [← hR, List.length_take]; omega)
  simp [q6k, G3, Fg, Fz, A6, A8, Ad, Bl]
  simpa [q6k, G3, Fg, Fz, A6, A8, Ad, Bl] using this
 | k + 1, i, X, h, hi, hR => by
  refine q08 fun K hK => ?_
  have h2 : i < x.inn.l.length := by omega
  rw [List.drop_eq_getElem_cons h2, List.map_cons] at hR
  have e := ge1 (f := tI) h2
  have hq := hin _ (List.getElem_mem h2)
  rw [Aw h2] at e
  generalize x.inn.l[i] = q at *
  have hq2 : q.toNat < nets.length := by omega
  have e2 := ge1 (f := tK) hq2
  have hti : (X.take i).length = i := by rw [List.length_take]; omega
  generalize nets.getD q.toNat 0 = v at *
  have ih := q9e c n hn x hx hin nets hl nn t40 t41 t42 R h0 k (i + 1) (X.take i ++ [v]) (by omega) (by simp [hti]) (by rw [List.take_of_length_le (by simp [hti]), ← hR]; simp)
  have vs : Ab (X.take i) ++ [[tK v]] = Ab (X.take i ++ [v]) := Ns
  have vt : (Ab X).take i = Ab (X.take i) := q7a
  have hxl : (Ab (X.take i)).length = i := by rw [A1]; exact hti
  simp (disch := omega) [q6k, G3, Fg, Fz, A6, A8, Ad, Bl, h2, A1, A5, e, e2, hq, hl, A4, vt, vs, hti, hxl]
  refine ⟨by omega, ?_⟩
  rw [hK]
  simpa [q6k, G3, Fg, Fz, A6, A8, Ad, Bl] using ih
structure ROk (c : Ax) : Prop where
 ok : COk c
 inn : ∀ x ∈ c.nodes.l, x.inn.l.length ≤ 16 ∧ ∀ k ∈ x.inn.l, 0 ≤ k ∧ k < c.nodes.l.length
theorem q8Q {c : Ax} {nets : List Int} {n : Int} (h : ∀ v ∈ nets, V4 v) : ∀ v ∈ Nn c nets n, V4 v := by
 intro v hv
 unfold Nn at hv
 split at hv
 ·rcases List.mem_or_eq_of_mem_set hv with hv | rfl
  ·exact h v hv
  ·refine qF3 fun u hu => ?_
   obtain ⟨q, _, rfl⟩ := List.mem_map.1 hu
   exact Y1 h _
 ·exact h v hv
theorem qBn {Q : AX → St → Prop} (hΓ : GOk Γ) (c : Ax) (H : ROk c) (ord : List Int) (ho : ord.length ≤ 1000000000) (hin : ∀ n ∈ ord, 0 ≤ n ∧ n < c.nodes.l.length) (R : List Int)
  (h0 : ∀ (m : Nat) (inb : List Int), Q (.exit 0) ⟨[(4, .lp 4 0 0), (9, .lp 9 0 0), (10, .ls 39 0 m none), (40, .t (.sl (Bo ord) none none)), (41, .t (tI ord.length)), (42, .t (tI ord.length)), (43, .t (tB false))], q9d c c.nodes.l.length R inb⟩) :
  ∀ (k i : Nat) (nets : List Int) (m : Nat) (inb : List Int), k + i = ord.length → nets.length = c.nodes.l.length → (∀ v ∈ nets, V4 v) → q2x c (ord.drop i) nets = R →
  run Tryz.prog Γ X3 Q ⟨[(4, .lp 4 0 0), (9, .lp 9 0 0), (10, .ls 39 0 m none), (40, .t (.sl (Bo ord) none none)), (41, .t (tI ord.length)), (42, .t (tI i))], q9d c c.nodes.l.length nets inb⟩
 | 0, i, nets, m, inb, h, hl, hv, hR => by
  refine q09 fun K hK => ?_
  have h2 : i = ord.length := by omega
  subst h2
  rw [List.drop_length] at hR
  have hR' : nets = R := hR
  subst hR'
  have := h0 m inb
  simp [q9d, G3, Fz, A6, A8, Ad, Bl]
  simpa [q9d, G3, Fz, A6, A8, Ad, Bl] using this
 | k + 1, i, nets, m, inb, h, hl, hv, hR => by
  refine q09 fun K hK => ?_
  have h2 : i < ord.length := by omega
  rw [List.drop_eq_getElem_cons h2] at hR
  have hR : q2x c (ord.drop (i + 1)) (Nn c nets ord[i]) = R := hR
  have e := ge1 (f := tI) h2
  have hn := hin _ (List.getElem_mem h2)
  rw [Aw h2] at e
  generalize ord[i] = n at *
  have ih := fun m inb => qBn hΓ c H ord ho hin R h0 k (i + 1) (Nn c nets n) m inb (by omega) (by rw [q1h]; exact hl) (q8Q hv) hR
  have hcn := H.ok.nodes
  have hget := q4d hn.1 hn.2
  have hmem := q8P hn.1 hn.2
  have hk : (nd c n).k = An c n.toNat := rfl
  have hxi := H.inn _ hmem
  have hkk := H.ok.kind _ hmem
  have hinv : Hh c nets n.toNat = (nd c n).inn.l.map fun k => nets.getD k.toNat 0 := rfl
  have hlR : (Hh c nets n.toNat).length = (nd c n).inn.l.length := by rw [hinv]; simp
  have hvR : ∀ v ∈ Hh c nets n.toNat, V4 v := fun v hv' => by
   rw [hinv] at hv'
   obtain ⟨q, hq, rfl⟩ := List.mem_map.1 hv'
   exact Y1 hv _
  have hev := fun cap nl => q7o hΓ (nd c n).k hkk (Hh c nets n.toNat) cap nl (by rw [hlR]; omega) hvR
  have hcb := q1b (Γ := Γ) (nd c n).k
  have hst : Nn c nets n = if Da (nd c n).k then nets.set n.toNat (Oe (nd c n).k (Hh c nets n.toNat)) else nets := by rw [hk]; rfl
  have hlp := fun Q h0 => q9e (Γ := Γ) (Q := Q) c c.nodes.l.length hcn (nd c n) (by omega) hxi.2 nets hl n (.sl (Bo ord) none none) (tI ord.length) (tI i) (Hh c nets n.toNat) h0 (nd c n).inn.l.length 0 inb (by omega) (by omega) (by rw [hinv]; simp)
  have hcd : decide (1 ≤ (nd c n).k ∧ (nd c n).k ≤ 13) = Da (nd c n).k := rfl
  rw [hcd] at hcb
  rw [hst] at ih
  generalize Hh c nets n.toNat = RV at *
  generalize nd c n = x at *
  obtain ⟨hn0, hn1⟩ := hn
  have hn2 : n.toNat < c.nodes.l.length := by omega
  have hn3 : n.toNat < nets.length := by omega
  simp (disch := omega) [q9d, G3, Fz, A6, A8, Ad, Bl, h2, A1, A5, e, hn0, hn1, Aa, Br, hget, Fg]
  refine A0 hcb rfl ?_
  by_cases hc : Da x.k = true
  ·rw [if_pos hc] at ih
   simp [hc, A1]
   simp only [q6k, G3, Fg, Fz, A6, A8, Ad, Bl, List.map_cons, List.map_nil] at hlp
   refine hlp _ fun X hX hXl => ?_
   have hXR : (Ab X).take x.inn.l.length = Ab RV := by rw [q7a, hX]
   simp (disch := omega)
   refine A0 (hev none none) (by simp [Ag, hXR]) ?_
   have hs : (Ab nets).set n.toNat [tK (Oe x.k RV)] = Ab (nets.set n.toNat (Oe x.k RV)) := Ep
   generalize Oe x.k RV = v at *
   simp (disch := omega) [hn0, hn1, hn2, hn3, A1, hl, hs, A4]
   rw [hK]
   simpa [q9d, G3, Fz, A6, A8, Ad, Bl] using ih _ X
  ·rw [if_neg hc] at ih
   simp only [Bool.not_eq_true] at hc
   simp only [hc]
   simp (disch := omega) [A4]
   rw [hK]
   simpa [q9d, G3, Fz, A6, A8, Ad, Bl] using ih m inb
def q14 (c : Ax) (p : Pat) : Int := if Cj c ≠ 0 then Cj c else X6 c p
theorem qDq {c : Ax} (hc : COk c) (h : Cj c = 0) : ROk c := by
 have hs := (Fb h).1
 exact ⟨hc, fun x hx => ⟨(Eb hs).2.1 x hx, q9S hs x hx⟩⟩
theorem q1i : ∀ {ns vs nets : List Int}, (∀ v ∈ vs, V4 v) → (∀ v ∈ nets, V4 v) → ∀ v ∈ Dk ns vs nets, V4 v
 | [], vs, nets, _, h => by cases vs <;> exact h
 | _ :: _, [], nets, _, h => h
 | n :: ns, v :: vs, nets, hv, h => by
  simp only [Dk]
  refine q1i (fun u hu => hv u (List.mem_cons_of_mem _ hu)) fun u hu => ?_
  rcases List.mem_or_eq_of_mem_set hu with hu | rfl
  ·exact h u hu
  ·exact hv _ List.mem_cons_self
def q8R (c : Ax) (p : Pat) : T := if q14 c p = 0 then .tup [.agg [tVs (Vq c (Ti c p.inn.l p.st.l)), tVs (C6 c (Ti c p.inn.l p.st.l))], .sl (Ab (Ti c p.inn.l p.st.l)) (some c.nodes.l.length) none, tI 0] else .tup [.agg [.sl [] (some 0) (some true), .sl [] (some 0) (some true)], .sl [] (some 0) (some true), tI (q14 c p)]
theorem qDr (hΓ : GOk Γ) (c : Ax) (hc : COk c) (hn : c.nodes.l.length ≤ 19) (p : Pat) (hp : p.inn.l.length ≤ 1000000000 ∧ p.st.l.length ≤ 1000000000) (hv : (∀ v ∈ p.inn.l, 0 ≤ v) ∧ ∀ v ∈ p.st.l, 0 ≤ v) :
  Ae Tryz.prog Γ 12 [.agg (tC c), .agg (tP p)] (q8R c p) := by
 refine B5 q8O rfl ?_
 generalize hR : q8R c p = RR
 unfold q8R at hR
 simp [q59, tC, A6, A8, Ad, Bl, tP, tV]
 refine A0 (q6f hΓ c hc hn) rfl ?_
 by_cases h1 : Cj c = 0
 case neg =>
  have he : q14 c p = Cj c := by unfold q14; rw [if_pos h1]
  rw [he, if_neg h1] at hR
  subst hR
  simp [h1, X4, Ag, Am]
 have he : q14 c p = X6 c p := by unfold q14; rw [if_neg (by simp [h1])]
 rw [he] at hR
 simp [h1]
 refine A0 (qCc c hc p hp) rfl ?_
 by_cases h2 : X6 c p = 0
 case neg =>
  rw [if_neg h2] at hR
  subst hR
  simp [h2, X4, Ag, Am]
 rw [if_pos h2] at hR
 obtain ⟨l1, l2, v1, v2⟩ : p.inn.l.length = (Be c).length ∧ p.st.l.length = (Ap c).length ∧ (∀ v ∈ p.inn.l, V4 v) ∧ ∀ v ∈ p.st.l, V4 v := by
  unfold X6 at h2
  split at h2
  ·cases h2
  split at h2
  ·cases h2
  split at h2
  ·cases h2
  rename_i a b d
  refine ⟨by omega, by omega, fun v hvm => ⟨hv.1 v hvm, ?_⟩, fun v hvm => ⟨hv.2 v hvm, ?_⟩⟩
  ·have : ¬ p.inn.l.any L1 = true := fun h => d (.inl h)
   rw [List.any_eq_true] at this
   have h3 : ¬ L1 v = true := fun h => this ⟨v, hvm, h⟩
   simp [L1] at h3; omega
  ·have : ¬ p.st.l.any L1 = true := fun h => d (.inr h)
   rw [List.any_eq_true] at this
   have h3 : ¬ L1 v = true := fun h => this ⟨v, hvm, h⟩
   simp [L1] at h3; omega
 have H := qDq hc h1
 have hzl : (List.replicate c.nodes.l.length (0 : Int)).length = c.nodes.l.length := by simp
 have hload := qGx (Γ := Γ) c hc p (some c.nodes.l.length) (List.replicate c.nodes.l.length 0) hzl l1 l2
 have hz : List.replicate c.nodes.l.length [T.v (Value.int .u8 0)] = Ab (List.replicate c.nodes.l.length 0) := by simp [Af]
 have hL : Dk (Ap c) p.st.l (Dk (Be c) p.inn.l (List.replicate c.nodes.l.length 0)) = Yo c p.inn.l p.st.l := rfl
 rw [hL] at hload
 have hol : (L0 c).length = c.nodes.l.length := by rw [(Qc c).1.length_eq, Og]
 have ho := fun Q h0 => qBn (Γ := Γ) (Q := Q) hΓ c H (L0 c) (by omega) (fun n hn => by rw [(Qc c).1.mem_iff, q3g] at hn; exact hn) (Ti c p.inn.l p.st.l) h0 (L0 c).length 0 (Yo c p.inn.l p.st.l) 0 [] (by omega) Yp (q1i v2 (q1i v1 (fun v hv => by rw [(List.mem_replicate.1 hv).2]; simp [V4]))) rfl
 have hnl : (Ti c p.inn.l p.st.l).length = c.nodes.l.length := by unfold Ti; rw [q3h, Yp]
 have hll : (Yo c p.inn.l p.st.l).length = c.nodes.l.length := Yp
 have hobs := q3w (Γ := Γ) c hc ⟨Ti c p.inn.l p.st.l, some c.nodes.l.length, none⟩ (by simp only [hnl]; omega)
 have htk : (Ab (Ti c p.inn.l p.st.l)).take c.nodes.l.length = Ab (Ti c p.inn.l p.st.l) := by rw [← hnl]; exact B9
 simp only at hobs
 generalize Ti c p.inn.l p.st.l = NL at *
 generalize Yo c p.inn.l p.st.l = LL at *
 simp [h2, Aa]
 refine ⟨by omega, ?_⟩
 rw [hz]
 refine ⟨_, _, hload, ?_⟩
 simp [A1, hll, hol]
 simp only [hol] at ho
 refine ho _ fun m inb => ?_
 simp [q9d, G3, Fz, A6, A8, Ad, Bl]
 refine A0 hobs (by simp [Ag, htk, K6, A6, A8, Ad, Bl, tV]) ?_
 subst hR
 simp [X4, Ag, htk, tVs]
end Go.Lg
namespace Go.Lg
open Go
section
variable {P : Program} {Γ : Tables} {Q : AX → St → Prop} {s : St}
/- probecard/probecardlaw06.taken (function 54) -/
abbrev q15 : IC := .gh (.seq (.seq (.reg [om 9 8, om 10 1, od 11 (.bin .lss (tm 9) (tm 10))] [kp [0, 1, 2, 7, 8, 11] [19]]) (.cond (tm 11) .skip (.exit 0))) (.seq (.block 1 (.seq (.reg [om 14 0, od 15 (le 0 14), od 16 (.bin .eql (tm 15) (ki 0))] [kp
 [0, 1, 2, 7, 8, 16] [19]]) (.cond (tm 16) (.reg [om 17 7, od 18 (.bsl true 61 1 [(ku 2)]), od 19 (.app false 61 1 (tm 17) (tm 18)), om 7 19] [kp [0, 1, 2, 7, 8] [19]]) (.reg [om 20 7, om 21 0, om 22 8, om 23 0, od 24 (le 0 23), od
 25 (.bin .rem (tm 22) (tm 24)), od 26 (ia 1 21 25), od 27 (ld 1 26), om 28 2, od 29 (.bin .rem (tm 27) (tm 28)), od 30 (.bsl true 61 1 [(tm 29)]), oz 31 (.app false 61 1 (tm 20) (tm 30)) 19, om 7 31] [kp [0, 1, 2, 7, 8] [19]]))))
 (.reg [om 12 8, od 13 (.bin .add (tm 12) (ki 1)), om 8 13] [kp [0, 1, 2, 7, 8] [19]]))) [kp [0, 1, 2, 7, 8] [19]]
def On : IC := .loop q15
abbrev q16 : IC := (.seq (.reg [od 6 (.mv kN)] [kp [0, 1, 2] []]) (.seq (.reg [od 7 (.mv kN)] [.nl 7 19 61 1, kp [0, 1, 2, 7] [19]]) (.seq (.seq (.reg [od 8 (.mv (ki 0))] [kp [0, 1, 2, 7, 8] [19]]) (.block 0 On)) (.seq (.reg [om 32 7, om
 6 32] [kp [6] [19]]) .ret))))
theorem Vr (h : ∀ K : St → Prop, K = run P Γ On Q → run P Γ q15 (Aq K Q) s) : run P Γ On Q s := Ac h
def q17 : List RV := [.tmp 6]
/- probecard/probecardlaw06.count (function 55) -/
abbrev q18 : IC := .gh (.seq (.seq (.reg [om 7 6, od 8 (fa 0 2), od 9 (ld 1 8), od 10 (le 0 9), od 11 (.bin .lss (tm 7) (tm 10))] [kp [1, 2, 5, 6, 11] []]) (.cond (tm 11) .skip (.exit 0))) (.seq (.block 1 (.seq (.reg [od 14 (fa 0 2), od 15 (ld 1 14),
 om 16 6, od 17 (ia 4 15 16), od 18 (fa 0 17), od 19 (ld 1 18), om 20 1, od 21 (.bin .eql (tm 19) (tm 20))] [kp [1, 2, 5, 6, 21] []]) (.cond (tm 21) (.reg [om 22 5, od 23 (.bin .add (tm 22) (ki 1)), om 5 23] [kp [1, 2, 5, 6] []])
 .skip))) (.reg [om 12 6, od 13 (.bin .add (tm 12) (ki 1)), om 6 13] [kp [1, 2, 5, 6] []]))) [kp [1, 2, 5, 6] []]
def Oo : IC := .loop q18
abbrev q19 : IC := (.seq (.reg [od 2 (.box true (tm 0)), od 4 (.mv (ki 0))] [kp [1, 2] []]) (.seq (.reg [od 5 (.mv (ki 0))] [kp [1, 2, 5] []]) (.seq (.seq (.reg [od 6 (.mv (ki 0))] [kp [1, 2, 5, 6] []]) (.block 0 Oo)) (.seq (.reg [om 24
 5, om 4 24] [kp [4] []]) .ret))))
theorem Vs (h : ∀ K : St → Prop, K = run P Γ Oo Q → run P Γ q18 (Aq K Q) s) : run P Γ Oo Q s := Ac h
def q1A : List RV := [.tmp 4]
/- (probecard/probecardlaw06.P).Of (function 35) -/
abbrev q2J : IC := (.seq (.reg [od 2 (.box true (tm 0)), od 3 (.box true (tm 1)), od 4 (.alloc false [(.slice none 0 0), (.slice none 0 0)])] [kp [2, 3, 4] [4, 9019, 14019]]) (.seq (.reg [od 5 (fa 0 2), od 6 (.ldT 1 false (tm 5)), od 7 (.ldT 4 true
 (tm 3)), od 8 (.callT 55 [(tm 7), (ku 0)]), od 9 (.ncall 54 [(tm 6), (tm 8), (ku 4)] 9000), od 10 (fa 1 2), od 11 (.ldT 1 false (tm 10)), od 12 (.ldT 4 true (tm 3)), od 13 (.callT 55 [(tm 12), (ku 14)]), od 14 (.ncall 54 [(tm 11),
 (tm 13), (ku 3)] 14000), od 15 (.build [(1, (tm 9)), (1, (tm 14))]), on (.stR 4 2 (tm 4) (tm 15))] [kp [4] [4, 9019, 14019]]) .ret))
def q2K : List RV := [.cell 4 2 true]
/- probecard/probecardlaw06.Same (function 13) -/
abbrev q2L : IC := .gh (.seq (.seq (.reg [om 11 5, om 12 0, od 13 (le 0 12), od 14 (.bin .lss (tm 11) (tm 13))] [kp [0, 1, 5, 14] []]) (.cond (tm 14) .skip (.exit 0))) (.seq (.block 1 (.seq (.reg [om 17 0, om 18 5, od 19 (ia 1 17 18), od 20 (ld 1
 19), om 21 1, om 22 5, od 23 (ia 1 21 22), od 24 (ld 1 23), od 25 (.bin .neq (tm 20) (tm 24))] [kp [0, 1, 5, 25] []]) (.cond (tm 25) (.seq (.reg [od 4 (.mv (ki 1))] [kp [4] []]) .ret) .skip))) (.reg [om 15 5, od 16 (.bin .add (tm
 15) (ki 1)), om 5 16] [kp [0, 1, 5] []]))) [kp [0, 1, 5] []]
def R7 : IC := .loop q2L
abbrev Y2 : IC := (.seq (.reg [od 4 (.mv (ki 0))] [kp [0, 1] []]) (.seq (.seq (.reg [om 6 0, od 7 (le 0 6), om 8 1, od 9 (le 0 8), od 10 (.bin .neq (tm 7) (tm 9))] [kp [0, 1, 10] []]) (.cond (tm 10) (.seq (.reg [od 4 (.mv (ki 1))] [kp [4] []]) .ret)
 .skip)) (.seq (.seq (.reg [od 5 (.mv (ki 0))] [kp [0, 1, 5] []]) (.block 0 R7)) (.seq (.reg [od 4 (.mv (ki 0))] [kp [4] []]) .ret))))
theorem X7 (h : ∀ K : St → Prop, K = run P Γ R7 Q → run P Γ q2L (Aq K Q) s) : run P Γ R7 Q s := Ac h
def R9 : List RV := [.tmp 4]
/- probecard/logic.Text (function 57) -/
abbrev q2M : IC := .gh (.seq (.reg [od 12 (.bin .lss (tm 11) (tm 10))] [kp [3, 9, 10, 11, 12] [8]]) (.seq (.cond (tm 12) .skip (.exit 0)) (.seq (.block 1 (.seq (.reg [om 13 11, od 14 (ia 1 9 11), od 15 (ld 1 14), om 4 13, om 5 15] [kp [3, 4, 5, 9,
 10, 11] [8]]) (.reg [om 16 3, om 17 4, om 18 5, od 19 (.call 109 [(tm 18)]), od 20 (.idxS (.const (sV [48, 49, 88, 90])) (tm 19)), od 21 (ia 1 16 17), on (.store 1 (tm 21) (tm 20))] [kp [3, 9, 10, 11] [8]]))) (.reg [od 22 (.bin
 .add (tm 11) (ki 1)), om 11 22] [kp [3, 9, 10, 11] [8]])))) [kp [3, 9, 10, 11] [8]]
def Rb : IC := .loop q2M
abbrev q2N : IC := (.seq (.reg [od 2 (.mv (.const (sV [])))] [kp [0] []]) (.seq (.reg [om 6 0, od 7 (le 0 6), od 8 (.mk 5 1 [(.int .u8 0)] (tm 7) (tm 7)), om 3 8] [kp [0, 3] [8]]) (.seq (.seq (.reg [om 9 0, od 10 (le 0 9), od 11 (.mv (ki 0))] [kp [3,
 9, 10, 11] [8]]) (.block 0 Rb)) (.seq (.reg [om 23 3, od 24 (.bytesStr (tm 23)), om 2 24] [kp [2] []]) .ret))))
theorem X8 (h : ∀ K : St → Prop, K = run P Γ Rb Q → run P Γ q2M (Aq K Q) s) : run P Γ Rb Q s := Ac h
def q2O : List RV := [.tmp 2]
/- probecard/logic.Parse (function 108) -/
abbrev q1B : IC := .gh (.seq (.reg [od 13 (.bin .lss (tm 12) (tm 11))] [kp [0, 4, 11, 12, 13] [9]]) (.seq (.cond (tm 13) .skip (.exit 0)) (.seq (.block 1 (.seq (.reg [om 14 12, om 5 14] [kp [0, 4, 5, 11, 12] [9]]) (.seq (.reg [om 15 0, om 16 5, od 17
 (.idxS (tm 15) (tm 16)), od 18 (.call 132 [(.const (sV [48, 49, 88, 90])), (tm 17)]), om 6 18] [kp [0, 4, 5, 6, 11, 12] [9]]) (.seq (.seq (.reg [om 19 6, od 20 (.bin .lss (tm 19) (ki 0))] [kp [0, 4, 5, 6, 11, 12, 20] [9]]) (.cond
 (tm 20) (.seq (.reg [od 2 (.mv kN), od 3 (.mv (ki 4))] [kp [2, 3] [9]]) .ret) .skip)) (.reg [om 21 4, om 22 5, om 23 6, od 24 (.conv .u8 (tm 23)), od 25 (ia 1 21 22), on (.store 1 (tm 25) (tm 24))] [kp [0, 4, 11, 12] [9]])))))
 (.reg [od 26 (.bin .add (tm 12) (ki 1)), om 12 26] [kp [0, 4, 11, 12] [9]])))) [kp [0, 4, 11, 12] [9]]
def Oq : IC := .loop q1B
abbrev q1C : IC := (.seq (.reg [od 2 (.mv kN), od 3 (.mv (ki 0))] [kp [0] []]) (.seq (.reg [om 7 0, od 8 (le 1 7), od 9 (.mk 61 1 [(.int .u8 0)] (tm 8) (tm 8)), om 4 9] [kp [0, 4] [9]]) (.seq (.seq (.reg [om 10 0, od 11 (le 1 10), od 12 (.mv (ki 0))]
 [kp [0, 4, 11, 12] [9]]) (.block 0 Oq)) (.seq (.reg [om 27 4, om 2 27, od 3 (.mv (ki 0))] [kp [2, 3] [9]]) .ret))))
theorem Vt (h : ∀ K : St → Prop, K = run P Γ Oq Q → run P Γ q1B (Aq K Q) s) : run P Γ Oq Q s := Ac h
def q1D : List RV := [.tmp 2, .tmp 3]
end
end Go.Lg
namespace Go.Lg
open Go Go.Proofs
theorem q5V : As Tryz.prog 54 q16 33 3 q17 = true := by kernel_rfl
theorem q5W : As Tryz.prog 55 q19 25 2 q1A = true := by kernel_rfl
theorem q6l : As Tryz.prog 35 q2J 16 2 q2K = true := by kernel_rfl
theorem q6m : As Tryz.prog 13 Y2 26 2 R9 = true := by kernel_rfl
theorem q6n : As Tryz.prog 57 q2N 25 1 q2O = true := by kernel_rfl
theorem q5X : As Tryz.prog 108 q1C 28 1 q1D = true := by kernel_rfl
end Go.Lg
namespace Go.Lg
open Go Go.Proofs
variable {Γ : Tables}
theorem q9f {ks : List Int} {c : Ax} {i : Nat} (hi : i < c.nodes.l.length) : Il ks (c.nodes.l.take (i + 1)) 0 = Il ks (c.nodes.l.take i) 0 ++ if ks.contains (An c i) then [(i : Int)] else [] := by
 have hk : An c i = c.nodes.l[i].k := by simp [An, hi]
 rw [List.take_add_one, List.getElem?_eq_getElem hi, q3W, hk]
 have : (c.nodes.l.take i).length = i := by rw [List.length_take]; omega
 rw [this]
 simp [Il]
theorem q6o {Q : AX → St → Prop} (c : Ax) (hc : COk c) (k : Int)
  (h0 : Q (.exit 0) ⟨[(1, .t (tK k)), (2, .t (.ip (tC c) 0)), (5, .t (tI (Il [k] c.nodes.l 0).length)), (6, .t (tI c.nodes.l.length)), (11, .t (tB false))], []⟩) : ∀ (f i : Nat), f + i = c.nodes.l.length →
  run Tryz.prog Γ Oo Q ⟨[(1, .t (tK k)), (2, .t (.ip (tC c) 0)), (5, .t (tI (Il [k] (c.nodes.l.take i) 0).length)), (6, .t (tI i))], []⟩
 | 0, i, h => by
  refine Vs fun K hK => ?_
  have h2 : i = c.nodes.l.length := by omega
  subst h2
  rw [List.take_length]
  simp [tC, A6, A8, Ad, Bl, Aa]
  simpa [tC, A6, A8, Ad, Bl] using h0
 | f + 1, i, h => by
  refine Vs fun K hK => ?_
  have h2 : i < c.nodes.l.length := by omega
  have hn := hc.nodes
  have ih := q6o c hc k h0 f (i + 1) (by omega)
  rw [q9f h2] at ih
  have hget := q4d (c := c) (n := (i : Int)) (by omega) (by omega)
  have hk : (nd c i).k = An c i := by simp [nd, An]
  simp only [Int.toNat_natCast] at hget
  have hle := Ua [k] (c.nodes.l.take i) 0
  rw [List.length_take] at hle
  generalize nd c i = x at *
  by_cases h1 : x.k = k
  ·have hkk : [k].contains (An c i) = true := by rw [← hk, h1]; simp
   rw [hkk, if_pos rfl, List.length_append] at ih
   simp (disch := omega) [tC, A6, A8, Ad, Bl, Aa, h2, Br, hget, Fg, h1, A4]
   rw [hK]
   simpa [tC, A6, A8, Ad, Bl] using ih
  ·have hkk : [k].contains (An c i) = false := by rw [← hk]; simp; exact h1
   rw [hkk, if_neg (by simp), List.append_nil] at ih
   simp (disch := omega) [tC, A6, A8, Ad, Bl, Aa, h2, Br, hget, Fg, h1, A4]
   rw [hK]
   simpa [tC, A6, A8, Ad, Bl] using ih
theorem Zu (c : Ax) (hc : COk c) (k : Int) : A3 Tryz.prog Γ 55 [.agg (tC c), tK k] (tI (Il [k] c.nodes.l 0).length) := by
 refine A7 q5W rfl ?_
 have g := fun Q h0 => q6o (Γ := Γ) (Q := Q) c hc k h0 c.nodes.l.length 0 (by omega)
 simp [q19, tC, A6, A8, Ad, Bl]
 refine g _ ?_
 simp [q1A, Am]
def M7 (l : List Int) (n : Nat) (most : Int) : List Int := (List.range' 0 n).map fun i => if l = [] then 2 else (l.getD (i % l.length) 0).tmod most
theorem M8 {l : List Int} {n : Nat} {most : Int} : (M7 l n most).length = n := by simp [M7]
theorem q32 {Q : AX → St → Prop} (l : Sl Int) (n : Nat) (hn : n ≤ 1000000000) (most : Int) (hm : 0 < most) (R : List Int)
  (h0 : Q (.exit 0) ⟨[(0, .t (tV l)), (1, .t (tI n)), (2, .t (tK most)), (7, .ls 19 0 n none), (8, .t (tI n)), (11, .t (tB false))], [(19, .sl 61 1 (Ab R))]⟩) : ∀ (k i : Nat) (out : List Int), k + i = n → out.length = i → out ++ (List.range' i k).map (fun i => if l.l = [] then 2 else (l.l.getD (i % l.l.length) 0).tmod most) = R →
  run Tryz.prog Γ On Q ⟨[(0, .t (tV l)), (1, .t (tI n)), (2, .t (tK most)), (7, .ls 19 0 i none), (8, .t (tI i))], [(19, .sl 61 1 (Ab out))]⟩
 | 0, i, out, h, hi, hR => by
  refine Vr fun K hK => ?_
  have h2 : i = n := by omega
  subst h2
  simp only [List.range'_zero, List.map_nil, List.append_nil] at hR
  subst hR
  simp
  exact h0
 | k + 1, i, out, h, hi, hR => by
  refine Vr fun K hK => ?_
  have h2 : i < n := by omega
  rw [List.range'_succ, List.map_cons] at hR
  have vt : (Ab out).take i = Ab out := by rw [← hi]; exact B9
  by_cases h1 : l.l = []
  ·have ih := q32 l n hn most hm R h0 k (i + 1) (out ++ [2]) (by omega) (by simp [hi]) (by rw [← hR]; simp [h1])
   have vs := Ns (l := out) (v := 2)
   simp (disch := omega) [h2, tV, A1, h1, A4, vt, vs, hi]
   refine ⟨by omega, ?_⟩
   rw [hK]
   simpa [tV, h1] using ih
  ·have hpos : 0 < l.l.length := List.length_pos_iff.2 h1
   have hlt : i % l.l.length < l.l.length := Nat.mod_lt _ hpos
   have hmod : (i : Int).tmod (l.l.length : Int) = ((i % l.l.length : Nat) : Int) := by rw [Int.natCast_emod]; exact Int.tmod_eq_emod_of_nonneg (by omega)
   rw [if_neg h1] at hR
   have e := ge1 (f := tK) hlt
   generalize hj : i % l.l.length = j at *
   generalize l.l.getD j 0 = v at *
   have ih := q32 l n hn most hm R h0 k (i + 1) (out ++ [v.tmod most]) (by omega) (by simp [hi]) (by rw [← hR]; simp)
   have vs := Ns (l := out) (v := v.tmod most)
   have hne : ¬ (l.l.length : Int) = 0 := by omega
   have hm0 : ¬ most = 0 := by omega
   simp (disch := omega) [h2, tV, A1, A5, h1, hne, hm0, hmod, hlt, e, A4, vt, vs, hi, -Int.natCast_emod]
   refine ⟨by omega, ?_⟩
   rw [hK]
   simpa [tV] using ih
theorem q5l (l : Sl Int) (n : Nat) (hn : n ≤ 1000000000) (most : Int) (hm : 0 < most) : Ge Tryz.prog Γ 54 [] [.t (tV l), .t (tI n), .t (tK most)] (.ls 19 0 n none) [(19, .sl 61 1 (Ab (M7 l.l n most)))] := by
 refine Ik q5V rfl ?_
 have g := fun Q h0 => q32 (Γ := Γ) (Q := Q) l n hn most hm (M7 l.l n most) h0 n 0 [] (by omega) rfl (by simp [M7])
 simp [q16]
 refine g _ ?_
 simp [q17]
def q7s (a b : List Int) : Int := if a = b then 0 else 1
theorem qDs {a b : List Int} (hl : a.length = b.length) (h : ∀ j, j < a.length → a.getD j 0 = b.getD j 0) : a = b := by
 refine List.ext_getElem hl fun i h1 h2 => ?_
 have := h i h1
 rwa [Aw h1, Aw h2] at this
theorem q7t {Q : AX → St → Prop} (a b : Sl Int) (hl : a.l.length ≤ 1000000000) (he : a.l.length = b.l.length)
  (h0 : a.l = b.l → Q (.exit 0) ⟨[(0, .t (tV a)), (1, .t (tV b)), (5, .t (tI a.l.length)), (14, .t (tB false))], []⟩)
  (h1 : a.l ≠ b.l → Q .ret ⟨[(4, .t (tI 1))], []⟩) : ∀ (k i : Nat), k + i = a.l.length → (∀ j, j < i → a.l.getD j 0 = b.l.getD j 0) →
  run Tryz.prog Γ R7 Q ⟨[(0, .t (tV a)), (1, .t (tV b)), (5, .t (tI i))], []⟩
 | 0, i, h, hp => by
  refine X7 fun K hK => ?_
  have h2 : i = a.l.length := by omega
  subst h2
  simp [tV, A1]
  exact h0 (qDs he hp)
 | k + 1, i, h, hp => by
  refine X7 fun K hK => ?_
  have h2 : i < a.l.length := by omega
  have h3 : i < b.l.length := by omega
  have e1 := ge1 (f := tK) h2
  have e2 := ge1 (f := tK) h3
  by_cases hv : a.l.getD i 0 = b.l.getD i 0
  ·have ih := q7t a b hl he h0 h1 k (i + 1) (by omega) (fun j hj => by
    rcases Nat.lt_succ_iff_lt_or_eq.1 hj with hj | rfl
    ·exact hp j hj
    ·exact hv)
   rw [hv] at e1
   generalize b.l.getD i 0 = v at *
   simp (disch := omega) [h2, h3, tV, A1, A5, e1, e2, A4]
   rw [hK]
   simpa [tV] using ih
  ·have hne : a.l ≠ b.l := fun e => hv (by rw [e])
   generalize b.l.getD i 0 = v at *
   generalize a.l.getD i 0 = u at *
   simp (disch := omega) [h2, h3, tV, A1, A5, e1, e2, A4, hv]
   exact h1 hne
theorem qCd (a b : Sl Int) (hl : a.l.length ≤ 1000000000) : A3 Tryz.prog Γ 13 [tV a, tV b] (tI (q7s a.l b.l)) := by
 refine A7 q6m rfl ?_
 by_cases he : a.l.length = b.l.length
 ·have g := fun Q h0 h1 => q7t (Γ := Γ) (Q := Q) a b hl he h0 h1 a.l.length 0 (by omega) (by simp)
  simp [Y2, tV, A1, he]
  simp only [tV] at g
  refine g _ (fun h => ?_) (fun h => ?_)
  ·simp [R9, Am, q7s, h]
  ·simp [R9, Am, q7s, h]
 ·have hne : ¬ a.l = b.l := fun e => he (by rw [e])
  have he' : ¬ (a.l.length : Int) = b.l.length := by omega
  simp [Y2, tV, A1, he, he', R9, Am, q7s, hne]
def chV (v : Int) : Int := if v = 0 then 48 else if v = 1 then 49 else if v = 2 then 88 else 90
def q2P (l : List Int) : List UInt8 := l.map fun v => UInt8.ofNat (chV (E2 v)).toNat
theorem q7u {Q : AX → St → Prop} (l : Sl Int) (hl : l.l.length ≤ 1000000000) (hv : ∀ v ∈ l.l, 0 ≤ v) (R : List Int)
  (h0 : Q (.exit 0) ⟨[(3, .ls 8 0 l.l.length none), (9, .t (tV l)), (10, .t (tI l.l.length)), (11, .t (tI l.l.length)), (12, .t (tB false))], [(8, .sl 5 1 (Ab R))]⟩) : ∀ (k i : Nat), k + i = l.l.length → R = l.l.map (fun v => chV (E2 v)) →
  run Tryz.prog Γ Rb Q ⟨[(3, .ls 8 0 l.l.length none), (9, .t (tV l)), (10, .t (tI l.l.length)), (11, .t (tI i))], [(8, .sl 5 1 (Ab (R.take i ++ List.replicate (l.l.length - i) 0)))]⟩
 | 0, i, h, hR => by
  refine X8 fun K hK => ?_
  have h2 : i = l.l.length := by omega
  have h3 : R.length = l.l.length := by rw [hR]; simp
  subst h2
  rw [← h3, List.take_length, h3, Nat.sub_self, List.replicate_zero, List.append_nil]
  simp
  exact h0
 | k + 1, i, h, hR => by
  refine X8 fun K hK => ?_
  have h2 : i < l.l.length := by omega
  have h3 : R.length = l.l.length := by rw [hR]; simp
  have ih := q7u l hl hv R h0 k (i + 1) (by omega) hR
  have e1 := ge1 (f := tK) h2
  have hv0 := hv (l.l.getD i 0) (by rw [Aw h2]; exact List.getElem_mem h2)
  have hRi : R.getD i 0 = chV (E2 (l.l.getD i 0)) := by rw [hR, Aw h2]; simp [List.getD_eq_getElem?_getD, h2]
  have hset : ∀ v, v = R.getD i 0 → (Ab (R.take i ++ List.replicate (l.l.length - i) 0)).set i [tK v] = Ab (R.take (i + 1) ++ List.replicate (l.l.length - (i + 1)) 0) := by
   rintro v rfl
   show (Af tK _).set i [tK _] = Af tK _
   rw [Ep]
   congr 1
   have e : l.l.length - i = (l.l.length - (i + 1)) + 1 := by omega
   have ht : (R.take i).length = i := by rw [List.length_take]; omega
   have hri : i < R.length := by omega
   have hta : R.take (i + 1) = R.take i ++ [R.getD i 0] := by rw [List.take_add_one, List.getElem?_eq_getElem hri, Aw hri]; rfl
   rw [e, List.replicate_succ, List.set_append, if_neg (by rw [ht]; omega), ht, Nat.sub_self, hta]
   simp
  have hlen : (Ab (R.take i ++ List.replicate (l.l.length - i) 0)).length = l.l.length := by rw [A1]; simp; omega
  generalize Ab (R.take i ++ List.replicate (l.l.length - i) 0) = E at *
  generalize l.l.getD i 0 = v at *
  have hc4 : E2 v = 0 ∨ E2 v = 1 ∨ E2 v = 2 ∨ E2 v = 3 := by unfold E2; split <;> omega
  simp (disch := omega) [h2, tV, A1, A5, e1, A4]
  refine A0 (q2z v) rfl ?_
  have hch : (ByteArray.mk #[48, 49, 88, 90]).size = 4 := rfl
  have hb : ∀ q : Int, E2 v = q → (0 ≤ q ∧ q < 4) := fun q hq => by omega
  generalize E2 v = w at *
  have hval : ((([48, 49, 88, 90] : List UInt8)[w.toNat]?.getD 0).toNat : Int) = chV w := by
   rcases hc4 with rfl | rfl | rfl | rfl <;> rfl
  have hw := hb w rfl
  have hs := hset _ (hval.trans hRi.symm)
  simp (disch := omega) [h2, hlen, hs, A4, sV, hch, hw]
  rw [hK]
  simpa [tV] using ih
theorem q6p : ∀ (l : List Int), (∀ v ∈ l, 0 ≤ v ∧ v < 256) → bytesOf (Ab l) = some (l.map fun v => UInt8.ofNat v.toNat)
 | [], _ => rfl
 | v :: l, h => by
  have ih := q6p l fun u hu => h u (List.mem_cons_of_mem _ hu)
  have hv := h v List.mem_cons_self
  show (bytesOf (Ab l)).map _ = _
  rw [ih]; rfl
theorem q7v (l : Sl Int) (hl : l.l.length ≤ 1000000000) (hv : ∀ v ∈ l.l, 0 ≤ v) : A3 Tryz.prog Γ 57 [tV l] (tS (q2P l.l)) := by
 refine A7 q6n rfl ?_
 have g := fun Q h0 => q7u (Γ := Γ) (Q := Q) l hl hv (l.l.map fun v => chV (E2 v)) h0 l.l.length 0 (by omega) rfl
 have hz : List.replicate l.l.length [T.v (Value.int .u8 0)] = Ab (([] : List Int) ++ List.replicate (l.l.length - 0) 0) := by simp [Af]
 have hlen : (l.l.map fun v => chV (E2 v)).length = l.l.length := by simp
 have hR : bytesOf (Ab (l.l.map fun v => chV (E2 v))) = some (q2P l.l) := by
  rw [q6p]
  ·simp [q2P]
  ·intro v hv'
   obtain ⟨u, _, rfl⟩ := List.mem_map.1 hv'
   unfold chV; split; omega; split; omega; split <;> omega
 have htk : (Ab (l.l.map fun v => chV (E2 v))).take l.l.length = Ab (l.l.map fun v => chV (E2 v)) := by rw [← hlen]; exact B9
 rw [List.take_zero] at g
 generalize Ab (l.l.map fun v => chV (E2 v)) = E at *
 simp (disch := omega) [q2N, tV, A1, A4]
 refine ⟨by omega, ?_⟩
 rw [hz]
 refine g _ ?_
 simp [q2O, Am, htk, hR, tS, sV]
structure PD where
 i : Sl Int
 s : Sl Int
def tPD (q : PD) : List T := [tV q.i, tV q.s]
def q8S (q : PD) : Prop := (∀ v ∈ q.i.l, Wx v) ∧ ∀ v ∈ q.s.l, Wx v
def qIc (q : PD) (c : Ax) : List Int := M7 q.i.l (Be c).length 4
def qId (q : PD) (c : Ax) : List Int := M7 q.s.l (Ap c).length 3
def q6q (q : PD) (c : Ax) : Pat := ⟨⟨qIc q c, none, none⟩, ⟨qId q c, none, none⟩⟩
def Qi (b : UInt8) : Int := if b = 48 then 0 else if b = 49 then 1 else if b = 88 then 2 else 3
def v1 (v : Int) : Sl Int := ⟨[v], none, none⟩
end Go.Lg
namespace Go.Lg
open Go Go.Proofs Go.Proofs.YtjcogpofldkniaaGreatDoor
theorem q8T : Tryz.prog.cellsOf 31 = 2 := by kernel_rfl
theorem q8U : Rd Tryz.prog 25 fun ts => ∃ s : Sl Int, ts = [tV s] ∧ ∀ b ∈ s.l, Wx b := by
 refine (q6G Tryz.underlying25 q0o (by decide) q9P).mono fun ts ⟨es, cap, nl, h, _, hes⟩ => ?_
 obtain ⟨l, rfl, hl⟩ := q5j (f := fun n : Int => [tK n]) (Q := Wx) fun x hx => (hes x hx).1
 exact ⟨⟨l, cap, nl⟩, h, hl⟩
theorem qJU : Rd Tryz.prog 31 fun ts => ∃ q, ts = tPD q ∧ q8S q := by
 refine (Yc (l := [(1, fun ts => ∃ s : Sl Int, ts = [tV s] ∧ ∀ b ∈ s.l, Wx b), (1, fun ts => ∃ s : Sl Int, ts = [tV s] ∧ ∀ b ∈ s.l, Wx b)]) Tryz.underlying31 q8T
  (.cons rfl q1f q8U (.cons rfl q1f q8U (.nil _)))).mono fun ts h => ?_
 obtain ⟨_, _, rfl, ⟨a, rfl, ha⟩, _, _, rfl, ⟨b, rfl, hb⟩, rfl⟩ := h
 exact ⟨⟨a, b⟩, rfl, ha, hb⟩
end Go.Lg
namespace Go.Proofs.YtjcogpofldkniaaGreatDoor
open Go Go.Lg Go.ChangeShapes Go.WideShapes Go.ChangeAt Go.RowKit
theorem qGy : Tryz.prog.bytesOf 5 = 1 := by kernel_rfl
theorem qDt {W : World} {X : Nat → Prop} {es : List (List T)} {cap : Option Nat} {nl : Option Bool} {a : Option Addr} {len c : Nat} (h : TR W X (.sl es cap nl) (.slice a len c)) : es.length = len := by
 cases h with
 | nil => rfl
 | sl => rfl
theorem q6r {H : Type} {enc : TypeId × Value → H} {W : World} {held : Bool} {fuel : Nat} {v : Value} {x : DataW H × List MemPlace} (h : DataW.trod enc Tryz.prog W 0 (fun _ => true) held fuel 25 [v] = some x) (hw : ∀ n ∈ x.1.weights Tryz.prog 25, n ≤ reachBytes)
  {X : Nat → Prop} {s : Sl Int} (htr : TR W X (tV s) v) : s.l.length ≤ reachBytes := by
 have e : (Ab s.l).length = s.l.length := A1
 rcases DataW.trod_slice Tryz.underlying25 h with ⟨hv, _⟩ | ⟨a, len, cap, qFk, rest, n, _, hv, rfl, _, _, _, hel, _⟩
 ·simp at hv
  subst hv
  have := qDt htr
  omega
 ·simp at hv
  subst hv
  have h1 := qDt htr
  simp only [DataW.weights, Tryz.underlying25, qGy, List.length_map] at hw
  have := hw _ List.mem_cons_self
  omega
theorem qAo {H : Type} {a b : DataW H} (hw : ∀ n ∈ (DataW.agg [a, b]).weights Tryz.prog 31, n ≤ reachBytes) : (∀ n ∈ a.weights Tryz.prog 25, n ≤ reachBytes) ∧ ∀ n ∈ b.weights Tryz.prog 25, n ≤ reachBytes := by
 simp only [DataW.weights, Tryz.underlying31] at hw
 exact ⟨fun n hn => hw n (List.mem_append_left _ hn), fun n hn => hw n (List.mem_append_right _ (List.mem_append_left _ hn))⟩
theorem qAp {H : Type} {P : Program} : ∀ {ts : List TypeId} {ds : List (DataW H)} (h : (DataW.weightsEach P ts ds).all (· ≤ reachBytes) = true) (j : Nat) (t : TypeId) (d : DataW H), ts[j]? = some t → ds[j]? = some d → ∀ n ∈ d.weights P t, n ≤ reachBytes
 | [], ds, h, j, t, d, ht, hd => by simp at ht
 | _ :: _, [], h, j, t, d, ht, hd => by simp at hd
 | t0 :: ts, d0 :: ds, h, j, t, d, ht, hd => by
  simp only [DataW.weightsEach, List.all_append, Bool.and_eq_true] at h
  cases j with
  | zero =>
   simp at ht hd
   subst ht; subst hd
   intro n hn
   have := List.all_eq_true.1 h.1 n hn
   simpa using this
  | succ j => exact qAp h.2 j t d (by simpa using ht) (by simpa using hd)
end Go.Proofs.YtjcogpofldkniaaGreatDoor
namespace Go.Lg
open Go
section
variable {P : Program} {Γ : Tables} {Q : AX → St → Prop} {s : St}
/- probecard/memories.matches (function 102) -/
abbrev Tu : IC := .gh (.seq (.reg [od 10 (.bin .lss (tm 9) (tm 8))] [kp [0, 7, 8, 9, 10] []]) (.seq (.cond (tm 10) .skip (.exit 0)) (.seq (.block 1 (.seq (.reg [od 11 (ia 1 7 9), od 12 (ld 1 11), om 6 12] [kp [0, 6, 7, 8, 9] []]) (.seq (.seq (.reg
 [om 13 6, od 14 (.call 16 [(tm 13)]), om 15 14, oT 16 (.mv (tm 6)) 15, oT 17 (.conv .i64 (tm 16)) 15, oT 18 (.mv (tm 0)) 15, oT 19 (.bin .and (tm 18) (ki 1)) 15, oT 20 (.bin .neq (tm 17) (tm 19)) 15, od 21 (.pick (tm 15) (tm 20)
 kF)] [kp [0, 7, 8, 9, 21] []]) (.cond (tm 21) (.seq (.reg [od 4 (.mv kF)] [kp [4] []]) .ret) .skip)) (.reg [om 22 0, od 23 (.bin .shr (tm 22) (.const (.int .u64 1))), om 0 23] [kp [0, 7, 8, 9] []])))) (.reg [od 24 (.bin .add (tm 9)
 (ki 1)), om 9 24] [kp [0, 7, 8, 9] []])))) [kp [0, 7, 8, 9] []]
def H3 : IC := .loop Tu
abbrev Tv : IC := (.seq (.reg [od 4 (.mv kF)] [kp [0, 1] []]) (.seq (.seq (.reg [om 7 1, od 8 (le 0 7), od 9 (.mv (ki 0))] [kp [0, 7, 8, 9] []]) (.block 0 H3)) (.seq (.reg [om 25 0, od 26 (.bin .eql (tm 25) (ki 0)), om 4 26] [kp [4]
 []]) .ret)))
theorem Nu (h : ∀ K : St → Prop, K = run P Γ H3 Q → run P Γ Tu (Aq K Q) s) : run P Γ H3 Q s := Ac h
def L2 : List RV := [.tmp 4]
/- probecard/memories.bit (function 103) -/
abbrev T8 : IC := (.seq (.reg [od 4 (.mv (ku 0))] [kp [0, 1] []]) (.seq (.seq (.reg [om 5 1, om 6 0, od 7 (le 0 6), od 8 (.bin .geq (tm 5) (tm 7))] [kp [0, 1, 8] []]) (.cond (tm 8) (.seq (.reg [od 4 (.mv (ku 2))] [kp [4] []]) .ret) .skip)) (.seq
 (.reg [om 9 0, om 10 1, od 11 (ia 1 9 10), od 12 (ld 1 11), od 13 (.call 94 [(tm 12)]), om 4 13] [kp [4] []]) .ret)))
def T9 : List RV := [.tmp 4]
/- probecard/memories.common (function 104) -/
abbrev M9 : IC := (.seq (.reg [od 4 (.mv (ku 0))] [kp [0, 1] []]) (.seq (.seq (.reg [om 5 0, om 6 1, od 7 (.bin .neq (tm 5) (tm 6))] [kp [0, 7] []]) (.cond (tm 7) (.seq (.reg [od 4 (.mv (ku 2))] [kp [4] []]) .ret) .skip)) (.seq (.reg [om 8 0, om 4
 8] [kp [4] []]) .ret)))
def Mc : List RV := [.tmp 4]
/- probecard/memories.Look (function 45) -/
abbrev Yz : IC := .gh (.seq (.reg [od 32 (.bin .lss (tm 31) (tm 30))] [kp [1, 5, 6, 8, 18, 19, 20, 30, 31, 32] [22030]]) (.seq (.cond (tm 32) .skip (.exit 2)) (.seq (.block 3 (.seq (.reg [om 33 31, om 9 33] [kp [1, 5, 6, 8, 9, 18, 19, 20, 30, 31]
 [22030]]) (.seq (.reg [om 34 6] [kp [1, 5, 6, 8, 9, 18, 19, 20, 30, 31, 34] [22030]]) (.cond (tm 34) (.reg [om 35 5, om 36 9, om 37 8, om 38 9, od 39 (.call 103 [(tm 37), (tm 38)]), od 40 (ia 1 35 36), on (.store 1 (tm 40) (tm
 39))] [kp [1, 5, 6, 8, 18, 19, 20, 30, 31] [22030]]) (.reg [om 41 5, om 42 9, om 43 5, om 44 9, od 45 (ia 1 43 44), od 46 (.ldR 22030 1 false (tm 45)), om 47 8, om 48 9, od 49 (.call 103 [(tm 47), (tm 48)]), od 50 (.call 104 [(tm
 46), (tm 49)]), od 51 (ia 1 41 42), on (.stR 22030 1 (tm 51) (tm 50))] [kp [1, 5, 6, 8, 18, 19, 20, 30, 31] [22030]]))))) (.reg [od 52 (.bin .add (tm 31) (ki 1)), om 31 52] [kp [1, 5, 6, 8, 18, 19, 20, 30, 31] [22030]])))) [kp [1,
 5, 6, 8, 18, 19, 20, 30, 31] [22030]]
def K7 : IC := .loop Yz
abbrev Z0 : IC := .gh (.seq (.reg [od 21 (.bin .lss (tm 20) (tm 19))] [kp [1, 5, 6, 18, 19, 20, 21] [22030]]) (.seq (.cond (tm 21) .skip (.exit 0)) (.seq (.block 1 (.seq (.reg [om 22 20, od 23 (ia 1 18 20), od 24 (ld 1 23), om 7 22, om 8 24] [kp [1,
 5, 6, 7, 8, 18, 19, 20] [22030]]) (.seq (.seq (.reg [om 25 7, om 26 1, od 27 (.call 102 [(tm 25), (tm 26)]), od 28 (.un .not (tm 27))] [kp [1, 5, 6, 8, 18, 19, 20, 28] [22030]]) (.cond (tm 28) (.exit 1) .skip)) (.seq (.seq (.reg
 [om 29 5, od 30 (le 0 29), od 31 (.mv (ki 0))] [kp [1, 5, 6, 8, 18, 19, 20, 30, 31] [22030]]) (.block 2 K7)) (.reg [od 6 (.mv kF)] [kp [1, 5, 6, 18, 19, 20] [22030]]))))) (.reg [od 53 (.bin .add (tm 20) (ki 1)), om 20
 53] [kp [1, 5, 6, 18, 19, 20] [22030]])))) [kp [1, 5, 6, 18, 19, 20] [22030]]
def K8 : IC := .loop Z0
abbrev Qj : IC := (.seq (.reg [od 4 (.mv kN)] [kp [0, 1] []]) (.seq (.seq (.reg [om 10 0, od 11 (le 0 10), od 12 (.bin .eql (tm 11) (ki 0))] [kp [0, 1, 12] []]) (.cond (tm 12) (.seq (.reg [od 4 (.mv kN)] [kp [4] [22030]]) .ret) .skip)) (.seq (.reg
 [om 13 0, od 14 (.iadr 1 (tm 13) (ki 0)), od 15 (ld 1 14), od 16 (le 0 15), od 17 (.ncall 75 [(tm 16)] 17000), om 5 17] [kp [0, 1, 5] [22030]]) (.seq (.reg [od 6 (.mv kT)] [kp [0, 1, 5, 6] [22030]]) (.seq (.seq (.reg [om 18 0, od
 19 (le 0 18), od 20 (.mv (ki 0))] [kp [1, 5, 6, 18, 19, 20] [22030]]) (.block 0 K8)) (.seq (.reg [om 54 5, om 4 54] [kp [4] [22030]]) .ret))))))
theorem S4 (h : ∀ K : St → Prop, K = run P Γ K7 Q → run P Γ Yz (Aq K Q) s) : run P Γ K7 Q s := Ac h
theorem S5 (h : ∀ K : St → Prop, K = run P Γ K8 Q → run P Γ Z0 (Aq K Q) s) : run P Γ K8 Q s := Ac h
def Qk : List RV := [.tmp 4]
/- probecard/memories.Store (function 46) -/
abbrev X9 : IC := .gh (.seq (.reg [od 51 (.bin .lss (tm 50) (tm 49))] [kp [1, 2, 3, 9, 10, 11, 12, 26, 27, 28, 49, 50, 51] [25, 37]]) (.seq (.cond (tm 51) .skip (.exit 2)) (.seq (.block 3 (.seq (.reg [om 52 50, om 13 52] [kp [1, 2, 3, 9, 10, 11, 12,
 13, 26, 27, 28, 49, 50] [25, 37]]) (.seq (.reg [om 53 12, om 54 13, od 55 (.call 103 [(tm 53), (tm 54)]), om 56 2, om 57 13, od 58 (.call 103 [(tm 56), (tm 57)]), om 14 55, om 15 58] [kp [1, 2, 3, 9, 10, 11, 12, 13, 14, 15, 26, 27,
 28, 49, 50] [25, 37]]) (.block 4 (.seq (.reg [om 69 3, od 70 (.bin .eql (tm 69) (ku 0)), om 71 70, oF 72 (.mv (tm 11)) 71, oF 73 (.mv (tm 1)) 71, oF 74 (.call 102 [(tm 72), (tm 73)]) 71, oF 75 (.un .not (tm 74)) 71, od 76 (.pick
 (tm 71) kT (tm 75)), om 68 76] [kp [1, 2, 3, 9, 10, 11, 12, 13, 14, 15, 26, 27, 28, 49, 50, 68] [25, 37]]) (.cond (tm 68) (.reg [om 77 10, om 78 11, od 79 (ia 1 77 78), od 80 (ld 1 79), om 81 13, om 82 14, od 83 (ia 1 80 81), on
 (.store 1 (tm 83) (tm 82))] [kp [1, 2, 3, 9, 10, 11, 12, 26, 27, 28, 49, 50] [25, 37]]) (.seq (.reg [om 85 9, om 84 85] [kp [1, 2, 3, 9, 10, 11, 12, 13, 14, 15, 26, 27, 28, 49, 50, 84] [25, 37]]) (.cond (tm 84) (.reg [om 86 10, om
 87 11, od 88 (ia 1 86 87), od 89 (ld 1 88), om 90 13, om 91 15, od 92 (ia 1 89 90), on (.store 1 (tm 92) (tm 91))] [kp [1, 2, 3, 9, 10, 11, 12, 26, 27, 28, 49, 50] [25, 37]]) (.reg [om 59 10, om 60 11, od 61 (ia 1 59 60), od 62
 (.ldR 25 1 false (tm 61)), om 63 13, om 64 14, om 65 15, od 66 (.call 104 [(tm 64), (tm 65)]), od 67 (ia 1 62 63), on (.stR 37 1 (tm 67) (tm 66))] [kp [1, 2, 3, 9, 10, 11, 12, 26, 27, 28, 49, 50] [25, 37]]))))))))) (.reg [od 93
 (.bin .add (tm 50) (ki 1)), om 50 93] [kp [1, 2, 3, 9, 10, 11, 12, 26, 27, 28, 49, 50] [25, 37]])))) [kp [1, 2, 3, 9, 10, 11, 12, 26, 27, 28, 49, 50] [25, 37]]
def J6 : IC := .loop X9
abbrev Xa : IC := .gh (.seq (.reg [od 29 (.bin .lss (tm 28) (tm 27))] [kp [1, 2, 3, 9, 10, 26, 27, 28, 29] [25, 37]]) (.seq (.cond (tm 29) .skip (.exit 0)) (.seq (.block 1 (.seq (.reg [om 30 28, od 31 (ia 1 26 28), od 32 (ld 1 31), om 11 30, om 12
 32] [kp [1, 2, 3, 9, 10, 11, 12, 26, 27, 28] [25, 37]]) (.seq (.reg [om 33 10, om 34 11, om 35 12, od 36 (le 0 35), od 37 (.mk 61 1 [(.int .u8 0)] (tm 36) (tm 36)), od 38 (ia 1 33 34), on (.store 1 (tm 38) (tm 37))] [kp [1, 2, 3,
 9, 10, 11, 12, 26, 27, 28] [25, 37]]) (.seq (.reg [om 39 10, om 40 11, od 41 (ia 1 39 40), od 42 (ld 1 41), om 43 12, od 44 (.cpy 1 (tm 42) (tm 43))] [kp [1, 2, 3, 9, 10, 11, 12, 26, 27, 28] [25, 37]]) (.seq (.reg [om 45 10, om 46
 11, od 47 (ia 1 45 46), od 48 (ld 1 47), od 49 (le 0 48), od 50 (.mv (ki 0))] [kp [1, 2, 3, 9, 10, 11, 12, 26, 27, 28, 49, 50] [25, 37]]) (.block 2 J6)))))) (.reg [od 94 (.bin .add (tm 28) (ki 1)), om 28 94] [.frz
 37, kp [1, 2, 3, 9, 10, 26, 27, 28] [25, 37]])))) [kp [1, 2, 3, 9, 10, 26, 27, 28] [25, 37]]
def J7 : IC := .loop Xa
abbrev Ot : IC := (.seq (.reg [od 8 (.mv kN)] [kp [0, 1, 2, 3] []]) (.seq (.reg [om 16 3, od 17 (.bin .eql (tm 16) (ku 1)), om 18 17, oT 19 (.mv (tm 1)) 18, oT 20 (.call 80 [(tm 19), (.func 105)]) 18, oT 21 (.un .not (tm 20)) 18, od 22 (.pick (tm
 18) (tm 21) kF), om 9 22] [kp [0, 1, 2, 3, 9] []]) (.seq (.reg [om 23 0, od 24 (le 0 23), od 25 (.mkB 41 [(.slice none 0 0)] (tm 24) (tm 24)), om 10 25] [kp [0, 1, 2, 3, 9, 10] [25, 37]]) (.seq (.seq (.reg [om 26 0, od 27 (le 0
 26), od 28 (.mv (ki 0))] [kp [1, 2, 3, 9, 10, 26, 27, 28] [25, 37]]) (.block 0 J7)) (.seq (.reg [om 95 10, om 8 95] [kp [8] [25, 37]]) .ret)))))
theorem Po (h : ∀ K : St → Prop, K = run P Γ J6 Q → run P Γ X9 (Aq K Q) s) : run P Γ J6 Q s := Ac h
theorem Pq (h : ∀ K : St → Prop, K = run P Γ J7 Q → run P Γ Xa (Aq K Q) s) : run P Γ J7 Q s := Ac h
def Ou : List RV := [.tmp 8]
/- probecard/memories.Store$1 (function 105) -/
abbrev Tz : IC := (.seq (.reg [od 2 (.mv kF)] [kp [0] []]) (.seq (.reg [om 3 0, od 4 (.call 16 [(tm 3)]), od 5 (.un .not (tm 4)), om 2 5] [kp [2] []]) .ret))
def U0 : List RV := [.tmp 2]
/- probecard/memories.unknown (function 75) -/
abbrev Jl : IC := .gh (.seq (.reg [od 14 (.bin .lss (tm 13) (tm 12))] [kp [2, 5, 11, 12, 13, 14] [10]]) (.seq (.cond (tm 14) .skip (.exit 0)) (.seq (.block 1 (.seq (.reg [od 15 (ia 1 11 13), od 16 (ld 1 15), om 7 16] [kp [2, 5, 7, 11, 12, 13] [10]])
 (.reg [om 17 5, od 18 (fa 4 2), od 19 (ld 1 18), om 20 7, od 21 (ia 1 19 20), od 22 (ld 1 21), od 23 (.bsl true 61 1 [(tm 22)]), oz 24 (.app false 61 1 (tm 17) (tm 23)) 10, om 5 24] [kp [2, 5, 11, 12, 13] [10]]))) (.reg [od 25
 (.bin .add (tm 13) (ki 1)), om 13 25] [kp [2, 5, 11, 12, 13] [10]])))) [kp [2, 5, 11, 12, 13] [10]]
def Dp : IC := .loop Jl
abbrev Jm : IC := (.seq (.reg [od 2 (.box true (tm 0)), od 4 (.mv kN)] [kp [1, 2] []]) (.seq (.reg [om 8 1, od 9 (le 0 8), od 10 (.mk 61 1 [(.int .u8 0)] (ki 0) (tm 9)), om 5 10] [kp [1, 2, 5] [10]]) (.seq (.seq (.reg [om 11 1, od 12 (le 0 11), od
 13 (.mv (ki 0))] [kp [2, 5, 11, 12, 13] [10]]) (.block 0 Dp)) (.seq (.reg [om 26 5, om 4 26] [kp [4] [10]]) .ret))))
theorem Hi (h : ∀ K : St → Prop, K = run P Γ Dp Q → run P Γ Jl (Aq K Q) s) : run P Γ Dp Q s := Ac h
def Jn : List RV := [.tmp 4]
/- (probecard/memories.machine).load (function 37) -/
abbrev Lj : IC := .gh (.seq (.reg [od 17 (.bin .lss (tm 16) (tm 15))] [kp [2, 3, 4, 14, 15, 16, 17] [3, 1000000]]) (.seq (.cond (tm 17) .skip (.exit 0)) (.seq (.block 1 (.seq (.reg [om 18 16, od 19 (ia 1 14 16), od 20 (ld 1 19), om 6 18, om 7 20]
 [kp [2, 3, 4, 6, 7, 14, 15, 16] [3, 1000000]]) (.reg [od 21 (fa 4 3), od 22 (.ldR 3 1 false (tm 21)), om 23 7, om 24 2, om 25 6, od 26 (ia 1 24 25), od 27 (.ldT 1 false (tm 26)), od 28 (ia 1 22 23), on (.stR 1000000 1 (tm 28) (tm
 27))] [kp [2, 3, 4, 14, 15, 16] [3, 1000000]]))) (.reg [od 29 (.bin .add (tm 16) (ki 1)), om 16 29] [kp [2, 3, 4, 14, 15, 16] [3, 1000000]])))) [kp [2, 3, 4, 14, 15, 16] [3, 1000000]]
def E7 : IC := .loop Lj
abbrev Ll : IC := .gh (.seq (.reg [od 35 (.bin .lss (tm 34) (tm 33))] [kp [3, 4, 32, 33, 34, 35] [3, 1000000]]) (.seq (.cond (tm 35) .skip (.exit 2)) (.seq (.block 3 (.seq (.reg [om 36 34, od 37 (ia 1 32 34), od 38 (ld 1 37), om 8 36, om 9 38] [kp
 [3, 4, 8, 9, 32, 33, 34] [3, 1000000]]) (.reg [od 39 (fa 4 3), od 40 (.ldR 3 1 false (tm 39)), om 41 9, od 42 (fa 0 4), od 43 (.ldT 1 false (tm 42)), om 44 8, od 45 (ia 1 43 44), od 46 (.ldT 1 false (tm 45)), od 47 (ia 1 40 41), on
 (.stR 1000000 1 (tm 47) (tm 46))] [kp [3, 4, 32, 33, 34] [3, 1000000]]))) (.reg [od 48 (.bin .add (tm 34) (ki 1)), om 34 48] [kp [3, 4, 32, 33, 34] [3, 1000000]])))) [kp [3, 4, 32, 33, 34] [3, 1000000]]
def E8 : IC := .loop Ll
abbrev Lm : IC := .gh (.seq (.reg [od 55 (.bin .lss (tm 54) (tm 53))] [kp [3, 4, 52, 53, 54, 55] [3, 1000000]]) (.seq (.cond (tm 55) .skip (.exit 4)) (.seq (.block 5 (.seq (.reg [od 56 (ia 1 52 54), od 57 (ld 1 56), om 11 57] [kp [3, 4, 11, 52, 53,
 54] [3, 1000000]]) (.reg [od 58 (fa 4 3), od 59 (.ldR 3 1 false (tm 58)), om 60 11, od 61 (fa 2 4), od 62 (.ldT 1 false (tm 61)), od 63 (fa 0 3), od 64 (fa 0 63), od 65 (.ldR 3 1 false (tm 64)), om 66 11, od 67 (ia 4 65 66), od 68
 (fa 2 67), od 69 (.ldT 1 false (tm 68)), od 70 (ia 1 62 69), od 71 (.ldT 1 false (tm 70)), od 72 (fa 0 3), od 73 (fa 0 72), od 74 (.ldR 3 1 false (tm 73)), om 75 11, od 76 (ia 4 74 75), od 77 (fa 3 76), od 78 (.ldT 1 false (tm
 77)), od 79 (ia 1 71 78), od 80 (.ldT 1 false (tm 79)), od 81 (ia 1 59 60), on (.stR 1000000 1 (tm 81) (tm 80))] [kp [3, 4, 52, 53, 54] [3, 1000000]]))) (.reg [od 82 (.bin .add (tm 54) (ki 1)), om 54 82] [kp [3, 4, 52, 53, 54] [3,
 1000000]])))) [kp [3, 4, 52, 53, 54] [3, 1000000]]
def E9 : IC := .loop Lm
abbrev Ln : IC := (.seq (.reg [od 3 (.box false (tm 0)), od 4 (.box true (tm 1))] [kp [2, 3, 4] [3, 1000000]]) (.seq (.seq (.reg [od 12 (fa 0 3), od 13 (lG 4 12), od 14 (.call 77 [(tm 13)]), od 15 (le 0 14), od 16 (.mv (ki 0))] [kp [2, 3, 4, 14, 15,
 16] [3, 1000000]]) (.block 0 E7)) (.seq (.seq (.reg [od 30 (fa 0 3), od 31 (lG 4 30), od 32 (.call 19 [(tm 31)]), od 33 (le 0 32), od 34 (.mv (ki 0))] [kp [3, 4, 32, 33, 34] [3, 1000000]]) (.block 2
 E8)) (.seq (.reg [od 49 (fa 0 3), od 50 (lG 4 49), od 51 (.bsl true 71 1 [(ku 15)]), od 52 (.call 66 [(tm 50), (tm 51)]), od 53 (le 0 52), od 54 (.mv (ki 0))] [kp [3, 4, 52, 53, 54] [3, 1000000]]) (.gh (.block
 4 E9) [.keep [] [1000000]])))))
theorem Ih (h : ∀ K : St → Prop, K = run P Γ E7 Q → run P Γ Lj (Aq K Q) s) : run P Γ E7 Q s := Ac h
theorem Ii (h : ∀ K : St → Prop, K = run P Γ E8 Q → run P Γ Ll (Aq K Q) s) : run P Γ E8 Q s := Ac h
theorem Ij (h : ∀ K : St → Prop, K = run P Γ E9 Q → run P Γ Lm (Aq K Q) s) : run P Γ E9 Q s := Ac h
def Lo : List RV := []
/- probecard/memories.lists (function 89) -/
abbrev Xb : IC := .gh (.seq (.reg [od 16 (.bin .lss (tm 15) (tm 14))] [kp [3, 13, 14, 15, 16] [11]]) (.seq (.cond (tm 16) .skip (.exit 0)) (.seq (.block 1 (.seq (.reg [od 17 (ia 1 13 15), od 18 (ld 1 17), om 5 18] [kp [3, 5, 13, 14, 15] [11]]) (.reg
 [om 19 3, om 20 5, oz 21 (.app false 41 1 (tm 19) (tm 20)) 11, om 3 21] [kp [3, 13, 14, 15] [11]]))) (.reg [od 22 (.bin .add (tm 15) (ki 1)), om 15 22] [kp [3, 13, 14, 15] [11]])))) [kp [3, 13, 14, 15] [11]]
def J8 : IC := .loop Xb
abbrev Xc : IC := (.seq (.reg [od 1 (.box true (tm 0)), od 2 (.mv kN)] [kp [1] []]) (.seq (.reg [od 6 (fa 0 1), od 7 (ld 1 6), od 8 (.bsl true 41 1 [(tm 7)]), od 9 (fa 2 1), od 10 (ld 1 9), od 11 (.app false 41 1 (tm 8) (tm 10)), om 3 11] [kp [1, 3]
 [11]]) (.seq (.seq (.reg [od 12 (fa 1 1), od 13 (ld 1 12), od 14 (le 0 13), od 15 (.mv (ki 0))] [kp [3, 13, 14, 15] [11]]) (.block 0 J8)) (.seq (.reg [om 23 3, om 2 23] [kp [2] [11]]) .ret))))
theorem Pv (h : ∀ K : St → Prop, K = run P Γ J8 Q → run P Γ Xb (Aq K Q) s) : run P Γ J8 Q s := Ac h
def Xd : List RV := [.tmp 2]
/- probecard/memories.lists (function 89) -/
abbrev Vu : IC := .gh (.seq (.reg [od 16 (.bin .lss (tm 15) (tm 14))] [kp [3, 13, 14, 15, 16] [21]]) (.seq (.cond (tm 16) .skip (.exit 0)) (.seq (.block 1 (.seq (.reg [od 17 (ia 1 13 15), od 18 (ld 1 17), om 5 18] [kp [3, 5, 13, 14, 15] [21]]) (.reg
 [om 19 3, om 20 5, od 21 (.app false 41 1 (tm 19) (tm 20)), om 3 21] [kp [3, 13, 14, 15] [21]]))) (.reg [od 22 (.bin .add (tm 15) (ki 1)), om 15 22] [kp [3, 13, 14, 15] [21]])))) [kp [3, 13, 14, 15] [21]]
def Md : IC := .loop Vu
abbrev Vv : IC := (.seq (.reg [od 1 (.box true (tm 0)), od 2 (.mv kN)] [kp [1] []]) (.seq (.reg [od 6 (fa 0 1), od 7 (ld 1 6), od 8 (.bsl true 41 1 [(tm 7)]), od 9 (fa 2 1), od 10 (ld 1 9), od 11 (.appT 41 1 (tm 8) (tm 10)), om 3 11] [kp [1, 3]
 [21]]) (.seq (.seq (.reg [od 12 (fa 1 1), od 13 (ld 1 12), od 14 (le 0 13), od 15 (.mv (ki 0))] [kp [3, 13, 14, 15] [21]]) (.block 0 Md)) (.seq (.reg [om 23 3, om 2 23] [kp [2] [21]]) .ret))))
theorem Zv (h : ∀ K : St → Prop, K = run P Γ Md Q → run P Γ Vu (Aq K Q) s) : run P Γ Md Q s := Ac h
def Vw : List RV := [.tmp 2]
/- probecard/memories.unknown (function 75) -/
abbrev S7 : IC := (.seq (.reg [od 2 (.mv kN)] [kp [0] []]) (.seq (.reg [od 3 (.bsl true 61 1 [(ku 2)]), om 4 0, od 5 (.ncall 117 [(tm 3), (tm 4)] 5000), om 2 5] [kp [2] [5030]]) .ret))
def S8 : List RV := [.tmp 2]
/- probecard/memories.fits (function 88) -/
abbrev Z1 : IC := .gh (.seq (.reg [od 37 (.bin .lss (tm 36) (tm 35))] [kp [3, 34, 35, 36, 37] []]) (.seq (.cond (tm 37) .skip (.exit 0)) (.seq (.block 1 (.seq (.reg [om 38 36, od 39 (ia 3 34 36), od 40 (lG 3 39), od 6 (.alloc false [(.slice none 0
 0), (.slice none 0 0), (.int .i64 0)]), om 5 38, on (.store 3 (tm 6) (tm 40))] [kp [3, 5, 6, 34, 35, 36] [6]]) (.seq (.reg [od 41 (.mkf 125 [(tm 6)]), om 7 41] [kp [3, 5, 6, 7, 34, 35, 36] [6]]) (.seq (.reg [od 42 (fa 1 3), od 43
 (ld 1 42), om 44 5, od 45 (ia 1 43 44), od 46 (ld 1 45), od 47 (le 0 46), od 48 (fa 0 6), od 49 (ld 1 48), od 50 (le 0 49), od 51 (.bin .shl (ki 1) (tm 50)), od 52 (.bin .neq (tm 47) (tm 51)), om 53 52, oF 54 (.mv (tm 7)) 53, oF 55
 (fa 2 3) 53, oF 56 (ld 1 55) 53, oF 57 (.mv (tm 5)) 53, oF 58 (ia 1 56 57) 53, oF 59 (ld 1 58) 53, oF 60 (.callv (tm 54) [(tm 59)]) 53, od 61 (.pick (tm 53) kT (tm 60)), om 62 61, oF 63 (fa 1 3) 62, oF 64 (ld 1 63) 62, oF 65 (.mv
 (tm 5)) 62, oF 66 (ia 1 64 65) 62, oF 67 (ld 1 66) 62, oF 68 (.mv (tm 7)) 62, oF 69 (.call 82 [(tm 67), (tm 68)]) 62, od 70 (.pick (tm 62) kT (tm 69))] [kp [3, 34, 35, 36, 70] []]) (.cond (tm 70) (.seq (.reg [od 4 (.mv kF)] [kp [4]
 []]) .ret) .skip))))) (.reg [od 71 (.bin .add (tm 36) (ki 1)), om 36 71] [kp [3, 34, 35, 36] []])))) [kp [3, 34, 35, 36] []]
def K9 : IC := .loop Z1
abbrev Z2 : IC := (.seq (.reg [od 2 (.box true (tm 0)), od 3 (.box true (tm 1)), od 4 (.mv kF)] [kp [2, 3] []]) (.seq (.seq (.reg [od 8 (fa 0 3), od 9 (ld 1 8), od 10 (le 0 9), od 11 (lG 4 2), od 12 (.call 19 [(tm 11)]), od 13 (le 0 12), od 14 (.bin
 .neq (tm 10) (tm 13)), om 15 14, oF 16 (fa 1 3) 15, oF 17 (ld 1 16) 15, oF 18 (le 0 17) 15, oF 19 (fa 2 2) 15, oF 20 (ld 1 19) 15, oF 21 (le 0 20) 15, oF 22 (.bin .neq (tm 18) (tm 21)) 15, od 23 (.pick (tm 15) kT (tm 22)), om 24
 23, oF 25 (fa 2 3) 24, oF 26 (ld 1 25) 24, oF 27 (le 0 26) 24, oF 28 (fa 2 2) 24, oF 29 (ld 1 28) 24, oF 30 (le 0 29) 24, oF 31 (.bin .neq (tm 27) (tm 30)) 24, od 32 (.pick (tm 24) kT (tm 31))] [kp [2, 3, 32] []]) (.cond (tm 32)
 (.seq (.reg [od 4 (.mv kF)] [kp [4] []]) .ret) .skip)) (.seq (.seq (.reg [od 33 (fa 2 2), od 34 (ld 1 33), od 35 (le 0 34), od 36 (.mv (ki 0))] [kp [3, 34, 35, 36] []]) (.block 0 K9)) (.seq (.reg [od 4 (.mv kT)] [kp
 [4] []]) .ret))))
theorem S9 (h : ∀ K : St → Prop, K = run P Γ K9 Q → run P Γ Z1 (Aq K Q) s) : run P Γ K9 Q s := Ac h
def Z3 : List RV := [.tmp 4]
/- probecard/memories.fits$1 (function 125) -/
abbrev Vx : IC := (.seq (.reg [od 3 (.mv kF)] [kp [0, 1] []]) (.seq (.reg [om 4 0, od 5 (le 0 4), od 6 (fa 1 1), od 7 (ld 1 6), od 8 (le 0 7), od 9 (.bin .neq (tm 5) (tm 8)), om 3 9] [kp [3] []]) .ret))
def Vy : List RV := [.tmp 3]
/- probecard/memories.Check (function 36) -/
abbrev Xe : IC := (.seq (.reg [od 3 (.box true (tm 0)), od 4 (.box true (tm 1)), od 6 (.mv (ki 0))] [kp [2, 3, 4] []]) (.seq (.seq (.reg [od 10 (lG 4 3), od 11 (.call 20 [(tm 10)]), om 7 11] [kp [2, 3, 4, 7] []]) (.seq (.reg [om 12 7, od 13 (.bin
 .neq (tm 12) (ki 0))] [kp [2, 3, 4, 7, 13] []]) (.cond (tm 13) (.seq (.reg [om 14 7, om 6 14] [kp [6] []]) .ret) .skip))) (.seq (.reg [od 8 (.alloc false [.nilFunc]), on (.store 1 (tm 8) (.func 85))] [kp [2, 3, 4, 8] [8]]) (.seq
 (.reg [od 15 (.mkf 87 [(tm 8)]), om 9 15] [kp [2, 3, 4, 8, 9] [8]]) (.seq (.block 0 (.seq (.reg [om 17 2, od 18 (le 0 17), od 19 (lG 4 3), od 20 (.call 77 [(tm 19)]), od 21 (le 0 20), od 22 (.bin .neq (tm 18) (tm 21)), om 23 22, oF
 24 (lG 4 3) 23, oF 25 (lG 3 4) 23, oF 26 (.call 88 [(tm 24), (tm 25)]) 23, oF 27 (.un .not (tm 26)) 23, od 28 (.pick (tm 23) kT (tm 27)), om 16 28] [kp [2, 4, 8, 9, 16] [8]]) (.cond (tm 16) (.seq (.reg [od 6 (.mv (ki 8))] [kp [6]
 []]) .ret) (.seq (.reg [om 30 2, od 31 (ld 1 8), od 32 (.callv (tm 31) [(ku 3)]), od 33 (.call 80 [(tm 30), (tm 32)]), om 34 33, oF 35 (lG 3 4) 34, oF 36 (.call 89 [(tm 35)]) 34, oF 37 (.mv (tm 9)) 34, oF 38 (.call 82 [(tm 36), (tm
 37)]) 34, od 39 (.pick (tm 34) kT (tm 38)), om 29 39] [kp [29] []]) (.cond (tm 29) (.seq (.reg [od 6 (.mv (ki 1))] [kp [6] []]) .ret) .skip))))) (.seq (.reg [od 6 (.mv (ki 0))] [kp [6] []]) .ret))))))
def Xf : List RV := [.tmp 6]
/- probecard/memories.Check$1 (function 85) -/
abbrev U1 : IC := (.seq (.reg [od 1 (.box true (tm 0)), od 2 (.mv (.const .nilFunc))] [kp [1] []]) (.seq (.reg [od 3 (.mkf 86 [(tm 1)]), om 2 3] [kp [2] []]) .ret))
def U2 : List RV := [.tmp 2]
/- probecard/memories.Check$1$1 (function 86) -/
abbrev Px : IC := (.seq (.reg [od 3 (.mv kF)] [kp [0, 1] []]) (.seq (.reg [om 4 0, od 5 (ld 1 1), od 6 (.bin .gtr (tm 4) (tm 5)), om 3 6] [kp [3] []]) .ret))
def Py : List RV := [.tmp 3]
/- probecard/memories.Check$2 (function 87) -/
abbrev U3 : IC := (.seq (.reg [od 3 (.mv kF)] [kp [0, 1] []]) (.seq (.reg [om 4 0, od 5 (ld 1 1), od 6 (.callv (tm 5) [(ku 2)]), od 7 (.call 80 [(tm 4), (tm 6)]), om 3 7] [kp [3] []]) .ret))
def U4 : List RV := [.tmp 3]
/- probecard/memories.Cycle (function 11) -/
abbrev Xg : IC := .gh (.seq (.reg [od 49 (.bin .lss (tm 48) (tm 47))] [kp [3, 4, 6, 7, 11, 46, 47, 48, 49] [6, 7, 11, 35, 105, 127]]) (.seq (.cond (tm 49) .skip (.exit 0)) (.seq (.block 1 (.seq (.reg [od 50 (ia 1 46 48), od 51 (ld 1 50), om 15 51]
 [kp [3, 4, 6, 7, 11, 15, 46, 47, 48] [6, 7, 11, 35, 105, 127]]) (.seq (.reg [od 52 (fa 0 11), od 53 (fa 0 52), od 54 (ld 1 53), om 55 15, od 56 (ia 4 54 55), od 57 (lG 4 56), od 16 (.alloc false [(.int .u8 0), (.slice none 0 0),
 (.int .i64 0), (.int .i64 0)]), on (.store 4 (tm 16) (tm 57))] [kp [3, 4, 6, 7, 11, 15, 16, 46, 47, 48] [6, 7, 11, 16, 35, 105, 127]]) (.seq (.reg [od 58 (fa 0 16), od 59 (ld 1 58), od 60 (.call 39 [(tm 59)])] [kp [3, 4, 6, 7, 11,
 15, 16, 46, 47, 48, 60] [6, 7, 11, 16, 35, 105, 127]]) (.cond (tm 60) (.reg [od 61 (fa 4 11), od 62 (.ldR 11 1 false (tm 61)), om 63 15, od 64 (fa 0 16), od 65 (.ldR 16 1 false (tm 64)), od 66 (.ldR 11 5 true (tm 11)), od 67 (fa 1
 16), od 68 (.ldR 16 1 false (tm 67)), od 69 (.call 41 [(tm 66), (tm 68)]), od 70 (.call 40 [(tm 65), (tm 69)]), od 71 (ia 1 62 63), on (.stR 35 1 (tm 71) (tm 70))] [kp [3, 4, 6, 7, 11, 46, 47, 48] [6, 7, 11, 35, 105, 127]])
 .skip))))) (.reg [od 72 (.bin .add (tm 48) (ki 1)), om 48 72] [kp [3, 4, 6, 7, 11, 46, 47, 48] [6, 7, 11, 35, 105, 127]])))) [kp [3, 4, 6, 7, 11, 46, 47, 48] [6, 7, 11, 35, 105, 127]]
def J9 : IC := .loop Xg
abbrev Xh : IC := .gh (.seq (.reg [od 87 (.bin .lss (tm 86) (tm 85))] [kp [4, 6, 7, 11, 17, 18, 84, 85, 86, 87] [6, 7, 11, 17, 18, 35, 105, 127]]) (.seq (.cond (tm 87) .skip (.exit 2)) (.seq (.block 3 (.seq (.reg [om 88 86, od 89 (ia 3 84 86), od 90
 (lG 3 89), od 20 (.alloc false [(.slice none 0 0), (.slice none 0 0), (.int .i64 0)]), om 19 88, on (.store 3 (tm 20) (tm 90))] [kp [4, 6, 7, 11, 17, 18, 19, 20, 84, 85, 86] [6, 7, 11, 17, 18, 20, 35, 105, 127]]) (.seq (.reg [od 91
 (lG 5 11), od 92 (fa 0 20), od 93 (ld 1 92), od 94 (.call 41 [(tm 91), (tm 93)]), om 21 94] [kp [4, 6, 7, 11, 17, 18, 19, 20, 21, 84, 85, 86] [6, 7, 11, 17, 18, 20, 35, 105, 127]]) (.seq (.reg [od 95 (fa 2 18), od 96 (.ldR 18 1
 false (tm 95)), od 97 (fa 1 4), od 98 (.ldT 1 false (tm 97)), om 99 19, od 100 (ia 1 98 99), od 101 (.ldT 1 false (tm 100)), om 102 21, od 103 (.call 45 [(tm 101), (tm 102)]), od 104 (.bsl true 41 1 [(tm 103)]), od 105 (.app false
 41 1 (tm 96) (tm 104)), od 106 (fa 2 18), on (.stR 18 1 (tm 106) (tm 105))] [kp [4, 6, 7, 11, 17, 18, 19, 20, 21, 84, 85, 86] [6, 7, 11, 17, 18, 20, 35, 105, 127]]) (.reg [od 107 (fa 1 18), od 108 (.ldR 18 1 false (tm 107)), od 109
 (fa 1 4), od 110 (.ldT 1 false (tm 109)), om 111 19, od 112 (ia 1 110 111), od 113 (.ldT 1 false (tm 112)), om 114 21, od 115 (.ldR 11 5 true (tm 11)), od 116 (fa 1 20), od 117 (.ldR 20 1 false (tm 116)), od 118 (.call 41 [(tm
 115), (tm 117)]), od 119 (fa 4 11), od 120 (.ldR 11 1 false (tm 119)), od 121 (fa 2 20), od 122 (.ldR 20 1 false (tm 121)), od 123 (ia 1 120 122), od 124 (.ldT 1 false (tm 123)), od 125 (.call 46 [(tm 113), (tm 114), (tm 118), (tm
 124)]), od 126 (.bsl true 43 1 [(tm 125)]), od 127 (.app false 43 1 (tm 108) (tm 126)), od 128 (fa 1 18), on (.stR 18 1 (tm 128) (tm 127))] [kp [4, 6, 7, 11, 17, 18, 84, 85, 86] [6, 7, 11, 17, 18, 35, 105, 127]]))))) (.reg [od 129
 (.bin .add (tm 86) (ki 1)), om 86 129] [kp [4, 6, 7, 11, 17, 18, 84, 85, 86] [6, 7, 11, 17, 18, 35, 105, 127]])))) [kp [4, 6, 7, 11, 17, 18, 84, 85, 86] [6, 7, 11, 17, 18, 35, 105, 127]]
def Ja : IC := .loop Xh
abbrev Xi : IC := (.seq (.reg [od 3 (.box true (tm 0)), od 4 (.box true (tm 1)), od 6 (.alloc false [(.slice none 0 0), (.slice none 0 0), (.slice none 0 0)]), od 7 (.alloc false [(.slice none 0 0), (.slice none 0 0)]), od 8 (.mv kN), od 9 (.mv (ki
 0))] [kp [2, 3, 4, 6, 7] [6, 7, 105, 127]]) (.seq (.seq (.reg [od 22 (lG 4 3), od 23 (lG 3 4), om 24 2, od 25 (.call 36 [(tm 22), (tm 23), (tm 24)]), om 10 25] [kp [2, 3, 4, 6, 7, 10] [6, 7, 105, 127]]) (.seq (.reg [om 26 10, od 27
 (.bin .neq (tm 26) (ki 0))] [kp [2, 3, 4, 6, 7, 10, 27] [6, 7, 105, 127]]) (.cond (tm 27) (.seq (.reg [od 28 (.build [(1, kN), (1, kN), (1, kN)]), od 29 (.build [(1, kN), (1, kN)]), om 30 10, on (.store 3 (tm 6) (tm 28)), on
 (.store 2 (tm 7) (tm 29)), od 8 (.mv kN), om 9 30] [kp [6, 7, 8, 9] [6, 7, 35, 105, 127]]) .ret) .skip))) (.seq (.reg [od 31 (.ldT 4 true (tm 3)), od 32 (fa 0 3), od 33 (.ldT 1 false (tm 32)), od 34 (le 0 33), od 35 (.mkE 61 1
 [(.int .u8 0)] (tm 34) (tm 34)), od 36 (.build [(4, (tm 31)), (1, (tm 35))]), od 11 (.alloc false [(.slice none 0 0), (.slice none 0 0), (.slice none 0 0), (.slice none 0 0), (.slice none 0 0)]), on (.stR 11 5 (tm 11) (tm 36))] [kp
 [2, 3, 4, 6, 7, 11] [6, 7, 11, 35, 105, 127]]) (.seq (.reg [od 37 (lG 5 11), od 38 (lG 3 4), om 39 2, od 40 (.hcall 37 [(tm 37), (tm 38), (tm 39)] [35] 40000)] [kp [3, 4, 6, 7, 11] [6, 7, 11, 35, 105, 127]]) (.seq (.reg [od 42 (lG
 4 3), od 43 (.call 38 [(tm 42)]), om 41 43, od 44 (ex 41 0), od 45 (ex 41 1), om 12 44, om 13 45] [kp [3, 4, 6, 7, 11, 12] [6, 7, 11, 35, 105, 127]]) (.seq (.seq (.reg [om 46 12, od 47 (le 0 46), od 48 (.mv (ki 0))] [kp [3, 4, 6,
 7, 11, 46, 47, 48] [6, 7, 11, 35, 105, 127]]) (.gh (.block 0 J9) [.frz 35])) (.seq (.reg [od 73 (lG 4 3), od 74 (fa 4 11), od 75 (ld 1 74), od 76 (.call 42 [(tm 73), (tm 75)]), od 17 (.alloc false [(.slice none 0 0),
 (.slice none 0 0)]), on (.store 2 (tm 17) (tm 76))] [kp [4, 6, 7, 11, 17] [6, 7, 11, 17, 35, 105, 127]]) (.seq (.reg [od 77 (fa 1 17), od 78 (ld 1 77), od 79 (.call 44 [(tm 78)]), od 80 (.call 43 [(tm 79)]), od 81 (.build [(1, (tm
 80)), (1, kN), (1, kN)]), od 18 (.alloc false [(.slice none 0 0), (.slice none 0 0), (.slice none 0 0)]), on (.store 3 (tm 18) (tm 81))] [.nlb 18 1 127 43 1, .nlb 18 2 105 41 1, kp [4, 6, 7, 11, 17, 18] [6, 7, 11, 17, 18, 35, 105,
 127]]) (.seq (.seq (.reg [od 82 (fa 0 11), od 83 (fa 2 82), od 84 (ld 1 83), od 85 (le 0 84), od 86 (.mv (ki 0))] [kp [4, 6, 7, 11, 17, 18, 84, 85, 86] [6, 7, 11, 17, 18, 35, 105, 127]]) (.gh (.block 2 Ja) [.frz 127,
 .frz 105])) (.seq (.reg [od 130 (fa 1 18), od 131 (.ldR 18 1 false (tm 130)), od 132 (.call 47 [(tm 131)]), od 133 (fa 2 18), od 134 (.ldR 18 1 false (tm 133)), od 135 (.call 48 [(tm 134)]), od 136 (fa 1 18), on (.stR 18 1 (tm 136)
 (tm 132)), od 137 (fa 2 18), on (.stR 18 1 (tm 137) (tm 135))] [kp [6, 7, 11, 17, 18] [6, 7, 11, 17, 18, 35, 105, 127]]) (.seq (.reg [od 138 (.ldR 18 3 true (tm 18)), od 139 (.ldR 17 2 true (tm 17)), od 140 (fa 4 11), od 141 (.ldR
 11 1 false (tm 140)), on (.stR 6 3 (tm 6) (tm 138)), on (.stR 7 2 (tm 7) (tm 139)), om 8 141, od 9 (.mv (ki 0))] [kp [6, 7, 8, 9] [6, 7, 35, 105, 127]]) .ret)))))))))))
theorem Pz (h : ∀ K : St → Prop, K = run P Γ J9 Q → run P Γ Xg (Aq K Q) s) : run P Γ J9 Q s := Ac h
theorem Q0 (h : ∀ K : St → Prop, K = run P Γ Ja Q → run P Γ Xh (Aq K Q) s) : run P Γ Ja Q s := Ac h
def Xj : List RV := [.cell 6 3 true, .cell 7 2 true, .tmp 8, .tmp 9]
/- probecard/memories.Blank (function 29) -/
abbrev Jo : IC := (.seq (.reg [od 2 (.mv kN)] [kp [0] []]) (.seq (.reg [om 3 0, om 4 0, od 5 (le 0 4), om 6 0, od 7 (le 0 6), od 8 (.slice 1 (tm 3) none (some (tm 5)) (some (tm 7))), om 2 8] [kp [2] []]) .ret))
def Jp : List RV := [.tmp 2]
/- slices.Grow[[][]probecard/api.Value,[]probecard/api.Value] (function 115) -/
abbrev G7 : IC := (.seq (.reg [od 4 (.mv kF)] [kp [0, 1] []]) (.seq (.reg [om 5 0, om 6 1, od 7 (.call 124 [(tm 5), (tm 6)]), od 8 (.bin .geq (tm 7) (ki 0)), om 4 8] [kp [4] []]) .ret))
def G8 : List RV := [.tmp 4]
/- slices.IndexFunc[[][]probecard/api.Value,[]probecard/api.Value] (function 124) -/
abbrev Hj : IC := .gh (.seq (.reg [od 9 (.bin .lss (tm 8) (tm 7))] [kp [0, 1, 7, 8, 9] []]) (.seq (.cond (tm 9) .skip (.exit 0)) (.seq (.block 1 (.seq (.reg [om 10 8, om 5 10] [kp [0, 1, 5, 7, 8] []]) (.seq (.reg [om 11 1, om 12 0, om 13 5, od 14
 (ia 1 12 13), od 15 (ld 1 14), od 16 (.callv (tm 11) [(tm 15)])] [kp [0, 1, 5, 7, 8, 16] []]) (.cond (tm 16) (.seq (.reg [om 17 5, om 4 17] [kp [4] []]) .ret) .skip)))) (.reg [od 18 (.bin .add (tm 8) (ki 1)), om 8 18] [kp [0, 1, 7,
 8] []])))) [kp [0, 1, 7, 8] []]
def Cm : IC := .loop Hj
abbrev Hk : IC := (.seq (.reg [od 4 (.mv (ki 0))] [kp [0, 1] []]) (.seq (.seq (.reg [om 6 0, od 7 (le 0 6), od 8 (.mv (ki 0))] [kp [0, 1, 7, 8] []]) (.block 0 Cm)) (.seq (.reg [od 4 (.mv (.const (.int .i64 (-1))))] [kp
 [4] []]) .ret)))
theorem G1 (h : ∀ K : St → Prop, K = run P Γ Cm Q → run P Γ Hj (Aq K Q) s) : run P Γ Cm Q s := Ac h
def Hl : List RV := [.tmp 4]
end
end Go.Lg
namespace Go.Lg
open Go Go.Proofs
theorem q1E : As Tryz.prog 102 Tv 27 2 L2 = true := by kernel_rfl
theorem q4e : As Tryz.prog 103 T8 14 2 T9 = true := by kernel_rfl
theorem q20 : As Tryz.prog 104 M9 9 2 Mc = true := by kernel_rfl
theorem q3x : As Tryz.prog 45 Qj 55 2 Qk = true := by kernel_rfl
theorem q33 : As Tryz.prog 46 Ot 96 4 Ou = true := by kernel_rfl
theorem q1F : As Tryz.prog 105 Tz 6 1 U0 = true := by kernel_rfl
theorem Ui : As Tryz.prog 41 Jm 27 2 Jn = true := by kernel_rfl
theorem W6 : As Tryz.prog 37 Ln 83 3 Lo = true := by kernel_rfl
theorem q34 : As Tryz.prog 89 Xc 24 1 Xd = true := by kernel_rfl
theorem q21 : As Tryz.prog 89 Vv 24 1 Vw = true := by kernel_rfl
theorem q0O : As Tryz.prog 75 S7 6 1 S8 = true := by kernel_rfl
theorem q3y : As Tryz.prog 88 Z2 72 2 Z3 = true := by kernel_rfl
theorem q22 : As Tryz.prog 125 Vx 10 2 Vy = true := by kernel_rfl
theorem q35 : As Tryz.prog 36 Xe 40 3 Xf = true := by kernel_rfl
theorem q1G : As Tryz.prog 85 U1 4 1 U2 = true := by kernel_rfl
theorem Zw : As Tryz.prog 86 Px 7 2 Py = true := by kernel_rfl
theorem q1H : As Tryz.prog 87 U3 8 2 U4 = true := by kernel_rfl
theorem q36 : As Tryz.prog 11 Xi 142 3 Xj = true := by kernel_rfl
theorem Uj : As Tryz.prog 47 Jo 9 1 Jp = true := by kernel_rfl
theorem Me : As Tryz.prog 82 G7 9 2 G8 = true := by kernel_rfl
theorem Pe : As Tryz.prog 124 Hk 19 2 Hl = true := by kernel_rfl
structure NG (B : Bool) (ns : List Nd) (i : Nat) (x : Nd) : Prop where
 k : 0 ≤ x.k ∧ x.k ≤ 15
 f : (Q8 x.k).1 ≤ x.inn.l.length ∧ (x.inn.l.length : Int) ≤ (Q8 x.k).2
 inn : ∀ p ∈ x.inn.l, 0 ≤ p ∧ p < ns.length
 top : 1 ≤ x.k ∧ x.k ≤ 13 → ∀ p ∈ x.inn.l, p < i
 bus : x.k = 13 → ∀ p ∈ x.inn.l, (ns.getD p.toNat Nd.d).k = 12
 mm : (x.k ≠ 15 → x.mem = 0 ∧ x.bit = 0) ∧ (x.k = 15 → B = true ∧ x.mem = 0 ∧ 0 ≤ x.bit ∧ x.bit ≤ 1)
theorem NG.mono {B : Bool} {ns ys : List Nd} {i : Nat} {x : Nd} (h : NG B ns i x) : NG B (ns ++ ys) i x :=
 ⟨h.k, h.f, fun p hp => by have := h.inn p hp; simp; omega, h.top, fun hk p hp => by
  have h1 := h.inn p hp
  rw [List.getD_eq_getElem?_getD, List.getElem?_append_left (by omega), ← List.getD_eq_getElem?_getD]
  exact h.bus hk p hp, h.mm⟩
def GNs (B : Bool) (ns : List Nd) : Prop := ∀ i (h : i < ns.length), NG B ns i ns[i]
theorem GNs.add {B : Bool} {ns : List Nd} {y : Nd} (h : GNs B ns) (hy : NG B (ns ++ [y]) ns.length y) : GNs B (ns ++ [y]) := by
 intro i hi
 by_cases h1 : i < ns.length
 ·rw [List.getElem_append_left h1]; exact (h i h1).mono
 ·have : i = ns.length := by simp at hi; omega
  subst this
  simpa using hy
theorem Ql : Q8 0 = (0, 0) ∧ Q8 1 = (0, 0) ∧ Q8 2 = (0, 0) ∧ Q8 3 = (1, 1) ∧ Q8 4 = (1, 1) ∧ Q8 5 = (2, 16) ∧ Q8 6 = (2, 16) ∧ Q8 7 = (2, 16) ∧ Q8 8 = (2, 16) ∧ Q8 9 = (2, 16) ∧ Q8 10 = (2, 16) ∧ Q8 11 = (3, 3) ∧ Q8 12 = (2, 2) ∧ Q8 13 = (1, 16) ∧ Q8 14 = (1, 1) ∧ Q8 15 = (0, 0) := by decide
theorem qGz {B : Bool} {ns : List Nd} {i : Nat} : NG B ns i q5P := ⟨by decide, by decide, by simp [q5P], by simp [q5P], by simp [q5P], by simp [q5P]⟩
theorem qH0 {B : Bool} {ns : List Nd} {i : Nat} {v : Int} (h : 0 ≤ v ∧ v < ns.length) : NG B ns i (q4W v) := ⟨by simp [q4W], by simp [q4W, Ql], by simp [q4W]; exact h, by simp [q4W], by simp [q4W], by simp [q4W]⟩
theorem qDu {ns : List Nd} {i : Nat} {b : Int} (h : b = 0 ∨ b = 1) : NG true ns i (q2v b) := ⟨by simp [q2v], by simp [q2v, Ql], by simp [q2v], by simp [q2v], by simp [q2v], by simp [q2v]; omega⟩
theorem qH1 {ns : List Nd} : ∀ p ∈ q3b ns, 0 ≤ p ∧ p < ns.length ∧ (ns.getD p.toNat Nd.d).k = 12 := by
 intro p hp
 obtain ⟨h1, h2, h3⟩ := q0m [12] ns 0 p hp
 refine ⟨by omega, by omega, ?_⟩
 simpa using h3
theorem qBo {l : List Int} {q : Nat} (h : q < l.length) : l.getD q 0 ∈ l := by
 rw [List.getD_eq_getElem?_getD, List.getElem?_eq_getElem h]; exact List.getElem_mem h
theorem qFA {B bus : Bool} {g : Gd} {ns : List Nd} (hg : q6W g) (h0 : 1 ≤ ns.length) : NG B (ns ++ [q3c bus g ns]) ns.length (q3c bus g ns) := by
 have a := C3 (n := ns.length) hg.2.1.1 (by omega)
 have b := C3 (n := ns.length) hg.2.2.1.1 (by omega)
 have d := C3 (n := ns.length) hg.2.2.2.1 (by omega)
 have m13 : 0 ≤ g.k.tmod 13 ∧ g.k.tmod 13 < 13 := C3 (n := 13) hg.1.1 (by omega)
 have m9 : 0 ≤ g.k.tmod 9 ∧ g.k.tmod 9 < 9 := C3 (n := 9) hg.1.1 (by omega)
 have ma : 0 ≤ g.a.tmod 2 ∧ g.a.tmod 2 < 2 := C3 (n := 2) hg.2.1.1 (by omega)
 have hkk : 0 ≤ (if bus then g.k.tmod 13 else g.k.tmod 9) ∧ (if bus then g.k.tmod 13 else g.k.tmod 9) < 13 := by cases bus <;> simp <;> omega
 have ht := qH1 (ns := ns)
 obtain ⟨y, hy⟩ : ∃ y, y = q3c bus g ns := ⟨_, rfl⟩
 rw [← hy]
 have hlen : (ns ++ [y]).length = ns.length + 1 := by simp
 have old : ∀ p : Int, 0 ≤ p → p < ns.length → ((ns ++ [y]).getD p.toNat Nd.d).k = (ns.getD p.toNat Nd.d).k := fun p h1 h2 => by
  rw [List.getD_eq_getElem?_getD, List.getElem?_append_left (by omega), ← List.getD_eq_getElem?_getD]
 -- what suffices of a plain gate
 have mk : ∀ (k : Int) (l : List Int) (cap : Option Nat) (nl : Option Bool), 0 ≤ k → k ≤ 15 → k ≠ 13 → k ≠ 15 → (Q8 k).1 ≤ l.length → (l.length : Int) ≤ (Q8 k).2 → (∀ p ∈ l, 0 ≤ p ∧ p < ns.length) → NG B (ns ++ [y]) ns.length ⟨k, ⟨l, cap, nl⟩, 0, 0⟩ := fun k l cap nl h1 h2 h3 h4 h5 h6 h7 =>
  ⟨⟨h1, h2⟩, ⟨h5, h6⟩, fun p hp => by have := h7 p hp; omega, fun _ p hp => (h7 p hp).2, fun e => absurd e h3, fun _ => ⟨rfl, rfl⟩, fun e => absurd e h4⟩
 unfold q3c q6X at hy
 simp only at hy
 generalize g.a.tmod ns.length = a' at *
 generalize g.b.tmod ns.length = b' at *
 generalize g.d.tmod ns.length = d' at *
 generalize (if bus = true then g.k.tmod 13 else g.k.tmod 9) = kk at *
 have two : ∀ p ∈ [a', b'], 0 ≤ p ∧ p < ns.length := by intro p hp; simp at hp; rcases hp with rfl | rfl; exact a; exact b
 have three : ∀ p ∈ [a', b', d'], 0 ≤ p ∧ p < ns.length := by intro p hp; simp at hp; rcases hp with rfl | rfl | rfl; exact a; exact b; exact d
 have one : ∀ p ∈ [a'], 0 ≤ p ∧ p < ns.length := by intro p hp; simp at hp; rcases hp with rfl; exact a
 split at hy
 ·rename_i h6
  have hc : kk = 0 ∨ kk = 1 ∨ kk = 2 ∨ kk = 3 ∨ kk = 4 ∨ kk = 5 := by omega
  split at hy
  ·rw [hy]
   have hf : (Q8 (5 + kk)).1 = 2 ∧ (Q8 (5 + kk)).2 = 16 := by rcases hc with rfl | rfl | rfl | rfl | rfl | rfl <;> decide
   rw [← hy]
   have := mk (5 + kk) [a', b', d'] none none (by omega) (by omega) (by omega) (by omega) (by rw [hf.1]; simp) (by rw [hf.2]; simp) three
   rw [← hy] at this; exact this
  ·have hf : (Q8 (5 + kk)).1 = 2 ∧ (Q8 (5 + kk)).2 = 16 := by rcases hc with rfl | rfl | rfl | rfl | rfl | rfl <;> decide
   have := mk (5 + kk) [a', b'] none none (by omega) (by omega) (by omega) (by omega) (by rw [hf.1]; simp) (by rw [hf.2]; simp) two
   rw [← hy] at this; exact this
 split at hy
 ·have := mk 4 [a'] none none (by omega) (by omega) (by omega) (by omega) (by simp [Ql]) (by simp [Ql]) one
  rw [← hy] at this; exact this
 split at hy
 ·have := mk 11 [a', b', d'] none none (by omega) (by omega) (by omega) (by omega) (by simp [Ql]) (by simp [Ql]) three
  rw [← hy] at this; exact this
 split at hy
 ·have := mk 12 [a', b'] none none (by omega) (by omega) (by omega) (by omega) (by simp [Ql]) (by simp [Ql]) two
  rw [← hy] at this; exact this
 split at hy
 ·rename_i ht2
  generalize q3b ns = t at *
  have mt := C3 (n := t.length) hg.2.1.1 ht2.2
  have mt2 := C3 (a := g.a.tmod t.length + 1) (n := t.length) (by omega) ht2.2
  have q1 := ht _ (qBo (l := t) (q := (g.a.tmod t.length).toNat) (by omega))
  have q2 := ht _ (qBo (l := t) (q := ((g.a.tmod t.length + 1).tmod t.length).toNat) (by omega))
  generalize t.getD (g.a.tmod t.length).toNat 0 = u1 at *
  generalize t.getD ((g.a.tmod t.length + 1).tmod t.length).toNat 0 = u2 at *
  have mkb : ∀ (l : List Int) (cap : Option Nat) (nl : Option Bool), 1 ≤ l.length → l.length ≤ 16 → (∀ p ∈ l, 0 ≤ p ∧ p < ns.length ∧ (ns.getD p.toNat Nd.d).k = 12) → NG B (ns ++ [y]) ns.length ⟨13, ⟨l, cap, nl⟩, 0, 0⟩ := fun l cap nl h5 h6 h7 =>
   ⟨by simp, ⟨by simp [Ql]; omega, by simp [Ql]; omega⟩, fun p hp => by have := h7 p hp; omega, fun _ p hp => (h7 p hp).2.1, fun _ p hp => by rw [old p (h7 p hp).1 (h7 p hp).2.1]; exact (h7 p hp).2.2, fun _ => ⟨rfl, rfl⟩, fun e => by simp at e⟩
  split at hy
  ·have := mkb [u1, u2] none none (by simp) (by simp) (by intro p hp; simp at hp; rcases hp with rfl | rfl; exact q1; exact q2)
   rw [← hy] at this; exact this
  ·have := mkb [u1] none none (by simp) (by simp) (by intro p hp; simp at hp; rcases hp with rfl; exact q1)
   rw [← hy] at this; exact this
 split at hy
 ·have hc : g.a.tmod 2 = 0 ∨ g.a.tmod 2 = 1 := by omega
  have hf : (Q8 (1 + g.a.tmod 2)).1 = 0 ∧ (Q8 (1 + g.a.tmod 2)).2 = 0 := by rcases hc with e | e <;> rw [e] <;> decide
  have := mk (1 + g.a.tmod 2) [] (some 0) (some true) (by omega) (by omega) (by omega) (by omega) (by rw [hf.1]; simp) (by rw [hf.2]; simp) (by simp)
  rw [← hy] at this; exact this
 ·have := mk 3 [a'] none none (by omega) (by omega) (by omega) (by omega) (by simp [Ql]) (by simp [Ql]) one
  rw [← hy] at this; exact this
theorem q7w {B bus : Bool} : ∀ {l : List Gd} {ns : List Nd}, (∀ g ∈ l, q6W g) → 1 ≤ ns.length → GNs B ns → GNs B (Oc bus l ns)
 | [], ns, _, _, h => h
 | g :: l, ns, hg, h0, h => by
  simp only [Oc]
  exact q7w (fun y hy => hg y (List.mem_cons_of_mem _ hy)) (by simp) (h.add (qFA (hg g List.mem_cons_self) h0))
theorem qFB {B : Bool} {ns : List Nd} {j : Nat} {v : Int} (h : GNs B ns) (hj : j < ns.length) (hk : ns[j].k = 14) (hv : 0 ≤ v ∧ v < ns.length) : GNs B (Tf ns j v) := by
 have hm := (h j hj).mm.1 (by rw [hk]; decide)
 have hgd : ns.getD j Nd.d = ns[j] := by simp [List.getD_eq_getElem?_getD, hj]
 have kinds : ∀ q : Nat, ((Tf ns j v).getD q Nd.d).k = (ns.getD q Nd.d).k := fun q => by
  unfold Tf
  simp only [List.getD_eq_getElem?_getD, List.getElem?_set]
  split
  ·rename_i e; subst e; simp [hj]
  ·rfl
 intro i hi
 have hi' : i < ns.length := by rw [Nl] at hi; exact hi
 by_cases hij : i = j
 ·subst hij
  have : (Tf ns i v)[i] = ⟨14, ⟨[v], some 1, some false⟩, 0, 0⟩ := by
   simp only [Tf, hgd, hk, hm.1, hm.2, List.getElem_set_self]
  rw [this]
  exact ⟨by simp, by simp [Ql], by simp [Nl]; exact hv, by simp, by simp, by simp⟩
 ·have : (Tf ns j v)[i] = ns[i] := by
   simp only [Tf]
   rw [List.getElem_set_ne (fun e => hij e.symm)]
  rw [this]
  have hn := h i hi'
  exact ⟨hn.k, hn.f, fun p hp => by rw [Nl]; exact hn.inn p hp, hn.top, fun hk p hp => by rw [kinds]; exact hn.bus hk p hp, hn.mm⟩
theorem q6s {ns : List Nd} {j q : Nat} {v : Int} : ((Tf ns j v).getD q Nd.d).k = (ns.getD q Nd.d).k := by
 unfold Tf
 simp only [List.getD_eq_getElem?_getD, List.getElem?_set]
 split
 ·rename_i e; subst e
  split
  ·simp
  ·rename_i h; simp [List.getElem?_eq_none (Nat.le_of_not_lt h)]
 ·rfl
theorem q9g {B : Bool} {x : CD} {first : Nat} (h0 : Wx x.d0) (h1 : Wx x.d1) : ∀ {k i : Nat} {ns : List Nd}, GNs B ns → (∀ q, q < i + k → first + q < ns.length ∧ (ns.getD (first + q) Nd.d).k = 14) → GNs B (Yk x first k i ns)
 | 0, _, _, h, _ => h
 | k + 1, i, ns, h, hq => by
  simp only [Yk]
  obtain ⟨hl, hk⟩ := hq i (by omega)
  have hd : 0 ≤ ddN x i := by unfold ddN; split; exact h0.1; exact h1.1
  have hv := C3 (n := ns.length) hd (by omega)
  refine q9g h0 h1 (qFB h hl (by simpa [List.getD_eq_getElem?_getD, hl] using hk) hv) fun q hq' => ?_
  rw [Nl, q6s]
  exact hq q (by omega)
theorem q5B {bus : Bool} : ∀ {l : List Gd} {ns : List Nd} {q : Nat}, q < ns.length → ((Oc bus l ns).getD q Nd.d) = (ns.getD q Nd.d)
 | [], _, _, _ => rfl
 | g :: l, ns, q, h => by
  simp only [Oc]
  rw [q5B (by simp; omega)]
  rw [List.getD_eq_getElem?_getD, List.getElem?_append_left h, ← List.getD_eq_getElem?_getD]
theorem q8V {B : Bool} {x : Nd} (h : ∀ ns : List Nd, 1 ≤ ns.length → ∀ i, NG B ns i x) : ∀ (k : Nat) {ns : List Nd}, GNs B ns → GNs B (ns ++ List.replicate k x)
 | 0, ns, hn => by simpa using hn
 | k + 1, ns, hn => by
  rw [List.replicate_succ, List.append_cons]
  exact q8V h k (hn.add (h _ (by simp) _))
theorem q1I {x : CD} (hx : Yl x) : GNs x.mem (Dm x) := by
 have m4 : 0 ≤ x.i.tmod 4 ∧ x.i.tmod 4 < 4 := C3 (n := 4) hx.i.1 (by omega)
 have m3 : 0 ≤ x.f.tmod 3 ∧ x.f.tmod 3 < 3 := C3 (n := 3) hx.f.1 (by omega)
 have g0 : GNs x.mem [] := fun i h => by simp at h
 have g1 : GNs x.mem (Hg x) := by
  have := q8V (B := x.mem) (x := q5P) (fun ns _ i => qGz) (x.i.tmod 4 + 1).toNat g0
  simpa [Hg] using this
 have l1 : 1 ≤ (Hg x).length := by simp [Hg]; omega
 have g2 : GNs x.mem (Et x) := q8V (fun ns h i => qH0 ⟨by omega, by omega⟩) _ g1
 have l2 : (Et x).length = (Hg x).length + (x.f.tmod 3).toNat := by simp [Et]
 have g3 : GNs x.mem (E1 x) := by
  unfold E1
  split
  ·rename_i hm
   rw [hm] at g2 ⊢
   have a1 := g2.add (y := q2v 0) (qDu (.inl rfl))
   have a2 := a1.add (y := q2v 1) (qDu (.inr rfl))
   rw [List.append_assoc] at a2
   exact a2
  ·exact g2
 have l3 : (Et x).length ≤ (E1 x).length := by unfold E1; split <;> simp
 have g4 : GNs x.mem (Bn x) := q7w (fun g hg => hx.gates g (List.mem_of_mem_take hg)) (by omega) g3
 have l4 : (E1 x).length ≤ (Bn x).length := by unfold Bn; rw [Zm]; omega
 refine q9g hx.d0 hx.d1 g4 fun q hq => ⟨by omega, ?_⟩
 unfold Bn
 rw [q5B (by omega)]
 have e : (E1 x).getD ((Hg x).length + q) Nd.d = (Et x).getD ((Hg x).length + q) Nd.d := by
  unfold E1
  split
  ·rw [List.getD_eq_getElem?_getD, List.getElem?_append_left (by omega), ← List.getD_eq_getElem?_getD]
  ·rfl
 rw [e]
 unfold Et
 rw [List.getD_eq_getElem?_getD, List.getElem?_append_right (by omega)]
 simp only [Nat.add_sub_cancel_left]
 rw [List.getElem?_replicate, if_pos (by omega)]
 rfl
theorem Zx {α : Type} {f : α → Int} : ∀ {l : List α}, (∀ x ∈ l, f x = 0) → D9 (l.map f) = 0
 | [], _ => rfl
 | x :: l, h => by
  simp only [List.map_cons, D9, h x List.mem_cons_self, ne_eq, not_true_eq_false, if_false]
  exact Zx fun y hy => h y (List.mem_cons_of_mem _ hy)
theorem qAq : ∀ n, n ≤ 16 → Ia [] ((List.range' 0 n).map Yj) = 0 := by
 intro n hn
 have : n = 0 ∨ n = 1 ∨ n = 2 ∨ n = 3 ∨ n = 4 ∨ n = 5 ∨ n = 6 ∨ n = 7 ∨ n = 8 ∨ n = 9 ∨ n = 10 ∨ n = 11 ∨ n = 12 ∨ n = 13 ∨ n = 14 ∨ n = 15 ∨ n = 16 := by omega
 rcases this with rfl | rfl | rfl | rfl | rfl | rfl | rfl | rfl | rfl | rfl | rfl | rfl | rfl | rfl | rfl | rfl | rfl <;> decide +kernel
theorem qCe {x : CD} (hx : Yl x) : D1 (Jz x) = 0 := by
 have hl := Zn hx
 have h5 := Zo hx
 have hg := q1I hx
 have hN : (Jz x).nodes.l = Dm x := rfl
 have hmods : ∀ b, Wx b → 0 ≤ b.tmod (Bn x).length ∧ b.tmod (Bn x).length < (Dm x).length := fun b hb => by
  have := C3 (n := (Bn x).length) hb.1 (by omega); omega
 have hout : ∀ n, 0 ≤ n ∧ n < ((Dm x).length : Int) → Oa (Jz x) n = false := fun n h => by simp [Oa, hN]; omega
 have hnode : ∀ y ∈ Dm x, Cc (Jz x) y = 0 := by
  intro y hy
  obtain ⟨i, hi, rfl⟩ := List.getElem_of_mem hy
  have hn := hg i hi
  unfold Cc
  rw [if_neg (by have := hn.k; omega), if_neg (by have := hn.f; omega)]
  have h1 : (Dm x)[i].inn.l.any (Oa (Jz x)) = false := List.any_eq_false.2 fun p hp => by rw [hout p (hn.inn p hp)]; simp
  rw [h1]
  have h2 : ¬ ((Dm x)[i].k = 13 ∧ (Dm x)[i].inn.l.any (Xz (Jz x)) = true) := by
   rintro ⟨hk, ha⟩
   obtain ⟨p, hp, hq⟩ := List.any_eq_true.1 ha
   have := hn.bus hk p hp
   simp [Xz, hN] at hq
   rw [List.getD_eq_getElem?_getD] at this
   exact hq this
  rw [if_neg (by simp), if_neg h2]
  have h3 : Yh (Jz x) (Dm x)[i] = true := by
   unfold Yh
   by_cases hk : (Dm x)[i].k = 15
   ·obtain ⟨hm, e1, e2, e3⟩ := hn.mm.2 hk
    simp only [hk, ne_eq, not_true_eq_false, if_false, decide_eq_true_eq]
    simp [Jz, q5Q, hm, e1]
    omega
   ·have := hn.mm.1 hk
    simp [hk, this]
  rw [h3]; simp
 unfold D1
 have e1 : ¬ (16384 < (Jz x).nodes.l.length ∨ 16 < (Jz x).mems.l.length ∨ 16384 < (Jz x).outs.l.length) := by
  have : (Jz x).mems.l.length ≤ 1 := by simp only [Jz, q5Q]; split <;> simp
  have : (Jz x).outs.l.length ≤ 4 := by simp [Jz]; omega
  rw [hN]; omega
 have e2 : (Jz x).names.l.length = (Jz x).nodes.l.length := by rw [hN]; simp [Jz]; omega
 rw [if_neg e1, if_neg (by simp [e2]), if_neg (by rw [hN, Zx hnode]; simp), if_neg (by
  rw [show (Jz x).names.l = (List.range' 0 (Bn x).length).map Yj from rfl, qAq _ hl.2]; simp), if_neg (by
  rw [Zx]
  ·simp
  ·intro m hm
   simp only [Jz, q5Q] at hm
   split at hm
   ·simp at hm; subst hm
    unfold M1
    have a0 := hout _ (hmods _ hx.p0)
    have a1 := hout _ (hmods _ hx.p1)
    have a2 := hout _ (hmods _ hx.p2)
    have a3 := hout _ (hmods _ hx.p3)
    simp [Sz, a0, a1, a2, a3]
   ·cases hm)]
 have ho : (Jz x).outs.l.any (Oa (Jz x)) = false := by
  refine List.any_eq_false.2 fun p hp => ?_
  have : 0 ≤ p ∧ p < ((Dm x).length : Int) := by
   simp only [Jz, List.mem_append, List.mem_map, List.mem_singleton] at hp
   rcases hp with ⟨b, hb, rfl⟩ | rfl
   ·exact hmods b (hx.outs b (List.mem_of_mem_take hb))
   ·omega
  rw [hout p this]; simp
 rw [ho]; rfl
theorem q1j {x : CD} (hx : Yl x) : Cj (Jz x) = 0 := by
 have hs := qCe hx
 have hg := q1I hx
 have hN : (Jz x).nodes.l = Dm x := rfl
 have hin : ∀ y ∈ (Jz x).nodes.l, ∀ p ∈ y.inn.l, 0 ≤ p ∧ p < (Jz x).nodes.l.length := by
  intro y hy p hp
  rw [hN] at hy ⊢
  obtain ⟨i, hi, rfl⟩ := List.getElem_of_mem hy
  exact (hg i hi).inn p hp
 have hd := q9R (Jz x) (Eb hs).2.1 hin (by
  intro i hi hc p hp
  rw [hN] at hi
  have e : (Jz x).nodes.l.getD i Nd.d = (Dm x)[i] := by rw [hN]; simp [List.getD_eq_getElem?_getD, hi]
  simp only [An, G5, e] at hc hp
  exact (hg i hi).top (by simpa [Da] using hc) p hp)
 unfold Cj
 rw [if_neg (by simp [hs]), if_neg hd]
theorem qCf {x : CD} (hx : Yl x) (hm : x.mem = false) : q6S (Jz x) = 0 := by
 have hv := q1j hx
 have hg := q1I hx
 have h1 : (Jz x).mems.l = [] := by simp [Jz, q5Q, hm]
 have h2 : mems (Jz x) = [] := by
  refine List.eq_nil_iff_forall_not_mem.2 fun n hn => ?_
  obtain ⟨a, b, h3⟩ := q0m [15] (Jz x).nodes.l 0 n hn
  have hi : n.toNat < (Dm x).length := by have : (Jz x).nodes.l = Dm x := rfl; rw [this] at b; omega
  have hk : (Dm x)[n.toNat].k = 15 := by
   have : (Jz x).nodes.l = Dm x := rfl
   rw [this] at h3
   simpa [List.getD_eq_getElem?_getD, hi] using h3
  have := ((hg _ hi).mm.2 hk).1
  rw [hm] at this; cases this
 unfold q6S
 rw [if_neg (by simp [hv]), h1, h2]; simp
def qBp (x : CD) : CD := { x with mem := false }
theorem qDv {x : CD} (hx : Yl x) : Yl (qBp x) := ⟨hx.i, hx.f, hx.d0, hx.d1, hx.p0, hx.p1, hx.p2, hx.p3, hx.gates, hx.outs⟩
end Go.Lg
namespace Go.Lg
open Go Go.Proofs
variable {Γ : Tables}
theorem Uk {f : FuncId} {as' : List AV} {ts : List T} {res : T} {K : T → Prop} (h : A3 Tryz.prog Γ f ts res) (ht : Ak (as'.map toT) = some ts) (hk : K res) : qAZ Tryz.prog Γ f as' K ⟨⟩ := ⟨ts, res, ht, .inr h, hk⟩
theorem qCg (q : PD) (hq : q8S q) (c : Ax) (hc : COk c) : A3 Tryz.prog Γ 35 [.agg (tPD q), .agg (tC c)] (.agg (tP (q6q q c))) := by
 refine A7 q6l rfl ?_
 have h1 := q5l (Γ := Γ) q.i (Be c).length (Nat.le_trans (M6 c) hc.nodes) 4 (by omega)
 have h2 := q5l (Γ := Γ) q.s (Ap c).length (Nat.le_trans (Ef c) hc.nodes) 3 (by omega)
 have l1 : (M7 q.i.l (Be c).length 4).length = (Be c).length := M8
 have l2 : (M7 q.s.l (Ap c).length 3).length = (Ap c).length := M8
 have k1 := B9 (l := M7 q.i.l (Be c).length 4)
 have k2 := B9 (l := M7 q.s.l (Ap c).length 3)
 rw [l1] at k1
 rw [l2] at k2
 simp [q2J, tC, A6, A8, Ad, Bl, tPD, tV]
 refine Uk (Zu c hc 0) rfl ?_
 simp
 refine ⟨_, _, h1, ?_⟩
 simp
 refine Uk (Zu c hc 14) rfl ?_
 simp
 refine ⟨_, _, h2, ?_⟩
 simp [q2K, Am, Ag, k1, k2, tP, tV, q6q, qIc, qId]
structure NOk (c : Ax) : Prop where
 ok : COk c
 lev : Cj c = 0
 mm : c.mems.l = []
 m0 : mems c = []
 n1 : 1 ≤ c.nodes.l.length
 n2 : c.nodes.l.length ≤ 16
 k : ∀ i, i < c.nodes.l.length → 0 ≤ An c i ∧ An c i ≤ 14
theorem qH2 {x : CD} (hx : Yl x) (hm : x.mem = false) : NOk (Jz x) := by
 have hl := Zn hx
 have h5 := Zo hx
 have hN : (Jz x).nodes.l = Dm x := rfl
 have hp := qCf hx hm
 have hv := q1j hx
 have h1 : (Jz x).mems.l = [] := by simp [Jz, q5Q, hm]
 have h2 : mems (Jz x) = [] := by
  unfold q6S at hp
  rw [if_neg (by simp [hv])] at hp
  split at hp
  ·cases hp
  ·rename_i h; exact List.eq_nil_of_length_eq_zero (by omega)
 refine ⟨q8K hx, hv, h1, h2, by rw [hN]; omega, by rw [hN]; omega, fun i hi => ?_⟩
 have hs := (Fb hv).1
 have hn := (Eb hs).2.2.1 _ (List.getElem_mem hi)
 have hk : An (Jz x) i = (Jz x).nodes.l[i].k := by simp [An, hi]
 have hkk := (q8K hx).kind _ (List.getElem_mem hi)
 have h15 : ¬ An (Jz x) i = 15 := fun e => by
  have : (i : Int) ∈ mems (Jz x) := (q3j hi).2 e
  rw [h2] at this; cases this
 have hle : ¬ 15 < (Jz x).nodes.l[i].k := fun h => by
  unfold Cc at hn
  rw [if_pos h] at hn; cases hn
 rw [hk] at h15 ⊢
 omega
theorem qBq {l : List Int} {n : Nat} {most : Int} (hl : ∀ v ∈ l, 0 ≤ v) (hm : 0 < most ∧ most ≤ 4) : ∀ v ∈ M7 l n most, V4 v := by
 intro v hv
 obtain ⟨i, _, rfl⟩ := List.mem_map.1 hv
 split
 ·simp [V4]
 ·rename_i h
  have hpos : 0 < l.length := List.length_pos_iff.2 h
  have h0 : 0 ≤ l.getD (i % l.length) 0 := by
   rw [Aw (Nat.mod_lt _ hpos)]; exact hl _ (List.getElem_mem _)
  generalize l.getD (i % l.length) 0 = u at *
  rw [Int.tmod_eq_emod_of_nonneg h0]
  have := Int.emod_nonneg u (show most ≠ 0 by omega)
  have := Int.emod_lt_of_pos u hm.1
  unfold V4; omega
structure POk (c : Ax) (p : Pat) : Prop where
 i : p.inn.l.length = (Be c).length
 s : p.st.l.length = (Ap c).length
 vi : ∀ v ∈ p.inn.l, V4 v
 vs : ∀ v ∈ p.st.l, V4 v
theorem qDw {q : PD} (hq : q8S q) (c : Ax) : POk c (q6q q c) :=
 ⟨M8, M8, qBq (fun v hv => (hq.1 v hv).1) (by omega), qBq (fun v hv => (hq.2 v hv).1) (by omega)⟩
theorem qCh {c : Ax} (hc : NOk c) {p : Pat} (hp : POk c p) : q14 c p = 0 := by
 unfold q14
 rw [if_neg (by simp [hc.lev])]
 unfold X6
 have a1 : ∀ {l : List Int}, (∀ v ∈ l, V4 v) → l.any L1 = false := fun h => List.any_eq_false.2 fun v hv => by have := (h v hv).2; simp [L1]; omega
 rw [if_neg (by rw [hc.mm, hc.m0]; simp), if_neg (by simp [hp.i, hp.s]), a1 hp.vi, a1 hp.vs]
 simp
theorem qH3 (hΓ : GOk Γ) {c : Ax} (hc : NOk c) {p : Pat} (hp : POk c p) :
  Ae Tryz.prog Γ 12 [.agg (tC c), .agg (tP p)] (.tup [.agg [tVs (Vq c (Ti c p.inn.l p.st.l)), tVs (C6 c (Ti c p.inn.l p.st.l))], .sl (Ab (Ti c p.inn.l p.st.l)) (some c.nodes.l.length) none, tI 0]) := by
 have hcn := hc.n2
 have h := qDr hΓ c hc.ok (by omega) p ⟨by rw [hp.i]; have := M6 c; omega, by rw [hp.s]; have := Ef c; omega⟩ ⟨fun v hv => (hp.vi v hv).1, fun v hv => (hp.vs v hv).1⟩
 unfold q8R at h
 rwa [if_pos (qCh hc hp)] at h
theorem Blw.below {a b : Int} (h : Blw a b) : qDc a b = true := by
 unfold qDc
 rcases h with rfl | rfl
 ·simp
 ·simp [E2]
theorem qDe.map {α : Type} {f g : α → Int} {l : List α} (h : ∀ x ∈ l, Blw (f x) (g x)) : qDe (l.map f) (l.map g) := by
 refine ⟨by simp, fun i => ?_⟩
 by_cases hi : i < l.length
 ·rw [Aw (by simpa using hi), Aw (by simpa using hi), List.getElem_map, List.getElem_map]
  exact h _ (List.getElem_mem hi)
 ·rw [List.getD_eq_getElem?_getD, List.getD_eq_getElem?_getD, List.getElem?_eq_none (by simp; omega), List.getElem?_eq_none (by simp; omega)]
  exact .refl _
end Go.Lg
namespace Go.Lg
open Go
section
variable {P : Program} {Γ : Tables} {Q : AX → St → Prop} {s : St}
/- (probecard/probecardlaw06.P).Known (function 15) -/
abbrev Z4 : IC := (.seq (.reg [od 2 (.box true (tm 0)), od 3 (.box true (tm 1)), od 4 (.alloc false [(.slice none 0 0), (.slice none 0 0)])] [kp [2, 3, 4] [4, 11019, 18019]]) (.seq (.reg [od 5 (.bsl true 5 1 [(ku 0)]), od 6 (fa 0 2), od 7 (.ldT 1
 false (tm 6)), od 8 (.appB (tm 5) (tm 7)), od 9 (.ldT 4 true (tm 3)), od 10 (.callT 55 [(tm 9), (ku 0)]), od 11 (.ncall 54 [(tm 8), (tm 10), (ku 2)] 11000), od 12 (.bsl true 5 1 [(ku 0)]), od 13 (fa 1 2), od 14 (.ldT 1 false (tm
 13)), od 15 (.appB (tm 12) (tm 14)), od 16 (.ldT 4 true (tm 3)), od 17 (.callT 55 [(tm 16), (ku 14)]), od 18 (.ncall 54 [(tm 15), (tm 17), (ku 2)] 18000), od 19 (.build [(1, (tm 11)), (1, (tm 18))]), on (.stR 4 2 (tm 4) (tm 19))]
 [kp [4] [4, 11019, 18019]]) .ret))
def Z5 : List RV := [.cell 4 2 true]
end
end Go.Lg
namespace Go.Lg
open Go Go.Proofs
theorem q3z : As Tryz.prog 15 Z4 20 2 Z5 = true := by kernel_rfl
end Go.Lg
namespace Go.Lg
open Go Go.Proofs
variable {Γ : Tables}
def knI (q : PD) (c : Ax) : List Int := M7 (0 :: q.i.l) (Be c).length 2
def knS (q : PD) (c : Ax) : List Int := M7 (0 :: q.s.l) (Ap c).length 2
theorem qFC {l : List Int} {n : Nat} (hl : ∀ v ∈ l, Wx v) : ∀ v ∈ M7 (0 :: l) n 2, 0 ≤ v ∧ v ≤ 1 := by
 intro v hv
 obtain ⟨i, _, rfl⟩ := List.mem_map.1 hv
 rw [if_neg (by simp)]
 have hpos : 0 < (0 :: l).length := by simp
 have h0 : 0 ≤ (0 :: l).getD (i % (0 :: l).length) 0 := by
  rw [Aw (Nat.mod_lt _ hpos)]
  rcases List.mem_cons.1 (List.getElem_mem (Nat.mod_lt i hpos)) with h | h
  ·rw [h]; exact Int.le_refl _
  ·exact (hl _ h).1
 generalize (0 :: l).getD (i % (0 :: l).length) 0 = u at *
 rw [Int.tmod_eq_emod_of_nonneg h0]
 have := Int.emod_nonneg u (show (2 : Int) ≠ 0 by omega)
 have := Int.emod_lt_of_pos u (show (0 : Int) < 2 by omega)
 omega
end Go.Lg
namespace Go.Lg
open Go Go.Proofs
structure T3 where
 a : Int
 b : Int
 d : Int
deriving DecidableEq
theorem qCi {c : Ax} (h : Cj c = 0) (h12 : (Il [12] c.nodes.l 0).length = 0) {b f : List Int} (hf : qGv c b f)
  (hb : ∀ i, i < c.nodes.l.length → Da (An c i) = false → 0 ≤ b.getD i 0 ∧ b.getD i 0 ≤ 1) : ∀ i, i < c.nodes.l.length → 0 ≤ f.getD i 0 ∧ f.getD i 0 ≤ 1 := by
 have no12 : ∀ i, i < c.nodes.l.length → ¬ An c i = 12 := fun i hi h => by
  have := (q3j hi).2 h
  rw [List.eq_nil_of_length_eq_zero h12] at this; cases this
 refine qF5 h fun i hin hcb => ?_
 rw [hf.2 i hin]
 by_cases hcomb : Da (An c i) = true
 ·rw [if_pos hcomb]
  have hne := (Eb (Fb h).1).2.2.1 _ (List.getElem_mem hin)
  have hkk : An c i = (c.nodes.l[i]).k := by simp [An, hin]
  have hii : G5 c i = (c.nodes.l[i]).inn.l := by simp [G5, hin]
  have h0 : 1 ≤ An c i ∧ An c i ≤ 13 := by simpa [Da] using hcomb
  have hlen : (Hh c f i).length = (c.nodes.l[i]).inn.l.length := by simp [Hh, hii]
  unfold Cc at hne
  rw [if_neg (by rw [← hkk]; omega)] at hne
  split at hne
  ·cases hne
  rename_i hfan
  split at hne
  ·cases hne
  rename_i hout
  split at hne
  ·cases hne
  rename_i htri
  have h13 : ¬ An c i = 13 := fun h13 => by
   have hk13 : (c.nodes.l[i]).k = 13 := by rw [← hkk]; exact h13
   have hn0 : 0 < (c.nodes.l[i]).inn.l.length := by
    rw [hk13] at hfan
    have : (Q8 13).1 = 1 := by decide
    omega
   have hm := List.getElem_mem hn0
   have ht : Xz c (c.nodes.l[i]).inn.l[0] = false := by
    have hall := List.any_eq_false.1 (Bool.eq_false_iff.2 fun h => htri ⟨hk13, h⟩) _ hm
    simpa using hall
   have hb := hcb hcomb _ (by rw [hii]; exact hm)
   have hlt : ((c.nodes.l[i]).inn.l[0]).toNat < c.nodes.l.length := by omega
   refine no12 _ hlt ?_
   simp [Xz] at ht
   simp [An, hlt] at ht ⊢
   exact ht
  have hne12 := no12 i hin
  refine q9Q (by omega) (by rw [hlen, hkk]; omega) fun v hv => ?_
  obtain ⟨q, hq, rfl⟩ := List.mem_map.1 hv
  exact (hcb hcomb q hq).2
 ·rw [if_neg hcomb]
  exact hb i hin (by simpa using hcomb)
def Re (c : Ax) (rd : List (List Int)) : List Int := (mems c).map fun n => (rd.getD (nd c n).mem.toNat []).getD (nd c n).bit.toNat 0
def Si (c : Ax) (pin pst : List Int) (rd : List (List Int)) : List Int := Dk (mems c) (Re c rd) (Yo c pin pst)
def q5C (c : Ax) (pin pst : List Int) (rd : List (List Int)) : List Int := q2x c (L0 c) (Si c pin pst rd)
theorem q9h {c : Ax} {rd : List (List Int)} : (Re c rd).length = (mems c).length := by simp [Re]
theorem q1k {c : Ax} {pin pst : List Int} {rd : List (List Int)} : (Si c pin pst rd).length = c.nodes.l.length := by unfold Si; rw [K2, Yp]
theorem q1l {c : Ax} {pin pst : List Int} {rd : List (List Int)} : (q5C c pin pst rd).length = c.nodes.l.length := by unfold q5C; rw [q3h, q1k]
theorem qCj {c : Ax} (h : Cj c = 0) (pin pst : List Int) (rd : List (List Int)) : qGv c (Si c pin pst rd) (q5C c pin pst rd) := qF6 h (Qc c).1 (Qc c).2 q1k
theorem q9i {c : Ax} (hm : mems c = []) {pin pst : List Int} {rd : List (List Int)} : q5C c pin pst rd = Ti c pin pst := by
 unfold q5C Si Re Ti
 rw [hm]
 rfl
theorem qDx {c : Ax} {pin pst : List Int} {rd : List (List Int)} {i : Nat} (hi : i < c.nodes.l.length) :
  (Si c pin pst rd).getD i 0 = if An c i = 15 then (Re c rd).getD (Np 15 c i) 0 else (Yo c pin pst).getD i 0 := by
 have n15 := (q1d [15] c.nodes.l 0).2
 have r15 : ∀ n ∈ mems c, 0 ≤ n := fun n hn => (Gv n hn).1
 unfold Si
 by_cases hk : An c i = 15
 ·obtain ⟨a, b⟩ := q5k hi hk
  have e : (mems c)[Np 15 c i]'a = (i : Int) := by show (Il [15] c.nodes.l 0)[Np 15 c i] = _; rw [← b, Aw a]
  have := q3i (ns := mems c) (vs := Re c rd) (nets := Yo c pin pst) (j := Np 15 c i) n15 (fun n hn => by rw [Yp]; have := Gv n hn; omega) q9h.symm a
  rw [e] at this
  simp only [Int.toNat_natCast] at this
  rw [this, if_pos hk]
 ·have : (i : Int) ∉ mems c := fun hm => hk ((q3j hi).1 hm)
  rw [Yn r15 this, if_neg hk]
theorem qAr {c : Ax} {rd : List (List Int)} {i : Nat} (hi : i < c.nodes.l.length) (hk : An c i = 15) :
  (Re c rd).getD (Np 15 c i) 0 = (rd.getD (nd c i).mem.toNat []).getD (nd c i).bit.toNat 0 := by
 obtain ⟨a, b⟩ := q5k hi hk
 have e : (mems c)[Np 15 c i]'a = (i : Int) := by show (Il [15] c.nodes.l 0)[Np 15 c i] = _; rw [← b, Aw a]
 have e2 : (mems c)[Np 15 c i]? = some (i : Int) := by rw [List.getElem?_eq_getElem (l := mems c) a, e]
 unfold Re
 rw [List.getD_eq_getElem?_getD, List.getElem?_map, e2]
 rfl
theorem q9j {c : Ax} (h : Cj c = 0) (h12 : (Il [12] c.nodes.l 0).length = 0) {a b : List Int} {rd : List (List Int)} (ha : a.length = (Be c).length) (hb : b.length = (Ap c).length)
  (h1 : ∀ v ∈ a, 0 ≤ v ∧ v ≤ 1) (h2 : ∀ v ∈ b, 0 ≤ v ∧ v ≤ 1) (h3 : ∀ l ∈ rd, ∀ v ∈ l, 0 ≤ v ∧ v ≤ 1) : ∀ i, i < c.nodes.l.length → 0 ≤ (q5C c a b rd).getD i 0 ∧ (q5C c a b rd).getD i 0 ≤ 1 := by
 have gd : ∀ (l : List Int), (∀ v ∈ l, 0 ≤ v ∧ v ≤ 1) → ∀ j, 0 ≤ l.getD j 0 ∧ l.getD j 0 ≤ 1 := fun l h j => by
  by_cases hj : j < l.length
  ·rw [Aw hj]; exact h _ (List.getElem_mem hj)
  ·rw [List.getD_eq_getElem?_getD, List.getElem?_eq_none (by omega)]; simp
 refine qCi h h12 (qCj h a b rd) fun i hi hc => ?_
 rw [qDx hi, qF7 ha hb hi]
 split
 ·rename_i hk
  rw [qAr hi hk]
  refine gd _ (fun v hv => ?_) _
  by_cases hm : (nd c i).mem.toNat < rd.length
  ·rw [List.getD_eq_getElem?_getD, List.getElem?_eq_getElem hm, Option.getD_some] at hv
   exact h3 _ (List.getElem_mem hm) v hv
  ·rw [List.getD_eq_getElem?_getD, List.getElem?_eq_none (by omega)] at hv
   cases hv
 split
 ·exact gd _ h1 _
 split
 ·exact gd _ h2 _
 ·omega
def Ov : Nat → List Int → Bool
 | i, [] => decide (i = 0)
 | i, v :: l => if v ≤ 1 ∧ v ≠ (i : Int) % 2 then false else Ov (i / 2) l
def q2Q (a b : Int) : Int := if a = b then a else 2
def Y3 (w : List Int) (b : Nat) : Int := if b < w.length then Du (w.getD b 0) else 2
def U5 (w : List Int) (first : Bool) : Nat → Nat → List Int → List Int
 | 0, _, out => out
 | k + 1, b, out => U5 w first k (b + 1) (out.set b (if first then Y3 w b else q2Q (out.getD b 0) (Y3 w b)))
def q1J (addr : List Int) : Nat → List (List Int) → List Int × Bool → List Int × Bool
 | _, [], s => s
 | i, w :: ws, s => q1J addr (i + 1) ws (if Ov i addr then (U5 w s.2 s.1.length 0 s.1, false) else s)
def Vz (words : List (List Int)) (addr : List Int) : List Int := match words with
 | [] => []
 | w :: ws => (q1J addr 0 (w :: ws) (List.replicate w.length 2, true)).1
def q40 (addr : List Int) (en : Int) : Bool := decide (en = 1) && !addr.any fun v => !Kz v
def q1K (i : Nat) (addr : List Int) (en old new : Int) : Int := if en = 0 ∨ Ov i addr = false then old else if q40 addr en = true then new else q2Q old new
def Qm (i : Nat) (addr data : List Int) (en : Int) (w : List Int) : Nat → Nat → List Int
 | 0, _ => []
 | k + 1, b => q1K i addr en (Y3 w b) (Y3 data b) :: Qm i addr data en w k (b + 1)
def Eg (addr data : List Int) (en : Int) : Nat → List (List Int) → List (List Int)
 | _, [] => []
 | i, w :: ws => Qm i addr data en w w.length 0 :: Eg addr data en (i + 1) ws
def q5D (v x y : Int) : Int := if v = 0 then x else if v = 1 then y else q2Q x y
def q7I (i : Int) (v en w d : Int) : Int := if en = 0 ∨ v ≤ 1 ∧ v ≠ i then w else if en = 1 ∧ v ≤ 1 then d else q2Q w d
theorem qDy {v : Int} (h : 0 ≤ v) : (Ov 0 [v] = !decide (v = 1)) ∧ (Ov 1 [v] = !decide (v = 0)) := by
 constructor
 ·simp only [Ov]
  by_cases h1 : v = 1
  ·simp [h1]
  ·rw [if_neg (by omega)]; simp [h1]
 ·simp only [Ov]
  by_cases h1 : v = 0
  ·simp [h1]
  ·rw [if_neg (by omega)]; simp [h1]
theorem qIe {a b c d v : Int} (h : 0 ≤ v) : Vz [[a, b], [c, d]] [v] = [q5D v (Du a) (Du c), q5D v (Du b) (Du d)] := by
 obtain ⟨h0, h1⟩ := qDy h
 simp only [Vz, q1J, h0, h1]
 by_cases e1 : v = 1
 ·subst e1; simp [U5, Y3, q5D, List.replicate]
 by_cases e0 : v = 0
 ·subst e0; simp [U5, Y3, q5D, List.replicate]
 simp [e0, e1, U5, Y3, q5D, List.replicate]
theorem qH4 {a b c d v x y en : Int} (h : 0 ≤ v) : Eg [v] [x, y] en 0 [[a, b], [c, d]] = [[q7I 0 v en (Du a) (Du x), q7I 0 v en (Du b) (Du y)], [q7I 1 v en (Du c) (Du x), q7I 1 v en (Du d) (Du y)]] := by
 obtain ⟨h0, h1⟩ := qDy h
 have e : ∀ (o n : Int), q1K 0 [v] en o n = q7I 0 v en o n ∧ q1K 1 [v] en o n = q7I 1 v en o n := fun o n => by
  unfold q1K q7I q40
  rw [h0, h1]
  simp only [List.any_cons, List.any_nil, Kz]
  constructor
  ·by_cases e1 : v = 1 <;> by_cases e2 : en = 0 <;> by_cases e3 : en = 1 <;> by_cases e4 : v ≤ 1 <;> simp_all <;> omega
  ·by_cases e1 : v = 0 <;> by_cases e2 : en = 0 <;> by_cases e3 : en = 1 <;> by_cases e4 : v ≤ 1 <;> simp_all <;> omega
 simp [Eg, Qm, Y3, e]
theorem q5E {v x y : Int} (hv : 0 ≤ v ∧ v ≤ 1) (hx : 0 ≤ x ∧ x ≤ 1) (hy : 0 ≤ y ∧ y ≤ 1) : 0 ≤ q5D v x y ∧ q5D v x y ≤ 1 := by
 unfold q5D q2Q
 repeat' split
 all_goals omega
theorem Zy {i v en w d : Int} (hv : 0 ≤ v ∧ v ≤ 1) (he : 0 ≤ en ∧ en ≤ 1) (hw : 0 ≤ w ∧ w ≤ 1) (hd : 0 ≤ d ∧ d ≤ 1) : 0 ≤ q7I i v en w d ∧ q7I i v en w d ≤ 1 := by
 unfold q7I q2Q
 repeat' split
 all_goals omega
end Go.Lg
namespace Go.Lg
open Go
section
variable {P : Program} {Γ : Tables} {Q : AX → St → Prop} {s : St}
/- slices.Repeat[[]probecard/api.Value,probecard/api.Value] (function 117) -/
abbrev Jq : IC := .gh (.seq (.seq (.reg [om 34 8, om 35 7, od 36 (le 0 35), od 37 (.bin .lss (tm 34) (tm 36))] [kp [7, 8, 37] [30]]) (.cond (tm 37) .skip (.exit 0))) (.block 1 (.reg [om 38 8, om 39 7, om 40 8, od 41 (.slice 1 (tm 39) (some (tm 40))
 none none), om 42 7, om 43 8, od 44 (.slice 1 (tm 42) none (some (tm 43)) none), od 45 (.cpy 1 (tm 41) (tm 44)), od 46 (.bin .add (tm 38) (tm 45)), om 8 46] [kp [7, 8] [30]]))) [kp [7, 8] [30]]
def Dq : IC := .loop Jq
abbrev Jr : IC := (.seq (.reg [od 4 (.mv kN)] [kp [0, 1] []]) (.seq (.seq (.reg [om 9 1, od 10 (.bin .lss (tm 9) (ki 0))] [kp [0, 1, 10] []]) (.cond (tm 10) .dead .skip)) (.seq (.reg [om 13 0, od 14 (le 0 13), od 15 (.conv .u64 (tm 14)), om 16 1, od
 17 (.conv .u64 (tm 16)), od 18 (.call 144 [(tm 15), (tm 17)]), om 12 18, od 19 (ex 12 0), od 20 (ex 12 1), om 5 19, om 6 20] [kp [0, 5, 6] []]) (.seq (.seq (.reg [om 21 5, od 22 (.bin .gtr (tm 21) (.const (.int .u64 0))), om 23 22,
 oF 24 (.mv (tm 6)) 23, oF 25 (.bin .gtr (tm 24) (.const (.int .u64 9223372036854775807))) 23, od 26 (.pick (tm 23) kT (tm 25))] [kp [0, 6, 26] []]) (.cond (tm 26) .dead .skip)) (.seq (.reg [om 28 6, od 29 (.conv .i64 (tm 28)), od
 30 (.mk 61 1 [(.int .u8 0)] (tm 29) (tm 29)), om 7 30] [kp [0, 7] [30]]) (.seq (.reg [om 31 7, om 32 0, od 33 (.cpy 1 (tm 31) (tm 32)), om 8 33] [kp [7, 8] [30]]) (.seq (.block 0 Dq) (.seq (.reg [om 47 7, om
 4 47] [kp [4] [30]]) .ret))))))))
theorem E3 (h : ∀ K : St → Prop, K = run P Γ Dq Q → run P Γ Jq (Aq K Q) s) : run P Γ Dq Q s := Ac h
def G2 : List RV := [.tmp 4]
/- probecard/sims.Blank (function 71) -/
abbrev q5F : IC := (.seq (.reg [od 4 (.mv (.const (.int .u64 0))), od 5 (.mv (.const (.int .u64 0)))] [kp [0, 1] []]) (.seq (.cond kF (.seq (.reg [om 11 0, od 12 (.conv .u32 (tm 11)), om 13 1, od 14 (.conv .u32 (tm 13)), od 15 (.call 160 [(tm 12),
 (tm 14)]), om 10 15, od 16 (ex 10 0), od 17 (ex 10 1), om 6 16, om 7 17] [kp [6, 7] []]) (.seq (.reg [om 18 6, od 19 (.conv .u64 (tm 18)), om 20 7, od 21 (.conv .u64 (tm 20)), om 4 19, om 5 21] [kp [4, 5] []]) .ret)) .skip) (.seq
 (.reg [om 23 0, om 24 1, od 25 (.call 161 [(tm 23), (tm 24)]), om 22 25, od 26 (ex 22 0), od 27 (ex 22 1), om 8 26, om 9 27] [kp [8, 9] []]) (.seq (.reg [om 28 8, om 29 9, om 4 28, om 5 29] [kp [4, 5] []]) .ret))))
def q5G : List RV := [.tmp 4, .tmp 5]
/- math/bits.Mul64 (function 161) -/
abbrev q2R : IC := (.seq (.reg [od 4 (.mv (.const (.int .u64 0))), od 5 (.mv (.const (.int .u64 0)))] [kp [0, 1] []]) (.seq (.reg [om 14 0, od 15 (.bin .and (tm 14) (.const (.int .u64 4294967295))), om 6 15] [kp [0, 1, 6] []]) (.seq (.reg [om 16 0,
 od 17 (.bin .shr (tm 16) (.const (.int .u64 32))), om 7 17] [kp [0, 1, 6, 7] []]) (.seq (.reg [om 18 1, od 19 (.bin .and (tm 18) (.const (.int .u64 4294967295))), om 8 19] [kp [0, 1, 6, 7, 8] []]) (.seq (.reg [om 20 1, od 21 (.bin
 .shr (tm 20) (.const (.int .u64 32))), om 9 21] [kp [0, 1, 6, 7, 8, 9] []]) (.seq (.reg [om 22 6, om 23 8, od 24 (.bin .mul (tm 22) (tm 23)), om 10 24] [kp [0, 1, 6, 7, 8, 9, 10] []]) (.seq (.reg [om 25 7, om 26 8, od 27 (.bin .mul
 (tm 25) (tm 26)), om 28 10, od 29 (.bin .shr (tm 28) (.const (.int .u64 32))), od 30 (.bin .add (tm 27) (tm 29)), om 11 30] [kp [0, 1, 6, 7, 9, 11] []]) (.seq (.reg [om 31 11, od 32 (.bin .and (tm 31) (.const (.int .u64
 4294967295))), om 12 32] [kp [0, 1, 6, 7, 9, 11, 12] []]) (.seq (.reg [om 33 11, od 34 (.bin .shr (tm 33) (.const (.int .u64 32))), om 13 34] [kp [0, 1, 6, 7, 9, 12, 13] []]) (.seq (.reg [om 35 12, om 36 6, om 37 9, od 38 (.bin
 .mul (tm 36) (tm 37)), od 39 (.bin .add (tm 35) (tm 38)), om 12 39] [kp [0, 1, 7, 9, 12, 13] []]) (.seq (.reg [om 40 7, om 41 9, od 42 (.bin .mul (tm 40) (tm 41)), om 43 13, od 44 (.bin .add (tm 42) (tm 43)), om 45 12, od 46 (.bin
 .shr (tm 45) (.const (.int .u64 32))), od 47 (.bin .add (tm 44) (tm 46)), om 4 47] [kp [0, 1, 4] []]) (.seq (.reg [om 48 0, om 49 1, od 50 (.bin .mul (tm 48) (tm 49)), om 5 50] [kp [4, 5] []]) .ret))))))))))))
def q2S : List RV := [.tmp 4, .tmp 5]
end
end Go.Lg
namespace Go.Lg
open Go Go.Proofs
theorem Ul : As Tryz.prog 117 Jr 48 2 G2 = true := by kernel_rfl
theorem q8W : As Tryz.prog 144 q5F 30 2 q5G = true := by kernel_rfl
theorem q6t : As Tryz.prog 161 q2R 51 2 q2S = true := by kernel_rfl
end Go.Lg
namespace Go.Lg
open Go
section
variable {P : Program} {Γ : Tables} {Q : AX → St → Prop} {s : St}
/- slices.Clone[[]probecard/api.Value,probecard/api.Value] (function 44) -/
abbrev Dw : IC := (.seq (.reg [od 2 (.mv kN)] [kp [0] []]) (.seq (.seq (.reg [om 3 0, od 4 (.isNil true (tm 3))] [kp [0, 4] []]) (.cond (tm 4) (.seq (.reg [od 2 (.mv kN)] [kp [2] []]) .ret) .skip)) (.seq (.reg [od 5 (.bsl true 61 1 []), om 6 0, od 7
 (.appT 61 1 (tm 5) (tm 6)), om 2 7] [kp [2] []]) .ret)))
def Dx : List RV := [.tmp 2]
end
end Go.Lg
namespace Go.Lg
open Go Go.Proofs
theorem W0 : As Tryz.prog 44 Dw 8 1 Dx = true := by kernel_rfl
end Go.Lg
namespace Go.Lg
open Go Go.Proofs
variable {Γ : Tables}
abbrev Pnt := Int × Int
def qDz (l : List (Int × Pnt)) (n : Int) : Pnt := match l.find? (fun p => p.1 == n) with | some p => p.2 | none => (0, 0)
def qFj (l : List (Int × Pnt)) : Prop := ∀ p ∈ l, -1000000 ≤ p.2.1 ∧ p.2.1 ≤ 1000000 ∧ -1000000 ≤ p.2.2 ∧ p.2.2 ≤ 1000000
theorem qFj.at {l : List (Int × Pnt)} (h : qFj l) (n : Int) : -1000000 ≤ (qDz l n).1 ∧ (qDz l n).1 ≤ 1000000 ∧ -1000000 ≤ (qDz l n).2 ∧ (qDz l n).2 ≤ 1000000 := by
 unfold qDz
 split
 ·rename_i p hp
  exact h p (List.mem_of_find?_eq_some hp)
 ·simp
def qJV {α : Type} (s : Sl α) : Prop := (s.nl = some true → s.l = []) ∧ (s.nl = none → s.l ≠ []) ∧ s.l.length ≤ 1000000
theorem q4f (s : Sl Int) (hs : qJV s) : Ae Tryz.prog Γ 44 [tV s] (if s.nl = some true then .sl [] (some 0) (some true) else .sl (Ab s.l) none none) := by
 refine B5 W0 rfl ?_
 obtain ⟨l, cap, nl⟩ := s
 obtain ⟨h1, h2, h3⟩ := hs
 simp only at h1 h2 h3
 rcases nl with _ | _ | _
 ·have h4 : Ab l ≠ [] := by simpa [Af] using h2 rfl
  simp (disch := omega) [Dw, Dx, A5, A1, h4, B6, tV]
  omega
 ·simp (disch := omega) [Dw, Dx, A5, A1, B6, tV]
  omega
 ·have := h1 rfl
  subst this
  simp [Dw, Dx, tV]
theorem qE0 {w : World} {X : Nat → Prop} {cap : Option Nat} {v : Value} (h : TR w X (.sl [] cap none) v) : TR w X (.sl [] cap (some true)) v ∨ TR w X (.sl [] cap (some false)) v := by
 cases h with
 | nil _ _ a c hc hn hz =>
  cases a with
  | none => exact .inl (.nil cap (some true) none c hc (fun b hb => by cases hb; rfl) hz)
  | some a => exact .inr (.nil cap (some false) (some a) c hc (fun b hb => by cases hb; rfl) hz)
 | sl _ _ _ s b off c f hcell hlen hrel hone hx hle hc hq =>
  exact .inr (.sl [] cap (some false) s b off c f hcell hlen hrel hone hx hle hc (fun q hq => by cases hq; rfl))
theorem qFD {w : World} {X : Nat → Prop} {es : List (List T)} {cap : Option Nat} {nl : Option Bool} {v : Value} (h : TR w X (.sl es cap nl) v) : TR w X (.sl es none none) v := by
 cases h with
 | nil _ _ a c hc hn hz => exact .nil none none a c (fun n h => nomatch h) (fun n h => nomatch h) hz
 | sl _ _ _ s b off c f hcell hlen hrel hone hx hle hc hq => exact .sl es none none s b off c f hcell hlen hrel hone hx hle (fun n h => nomatch h) (fun n h => nomatch h)
theorem q7x {P : Program} {f : FuncId} {args : List T} {es : List (List T)} {cap : Option Nat} {nl : Option Bool} (h : Ae P Γ f args (.sl es cap nl)) : Ae P Γ f args (.sl es none none) :=
 fun w X vs hg hx hr => (h w X vs hg hx hr).mono fun v w' ⟨hb, ht⟩ => ⟨hb, qFD ht⟩
theorem qAs {P : Program} {f : FuncId} {cap : Option Nat} {r : T} (h1 : Ae P Γ f [.sl [] cap (some true)] r) (h2 : Ae P Γ f [.sl [] cap (some false)] r) : Ae P Γ f [.sl [] cap none] r :=
 fun w X vs hg hx hr => by
  obtain ⟨x, ys, rfl, hx1, hy⟩ := hr.cons_inv
  rcases qE0 hx1 with h | h
  ·exact h1 w X _ hg hx (Eh.cons h hy)
  ·exact h2 w X _ hg hx (Eh.cons h hy)
def q8X (s : Sl Int) : Sl Int := if s.nl = some true then ⟨[], some 0, some true⟩ else ⟨s.l, none, none⟩
theorem qCk (s : Sl Int) (h1 : s.nl = some true → s.l = []) (h2 : s.l.length ≤ 1000000) : Ae Tryz.prog Γ 44 [tV s] (tV (q8X s)) := by
 obtain ⟨l, cap, nl⟩ := s
 simp only at h1 h2
 by_cases h3 : nl = none ∧ l = []
 ·obtain ⟨rfl, rfl⟩ := h3
  have a1 := q4f (Γ := Γ) ⟨[], cap, some true⟩ ⟨fun _ => rfl, (fun h => nomatch h), Nat.zero_le _⟩
  have a2 := q4f (Γ := Γ) ⟨[], cap, some false⟩ ⟨(fun h => nomatch h), (fun h => nomatch h), Nat.zero_le _⟩
  exact qAs (q7x a1) (q7x a2)
 ·have := q4f (Γ := Γ) ⟨l, cap, nl⟩ ⟨h1, fun a b => h3 ⟨a, b⟩, h2⟩
  unfold q8X
  by_cases hn : nl = some true
  ·have hl := h1 hn
   subst hn
   subst hl
   simpa [tV, I8] using this
  ·simpa [tV, hn] using this
end Go.Lg
namespace Go.Lg
open Go
section
variable {P : Program} {Γ : Tables} {Q : AX → St → Prop} {s : St}
/- slices.Clip[[][]probecard/api.Value,[]probecard/api.Value] (function 48) -/
abbrev Kt : IC := (.seq (.reg [od 2 (.mv kN)] [kp [0] []]) (.seq (.reg [om 3 0, om 4 0, od 5 (le 0 4), om 6 0, od 7 (le 0 6), od 8 (.slice 1 (tm 3) none (some (tm 5)) (some (tm 7))), om 2 8] [kp [2] []]) .ret))
def Ku : List RV := [.tmp 2]
end
end Go.Lg
namespace Go.Lg
open Go Go.Proofs
theorem W1 : As Tryz.prog 48 Kt 9 1 Ku = true := by kernel_rfl
end Go.Lg
namespace Go.Lg
open Go Go.Proofs
variable {Γ : Tables}
def qFk (l : List (Sl Int)) : List Int := (l.map fun s => s.l).flatten
end Go.Lg
namespace Go.Lg
open Go Go.Proofs
def m0 (c : Ax) (ch : List (Sl Int)) : Nat := c.nodes.l.length + 1 + ch.length
theorem q6u {x : CD} {first : Nat} : ∀ {k i : Nat} {ns : List Nd} {q : Nat}, ((Yk x first k i ns).getD q Nd.d).k = (ns.getD q Nd.d).k
 | 0, _, _, _ => rfl
 | k + 1, i, ns, q => by
  simp only [Yk]
  rw [q6u, q6s]
end Go.Lg
namespace Go.Lg
open Go Go.Proofs
variable {Γ : Tables}
theorem gE' {α : Type} {f : α → T} {l : List α} {i : Nat} (d : α) (h0 : i < l.length) : ∀ h : i < (Af f l).length, (Af f l)[i] = [f (l.getD i d)] := fun h => by
 have := C2 (f := f) d h0
 rw [List.getElem?_eq_getElem h] at this
 simpa [List.getD_eq_getElem?_getD] using this
theorem gE {α : Type} {f : α → T} {l : List α} {i : Nat} (d : α) (h0 : i < l.length) : (Af f l)[i]?.getD [] = [f (l.getD i d)] := by
 rw [List.getElem?_eq_getElem (by rw [A1]; exact h0)]
 exact gE' d h0 _
theorem q6v {n : Int} (h1 : 0 ≤ n) (h2 : n < 18446744073709551616) : IntKind.u64.wrap n = n := by
 simp [IntKind.wrap, IntKind.signed, IntKind.bits]
 omega
theorem qIf {n : Nat} (h : n < 4294967296) : IntKind.u64.wrap ((BitVec.ofInt 64 (n : Int) &&& BitVec.ofInt 64 4294967295).toNat : Int) = n := by
 have e : (BitVec.ofInt 64 (n : Int) &&& BitVec.ofInt 64 4294967295).toNat = n := by
  rw [BitVec.toNat_and]
  have h1 : (BitVec.ofInt 64 (n : Int)).toNat = n := by
   simp [BitVec.toNat_ofInt]; omega
  have h2 : (BitVec.ofInt 64 4294967295).toNat = 2 ^ 32 - 1 := by decide
  rw [h1, h2, Nat.and_two_pow_sub_one_eq_mod]
  omega
 rw [e, q6v] <;> omega
theorem qAt {n : Nat} (h : n < 4294967296) : IntKind.u64.wrap ((BitVec.ofNat 64 n &&& 4294967295#64).toNat : Int) = n := by
 have := qIf h
 rwa [show BitVec.ofInt 64 (n : Int) = BitVec.ofNat 64 n from by simp, show BitVec.ofInt 64 4294967295 = 4294967295#64 from rfl] at this
abbrev tU (n : Int) : T := .v (.int .u64 n)
theorem qAu {n : Nat} (h : n < 4294967296) : (n : Int).fdiv 4294967296 = 0 := by
 rw [Int.fdiv_eq_ediv_of_nonneg _ (by omega)]; omega
theorem qAv (a b : Nat) (ha : a < 65536) (hb : b < 65536) : A3 Tryz.prog Γ 161 [tU a, tU b] (.tup [tU 0, tU (a * b : Nat)]) := by
 refine A7 q6t rfl ?_
 have hab : a * b ≤ 65535 * 65535 := Nat.mul_le_mul (by omega) (by omega)
 have a1 := qAt (n := a) (by omega)
 have b1 := qAt (n := b) (by omega)
 have z1 := qAt (n := 0) (by omega)
 have a2 := qAu (n := a) (by omega)
 have b2 := qAu (n := b) (by omega)
 have c2 := qAu (n := a * b) (by omega)
 have m32 : min (32 : Int).toNat 64 = 32 := by decide
 have c1 : IntKind.u64.wrap ((a : Int) * b) = ((a * b : Nat) : Int) := by rw [← Int.natCast_mul, q6v] <;> omega
 have z2 : IntKind.u64.wrap 0 = 0 := by decide
 simp [q2R, q2S, IntKind.bits, a1, b1, a2, b2, c1, c2, z1, z2, m32, -Int.natCast_mul]
 erw [a1, b1, c1, c2, z2]
theorem qE1 (a b : Nat) (ha : a < 65536) (hb : b < 65536) : A3 Tryz.prog Γ 144 [tU a, tU b] (.tup [tU 0, tU (a * b : Nat)]) := by
 refine A7 q8W rfl ?_
 simp [q5F]
 refine A0 (qAv a b ha hb) rfl ?_
 simp [q5G]
theorem qE2 {j n : Nat} (h1 : 0 < j) (h2 : j < n) : (List.replicate j [tK 2] ++ List.replicate (n - j) [tK 0]).take j ++ ((List.replicate j [tK 2] ++ List.replicate (n - j) [tK 0]).take j).take (min (n - j) j) ++ (List.replicate j [tK 2] ++ List.replicate (n - j) [tK 0]).drop (j + min (n - j) j) = List.replicate (j + min (n - j) j) [tK 2] ++ List.replicate (n - (j + min (n - j) j)) [tK 0] := by
 have e1 : (List.replicate j [tK 2] ++ List.replicate (n - j) [tK 0]).take j = List.replicate j [tK 2] := by
  rw [List.take_append_of_le_length (by simp), List.take_of_length_le (by simp)]
 have e2 : (List.replicate j [tK 2]).take (min (n - j) j) = List.replicate (min (n - j) j) [tK 2] := by
  rw [List.take_replicate, Nat.min_eq_left (Nat.min_le_right _ _)]
 rw [e1, e2, ← List.replicate_append_replicate (n := j), List.drop_append, List.drop_of_length_le (by simp), List.nil_append, List.drop_replicate]
 congr 2
 simp; omega
theorem q9k {Q : AX → St → Prop} (n : Nat) (hn : n ≤ 1000000)
  (h0 : Q (.exit 0) ⟨[(7, .ls 30 0 n none), (8, .t (tI n)), (37, .t (tB false))], [(30, .sl 61 1 (List.replicate n [tK 2]))]⟩) :
  ∀ (f j : Nat), n - j ≤ f → 0 < j → j ≤ n →
  run Tryz.prog Γ Dq Q ⟨[(7, .ls 30 0 n none), (8, .t (tI j))], [(30, .sl 61 1 (List.replicate j [tK 2] ++ List.replicate (n - j) [tK 0]))]⟩
 | 0, j, hf, h1, h2 => by
  refine E3 fun K hK => ?_
  have h3 : j = n := by omega
  subst h3
  simp
  simpa using h0
 | f + 1, j, hf, h1, h2 => by
  refine E3 fun K hK => ?_
  by_cases h3 : j = n
  ·subst h3
   simp
   simpa using h0
  ·have h4 : j < n := by omega
   have ih := q9k n hn h0 f (j + min (n - j) j) (by omega) (by omega) (by omega)
   rw [← qE2 h1 h4] at ih
   have hw : E4 1 (List.replicate j [tK 2] ++ List.replicate (n - j) [tK 0]) := by
    intro e he
    rcases List.mem_append.1 he with he | he <;> rw [List.eq_of_mem_replicate he] <;> rfl
   have hl : (List.replicate j [tK 2] ++ List.replicate (n - j) [tK 0]).length = n := by simp; omega
   generalize List.replicate j [tK 2] ++ List.replicate (n - j) [tK 0] = es at *
   have hwt : E4 1 (es.take j) := fun e he => hw e (List.mem_of_mem_take he)
   have hjn : min j n = j := by omega
   have w1 : IntKind.i64.wrap ((j : Int) + ((min (n - j) j : Nat) : Int)) = ((j + min (n - j) j : Nat) : Int) := by rw [A4] <;> omega
   simp [h4, h2, hl, hwt, hjn, w1, -Int.natCast_add]
   rw [hK]
   simpa using ih
theorem qJW {n : Nat} (h : n < 4611686018427387904) : IntKind.i64.wrap ((n % 2 ^ IntKind.i64.bits &&& 1 % 2 ^ IntKind.i64.bits : Nat) : Int) = ((n % 2 : Nat) : Int) := by
 have e : (n % 2 ^ IntKind.i64.bits &&& 1 % 2 ^ IntKind.i64.bits : Nat) = n % 2 := by
  have h0 : IntKind.i64.bits = 64 := rfl
  rw [h0, Nat.mod_eq_of_lt (show n < 2 ^ 64 by omega), show 1 % 2 ^ 64 = 2 ^ 1 - 1 by decide, Nat.and_two_pow_sub_one_eq_mod]
 rw [e, A4] <;> omega
theorem qIg {n : Nat} : (n : Int).fdiv (2 ^ min 1 IntKind.i64.bits) = ((n / 2 : Nat) : Int) := by
 have h1 : min 1 IntKind.i64.bits = 1 := by decide
 rw [h1, Int.fdiv_eq_ediv_of_nonneg _ (by omega)]; omega
theorem qAw {Q : AX → St → Prop} (addr : Sl Int) (hl : addr.l.length ≤ 1000000) (hv : ∀ v ∈ addr.l, 0 ≤ v) (R : Bool)
  (h0 : ∀ i : Nat, decide (i = 0) = R → Q (.exit 0) ⟨[(0, .t (tI i)), (7, .t (tV addr)), (8, .t (tI addr.l.length)), (9, .t (tI addr.l.length)), (10, .t (tB false))], []⟩)
  (h1 : R = false → Q .ret ⟨[(4, .t (tB false))], []⟩) :
  ∀ (k j i : Nat), k + j = addr.l.length → i ≤ 1000000000 → Ov i (addr.l.drop j) = R →
  run Tryz.prog Γ H3 Q ⟨[(0, .t (tI i)), (7, .t (tV addr)), (8, .t (tI addr.l.length)), (9, .t (tI j))], []⟩
 | 0, j, i, h, hi, hR => by
  refine Nu fun K hK => ?_
  have h2 : j = addr.l.length := by omega
  subst h2
  rw [List.drop_of_length_le (Nat.le_refl _)] at hR
  have := h0 i hR
  simp
  simpa using this
 | k + 1, j, i, h, hi, hR => by
  refine Nu fun K hK => ?_
  have h2 : j < addr.l.length := by omega
  rw [List.drop_eq_getElem_cons h2] at hR
  have e1 := gE (f := tK) 0 h2
  have e1' := gE' (f := tK) 0 h2
  have hv0 := hv _ (List.getElem_mem h2)
  rw [Aw h2] at e1 e1'
  generalize addr.l[j] = v at *
  have w1 : IntKind.i64.wrap ((j : Int) + 1) = (j : Int) + 1 := by rw [A4] <;> omega
  have a1 := qJW (n := i) (by omega)
  have f1 := qIg (n := i)
  have hk := Qg (Γ := Γ) v
  simp only [Ov] at hR
  simp [tV, A1, A5, h2, e1, e1']
  refine A0 hk rfl ?_
  by_cases hv1 : v ≤ 1
  ·have wv : IntKind.i64.wrap v = v := by rw [A4] <;> omega
   by_cases hne : v = (i : Int) % 2
   ·rw [if_neg (by simp [hne])] at hR
    have ih := qAw addr hl hv R h0 h1 k (j + 1) (i / 2) (by omega) (by omega) hR
    simp [Kz, hv1, wv, a1, ← hne, f1, w1]
    rw [hK]
    simpa [tV] using ih
   ·rw [if_pos ⟨hv1, hne⟩] at hR
    simp [Kz, hv1, wv, a1, hne]
    exact h1 hR.symm
  ·rw [if_neg (by simp [hv1])] at hR
   have ih := qAw addr hl hv R h0 h1 k (j + 1) (i / 2) (by omega) (by omega) hR
   simp [Kz, hv1, f1, w1]
   rw [hK]
   simpa [tV] using ih
theorem Dc {i : Nat} (h : i ≤ 1000000000) : IntKind.i64.wrap ((i : Int) + 1) = (i : Int) + 1 := by rw [A4] <;> omega
theorem q41 (i : Nat) (hi : i ≤ 1000000000) (addr : Sl Int) (hl : addr.l.length ≤ 1000000) (hv : ∀ v ∈ addr.l, 0 ≤ v) : A3 Tryz.prog Γ 102 [tI i, tV addr] (tB (Ov i addr.l)) := by
 refine A7 q1E rfl ?_
 have g := fun Q h0 h1 => qAw (Γ := Γ) (Q := Q) addr hl hv (Ov i addr.l) h0 h1 addr.l.length 0 i (by omega) hi rfl
 simp [Tv, tV, A1] at g ⊢
 refine g _ (fun q hq => ?_) (fun hq => ?_)
 ·simp [L2, ← hq]
 ·simp [L2, hq]
theorem q4g (w : Sl Int) (b : Nat) (hb : b ≤ 1000000000) (hw : w.l.length ≤ 1000000000) : A3 Tryz.prog Γ 103 [tV w, tI b] (tK (Y3 w.l b)) := by
 refine A7 q4e rfl ?_
 unfold Y3
 by_cases h : b < w.l.length
 ·have e1 := gE (f := tK) 0 h
  have e1' := gE' (f := tK) 0 h
  rw [if_pos h]
  have hr := Qf (Γ := Γ) (w.l.getD b 0)
  generalize w.l.getD b 0 = v at *
  have h2 : ¬ (w.l.length : Int) ≤ b := by omega
  have h3 : ¬ w.l.length ≤ b := by omega
  simp [T8, tV, A1, A5, h, h2, h3, e1, e1']
  refine A0 hr rfl ?_
  simp [T9]
 ·rw [if_neg h]
  have h2 : (w.l.length : Int) ≤ b := by omega
  have h3 : w.l.length ≤ b := by omega
  simp [T8, tV, A1, h2, h3, T9]
theorem q5H (a b : Int) : A3 Tryz.prog Γ 104 [tK a, tK b] (tK (q2Q a b)) := by
 refine A7 q20 rfl ?_
 unfold q2Q
 by_cases h : a = b
 ·simp [M9, h, Mc]
 ·simp [M9, h, Mc]
theorem qE3 (n : Nat) (hn : n ≤ 60000) : Ge Tryz.prog Γ 117 [] [.t (.sl [[tK 2]] (some 1) (some false)), .t (tI n)] (.ls 30 0 n none) [(30, .sl 61 1 (Ab (List.replicate n 2)))] := by
 refine Ik Ul rfl ?_
 have em : A3 Tryz.prog Γ 144 [tU 1, tU n] (.tup [tU 0, tU n]) := by
  have := qE1 (Γ := Γ) 1 n (by omega) (by omega)
  rwa [Nat.one_mul] at this
 have u1 : IntKind.u64.wrap (n : Int) = n := by rw [q6v] <;> omega
 have u2 : IntKind.u64.wrap 1 = 1 := by decide
 have u3 : IntKind.i64.wrap (n : Int) = n := by rw [A4] <;> omega
 have u4 : ¬ (9223372036854775807 : Int) < n := by omega
 have u5 : ¬ (n : Int) < 0 := by omega
 have hw2 : E4 1 [[tK 2]] := by intro e he; simp at he; subst he; rfl
 have v1 : Ab (List.replicate n 2) = List.replicate n [tK 2] := by simp [Af]
 rw [v1]
 simp [Jr, u1, u2, u5]
 refine A0 em rfl ?_
 simp [u3, u4]
 refine ⟨by omega, ?_⟩
 by_cases h0 : n = 0
 ·subst h0
  simp
  refine E3 fun K hK => ?_
  simp [G2]
 ·have hm1 : min n 1 = 1 := by omega
  have hdr : (List.replicate n [tK 0]).drop 1 = List.replicate (n - 1) [tK 0] := by rw [List.drop_replicate]
  have g := fun Q h0 => q9k (Γ := Γ) (Q := Q) n (by omega) h0 n 1 (by omega) (by omega) (by omega)
  simp at g
  simp [hm1]
  refine g _ ?_
  simp [G2]
theorem qCl (n : Nat) (hn : n ≤ 60000) : Ge Tryz.prog Γ 75 [] [.t (tI n)] (.ls 5030 0 n none) [(5030, .sl 61 1 (Ab (List.replicate n 2)))] := by
 refine Ik q0O rfl ?_
 simp [S7]
 refine ⟨_, _, qE3 n hn, ?_⟩
 simp [S8]
def tW (s : Sl (Sl Int)) : T := .sl (Af tV s.l) s.cap s.nl
def Sl.z : Sl Int := ⟨[], none, none⟩
theorem qFl {Q : AX → St → Prop} (addr : Sl Int) (n : Nat) (hn : n ≤ 1000000) (first : Bool) (w : Sl Int) (hw : w.l.length ≤ 1000000) (tw : T) (len i : Int) (R : List Int)
  (h0 : R.length = n → Q (.exit 2) ⟨[(1, .t (tV addr)), (5, .ls 22030 0 n none), (6, .t (tB first)), (8, .t (tV w)), (18, .t tw), (19, .t (tI len)), (20, .t (tI i)), (30, .t (tI n)), (31, .t (tI n)), (32, .t (tB false))], [(22030, .sl 61 1 (Ab R))]⟩) :
  ∀ (k b : Nat) (out : List Int), k + b = n → out.length = n → U5 w.l first k b out = R →
  run Tryz.prog Γ K7 Q ⟨[(1, .t (tV addr)), (5, .ls 22030 0 n none), (6, .t (tB first)), (8, .t (tV w)), (18, .t tw), (19, .t (tI len)), (20, .t (tI i)), (30, .t (tI n)), (31, .t (tI b))], [(22030, .sl 61 1 (Ab out))]⟩
 | 0, b, out, h, ho, hR => by
  refine S4 fun K hK => ?_
  have h2 : b = n := by omega
  subst h2
  have hR : out = R := hR
  subst hR
  simp
  simpa using h0 ho
 | k + 1, b, out, h, ho, hR => by
  refine S4 fun K hK => ?_
  have h2 : b < n := by omega
  have hbo : b < out.length := by omega
  simp only [U5] at hR
  have ih := qFl addr n hn first w hw tw len i R h0 k (b + 1) _ (by omega) (by rw [List.length_set]; exact ho) hR
  have e1 := gE (f := tK) 0 hbo
  have e1' := gE' (f := tK) 0 hbo
  have hb := q4g (Γ := Γ) w b (by omega) (by omega)
  have hs : ∀ v : Int, (Ab out).set b [tK v] = Ab (out.set b v) := fun v => Ep
  have w1 := Dc (i := b) (by omega)
  generalize out.getD b 0 = o at *
  cases first with
  | true =>
   simp only [if_pos] at ih
   simp [h2]
   refine A0 hb rfl ?_
   simp [h2, hbo, A1, hs, w1, ho]
   rw [hK]
   simpa using ih
  | false =>
   simp only [Bool.false_eq_true, if_false] at ih
   simp [h2, hbo, A1, A5, e1, e1', ho]
   refine A0 hb rfl ?_
   simp
   refine A0 (q5H o (Y3 w.l b)) rfl ?_
   simp [h2, hbo, A1, hs, w1, ho]
   rw [hK]
   simpa using ih
theorem qE4 {Q : AX → St → Prop} (addr : Sl Int) (ha : addr.l.length ≤ 1000000) (hv : ∀ v ∈ addr.l, 0 ≤ v) (n : Nat) (hn : n ≤ 1000000) (words : Sl (Sl Int)) (hl : words.l.length ≤ 1000000) (hw : ∀ w ∈ words.l, w.l.length ≤ 1000000) (R : List Int × Bool)
  (h0 : R.1.length = n → Q (.exit 0) ⟨[(1, .t (tV addr)), (5, .ls 22030 0 n none), (6, .t (tB R.2)), (18, .t (tW words)), (19, .t (tI words.l.length)), (20, .t (tI words.l.length)), (21, .t (tB false))], [(22030, .sl 61 1 (Ab R.1))]⟩) :
  ∀ (k i : Nat) (out : List Int) (first : Bool), k + i = words.l.length → out.length = n → q1J addr.l i ((words.l.drop i).map (·.l)) (out, first) = R →
  run Tryz.prog Γ K8 Q ⟨[(1, .t (tV addr)), (5, .ls 22030 0 n none), (6, .t (tB first)), (18, .t (tW words)), (19, .t (tI words.l.length)), (20, .t (tI i))], [(22030, .sl 61 1 (Ab out))]⟩
 | 0, i, out, first, h, ho, hR => by
  refine S5 fun K hK => ?_
  have h2 : i = words.l.length := by omega
  subst h2
  rw [List.drop_of_length_le (Nat.le_refl _)] at hR
  have hR : (out, first) = R := hR
  subst hR
  have := h0 ho
  simp
  simpa using this
 | k + 1, i, out, first, h, ho, hR => by
  refine S5 fun K hK => ?_
  have h2 : i < words.l.length := by omega
  rw [List.drop_eq_getElem_cons h2, List.map_cons] at hR
  simp only [q1J] at hR
  have e1 := gE (f := tV) Sl.z h2
  have e1' := gE' (f := tV) Sl.z h2
  have hwi := hw _ (List.getElem_mem h2)
  rw [show words.l.getD i Sl.z = words.l[i] by simp [List.getD_eq_getElem?_getD, h2]] at e1 e1'
  have hm := q41 (Γ := Γ) i (by omega) addr ha hv
  have w1 := Dc (i := i) (by omega)
  by_cases hmm : Ov i addr.l = true
  ·rw [if_pos hmm] at hR
   have hlen : ∀ (w : List Int) (f : Bool) (k b : Nat) (o : List Int), (U5 w f k b o).length = o.length := by
    intro w f k
    induction k with
    | zero => intro b o; rfl
    | succ k ih => intro b o; simp only [U5]; rw [ih, List.length_set]
   have ih := qE4 addr ha hv n hn words hl hw R h0 k (i + 1) _ _ (by omega) (by rw [hlen]; exact ho) hR
   generalize words.l[i] = w at *
   have g := fun Q h0 => qFl (Γ := Γ) (Q := Q) addr n hn first w hwi (tW words) words.l.length i (U5 w.l first n 0 out) h0 n 0 out (by omega) ho rfl
   simp only [ho] at ih
   generalize U5 w.l first n 0 out = R1 at *
   rw [hmm] at hm
   simp [tW] at ih g
   simp [tW, A1, A5, h2, e1, e1']
   refine A0 hm rfl ?_
   simp [h2]
   refine g _ fun hR1 => ?_
   simp [w1]
   rw [hK]
   simpa using ih
  ·rw [if_neg hmm] at hR
   have ih := qE4 addr ha hv n hn words hl hw R h0 k (i + 1) _ _ (by omega) ho hR
   generalize words.l[i] = w at *
   simp only [Bool.not_eq_true] at hmm
   rw [hmm] at hm
   simp [tW] at ih
   simp [tW, A1, A5, h2, e1, e1']
   refine A0 hm rfl ?_
   simp [w1]
   rw [hK]
   simpa using ih
theorem q7y (words : Sl (Sl Int)) (hl : words.l.length ≤ 1000000) (hw : ∀ w ∈ words.l, w.l.length ≤ 60000) (addr : Sl Int) (ha : addr.l.length ≤ 1000000) (hv : ∀ v ∈ addr.l, 0 ≤ v) :
  Ae Tryz.prog Γ 45 [tW words, tV addr] (if words.l = [] then .sl [] (some 0) (some true) else .sl (Ab (Vz (words.l.map (·.l)) addr.l)) none none) := by
 refine B5 q3x rfl ?_
 by_cases h0 : words.l = []
 ·rw [if_pos h0]
  simp [Qj, tW, h0, I8, Qk]
 ·rw [if_neg h0]
  have h1 : 0 < words.l.length := List.length_pos_iff.2 h0
  have e1 := gE (f := tV) Sl.z h1
  have e1' := gE' (f := tV) Sl.z h1
  rw [show words.l.getD 0 Sl.z = words.l[0] by simp [List.getD_eq_getElem?_getD, h1]] at e1 e1'
  have hw0 := hw _ (List.getElem_mem h1)
  have hu := qCl (Γ := Γ) words.l[0].l.length hw0
  have hR : Vz (words.l.map (·.l)) addr.l = (q1J addr.l 0 (words.l.map (·.l)) (List.replicate words.l[0].l.length 2, true)).1 := by
   obtain ⟨l, cp, n0⟩ := words
   cases l with
   | nil => exact absurd rfl h0
   | cons w ws => rfl
  rw [hR]
  generalize words.l[0] = w at *
  have g := fun Q h0 => qE4 (Γ := Γ) (Q := Q) addr ha hv w.l.length (by omega) words hl (fun w h => by have := hw w h; omega) (q1J addr.l 0 (words.l.map (·.l)) (List.replicate w.l.length 2, true)) h0 words.l.length 0 (List.replicate w.l.length 2) true (by omega) (by simp) (by rw [List.drop_zero])
  generalize q1J addr.l 0 (words.l.map (·.l)) (List.replicate w.l.length 2, true) = R at *
  obtain ⟨R1, R2⟩ := R
  simp [tW] at g
  simp only [tV] at e1 e1'
  have h0' : ¬ (words.l.length : Int) = 0 := by omega
  simp [Qj, tW, h0, h0', h1, A1, A5, e1, e1']
  refine ⟨_, _, hu, ?_⟩
  simp [A1]
  refine g _ fun hR1 => ?_
  have vt : (Ab R1).take w.l.length = Ab R1 := by rw [← hR1]; exact B9
  simp [Qk, Ag, vt]
theorem Zz {i : Nat} {addr data w : List Int} {en : Int} : ∀ {k b : Nat}, (Qm i addr data en w k b).length = k
 | 0, _ => rfl
 | k + 1, b => by simp [Qm, Zz]
theorem q37 {i : Nat} {addr data w : List Int} {en : Int} : ∀ {k b j : Nat}, j < k → (Qm i addr data en w k b).getD j 0 = q1K i addr en (Y3 w (b + j)) (Y3 data (b + j))
 | k + 1, b, 0, _ => rfl
 | k + 1, b, j + 1, h => by
  show (Qm i addr data en w k (b + 1)).getD j 0 = _
  rw [q37 (by omega), show b + 1 + j = b + (j + 1) by omega]
theorem q9l {hp : List (Nat × B0)} {k : Nat} : ∀ (l : List T), Ak ((l.map AV.t).map (Ag hp k)) = some l
 | [] => rfl
 | t :: l => by
  have ih := q9l (hp := hp) (k := k) l
  cases k <;> simp only [List.map_cons, Ag, Ak, ih] <;> rfl
theorem qFm {Q : AX → St → Prop} (addr data : Sl Int) (ha : addr.l.length ≤ 1000000) (hv : ∀ v ∈ addr.l, 0 ≤ v) (hd : data.l.length ≤ 1000000) (en : Int) (tw : T) (n i : Nat) (hi : i < n) (hn : n ≤ 1000000) (w : Sl Int) (hw : w.l.length ≤ 1000000) (cells : List AV)
  (hcl : i + 1 ≤ cells.length) (hc : (cells.drop i).take 1 = [.ls 37 0 w.l.length none]) (R : List Int) (hRl : R.length = w.l.length) (hR : ∀ b, b < w.l.length → R.getD b 0 = q1K i addr.l en (Y3 w.l b) (Y3 data.l b))
  (h0 : Q (.exit 2) ⟨[(1, .t (tV addr)), (2, .t (tV data)), (3, .t (tK en)), (9, .t (tB (q40 addr.l en))), (10, .lb 25 n), (11, .t (tI i)), (12, .t (tV w)), (26, .t tw), (27, .t (tI n)), (28, .t (tI i)), (49, .t (tI w.l.length)), (50, .t (tI w.l.length)), (51, .t (tB false))], [(25, .bx cells), (37, .sl 61 1 (Ab R))]⟩) :
  ∀ (k b : Nat) (row : List Int), k + b = w.l.length → row = R.take b ++ w.l.drop b →
  run Tryz.prog Γ J6 Q ⟨[(1, .t (tV addr)), (2, .t (tV data)), (3, .t (tK en)), (9, .t (tB (q40 addr.l en))), (10, .lb 25 n), (11, .t (tI i)), (12, .t (tV w)), (26, .t tw), (27, .t (tI n)), (28, .t (tI i)), (49, .t (tI w.l.length)), (50, .t (tI b))], [(25, .bx cells), (37, .sl 61 1 (Ab row))]⟩
 | 0, b, row, h, hr => by
  refine Po fun K hK => ?_
  have h2 : b = w.l.length := by omega
  subst h2
  rw [List.drop_length, List.append_nil, ← hRl, List.take_length] at hr
  subst hr
  simp
  simpa using h0
 | k + 1, b, row, h, hr => by
  refine Po fun K hK => ?_
  have h2 : b < w.l.length := by omega
  have h2R : b < R.length := by omega
  have hrl : row.length = w.l.length := by rw [hr]; simp; omega
  have ih := qFm addr data ha hv hd en tw n i hi hn w hw cells hcl hc R hRl hR h0 k (b + 1) _ (by omega) rfl
  have hset : ∀ v : Int, v = R.getD b 0 → (Ab row).set b [tK v] = Ab (R.take (b + 1) ++ w.l.drop (b + 1)) := by
   rintro v rfl
   rw [show (Ab row).set b [tK (R.getD b 0)] = Ab (row.set b (R.getD b 0)) from Ep, hr]
   congr 1
   have ht : (R.take b).length = b := by rw [List.length_take]; omega
   rw [List.set_append_right _ _ (by omega), ht, Nat.sub_self, List.drop_eq_getElem_cons h2, List.set_cons_zero, show R.take (b + 1) = R.take b ++ [R.getD b 0] by rw [List.take_add_one, List.getElem?_eq_getElem h2R, Aw h2R]; rfl, List.append_assoc]
   rfl
  have hRb := hR b h2
  have hb1 := q4g (Γ := Γ) w b (by omega) (by omega)
  have hb2 := q4g (Γ := Γ) data b (by omega) (by omega)
  have hm := q41 (Γ := Γ) i (by omega) addr ha hv
  have w1 := Dc (i := b) (by omega)
  generalize R.take (b + 1) ++ w.l.drop (b + 1) = row' at *
  generalize R.getD b 0 = v at *
  generalize Y3 w.l b = o at *
  generalize Y3 data.l b = d at *
  unfold q1K at hRb
  generalize q40 addr.l en = su at *
  have hcv := q5H (Γ := Γ) o d
  have hii : (i : Int) < n := by omega
  simp [h2]
  refine A0 hb1 rfl ?_
  simp
  refine A0 hb2 rfl ?_
  by_cases he : en = 0
  ·rw [if_pos (.inl he)] at hRb
   subst hRb
   simp [he, hi, hii, hcl, hc, hrl, h2, A1, hset, w1]
   rw [hK]
   simpa [he] using ih
  ·simp [he]
   refine A0 hm rfl ?_
   cases hmm : Ov i addr.l with
   | false =>
    rw [if_pos (.inr hmm)] at hRb
    subst hRb
    simp [hmm, hi, hii, hcl, hc, hrl, h2, A1, hset, w1]
    rw [hK]
    simpa using ih
   | true =>
    rw [if_neg (by simp [he, hmm])] at hRb
    cases su with
    | true =>
     rw [if_pos rfl] at hRb
     subst hRb
     simp [hmm, hi, hii, hcl, hc, hrl, h2, A1, hset, w1]
     rw [hK]
     simpa using ih
    | false =>
     rw [if_neg (by simp)] at hRb
     simp [hmm, hi, hii, hcl, hc, hrl, h2, A1, w1]
     refine A0 hcv rfl ?_
     rw [← hRb]
     simp [hi, hii, hcl, hc, hrl, h2, A1, hset, w1]
     rw [hK]
     simpa using ih
def q38 (done : List (List Int)) (n : Nat) : List AV := (done.map fun r => T.sl (Ab r) none none).map AV.t ++ List.replicate (n - done.length) (AV.t (T.sl [] (some 0) (some true)))
theorem qE5 {done : List (List Int)} {n : Nat} (h : done.length ≤ n) : (q38 done n).length = n := by simp [q38]; omega
theorem qE6 {done : List (List Int)} {n : Nat} (h : done.length < n) (a : AV) : (q38 done n).take done.length ++ [a] ++ (q38 done n).drop (done.length + 1) = (done.map fun r => T.sl (Ab r) none none).map AV.t ++ [a] ++ List.replicate (n - (done.length + 1)) (AV.t (T.sl [] (some 0) (some true))) := by
 have e : ((done.map fun r => T.sl (Ab r) none none).map AV.t).length = done.length := by simp
 unfold q38
 rw [show n - done.length = (n - (done.length + 1)) + 1 by omega, List.replicate_succ]
 rw [List.take_append_of_le_length (by omega), List.take_of_length_le (by omega), List.drop_append, List.drop_of_length_le (by omega), e, show done.length + 1 - done.length = 1 by omega]
 simp
theorem qE7 {done : List (List Int)} {n : Nat} (h : done.length < n) (R : List Int) (ty : Nat) :
  ((done.map fun r => T.sl (Ab r) none none).map AV.t ++ [AV.ls 37 0 R.length none] ++ List.replicate (n - (done.length + 1)) (AV.t (T.sl [] (some 0) (some true)))).map (Dl 37 (.sl ty 1 (Ab R))) = q38 (done ++ [R]) n := by
 have vt : (Ab R).take R.length = Ab R := B9
 unfold q38
 simp [Dl, frz1, frz0, Ag, A2, vt, Function.comp_def]
theorem qFn {Q : AX → St → Prop} (addr data : Sl Int) (ha : addr.l.length ≤ 1000000) (hv : ∀ v ∈ addr.l, 0 ≤ v) (hd : data.l.length ≤ 1000000) (en : Int) (words : Sl (Sl Int)) (hl : words.l.length ≤ 1000000) (hw : ∀ w ∈ words.l, w.l.length ≤ 1000000) (R : List (List Int)) (hRl : R.length = words.l.length)
  (h0 : Q (.exit 0) ⟨[(1, .t (tV addr)), (2, .t (tV data)), (3, .t (tK en)), (9, .t (tB (q40 addr.l en))), (10, .lb 25 words.l.length), (26, .t (tW words)), (27, .t (tI words.l.length)), (28, .t (tI words.l.length)), (29, .t (tB false))], [(25, .bx (q38 R words.l.length))]⟩) :
  ∀ (k : Nat) (done : List (List Int)), k + done.length = words.l.length → done ++ Eg addr.l data.l en done.length ((words.l.drop done.length).map (·.l)) = R →
  run Tryz.prog Γ J7 Q ⟨[(1, .t (tV addr)), (2, .t (tV data)), (3, .t (tK en)), (9, .t (tB (q40 addr.l en))), (10, .lb 25 words.l.length), (26, .t (tW words)), (27, .t (tI words.l.length)), (28, .t (tI done.length))], [(25, .bx (q38 done words.l.length))]⟩
 | 0, done, h, hR => by
  refine Pq fun K hK => ?_
  have h2 : done.length = words.l.length := by omega
  rw [List.drop_of_length_le (by omega)] at hR
  simp only [List.map_nil, Eg, List.append_nil] at hR
  subst hR
  simp [h2]
  simpa using h0
 | k + 1, done, h, hR => by
  refine Pq fun K hK => ?_
  have h2 : done.length < words.l.length := by omega
  rw [List.drop_eq_getElem_cons h2, List.map_cons] at hR
  simp only [Eg] at hR
  have e1 := gE (f := tV) Sl.z h2
  have e1' := gE' (f := tV) Sl.z h2
  have hwi := hw _ (List.getElem_mem h2)
  rw [show words.l.getD done.length Sl.z = words.l[done.length] by simp [List.getD_eq_getElem?_getD, h2]] at e1 e1'
  have hrow : (Qm done.length addr.l data.l en words.l[done.length].l words.l[done.length].l.length 0).length = words.l[done.length].l.length := Zz
  have hget := fun b (hb : b < words.l[done.length].l.length) => q37 (i := done.length) (addr := addr.l) (data := data.l) (en := en) (w := words.l[done.length].l) (b := 0) hb
  simp only [Nat.zero_add] at hget
  have ih := qFn addr data ha hv hd en words hl hw R hRl h0 k (done ++ [Qm done.length addr.l data.l en words.l[done.length].l words.l[done.length].l.length 0]) (by simp; omega) (by rw [← hR]; simp)
  generalize words.l[done.length] = w at *
  generalize Qm done.length addr.l data.l en w.l w.l.length 0 = row at *
  have hcl := qE5 (done := done) (n := words.l.length) (by omega)
  have hput := qE6 h2 (.ls 37 0 w.l.length none)
  have hfz := qE7 h2 row 61
  rw [hrow] at hfz
  have g := fun Q cells hc1 hc2 h0 => qFm (Γ := Γ) (Q := Q) addr data ha hv hd en (tW words) words.l.length done.length h2 hl w hwi cells hc1 hc2 row hrow hget h0 w.l.length 0 w.l (by omega) (by simp)
  generalize hC0 : q38 done words.l.length = C0 at *
  generalize hC1 : (done.map fun r => T.sl (Ab r) none none).map AV.t ++ [AV.ls 37 0 w.l.length none] ++ List.replicate (words.l.length - (done.length + 1)) (AV.t (T.sl [] (some 0) (some true))) = C1 at *
  have hc1 : done.length + 1 ≤ C1.length := by rw [← hC1]; simp
  have hc2 : (C1.drop done.length).take 1 = [.ls 37 0 w.l.length none] := by
   rw [← hC1, List.append_assoc, List.drop_append, List.drop_of_length_le (by simp)]
   simp
  have g := fun Q h0 => g Q C1 hc1 hc2 h0
  have w1 := Dc (i := done.length) (by omega)
  have hz : List.replicate w.l.length [T.v (Value.int .u8 0)] = Ab (List.replicate w.l.length 0) := by simp [Af]
  have hcp : (Ab w.l).take w.l.length = Ab w.l := B9
  have hdl : (Ab (List.replicate w.l.length (0 : Int))).drop w.l.length = [] := by rw [List.drop_of_length_le (by simp [Af])]
  have hii : (done.length : Int) < words.l.length := by omega
  simp [tW] at ih g
  simp only [tV] at e1 e1' g ih
  rw [List.append_assoc, List.singleton_append] at hput
  simp [tV, tW, A1, A5, h2, e1, e1']
  simp [hz, A1, A5, h2, hii, hcl, hput, hc1, hc2, hcp, hdl]
  refine ⟨by omega, by omega, by omega, g _ ?_⟩
  simp [w1, St.freeze, B0.closed, Dl, frz1, frz0, Im, del, hfz]
  rw [hK]
  simpa using ih
theorem q9m (v : Int) : A3 Tryz.prog Γ 105 [tK v] (tB (!Kz v)) := by
 refine A7 q1F rfl ?_
 simp [Tz]
 refine A0 (Qg v) rfl ?_
 simp [U0]
def qBr (R : List (List Int)) : T := .sl ((R.map fun r => T.sl (Ab r) none none).map fun t => [t]) (some R.length) none
theorem q39 {addr data : List Int} {en : Int} : ∀ {ws : List (List Int)} {i : Nat}, (Eg addr data en i ws).length = ws.length
 | [], _ => rfl
 | w :: ws, i => by simp [Eg, q39]
theorem q6w (words : Sl (Sl Int)) (hl : words.l.length ≤ 1000000) (hw : ∀ w ∈ words.l, w.l.length ≤ 1000000) (addr data : Sl Int) (ha : addr.l.length ≤ 1000000) (hv : ∀ v ∈ addr.l, 0 ≤ v) (hd : data.l.length ≤ 1000000) (en : Int) :
  Ae Tryz.prog Γ 46 [tW words, tV addr, tV data, tK en] (qBr (Eg addr.l data.l en 0 (words.l.map (·.l)))) := by
 refine B5 q33 rfl ?_
 have hcf := Fh (Γ := Γ) addr.l addr.cap addr.nl 105 [] (fun v => !Kz v) (fun x _ => q9m x) (by omega)
 have hRl : (Eg addr.l data.l en 0 (words.l.map (·.l))).length = words.l.length := by rw [q39, List.length_map]
 have g := fun Q h0 => qFn (Γ := Γ) (Q := Q) addr data ha hv hd en words hl hw (Eg addr.l data.l en 0 (words.l.map (·.l))) hRl h0 words.l.length [] (by simp) (by simp)
 have hsu : q40 addr.l en = if en = 1 then !addr.l.any (fun v => !Kz v) else false := by
  unfold q40
  by_cases h : en = 1 <;> simp [h]
 have hall := q9l (hp := [(25, B0.bx (q38 (Eg addr.l data.l en 0 (words.l.map (·.l))) words.l.length))]) (k := 3) ((Eg addr.l data.l en 0 (words.l.map (·.l))).map fun r => T.sl (Ab r) none none)
 have hst : q38 (Eg addr.l data.l en 0 (words.l.map (·.l))) words.l.length = ((Eg addr.l data.l en 0 (words.l.map (·.l))).map fun r => T.sl (Ab r) none none).map AV.t := by
  unfold q38
  rw [hRl, Nat.sub_self]
  simp
 have h0 : q38 [] words.l.length = List.replicate words.l.length (AV.t (T.sl [] (some 0) (some true))) := by simp [q38]
 rw [h0] at g
 rw [hst] at g hall
 generalize Eg addr.l data.l en 0 (words.l.map (·.l)) = R at *
 have hT : qBr R = .sl ((R.map fun r => T.sl (Ab r) none none).map fun t => [t]) (some words.l.length) none := by rw [← hRl]; rfl
 rw [hT]
 generalize (R.map fun r => T.sl (Ab r) none none) = RT at *
 rw [List.map_map] at hall
 simp [tW, tV] at g
 by_cases he : en = 1
 ·rw [if_pos he] at hsu
  simp [Ot, tW, tV, he]
  refine A0 hcf rfl ?_
  rw [hsu, he] at g
  simp [A1]
  refine ⟨by omega, g _ ?_⟩
  simp [Ou, Ag, hall]
 ·rw [if_neg he] at hsu
  rw [hsu] at g
  simp [Ot, tW, tV, he, A1]
  refine ⟨by omega, g _ ?_⟩
  simp [Ou, Ag, hall]
end Go.Lg
namespace Go.Lg
open Go
section
variable {P : Program} {Γ : Tables} {Q : AX → St → Prop} {s : St}
/- probecard/probecardref03.Of (function 52) -/
abbrev q5I : IC := .gh (.seq (.seq (.reg [om 7 6, od 8 (fa 0 2), od 9 (ld 1 8), od 10 (le 0 9), od 11 (.bin .lss (tm 7) (tm 10))] [kp [1, 2, 5, 6, 11] [25]]) (.cond (tm 11) .skip (.exit 0))) (.seq (.block 1 (.seq (.reg [od 14 (fa 0 2), od 15 (ld 1
 14), om 16 6, od 17 (ia 4 15 16), od 18 (fa 0 17), od 19 (ld 1 18), om 20 1, od 21 (.bin .eql (tm 19) (tm 20))] [kp [1, 2, 5, 6, 21] [25]]) (.cond (tm 21) (.reg [om 22 5, om 23 6, od 24 (.bsl true 3 1 [(tm 23)]), od 25 (.app false
 3 1 (tm 22) (tm 24)), om 5 25] [kp [1, 2, 5, 6] [25]]) .skip))) (.reg [om 12 6, od 13 (.bin .add (tm 12) (ki 1)), om 6 13] [kp [1, 2, 5, 6] [25]]))) [kp [1, 2, 5, 6] [25]]
def Xk : IC := .loop q5I
abbrev q5J : IC := (.seq (.reg [od 2 (.box true (tm 0)), od 4 (.mv kN)] [kp [1, 2] []]) (.seq (.reg [od 5 (.mv kN)] [.nl 5 25 3 1, kp [1, 2, 5] [25]]) (.seq (.seq (.reg [od 6 (.mv (ki 0))] [kp [1, 2, 5, 6] [25]]) (.block 0 Xk)) (.seq (.reg
 [om 26 5, om 4 26] [kp [4] [25]]) .ret))))
theorem q0C (h : ∀ K : St → Prop, K = run P Γ Xk Q → run P Γ q5I (Aq K Q) s) : run P Γ Xk Q s := Ac h
def q5K : List RV := [.tmp 4]
end
end Go.Lg
namespace Go.Lg
open Go Go.Proofs
theorem q8Y : As Tryz.prog 52 q5J 27 2 q5K = true := by kernel_rfl
end Go.Lg
namespace Go.Lg
open Go Go.Proofs
variable {Γ : Tables}
def Sm (B : Nat) (t : T3) : Prop := (0 ≤ t.a ∧ t.a ≤ B) ∧ (0 ≤ t.b ∧ t.b ≤ B) ∧ (0 ≤ t.d ∧ t.d ≤ B)
theorem Sm.mono {B C : Nat} (hBC : B ≤ C) {t : T3} (h : Sm B t) : Sm C t := by
 obtain ⟨⟨a0, a1⟩, ⟨b0, b1⟩, ⟨d0, d1⟩⟩ := h
 exact ⟨⟨a0, by omega⟩, ⟨b0, by omega⟩, ⟨d0, by omega⟩⟩
theorem q8Z {c : Ax} {n : Int} (h0 : 0 ≤ n) (h : n < c.nodes.l.length) : ∀ h' : n.toNat < (Bc Fg c.nodes.l).length, (Bc Fg c.nodes.l)[n.toNat]'h' = Fg (nd c n) := fun h' => by
 have := q4d h0 h
 rw [List.getElem?_eq_getElem h'] at this
 simpa using this
theorem qE8 {Q : AX → St → Prop} (c : Ax) (hc : COk c) (k : Int) (hn : c.nodes.l.length ≤ 1000000)
  (h0 : Q (.exit 0) ⟨[(1, .t (tK k)), (2, .t (.ip (tC c) 0)), (5, .ls 25 0 (Il [k] c.nodes.l 0).length none), (6, .t (tI c.nodes.l.length)), (11, .t (tB false))], [(25, .sl 3 1 (Bo (Il [k] c.nodes.l 0)))]⟩) :
  ∀ (f i : Nat), f + i = c.nodes.l.length → run Tryz.prog Γ Xk Q ⟨[(1, .t (tK k)), (2, .t (.ip (tC c) 0)), (5, .ls 25 0 (Il [k] (c.nodes.l.take i) 0).length none), (6, .t (tI i))], [(25, .sl 3 1 (Bo (Il [k] (c.nodes.l.take i) 0)))]⟩
 | 0, i, h => by
  refine q0C fun K hK => ?_
  have h2 : i = c.nodes.l.length := by omega
  subst h2
  rw [List.take_length]
  simp [tC, A6, A8, Ad, Bl] at h0
  simp [tC, A6, A8, Ad, Bl, Aa]
  simpa using h0
 | f + 1, i, h => by
  refine q0C fun K hK => ?_
  have h2 : i < c.nodes.l.length := by omega
  have ih := qE8 c hc k hn h0 f (i + 1) (by omega)
  rw [q9f h2] at ih
  have hget := q4d (c := c) (n := (i : Int)) (by omega) (by omega)
  have hget' := q8Z (c := c) (n := (i : Int)) (by omega) (by omega)
  have hk : (nd c i).k = An c i := by simp [nd, An]
  simp only [Int.toNat_natCast] at hget hget'
  have hle := Ua [k] (c.nodes.l.take i) 0
  rw [List.length_take] at hle
  generalize nd c i = x at *
  generalize Il [k] (c.nodes.l.take i) 0 = out at *
  have w1 : IntKind.i64.wrap ((i : Int) + 1) = (i : Int) + 1 := by rw [A4] <;> omega
  have vt : (Bo out).take out.length = Bo out := Bh
  have vs : Bo out ++ [[tI i]] = Bo (out ++ [(i : Int)]) := E0
  by_cases h1 : x.k = k
  ·have hkk : [k].contains (An c i) = true := by rw [← hk, h1]; simp
   rw [hkk, if_pos rfl] at ih
   simp [tC, A6, A8, Ad, Bl] at ih
   simp [tC, A6, A8, Ad, Bl, Aa, h2, Br, hget, hget', Fg, h1, A1, A5, vt, vs, w1]
   refine ⟨by omega, ?_⟩
   rw [hK]
   simpa using ih
  ·have hkk : [k].contains (An c i) = false := by rw [← hk]; simp; exact h1
   rw [hkk, if_neg (by simp), List.append_nil] at ih
   simp [tC, A6, A8, Ad, Bl] at ih
   simp [tC, A6, A8, Ad, Bl, Aa, h2, Br, hget, hget', Fg, h1, w1]
   rw [hK]
   simpa using ih
theorem qAx (c : Ax) (hc : COk c) (k : Int) (hn : c.nodes.l.length ≤ 1000000) : Ae Tryz.prog Γ 52 [.agg (tC c), tK k] (.sl (Bo (Il [k] c.nodes.l 0)) none none) := by
 refine B5 q8Y rfl ?_
 have g := fun Q h0 => qE8 (Γ := Γ) (Q := Q) c hc k hn h0 c.nodes.l.length 0 (by omega)
 have ht : (Bo (Il [k] c.nodes.l 0)).take (Il [k] c.nodes.l 0).length = Bo (Il [k] c.nodes.l 0) := Bh
 have hz : Il [k] (c.nodes.l.take 0) 0 = [] := rfl
 rw [hz] at g
 simp only [List.length_nil, I8] at g
 generalize Il [k] c.nodes.l 0 = R at *
 simp [tC, A6, A8, Ad, Bl] at g
 simp [q5J, tC, A6, A8, Ad, Bl]
 refine g _ ?_
 simp [q5K, Ag, ht]
structure Stt where
 dff : Sl Int
 words : Sl (Sl (Sl Int))
 read : Sl (Sl Int)
def tWs (s : Sl (Sl (Sl Int))) : T := .sl (Af tW s.l) s.cap s.nl
def D6 (s : Stt) : List T := [tV s.dff, tWs s.words, tW s.read]
def Stt.rd (s : Stt) : List (List Int) := s.read.l.map (·.l)
def Stt.ws (s : Stt) : List (List (List Int)) := s.words.l.map fun w => w.l.map (·.l)
def Sl.zz : Sl (Sl Int) := ⟨[], none, none⟩
def Bf (nets : List Int) (l : List Int) : List Int := l.map fun k => nets.getD k.toNat 0
theorem qFo {Q : AX → St → Prop} (c : Ax) (nets : Sl Int) (hn : nets.l.length ≤ 1000000) (l : Sl Int) (hl : l.l.length ≤ 1000000) (hin : ∀ k ∈ l.l, 0 ≤ k ∧ k < nets.l.length) (R : List Int)
  (h0 : R.length = l.l.length → Q (.exit 0) ⟨[(2, .t (.ip (K6 c nets) 0)), (5, .ls 10 0 l.l.length none), (11, .t (Bl l)), (12, .t (tI l.l.length)), (13, .t (tI l.l.length)), (14, .t (tB false))], [(10, .sl 61 1 (Ab R))]⟩) :
  ∀ (k i : Nat) (out : List Int), k + i = l.l.length → out.length = i → out ++ Bf nets.l (l.l.drop i) = R →
  run Tryz.prog Γ Dp Q ⟨[(2, .t (.ip (K6 c nets) 0)), (5, .ls 10 0 i none), (11, .t (Bl l)), (12, .t (tI l.l.length)), (13, .t (tI i))], [(10, .sl 61 1 (Ab out))]⟩
 | 0, i, out, h, ho, hR => by
  refine Hi fun K hK => ?_
  have h2 : i = l.l.length := by omega
  subst h2
  rw [List.drop_length] at hR
  simp only [Bf, List.map_nil, List.append_nil] at hR
  subst hR
  have := h0 ho
  simp [Bl] at this
  simp [Bl]
  simpa using this
 | k + 1, i, out, h, ho, hR => by
  refine Hi fun K hK => ?_
  have h2 : i < l.l.length := by omega
  rw [List.drop_eq_getElem_cons h2] at hR
  simp only [Bf, List.map_cons] at hR
  have e1 := gE (f := tI) 0 h2
  have e1' := gE' (f := tI) 0 h2
  obtain ⟨q0, q1⟩ := hin _ (List.getElem_mem h2)
  rw [Aw h2] at e1 e1'
  generalize l.l[i] = q at *
  have h3 : q.toNat < nets.l.length := by omega
  have e2 := gE (f := tK) 0 h3
  have e2' := gE' (f := tK) 0 h3
  have ih := qFo c nets hn l hl hin R h0 k (i + 1) (out ++ [nets.l.getD q.toNat 0]) (by omega) (by simp [ho]) (by rw [← hR]; simp [Bf])
  generalize nets.l.getD q.toNat 0 = v at *
  have vs := Ns (l := out) (v := v)
  have vt : (Ab out).take i = Ab out := by rw [← ho]; exact B9
  have w1 := Dc (i := i) (by omega)
  simp [K6, A6, A8, Ad, Bl, tV] at ih
  simp [K6, A6, A8, Ad, Bl, tV, A1, A5, h2, e1, e1', q0, q1, h3, e2, e2', vt, vs, ho, w1]
  refine ⟨by omega, ?_⟩
  rw [hK]
  simpa using ih
theorem q00 (c : Ax) (nets : Sl Int) (hn : nets.l.length ≤ 1000000) (l : Sl Int) (hl : l.l.length ≤ 1000000) (hin : ∀ k ∈ l.l, 0 ≤ k ∧ k < nets.l.length) :
  A3 Tryz.prog Γ 41 [.agg (K6 c nets), Bl l] (tV ⟨Bf nets.l l.l, none, none⟩) := by
 refine A7 Ui rfl ?_
 have g := fun Q h0 => qFo (Γ := Γ) (Q := Q) c nets hn l hl hin (Bf nets.l l.l) h0 l.l.length 0 [] (by omega) rfl (by simp)
 generalize Bf nets.l l.l = R at *
 simp [K6, A6, A8, Ad, Bl, tV, I8] at g
 simp [Jm, K6, A6, A8, Ad, Bl, tV, A1]
 refine ⟨by omega, g _ fun hR => ?_⟩
 have vt : (Ab R).take l.l.length = Ab R := by rw [← hR]; exact B9
 simp [Jn, Ag, vt]
theorem qFp {Q : AX → St → Prop} (c : Ax) (s : Stt) (inn : Sl Int) (ns : List Int) (cap : Option Nat) (n : Nat) (hn : n ≤ 1000000) (hns : ns.length ≤ n) (hin : ∀ x ∈ ns, 0 ≤ x ∧ x < n) (hp : inn.l.length = ns.length) (R : List Int)
  (h0 : Q (.exit 0) ⟨[(2, .t (tV inn)), (3, .lp 3 0 0), (4, .t (.ip (D6 s) 0)), (14, .t (.sl (Bo ns) (some ns.length) none)), (15, .t (tI ns.length)), (16, .t (tI ns.length)), (17, .t (tB false))], [(3, .bx (G3 c 1000000 n cap)), (1000000, .sl 61 1 (Ab R))]⟩) :
  ∀ (k i : Nat) (l : List Int), k + i = ns.length → l.length = n → Dk (ns.drop i) (inn.l.drop i) l = R →
  run Tryz.prog Γ E7 Q ⟨[(2, .t (tV inn)), (3, .lp 3 0 0), (4, .t (.ip (D6 s) 0)), (14, .t (.sl (Bo ns) (some ns.length) none)), (15, .t (tI ns.length)), (16, .t (tI i))], [(3, .bx (G3 c 1000000 n cap)), (1000000, .sl 61 1 (Ab l))]⟩
 | 0, i, l, h, hl, hR => by
  refine Ih fun K hK => ?_
  have h2 : i = ns.length := by omega
  subst h2
  rw [List.drop_length] at hR
  simp only [Dk] at hR
  subst hR
  simp
  exact h0
 | k + 1, i, l, h, hl, hR => by
  refine Ih fun K hK => ?_
  have h2 : i < ns.length := by omega
  have h3 : i < inn.l.length := by omega
  rw [Zt h2 h3] at hR
  have ih := qFp c s inn ns cap n hn hns hin hp R h0 k (i + 1) _ (by omega) (by simp [hl]) hR
  have e1 := gE (f := tI) 0 h2
  have e1' := gE' (f := tI) 0 h2
  have e2 := gE (f := tK) 0 h3
  have e2' := gE' (f := tK) 0 h3
  obtain ⟨hx0, hx1⟩ := hin (ns.getD i 0) (by rw [Aw h2]; exact List.getElem_mem h2)
  have hs : ∀ (j : Nat) (v : Int), (Ab l).set j [tK v] = Ab (l.set j v) := fun j v => Ep
  generalize ns.getD i 0 = x at *
  generalize inn.l.getD i 0 = v at *
  have hx2 : x.toNat < n := by omega
  have w1 := Dc (i := i) (by omega)
  simp [G3, tV] at ih
  simp [h2, h3, A1, A5, e1, e1', e2, e2', hx0, hx1, hx2, hl, G3, tV, hs, hp, w1]
  rw [hK]
  simpa using ih
theorem qFq {Q : AX → St → Prop} (c : Ax) (s : Stt) (ns : List Int) (cap : Option Nat) (n : Nat) (hn : n ≤ 1000000) (hns : ns.length ≤ n) (hin : ∀ x ∈ ns, 0 ≤ x ∧ x < n) (hp : s.dff.l.length = ns.length) (R : List Int)
  (h0 : Q (.exit 2) ⟨[(3, .lp 3 0 0), (4, .t (.ip (D6 s) 0)), (32, .t (.sl (Bo ns) (some ns.length) none)), (33, .t (tI ns.length)), (34, .t (tI ns.length)), (35, .t (tB false))], [(3, .bx (G3 c 1000000 n cap)), (1000000, .sl 61 1 (Ab R))]⟩) :
  ∀ (k i : Nat) (l : List Int), k + i = ns.length → l.length = n → Dk (ns.drop i) (s.dff.l.drop i) l = R →
  run Tryz.prog Γ E8 Q ⟨[(3, .lp 3 0 0), (4, .t (.ip (D6 s) 0)), (32, .t (.sl (Bo ns) (some ns.length) none)), (33, .t (tI ns.length)), (34, .t (tI i))], [(3, .bx (G3 c 1000000 n cap)), (1000000, .sl 61 1 (Ab l))]⟩
 | 0, i, l, h, hl, hR => by
  refine Ii fun K hK => ?_
  have h2 : i = ns.length := by omega
  subst h2
  rw [List.drop_length] at hR
  simp only [Dk] at hR
  subst hR
  simp
  exact h0
 | k + 1, i, l, h, hl, hR => by
  refine Ii fun K hK => ?_
  have h2 : i < ns.length := by omega
  have h3 : i < s.dff.l.length := by omega
  rw [Zt h2 h3] at hR
  have ih := qFq c s ns cap n hn hns hin hp R h0 k (i + 1) _ (by omega) (by simp [hl]) hR
  have e1 := gE (f := tI) 0 h2
  have e1' := gE' (f := tI) 0 h2
  have e2 := gE (f := tK) 0 h3
  have e2' := gE' (f := tK) 0 h3
  obtain ⟨hx0, hx1⟩ := hin (ns.getD i 0) (by rw [Aw h2]; exact List.getElem_mem h2)
  have hs : ∀ (j : Nat) (v : Int), (Ab l).set j [tK v] = Ab (l.set j v) := fun j v => Ep
  generalize ns.getD i 0 = x at *
  generalize s.dff.l.getD i 0 = v at *
  have hx2 : x.toNat < n := by omega
  have w1 := Dc (i := i) (by omega)
  simp [G3, tV, D6] at ih
  simp [h2, h3, A1, A5, e1, e1', e2, e2', hx0, hx1, hx2, hl, G3, tV, D6, hs, hp, w1]
  rw [hK]
  simpa using ih
theorem qFr {Q : AX → St → Prop} (c : Ax) (s : Stt) (ns : List Int) (cap : Option Nat) (hn : c.nodes.l.length ≤ 1000000) (hns : ns.length ≤ c.nodes.l.length) (hin : ∀ x ∈ ns, 0 ≤ x ∧ x < c.nodes.l.length)
  (hm : ∀ x ∈ ns, 0 ≤ (nd c x).mem ∧ (nd c x).mem < s.read.l.length ∧ 0 ≤ (nd c x).bit ∧ (nd c x).bit < (s.read.l.getD (nd c x).mem.toNat Sl.z).l.length) (R : List Int)
  (h0 : Q (.exit 4) ⟨[(3, .lp 3 0 0), (4, .t (.ip (D6 s) 0)), (52, .t (.sl (Bo ns) (some ns.length) none)), (53, .t (tI ns.length)), (54, .t (tI ns.length)), (55, .t (tB false))], [(3, .bx (G3 c 1000000 c.nodes.l.length cap)), (1000000, .sl 61 1 (Ab R))]⟩) :
  ∀ (k i : Nat) (l : List Int), k + i = ns.length → l.length = c.nodes.l.length → Dk (ns.drop i) ((ns.drop i).map fun n => (s.read.l.getD (nd c n).mem.toNat Sl.z).l.getD (nd c n).bit.toNat 0) l = R →
  run Tryz.prog Γ E9 Q ⟨[(3, .lp 3 0 0), (4, .t (.ip (D6 s) 0)), (52, .t (.sl (Bo ns) (some ns.length) none)), (53, .t (tI ns.length)), (54, .t (tI i))], [(3, .bx (G3 c 1000000 c.nodes.l.length cap)), (1000000, .sl 61 1 (Ab l))]⟩
 | 0, i, l, h, hl, hR => by
  refine Ij fun K hK => ?_
  have h2 : i = ns.length := by omega
  subst h2
  rw [List.drop_length] at hR
  simp only [Dk] at hR
  subst hR
  simp
  exact h0
 | k + 1, i, l, h, hl, hR => by
  refine Ij fun K hK => ?_
  have h2 : i < ns.length := by omega
  rw [List.drop_eq_getElem_cons h2, List.map_cons] at hR
  simp only [Dk] at hR
  have e1 := gE (f := tI) 0 h2
  have e1' := gE' (f := tI) 0 h2
  have hxm := List.getElem_mem h2
  rw [Aw h2] at e1 e1'
  generalize ns[i] = x at *
  obtain ⟨hx0, hx1⟩ := hin x hxm
  obtain ⟨m0, m1, b0, b1⟩ := hm x hxm
  have ih := qFr c s ns cap hn hns hin hm R h0 k (i + 1) _ (by omega) (by rw [List.length_set]; exact hl) hR
  have hget := q4d hx0 hx1
  have hget' := q8Z hx0 hx1
  generalize nd c x = y at *
  have hm2 : y.mem.toNat < s.read.l.length := by omega
  have e2 := gE (f := tV) Sl.z hm2
  have e2' := gE' (f := tV) Sl.z hm2
  generalize s.read.l.getD y.mem.toNat Sl.z = row at *
  have hb2 : y.bit.toNat < row.l.length := by omega
  have e3 := gE (f := tK) 0 hb2
  have e3' := gE' (f := tK) 0 hb2
  generalize row.l.getD y.bit.toNat 0 = v at *
  have hs : ∀ (j : Nat) (v : Int), (Ab l).set j [tK v] = Ab (l.set j v) := fun j v => Ep
  have hx2 : x.toNat < c.nodes.l.length := by omega
  have w1 := Dc (i := i) (by omega)
  simp only [tV] at e2 e2'
  simp [G3, D6, tW] at ih
  simp [h2, A1, A5, Aa, Br, e1, e1', e2, e2', e3, e3', hx0, hx1, hx2, hl, G3, D6, tW, A6, Fg, hget, hget', m0, m1, hm2, b0, b1, hb2, hs, w1]
  rw [hK]
  simpa [A6] using ih
theorem qFE (c : Ax) (hc : COk c) (s : Stt) (inn : Sl Int) (cap : Option Nat) (l : List Int) (hl : l.length = c.nodes.l.length) (hn : c.nodes.l.length ≤ 1000000) (h1 : inn.l.length = (Be c).length) (h2 : s.dff.l.length = (Ap c).length)
  (hm : ∀ x ∈ mems c, 0 ≤ (nd c x).mem ∧ (nd c x).mem < s.read.l.length ∧ 0 ≤ (nd c x).bit ∧ (nd c x).bit < (s.read.l.getD (nd c x).mem.toNat Sl.z).l.length) (hz : l = List.replicate c.nodes.l.length 0) :
  Ge Tryz.prog Γ 37 [(1000000, .sl 61 1 (Ab l))] [.ag (G3 c 1000000 c.nodes.l.length cap), .t (.agg (D6 s)), .t (tV inn)] (.t (.tup [])) [(1000000, .sl 61 1 (Ab (Si c inn.l s.dff.l s.rd)))] := by
 refine Ik W6 rfl ?_
 have hmv : Re c s.rd = (mems c).map fun n => (s.read.l.getD (nd c n).mem.toNat Sl.z).l.getD (nd c n).bit.toNat 0 := by
  unfold Re
  refine List.map_congr_left fun x hx => ?_
  obtain ⟨m0, m1, _, _⟩ := hm x hx
  have : (nd c x).mem.toNat < s.read.l.length := by omega
  simp [Stt.rd, List.getD_eq_getElem?_getD, this]
 have hL : Si c inn.l s.dff.l s.rd = Dk (mems c) ((mems c).map fun n => (s.read.l.getD (nd c n).mem.toNat Sl.z).l.getD (nd c n).bit.toNat 0) (Dk (Ap c) s.dff.l (Dk (Be c) inn.l l)) := by
  unfold Si Yo
  rw [hmv, hz]
 have g1 := fun Q h0 => qFp (Γ := Γ) (Q := Q) c s inn (Be c) cap c.nodes.l.length hn (M6 c) (fun x hx => ⟨(Gv x hx).1, (Gv x hx).2.1⟩) h1 _ h0 (Be c).length 0 l (by omega) hl rfl
 have g2 := fun Q h0 => qFq (Γ := Γ) (Q := Q) c s (Ap c) cap c.nodes.l.length hn (Ef c) (fun x hx => ⟨(Gv x hx).1, (Gv x hx).2.1⟩) h2 _ h0 (Ap c).length 0 (Dk (Be c) inn.l l) (by omega) (by rw [K2]; exact hl) rfl
 have g3 := fun Q h0 => qFr (Γ := Γ) (Q := Q) c s (mems c) cap hn (Ua _ _ _) (fun x hx => ⟨(Gv x hx).1, (Gv x hx).2.1⟩) hm (Si c inn.l s.dff.l s.rd) h0 (mems c).length 0 (Dk (Ap c) s.dff.l (Dk (Be c) inn.l l)) (by omega) (by rw [K2, K2]; exact hl) (by rw [hL, List.drop_zero])
 simp only [List.drop_zero] at g1 g2
 have e3 := q8J (Γ := Γ) c hc 15
 have hmm : Il [15] c.nodes.l 0 = mems c := rfl
 rw [hmm] at e3
 generalize Si c inn.l s.dff.l s.rd = RR at *
 generalize Dk (Ap c) s.dff.l (Dk (Be c) inn.l l) = R2 at *
 generalize Dk (Be c) inn.l l = R1 at *
 simp [G3, D6, tV, tW, tWs, A6, A8, Ad, Bl] at g1 g2 g3
 simp [Ln, G3, D6, tV, tW, tWs, A6, A8, Ad, Bl]
 refine A9 (X5 c hc) rfl ?_
 simp [A1]
 refine g1 _ ?_
 simp
 refine A9 (Rx c hc) rfl ?_
 simp [A1]
 refine g2 _ ?_
 simp
 refine A0 e3 rfl ?_
 simp [A1]
 refine g3 _ ?_
 simp [Lo]
end Go.Lg
