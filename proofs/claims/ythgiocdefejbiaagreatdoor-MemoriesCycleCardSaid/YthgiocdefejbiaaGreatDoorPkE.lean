/- The abstract code of some functions, as the program gen.py prints it. Conditions: none. -/
import Derived.Test.YthgiocdefejbiaaGreatDoorPkC
import Derived.Test.YthgiocdefejbiaaGreatDoorProg
import Derived.KernelRfl
import Derived.Test.YthgiocdefejbiaaGreatDoorPkD
set_option linter.unusedVariables false
namespace Go.Lg
open Go
section
variable {P : Program} {Γ : Tables} {Q : AX → St → Prop} {s : St}
/- probecard/logic.Clean (function 133) -/
abbrev q3p : IC := (.seq (.reg [od 2 (.mv (ku 0))] [kp [0] []]) (.seq (.seq (.reg [om 3 0, od 4 (.bin .gtr (tm 3) (ku 3))] [kp [0, 4] []]) (.cond (tm 4) (.seq (.reg [od 2 (.mv (ku 2))] [kp [2] []]) .ret) .skip)) (.seq (.reg [om 5 0, om 2 5] [kp [2]
 []]) .ret)))
def q3q : List RV := [.tmp 2]
/- probecard/logic.Read (function 114) -/
abbrev q5R : IC := (.seq (.reg [od 2 (.mv (ku 0))] [kp [0] []]) (.seq (.reg [om 3 0, od 4 (.mmx false [(tm 3), (ku 2)]), om 2 4] [kp [2] []]) .ret))
def q5S : List RV := [.tmp 2]
/- probecard/logic.Known (function 29) -/
abbrev q3r : IC := (.seq (.reg [od 2 (.mv kF)] [kp [0] []]) (.seq (.reg [om 3 0, od 4 (.bin .leq (tm 3) (ku 1)), om 2 4] [kp [2] []]) .ret))
def q3s : List RV := [.tmp 2]
/- probecard/logic.Not (function 115) -/
abbrev q7E : IC := (.seq (.reg [od 2 (.mv (ku 0))] [kp [0] []]) (.seq (.seq (.reg [om 3 0, od 4 (.call 29 [(tm 3)])] [kp [0, 4] []]) (.cond (tm 4) (.seq (.reg [om 5 0, od 6 (.bin .sub (ku 1) (tm 5)), om 2 6] [kp [2] []]) .ret) .skip)) (.seq (.reg [od
 2 (.mv (ku 2))] [kp [2] []]) .ret)))
def q2O : List RV := [.tmp 2]
/- probecard/logic.decided (function 155) -/
abbrev q1c : IC := .gh (.seq (.reg [od 14 (.bin .lss (tm 13) (tm 12))] [kp [1, 2, 7, 11, 12, 13, 14] []]) (.seq (.cond (tm 14) .skip (.exit 0)) (.seq (.block 1 (.seq (.reg [od 15 (ia 1 11 13), od 16 (ld 1 15), om 9 16] [kp [1, 2, 7, 9, 11, 12, 13]
 []]) (.block 2 (.seq (.reg [om 18 9, om 19 1, od 20 (.bin .eql (tm 18) (tm 19)), om 17 20] [kp [1, 2, 7, 9, 11, 12, 13, 17] []]) (.cond (tm 17) (.seq (.reg [om 21 1, om 6 21] [kp [6] []]) .ret) (.seq (.reg [om 23 9, om 24 2, od 25
 (.bin .neq (tm 23) (tm 24)), om 22 25] [kp [1, 2, 7, 11, 12, 13, 22] []]) (.cond (tm 22) (.reg [od 7 (.mv (ku 2))] [kp [1, 2, 7, 11, 12, 13] []]) .skip))))))) (.reg [od 26 (.bin .add (tm 13) (ki 1)), om 13 26] [kp [1, 2, 7, 11, 12,
 13] []])))) [kp [1, 2, 7, 11, 12, 13] []]
def N8 : IC := .loop q1c
abbrev q1d : IC := (.seq (.reg [od 6 (.mv (ku 0))] [kp [0, 1, 2] []]) (.seq (.reg [om 10 2, om 7 10] [kp [0, 1, 2, 7] []]) (.seq (.seq (.reg [om 11 0, od 12 (le 0 11), od 13 (.mv (ki 0))] [kp [1, 2, 7, 11, 12, 13] []]) (.block 0 N8))
 (.seq (.reg [om 27 7, om 6 27] [kp [6] []]) .ret))))
theorem W3 (h : ∀ K : St → Prop, K = run P Γ N8 Q → run P Γ q1c (An K Q) s) : run P Γ N8 Q s := Af h
def Un : List RV := [.tmp 6]
/- probecard/logic.And (function 116) -/
abbrev q7F : IC := (.seq (.reg [od 2 (.mv (ku 0))] [kp [0] []]) (.seq (.reg [om 3 0, od 4 (.call 155 [(tm 3), (ku 0), (ku 1)]), om 2 4] [kp [2] []]) .ret))
def q7G : List RV := [.tmp 2]
/- probecard/logic.Or (function 117) -/
abbrev q91 : IC := (.seq (.reg [od 2 (.mv (ku 0))] [kp [0] []]) (.seq (.reg [om 3 0, od 4 (.call 155 [(tm 3), (ku 1), (ku 0)]), om 2 4] [kp [2] []]) .ret))
def q92 : List RV := [.tmp 2]
/- probecard/logic.Xor (function 118) -/
abbrev q7H : IC := .gh (.seq (.reg [od 9 (.bin .lss (tm 8) (tm 7))] [kp [3, 6, 7, 8, 9] []]) (.seq (.cond (tm 9) .skip (.exit 0)) (.seq (.block 1 (.seq (.reg [od 10 (ia 1 6 8), od 11 (ld 1 10), om 5 11] [kp [3, 5, 6, 7, 8] []]) (.seq (.seq (.reg [om
 12 5, od 13 (.call 29 [(tm 12)]), od 14 (.un .not (tm 13))] [kp [3, 5, 6, 7, 8, 14] []]) (.cond (tm 14) (.seq (.reg [od 2 (.mv (ku 2))] [kp [2] []]) .ret) .skip)) (.reg [om 15 3, om 16 5, od 17 (.bin .xor (tm 15) (tm 16)), om 3 17]
 [kp [3, 6, 7, 8] []])))) (.reg [od 18 (.bin .add (tm 8) (ki 1)), om 8 18] [kp [3, 6, 7, 8] []])))) [kp [3, 6, 7, 8] []]
def Y9 : IC := .loop q7H
abbrev q7I : IC := (.seq (.reg [od 2 (.mv (ku 0))] [kp [0] []]) (.seq (.reg [od 3 (.mv (ku 0))] [kp [0, 3] []]) (.seq (.seq (.reg [om 6 0, od 7 (le 0 6), od 8 (.mv (ki 0))] [kp [3, 6, 7, 8] []]) (.block 0 Y9)) (.seq (.reg [om 19 3, om 2 19]
 [kp [2] []]) .ret))))
theorem q1e (h : ∀ K : St → Prop, K = run P Γ Y9 Q → run P Γ q7H (An K Q) s) : run P Γ Y9 Q s := Af h
def q2P : List RV := [.tmp 2]
/- probecard/logic.Mux (function 119) -/
abbrev Ri : IC := (.seq (.reg [od 6 (.mv (ku 0))] [kp [0, 1, 2] []]) (.seq (.block 0 (.seq (.reg [om 8 0, od 9 (.bin .eql (tm 8) (ku 0)), om 7 9] [kp [0, 1, 2, 7] []]) (.cond (tm 7) (.seq (.reg [om 10 1, od 11 (.call 114 [(tm 10)]), om 6 11] [kp [6]
 []]) .ret) (.seq (.reg [om 13 0, od 14 (.bin .eql (tm 13) (ku 1)), om 12 14] [kp [1, 2, 12] []]) (.cond (tm 12) (.seq (.reg [om 15 2, od 16 (.call 114 [(tm 15)]), om 6 16] [kp [6] []]) .ret) (.seq (.reg [om 18 1, om 19 2, od 20
 (.bin .eql (tm 18) (tm 19)), om 17 20] [kp [1, 17] []]) (.cond (tm 17) (.seq (.reg [om 21 1, od 22 (.call 114 [(tm 21)]), om 6 22] [kp [6] []]) .ret) .skip))))))) (.seq (.reg [od 6 (.mv (ku 2))] [kp [6] []]) .ret)))
def Rj : List RV := [.tmp 6]
/- probecard/logic.Tri (function 120) -/
abbrev Ya : IC := (.seq (.reg [od 4 (.mv (ku 0))] [kp [0, 1] []]) (.seq (.seq (.reg [om 5 0] [kp [1, 5] []]) (.block 0 (.seq (.reg [od 7 (.bin .eql (tm 5) (ku 0)), om 6 7] [kp [1, 5, 6] []]) (.cond (tm 6) (.seq (.reg [od 4 (.mv (ku 3))] [kp [4] []])
 .ret) (.seq (.reg [od 9 (.bin .eql (tm 5) (ku 1)), om 8 9] [kp [1, 8] []]) (.cond (tm 8) (.seq (.reg [om 10 1, od 11 (.call 114 [(tm 10)]), om 4 11] [kp [4] []]) .ret) .skip)))))) (.seq (.reg [od 4 (.mv (ku 2))] [kp [4] []])
 .ret)))
def Yb : List RV := [.tmp 4]
/- probecard/logic.Bus (function 121) -/
abbrev q7J : IC := (.seq (.reg [od 2 (.mv (ku 0))] [kp [0] []]) (.seq (.reg [od 3 (.mv (.func 156))] [kp [0, 3] []]) (.seq (.reg [od 4 (.mv (.func 157))] [kp [0, 3, 4] []]) (.seq (.reg [om 6 0, om 7 4, od 8 (.call 150 [(tm 6), (tm 7)]), om 5 8] [kp
 [0, 3, 5] []]) (.seq (.block 0 (.seq (.reg [om 10 5, od 11 (.bin .lss (tm 10) (ki 0)), om 9 11] [kp [0, 3, 5, 9] []]) (.cond (tm 9) (.seq (.reg [od 2 (.mv (ku 3))] [kp [2] []]) .ret) (.seq (.reg [om 13 0, od 14 (.call 158 [(tm
 13)]), om 15 14, oF 16 (.mv (tm 0)) 15, oF 17 (.mv (tm 3)) 15, oF 18 (.call 100 [(tm 16), (tm 17)]) 15, od 19 (.pick (tm 15) kT (tm 18)), om 12 19] [kp [0, 5, 12] []]) (.cond (tm 12) (.seq (.reg [od 2 (.mv (ku 2))] [kp [2] []])
 .ret) .skip))))) (.seq (.reg [om 20 0, om 21 5, od 22 (ia 1 20 21), od 23 (ld 1 22), om 2 23] [kp [2] []]) .ret))))))
def Rk : List RV := [.tmp 2]
/- probecard/logic.Bus$1 (function 156) -/
abbrev q3t : IC := (.seq (.reg [od 2 (.mv kF)] [kp [0] []]) (.seq (.reg [om 3 0, od 4 (.call 133 [(tm 3)]), od 5 (.bin .eql (tm 4) (ku 2)), om 2 5] [kp [2] []]) .ret))
def q3u : List RV := [.tmp 2]
/- probecard/logic.Bus$2 (function 157) -/
abbrev q3v : IC := (.seq (.reg [od 2 (.mv kF)] [kp [0] []]) (.seq (.reg [om 3 0, od 4 (.bin .neq (tm 3) (ku 3)), om 2 4] [kp [2] []]) .ret))
def q3w : List RV := [.tmp 2]
/- probecard/logic.Conflict (function 158) -/
abbrev q0V : IC := (.seq (.reg [od 2 (.mv kF)] [kp [0] []]) (.seq (.reg [om 3 0, od 4 (.call 177 [(tm 3), (ku 0)]), om 5 4, oT 6 (.mv (tm 0)) 5, oT 7 (.call 177 [(tm 6), (ku 1)]) 5, od 8 (.pick (tm 5) (tm 7) kF), om 2 8] [kp [2] []]) .ret))
def Rl : List RV := [.tmp 2]
/- slices.Contains[[]probecard/api.Value,probecard/api.Value] (function 177) -/
abbrev Jj : IC := (.seq (.reg [od 4 (.mv kF)] [kp [0, 1] []]) (.seq (.reg [om 5 0, om 6 1, od 7 (.call 195 [(tm 5), (tm 6)]), od 8 (.bin .geq (tm 7) (ki 0)), om 4 8] [kp [4] []]) .ret))
def Jk : List RV := [.tmp 4]
/- slices.Index[[]probecard/api.Value,probecard/api.Value] (function 195) -/
abbrev Nx : IC := .gh (.seq (.reg [od 9 (.bin .lss (tm 8) (tm 7))] [kp [0, 1, 7, 8, 9] []]) (.seq (.cond (tm 9) .skip (.exit 0)) (.seq (.block 1 (.seq (.reg [om 10 8, om 5 10] [kp [0, 1, 5, 7, 8] []]) (.seq (.reg [om 11 1, om 12 0, om 13 5, od 14
 (ia 1 12 13), od 15 (ld 1 14), od 16 (.bin .eql (tm 11) (tm 15))] [kp [0, 1, 5, 7, 8, 16] []]) (.cond (tm 16) (.seq (.reg [om 17 5, om 4 17] [kp [4] []]) .ret) .skip)))) (.reg [od 18 (.bin .add (tm 8) (ki 1)), om 8 18] [kp [0, 1,
 7, 8] []])))) [kp [0, 1, 7, 8] []]
def Ef : IC := .loop Nx
def H7 : List RO := [od 4 (.mv (.const (.int .i64 (-1))))]
abbrev Ny : IC := (.seq (.reg [od 4 (.mv (ki 0))] [kp [0, 1] []]) (.seq (.seq (.reg [om 6 0, od 7 (le 0 6), od 8 (.mv (ki 0))] [kp [0, 1, 7, 8] []]) (.block 0 Ef)) (.seq (.reg H7 [kp [4] []]) .ret)))
theorem It (h : ∀ K : St → Prop, K = run P Γ Ef Q → run P Γ Nx (An K Q) s) : run P Γ Ef Q s := Af h
attribute [simp] H7
def Di : List RV := [.tmp 4]
/- slices.ContainsFunc[[]probecard/api.Value,probecard/api.Value] (function 100) -/
abbrev Hj : IC := (.seq (.reg [od 4 (.mv kF)] [kp [0, 1] []]) (.seq (.reg [om 5 0, om 6 1, od 7 (.call 150 [(tm 5), (tm 6)]), od 8 (.bin .geq (tm 7) (ki 0)), om 4 8] [kp [4] []]) .ret))
def Hk : List RV := [.tmp 4]
/- slices.IndexFunc[[]probecard/api.Value,probecard/api.Value] (function 150) -/
abbrev Iu : IC := .gh (.seq (.reg [od 9 (.bin .lss (tm 8) (tm 7))] [kp [0, 1, 7, 8, 9] []]) (.seq (.cond (tm 9) .skip (.exit 0)) (.seq (.block 1 (.seq (.reg [om 10 8, om 5 10] [kp [0, 1, 5, 7, 8] []]) (.seq (.reg [om 11 1, om 12 0, om 13 5, od 14
 (ia 1 12 13), od 15 (ld 1 14), od 16 (.callv (tm 11) [(tm 15)])] [kp [0, 1, 5, 7, 8, 16] []]) (.cond (tm 16) (.seq (.reg [om 17 5, om 4 17] [kp [4] []]) .ret) .skip)))) (.reg [od 18 (.bin .add (tm 8) (ki 1)), om 8 18] [kp [0, 1, 7,
 8] []])))) [kp [0, 1, 7, 8] []]
def Dl : IC := .loop Iu
abbrev Iw : IC := (.seq (.reg [od 4 (.mv (ki 0))] [kp [0, 1] []]) (.seq (.seq (.reg [om 6 0, od 7 (le 0 6), od 8 (.mv (ki 0))] [kp [0, 1, 7, 8] []]) (.block 0 Dl)) (.seq (.reg [od 4 (.mv (.const (.int .i64 (-1))))] [kp [4]
 []]) .ret)))
theorem Gy (h : ∀ K : St → Prop, K = run P Γ Dl Q → run P Γ Iu (An K Q) s) : run P Γ Dl Q s := Af h
def F5 : List RV := [.tmp 4]
/- probecard/logic.Eval (function 49) -/
abbrev Bt : IC := (.seq (.reg [od 4 (.mv (ku 0))] [kp [0, 1] []]) (.seq (.seq (.reg [om 8 0, od 9 (.call 113 [(tm 8)]), om 7 9, od 10 (ex 7 0), od 11 (ex 7 1), om 5 10, om 6 11] [kp [0, 1, 5, 6] []]) (.seq (.reg [om 12 1, od 13 (le 0 12), om 14 5,
 od 15 (.bin .lss (tm 13) (tm 14)), om 16 15, oF 17 (.mv (tm 1)) 16, oF 18 (le 0 17) 16, oF 19 (.mv (tm 6)) 16, oF 20 (.bin .gtr (tm 18) (tm 19)) 16, od 21 (.pick (tm 16) kT (tm 20))] [kp [0, 1, 21] []]) (.cond (tm 21) (.seq (.reg
 [od 4 (.mv (ku 2))] [kp [4] []]) .ret) .skip))) (.seq (.seq (.reg [om 22 0] [kp [1, 22] []]) (.block 0 (.seq (.reg [od 24 (.bin .eql (tm 22) (ku 1)), om 23 24] [kp [1, 22, 23] []]) (.cond (tm 23) (.seq (.reg [od 4 (.mv (ku 0))] [kp
 [4] []]) .ret) (.seq (.reg [od 26 (.bin .eql (tm 22) (ku 2)), om 25 26] [kp [1, 22, 25] []]) (.cond (tm 25) (.seq (.reg [od 4 (.mv (ku 1))] [kp [4] []]) .ret) (.seq (.reg [od 28 (.bin .eql (tm 22) (ku 3)), om 27 28] [kp [1, 22, 27]
 []]) (.cond (tm 27) (.seq (.reg [om 29 1, od 30 (.iadr 1 (tm 29) (ki 0)), od 31 (ld 1 30), od 32 (.call 114 [(tm 31)]), om 4 32] [kp [4] []]) .ret) (.seq (.reg [od 34 (.bin .eql (tm 22) (ku 4)), om 33 34] [kp [1, 22, 33] []])
 (.cond (tm 33) (.seq (.reg [om 35 1, od 36 (.iadr 1 (tm 35) (ki 0)), od 37 (ld 1 36), od 38 (.call 115 [(tm 37)]), om 4 38] [kp [4] []]) .ret) (.seq (.reg [od 40 (.bin .eql (tm 22) (ku 5)), om 39 40] [kp [1, 22, 39] []]) (.cond (tm
 39) (.seq (.reg [om 41 1, od 42 (.call 116 [(tm 41)]), om 4 42] [kp [4] []]) .ret) (.seq (.reg [od 44 (.bin .eql (tm 22) (ku 6)), om 43 44] [kp [1, 22, 43] []]) (.cond (tm 43) (.seq (.reg [om 45 1, od 46 (.call 116 [(tm 45)]), od
 47 (.call 115 [(tm 46)]), om 4 47] [kp [4] []]) .ret) (.seq (.reg [od 49 (.bin .eql (tm 22) (ku 7)), om 48 49] [kp [1, 22, 48] []]) (.cond (tm 48) (.seq (.reg [om 50 1, od 51 (.call 117 [(tm 50)]), om 4 51] [kp [4] []]) .ret) (.seq
 (.reg [od 53 (.bin .eql (tm 22) (ku 8)), om 52 53] [kp [1, 22, 52] []]) (.cond (tm 52) (.seq (.reg [om 54 1, od 55 (.call 117 [(tm 54)]), od 56 (.call 115 [(tm 55)]), om 4 56] [kp [4] []]) .ret) (.seq (.reg [od 58 (.bin .eql (tm
 22) (ku 9)), om 57 58] [kp [1, 22, 57] []]) (.cond (tm 57) (.seq (.reg [om 59 1, od 60 (.call 118 [(tm 59)]), om 4 60] [kp [4] []]) .ret) (.seq (.reg [od 62 (.bin .eql (tm 22) (ku 10)), om 61 62] [kp [1, 22, 61] []]) (.cond (tm 61)
 (.seq (.reg [om 63 1, od 64 (.call 118 [(tm 63)]), od 65 (.call 115 [(tm 64)]), om 4 65] [kp [4] []]) .ret) (.seq (.reg [od 67 (.bin .eql (tm 22) (ku 11)), om 66 67] [kp [1, 22, 66] []]) (.cond (tm 66) (.seq (.reg [om 68 1, od 69
 (.iadr 1 (tm 68) (ki 0)), od 70 (ld 1 69), om 71 1, od 72 (.iadr 1 (tm 71) (ki 1)), od 73 (ld 1 72), om 74 1, od 75 (.iadr 1 (tm 74) (ki 2)), od 76 (ld 1 75), od 77 (.call 119 [(tm 70), (tm 73), (tm 76)]), om 4 77] [kp [4] []])
 .ret) (.seq (.reg [od 79 (.bin .eql (tm 22) (ku 12)), om 78 79] [kp [1, 22, 78] []]) (.cond (tm 78) (.seq (.reg [om 80 1, od 81 (.iadr 1 (tm 80) (ki 0)), od 82 (ld 1 81), om 83 1, od 84 (.iadr 1 (tm 83) (ki 1)), od 85 (ld 1 84), od
 86 (.call 120 [(tm 82), (tm 85)]), om 4 86] [kp [4] []]) .ret) (.seq (.reg [od 88 (.bin .eql (tm 22) (ku 13)), om 87 88] [kp [1, 87] []]) (.cond (tm 87) (.seq (.reg [om 89 1, od 90 (.call 121 [(tm 89)]), om 4 90] [kp [4] []]) .ret)
 .skip)))))))))))))))))))))))))))) (.seq (.reg [od 4 (.mv (ku 2))] [kp [4] []]) .ret))))
def Bo : List RV := [.tmp 4]
end
end Go.Lg
namespace Go.Lg
open Go Go.Proofs
theorem q9M : Au Tryz.prog 133 q3p 6 1 q3q = true := by kernel_rfl
theorem qAZ : Au Tryz.prog 114 q5R 5 1 q5S = true := by kernel_rfl
theorem q9N : Au Tryz.prog 29 q3r 5 1 q3s = true := by kernel_rfl
theorem qBK : Au Tryz.prog 115 q7E 7 1 q2O = true := by kernel_rfl
theorem q7K : Au Tryz.prog 155 q1d 28 3 Un = true := by kernel_rfl
theorem qBL : Au Tryz.prog 116 q7F 5 1 q7G = true := by kernel_rfl
theorem qCg : Au Tryz.prog 117 q91 5 1 q92 = true := by kernel_rfl
theorem qBM : Au Tryz.prog 118 q7I 20 1 q2P = true := by kernel_rfl
theorem qBN : Au Tryz.prog 119 Ri 23 3 Rj = true := by kernel_rfl
theorem qBO : Au Tryz.prog 120 Ya 12 2 Yb = true := by kernel_rfl
theorem qBP : Au Tryz.prog 121 q7J 24 1 Rk = true := by kernel_rfl
theorem q9O : Au Tryz.prog 156 q3t 6 1 q3u = true := by kernel_rfl
theorem q9P : Au Tryz.prog 157 q3v 5 1 q3w = true := by kernel_rfl
theorem q6Q : Au Tryz.prog 158 q0V 9 1 Rl = true := by kernel_rfl
theorem W4 : Au Tryz.prog 177 Jj 9 2 Jk = true := by kernel_rfl
theorem Zc : Au Tryz.prog 195 Ny 19 2 Di = true := by kernel_rfl
theorem Qm : Au Tryz.prog 100 Hj 9 2 Hk = true := by kernel_rfl
theorem Uo : Au Tryz.prog 150 Iw 19 2 F5 = true := by kernel_rfl
theorem qAa : Au Tryz.prog 49 Bt 91 2 Bo = true := by kernel_rfl
end Go.Lg
set_option linter.unusedSimpArgs false
set_option maxRecDepth 100000
namespace Go.Lg
open Go Go.Proofs
variable {Γ : Tables}
theorem q6R (v : Int) : A6 Tryz.prog Γ 133 [tK v] (tK (Du v)) := by
 refine Aa q9M rfl ?_
 by_cases h : 3 < v <;> simp [q3p, q3q, B6, Du, h]
theorem Up (v : Int) : A6 Tryz.prog Γ 114 [tK v] (tK (Dk v)) := by
 refine Aa qAZ rfl ?_
 by_cases h : v < 2 <;> simp [q5R, q5S, B6, Dk, h, q1K, I6] <;> omega
theorem Zd (v : Int) : A6 Tryz.prog Γ 29 [tK v] (tB (Rh v)) := by
 refine Aa q9N rfl ?_
 simp [q3r, q3s, B6, Rh]
theorem q7L (v : Int) (h0 : 0 ≤ v) : A6 Tryz.prog Γ 115 [tK v] (tK (Oh v)) := by
 refine Aa qBK rfl ?_
 simp [q7E]
 refine A4 (Zd v) rfl ?_
 by_cases h : v ≤ 1
 ·simp (disch := omega) [q2O, B6, Rh, Oh, h, Bm]
 ·simp (disch := omega) [q2O, B6, Rh, Oh, h, Bm]
theorem qIH (s a b : Int) : A6 Tryz.prog Γ 119 [tK s, tK a, tK b] (tK (qBJ s a b)) := by
 refine Aa qBN rfl ?_
 by_cases h : s = 0
 ·simp [Ri, h]
  refine A4 (Up a) rfl ?_
  simp [Rj, B6, qBJ, h]
 by_cases h1 : s = 1
 ·simp [Ri, h1]
  refine A4 (Up b) rfl ?_
  simp [Rj, B6, qBJ, h1]
 by_cases h2 : a = b
 ·simp [Ri, h, h1, h2]
  refine A4 (Up b) rfl ?_
  simp [Rj, B6, qBJ, h, h1, h2]
 ·simp [Ri, h, h1, h2, Rj, B6, qBJ]
theorem qII (e d : Int) : A6 Tryz.prog Γ 120 [tK e, tK d] (tK (qCd e d)) := by
 refine Aa qBO rfl ?_
 by_cases h : e = 0
 ·simp [Ya, h, Yb, B6, qCd]
 by_cases h1 : e = 1
 ·simp [Ya, h1]
  refine A4 (Up d) rfl ?_
  simp [Yb, B6, qCd, h1]
 ·simp [Ya, h, h1, Yb, B6, qCd]
abbrev Ai (l : List Int) : List (List T) := Aj tK l
def tV (s : Sl Int) : T := .sl (Ai s.l) s.cap s.nl
theorem q2Q {Q : AX → St → Prop} (l : List Int) (c : Option Nat) (nl : Option Bool) (low high : Int) (hl : l.length ≤ 1000000000) (R : Int)
  (h0 : Q (.exit 0) ⟨[(1, .t (tK low)), (2, .t (tK high)), (7, .t (tK R)), (11, .t (.sl (Ai l) c nl)), (12, .t (tI l.length)), (13, .t (tI l.length)), (14, .t (tB false))], []⟩)
  (h1 : R = low → Q .ret ⟨[(6, .t (tK low))], []⟩) : ∀ (k i : Nat) (out : Int), k + i = l.length → La low high out (l.drop i) = R →
  run Tryz.prog Γ N8 Q ⟨[(1, .t (tK low)), (2, .t (tK high)), (7, .t (tK out)), (11, .t (.sl (Ai l) c nl)), (12, .t (tI l.length)), (13, .t (tI i))], []⟩
 | 0, i, out, h, hR => by
  refine W3 fun K hK => ?_
  have h2 : ¬ i < l.length := by omega
  rw [List.drop_of_length_le (by omega)] at hR
  simp only [La] at hR
  subst hR
  have h3 : i = l.length := by omega
  simp [h2]
  subst h3
  exact h0
 | k + 1, i, out, h, hR => by
  refine W3 fun K hK => ?_
  have h2 : i < l.length := by omega
  rw [List.drop_eq_getElem_cons h2] at hR
  simp only [La] at hR
  have hget := Cb (f := tK) 0 h2
  simp only [List.getElem?_eq_getElem h2, Option.getD_some] at hget
  generalize l[i] = v at *
  by_cases a1 : v = low
  ·rw [if_pos a1] at hR
   simp (disch := omega) [h2, A5, hget, A8, A9, a1]
   exact h1 hR.symm
  ·by_cases a2 : v = high
   ·rw [if_neg a1, if_neg (by simp [a2])] at hR
    have ih := q2Q l c nl low high hl R h0 h1 k (i + 1) out (by omega) hR
    have a1' : ¬ high = low := by rw [← a2]; exact a1
    simp (disch := omega) [h2, A5, hget, A8, A9, a1', a2]
    rw [hK]
    exact_mod_cast ih
   ·rw [if_neg a1, if_pos a2] at hR
    have ih := q2Q l c nl low high hl R h0 h1 k (i + 1) 2 (by omega) hR
    simp (disch := omega) [h2, A5, hget, A8, A9, a1, a2]
    rw [hK]
    exact_mod_cast ih
theorem q7M (l : List Int) (c : Option Nat) (nl : Option Bool) (low high : Int) (hl : l.length ≤ 1000000000) : A6 Tryz.prog Γ 155 [.sl (Ai l) c nl, tK low, tK high] (tK (La low high high l)) := by
 refine Aa q7K rfl ?_
 simp (disch := omega) [q1d, A5, A9]
 refine q2Q l c nl low high hl (La low high high l) ?_ (fun h => ?_) l.length 0 high (by omega) (by simp)
 ·simp [Un, B6]
 ·simp [Un, B6, h]
theorem qDx (l : List Int) (c : Option Nat) (nl : Option Bool) (hl : l.length ≤ 1000000000) : A6 Tryz.prog Γ 116 [.sl (Ai l) c nl] (tK (La 0 1 1 l)) := by
 refine Aa qBL rfl ?_
 simp [q7F]
 refine A4 (q7M l c nl 0 1 hl) rfl ?_
 simp [q7G, B6]
theorem qGF (l : List Int) (c : Option Nat) (nl : Option Bool) (hl : l.length ≤ 1000000000) : A6 Tryz.prog Γ 117 [.sl (Ai l) c nl] (tK (La 1 0 0 l)) := by
 refine Aa qCg rfl ?_
 simp [q91]
 refine A4 (q7M l c nl 1 0 hl) rfl ?_
 simp [q92, B6]
theorem qK3 {a b : Int} (ha : a = 0 ∨ a = 1) (hb : b = 0 ∨ b = 1) : IntKind.u8.wrap ((BitVec.ofInt IntKind.u8.bits a ^^^ BitVec.ofInt IntKind.u8.bits b).toNat : Int) = qFG a b := by
 rcases ha with rfl | rfl <;> rcases hb with rfl | rfl <;> decide
theorem qDy {Q : AX → St → Prop} (l : List Int) (c : Option Nat) (nl : Option Bool) (hl : l.length ≤ 1000000000) (hv : ∀ v ∈ l, 0 ≤ v) (R : Int)
  (h0 : Q (.exit 0) ⟨[(3, .t (tK R)), (6, .t (.sl (Ai l) c nl)), (7, .t (tI l.length)), (8, .t (tI l.length)), (9, .t (tB false))], []⟩)
  (h1 : R = 2 → Q .ret ⟨[(2, .t (tK 2))], []⟩) : ∀ (k i : Nat) (out : Int), k + i = l.length → (out = 0 ∨ out = 1) → Y8 out (l.drop i) = R →
  run Tryz.prog Γ Y9 Q ⟨[(3, .t (tK out)), (6, .t (.sl (Ai l) c nl)), (7, .t (tI l.length)), (8, .t (tI i))], []⟩
 | 0, i, out, h, ho, hR => by
  refine q1e fun K hK => ?_
  have h2 : ¬ i < l.length := by omega
  rw [List.drop_of_length_le (by omega)] at hR
  simp only [Y8] at hR
  subst hR
  have h3 : i = l.length := by omega
  simp [h2]
  subst h3
  exact h0
 | k + 1, i, out, h, ho, hR => by
  refine q1e fun K hK => ?_
  have h2 : i < l.length := by omega
  rw [List.drop_eq_getElem_cons h2] at hR
  simp only [Y8] at hR
  have hget := Cb (f := tK) 0 h2
  simp only [List.getElem?_eq_getElem h2, Option.getD_some] at hget
  have hv0 := hv _ (List.getElem_mem h2)
  generalize l[i] = v at *
  by_cases a1 : v ≤ 1
  ·rw [if_pos a1] at hR
   have ih := qDy l c nl hl hv R h0 h1 k (i + 1) (qFG out v) (by omega) (by unfold qFG; split <;> simp) hR
   simp (disch := omega) [h2, A5, hget, A8, A9]
   refine A4 (Zd v) rfl ?_
   have hx := qK3 ho (show v = 0 ∨ v = 1 by omega)
   simp (disch := omega) [Rh, a1, ↓hx, A9]
   rw [hK]
   exact_mod_cast ih
  ·rw [if_neg a1] at hR
   simp (disch := omega) [h2, A5, hget, A8, A9]
   refine A4 (Zd v) rfl ?_
   simp (disch := omega) [Rh, a1]
   exact h1 hR.symm
theorem qDz (l : List Int) (c : Option Nat) (nl : Option Bool) (hl : l.length ≤ 1000000000) (hv : ∀ v ∈ l, 0 ≤ v) : A6 Tryz.prog Γ 118 [.sl (Ai l) c nl] (tK (Y8 0 l)) := by
 refine Aa qBM rfl ?_
 simp (disch := omega) [q7I, A5, A9]
 refine qDy l c nl hl hv (Y8 0 l) ?_ (fun h => ?_) l.length 0 0 (by omega) (.inl rfl) (by simp)
 ·simp [q2P, B6]
 ·simp [q2P, B6, h]
theorem q3x (l : List Int) (c : Option Nat) (nl : Option Bool) (x : Int) (hl : l.length ≤ 1000000000) : ∀ (k i : Nat), k + i = l.length → (∀ j, j < i → ∀ y, l[j]? = some y → (y == x) = false) →
  run Tryz.prog Γ Ef (Lh 0 (An (run Tryz.prog Γ (.seq (.reg H7 [.keep [4] []]) .ret) (ret true Di fun r => r = tI (q18 (· == x) l))) (ret true Di fun r => r = tI (q18 (· == x) l)))) ⟨[(0, .t (.sl (Aj tK l) c nl)), (1, .t (tK x)), (7, .t (tI l.length)), (8, .t (tI i))], []⟩
 | 0, i, h, hp => by
  refine It fun K hK => ?_
  have h2 : ¬ i < l.length := by omega
  simp (disch := omega) [A5, Cb (0 : Int), A8, A9, h2, ret, Di, Dp, G4, G3, B6]
  have : l.findIdx? (· == x) = none := by
   rw [List.findIdx?_eq_none_iff]
   intro y hy
   obtain ⟨j, hj, rfl⟩ := List.getElem_of_mem hy
   exact hp j (by omega) _ (List.getElem?_eq_getElem hj)
  have e : l.findIdx? (fun y => decide (y = x)) = _ := this
  simp [q18, e]
 | k + 1, i, h, hp => by
  refine It fun K hK => ?_
  have h2 : i < l.length := by omega
  simp (disch := omega) [A5, Cb (0 : Int), A8, A9, h2]
  refine ⟨fun hc => ?_, fun hc => ?_⟩
  ·simp [Bv, ret, Di, Dp, G4, G3, B6]
   have := q2L (p := (· == x)) hp l[i] (List.getElem?_eq_getElem h2) (by simp [hc])
   have e : l.findIdx? (fun y => decide (y = x)) = _ := this
   simp [q18, e]
  ·simp (disch := omega) [Bv, A9]
   rw [hK]
   exact_mod_cast q3x l c nl x hl k (i + 1) (by omega) (fun j hj y hy => by
    rcases Nat.lt_succ_iff_lt_or_eq.1 hj with hj | rfl
    ·exact hp j hj y hy
    ·rw [List.getElem?_eq_getElem h2] at hy; simp at hy; subst hy
     simp; exact fun e => hc e.symm)
theorem qHC (l : List Int) (c : Option Nat) (nl : Option Bool) (x : Int) (hl : l.length ≤ 1000000000) : A6 Tryz.prog Γ 195 [.sl (Aj tK l) c nl, tK x] (tI (q18 (· == x) l)) := by
 refine Aa Zc rfl ?_
 simp (disch := omega) [Ny, A5, A9]
 exact_mod_cast q3x l c nl x hl l.length 0 (by omega) (by simp)
theorem q7N (l : List Int) (c : Option Nat) (nl : Option Bool) (x : Int) (hl : l.length ≤ 1000000000) : A6 Tryz.prog Γ 177 [.sl (Aj tK l) c nl, tK x] (tB (l.contains x)) := by
 refine Aa W4 rfl ?_
 simp (disch := omega) [Jj, A5, A9]
 refine A4 (qHC l c nl x hl) rfl ?_
 simp [ret, Jk, Dp, G4, G3, B6]
 unfold q18
 cases h : l.findIdx? (· == x) with
 | none =>
  rw [List.findIdx?_eq_none_iff] at h
  have : ¬ x ∈ l := fun hx => by simpa using h x hx
  simp [this]
 | some i =>
  rw [List.findIdx?_eq_some_iff_getElem] at h
  obtain ⟨hi, h1, _⟩ := h
  have : x ∈ l := by rw [← (show l[i] = x by simpa using h1)]; exact List.getElem_mem hi
  simp [this]
theorem Ze {Q : AX → St → Prop} (l : List Int) (c : Option Nat) (nl : Option Bool) (f : FuncId) (cs : List T) (p : Int → Bool) (hp : ∀ x ∈ l, A6 Tryz.prog Γ f (tK x :: cs) (tB (p x))) (hl : l.length ≤ 1000000000)
  (h0 : (∀ x ∈ l, p x = false) → Q (.exit 0) ⟨[(0, .t (.sl (Aj tK l) c nl)), (1, .t (.fn f cs)), (7, .t (tI l.length)), (8, .t (tI l.length)), (9, .t (tB false))], []⟩)
  (h1 : ∀ i : Nat, l.findIdx? p = some i → Q .ret ⟨[(4, .t (tI i))], []⟩) : ∀ (k i : Nat), k + i = l.length → (∀ j, j < i → ∀ y, l[j]? = some y → p y = false) →
  run Tryz.prog Γ Dl Q ⟨[(0, .t (.sl (Aj tK l) c nl)), (1, .t (.fn f cs)), (7, .t (tI l.length)), (8, .t (tI i))], []⟩
 | 0, i, h, hq => by
  refine Gy fun K hK => ?_
  have h2 : ¬ i < l.length := by omega
  simp (disch := omega) [A5, Cb (0 : Int), A8, A9, h2]
  have h3 : i = l.length := by omega
  subst h3
  refine h0 fun y hy => ?_
  obtain ⟨j, hj, rfl⟩ := List.getElem_of_mem hy
  exact hq j (by omega) _ (List.getElem?_eq_getElem hj)
 | k + 1, i, h, hq => by
  refine Gy fun K hK => ?_
  have h2 : i < l.length := by omega
  simp (disch := omega) [A5, Cb (0 : Int), A8, A9, h2]
  refine Z8 (hp l[i] (List.getElem_mem h2)) ?_
  simp
  refine ⟨fun hc => ?_, fun hc => ?_⟩
  ·simp [Bv]
   exact h1 i (q2L hq l[i] (List.getElem?_eq_getElem h2) hc)
  ·simp (disch := omega) [Bv, A9]
   rw [hK]
   exact_mod_cast Ze l c nl f cs p hp hl h0 h1 k (i + 1) (by omega) (fun j hj y hy => by
    rcases Nat.lt_succ_iff_lt_or_eq.1 hj with hj | rfl
    ·exact hq j hj y hy
    ·rw [List.getElem?_eq_getElem h2] at hy; simp at hy; subst hy; exact hc)
theorem q5T (l : List Int) (c : Option Nat) (nl : Option Bool) (f : FuncId) (cs : List T) (p : Int → Bool) (hp : ∀ x ∈ l, A6 Tryz.prog Γ f (tK x :: cs) (tB (p x))) (hl : l.length ≤ 1000000000) : A6 Tryz.prog Γ 150 [.sl (Aj tK l) c nl, .fn f cs] (tI (q18 p l)) := by
 refine Aa Uo rfl ?_
 simp (disch := omega) [Iw, A5, A9]
 refine Ze l c nl f cs p hp hl (fun h => ?_) (fun i h => ?_) l.length 0 (by omega) (by simp)
 ·have : l.findIdx? p = none := List.findIdx?_eq_none_iff.2 h
  simp [ret, F5, Dp, G4, G3, B6, q18, this]
 ·simp [ret, F5, Dp, G4, G3, B6, q18, h]
theorem N9 (l : List Int) (c : Option Nat) (nl : Option Bool) (f : FuncId) (cs : List T) (p : Int → Bool) (hp : ∀ x ∈ l, A6 Tryz.prog Γ f (tK x :: cs) (tB (p x))) (hl : l.length ≤ 1000000000) : A6 Tryz.prog Γ 100 [.sl (Aj tK l) c nl, .fn f cs] (tB (l.any p)) := by
 refine Aa Qm rfl ?_
 simp (disch := omega) [Hj, A5, A9]
 refine A4 (q5T l c nl f cs p hp hl) rfl ?_
 simp [ret, Hk, Dp, G4, G3, B6]
 unfold q18
 cases h : l.findIdx? p with
 | none =>
  rw [List.findIdx?_eq_none_iff] at h
  have : l.any p = false := by rw [List.any_eq_false]; intro x hx; simp [h x hx]
  simp [this]
 | some i =>
  rw [List.findIdx?_eq_some_iff_getElem] at h
  obtain ⟨hi, h1, _⟩ := h
  have : l.any p = true := List.any_eq_true.2 ⟨_, List.getElem_mem hi, h1⟩
  simp [this]
theorem qBQ (l : List Int) (c : Option Nat) (nl : Option Bool) (hl : l.length ≤ 1000000000) : A6 Tryz.prog Γ 158 [.sl (Ai l) c nl] (tB (q3k l)) := by
 refine Aa q6Q rfl ?_
 simp [q0V]
 refine A4 (q7N l c nl 0 hl) rfl ?_
 simp
 by_cases h : (0 : Int) ∈ l
 ·simp [h]
  refine A4 (q7N l c nl 1 hl) rfl ?_
  simp [Rl, B6, q3k, h]
 ·simp [h, Rl, B6, q3k]
theorem qIJ (v : Int) : A6 Tryz.prog Γ 156 [tK v] (tB (qDt v)) := by
 refine Aa q9O rfl ?_
 simp [q3t]
 refine A4 (q6R v) rfl ?_
 simp [q3u, B6, qDt]
theorem qIK (v : Int) : A6 Tryz.prog Γ 157 [tK v] (tB (qDu v)) := by
 refine Aa q9P rfl ?_
 simp [q3v, q3w, B6, qDu]
theorem qIL (l : List Int) (c : Option Nat) (nl : Option Bool) (hl : l.length ≤ 1000000000) : A6 Tryz.prog Γ 121 [.sl (Ai l) c nl] (tK (q8K l)) := by
 refine Aa qBP rfl ?_
 simp [q7J]
 refine A4 (q5T l c nl _ [] qDu (fun x _ => qIK x) hl) rfl ?_
 unfold q18
 cases h : l.findIdx? qDu with
 | none =>
  have hR : q8K l = 3 := by unfold q8K; rw [h]
  simp [Rk, B6, hR]
 | some i =>
  have hb : q8K l = if q3k l = true ∨ l.any qDt = true then 2 else l.getD i 0 := by unfold q8K; rw [h]
  have hi : i < l.length := by
   rw [List.findIdx?_eq_some_iff_getElem] at h
   exact h.1
  have hget := Cb (f := tK) 0 hi
  have hgg : l[i]?.getD 0 = l.getD i 0 := by simp [List.getD_eq_getElem?_getD]
  rw [hgg] at hget
  have hneg : ¬ (i : Int) < 0 := by omega
  simp only
  simp [hneg]
  refine A4 (qBQ l c nl hl) rfl ?_
  by_cases h1 : q3k l = true
  ·rw [if_pos (.inl h1)] at hb
   simp [h1, Rk, B6, hb]
  ·simp [h1]
   refine A4 (N9 l c nl _ [] qDt (fun x _ => qIJ x) hl) rfl ?_
   by_cases h2 : l.any qDt = true
   ·rw [if_pos (.inr h2)] at hb
    simp only [h2]
    simp [Rk, B6, hb]
   ·rw [if_neg (by rintro (h | h); exact h1 h; exact h2 h)] at hb
    simp only [Bool.not_eq_true] at h2
    generalize q8K l = r at *
    subst hb
    simp only [h2]
    simp (disch := omega) [Rk, B6, A5, A8, hget, hi]
theorem qHD (hΓ : GOk Γ) (k : Int) (hk : 0 ≤ k ∧ k ≤ 255) (l : List Int) (c : Option Nat) (nl : Option Bool) (hl : l.length ≤ 1000000000) (hv : ∀ v ∈ l, V4 v) : A6 Tryz.prog Γ 49 [tK k, .sl (Ai l) c nl] (tK (Tz k l)) := by
 refine Aa qAa rfl ?_
 unfold Tz
 by_cases hw : Ht k l.length = true
 ·rw [if_pos hw]
  simp only [Ht, decide_eq_true_eq] at hw
  simp [Bt]
  refine A4 (Dj hΓ k hk.1 hk.2) rfl ?_
  by_cases hw1 : (l.length : Int) < (O5 k).1
  ·simp [A5, hw1, Bo, B6]
  ·have hw2 : (O5 k).2 < (l.length : Int) := by omega
   simp [A5, hw1, hw2, Bo, B6]
 rw [if_neg hw]
 simp only [Ht, decide_eq_true_eq] at hw
 have hw1 : ¬ (l.length : Int) < (O5 k).1 := by omega
 have hw2 : ¬ (O5 k).2 < (l.length : Int) := by omega
 have hv0 : ∀ v ∈ l, 0 ≤ v := fun v h => (hv v h).1
 have ge : ∀ i, i < l.length → (Aj tK l)[i]?.getD [] = [tK (l.getD i 0)] := fun i hi => by
  have hget := Cb (f := tK) 0 hi
  have hgg : l[i]?.getD 0 = l.getD i 0 := by simp [List.getD_eq_getElem?_getD]
  rw [hgg] at hget
  exact hget
 have dA := W2 (low := 0) (l := l) (out := 1) (high := 1) (.inr rfl)
 have dO := W2 (low := 1) (l := l) (out := 0) (high := 0) (.inr rfl)
 have n1 : 0 ≤ La 0 1 1 l := by rw [dA]; split; omega; split <;> omega
 have n2 : 0 ≤ La 1 0 0 l := by rw [dO]; split; omega; split <;> omega
 have n3 : 0 ≤ Y8 0 l := (qFH (by simp [V4]) hv).1
 have g0 := Ul hv 0
 by_cases e1 : k = 1
 ·subst e1
  have hR : Dy 1 l = 0 := rfl
  generalize Dy 1 l = r at *
  subst hR
  simp [Bt]
  refine A4 (Dj hΓ 1 hk.1 hk.2) rfl ?_
  simp [A5, hw1, hw2, Bv, Bo, B6]
 by_cases e2 : k = 2
 ·subst e2
  have hR : Dy 2 l = 1 := rfl
  generalize Dy 2 l = r at *
  subst hR
  simp [Bt]
  refine A4 (Dj hΓ 2 hk.1 hk.2) rfl ?_
  simp [A5, hw1, hw2, Bv, Bo, B6]
 by_cases e3 : k = 3
 ·subst e3
  have f1 : (O5 3).1 = 1 := rfl
  have q0 : 0 < l.length := by omega
  have u0 := ge 0 q0
  have hR : Dy 3 l = Dk (l.getD 0 0) := rfl
  generalize l.getD 0 0 = x0 at *
  generalize Dy 3 l = r at *
  subst hR
  simp [Bt]
  refine A4 (Dj hΓ 3 hk.1 hk.2) rfl ?_
  simp [A5, hw1, hw2, Bv]
  simp (disch := omega) [A5, A8, q0, u0]
  refine A4 (Up x0) rfl ?_
  simp [Bo, B6]
 by_cases e4 : k = 4
 ·subst e4
  have f1 : (O5 4).1 = 1 := rfl
  have q0 : 0 < l.length := by omega
  have u0 := ge 0 q0
  have p0 := g0.1
  have hR : Dy 4 l = Oh (l.getD 0 0) := rfl
  generalize l.getD 0 0 = x0 at *
  generalize Dy 4 l = r at *
  subst hR
  simp [Bt]
  refine A4 (Dj hΓ 4 hk.1 hk.2) rfl ?_
  simp [A5, hw1, hw2, Bv]
  simp (disch := omega) [A5, A8, q0, u0]
  refine A4 (q7L x0 p0) rfl ?_
  simp [Bo, B6]
 by_cases e5 : k = 5
 ·subst e5
  have hR : Dy 5 l = La 0 1 1 l := rfl
  generalize Dy 5 l = r at *
  subst hR
  simp [Bt]
  refine A4 (Dj hΓ 5 hk.1 hk.2) rfl ?_
  simp [A5, hw1, hw2, Bv]
  refine A4 (qDx l c nl hl) rfl ?_
  simp [Bo, B6]
 by_cases e6 : k = 6
 ·subst e6
  have hR : Dy 6 l = Oh (La 0 1 1 l) := rfl
  generalize Dy 6 l = r at *
  subst hR
  simp [Bt]
  refine A4 (Dj hΓ 6 hk.1 hk.2) rfl ?_
  simp [A5, hw1, hw2, Bv]
  refine A4 (qDx l c nl hl) rfl ?_
  simp
  refine A4 (q7L _ n1) rfl ?_
  simp [Bo, B6]
 by_cases e7 : k = 7
 ·subst e7
  have hR : Dy 7 l = La 1 0 0 l := rfl
  generalize Dy 7 l = r at *
  subst hR
  simp [Bt]
  refine A4 (Dj hΓ 7 hk.1 hk.2) rfl ?_
  simp [A5, hw1, hw2, Bv]
  refine A4 (qGF l c nl hl) rfl ?_
  simp [Bo, B6]
 by_cases e8 : k = 8
 ·subst e8
  have hR : Dy 8 l = Oh (La 1 0 0 l) := rfl
  generalize Dy 8 l = r at *
  subst hR
  simp [Bt]
  refine A4 (Dj hΓ 8 hk.1 hk.2) rfl ?_
  simp [A5, hw1, hw2, Bv]
  refine A4 (qGF l c nl hl) rfl ?_
  simp
  refine A4 (q7L _ n2) rfl ?_
  simp [Bo, B6]
 by_cases e9 : k = 9
 ·subst e9
  have hR : Dy 9 l = Y8 0 l := rfl
  generalize Dy 9 l = r at *
  subst hR
  simp [Bt]
  refine A4 (Dj hΓ 9 hk.1 hk.2) rfl ?_
  simp [A5, hw1, hw2, Bv]
  refine A4 (qDz l c nl hl hv0) rfl ?_
  simp [Bo, B6]
 by_cases e10 : k = 10
 ·subst e10
  have hR : Dy 10 l = Oh (Y8 0 l) := rfl
  generalize Dy 10 l = r at *
  subst hR
  simp [Bt]
  refine A4 (Dj hΓ 10 hk.1 hk.2) rfl ?_
  simp [A5, hw1, hw2, Bv]
  refine A4 (qDz l c nl hl hv0) rfl ?_
  simp
  refine A4 (q7L _ n3) rfl ?_
  simp [Bo, B6]
 by_cases e11 : k = 11
 ·subst e11
  have f1 : (O5 11).1 = 3 := rfl
  have q0 : 0 < l.length := by omega
  have u0 := ge 0 q0
  have q1 : 1 < l.length := by omega
  have u1 := ge 1 q1
  have q2 : 2 < l.length := by omega
  have u2 := ge 2 q2
  have hR : Dy 11 l = qBJ (l.getD 0 0) (l.getD 1 0) (l.getD 2 0) := rfl
  generalize l.getD 0 0 = x0 at *
  generalize l.getD 1 0 = x1 at *
  generalize l.getD 2 0 = x2 at *
  generalize Dy 11 l = r at *
  subst hR
  simp [Bt]
  refine A4 (Dj hΓ 11 hk.1 hk.2) rfl ?_
  simp [A5, hw1, hw2, Bv]
  simp (disch := omega) [A5, A8, q0, u0, q1, u1, q2, u2]
  refine ⟨by omega, by omega, ?_⟩
  refine A4 (qIH x0 x1 x2) rfl ?_
  simp [Bo, B6]
 by_cases e12 : k = 12
 ·subst e12
  have f1 : (O5 12).1 = 2 := rfl
  have q0 : 0 < l.length := by omega
  have u0 := ge 0 q0
  have q1 : 1 < l.length := by omega
  have u1 := ge 1 q1
  have hR : Dy 12 l = qCd (l.getD 0 0) (l.getD 1 0) := rfl
  generalize l.getD 0 0 = x0 at *
  generalize l.getD 1 0 = x1 at *
  generalize Dy 12 l = r at *
  subst hR
  simp [Bt]
  refine A4 (Dj hΓ 12 hk.1 hk.2) rfl ?_
  simp [A5, hw1, hw2, Bv]
  simp (disch := omega) [A5, A8, q0, u0, q1, u1]
  refine ⟨by omega, ?_⟩
  refine A4 (qII x0 x1) rfl ?_
  simp [Bo, B6]
 by_cases e13 : k = 13
 ·subst e13
  have hR : Dy 13 l = q8K l := rfl
  generalize Dy 13 l = r at *
  subst hR
  simp [Bt]
  refine A4 (Dj hΓ 13 hk.1 hk.2) rfl ?_
  simp [A5, hw1, hw2, Bv]
  refine A4 (qIL l c nl hl) rfl ?_
  simp [Bo, B6]
 have ek : Dy k l = 2 := by
  unfold Dy
  rw [if_neg e1, if_neg e2, if_neg e3, if_neg e4, if_neg e5, if_neg e6, if_neg e7, if_neg e8, if_neg e9, if_neg e10, if_neg e11, if_neg e12, if_neg e13]
 rw [ek]
 simp [Bt]
 refine A4 (Dj hΓ k hk.1 hk.2) rfl ?_
 simp [A5, hw1, hw2, Bo, B6, e1, e2, e3, e4, e5, e6, e7, e8, e9, e10, e11, e12, e13]
end Go.Lg
namespace Go.Lg
open Go
section
variable {P : Program} {Γ : Tables} {Q : AX → St → Prop} {s : St}
/- slices.SortStableFunc[[]int,int] (function 110) -/
abbrev Jl : IC := (.reg [om 4 0, om 5 0, od 6 (le 0 5), om 7 1, od 8 (.hcall 153 [(tm 4), (tm 6), (tm 7)] [1000000] 8000)] [kp [] [1000000]])
def Jm : List RV := []
/- slices.stableCmpFunc[int] (function 153) -/
abbrev Kp : IC := .gh (.seq (.seq (.reg [om 11 8, om 12 1, od 13 (.bin .leq (tm 11) (tm 12))] [kp [0, 1, 2, 6, 7, 8, 13] [1000000]]) (.cond (tm 13) .skip (.exit 0))) (.block 1 (.seq (.reg [om 14 0, om 15 7, om 16 8, om 17 2, od 18 (.hcall 175 [(tm
 14), (tm 15), (tm 16), (tm 17)] [1000000] 18000)] [kp [0, 1, 2, 6, 8] [1000000]]) (.seq (.reg [om 19 8, om 7 19] [kp [0, 1, 2, 6, 7, 8] [1000000]]) (.reg [om 20 8, om 21 6, od 22 (.bin .add (tm 20) (tm 21)), om 8 22] [kp [0, 1, 2,
 6, 7, 8] [1000000]]))))) [kp [0, 1, 2, 6, 7, 8] [1000000]]
def Fq : IC := .loop Kp
abbrev Yc : IC := .gh (.seq (.seq (.reg [om 33 8, om 34 1, od 35 (.bin .leq (tm 33) (tm 34))] [kp [0, 1, 2, 6, 7, 8, 35] [1000000]]) (.cond (tm 35) .skip (.exit 4))) (.block 5 (.seq (.reg [om 36 0, om 37 7, om 38 7, om 39 6, od 40 (.bin .add (tm 38)
 (tm 39)), om 41 8, om 42 2, od 43 (.hcall 176 [(tm 36), (tm 37), (tm 40), (tm 41), (tm 42)] [1000000] 43000)] [kp [0, 1, 2, 6, 8] [1000000]]) (.seq (.reg [om 44 8, om 7 44] [kp [0, 1, 2, 6, 7, 8] [1000000]]) (.reg [om 45 8, om 46
 6, od 47 (.bin .mul (ki 2) (tm 46)), od 48 (.bin .add (tm 45) (tm 47)), om 8 48] [kp [0, 1, 2, 6, 7, 8] [1000000]]))))) [kp [0, 1, 2, 6, 7, 8] [1000000]]
def Yd : IC := .loop Yc
abbrev Kq : IC := .gh (.seq (.seq (.reg [om 28 6, om 29 1, od 30 (.bin .lss (tm 28) (tm 29))] [kp [0, 1, 2, 6, 30] [1000000]]) (.cond (tm 30) .skip (.exit 2))) (.block 3 (.seq (.reg [om 31 6, od 32 (.bin .mul (ki 2) (tm 31)), od 7 (.mv (ki 0)), om 8
 32] [kp [0, 1, 2, 6, 7, 8] [1000000]]) (.seq (.block 4 Yd) (.seq (.seq (.reg [om 49 7, om 50 6, od 51 (.bin .add (tm 49) (tm 50)), om 9 51] [kp [0, 1, 2, 6, 7, 9] [1000000]]) (.seq (.reg [om 52 9, om 53 1,
 od 54 (.bin .lss (tm 52) (tm 53))] [kp [0, 1, 2, 6, 7, 9, 54] [1000000]]) (.cond (tm 54) (.reg [om 55 0, om 56 7, om 57 9, om 58 1, om 59 2, od 60 (.hcall 176 [(tm 55), (tm 56), (tm 57), (tm 58), (tm 59)] [1000000] 60000)] [kp [0,
 1, 2, 6] [1000000]]) .skip))) (.reg [om 61 6, od 62 (.bin .mul (tm 61) (ki 2)), om 6 62] [kp [0, 1, 2, 6] [1000000]])))))) [kp [0, 1, 2, 6] [1000000]]
def Ft : IC := .loop Kq
abbrev Kr : IC := (.seq (.reg [od 6 (.mv (ki 20))] [kp [0, 1, 2, 6] [1000000]]) (.seq (.reg [om 10 6, od 7 (.mv (ki 0)), om 8 10] [kp [0, 1, 2, 6, 7, 8] [1000000]]) (.seq (.block 0 Fq) (.seq (.reg [om 23 0, om 24 7, om 25 1,
 om 26 2, od 27 (.hcall 175 [(tm 23), (tm 24), (tm 25), (tm 26)] [1000000] 27000)] [kp [0, 1, 2, 6] [1000000]]) (.block 2 Ft)))))
theorem Td (h : ∀ K : St → Prop, K = run P Γ Fq Q → run P Γ Kp (An K Q) s) : run P Γ Fq Q s := Af h
theorem Tf (h : ∀ K : St → Prop, K = run P Γ Ft Q → run P Γ Kq (An K Q) s) : run P Γ Ft Q s := Af h
def Ks : List RV := []
/- slices.insertionSortCmpFunc[int] (function 175) -/
abbrev Gk : IC := .gh (.seq (.seq (.reg [om 18 9, om 19 1, od 20 (.bin .gtr (tm 18) (tm 19)), om 21 20, oT 22 (.mv (tm 3)) 21, oT 23 (.mv (tm 0)) 21, oT 24 (.mv (tm 9)) 21, oT 25 (ia 1 23 24) 21, oT 26 (ld 1 25) 21, oT 27 (.mv (tm 0)) 21, oT 28 (.mv
 (tm 9)) 21, oT 29 (.bin .sub (tm 28) (ki 1)) 21, oT 30 (ia 1 27 29) 21, oT 31 (ld 1 30) 21, oT 32 (.callv (tm 22) [(tm 26), (tm 31)]) 21, oT 33 (.bin .lss (tm 32) (ki 0)) 21, od 34 (.pick (tm 21) (tm 33) kF)] [kp [0, 1, 2, 3, 8, 9,
 34] [1000000]]) (.cond (tm 34) .skip (.exit 2))) (.seq (.block 3 (.reg [om 37 0, om 38 9, om 39 0, om 40 9, od 41 (.bin .sub (tm 40) (ki 1)), om 42 0, om 43 9, od 44 (.bin .sub (tm 43) (ki 1)), od 45 (ia 1 42 44), od 46 (.ldR
 1000000 1 false (tm 45)), om 47 0, om 48 9, od 49 (ia 1 47 48), od 50 (.ldR 1000000 1 false (tm 49)), od 51 (ia 1 37 38), on (.stR 1000000 1 (tm 51) (tm 46)), od 52 (ia 1 39 41), on (.stR 1000000 1 (tm 52) (tm 50))] [kp [0, 1, 2,
 3, 8, 9] [1000000]])) (.reg [om 35 9, od 36 (.bin .sub (tm 35) (ki 1)), om 9 36] [kp [0, 1, 2, 3, 8, 9] [1000000]]))) [kp [0, 1, 2, 3, 8, 9] [1000000]]
def C5 : IC := .loop Gk
abbrev Gm : IC := .gh (.seq (.seq (.reg [om 12 8, om 13 2, od 14 (.bin .lss (tm 12) (tm 13))] [kp [0, 1, 2, 3, 8, 14] [1000000]]) (.cond (tm 14) .skip (.exit 0))) (.seq (.block 1 (.seq (.reg [om 17 8, om 9 17] [kp [0, 1, 2, 3, 8, 9] [1000000]])
 (.block 2 C5))) (.reg [om 15 8, od 16 (.bin .add (tm 15) (ki 1)), om 8 16] [kp [0, 1, 2, 3, 8] [1000000]]))) [kp [0, 1, 2, 3, 8] [1000000]]
def C6 : IC := .loop Gm
abbrev Gn : IC := (.seq (.reg [om 10 1, od 11 (.bin .add (tm 10) (ki 1)), om 8 11] [kp [0, 1, 2, 3, 8] [1000000]]) (.block 0 C6))
theorem F6 (h : ∀ K : St → Prop, K = run P Γ C5 Q → run P Γ Gk (An K Q) s) : run P Γ C5 Q s := Af h
theorem F7 (h : ∀ K : St → Prop, K = run P Γ C6 Q → run P Γ Gm (An K Q) s) : run P Γ C6 Q s := Af h
def Gp : List RV := []
/- probecard/netlists.Order (function 47) -/
abbrev q0W : IC := .gh (.seq (.reg [od 23 (.bin .lss (tm 22) (tm 21))] [kp [4, 6, 21, 22, 23] [19]]) (.seq (.cond (tm 23) .skip (.exit 0)) (.seq (.block 1 (.seq (.reg [om 24 22, om 7 24] [kp [4, 6, 7, 21, 22] [19]]) (.reg [om 25 6, om 26 7, om 27 7,
 od 28 (ia 1 25 26), on (.store 1 (tm 28) (tm 27))] [kp [4, 6, 21, 22] [19]]))) (.reg [od 29 (.bin .add (tm 22) (ki 1)), om 22 29] [kp [4, 6, 21, 22] [19]])))) [kp [4, 6, 21, 22] [19]]
def Kt : IC := .loop q0W
abbrev q0X : IC := (.seq (.reg [od 1 (.box true (tm 0)), od 2 (.mv kN), od 3 (.mv (ki 0))] [kp [1] []]) (.seq (.reg [od 9 (lG 4 1), od 10 (.call 91 [(tm 9)]), om 8 10, od 11 (ex 8 0), od 12 (ex 8 1), od 4 (.alloc false [(.slice none 0 0)]), on
 (.store 1 (tm 4) (tm 11)), om 5 12] [.frz 4, kp [1, 4, 5] []]) (.seq (.seq (.reg [om 13 5, od 14 (.bin .neq (tm 13) (ki 0))] [kp [1, 4, 5, 14] []]) (.cond (tm 14) (.seq (.reg [om 15 5, od 2 (.mv kN), om 3 15] [kp [2, 3] [19]])
 .ret) .skip)) (.seq (.reg [od 16 (fa 0 1), od 17 (ld 1 16), od 18 (le 0 17), od 19 (.mk 3 1 [(.int .i64 0)] (tm 18) (tm 18)), om 6 19] [kp [4, 6] [19]]) (.seq (.seq (.reg [om 20 6, od 21 (le 0 20), od 22 (.mv (ki 0))] [kp [4, 6,
 21, 22] [19]]) (.block 0 Kt)) (.seq (.reg [om 30 6, od 31 (.mkf 111 [(tm 4)]), od 32 (.hcall 110 [(tm 30), (tm 31)] [19] 32000)] [kp [6] [19]]) (.seq (.reg [om 33 6, om 2 33, od 3 (.mv (ki 0))] [kp [2, 3] [19]])
 .ret)))))))
theorem U0 (h : ∀ K : St → Prop, K = run P Γ Kt Q → run P Γ q0W (An K Q) s) : run P Γ Kt Q s := Af h
def Rm : List RV := [.tmp 2, .tmp 3]
/- probecard/netlists.Order$1 (function 111) -/
abbrev Xc : IC := (.seq (.reg [od 5 (.mv (ki 0))] [kp [0, 1, 2] []]) (.seq (.reg [od 6 (ld 1 2), om 7 0, od 8 (ia 1 6 7), od 9 (ld 1 8), od 10 (ld 1 2), om 11 1, od 12 (ia 1 10 11), od 13 (ld 1 12), od 14 (.call 112 [(tm 9), (tm 13)]), om 5 14] [kp
 [5] []]) .ret))
def Xd : List RV := [.tmp 5]
/- cmp.Compare[int] (function 112) -/
abbrev Zf : IC := (.seq (.reg [od 4 (.mv (ki 0))] [kp [0, 1] []]) (.seq (.reg [om 7 0, od 8 (.call 154 [(tm 7)]), om 5 8] [kp [0, 1, 5] []]) (.seq (.reg [om 9 1, od 10 (.call 154 [(tm 9)]), om 6 10] [kp [0, 1, 5, 6] []]) (.seq (.seq (.reg [om 11 5]
 [kp [0, 1, 6, 11] []]) (.cond (tm 11) (.seq (.seq (.reg [om 12 6] [kp [12] []]) (.cond (tm 12) (.seq (.reg [od 4 (.mv (ki 0))] [kp [4] []]) .ret) .skip)) (.seq (.reg [od 4 (.mv (.const (.int .i64 (-1))))] [kp [4] []]) .ret))
 .skip)) (.seq (.seq (.reg [om 13 6] [kp [0, 1, 13] []]) (.cond (tm 13) (.seq (.reg [od 4 (.mv (ki 1))] [kp [4] []]) .ret) .skip)) (.seq (.seq (.reg [om 14 0, om 15 1, od 16 (.bin .lss (tm 14) (tm 15))] [kp [0, 1, 16] []]) (.cond
 (tm 16) (.seq (.reg [od 4 (.mv (.const (.int .i64 (-1))))] [kp [4] []]) .ret) .skip)) (.seq (.seq (.reg [om 17 0, om 18 1, od 19 (.bin .gtr (tm 17) (tm 18))] [kp [19] []]) (.cond (tm 19) (.seq (.reg [od 4 (.mv (ki 1))] [kp [4] []])
 .ret) .skip)) (.seq (.reg [od 4 (.mv (ki 0))] [kp [4] []]) .ret))))))))
def Pl : List RV := [.tmp 4]
/- cmp.isNaN[int] (function 154) -/
abbrev q1f : IC := (.seq (.reg [od 2 (.mv kF)] [kp [0] []]) (.seq (.reg [om 3 0, om 4 0, od 5 (.bin .neq (tm 3) (tm 4)), om 2 5] [kp [2] []]) .ret))
def q1g : List RV := [.tmp 2]
end
end Go.Lg
namespace Go.Lg
open Go Go.Proofs
theorem W5 : Au Tryz.prog 110 Jl 9 2 Jm = true := by kernel_rfl
theorem Wz : Au Tryz.prog 153 Kr 63 3 Ks = true := by kernel_rfl
theorem Oj : Au Tryz.prog 175 Gn 53 4 Gp = true := by kernel_rfl
theorem q6S : Au Tryz.prog 47 q0X 34 1 Rm = true := by kernel_rfl
theorem q3y : Au Tryz.prog 111 Xc 15 3 Xd = true := by kernel_rfl
theorem q56 : Au Tryz.prog 112 Zf 20 2 Pl = true := by kernel_rfl
theorem q7O : Au Tryz.prog 154 q1f 6 1 q1g = true := by kernel_rfl
end Go.Lg
namespace Go.Lg
open Go Go.Proofs
variable {Γ : Tables}
theorem qE0 {hp : List (Nat × Bn)} {f : FuncId} {K : T → Prop} {cs : List T} {t u res : T} (h : A6 Tryz.prog Γ f (t :: u :: cs) res) (hk : K res) : q5G Tryz.prog Γ hp f (.t t :: .t u :: cs.map .t) K ⟨⟩ :=
 A4 h (by simp only [List.map_cons, List.map_map, Function.comp_def, As, Am]; rw [Qc]; rfl) hk
theorem qIM {l : List Int} {a b : Nat} : Ak (q0P l a b) = ((Ak l).set a [tI (l.getD b 0)]).set b [tI (l.getD a 0)] := by
 show Aj tI _ = ((Aj tI l).set a _).set b _
 rw [Fj, Fj]; rfl
theorem ge1 {f : Int → T} {l : List Int} {i : Nat} (hi : i < l.length) : (Aj f l)[i]?.getD [] = [f (l.getD i 0)] := by
 have hget := Cb (f := f) 0 hi
 have hgg : l[i]?.getD 0 = l.getD i 0 := by simp [List.getD_eq_getElem?_getD]
 rw [hgg] at hget
 exact hget
theorem qC1 {Q : AX → St → Prop} (ty n : Nat) (cap : Option Nat) (hn : n ≤ 1000000000) (f : FuncId) (cs : List T) (cmp : Int → Int → Int) (i : Nat) (hi : i < n) (R : List Int)
  (h0 : ∀ j : Int, Q (.exit 2) ⟨[(0, .ls 1000000 0 n cap), (1, .t (tI 0)), (2, .t (tI n)), (3, .t (.fn f cs)), (8, .t (tI i)), (9, .t (tI j)), (34, .t (tB false))], [(1000000, .sl ty 1 (Ak R))]⟩) :
  ∀ (j : Nat) (l : List Int), j ≤ i → l.length = n → (∀ x ∈ l, ∀ y ∈ l, A6 Tryz.prog Γ f (tI x :: tI y :: cs) (tI (cmp x y))) → qAY (fun a b => decide (cmp a b < 0)) j l = R →
  run Tryz.prog Γ C5 Q ⟨[(0, .ls 1000000 0 n cap), (1, .t (tI 0)), (2, .t (tI n)), (3, .t (.fn f cs)), (8, .t (tI i)), (9, .t (tI j))], [(1000000, .sl ty 1 (Ak l))]⟩
 | 0, l, hj, hl, hc, hR => by
  refine F6 fun K hK => ?_
  simp only [qAY] at hR
  subst hR
  simp
  exact h0 0
 | j + 1, l, hj, hl, hc, hR => by
  refine F6 fun K hK => ?_
  simp only [qAY] at hR
  have la : j < l.length := by omega
  have lb : j + 1 < l.length := by omega
  have e1 := ge1 (f := tI) la
  have e2 := ge1 (f := tI) lb
  have m1 : l.getD j 0 ∈ l := by rw [B5 la]; exact List.getElem_mem la
  have m2 : l.getD (j + 1) 0 ∈ l := by rw [B5 lb]; exact List.getElem_mem lb
  have hcc := hc _ m2 _ m1
  have hs := qIM (l := l) (a := j + 1) (b := j)
  have hperm : (q0P l (j + 1) j).Perm l := qAT lb la
  have hpl := q8F (l := l) (a := j + 1) (b := j)
  have hcs : ∀ x ∈ q0P l (j + 1) j, ∀ y ∈ q0P l (j + 1) j, A6 Tryz.prog Γ f (tI x :: tI y :: cs) (tI (cmp x y)) := fun x hx y hy => hc x (hperm.mem_iff.1 hx) y (hperm.mem_iff.1 hy)
  have ih := qC1 ty n cap hn f cs cmp i hi R h0 j (q0P l (j + 1) j) (by omega) (by rw [hpl]; exact hl) hcs
  generalize q0P l (j + 1) j = l' at *
  generalize l.getD j 0 = va at *
  generalize l.getD (j + 1) 0 = vb at *
  have hj1 : (0 : Int) < (j : Int) + 1 := by omega
  have hj2 : ((j : Int) + 1).toNat = j + 1 := by omega
  have hj3 : (j : Int) + 1 < n := by omega
  have hj4 : (j : Int) < n := by omega
  have hj5 : (j : Int) + 1 - 1 = j := by omega
  have lan : j < n := by omega
  have lbn : j + 1 < n := by omega
  simp (disch := omega) [hj1, hj2, hj3, hj4, hj5, lan, lbn, A5, A8, hl, e1, e2, A9]
  refine ⟨by omega, qE0 hcc ?_⟩
  by_cases h : cmp vb va < 0
  ·rw [if_pos (by simpa using h)] at hR
   have ih := ih hR
   rw [hs] at ih
   simp (disch := omega) [h, hj1, hj2, hj3, hj4, hj5, lan, lbn, A5, A8, hl, e1, e2, A9]
   refine ⟨by omega, ?_⟩
   rw [hK]
   exact_mod_cast ih
  ·rw [if_neg (by simpa using h)] at hR
   subst hR
   simp (disch := omega) [h]
   exact_mod_cast h0 (j + 1)
theorem qE1 {Q : AX → St → Prop} (ty n : Nat) (cap : Option Nat) (hn : n ≤ 1000000000) (f : FuncId) (cs : List T) (cmp : Int → Int → Int) (R : List Int)
  (h0 : ∀ i : Int, Q (.exit 0) ⟨[(0, .ls 1000000 0 n cap), (1, .t (tI 0)), (2, .t (tI n)), (3, .t (.fn f cs)), (8, .t (tI i)), (14, .t (tB false))], [(1000000, .sl ty 1 (Ak R))]⟩) :
  ∀ (k i : Nat) (l : List Int), 1 ≤ i → i + k = max 1 n → l.length = n → (∀ x ∈ l, ∀ y ∈ l, A6 Tryz.prog Γ f (tI x :: tI y :: cs) (tI (cmp x y))) → q3n (fun a b => decide (cmp a b < 0)) k i l = R →
  run Tryz.prog Γ C6 Q ⟨[(0, .ls 1000000 0 n cap), (1, .t (tI 0)), (2, .t (tI n)), (3, .t (.fn f cs)), (8, .t (tI i))], [(1000000, .sl ty 1 (Ak l))]⟩
 | 0, i, l, h1, h, hl, hc, hR => by
  refine F7 fun K hK => ?_
  simp only [q3n] at hR
  subst hR
  have h2 : ¬ (i : Int) < n := by omega
  have h2' : ¬ i < n := by omega
  simp [h2, h2']
  exact h0 _
 | k + 1, i, l, h1, h, hl, hc, hR => by
  refine F7 fun K hK => ?_
  simp only [q3n] at hR
  have h2 : (i : Int) < n := by omega
  have h2' : i < n := by omega
  have hperm := q4q (lt := fun a b => decide (cmp a b < 0)) (j := i) (l := l) (by omega)
  have ih := qE1 ty n cap hn f cs cmp R h0 k (i + 1) (qAY (fun a b => decide (cmp a b < 0)) i l) (by omega) (by omega) (by rw [hperm.length_eq]; exact hl) (fun x hx y hy => hc x (hperm.mem_iff.1 hx) y (hperm.mem_iff.1 hy)) hR
  have hlp := fun Q h0 => qC1 (Γ := Γ) (Q := Q) ty n cap hn f cs cmp i h2' _ h0 i l (Nat.le_refl _) hl hc rfl
  simp (disch := omega) [h2, h2', A9]
  refine hlp _ fun j => ?_
  simp (disch := omega) [A9]
  rw [hK]
  exact_mod_cast ih
theorem qE2 (ty n : Nat) (cap : Option Nat) (hn : n ≤ 1000000000) (f : FuncId) (cs : List T) (cmp : Int → Int → Int) (l : List Int) (hl : l.length = n) (hc : ∀ x ∈ l, ∀ y ∈ l, A6 Tryz.prog Γ f (tI x :: tI y :: cs) (tI (cmp x y))) :
  Hn Tryz.prog Γ 175 [(1000000, .sl ty 1 (Ak l))] [.ls 1000000 0 n cap, .t (tI 0), .t (tI n), .t (.fn f cs)] (.t (.tup [])) [(1000000, .sl ty 1 (Ak (q3n (fun a b => decide (cmp a b < 0)) (n - 1) 1 l)))] := by
 refine N7 Oj rfl ?_
 have hlp := fun Q h0 => qE1 (Γ := Γ) (Q := Q) ty n cap hn f cs cmp _ h0 (n - 1) 1 l (by omega) (by omega) hl hc rfl
 simp (disch := omega) [Gn, A9]
 refine hlp _ fun i => ?_
 simp [Gp]
theorem qC2 {lt : Int → Int → Bool} : ∀ {f i : Nat} {l : List Int}, i + f ≤ l.length ∨ f = 0 → (q3n lt f i l).Perm l
 | 0, i, l, _ => List.Perm.refl l
 | f + 1, i, l, h => by
  simp only [q3n]
  have hp := q4q (lt := lt) (j := i) (l := l) (by omega)
  exact (qC2 (by rw [hp.length_eq]; omega)).trans hp
theorem qE3 {lt : Int → Int → Bool} {l : List Int} {n : Nat} (h : l.length = n) : (q3n lt (n - 1) 1 l).length = l.length := (qC2 (by omega)).length_eq
theorem qIN (ty n : Nat) (cap : Option Nat) (hn : n ≤ 19) (f : FuncId) (cs : List T) (cmp : Int → Int → Int) (l : List Int) (hl : l.length = n) (hc : ∀ x ∈ l, ∀ y ∈ l, A6 Tryz.prog Γ f (tI x :: tI y :: cs) (tI (cmp x y))) :
  Hn Tryz.prog Γ 153 [(1000000, .sl ty 1 (Ak l))] [.ls 1000000 0 n cap, .t (tI n), .t (.fn f cs)] (.t (.tup [])) [(1000000, .sl ty 1 (Ak (q3n (fun a b => decide (cmp a b < 0)) (n - 1) 1 l)))] := by
 refine N7 Wz rfl ?_
 have hi := qE2 (Γ := Γ) ty n cap (by omega) f cs cmp l hl hc
 simp (disch := omega) [Kr, A9]
 have hR := qE3 (lt := fun a b => decide (cmp a b < 0)) hl
 generalize q3n (fun a b => decide (cmp a b < 0)) (n - 1) 1 l = R at *
 refine Td fun K hK => ?_
 have h1 : ¬ (20 : Int) ≤ n := by omega
 have h2 : ¬ 20 ≤ n := by omega
 have h3 : ¬ (20 : Int) < n := by omega
 have h4 : ¬ 20 < n := by omega
 simp [h1, h2]
 refine ⟨_, _, hi, ?_⟩
 simp [A5, hR]
 refine Tf fun K hK => ?_
 simp [h3, h4, Ks]
theorem qM2 (ty n : Nat) (cap : Option Nat) (hn : n ≤ 19) (f : FuncId) (cs : List T) (cmp : Int → Int → Int) (l : List Int) (hl : l.length = n) (hc : ∀ x ∈ l, ∀ y ∈ l, A6 Tryz.prog Γ f (tI x :: tI y :: cs) (tI (cmp x y))) :
  Hn Tryz.prog Γ 110 [(1000000, .sl ty 1 (Ak l))] [.ls 1000000 0 n cap, .t (.fn f cs)] (.t (.tup [])) [(1000000, .sl ty 1 (Ak (q3n (fun a b => decide (cmp a b < 0)) (n - 1) 1 l)))] := by
 refine N7 W5 rfl ?_
 have hi := qIN (Γ := Γ) ty n cap hn f cs cmp l hl hc
 have hR := qE3 (lt := fun a b => decide (cmp a b < 0)) hl
 generalize q3n (fun a b => decide (cmp a b < 0)) (n - 1) 1 l = R at *
 simp (disch := omega) [Jl, A9]
 refine ⟨_, _, hi, ?_⟩
 simp [Jm, A5, hR]
theorem qE4 (n : Int) : A6 Tryz.prog Γ 154 [tI n] (tB false) := by
 refine Aa q7O rfl ?_
 simp [q1f, q1g, B6]
def qFK (a b : Int) : Int := if a < b then -1 else if b < a then 1 else 0
theorem qIO (a b : Int) : A6 Tryz.prog Γ 112 [tI a, tI b] (tI (qFK a b)) := by
 refine Aa q56 rfl ?_
 simp [Zf]
 refine A4 (qE4 a) rfl ?_
 simp
 refine A4 (qE4 b) rfl ?_
 by_cases h : a < b
 ·simp [h, Pl, B6, qFK]
 ·by_cases h1 : b < a <;> simp [h, h1, Pl, B6, qFK]
def qK4 (c : Bd) : T := .sl (Ak (Pj c).2.out) none none
theorem qE5 (c : Bd) (h : E9 c = 0) (a b : Int) (ha : 0 ≤ a ∧ a < c.nodes.l.length) (hb : 0 ≤ b ∧ b < c.nodes.l.length) : A6 Tryz.prog Γ 111 [tI a, tI b, .ip [qK4 c] 0] (tI (qFK (Oi c a.toNat) (Oi c b.toNat))) := by
 refine Aa q3y rfl ?_
 have hl := (qAX h).1
 have e1 := ge1 (f := tI) (l := (Pj c).2.out) (i := a.toNat) (by omega)
 have e2 := ge1 (f := tI) (l := (Pj c).2.out) (i := b.toNat) (by omega)
 unfold Oi qK4
 generalize (Pj c).2.out.getD a.toNat 0 = va at *
 generalize (Pj c).2.out.getD b.toNat 0 = vb at *
 simp (disch := omega) [Xc, A5, A8, hl, e1, e2, ha, hb]
 refine A4 (qIO _ _) rfl ?_
 simp [Xd, B6]
theorem qAb {Q : AX → St → Prop} (n : Nat) (hn : n ≤ 1000000000) (a4 : T)
  (h0 : Q (.exit 0) ⟨[(4, .t a4), (6, .ls 19 0 n none), (21, .t (tI n)), (22, .t (tI n)), (23, .t (tB false))], [(19, .sl 3 1 (Ak (rng n)))]⟩) : ∀ (k i : Nat), k + i = n →
  run Tryz.prog Γ Kt Q ⟨[(4, .t a4), (6, .ls 19 0 n none), (21, .t (tI n)), (22, .t (tI i))], [(19, .sl 3 1 (Ak (rng i ++ List.replicate (n - i) 0)))]⟩
 | 0, i, h => by
  refine U0 fun K hK => ?_
  have h2 : i = n := by omega
  subst h2
  simp
  simpa using h0
 | k + 1, i, h => by
  refine U0 fun K hK => ?_
  have ih := qAb n hn a4 h0 k (i + 1) (by omega)
  have h2 : i < n := by omega
  have hs : (Ak (rng i ++ List.replicate (n - i) 0)).set i [tI i] = Ak (rng (i + 1) ++ List.replicate (n - (i + 1)) 0) := by
   show (Aj tI _).set i [tI i] = Aj tI _
   rw [Fj]
   congr 1
   have e : n - i = (n - (i + 1)) + 1 := by omega
   rw [e, List.replicate_succ, List.set_append, if_neg (by rw [Ko]; omega), Ko, Nat.sub_self]
   simp [rng, List.range_succ]
  have hlen : (Ak (rng i ++ List.replicate (n - i) 0)).length = n := by rw [A5]; simp [Ko]; omega
  generalize Ak (rng i ++ List.replicate (n - i) 0) = E at *
  simp (disch := omega) [h2, hlen, hs, A9]
  rw [hK]
  exact_mod_cast ih
theorem qFL (hΓ : GOk Γ) (c : Bd) (hc : COk c) (hn : c.nodes.l.length ≤ 19) :
  A6 Tryz.prog Γ 47 [.agg (tC c)] (.tup [if E9 c = 0 then .sl (Ak (Ls c)) none none else .sl [] (some 0) (some true), tI (E9 c)]) := by
 refine Aa q6S rfl ?_
 have e1 := q8x hΓ c hc.toCirOk hc.asc
 simp [q0X, tC, Ab, Ad, Ag, Av]
 refine A4 e1 rfl ?_
 by_cases h : E9 c = 0
 case neg => simp [h, Rm, St.freeze, Bn.closed, Do, frz1, frz0, I8, del, Am]
 have hlp := fun Q h0 => qAb (Γ := Γ) (Q := Q) c.nodes.l.length (by omega) (.ip [qK4 c] 0) h0 c.nodes.l.length 0 (by omega)
 have hz : List.replicate c.nodes.l.length [T.v (Value.int .i64 0)] = Ak (rng 0 ++ List.replicate (c.nodes.l.length - 0) 0) := by simp [Aj, rng]
 have hsort := qM2 (Γ := Γ) 3 c.nodes.l.length none hn 111 [.ip [qK4 c] 0] (fun a b => qFK (Oi c a.toNat) (Oi c b.toNat)) (rng c.nodes.l.length) Ko (fun x hx y hy => qE5 c h x y (Vg.1 hx) (Vg.1 hy))
 have hlt : (fun a b => decide (qFK (Oi c a.toNat) (Oi c b.toNat) < 0)) = qGE c := by
  funext a b
  simp only [qGE, qFK]
  by_cases h1 : Oi c a.toNat < Oi c b.toNat
  ·simp [h1]
  ·by_cases h2 : Oi c b.toNat < Oi c a.toNat <;> simp [h1, h2]
 rw [hlt] at hsort
 have ho : q3n (qGE c) (c.nodes.l.length - 1) 1 (rng c.nodes.l.length) = Ls c := rfl
 rw [ho] at hsort
 have holen : (Ls c).length = c.nodes.l.length := by rw [(Ym c).1.length_eq, Ko]
 simp [h, Ac, A9, St.freeze, Bn.closed, Do, frz1, frz0, I8, del, Am]
 refine ⟨by omega, ?_⟩
 rw [hz]
 refine hlp _ ?_
 simp
 refine ⟨_, _, hsort, ?_⟩
 have htk : (Ak (Ls c)).take c.nodes.l.length = Ak (Ls c) := List.take_of_length_le (by rw [A5, holen]; exact Nat.le_refl _)
 simp [A5, Ko, holen, Rm, Am, htk, h]
end Go.Lg
namespace Go.Lg
open Go
section
variable {P : Program} {Γ : Tables} {Q : AX → St → Prop} {s : St}
/- probecard/sims.fits (function 77) -/
abbrev Ku : IC := (.seq (.reg [od 2 (.box true (tm 0)), od 4 (.mv (ku 0))] [kp [1, 2] []]) (.seq (.seq (.reg [om 5 1, od 6 (.bin .lss (tm 5) (ki 0)), om 7 6, oF 8 (.mv (tm 1)) 7, oF 9 (fa 4 2) 7, oF 10 (ld 1 9) 7, oF 11 (le 0 10) 7, oF 12 (.bin .geq
 (tm 8) (tm 11)) 7, od 13 (.pick (tm 7) kT (tm 12))] [kp [1, 2, 13] []]) (.cond (tm 13) (.seq (.reg [od 4 (.mv (ku 2))] [kp [4] []]) .ret) .skip)) (.seq (.reg [od 14 (fa 4 2), od 15 (ld 1 14), om 16 1, od 17 (ia 1 15 16), od 18 (ld
 1 17), od 19 (.call 133 [(tm 18)]), om 4 19] [kp [4] []]) .ret)))
def Kv : List RV := [.tmp 4]
/- (probecard/sims.run).observe (function 79) -/
abbrev Xe : IC := .gh (.seq (.reg [od 15 (.bin .lss (tm 14) (tm 13))] [kp [1, 2, 3, 12, 13, 14, 15] [2, 3, 24, 55]]) (.seq (.cond (tm 15) .skip (.exit 0)) (.seq (.block 1 (.seq (.reg [od 16 (ia 1 12 14), od 17 (ld 1 16), om 5 17] [kp [1, 2, 3, 5,
 12, 13, 14] [2, 3, 24, 55]]) (.reg [od 18 (fa 0 3), od 19 (.ldR 3 1 false (tm 18)), od 20 (.ldT 5 true (tm 1)), om 21 5, od 22 (.call 142 [(tm 20), (tm 21)]), od 23 (.bsl true 64 1 [(tm 22)]), od 24 (.app false 64 1 (tm 19) (tm
 23)), od 25 (fa 0 3), on (.stR 3 1 (tm 25) (tm 24))] [kp [1, 2, 3, 12, 13, 14] [2, 3, 24, 55]]))) (.reg [od 26 (.bin .add (tm 14) (ki 1)), om 14 26] [kp [1, 2, 3, 12, 13, 14] [2, 3, 24, 55]])))) [kp [1, 2, 3, 12, 13, 14] [2, 3, 24,
 55]]
def I1 : IC := .loop Xe
abbrev Xf : IC := .gh (.seq (.reg [od 32 (.bin .lss (tm 31) (tm 30))] [kp [1, 2, 3, 29, 30, 31, 32] [2, 3, 24, 55]]) (.seq (.cond (tm 32) .skip (.exit 2)) (.seq (.block 3 (.seq (.reg [od 33 (ia 1 29 31), od 34 (ld 1 33), om 7 34] [kp [1, 2, 3, 7,
 29, 30, 31] [2, 3, 24, 55]]) (.seq (.reg [od 8 (.mv (ku 2))] [kp [1, 2, 3, 7, 8, 29, 30, 31] [2, 3, 24, 55]]) (.seq (.seq (.reg [od 35 (fa 0 1), od 36 (fa 0 35), od 37 (ld 1 36), om 38 7, od 39 (ia 4 37 38), od 40 (fa 1 39), od 41
 (ld 1 40), om 9 41] [kp [1, 2, 3, 8, 9, 29, 30, 31] [2, 3, 24, 55]]) (.seq (.reg [om 42 9, od 43 (le 0 42), od 44 (.bin .eql (tm 43) (ki 1))] [kp [1, 2, 3, 8, 9, 29, 30, 31, 44] [2, 3, 24, 55]]) (.cond (tm 44) (.reg [od 45 (lG 5
 1), om 46 9, od 47 (.iadr 1 (tm 46) (ki 0)), od 48 (ld 1 47), od 49 (.call 142 [(tm 45), (tm 48)]), od 50 (.call 114 [(tm 49)]), om 8 50] [kp [1, 2, 3, 8, 29, 30, 31] [2, 3, 24, 55]]) .skip))) (.reg [od 51 (fa 1 3), od 52 (ld 1
 51), om 53 8, od 54 (.bsl true 64 1 [(tm 53)]), od 55 (.app false 64 1 (tm 52) (tm 54)), od 56 (fa 1 3), on (.store 1 (tm 56) (tm 55))] [kp [1, 2, 3, 29, 30, 31] [2, 3, 24, 55]]))))) (.reg [od 57 (.bin .add (tm 31) (ki 1)), om 31
 57] [kp [1, 2, 3, 29, 30, 31] [2, 3, 24, 55]])))) [kp [1, 2, 3, 29, 30, 31] [2, 3, 24, 55]]
def I2 : IC := .loop Xf
abbrev Xg : IC := (.seq (.reg [od 1 (.box true (tm 0)), od 2 (.alloc false [(.slice none 0 0), (.slice none 0 0)])] [kp [1, 2] [2, 24, 55]]) (.seq (.reg [od 3 (.alloc false [(.slice none 0 0), (.slice none 0 0)])] [.nlb 3 0 24 64 1, .nlb 3 1 55 64
 1, kp [1, 2, 3] [2, 3, 24, 55]]) (.seq (.seq (.reg [od 10 (fa 0 1), od 11 (fa 3 10), od 12 (ld 1 11), od 13 (le 0 12), od 14 (.mv (ki 0))] [kp [1, 2, 3, 12, 13, 14] [2, 3, 24, 55]]) (.block 0 I1)) (.seq (.seq (.reg
 [od 27 (fa 0 1), od 28 (lG 4 27), od 29 (.call 31 [(tm 28)]), od 30 (le 0 29), od 31 (.mv (ki 0))] [kp [1, 2, 3, 29, 30, 31] [2, 3, 24, 55]]) (.block 2 I2)) (.seq (.reg [od 58 (fa 0 3), od 59 (.ldR 3 1 false (tm
 58)), od 60 (.rcall 52 [(tm 59)] [24]), od 61 (fa 1 3), od 62 (.ldR 3 1 false (tm 61)), od 63 (.rcall 52 [(tm 62)] [55]), od 64 (.build [(1, (tm 60)), (1, (tm 63))]), on (.stR 2 2 (tm 2) (tm 64))] [kp [2] [2, 24, 55]]) .ret)))))
theorem Qh (h : ∀ K : St → Prop, K = run P Γ I1 Q → run P Γ Xe (An K Q) s) : run P Γ I1 Q s := Af h
theorem Qi (h : ∀ K : St → Prop, K = run P Γ I2 Q → run P Γ Xf (An K Q) s) : run P Γ I2 Q s := Af h
def Xh : List RV := [.cell 2 2 true]
/- probecard/sims.Observe (function 51) -/
abbrev q2o : IC := (.seq (.reg [od 2 (.box true (tm 0)), od 4 (.alloc false [(.slice none 0 0), (.slice none 0 0)])] [kp [1, 2, 4] [4]]) (.seq (.reg [od 5 (lG 4 2), om 6 1, od 7 (.build [(4, (tm 5)), (1, (tm 6))]), od 8 (.call 79 [(tm 7)]), on
 (.store 2 (tm 4) (tm 8))] [kp [4] [4]]) .ret))
def q2p : List RV := [.cell 4 2 true]
/- probecard/netlists.Inputs (function 97) -/
abbrev Zg : IC := (.seq (.reg [od 1 (.box true (tm 0)), od 2 (.mv kN)] [kp [1] []]) (.seq (.reg [od 3 (lG 4 1), od 4 (.bsl true 80 1 [(ku 0)]), od 5 (.call 90 [(tm 3), (tm 4)]), om 2 5] [kp [2] []]) .ret))
def Zh : List RV := [.tmp 2]
/- slices.Clip[[]probecard/api.Value,probecard/api.Value] (function 52) -/
abbrev Hu : IC := (.seq (.reg [od 2 (.mv kN)] [kp [0] [1000000]]) (.seq (.reg [om 3 0, om 4 0, od 5 (le 0 4), om 6 0, od 7 (le 0 6), od 8 (.slice 1 (tm 3) none (some (tm 5)) (some (tm 7))), om 2 8] [kp [2] [1000000]]) .ret))
def Hv : List RV := [.tmp 2]
end
end Go.Lg
namespace Go.Lg
open Go Go.Proofs
theorem q6T : Au Tryz.prog 142 Ku 20 2 Kv = true := by kernel_rfl
theorem q3z : Au Tryz.prog 79 Xg 65 1 Xh = true := by kernel_rfl
theorem q8N : Au Tryz.prog 51 q2o 9 2 q2p = true := by kernel_rfl
theorem q57 : Au Tryz.prog 97 Zg 6 1 Zh = true := by kernel_rfl
theorem Nz : Au Tryz.prog 52 Hu 9 1 Hv = true := by kernel_rfl
end Go.Lg
namespace Go.Lg
open Go Go.Proofs
variable {Γ : Tables}
theorem q93 (c : Bd) (hc : COk c) : Ah Tryz.prog Γ 97 [.agg (tC c)] (.sl (Ak (E1 c)) (some (E1 c).length) none) := by
 refine B7 q57 rfl ?_
 simp [Zg, tC, Ab, Ad, Ag, Av]
 refine A4 (qFF c hc 0) rfl ?_
 simp [Zh, E1]
theorem qIP (es : List (List T)) (cap : Option Nat) (nl : Option Bool) (hw : E2 1 es) : Ah Tryz.prog Γ 52 [.sl es cap nl] (.sl es (some es.length) nl) := by
 refine B7 Nz rfl ?_
 simp [Hu, Hv, ret, hw]
structure Pat where
 inn : Sl Int
 st : Sl Int
def tP (p : Pat) : List T := [tV p.inn, tV p.st]
theorem q2R (c : Bd) : (E1 c).length ≤ c.nodes.l.length := V9 _ _ _
theorem Hl (c : Bd) : (Be c).length ≤ c.nodes.l.length := V9 _ _ _
def q0A (c : Bd) (id n : Nat) (cap : Option Nat) : List AV := [.t (Ab c.nodes), .t (Ad c.names), .t (Ag c.mems), .t (Av c.outs), .ls id 0 n cap]
theorem qAc {ns vs l : List Int} {i : Nat} (h : i < ns.length) (hv : i < vs.length) : G5 (ns.drop i) (vs.drop i) l = G5 (ns.drop (i + 1)) (vs.drop (i + 1)) (l.set (ns.getD i 0).toNat (vs.getD i 0)) := by
 rw [List.drop_eq_getElem_cons h, List.drop_eq_getElem_cons hv]
 simp only [G5]
 rw [B5 h, B5 hv]
@[simp] theorem qNg {s : Nat} {e : List T} : E2 s [e] = (e.length = s) := propext ⟨fun h => h e List.mem_cons_self, fun h x hx => by simp at hx; subst hx; exact h⟩
def O6 (c : Bd) (nets : Sl Int) : List T := [Ab c.nodes, Ad c.names, Ag c.mems, Av c.outs, tV nets]
def Hw (nets : List Int) (n : Int) : Int := if n < 0 ∨ (nets.length : Int) ≤ n then 2 else Du (nets.getD n.toNat 0)
theorem qAd (c : Bd) (nets : Sl Int) (n : Int) (hl : nets.l.length ≤ 1000000000) : A6 Tryz.prog Γ 142 [.agg (O6 c nets), tI n] (tK (Hw nets.l n)) := by
 refine Aa q6T rfl ?_
 generalize hR : Hw nets.l n = R
 unfold Hw at hR
 by_cases h1 : n < 0
 ·rw [if_pos (.inl h1)] at hR
  subst hR
  simp [Ku, O6, Ab, Ad, Ag, Av, tV, h1, Kv, B6]
 by_cases h2 : (nets.l.length : Int) ≤ n
 ·rw [if_pos (.inr h2)] at hR
  subst hR
  simp [Ku, O6, Ab, Ad, Ag, Av, tV, h1, h2, A5, Kv, B6]
 rw [if_neg (by omega)] at hR
 have h3 : n.toNat < nets.l.length := by omega
 have e := ge1 (f := tK) h3
 generalize nets.l.getD n.toNat 0 = v at *
 have h4 : n < nets.l.length := by omega
 simp (disch := omega) [Ku, O6, Ab, Ad, Ag, Av, tV, h1, h2, h4, A5, A8, e]
 refine ⟨by omega, A4 (q6R v) rfl ?_⟩
 simp [Kv, B6, hR]
def q2q (c : Bd) (nets : List Int) (n : Int) : Int := if (F4 c n.toNat).length = 1 then Dk (Hw nets ((F4 c n.toNat).getD 0 0)) else 2
def X1 (c : Bd) (nets : List Int) : List Int := c.outs.l.map (Hw nets)
def D8 (c : Bd) (nets : List Int) : List Int := (Be c).map (q2q c nets)
def q8O (o s : Nat) : List AV := [.ls 24 0 o none, .ls 55 0 s none]
def q58 (o s : List Int) : List (Nat × Bn) := [(2, .bx [.t (.sl [] (some 0) (some true)), .t (.sl [] (some 0) (some true))]), (3, .bx (q8O o.length s.length)), (24, .sl 64 1 (Ai o)), (55, .sl 64 1 (Ai s))]
theorem Ha {l : List Int} {v : Int} : Ai l ++ [[tK v]] = Ai (l ++ [v]) := D2
theorem Bh {l : List Int} : (Ai l).take l.length = Ai l := Ar
theorem qE6 {Q : AX → St → Prop} (c : Bd) (nets : Sl Int) (hl : nets.l.length ≤ 1000000000) (ho : c.outs.l.length ≤ 1000000000) (R : List Int)
  (h0 : Q (.exit 0) ⟨[(1, .t (.ip (O6 c nets) 0)), (2, .lp 2 0 0), (3, .lp 3 0 0), (12, .t (Av c.outs)), (13, .t (tI c.outs.l.length)), (14, .t (tI c.outs.l.length)), (15, .t (tB false))], q58 R []⟩) :
  ∀ (k i : Nat) (out : List Int), k + i = c.outs.l.length → out.length = i → out ++ (c.outs.l.drop i).map (Hw nets.l) = R →
  run Tryz.prog Γ I1 Q ⟨[(1, .t (.ip (O6 c nets) 0)), (2, .lp 2 0 0), (3, .lp 3 0 0), (12, .t (Av c.outs)), (13, .t (tI c.outs.l.length)), (14, .t (tI i))], q58 out []⟩
 | 0, i, out, h, hi, hR => by
  refine Qh fun K hK => ?_
  have h2 : i = c.outs.l.length := by omega
  rw [List.drop_of_length_le (by omega), List.map_nil, List.append_nil] at hR
  subst hR
  simp [q58, q8O, h2]
  simpa [q58, q8O] using h0
 | k + 1, i, out, h, hi, hR => by
  refine Qh fun K hK => ?_
  have h2 : i < c.outs.l.length := by omega
  rw [List.drop_eq_getElem_cons h2, List.map_cons] at hR
  have e := ge1 (f := tI) h2
  rw [B5 h2] at e
  generalize c.outs.l[i] = n at *
  have ih := qE6 c nets hl ho R h0 k (i + 1) (out ++ [Hw nets.l n]) (by omega) (by simp [hi]) (by rw [← hR]; simp)
  have vs := Ha (l := out) (v := Hw nets.l n)
  have vt : (Ai out).take i = Ai out := by rw [← hi]; exact Bh
  have hv := qAd (Γ := Γ) c nets n hl
  simp (disch := omega) [q58, q8O, h2, Av, A5, A8, e, hi, A9, O6, Ab, Ad, Ag, tV]
  refine A4 hv rfl ?_
  simp (disch := omega) [vt, vs, A5, A8, hi, A9]
  refine ⟨by omega, ?_⟩
  rw [hK]
  simpa [q58, q8O, hi, O6, Ab, Ad, Ag, Av, tV] using ih
theorem qC3 {Q : AX → St → Prop} (c : Bd) (hc : COk c) (nets : Sl Int) (hl : nets.l.length ≤ 1000000000) (ns : List Int) (hns : ns.length ≤ 1000000000) (hin : ∀ n ∈ ns, 0 ≤ n ∧ n < c.nodes.l.length) (o R : List Int)
  (h0 : Q (.exit 2) ⟨[(1, .t (.ip (O6 c nets) 0)), (2, .lp 2 0 0), (3, .lp 3 0 0), (29, .t (.sl (Ak ns) (some ns.length) none)), (30, .t (tI ns.length)), (31, .t (tI ns.length)), (32, .t (tB false))], q58 o R⟩) :
  ∀ (k i : Nat) (out : List Int), k + i = ns.length → out.length = i → out ++ (ns.drop i).map (q2q c nets.l) = R →
  run Tryz.prog Γ I2 Q ⟨[(1, .t (.ip (O6 c nets) 0)), (2, .lp 2 0 0), (3, .lp 3 0 0), (29, .t (.sl (Ak ns) (some ns.length) none)), (30, .t (tI ns.length)), (31, .t (tI i))], q58 o out⟩
 | 0, i, out, h, hi, hR => by
  refine Qi fun K hK => ?_
  have h2 : i = ns.length := by omega
  rw [List.drop_of_length_le (by omega), List.map_nil, List.append_nil] at hR
  subst hR
  simp [q58, q8O, h2]
  simpa [q58, q8O] using h0
 | k + 1, i, out, h, hi, hR => by
  refine Qi fun K hK => ?_
  have h2 : i < ns.length := by omega
  rw [List.drop_eq_getElem_cons h2, List.map_cons] at hR
  have e := ge1 (f := tI) h2
  have hn := hin ns[i] (List.getElem_mem h2)
  rw [B5 h2] at e
  generalize ns[i] = n at *
  have ih := qC3 c hc nets hl ns hns hin o R h0 k (i + 1) (out ++ [q2q c nets.l n]) (by omega) (by simp [hi]) (by rw [← hR]; simp)
  have vs := Ha (l := out) (v := q2q c nets.l n)
  have vt : (Ai out).take i = Ai out := by rw [← hi]; exact Bh
  have hnn : n.toNat < c.nodes.l.length := by omega
  have hget : (B1 E0 c.nodes.l)[n.toNat]?.getD [] = E0 (c.nodes.l.getD n.toNat Nd.d) := by
   rw [Ei Nd.d hnn]; simp [List.getD_eq_getElem?_getD]
  have hxi := hc.inn _ (List.getElem_mem hnn)
  have hgd : c.nodes.l.getD n.toNat Nd.d = c.nodes.l[n.toNat] := by simp [List.getD_eq_getElem?_getD, hnn]
  have hia : F4 c n.toNat = (c.nodes.l.getD n.toNat Nd.d).inn.l := rfl
  have hnl : q2q c nets.l n = if (F4 c n.toNat).length = 1 then Dk (Hw nets.l ((F4 c n.toNat).getD 0 0)) else 2 := rfl
  rw [← hgd] at hxi
  rw [hia] at hnl
  generalize c.nodes.l.getD n.toNat Nd.d = x at *
  generalize q2q c nets.l n = v at *
  obtain ⟨h3, h4⟩ := hn
  by_cases h1 : x.inn.l.length = 1
  ·rw [if_pos h1] at hnl
   have h10 : 0 < x.inn.l.length := by omega
   have e0 := ge1 (f := tI) h10
   have hv := qAd (Γ := Γ) c nets (x.inn.l.getD 0 0) hl
   generalize x.inn.l.getD 0 0 = m at *
   simp (disch := omega) [q58, q8O, h2, Av, A5, A8, e, hi, A9, O6, Ab, Ad, Ag, tV, h3, h4, Ac, Bi, hget, E0, h1, e0, h10]
   refine A4 hv rfl ?_
   simp
   refine A4 (Up _) rfl ?_
   rw [← hnl]
   simp (disch := omega) [vt, vs, A5, A8, hi, A9]
   refine ⟨by omega, ?_⟩
   rw [hK]
   simpa [q58, q8O, hi, O6, Ab, Ad, Ag, Av, tV] using ih
  ·rw [if_neg h1] at hnl
   subst hnl
   have h1i : ¬ (x.inn.l.length : Int) = 1 := by omega
   simp (disch := omega) [q58, q8O, h2, Av, A5, A8, e, hi, A9, O6, Ab, Ad, Ag, tV, h3, h4, Ac, Bi, hget, E0, h1, h1i, Bv, vt, vs]
   refine ⟨by omega, ?_⟩
   rw [hK]
   simpa [q58, q8O, hi, O6, Ab, Ad, Ag, Av, tV] using ih
theorem qAe (ty : Nat) (es : List (List T)) (cap : Option Nat) (hw : E2 1 es) : Hn Tryz.prog Γ 52 [(1000000, .sl ty 1 es)] [.ls 1000000 0 es.length cap] (.ls 1000000 0 es.length (some es.length)) [(1000000, .sl ty 1 es)] := by
 refine N7 Nz rfl ?_
 simp [Hu, Hv, qGv, hw]
def tVs (l : List Int) : T := .sl (Ai l) (some l.length) none
theorem qCh (c : Bd) (hc : COk c) (nets : Sl Int) (hl : nets.l.length ≤ 1000000000) : A6 Tryz.prog Γ 79 [.agg (O6 c nets)] (.agg [tVs (X1 c nets.l), tVs (D8 c nets.l)]) := by
 refine Aa q3z rfl ?_
 have hn := hc.nodes
 have ho := hc.outs
 have hs := Hl c
 have g1 := fun Q h0 => qE6 (Γ := Γ) (Q := Q) c nets hl ho (X1 c nets.l) h0 c.outs.l.length 0 [] (by omega) rfl (by simp [X1])
 have g2 := fun Q h0 => qC3 (Γ := Γ) (Q := Q) c hc nets hl (Be c) (by omega) (fun x hx => ⟨(Jw x hx).1, (Jw x hx).2.1⟩) (X1 c nets.l) (D8 c nets.l) h0 (Be c).length 0 [] (by omega) rfl (by simp [D8])
 have l1 : (X1 c nets.l).length = c.outs.l.length := by simp [X1]
 have l2 : (D8 c nets.l).length = (Be c).length := by simp [D8]
 have t1 := Bh (l := X1 c nets.l)
 have t2 := Bh (l := D8 c nets.l)
 generalize X1 c nets.l = O at *
 generalize D8 c nets.l = S at *
 simp [Xg, O6, Ab, Ad, Ag, Av, tV, A5]
 refine g1 _ ?_
 simp [q58, q8O, O6, Ab, Ad, Ag, Av, tV]
 refine Ae (q3g c hc) rfl ?_
 simp [A5]
 refine g2 _ ?_
 have hc1 := qAe (Γ := Γ) 64 (Ai O) none A8
 have hc2 := qAe (Γ := Γ) 64 (Ai S) none A8
 simp only [A5] at hc1 hc2
 simp [q58, q8O]
 refine ⟨_, hc1, ?_⟩
 simp
 refine ⟨_, hc2, ?_⟩
 simp [Xh, tVs, A5, B6, Am, t1, t2]
def nd (c : Bd) (n : Int) : Nd := c.nodes.l.getD n.toNat Nd.d
theorem q2S {c : Bd} {n : Int} (h0 : 0 ≤ n) (h : n < c.nodes.l.length) : (B1 E0 c.nodes.l)[n.toNat]?.getD [] = E0 (nd c n) := by
 rw [Ei Nd.d (by omega)]; simp [nd, List.getD_eq_getElem?_getD]
theorem qCi {c : Bd} {n : Int} (h0 : 0 ≤ n) (h : n < c.nodes.l.length) : nd c n ∈ c.nodes.l := by
 have hi : n.toNat < c.nodes.l.length := by omega
 have : nd c n = c.nodes.l[n.toNat] := by simp [nd, List.getD_eq_getElem?_getD, hi]
 rw [this]; exact List.getElem_mem hi
def Ol : AV := .t (.sl [] (some 0) (some true))
structure ROk (c : Bd) : Prop where
 ok : COk c
 inn : ∀ x ∈ c.nodes.l, x.inn.l.length ≤ 16 ∧ ∀ k ∈ x.inn.l, 0 ≤ k ∧ k < c.nodes.l.length
theorem qCj {c : Bd} {nets : List Int} {n : Int} (h : ∀ v ∈ nets, V4 v) : ∀ v ∈ Qf c nets n, V4 v := by
 intro v hv
 unfold Qf at hv
 split at hv
 ·rcases List.mem_or_eq_of_mem_set hv with hv | rfl
  ·exact h v hv
  ·refine qJy fun u hu => ?_
   obtain ⟨q, _, rfl⟩ := List.mem_map.1 hu
   exact Ul h _
 ·exact h v hv
theorem qCk {c : Bd} (hc : COk c) (h : E9 c = 0) : ROk c := by
 have hs := (Qe h).1
 exact ⟨hc, fun x hx => ⟨(Is hs).2.1 x hx, qDw hs x hx⟩⟩
theorem q9o : ∀ {ns vs nets : List Int}, (∀ v ∈ vs, V4 v) → (∀ v ∈ nets, V4 v) → ∀ v ∈ G5 ns vs nets, V4 v
 | [], vs, nets, _, h => by cases vs <;> exact h
 | _ :: _, [], nets, _, h => h
 | n :: ns, v :: vs, nets, hv, h => by
  simp only [G5]
  refine q9o (fun u hu => hv u (List.mem_cons_of_mem _ hu)) fun u hu => ?_
  rcases List.mem_or_eq_of_mem_set hu with hu | rfl
  ·exact h u hu
  ·exact hv _ List.mem_cons_self
end Go.Lg
namespace Go.Lg
open Go
section
variable {P : Program} {Γ : Tables} {Q : AX → St → Prop} {s : St}
/- probecard/probecardlaw06.taken (function 81) -/
abbrev q40 : IC := .gh (.seq (.seq (.reg [om 9 8, om 10 1, od 11 (.bin .lss (tm 9) (tm 10))] [kp [0, 1, 2, 7, 8, 11] [19]]) (.cond (tm 11) .skip (.exit 0))) (.seq (.block 1 (.seq (.reg [om 14 0, od 15 (le 0 14), od 16 (.bin .eql (tm 15) (ki 0))] [kp
 [0, 1, 2, 7, 8, 16] [19]]) (.cond (tm 16) (.reg [om 17 7, od 18 (.bsl true 64 1 [(ku 2)]), od 19 (.app false 64 1 (tm 17) (tm 18)), om 7 19] [kp [0, 1, 2, 7, 8] [19]]) (.reg [om 20 7, om 21 0, om 22 8, om 23 0, od 24 (le 0 23), od
 25 (.bin .rem (tm 22) (tm 24)), od 26 (ia 1 21 25), od 27 (ld 1 26), om 28 2, od 29 (.bin .rem (tm 27) (tm 28)), od 30 (.bsl true 64 1 [(tm 29)]), oz 31 (.app false 64 1 (tm 20) (tm 30)) 19, om 7 31] [kp [0, 1, 2, 7, 8] [19]]))))
 (.reg [om 12 8, od 13 (.bin .add (tm 12) (ki 1)), om 8 13] [kp [0, 1, 2, 7, 8] [19]]))) [kp [0, 1, 2, 7, 8] [19]]
def Rn : IC := .loop q40
abbrev q41 : IC := (.seq (.reg [od 6 (.mv kN)] [kp [0, 1, 2] []]) (.seq (.reg [od 7 (.mv kN)] [.nl 7 19 64 1, kp [0, 1, 2, 7] [19]]) (.seq (.seq (.reg [od 8 (.mv (ki 0))] [kp [0, 1, 2, 7, 8] [19]]) (.block 0 Rn)) (.seq (.reg [om 32 7, om
 6 32] [kp [6] [19]]) .ret))))
theorem Zi (h : ∀ K : St → Prop, K = run P Γ Rn Q → run P Γ q40 (An K Q) s) : run P Γ Rn Q s := Af h
def q42 : List RV := [.tmp 6]
/- probecard/probecardlaw06.count (function 82) -/
abbrev q43 : IC := .gh (.seq (.seq (.reg [om 7 6, od 8 (fa 0 2), od 9 (ld 1 8), od 10 (le 0 9), od 11 (.bin .lss (tm 7) (tm 10))] [kp [1, 2, 5, 6, 11] []]) (.cond (tm 11) .skip (.exit 0))) (.seq (.block 1 (.seq (.reg [od 14 (fa 0 2), od 15 (ld 1 14),
 om 16 6, od 17 (ia 4 15 16), od 18 (fa 0 17), od 19 (ld 1 18), om 20 1, od 21 (.bin .eql (tm 19) (tm 20))] [kp [1, 2, 5, 6, 21] []]) (.cond (tm 21) (.reg [om 22 5, od 23 (.bin .add (tm 22) (ki 1)), om 5 23] [kp [1, 2, 5, 6] []])
 .skip))) (.reg [om 12 6, od 13 (.bin .add (tm 12) (ki 1)), om 6 13] [kp [1, 2, 5, 6] []]))) [kp [1, 2, 5, 6] []]
def Ro : IC := .loop q43
abbrev q44 : IC := (.seq (.reg [od 2 (.box true (tm 0)), od 4 (.mv (ki 0))] [kp [1, 2] []]) (.seq (.reg [od 5 (.mv (ki 0))] [kp [1, 2, 5] []]) (.seq (.seq (.reg [od 6 (.mv (ki 0))] [kp [1, 2, 5, 6] []]) (.block 0 Ro)) (.seq (.reg [om 24
 5, om 4 24] [kp [4] []]) .ret))))
theorem Zj (h : ∀ K : St → Prop, K = run P Γ Ro Q → run P Γ q43 (An K Q) s) : run P Γ Ro Q s := Af h
def q45 : List RV := [.tmp 4]
/- (probecard/probecardlaw06.P).Of (function 44) -/
abbrev q5U : IC := (.seq (.reg [od 2 (.box true (tm 0)), od 3 (.box true (tm 1)), od 4 (.alloc false [(.slice none 0 0), (.slice none 0 0)])] [kp [2, 3, 4] [4, 9019, 14019]]) (.seq (.reg [od 5 (fa 0 2), od 6 (.ldT 1 false (tm 5)), od 7 (.ldT 4 true
 (tm 3)), od 8 (.callT 82 [(tm 7), (ku 0)]), od 9 (.ncall 81 [(tm 6), (tm 8), (ku 4)] 9000), od 10 (fa 1 2), od 11 (.ldT 1 false (tm 10)), od 12 (.ldT 4 true (tm 3)), od 13 (.callT 82 [(tm 12), (ku 14)]), od 14 (.ncall 81 [(tm 11),
 (tm 13), (ku 3)] 14000), od 15 (.build [(1, (tm 9)), (1, (tm 14))]), on (.stR 4 2 (tm 4) (tm 15))] [kp [4] [4, 9019, 14019]]) .ret))
def q5V : List RV := [.cell 4 2 true]
/- probecard/probecardlaw06.Same (function 16) -/
abbrev q5W : IC := .gh (.seq (.seq (.reg [om 11 5, om 12 0, od 13 (le 0 12), od 14 (.bin .lss (tm 11) (tm 13))] [kp [0, 1, 5, 14] []]) (.cond (tm 14) .skip (.exit 0))) (.seq (.block 1 (.seq (.reg [om 17 0, om 18 5, od 19 (ia 1 17 18), od 20 (ld 1
 19), om 21 1, om 22 5, od 23 (ia 1 21 22), od 24 (ld 1 23), od 25 (.bin .neq (tm 20) (tm 24))] [kp [0, 1, 5, 25] []]) (.cond (tm 25) (.seq (.reg [od 4 (.mv (ki 1))] [kp [4] []]) .ret) .skip))) (.reg [om 15 5, od 16 (.bin .add (tm
 15) (ki 1)), om 5 16] [kp [0, 1, 5] []]))) [kp [0, 1, 5] []]
def Vh : IC := .loop q5W
abbrev q1B : IC := (.seq (.reg [od 4 (.mv (ki 0))] [kp [0, 1] []]) (.seq (.seq (.reg [om 6 0, od 7 (le 0 6), om 8 1, od 9 (le 0 8), od 10 (.bin .neq (tm 7) (tm 9))] [kp [0, 1, 10] []]) (.cond (tm 10) (.seq (.reg [od 4 (.mv (ki 1))] [kp [4] []]) .ret)
 .skip)) (.seq (.seq (.reg [od 5 (.mv (ki 0))] [kp [0, 1, 5] []]) (.block 0 Vh)) (.seq (.reg [od 4 (.mv (ki 0))] [kp [4] []]) .ret))))
theorem q0Y (h : ∀ K : St → Prop, K = run P Γ Vh Q → run P Γ q5W (An K Q) s) : run P Γ Vh Q s := Af h
def Vi : List RV := [.tmp 4]
/- probecard/logic.Text (function 64) -/
abbrev q5X : IC := .gh (.seq (.reg [od 12 (.bin .lss (tm 11) (tm 10))] [kp [3, 9, 10, 11, 12] [8]]) (.seq (.cond (tm 12) .skip (.exit 0)) (.seq (.block 1 (.seq (.reg [om 13 11, od 14 (ia 1 9 11), od 15 (ld 1 14), om 4 13, om 5 15] [kp [3, 4, 5, 9,
 10, 11] [8]]) (.reg [om 16 3, om 17 4, om 18 5, od 19 (.call 133 [(tm 18)]), od 20 (.idxS (.const (sV [48, 49, 88, 90])) (tm 19)), od 21 (ia 1 16 17), on (.store 1 (tm 21) (tm 20))] [kp [3, 9, 10, 11] [8]]))) (.reg [od 22 (.bin
 .add (tm 11) (ki 1)), om 11 22] [kp [3, 9, 10, 11] [8]])))) [kp [3, 9, 10, 11] [8]]
def Vj : IC := .loop q5X
abbrev q5Y : IC := (.seq (.reg [od 2 (.mv (.const (sV [])))] [kp [0] []]) (.seq (.reg [om 6 0, od 7 (le 0 6), od 8 (.mk 5 1 [(.int .u8 0)] (tm 7) (tm 7)), om 3 8] [kp [0, 3] [8]]) (.seq (.seq (.reg [om 9 0, od 10 (le 0 9), od 11 (.mv (ki 0))] [kp [3,
 9, 10, 11] [8]]) (.block 0 Vj)) (.seq (.reg [om 23 3, od 24 (.bytesStr (tm 23)), om 2 24] [kp [2] []]) .ret))))
theorem q0Z (h : ∀ K : St → Prop, K = run P Γ Vj Q → run P Γ q5X (An K Q) s) : run P Γ Vj Q s := Af h
def q5Z : List RV := [.tmp 2]
/- probecard/logic.Parse (function 139) -/
abbrev q46 : IC := .gh (.seq (.reg [od 13 (.bin .lss (tm 12) (tm 11))] [kp [0, 4, 11, 12, 13] [9]]) (.seq (.cond (tm 13) .skip (.exit 0)) (.seq (.block 1 (.seq (.reg [om 14 12, om 5 14] [kp [0, 4, 5, 11, 12] [9]]) (.seq (.reg [om 15 0, om 16 5, od 17
 (.idxS (tm 15) (tm 16)), od 18 (.call 162 [(.const (sV [48, 49, 88, 90])), (tm 17)]), om 6 18] [kp [0, 4, 5, 6, 11, 12] [9]]) (.seq (.seq (.reg [om 19 6, od 20 (.bin .lss (tm 19) (ki 0))] [kp [0, 4, 5, 6, 11, 12, 20] [9]]) (.cond
 (tm 20) (.seq (.reg [od 2 (.mv kN), od 3 (.mv (ki 4))] [kp [2, 3] [9]]) .ret) .skip)) (.reg [om 21 4, om 22 5, om 23 6, od 24 (.conv .u8 (tm 23)), od 25 (ia 1 21 22), on (.store 1 (tm 25) (tm 24))] [kp [0, 4, 11, 12] [9]])))))
 (.reg [od 26 (.bin .add (tm 12) (ki 1)), om 12 26] [kp [0, 4, 11, 12] [9]])))) [kp [0, 4, 11, 12] [9]]
def Rq : IC := .loop q46
abbrev q47 : IC := (.seq (.reg [od 2 (.mv kN), od 3 (.mv (ki 0))] [kp [0] []]) (.seq (.reg [om 7 0, od 8 (le 1 7), od 9 (.mk 64 1 [(.int .u8 0)] (tm 8) (tm 8)), om 4 9] [kp [0, 4] [9]]) (.seq (.seq (.reg [om 10 0, od 11 (le 1 10), od 12 (.mv (ki 0))]
 [kp [0, 4, 11, 12] [9]]) (.block 0 Rq)) (.seq (.reg [om 27 4, om 2 27, od 3 (.mv (ki 0))] [kp [2, 3] [9]]) .ret))))
theorem Zk (h : ∀ K : St → Prop, K = run P Γ Rq Q → run P Γ q46 (An K Q) s) : run P Γ Rq Q s := Af h
def q48 : List RV := [.tmp 2, .tmp 3]
end
end Go.Lg
namespace Go.Lg
open Go Go.Proofs
theorem q9Q : Au Tryz.prog 81 q41 33 3 q42 = true := by kernel_rfl
theorem q9R : Au Tryz.prog 82 q44 25 2 q45 = true := by kernel_rfl
theorem qAf : Au Tryz.prog 44 q5U 16 2 q5V = true := by kernel_rfl
theorem qAg : Au Tryz.prog 16 q1B 26 2 Vi = true := by kernel_rfl
theorem qAh : Au Tryz.prog 64 q5Y 25 1 q5Z = true := by kernel_rfl
theorem q9S : Au Tryz.prog 139 q47 28 1 q48 = true := by kernel_rfl
end Go.Lg
namespace Go.Lg
open Go Go.Proofs
variable {Γ : Tables}
theorem qAi {ks : List Int} {c : Bd} {i : Nat} (hi : i < c.nodes.l.length) : N5 ks (c.nodes.l.take (i + 1)) 0 = N5 ks (c.nodes.l.take i) 0 ++ if ks.contains (Ap c i) then [(i : Int)] else [] := by
 have hk : Ap c i = c.nodes.l[i].k := by simp [Ap, hi]
 rw [List.take_add_one, List.getElem?_eq_getElem hi, q71, hk]
 have : (c.nodes.l.take i).length = i := by rw [List.length_take]; omega
 rw [this]
 simp [N5]
theorem qAj {Q : AX → St → Prop} (c : Bd) (hc : COk c) (k : Int)
  (h0 : Q (.exit 0) ⟨[(1, .t (tK k)), (2, .t (.ip (tC c) 0)), (5, .t (tI (N5 [k] c.nodes.l 0).length)), (6, .t (tI c.nodes.l.length)), (11, .t (tB false))], []⟩) : ∀ (f i : Nat), f + i = c.nodes.l.length →
  run Tryz.prog Γ Ro Q ⟨[(1, .t (tK k)), (2, .t (.ip (tC c) 0)), (5, .t (tI (N5 [k] (c.nodes.l.take i) 0).length)), (6, .t (tI i))], []⟩
 | 0, i, h => by
  refine Zj fun K hK => ?_
  have h2 : i = c.nodes.l.length := by omega
  subst h2
  rw [List.take_length]
  simp [tC, Ab, Ad, Ag, Av, Ac]
  simpa [tC, Ab, Ad, Ag, Av] using h0
 | f + 1, i, h => by
  refine Zj fun K hK => ?_
  have h2 : i < c.nodes.l.length := by omega
  have hn := hc.nodes
  have ih := qAj c hc k h0 f (i + 1) (by omega)
  rw [qAi h2] at ih
  have hget := q2S (c := c) (n := (i : Int)) (by omega) (by omega)
  have hk : (nd c i).k = Ap c i := by simp [nd, Ap]
  simp only [Int.toNat_natCast] at hget
  have hle := V9 [k] (c.nodes.l.take i) 0
  rw [List.length_take] at hle
  generalize nd c i = x at *
  by_cases h1 : x.k = k
  ·have hkk : [k].contains (Ap c i) = true := by rw [← hk, h1]; simp
   rw [hkk, if_pos rfl, List.length_append] at ih
   simp (disch := omega) [tC, Ab, Ad, Ag, Av, Ac, h2, Bi, hget, E0, h1, A9]
   rw [hK]
   simpa [tC, Ab, Ad, Ag, Av] using ih
  ·have hkk : [k].contains (Ap c i) = false := by rw [← hk]; simp; exact h1
   rw [hkk, if_neg (by simp), List.append_nil] at ih
   simp (disch := omega) [tC, Ab, Ad, Ag, Av, Ac, h2, Bi, hget, E0, h1, A9]
   rw [hK]
   simpa [tC, Ab, Ad, Ag, Av] using ih
theorem qAk (c : Bd) (hc : COk c) (k : Int) : A6 Tryz.prog Γ 82 [.agg (tC c), tK k] (tI (N5 [k] c.nodes.l 0).length) := by
 refine Aa q9R rfl ?_
 have g := fun Q h0 => qAj (Γ := Γ) (Q := Q) c hc k h0 c.nodes.l.length 0 (by omega)
 simp [q44, tC, Ab, Ad, Ag, Av]
 refine g _ ?_
 simp [q45, B6]
def X2 (l : List Int) (n : Nat) (most : Int) : List Int := (List.range' 0 n).map fun i => if l = [] then 2 else (l.getD (i % l.length) 0).tmod most
theorem q2T {l : List Int} {n : Nat} {most : Int} : (X2 l n most).length = n := by simp [X2]
theorem q6U {Q : AX → St → Prop} (l : Sl Int) (n : Nat) (hn : n ≤ 1000000000) (most : Int) (hm : 0 < most) (R : List Int)
  (h0 : Q (.exit 0) ⟨[(0, .t (tV l)), (1, .t (tI n)), (2, .t (tK most)), (7, .ls 19 0 n none), (8, .t (tI n)), (11, .t (tB false))], [(19, .sl 64 1 (Ai R))]⟩) : ∀ (k i : Nat) (out : List Int), k + i = n → out.length = i → out ++ (List.range' i k).map (fun i => if l.l = [] then 2 else (l.l.getD (i % l.l.length) 0).tmod most) = R →
  run Tryz.prog Γ Rn Q ⟨[(0, .t (tV l)), (1, .t (tI n)), (2, .t (tK most)), (7, .ls 19 0 i none), (8, .t (tI i))], [(19, .sl 64 1 (Ai out))]⟩
 | 0, i, out, h, hi, hR => by
  refine Zi fun K hK => ?_
  have h2 : i = n := by omega
  subst h2
  simp only [List.range'_zero, List.map_nil, List.append_nil] at hR
  subst hR
  simp
  exact h0
 | k + 1, i, out, h, hi, hR => by
  refine Zi fun K hK => ?_
  have h2 : i < n := by omega
  rw [List.range'_succ, List.map_cons] at hR
  have vt : (Ai out).take i = Ai out := by rw [← hi]; exact Bh
  by_cases h1 : l.l = []
  ·have ih := q6U l n hn most hm R h0 k (i + 1) (out ++ [2]) (by omega) (by simp [hi]) (by rw [← hR]; simp [h1])
   have vs := Ha (l := out) (v := 2)
   simp (disch := omega) [h2, tV, A5, h1, A9, vt, vs, hi]
   refine ⟨by omega, ?_⟩
   rw [hK]
   simpa [tV, h1] using ih
  ·have hpos : 0 < l.l.length := List.length_pos_iff.2 h1
   have hlt : i % l.l.length < l.l.length := Nat.mod_lt _ hpos
   have hmod : (i : Int).tmod (l.l.length : Int) = ((i % l.l.length : Nat) : Int) := by rw [Int.natCast_emod]; exact Int.tmod_eq_emod_of_nonneg (by omega)
   rw [if_neg h1] at hR
   have e := ge1 (f := tK) hlt
   generalize hj : i % l.l.length = j at *
   generalize l.l.getD j 0 = v at *
   have ih := q6U l n hn most hm R h0 k (i + 1) (out ++ [v.tmod most]) (by omega) (by simp [hi]) (by rw [← hR]; simp)
   have vs := Ha (l := out) (v := v.tmod most)
   have hne : ¬ (l.l.length : Int) = 0 := by omega
   have hm0 : ¬ most = 0 := by omega
   simp (disch := omega) [h2, tV, A5, A8, h1, hne, hm0, hmod, hlt, e, A9, vt, vs, hi, -Int.natCast_emod]
   refine ⟨by omega, ?_⟩
   rw [hK]
   simpa [tV] using ih
theorem qGG (l : Sl Int) (n : Nat) (hn : n ≤ 1000000000) (most : Int) (hm : 0 < most) : Hn Tryz.prog Γ 81 [] [.t (tV l), .t (tI n), .t (tK most)] (.ls 19 0 n none) [(19, .sl 64 1 (Ai (X2 l.l n most)))] := by
 refine N7 q9Q rfl ?_
 have g := fun Q h0 => q6U (Γ := Γ) (Q := Q) l n hn most hm (X2 l.l n most) h0 n 0 [] (by omega) rfl (by simp [X2])
 simp [q41]
 refine g _ ?_
 simp [q42]
def q94 (a b : List Int) : Int := if a = b then 0 else 1
theorem qIQ {a b : List Int} (hl : a.length = b.length) (h : ∀ j, j < a.length → a.getD j 0 = b.getD j 0) : a = b := by
 refine List.ext_getElem hl fun i h1 h2 => ?_
 have := h i h1
 rwa [B5 h1, B5 h2] at this
theorem qC4 {Q : AX → St → Prop} (a b : Sl Int) (hl : a.l.length ≤ 1000000000) (he : a.l.length = b.l.length)
  (h0 : a.l = b.l → Q (.exit 0) ⟨[(0, .t (tV a)), (1, .t (tV b)), (5, .t (tI a.l.length)), (14, .t (tB false))], []⟩)
  (h1 : a.l ≠ b.l → Q .ret ⟨[(4, .t (tI 1))], []⟩) : ∀ (k i : Nat), k + i = a.l.length → (∀ j, j < i → a.l.getD j 0 = b.l.getD j 0) →
  run Tryz.prog Γ Vh Q ⟨[(0, .t (tV a)), (1, .t (tV b)), (5, .t (tI i))], []⟩
 | 0, i, h, hp => by
  refine q0Y fun K hK => ?_
  have h2 : i = a.l.length := by omega
  subst h2
  simp [tV, A5]
  exact h0 (qIQ he hp)
 | k + 1, i, h, hp => by
  refine q0Y fun K hK => ?_
  have h2 : i < a.l.length := by omega
  have h3 : i < b.l.length := by omega
  have e1 := ge1 (f := tK) h2
  have e2 := ge1 (f := tK) h3
  by_cases hv : a.l.getD i 0 = b.l.getD i 0
  ·have ih := qC4 a b hl he h0 h1 k (i + 1) (by omega) (fun j hj => by
    rcases Nat.lt_succ_iff_lt_or_eq.1 hj with hj | rfl
    ·exact hp j hj
    ·exact hv)
   rw [hv] at e1
   generalize b.l.getD i 0 = v at *
   simp (disch := omega) [h2, h3, tV, A5, A8, e1, e2, A9]
   rw [hK]
   simpa [tV] using ih
  ·have hne : a.l ≠ b.l := fun e => hv (by rw [e])
   generalize b.l.getD i 0 = v at *
   generalize a.l.getD i 0 = u at *
   simp (disch := omega) [h2, h3, tV, A5, A8, e1, e2, A9, hv]
   exact h1 hne
theorem qC5 (a b : Sl Int) (hl : a.l.length ≤ 1000000000) : A6 Tryz.prog Γ 16 [tV a, tV b] (tI (q94 a.l b.l)) := by
 refine Aa qAg rfl ?_
 by_cases he : a.l.length = b.l.length
 ·have g := fun Q h0 h1 => qC4 (Γ := Γ) (Q := Q) a b hl he h0 h1 a.l.length 0 (by omega) (by simp)
  simp [q1B, tV, A5, he]
  simp only [tV] at g
  refine g _ (fun h => ?_) (fun h => ?_)
  ·simp [Vi, B6, q94, h]
  ·simp [Vi, B6, q94, h]
 ·have hne : ¬ a.l = b.l := fun e => he (by rw [e])
  have he' : ¬ (a.l.length : Int) = b.l.length := by omega
  simp [q1B, tV, A5, he, he', Vi, B6, q94, hne]
def chV (v : Int) : Int := if v = 0 then 48 else if v = 1 then 49 else if v = 2 then 88 else 90
def q5a (l : List Int) : List UInt8 := l.map fun v => UInt8.ofNat (chV (Du v)).toNat
theorem qC6 {Q : AX → St → Prop} (l : Sl Int) (hl : l.l.length ≤ 1000000000) (hv : ∀ v ∈ l.l, 0 ≤ v) (R : List Int)
  (h0 : Q (.exit 0) ⟨[(3, .ls 8 0 l.l.length none), (9, .t (tV l)), (10, .t (tI l.l.length)), (11, .t (tI l.l.length)), (12, .t (tB false))], [(8, .sl 5 1 (Ai R))]⟩) : ∀ (k i : Nat), k + i = l.l.length → R = l.l.map (fun v => chV (Du v)) →
  run Tryz.prog Γ Vj Q ⟨[(3, .ls 8 0 l.l.length none), (9, .t (tV l)), (10, .t (tI l.l.length)), (11, .t (tI i))], [(8, .sl 5 1 (Ai (R.take i ++ List.replicate (l.l.length - i) 0)))]⟩
 | 0, i, h, hR => by
  refine q0Z fun K hK => ?_
  have h2 : i = l.l.length := by omega
  have h3 : R.length = l.l.length := by rw [hR]; simp
  subst h2
  rw [← h3, List.take_length, h3, Nat.sub_self, List.replicate_zero, List.append_nil]
  simp
  exact h0
 | k + 1, i, h, hR => by
  refine q0Z fun K hK => ?_
  have h2 : i < l.l.length := by omega
  have h3 : R.length = l.l.length := by rw [hR]; simp
  have ih := qC6 l hl hv R h0 k (i + 1) (by omega) hR
  have e1 := ge1 (f := tK) h2
  have hv0 := hv (l.l.getD i 0) (by rw [B5 h2]; exact List.getElem_mem h2)
  have hRi : R.getD i 0 = chV (Du (l.l.getD i 0)) := by rw [hR, B5 h2]; simp [List.getD_eq_getElem?_getD, h2]
  have hset : ∀ v, v = R.getD i 0 → (Ai (R.take i ++ List.replicate (l.l.length - i) 0)).set i [tK v] = Ai (R.take (i + 1) ++ List.replicate (l.l.length - (i + 1)) 0) := by
   rintro v rfl
   show (Aj tK _).set i [tK _] = Aj tK _
   rw [Fj]
   congr 1
   have e : l.l.length - i = (l.l.length - (i + 1)) + 1 := by omega
   have ht : (R.take i).length = i := by rw [List.length_take]; omega
   have hri : i < R.length := by omega
   have hta : R.take (i + 1) = R.take i ++ [R.getD i 0] := by rw [List.take_add_one, List.getElem?_eq_getElem hri, B5 hri]; rfl
   rw [e, List.replicate_succ, List.set_append, if_neg (by rw [ht]; omega), ht, Nat.sub_self, hta]
   simp
  have hlen : (Ai (R.take i ++ List.replicate (l.l.length - i) 0)).length = l.l.length := by rw [A5]; simp; omega
  generalize Ai (R.take i ++ List.replicate (l.l.length - i) 0) = E at *
  generalize l.l.getD i 0 = v at *
  have hc4 : Du v = 0 ∨ Du v = 1 ∨ Du v = 2 ∨ Du v = 3 := by unfold Du; split <;> omega
  simp (disch := omega) [h2, tV, A5, A8, e1, A9]
  refine A4 (q6R v) rfl ?_
  have hch : (ByteArray.mk #[48, 49, 88, 90]).size = 4 := rfl
  have hb : ∀ q : Int, Du v = q → (0 ≤ q ∧ q < 4) := fun q hq => by omega
  generalize Du v = w at *
  have hval : ((([48, 49, 88, 90] : List UInt8)[w.toNat]?.getD 0).toNat : Int) = chV w := by
   rcases hc4 with rfl | rfl | rfl | rfl <;> rfl
  have hw := hb w rfl
  have hs := hset _ (hval.trans hRi.symm)
  simp (disch := omega) [h2, hlen, hs, A9, sV, hch, hw]
  rw [hK]
  simpa [tV] using ih
theorem qAl : ∀ (l : List Int), (∀ v ∈ l, 0 ≤ v ∧ v < 256) → Ov (Ai l) = some (l.map fun v => UInt8.ofNat v.toNat)
 | [], _ => rfl
 | v :: l, h => by
  have ih := qAl l fun u hu => h u (List.mem_cons_of_mem _ hu)
  have hv := h v List.mem_cons_self
  show (Ov (Ai l)).map _ = _
  rw [ih]; rfl
theorem qC7 (l : Sl Int) (hl : l.l.length ≤ 1000000000) (hv : ∀ v ∈ l.l, 0 ≤ v) : A6 Tryz.prog Γ 64 [tV l] (tS (q5a l.l)) := by
 refine Aa qAh rfl ?_
 have g := fun Q h0 => qC6 (Γ := Γ) (Q := Q) l hl hv (l.l.map fun v => chV (Du v)) h0 l.l.length 0 (by omega) rfl
 have hz : List.replicate l.l.length [T.v (Value.int .u8 0)] = Ai (([] : List Int) ++ List.replicate (l.l.length - 0) 0) := by simp [Aj]
 have hlen : (l.l.map fun v => chV (Du v)).length = l.l.length := by simp
 have hR : Ov (Ai (l.l.map fun v => chV (Du v))) = some (q5a l.l) := by
  rw [qAl]
  ·simp [q5a]
  ·intro v hv'
   obtain ⟨u, _, rfl⟩ := List.mem_map.1 hv'
   unfold chV; split; omega; split; omega; split <;> omega
 have htk : (Ai (l.l.map fun v => chV (Du v))).take l.l.length = Ai (l.l.map fun v => chV (Du v)) := by rw [← hlen]; exact Bh
 rw [List.take_zero] at g
 generalize Ai (l.l.map fun v => chV (Du v)) = E at *
 simp (disch := omega) [q5Y, tV, A5, A9]
 refine ⟨by omega, ?_⟩
 rw [hz]
 refine g _ ?_
 simp [q5Z, B6, htk, hR, tS, sV]
structure PD where
 i : Sl Int
 s : Sl Int
def tPD (q : PD) : List T := [tV q.i, tV q.s]
def qE7 (q : PD) : Prop := (∀ v ∈ q.i.l, Byt v) ∧ ∀ v ∈ q.s.l, Byt v
def qNh (q : PD) (c : Bd) : List Int := X2 q.i.l (E1 c).length 4
def qNi (q : PD) (c : Bd) : List Int := X2 q.s.l (Be c).length 3
def qAm (q : PD) (c : Bd) : Pat := ⟨⟨qNh q c, none, none⟩, ⟨qNi q c, none, none⟩⟩
def Ur (b : UInt8) : Int := if b = 48 then 0 else if b = 49 then 1 else if b = 88 then 2 else 3
def v1 (v : Int) : Sl Int := ⟨[v], none, none⟩
end Go.Lg
namespace Go.Lg
open Go Go.Proofs Go.Proofs.YthgiocdefejbiaaGreatDoor
theorem qGH : Tryz.prog.cellsOf 31 = 2 := by kernel_rfl
theorem qCl : Rd Tryz.prog 25 fun ts => ∃ s : Sl Int, ts = [tV s] ∧ ∀ b ∈ s.l, Byt b := by
 refine (qAI Tryz.underlying25 q3j (by decide) qDs).mono fun ts ⟨es, cap, nl, h, _, hes⟩ => ?_
 obtain ⟨l, rfl, hl⟩ := q9m (f := fun n : Int => [tK n]) (Q := Byt) fun x hx => (hes x hx).1
 exact ⟨⟨l, cap, nl⟩, h, hl⟩
theorem qOa : Rd Tryz.prog 31 fun ts => ∃ q, ts = tPD q ∧ qE7 q := by
 refine (q1S (l := [(1, fun ts => ∃ s : Sl Int, ts = [tV s] ∧ ∀ b ∈ s.l, Byt b), (1, fun ts => ∃ s : Sl Int, ts = [tV s] ∧ ∀ b ∈ s.l, Byt b)]) Tryz.underlying31 qGH
  (.cons rfl q9l qCl (.cons rfl q9l qCl (.nil _)))).mono fun ts h => ?_
 obtain ⟨_, _, rfl, ⟨a, rfl, ha⟩, _, _, rfl, ⟨b, rfl, hb⟩, rfl⟩ := h
 exact ⟨⟨a, b⟩, rfl, ha, hb⟩
end Go.Lg
namespace Go.Proofs.YthgiocdefejbiaaGreatDoor
open Go Go.Lg Go.ChangeShapes Go.WideShapes Go.ChangeAt Go.RowKit
end Go.Proofs.YthgiocdefejbiaaGreatDoor
namespace Go.Lg
open Go
section
variable {P : Program} {Γ : Tables} {Q : AX → St → Prop} {s : St}
/- probecard/memories.matches (function 122) -/
abbrev Xi : IC := .gh (.seq (.reg [od 10 (.bin .lss (tm 9) (tm 8))] [kp [0, 7, 8, 9, 10] []]) (.seq (.cond (tm 10) .skip (.exit 0)) (.seq (.block 1 (.seq (.reg [od 11 (ia 1 7 9), od 12 (ld 1 11), om 6 12] [kp [0, 6, 7, 8, 9] []]) (.seq (.seq (.reg
 [om 13 6, od 14 (.call 29 [(tm 13)]), om 15 14, oT 16 (.mv (tm 6)) 15, oT 17 (.conv .i64 (tm 16)) 15, oT 18 (.mv (tm 0)) 15, oT 19 (.bin .and (tm 18) (ki 1)) 15, oT 20 (.bin .neq (tm 17) (tm 19)) 15, od 21 (.pick (tm 15) (tm 20)
 kF)] [kp [0, 7, 8, 9, 21] []]) (.cond (tm 21) (.seq (.reg [od 4 (.mv kF)] [kp [4] []]) .ret) .skip)) (.reg [om 22 0, od 23 (.bin .shr (tm 22) (.const (.int .u64 1))), om 0 23] [kp [0, 7, 8, 9] []])))) (.reg [od 24 (.bin .add (tm 9)
 (ki 1)), om 9 24] [kp [0, 7, 8, 9] []])))) [kp [0, 7, 8, 9] []]
def I3 : IC := .loop Xi
abbrev Xj : IC := (.seq (.reg [od 4 (.mv kF)] [kp [0, 1] []]) (.seq (.seq (.reg [om 7 1, od 8 (le 0 7), od 9 (.mv (ki 0))] [kp [0, 7, 8, 9] []]) (.block 0 I3)) (.seq (.reg [om 25 0, od 26 (.bin .eql (tm 25) (ki 0)), om 4 26] [kp [4]
 []]) .ret)))
theorem Qj (h : ∀ K : St → Prop, K = run P Γ I3 Q → run P Γ Xi (An K Q) s) : run P Γ I3 Q s := Af h
def O7 : List RV := [.tmp 4]
/- probecard/memories.bit (function 123) -/
abbrev X3 : IC := (.seq (.reg [od 4 (.mv (ku 0))] [kp [0, 1] []]) (.seq (.seq (.reg [om 5 1, om 6 0, od 7 (le 0 6), od 8 (.bin .geq (tm 5) (tm 7))] [kp [0, 1, 8] []]) (.cond (tm 8) (.seq (.reg [od 4 (.mv (ku 2))] [kp [4] []]) .ret) .skip)) (.seq
 (.reg [om 9 0, om 10 1, od 11 (ia 1 9 10), od 12 (ld 1 11), od 13 (.call 114 [(tm 12)]), om 4 13] [kp [4] []]) .ret)))
def X4 : List RV := [.tmp 4]
/- probecard/memories.common (function 124) -/
abbrev Pm : IC := (.seq (.reg [od 4 (.mv (ku 0))] [kp [0, 1] []]) (.seq (.seq (.reg [om 5 0, om 6 1, od 7 (.bin .neq (tm 5) (tm 6))] [kp [0, 7] []]) (.cond (tm 7) (.seq (.reg [od 4 (.mv (ku 2))] [kp [4] []]) .ret) .skip)) (.seq (.reg [om 8 0, om 4
 8] [kp [4] []]) .ret)))
def Pn : List RV := [.tmp 4]
/- probecard/memories.Look (function 54) -/
abbrev q1h : IC := .gh (.seq (.reg [od 32 (.bin .lss (tm 31) (tm 30))] [kp [1, 5, 6, 8, 18, 19, 20, 30, 31, 32] [22030]]) (.seq (.cond (tm 32) .skip (.exit 2)) (.seq (.block 3 (.seq (.reg [om 33 31, om 9 33] [kp [1, 5, 6, 8, 9, 18, 19, 20, 30, 31]
 [22030]]) (.seq (.reg [om 34 6] [kp [1, 5, 6, 8, 9, 18, 19, 20, 30, 31, 34] [22030]]) (.cond (tm 34) (.reg [om 35 5, om 36 9, om 37 8, om 38 9, od 39 (.call 123 [(tm 37), (tm 38)]), od 40 (ia 1 35 36), on (.store 1 (tm 40) (tm
 39))] [kp [1, 5, 6, 8, 18, 19, 20, 30, 31] [22030]]) (.reg [om 41 5, om 42 9, om 43 5, om 44 9, od 45 (ia 1 43 44), od 46 (.ldR 22030 1 false (tm 45)), om 47 8, om 48 9, od 49 (.call 123 [(tm 47), (tm 48)]), od 50 (.call 124 [(tm
 46), (tm 49)]), od 51 (ia 1 41 42), on (.stR 22030 1 (tm 51) (tm 50))] [kp [1, 5, 6, 8, 18, 19, 20, 30, 31] [22030]]))))) (.reg [od 52 (.bin .add (tm 31) (ki 1)), om 31 52] [kp [1, 5, 6, 8, 18, 19, 20, 30, 31] [22030]])))) [kp [1,
 5, 6, 8, 18, 19, 20, 30, 31] [22030]]
def Na : IC := .loop q1h
abbrev q1i : IC := .gh (.seq (.reg [od 21 (.bin .lss (tm 20) (tm 19))] [kp [1, 5, 6, 18, 19, 20, 21] [22030]]) (.seq (.cond (tm 21) .skip (.exit 0)) (.seq (.block 1 (.seq (.reg [om 22 20, od 23 (ia 1 18 20), od 24 (ld 1 23), om 7 22, om 8 24] [kp [1,
 5, 6, 7, 8, 18, 19, 20] [22030]]) (.seq (.seq (.reg [om 25 7, om 26 1, od 27 (.call 122 [(tm 25), (tm 26)]), od 28 (.un .not (tm 27))] [kp [1, 5, 6, 8, 18, 19, 20, 28] [22030]]) (.cond (tm 28) (.exit 1) .skip)) (.seq (.seq (.reg
 [om 29 5, od 30 (le 0 29), od 31 (.mv (ki 0))] [kp [1, 5, 6, 8, 18, 19, 20, 30, 31] [22030]]) (.block 2 Na)) (.reg [od 6 (.mv kF)] [kp [1, 5, 6, 18, 19, 20] [22030]]))))) (.reg [od 53 (.bin .add (tm 20) (ki 1)), om 20
 53] [kp [1, 5, 6, 18, 19, 20] [22030]])))) [kp [1, 5, 6, 18, 19, 20] [22030]]
def Nb : IC := .loop q1i
abbrev Us : IC := (.seq (.reg [od 4 (.mv kN)] [kp [0, 1] []]) (.seq (.seq (.reg [om 10 0, od 11 (le 0 10), od 12 (.bin .eql (tm 11) (ki 0))] [kp [0, 1, 12] []]) (.cond (tm 12) (.seq (.reg [od 4 (.mv kN)] [kp [4] [22030]]) .ret) .skip)) (.seq (.reg
 [om 13 0, od 14 (.iadr 1 (tm 13) (ki 0)), od 15 (ld 1 14), od 16 (le 0 15), od 17 (.ncall 76 [(tm 16)] 17000), om 5 17] [kp [0, 1, 5] [22030]]) (.seq (.reg [od 6 (.mv kT)] [kp [0, 1, 5, 6] [22030]]) (.seq (.seq (.reg [om 18 0, od
 19 (le 0 18), od 20 (.mv (ki 0))] [kp [1, 5, 6, 18, 19, 20] [22030]]) (.block 0 Nb)) (.seq (.reg [om 54 5, om 4 54] [kp [4] [22030]]) .ret))))))
theorem W6 (h : ∀ K : St → Prop, K = run P Γ Na Q → run P Γ q1h (An K Q) s) : run P Γ Na Q s := Af h
theorem W7 (h : ∀ K : St → Prop, K = run P Γ Nb Q → run P Γ q1i (An K Q) s) : run P Γ Nb Q s := Af h
def Ut : List RV := [.tmp 4]
/- probecard/memories.Store (function 55) -/
abbrev q0a : IC := .gh (.seq (.reg [od 51 (.bin .lss (tm 50) (tm 49))] [kp [1, 2, 3, 9, 10, 11, 12, 26, 27, 28, 49, 50, 51] [25, 37]]) (.seq (.cond (tm 51) .skip (.exit 2)) (.seq (.block 3 (.seq (.reg [om 52 50, om 13 52] [kp [1, 2, 3, 9, 10, 11, 12,
 13, 26, 27, 28, 49, 50] [25, 37]]) (.seq (.reg [om 53 12, om 54 13, od 55 (.call 123 [(tm 53), (tm 54)]), om 56 2, om 57 13, od 58 (.call 123 [(tm 56), (tm 57)]), om 14 55, om 15 58] [kp [1, 2, 3, 9, 10, 11, 12, 13, 14, 15, 26, 27,
 28, 49, 50] [25, 37]]) (.block 4 (.seq (.reg [om 69 3, od 70 (.bin .eql (tm 69) (ku 0)), om 71 70, oF 72 (.mv (tm 11)) 71, oF 73 (.mv (tm 1)) 71, oF 74 (.call 122 [(tm 72), (tm 73)]) 71, oF 75 (.un .not (tm 74)) 71, od 76 (.pick
 (tm 71) kT (tm 75)), om 68 76] [kp [1, 2, 3, 9, 10, 11, 12, 13, 14, 15, 26, 27, 28, 49, 50, 68] [25, 37]]) (.cond (tm 68) (.reg [om 77 10, om 78 11, od 79 (ia 1 77 78), od 80 (ld 1 79), om 81 13, om 82 14, od 83 (ia 1 80 81), on
 (.store 1 (tm 83) (tm 82))] [kp [1, 2, 3, 9, 10, 11, 12, 26, 27, 28, 49, 50] [25, 37]]) (.seq (.reg [om 85 9, om 84 85] [kp [1, 2, 3, 9, 10, 11, 12, 13, 14, 15, 26, 27, 28, 49, 50, 84] [25, 37]]) (.cond (tm 84) (.reg [om 86 10, om
 87 11, od 88 (ia 1 86 87), od 89 (ld 1 88), om 90 13, om 91 15, od 92 (ia 1 89 90), on (.store 1 (tm 92) (tm 91))] [kp [1, 2, 3, 9, 10, 11, 12, 26, 27, 28, 49, 50] [25, 37]]) (.reg [om 59 10, om 60 11, od 61 (ia 1 59 60), od 62
 (.ldR 25 1 false (tm 61)), om 63 13, om 64 14, om 65 15, od 66 (.call 124 [(tm 64), (tm 65)]), od 67 (ia 1 62 63), on (.stR 37 1 (tm 67) (tm 66))] [kp [1, 2, 3, 9, 10, 11, 12, 26, 27, 28, 49, 50] [25, 37]]))))))))) (.reg [od 93
 (.bin .add (tm 50) (ki 1)), om 50 93] [kp [1, 2, 3, 9, 10, 11, 12, 26, 27, 28, 49, 50] [25, 37]])))) [kp [1, 2, 3, 9, 10, 11, 12, 26, 27, 28, 49, 50] [25, 37]]
def Kw : IC := .loop q0a
abbrev q0b : IC := .gh (.seq (.reg [od 29 (.bin .lss (tm 28) (tm 27))] [kp [1, 2, 3, 9, 10, 26, 27, 28, 29] [25, 37]]) (.seq (.cond (tm 29) .skip (.exit 0)) (.seq (.block 1 (.seq (.reg [om 30 28, od 31 (ia 1 26 28), od 32 (ld 1 31), om 11 30, om 12
 32] [kp [1, 2, 3, 9, 10, 11, 12, 26, 27, 28] [25, 37]]) (.seq (.reg [om 33 10, om 34 11, om 35 12, od 36 (le 0 35), od 37 (.mk 64 1 [(.int .u8 0)] (tm 36) (tm 36)), od 38 (ia 1 33 34), on (.store 1 (tm 38) (tm 37))] [kp [1, 2, 3,
 9, 10, 11, 12, 26, 27, 28] [25, 37]]) (.seq (.reg [om 39 10, om 40 11, od 41 (ia 1 39 40), od 42 (ld 1 41), om 43 12, od 44 (.cpy 1 (tm 42) (tm 43))] [kp [1, 2, 3, 9, 10, 11, 12, 26, 27, 28] [25, 37]]) (.seq (.reg [om 45 10, om 46
 11, od 47 (ia 1 45 46), od 48 (ld 1 47), od 49 (le 0 48), od 50 (.mv (ki 0))] [kp [1, 2, 3, 9, 10, 11, 12, 26, 27, 28, 49, 50] [25, 37]]) (.block 2 Kw)))))) (.reg [od 94 (.bin .add (tm 28) (ki 1)), om 28 94] [.frz
 37, kp [1, 2, 3, 9, 10, 26, 27, 28] [25, 37]])))) [kp [1, 2, 3, 9, 10, 26, 27, 28] [25, 37]]
def Kx : IC := .loop q0b
abbrev Rr : IC := (.seq (.reg [od 8 (.mv kN)] [kp [0, 1, 2, 3] []]) (.seq (.reg [om 16 3, od 17 (.bin .eql (tm 16) (ku 1)), om 18 17, oT 19 (.mv (tm 1)) 18, oT 20 (.call 100 [(tm 19), (.func 125)]) 18, oT 21 (.un .not (tm 20)) 18, od 22 (.pick (tm
 18) (tm 21) kF), om 9 22] [kp [0, 1, 2, 3, 9] []]) (.seq (.reg [om 23 0, od 24 (le 0 23), od 25 (.mkB 41 [(.slice none 0 0)] (tm 24) (tm 24)), om 10 25] [kp [0, 1, 2, 3, 9, 10] [25, 37]]) (.seq (.seq (.reg [om 26 0, od 27 (le 0
 26), od 28 (.mv (ki 0))] [kp [1, 2, 3, 9, 10, 26, 27, 28] [25, 37]]) (.block 0 Kx)) (.seq (.reg [om 95 10, om 8 95] [kp [8] [25, 37]]) .ret)))))
theorem U1 (h : ∀ K : St → Prop, K = run P Γ Kw Q → run P Γ q0a (An K Q) s) : run P Γ Kw Q s := Af h
theorem U2 (h : ∀ K : St → Prop, K = run P Γ Kx Q → run P Γ q0b (An K Q) s) : run P Γ Kx Q s := Af h
def Rt : List RV := [.tmp 8]
/- probecard/memories.Store$1 (function 125) -/
abbrev Xk : IC := (.seq (.reg [od 2 (.mv kF)] [kp [0] []]) (.seq (.reg [om 3 0, od 4 (.call 29 [(tm 3)]), od 5 (.un .not (tm 4)), om 2 5] [kp [2] []]) .ret))
def Xl : List RV := [.tmp 2]
/- probecard/memories.unknown (function 76) -/
abbrev Lt : IC := .gh (.seq (.reg [od 14 (.bin .lss (tm 13) (tm 12))] [kp [2, 5, 11, 12, 13, 14] [10]]) (.seq (.cond (tm 14) .skip (.exit 0)) (.seq (.block 1 (.seq (.reg [od 15 (ia 1 11 13), od 16 (ld 1 15), om 7 16] [kp [2, 5, 7, 11, 12, 13] [10]])
 (.reg [om 17 5, od 18 (fa 4 2), od 19 (ld 1 18), om 20 7, od 21 (ia 1 19 20), od 22 (ld 1 21), od 23 (.bsl true 64 1 [(tm 22)]), oz 24 (.app false 64 1 (tm 17) (tm 23)) 10, om 5 24] [kp [2, 5, 11, 12, 13] [10]]))) (.reg [od 25
 (.bin .add (tm 13) (ki 1)), om 13 25] [kp [2, 5, 11, 12, 13] [10]])))) [kp [2, 5, 11, 12, 13] [10]]
def Ea : IC := .loop Lt
abbrev Lu : IC := (.seq (.reg [od 2 (.box true (tm 0)), od 4 (.mv kN)] [kp [1, 2] []]) (.seq (.reg [om 8 1, od 9 (le 0 8), od 10 (.mk 64 1 [(.int .u8 0)] (ki 0) (tm 9)), om 5 10] [kp [1, 2, 5] [10]]) (.seq (.seq (.reg [om 11 1, od 12 (le 0 11), od
 13 (.mv (ki 0))] [kp [2, 5, 11, 12, 13] [10]]) (.block 0 Ea)) (.seq (.reg [om 26 5, om 4 26] [kp [4] [10]]) .ret))))
theorem Ie (h : ∀ K : St → Prop, K = run P Γ Ea Q → run P Γ Lt (An K Q) s) : run P Γ Ea Q s := Af h
def Lx : List RV := [.tmp 4]
/- (probecard/memories.machine).load (function 46) -/
abbrev Om : IC := .gh (.seq (.reg [od 17 (.bin .lss (tm 16) (tm 15))] [kp [2, 3, 4, 14, 15, 16, 17] [3, 1000000]]) (.seq (.cond (tm 17) .skip (.exit 0)) (.seq (.block 1 (.seq (.reg [om 18 16, od 19 (ia 1 14 16), od 20 (ld 1 19), om 6 18, om 7 20]
 [kp [2, 3, 4, 6, 7, 14, 15, 16] [3, 1000000]]) (.reg [od 21 (fa 4 3), od 22 (.ldR 3 1 false (tm 21)), om 23 7, om 24 2, om 25 6, od 26 (ia 1 24 25), od 27 (.ldT 1 false (tm 26)), od 28 (ia 1 22 23), on (.stR 1000000 1 (tm 28) (tm
 27))] [kp [2, 3, 4, 14, 15, 16] [3, 1000000]]))) (.reg [od 29 (.bin .add (tm 16) (ki 1)), om 16 29] [kp [2, 3, 4, 14, 15, 16] [3, 1000000]])))) [kp [2, 3, 4, 14, 15, 16] [3, 1000000]]
def Ey : IC := .loop Om
abbrev On : IC := .gh (.seq (.reg [od 35 (.bin .lss (tm 34) (tm 33))] [kp [3, 4, 32, 33, 34, 35] [3, 1000000]]) (.seq (.cond (tm 35) .skip (.exit 2)) (.seq (.block 3 (.seq (.reg [om 36 34, od 37 (ia 1 32 34), od 38 (ld 1 37), om 8 36, om 9 38] [kp
 [3, 4, 8, 9, 32, 33, 34] [3, 1000000]]) (.reg [od 39 (fa 4 3), od 40 (.ldR 3 1 false (tm 39)), om 41 9, od 42 (fa 0 4), od 43 (.ldT 1 false (tm 42)), om 44 8, od 45 (ia 1 43 44), od 46 (.ldT 1 false (tm 45)), od 47 (ia 1 40 41), on
 (.stR 1000000 1 (tm 47) (tm 46))] [kp [3, 4, 32, 33, 34] [3, 1000000]]))) (.reg [od 48 (.bin .add (tm 34) (ki 1)), om 34 48] [kp [3, 4, 32, 33, 34] [3, 1000000]])))) [kp [3, 4, 32, 33, 34] [3, 1000000]]
def Ez : IC := .loop On
abbrev Oo : IC := .gh (.seq (.reg [od 55 (.bin .lss (tm 54) (tm 53))] [kp [3, 4, 52, 53, 54, 55] [3, 1000000]]) (.seq (.cond (tm 55) .skip (.exit 4)) (.seq (.block 5 (.seq (.reg [od 56 (ia 1 52 54), od 57 (ld 1 56), om 11 57] [kp [3, 4, 11, 52, 53,
 54] [3, 1000000]]) (.reg [od 58 (fa 4 3), od 59 (.ldR 3 1 false (tm 58)), om 60 11, od 61 (fa 2 4), od 62 (.ldT 1 false (tm 61)), od 63 (fa 0 3), od 64 (fa 0 63), od 65 (.ldR 3 1 false (tm 64)), om 66 11, od 67 (ia 4 65 66), od 68
 (fa 2 67), od 69 (.ldT 1 false (tm 68)), od 70 (ia 1 62 69), od 71 (.ldT 1 false (tm 70)), od 72 (fa 0 3), od 73 (fa 0 72), od 74 (.ldR 3 1 false (tm 73)), om 75 11, od 76 (ia 4 74 75), od 77 (fa 3 76), od 78 (.ldT 1 false (tm
 77)), od 79 (ia 1 71 78), od 80 (.ldT 1 false (tm 79)), od 81 (ia 1 59 60), on (.stR 1000000 1 (tm 81) (tm 80))] [kp [3, 4, 52, 53, 54] [3, 1000000]]))) (.reg [od 82 (.bin .add (tm 54) (ki 1)), om 54 82] [kp [3, 4, 52, 53, 54] [3,
 1000000]])))) [kp [3, 4, 52, 53, 54] [3, 1000000]]
def F2 : IC := .loop Oo
abbrev Oq : IC := (.seq (.reg [od 3 (.box false (tm 0)), od 4 (.box true (tm 1))] [kp [2, 3, 4] [3, 1000000]]) (.seq (.seq (.reg [od 12 (fa 0 3), od 13 (lG 4 12), od 14 (.call 97 [(tm 13)]), od 15 (le 0 14), od 16 (.mv (ki 0))] [kp [2, 3, 4, 14, 15,
 16] [3, 1000000]]) (.block 0 Ey)) (.seq (.seq (.reg [od 30 (fa 0 3), od 31 (lG 4 30), od 32 (.call 31 [(tm 31)]), od 33 (le 0 32), od 34 (.mv (ki 0))] [kp [3, 4, 32, 33, 34] [3, 1000000]]) (.block 2
 Ez)) (.seq (.reg [od 49 (fa 0 3), od 50 (lG 4 49), od 51 (.bsl true 80 1 [(ku 15)]), od 52 (.call 90 [(tm 50), (tm 51)]), od 53 (le 0 52), od 54 (.mv (ki 0))] [kp [3, 4, 52, 53, 54] [3, 1000000]]) (.gh (.block
 4 F2) [.keep [] [1000000]])))))
theorem Jn (h : ∀ K : St → Prop, K = run P Γ Ey Q → run P Γ Om (An K Q) s) : run P Γ Ey Q s := Af h
theorem Jo (h : ∀ K : St → Prop, K = run P Γ Ez Q → run P Γ On (An K Q) s) : run P Γ Ez Q s := Af h
theorem Jp (h : ∀ K : St → Prop, K = run P Γ F2 Q → run P Γ Oo (An K Q) s) : run P Γ F2 Q s := Af h
def Ot : List RV := []
/- probecard/memories.lists (function 109) -/
abbrev q0c : IC := .gh (.seq (.reg [od 16 (.bin .lss (tm 15) (tm 14))] [kp [3, 13, 14, 15, 16] [11]]) (.seq (.cond (tm 16) .skip (.exit 0)) (.seq (.block 1 (.seq (.reg [od 17 (ia 1 13 15), od 18 (ld 1 17), om 5 18] [kp [3, 5, 13, 14, 15] [11]]) (.reg
 [om 19 3, om 20 5, oz 21 (.app false 41 1 (tm 19) (tm 20)) 11, om 3 21] [kp [3, 13, 14, 15] [11]]))) (.reg [od 22 (.bin .add (tm 15) (ki 1)), om 15 22] [kp [3, 13, 14, 15] [11]])))) [kp [3, 13, 14, 15] [11]]
def Ky : IC := .loop q0c
abbrev q0d : IC := (.seq (.reg [od 1 (.box true (tm 0)), od 2 (.mv kN)] [kp [1] []]) (.seq (.reg [od 6 (fa 0 1), od 7 (ld 1 6), od 8 (.bsl true 41 1 [(tm 7)]), od 9 (fa 2 1), od 10 (ld 1 9), od 11 (.app false 41 1 (tm 8) (tm 10)), om 3 11] [kp [1, 3]
 [11]]) (.seq (.seq (.reg [od 12 (fa 1 1), od 13 (ld 1 12), od 14 (le 0 13), od 15 (.mv (ki 0))] [kp [3, 13, 14, 15] [11]]) (.block 0 Ky)) (.seq (.reg [om 23 3, om 2 23] [kp [2] [11]]) .ret))))
theorem U3 (h : ∀ K : St → Prop, K = run P Γ Ky Q → run P Γ q0c (An K Q) s) : run P Γ Ky Q s := Af h
def q0e : List RV := [.tmp 2]
/- probecard/memories.lists (function 109) -/
abbrev Zl : IC := .gh (.seq (.reg [od 16 (.bin .lss (tm 15) (tm 14))] [kp [3, 13, 14, 15, 16] [21]]) (.seq (.cond (tm 16) .skip (.exit 0)) (.seq (.block 1 (.seq (.reg [od 17 (ia 1 13 15), od 18 (ld 1 17), om 5 18] [kp [3, 5, 13, 14, 15] [21]]) (.reg
 [om 19 3, om 20 5, od 21 (.app false 41 1 (tm 19) (tm 20)), om 3 21] [kp [3, 13, 14, 15] [21]]))) (.reg [od 22 (.bin .add (tm 15) (ki 1)), om 15 22] [kp [3, 13, 14, 15] [21]])))) [kp [3, 13, 14, 15] [21]]
def Po : IC := .loop Zl
abbrev Zm : IC := (.seq (.reg [od 1 (.box true (tm 0)), od 2 (.mv kN)] [kp [1] []]) (.seq (.reg [od 6 (fa 0 1), od 7 (ld 1 6), od 8 (.bsl true 41 1 [(tm 7)]), od 9 (fa 2 1), od 10 (ld 1 9), od 11 (.appT 41 1 (tm 8) (tm 10)), om 3 11] [kp [1, 3]
 [21]]) (.seq (.seq (.reg [od 12 (fa 1 1), od 13 (ld 1 12), od 14 (le 0 13), od 15 (.mv (ki 0))] [kp [3, 13, 14, 15] [21]]) (.block 0 Po)) (.seq (.reg [om 23 3, om 2 23] [kp [2] [21]]) .ret))))
theorem q2U (h : ∀ K : St → Prop, K = run P Γ Po Q → run P Γ Zl (An K Q) s) : run P Γ Po Q s := Af h
def Zn : List RV := [.tmp 2]
/- probecard/memories.unknown (function 76) -/
abbrev W8 : IC := (.seq (.reg [od 2 (.mv kN)] [kp [0] []]) (.seq (.reg [od 3 (.bsl true 64 1 [(ku 2)]), om 4 0, od 5 (.ncall 140 [(tm 3), (tm 4)] 5000), om 2 5] [kp [2] [5030]]) .ret))
def W9 : List RV := [.tmp 2]
/- probecard/memories.fits (function 108) -/
abbrev q1j : IC := .gh (.seq (.reg [od 37 (.bin .lss (tm 36) (tm 35))] [kp [3, 34, 35, 36, 37] []]) (.seq (.cond (tm 37) .skip (.exit 0)) (.seq (.block 1 (.seq (.reg [om 38 36, od 39 (ia 3 34 36), od 40 (lG 3 39), od 6 (.alloc false [(.slice none 0
 0), (.slice none 0 0), (.int .i64 0)]), om 5 38, on (.store 3 (tm 6) (tm 40))] [kp [3, 5, 6, 34, 35, 36] [6]]) (.seq (.reg [od 41 (.mkf 152 [(tm 6)]), om 7 41] [kp [3, 5, 6, 7, 34, 35, 36] [6]]) (.seq (.reg [od 42 (fa 1 3), od 43
 (ld 1 42), om 44 5, od 45 (ia 1 43 44), od 46 (ld 1 45), od 47 (le 0 46), od 48 (fa 0 6), od 49 (ld 1 48), od 50 (le 0 49), od 51 (.bin .shl (ki 1) (tm 50)), od 52 (.bin .neq (tm 47) (tm 51)), om 53 52, oF 54 (.mv (tm 7)) 53, oF 55
 (fa 2 3) 53, oF 56 (ld 1 55) 53, oF 57 (.mv (tm 5)) 53, oF 58 (ia 1 56 57) 53, oF 59 (ld 1 58) 53, oF 60 (.callv (tm 54) [(tm 59)]) 53, od 61 (.pick (tm 53) kT (tm 60)), om 62 61, oF 63 (fa 1 3) 62, oF 64 (ld 1 63) 62, oF 65 (.mv
 (tm 5)) 62, oF 66 (ia 1 64 65) 62, oF 67 (ld 1 66) 62, oF 68 (.mv (tm 7)) 62, oF 69 (.call 102 [(tm 67), (tm 68)]) 62, od 70 (.pick (tm 62) kT (tm 69))] [kp [3, 34, 35, 36, 70] []]) (.cond (tm 70) (.seq (.reg [od 4 (.mv kF)] [kp
 [4] []]) .ret) .skip))))) (.reg [od 71 (.bin .add (tm 36) (ki 1)), om 36 71] [kp [3, 34, 35, 36] []])))) [kp [3, 34, 35, 36] []]
def Nc : IC := .loop q1j
abbrev q1k : IC := (.seq (.reg [od 2 (.box true (tm 0)), od 3 (.box true (tm 1)), od 4 (.mv kF)] [kp [2, 3] []]) (.seq (.seq (.reg [od 8 (fa 0 3), od 9 (ld 1 8), od 10 (le 0 9), od 11 (lG 4 2), od 12 (.call 31 [(tm 11)]), od 13 (le 0 12), od 14 (.bin
 .neq (tm 10) (tm 13)), om 15 14, oF 16 (fa 1 3) 15, oF 17 (ld 1 16) 15, oF 18 (le 0 17) 15, oF 19 (fa 2 2) 15, oF 20 (ld 1 19) 15, oF 21 (le 0 20) 15, oF 22 (.bin .neq (tm 18) (tm 21)) 15, od 23 (.pick (tm 15) kT (tm 22)), om 24
 23, oF 25 (fa 2 3) 24, oF 26 (ld 1 25) 24, oF 27 (le 0 26) 24, oF 28 (fa 2 2) 24, oF 29 (ld 1 28) 24, oF 30 (le 0 29) 24, oF 31 (.bin .neq (tm 27) (tm 30)) 24, od 32 (.pick (tm 24) kT (tm 31))] [kp [2, 3, 32] []]) (.cond (tm 32)
 (.seq (.reg [od 4 (.mv kF)] [kp [4] []]) .ret) .skip)) (.seq (.seq (.reg [od 33 (fa 2 2), od 34 (ld 1 33), od 35 (le 0 34), od 36 (.mv (ki 0))] [kp [3, 34, 35, 36] []]) (.block 0 Nc)) (.seq (.reg [od 4 (.mv kT)] [kp
 [4] []]) .ret))))
theorem Wa (h : ∀ K : St → Prop, K = run P Γ Nc Q → run P Γ q1j (An K Q) s) : run P Γ Nc Q s := Af h
def q1l : List RV := [.tmp 4]
/- probecard/memories.fits$1 (function 152) -/
abbrev Zo : IC := (.seq (.reg [od 3 (.mv kF)] [kp [0, 1] []]) (.seq (.reg [om 4 0, od 5 (le 0 4), od 6 (fa 1 1), od 7 (ld 1 6), od 8 (le 0 7), od 9 (.bin .neq (tm 5) (tm 8)), om 3 9] [kp [3] []]) .ret))
def Zp : List RV := [.tmp 3]
/- probecard/memories.Check (function 45) -/
abbrev q0f : IC := (.seq (.reg [od 3 (.box true (tm 0)), od 4 (.box true (tm 1)), od 6 (.mv (ki 0))] [kp [2, 3, 4] []]) (.seq (.seq (.reg [od 10 (lG 4 3), od 11 (.call 32 [(tm 10)]), om 7 11] [kp [2, 3, 4, 7] []]) (.seq (.reg [om 12 7, od 13 (.bin
 .neq (tm 12) (ki 0))] [kp [2, 3, 4, 7, 13] []]) (.cond (tm 13) (.seq (.reg [om 14 7, om 6 14] [kp [6] []]) .ret) .skip))) (.seq (.reg [od 8 (.alloc false [.nilFunc]), on (.store 1 (tm 8) (.func 105))] [kp [2, 3, 4, 8] [8]]) (.seq
 (.reg [od 15 (.mkf 107 [(tm 8)]), om 9 15] [kp [2, 3, 4, 8, 9] [8]]) (.seq (.block 0 (.seq (.reg [om 17 2, od 18 (le 0 17), od 19 (lG 4 3), od 20 (.call 97 [(tm 19)]), od 21 (le 0 20), od 22 (.bin .neq (tm 18) (tm 21)), om 23 22,
 oF 24 (lG 4 3) 23, oF 25 (lG 3 4) 23, oF 26 (.call 108 [(tm 24), (tm 25)]) 23, oF 27 (.un .not (tm 26)) 23, od 28 (.pick (tm 23) kT (tm 27)), om 16 28] [kp [2, 4, 8, 9, 16] [8]]) (.cond (tm 16) (.seq (.reg [od 6 (.mv (ki 8))] [kp
 [6] []]) .ret) (.seq (.reg [om 30 2, od 31 (ld 1 8), od 32 (.callv (tm 31) [(ku 3)]), od 33 (.call 100 [(tm 30), (tm 32)]), om 34 33, oF 35 (lG 3 4) 34, oF 36 (.call 109 [(tm 35)]) 34, oF 37 (.mv (tm 9)) 34, oF 38 (.call 102 [(tm
 36), (tm 37)]) 34, od 39 (.pick (tm 34) kT (tm 38)), om 29 39] [kp [29] []]) (.cond (tm 29) (.seq (.reg [od 6 (.mv (ki 1))] [kp [6] []]) .ret) .skip))))) (.seq (.reg [od 6 (.mv (ki 0))] [kp [6] []]) .ret))))))
def q0g : List RV := [.tmp 6]
/- probecard/memories.Check$1 (function 105) -/
abbrev Xm : IC := (.seq (.reg [od 1 (.box true (tm 0)), od 2 (.mv (.const .nilFunc))] [kp [1] []]) (.seq (.reg [od 3 (.mkf 106 [(tm 1)]), om 2 3] [kp [2] []]) .ret))
def Xn : List RV := [.tmp 2]
/- probecard/memories.Check$1$1 (function 106) -/
abbrev U4 : IC := (.seq (.reg [od 3 (.mv kF)] [kp [0, 1] []]) (.seq (.reg [om 4 0, od 5 (ld 1 1), od 6 (.bin .gtr (tm 4) (tm 5)), om 3 6] [kp [3] []]) .ret))
def U5 : List RV := [.tmp 3]
/- probecard/memories.Check$2 (function 107) -/
abbrev Xo : IC := (.seq (.reg [od 3 (.mv kF)] [kp [0, 1] []]) (.seq (.reg [om 4 0, od 5 (ld 1 1), od 6 (.callv (tm 5) [(ku 2)]), od 7 (.call 100 [(tm 4), (tm 6)]), om 3 7] [kp [3] []]) .ret))
def Xp : List RV := [.tmp 3]
/- probecard/memories.Cycle (function 13) -/
abbrev q0h : IC := .gh (.seq (.reg [od 49 (.bin .lss (tm 48) (tm 47))] [kp [3, 4, 6, 7, 11, 46, 47, 48, 49] [6, 7, 11, 35, 105, 127]]) (.seq (.cond (tm 49) .skip (.exit 0)) (.seq (.block 1 (.seq (.reg [od 50 (ia 1 46 48), od 51 (ld 1 50), om 15 51]
 [kp [3, 4, 6, 7, 11, 15, 46, 47, 48] [6, 7, 11, 35, 105, 127]]) (.seq (.reg [od 52 (fa 0 11), od 53 (fa 0 52), od 54 (ld 1 53), om 55 15, od 56 (ia 4 54 55), od 57 (lG 4 56), od 16 (.alloc false [(.int .u8 0), (.slice none 0 0),
 (.int .i64 0), (.int .i64 0)]), on (.store 4 (tm 16) (tm 57))] [kp [3, 4, 6, 7, 11, 15, 16, 46, 47, 48] [6, 7, 11, 16, 35, 105, 127]]) (.seq (.reg [od 58 (fa 0 16), od 59 (ld 1 58), od 60 (.call 48 [(tm 59)])] [kp [3, 4, 6, 7, 11,
 15, 16, 46, 47, 48, 60] [6, 7, 11, 16, 35, 105, 127]]) (.cond (tm 60) (.reg [od 61 (fa 4 11), od 62 (.ldR 11 1 false (tm 61)), om 63 15, od 64 (fa 0 16), od 65 (.ldR 16 1 false (tm 64)), od 66 (.ldR 11 5 true (tm 11)), od 67 (fa 1
 16), od 68 (.ldR 16 1 false (tm 67)), od 69 (.call 50 [(tm 66), (tm 68)]), od 70 (.call 49 [(tm 65), (tm 69)]), od 71 (ia 1 62 63), on (.stR 35 1 (tm 71) (tm 70))] [kp [3, 4, 6, 7, 11, 46, 47, 48] [6, 7, 11, 35, 105, 127]])
 .skip))))) (.reg [od 72 (.bin .add (tm 48) (ki 1)), om 48 72] [kp [3, 4, 6, 7, 11, 46, 47, 48] [6, 7, 11, 35, 105, 127]])))) [kp [3, 4, 6, 7, 11, 46, 47, 48] [6, 7, 11, 35, 105, 127]]
def Kz : IC := .loop q0h
abbrev q0i : IC := .gh (.seq (.reg [od 87 (.bin .lss (tm 86) (tm 85))] [kp [4, 6, 7, 11, 17, 18, 84, 85, 86, 87] [6, 7, 11, 17, 18, 35, 105, 127]]) (.seq (.cond (tm 87) .skip (.exit 2)) (.seq (.block 3 (.seq (.reg [om 88 86, od 89 (ia 3 84 86), od 90
 (lG 3 89), od 20 (.alloc false [(.slice none 0 0), (.slice none 0 0), (.int .i64 0)]), om 19 88, on (.store 3 (tm 20) (tm 90))] [kp [4, 6, 7, 11, 17, 18, 19, 20, 84, 85, 86] [6, 7, 11, 17, 18, 20, 35, 105, 127]]) (.seq (.reg [od 91
 (lG 5 11), od 92 (fa 0 20), od 93 (ld 1 92), od 94 (.call 50 [(tm 91), (tm 93)]), om 21 94] [kp [4, 6, 7, 11, 17, 18, 19, 20, 21, 84, 85, 86] [6, 7, 11, 17, 18, 20, 35, 105, 127]]) (.seq (.reg [od 95 (fa 2 18), od 96 (.ldR 18 1
 false (tm 95)), od 97 (fa 1 4), od 98 (.ldT 1 false (tm 97)), om 99 19, od 100 (ia 1 98 99), od 101 (.ldT 1 false (tm 100)), om 102 21, od 103 (.call 54 [(tm 101), (tm 102)]), od 104 (.bsl true 41 1 [(tm 103)]), od 105 (.app false
 41 1 (tm 96) (tm 104)), od 106 (fa 2 18), on (.stR 18 1 (tm 106) (tm 105))] [kp [4, 6, 7, 11, 17, 18, 19, 20, 21, 84, 85, 86] [6, 7, 11, 17, 18, 20, 35, 105, 127]]) (.reg [od 107 (fa 1 18), od 108 (.ldR 18 1 false (tm 107)), od 109
 (fa 1 4), od 110 (.ldT 1 false (tm 109)), om 111 19, od 112 (ia 1 110 111), od 113 (.ldT 1 false (tm 112)), om 114 21, od 115 (.ldR 11 5 true (tm 11)), od 116 (fa 1 20), od 117 (.ldR 20 1 false (tm 116)), od 118 (.call 50 [(tm
 115), (tm 117)]), od 119 (fa 4 11), od 120 (.ldR 11 1 false (tm 119)), od 121 (fa 2 20), od 122 (.ldR 20 1 false (tm 121)), od 123 (ia 1 120 122), od 124 (.ldT 1 false (tm 123)), od 125 (.call 55 [(tm 113), (tm 114), (tm 118), (tm
 124)]), od 126 (.bsl true 43 1 [(tm 125)]), od 127 (.app false 43 1 (tm 108) (tm 126)), od 128 (fa 1 18), on (.stR 18 1 (tm 128) (tm 127))] [kp [4, 6, 7, 11, 17, 18, 84, 85, 86] [6, 7, 11, 17, 18, 35, 105, 127]]))))) (.reg [od 129
 (.bin .add (tm 86) (ki 1)), om 86 129] [kp [4, 6, 7, 11, 17, 18, 84, 85, 86] [6, 7, 11, 17, 18, 35, 105, 127]])))) [kp [4, 6, 7, 11, 17, 18, 84, 85, 86] [6, 7, 11, 17, 18, 35, 105, 127]]
def L0 : IC := .loop q0i
abbrev q0j : IC := (.seq (.reg [od 3 (.box true (tm 0)), od 4 (.box true (tm 1)), od 6 (.alloc false [(.slice none 0 0), (.slice none 0 0), (.slice none 0 0)]), od 7 (.alloc false [(.slice none 0 0), (.slice none 0 0)]), od 8 (.mv kN), od 9 (.mv (ki
 0))] [kp [2, 3, 4, 6, 7] [6, 7, 105, 127]]) (.seq (.seq (.reg [od 22 (lG 4 3), od 23 (lG 3 4), om 24 2, od 25 (.call 45 [(tm 22), (tm 23), (tm 24)]), om 10 25] [kp [2, 3, 4, 6, 7, 10] [6, 7, 105, 127]]) (.seq (.reg [om 26 10, od 27
 (.bin .neq (tm 26) (ki 0))] [kp [2, 3, 4, 6, 7, 10, 27] [6, 7, 105, 127]]) (.cond (tm 27) (.seq (.reg [od 28 (.build [(1, kN), (1, kN), (1, kN)]), od 29 (.build [(1, kN), (1, kN)]), om 30 10, on (.store 3 (tm 6) (tm 28)), on
 (.store 2 (tm 7) (tm 29)), od 8 (.mv kN), om 9 30] [kp [6, 7, 8, 9] [6, 7, 35, 105, 127]]) .ret) .skip))) (.seq (.reg [od 31 (.ldT 4 true (tm 3)), od 32 (fa 0 3), od 33 (.ldT 1 false (tm 32)), od 34 (le 0 33), od 35 (.mkE 64 1
 [(.int .u8 0)] (tm 34) (tm 34)), od 36 (.build [(4, (tm 31)), (1, (tm 35))]), od 11 (.alloc false [(.slice none 0 0), (.slice none 0 0), (.slice none 0 0), (.slice none 0 0), (.slice none 0 0)]), on (.stR 11 5 (tm 11) (tm 36))] [kp
 [2, 3, 4, 6, 7, 11] [6, 7, 11, 35, 105, 127]]) (.seq (.reg [od 37 (lG 5 11), od 38 (lG 3 4), om 39 2, od 40 (.hcall 46 [(tm 37), (tm 38), (tm 39)] [35] 40000)] [kp [3, 4, 6, 7, 11] [6, 7, 11, 35, 105, 127]]) (.seq (.reg [od 42 (lG
 4 3), od 43 (.call 47 [(tm 42)]), om 41 43, od 44 (ex 41 0), od 45 (ex 41 1), om 12 44, om 13 45] [kp [3, 4, 6, 7, 11, 12] [6, 7, 11, 35, 105, 127]]) (.seq (.seq (.reg [om 46 12, od 47 (le 0 46), od 48 (.mv (ki 0))] [kp [3, 4, 6,
 7, 11, 46, 47, 48] [6, 7, 11, 35, 105, 127]]) (.gh (.block 0 Kz) [.frz 35])) (.seq (.reg [od 73 (lG 4 3), od 74 (fa 4 11), od 75 (ld 1 74), od 76 (.call 51 [(tm 73), (tm 75)]), od 17 (.alloc false [(.slice none 0 0),
 (.slice none 0 0)]), on (.store 2 (tm 17) (tm 76))] [kp [4, 6, 7, 11, 17] [6, 7, 11, 17, 35, 105, 127]]) (.seq (.reg [od 77 (fa 1 17), od 78 (ld 1 77), od 79 (.call 53 [(tm 78)]), od 80 (.call 52 [(tm 79)]), od 81 (.build [(1, (tm
 80)), (1, kN), (1, kN)]), od 18 (.alloc false [(.slice none 0 0), (.slice none 0 0), (.slice none 0 0)]), on (.store 3 (tm 18) (tm 81))] [.nlb 18 1 127 43 1, .nlb 18 2 105 41 1, kp [4, 6, 7, 11, 17, 18] [6, 7, 11, 17, 18, 35, 105,
 127]]) (.seq (.seq (.reg [od 82 (fa 0 11), od 83 (fa 2 82), od 84 (ld 1 83), od 85 (le 0 84), od 86 (.mv (ki 0))] [kp [4, 6, 7, 11, 17, 18, 84, 85, 86] [6, 7, 11, 17, 18, 35, 105, 127]]) (.gh (.block 2 L0) [.frz 127,
 .frz 105])) (.seq (.reg [od 130 (fa 1 18), od 131 (.ldR 18 1 false (tm 130)), od 132 (.call 56 [(tm 131)]), od 133 (fa 2 18), od 134 (.ldR 18 1 false (tm 133)), od 135 (.call 57 [(tm 134)]), od 136 (fa 1 18), on (.stR 18 1 (tm 136)
 (tm 132)), od 137 (fa 2 18), on (.stR 18 1 (tm 137) (tm 135))] [kp [6, 7, 11, 17, 18] [6, 7, 11, 17, 18, 35, 105, 127]]) (.seq (.reg [od 138 (.ldR 18 3 true (tm 18)), od 139 (.ldR 17 2 true (tm 17)), od 140 (fa 4 11), od 141 (.ldR
 11 1 false (tm 140)), on (.stR 6 3 (tm 6) (tm 138)), on (.stR 7 2 (tm 7) (tm 139)), om 8 141, od 9 (.mv (ki 0))] [kp [6, 7, 8, 9] [6, 7, 35, 105, 127]]) .ret)))))))))))
theorem U6 (h : ∀ K : St → Prop, K = run P Γ Kz Q → run P Γ q0h (An K Q) s) : run P Γ Kz Q s := Af h
theorem U7 (h : ∀ K : St → Prop, K = run P Γ L0 Q → run P Γ q0i (An K Q) s) : run P Γ L0 Q s := Af h
def q0k : List RV := [.cell 6 3 true, .cell 7 2 true, .tmp 8, .tmp 9]
/- probecard/memories.Blank (function 24) -/
abbrev Ly : IC := (.seq (.reg [od 2 (.mv kN)] [kp [0] []]) (.seq (.reg [om 3 0, om 4 0, od 5 (le 0 4), om 6 0, od 7 (le 0 6), od 8 (.slice 1 (tm 3) none (some (tm 5)) (some (tm 7))), om 2 8] [kp [2] []]) .ret))
def M1 : List RV := [.tmp 2]
/- slices.Grow[[][]probecard/api.Value,[]probecard/api.Value] (function 148) -/
abbrev Gz : IC := (.seq (.reg [od 4 (.mv kF)] [kp [0, 1] []]) (.seq (.reg [om 5 0, om 6 1, od 7 (.call 151 [(tm 5), (tm 6)]), od 8 (.bin .geq (tm 7) (ki 0)), om 4 8] [kp [4] []]) .ret))
def H2 : List RV := [.tmp 4]
/- slices.IndexFunc[[][]probecard/api.Value,[]probecard/api.Value] (function 151) -/
abbrev Ig : IC := .gh (.seq (.reg [od 9 (.bin .lss (tm 8) (tm 7))] [kp [0, 1, 7, 8, 9] []]) (.seq (.cond (tm 9) .skip (.exit 0)) (.seq (.block 1 (.seq (.reg [om 10 8, om 5 10] [kp [0, 1, 5, 7, 8] []]) (.seq (.reg [om 11 1, om 12 0, om 13 5, od 14
 (ia 1 12 13), od 15 (ld 1 14), od 16 (.callv (tm 11) [(tm 15)])] [kp [0, 1, 5, 7, 8, 16] []]) (.cond (tm 16) (.seq (.reg [om 17 5, om 4 17] [kp [4] []]) .ret) .skip)))) (.reg [od 18 (.bin .add (tm 8) (ki 1)), om 8 18] [kp [0, 1, 7,
 8] []])))) [kp [0, 1, 7, 8] []]
def Db : IC := .loop Ig
abbrev Ih : IC := (.seq (.reg [od 4 (.mv (ki 0))] [kp [0, 1] []]) (.seq (.seq (.reg [om 6 0, od 7 (le 0 6), od 8 (.mv (ki 0))] [kp [0, 1, 7, 8] []]) (.block 0 Db)) (.seq (.reg [od 4 (.mv (.const (.int .i64 (-1))))] [kp
 [4] []]) .ret)))
theorem Gq (h : ∀ K : St → Prop, K = run P Γ Db Q → run P Γ Ig (An K Q) s) : run P Γ Db Q s := Af h
def Ii : List RV := [.tmp 4]
end
end Go.Lg
namespace Go.Lg
open Go Go.Proofs
theorem q49 : Au Tryz.prog 122 Xj 27 2 O7 = true := by kernel_rfl
theorem q8P : Au Tryz.prog 123 X3 14 2 X4 = true := by kernel_rfl
theorem q59 : Au Tryz.prog 124 Pm 9 2 Pn = true := by kernel_rfl
theorem q7P : Au Tryz.prog 54 Us 55 2 Ut = true := by kernel_rfl
theorem q6V : Au Tryz.prog 55 Rr 96 4 Rt = true := by kernel_rfl
theorem q4A : Au Tryz.prog 125 Xk 6 1 Xl = true := by kernel_rfl
theorem Ye : Au Tryz.prog 50 Lu 27 2 Lx = true := by kernel_rfl
theorem q0B : Au Tryz.prog 46 Oq 83 3 Ot = true := by kernel_rfl
theorem q6W : Au Tryz.prog 109 q0d 24 1 q0e = true := by kernel_rfl
theorem q5A : Au Tryz.prog 109 Zm 24 1 Zn = true := by kernel_rfl
theorem q3I : Au Tryz.prog 76 W8 6 1 W9 = true := by kernel_rfl
theorem q7Q : Au Tryz.prog 108 q1k 72 2 q1l = true := by kernel_rfl
theorem q5B : Au Tryz.prog 152 Zo 10 2 Zp = true := by kernel_rfl
theorem q6X : Au Tryz.prog 45 q0f 40 3 q0g = true := by kernel_rfl
theorem q4B : Au Tryz.prog 105 Xm 4 1 Xn = true := by kernel_rfl
theorem q2V : Au Tryz.prog 106 U4 7 2 U5 = true := by kernel_rfl
theorem q4C : Au Tryz.prog 107 Xo 8 2 Xp = true := by kernel_rfl
theorem q6Y : Au Tryz.prog 13 q0j 142 3 q0k = true := by kernel_rfl
theorem Yf : Au Tryz.prog 56 Ly 9 1 M1 = true := by kernel_rfl
theorem Pq : Au Tryz.prog 102 Gz 9 2 H2 = true := by kernel_rfl
theorem Ti : Au Tryz.prog 151 Ih 19 2 Ii = true := by kernel_rfl
structure NG (B : Bool) (ns : List Nd) (i : Nat) (x : Nd) : Prop where
 k : 0 ≤ x.k ∧ x.k ≤ 15
 f : (O5 x.k).1 ≤ x.inn.l.length ∧ (x.inn.l.length : Int) ≤ (O5 x.k).2
 inn : ∀ p ∈ x.inn.l, 0 ≤ p ∧ p < ns.length
 top : 1 ≤ x.k ∧ x.k ≤ 13 → ∀ p ∈ x.inn.l, p < i
 bus : x.k = 13 → ∀ p ∈ x.inn.l, (ns.getD p.toNat Nd.d).k = 12
 mm : (x.k ≠ 15 → x.mem = 0 ∧ x.bit = 0) ∧ (x.k = 15 → B = true ∧ x.mem = 0 ∧ 0 ≤ x.bit ∧ x.bit ≤ 1)
theorem NG.mono {B : Bool} {ns ys : List Nd} {i : Nat} {x : Nd} (h : NG B ns i x) : NG B (ns ++ ys) i x :=
 ⟨h.k, h.f, fun p hp => by have := h.inn p hp; simp; omega, h.top, fun hk p hp => by
  have h1 := h.inn p hp
  rw [List.getD_eq_getElem?_getD, List.getElem?_append_left (by omega), ← List.getD_eq_getElem?_getD]
  exact h.bus hk p hp, h.mm⟩
def GNs (B : Bool) (ns : List Nd) : Prop := ∀ i (h : i < ns.length), NG B ns i ns[i]
theorem GNs.add {B : Bool} {ns : List Nd} {y : Nd} (h : GNs B ns) (hy : NG B (ns ++ [y]) ns.length y) : GNs B (ns ++ [y]) := by
 intro i hi
 by_cases h1 : i < ns.length
 ·rw [List.getElem_append_left h1]; exact (h i h1).mono
 ·have : i = ns.length := by simp at hi; omega
  subst this
  simpa using hy
theorem Uu : O5 0 = (0, 0) ∧ O5 1 = (0, 0) ∧ O5 2 = (0, 0) ∧ O5 3 = (1, 1) ∧ O5 4 = (1, 1) ∧ O5 5 = (2, 16) ∧ O5 6 = (2, 16) ∧ O5 7 = (2, 16) ∧ O5 8 = (2, 16) ∧ O5 9 = (2, 16) ∧ O5 10 = (2, 16) ∧ O5 11 = (3, 3) ∧ O5 12 = (2, 2) ∧ O5 13 = (1, 16) ∧ O5 14 = (1, 1) ∧ O5 15 = (0, 0) := by decide
theorem qM3 {B : Bool} {ns : List Nd} {i : Nat} : NG B ns i q9L := ⟨by decide, by decide, by simp [q9L], by simp [q9L], by simp [q9L], by simp [q9L]⟩
theorem qM4 {B : Bool} {ns : List Nd} {i : Nat} {v : Int} (h : 0 ≤ v ∧ v < ns.length) : NG B ns i (q8H v) := ⟨by simp [q8H], by simp [q8H, Uu], by simp [q8H]; exact h, by simp [q8H], by simp [q8H], by simp [q8H]⟩
theorem qIR {ns : List Nd} {i : Nat} {b : Int} (h : b = 0 ∨ b = 1) : NG true ns i (q6M b) := ⟨by simp [q6M], by simp [q6M, Uu], by simp [q6M], by simp [q6M], by simp [q6M], by simp [q6M]; omega⟩
theorem qM5 {ns : List Nd} : ∀ p ∈ q77 ns, 0 ≤ p ∧ p < ns.length ∧ (ns.getD p.toNat Nd.d).k = 12 := by
 intro p hp
 obtain ⟨h1, h2, h3⟩ := q76 [12] ns 0 p hp
 refine ⟨by omega, by omega, ?_⟩
 simpa using h3
theorem qGI {l : List Int} {q : Nat} (h : q < l.length) : l.getD q 0 ∈ l := by
 rw [List.getD_eq_getElem?_getD, List.getElem?_eq_getElem h]; exact List.getElem_mem h
theorem qK5 {B bus : Bool} {g : Gd} {ns : List Nd} (hg : qCc g) (h0 : 1 ≤ ns.length) : NG B (ns ++ [q78 bus g ns]) ns.length (q78 bus g ns) := by
 have a := D4 (n := ns.length) hg.2.1.1 (by omega)
 have b := D4 (n := ns.length) hg.2.2.1.1 (by omega)
 have d := D4 (n := ns.length) hg.2.2.2.1 (by omega)
 have m13 : 0 ≤ g.k.tmod 13 ∧ g.k.tmod 13 < 13 := D4 (n := 13) hg.1.1 (by omega)
 have m9 : 0 ≤ g.k.tmod 9 ∧ g.k.tmod 9 < 9 := D4 (n := 9) hg.1.1 (by omega)
 have ma : 0 ≤ g.a.tmod 2 ∧ g.a.tmod 2 < 2 := D4 (n := 2) hg.2.1.1 (by omega)
 have hkk : 0 ≤ (if bus then g.k.tmod 13 else g.k.tmod 9) ∧ (if bus then g.k.tmod 13 else g.k.tmod 9) < 13 := by cases bus <;> simp <;> omega
 have ht := qM5 (ns := ns)
 obtain ⟨y, hy⟩ : ∃ y, y = q78 bus g ns := ⟨_, rfl⟩
 rw [← hy]
 have hlen : (ns ++ [y]).length = ns.length + 1 := by simp
 have old : ∀ p : Int, 0 ≤ p → p < ns.length → ((ns ++ [y]).getD p.toNat Nd.d).k = (ns.getD p.toNat Nd.d).k := fun p h1 h2 => by
  rw [List.getD_eq_getElem?_getD, List.getElem?_append_left (by omega), ← List.getD_eq_getElem?_getD]
 -- what suffices of a plain gate
 have mk : ∀ (k : Int) (l : List Int) (cap : Option Nat) (nl : Option Bool), 0 ≤ k → k ≤ 15 → k ≠ 13 → k ≠ 15 → (O5 k).1 ≤ l.length → (l.length : Int) ≤ (O5 k).2 → (∀ p ∈ l, 0 ≤ p ∧ p < ns.length) → NG B (ns ++ [y]) ns.length ⟨k, ⟨l, cap, nl⟩, 0, 0⟩ := fun k l cap nl h1 h2 h3 h4 h5 h6 h7 =>
  ⟨⟨h1, h2⟩, ⟨h5, h6⟩, fun p hp => by have := h7 p hp; omega, fun _ p hp => (h7 p hp).2, fun e => absurd e h3, fun _ => ⟨rfl, rfl⟩, fun e => absurd e h4⟩
 unfold q78 qDm at hy
 simp only at hy
 generalize g.a.tmod ns.length = a' at *
 generalize g.b.tmod ns.length = b' at *
 generalize g.d.tmod ns.length = d' at *
 generalize (if bus = true then g.k.tmod 13 else g.k.tmod 9) = kk at *
 have two : ∀ p ∈ [a', b'], 0 ≤ p ∧ p < ns.length := by intro p hp; simp at hp; rcases hp with rfl | rfl; exact a; exact b
 have three : ∀ p ∈ [a', b', d'], 0 ≤ p ∧ p < ns.length := by intro p hp; simp at hp; rcases hp with rfl | rfl | rfl; exact a; exact b; exact d
 have one : ∀ p ∈ [a'], 0 ≤ p ∧ p < ns.length := by intro p hp; simp at hp; rcases hp with rfl; exact a
 split at hy
 ·rename_i h6
  have hc : kk = 0 ∨ kk = 1 ∨ kk = 2 ∨ kk = 3 ∨ kk = 4 ∨ kk = 5 := by omega
  split at hy
  ·rw [hy]
   have hf : (O5 (5 + kk)).1 = 2 ∧ (O5 (5 + kk)).2 = 16 := by rcases hc with rfl | rfl | rfl | rfl | rfl | rfl <;> decide
   rw [← hy]
   have := mk (5 + kk) [a', b', d'] none none (by omega) (by omega) (by omega) (by omega) (by rw [hf.1]; simp) (by rw [hf.2]; simp) three
   rw [← hy] at this; exact this
  ·have hf : (O5 (5 + kk)).1 = 2 ∧ (O5 (5 + kk)).2 = 16 := by rcases hc with rfl | rfl | rfl | rfl | rfl | rfl <;> decide
   have := mk (5 + kk) [a', b'] none none (by omega) (by omega) (by omega) (by omega) (by rw [hf.1]; simp) (by rw [hf.2]; simp) two
   rw [← hy] at this; exact this
 split at hy
 ·have := mk 4 [a'] none none (by omega) (by omega) (by omega) (by omega) (by simp [Uu]) (by simp [Uu]) one
  rw [← hy] at this; exact this
 split at hy
 ·have := mk 11 [a', b', d'] none none (by omega) (by omega) (by omega) (by omega) (by simp [Uu]) (by simp [Uu]) three
  rw [← hy] at this; exact this
 split at hy
 ·have := mk 12 [a', b'] none none (by omega) (by omega) (by omega) (by omega) (by simp [Uu]) (by simp [Uu]) two
  rw [← hy] at this; exact this
 split at hy
 ·rename_i ht2
  generalize q77 ns = t at *
  have mt := D4 (n := t.length) hg.2.1.1 ht2.2
  have mt2 := D4 (a := g.a.tmod t.length + 1) (n := t.length) (by omega) ht2.2
  have q1 := ht _ (qGI (l := t) (q := (g.a.tmod t.length).toNat) (by omega))
  have q2 := ht _ (qGI (l := t) (q := ((g.a.tmod t.length + 1).tmod t.length).toNat) (by omega))
  generalize t.getD (g.a.tmod t.length).toNat 0 = u1 at *
  generalize t.getD ((g.a.tmod t.length + 1).tmod t.length).toNat 0 = u2 at *
  have mkb : ∀ (l : List Int) (cap : Option Nat) (nl : Option Bool), 1 ≤ l.length → l.length ≤ 16 → (∀ p ∈ l, 0 ≤ p ∧ p < ns.length ∧ (ns.getD p.toNat Nd.d).k = 12) → NG B (ns ++ [y]) ns.length ⟨13, ⟨l, cap, nl⟩, 0, 0⟩ := fun l cap nl h5 h6 h7 =>
   ⟨by simp, ⟨by simp [Uu]; omega, by simp [Uu]; omega⟩, fun p hp => by have := h7 p hp; omega, fun _ p hp => (h7 p hp).2.1, fun _ p hp => by rw [old p (h7 p hp).1 (h7 p hp).2.1]; exact (h7 p hp).2.2, fun _ => ⟨rfl, rfl⟩, fun e => by simp at e⟩
  split at hy
  ·have := mkb [u1, u2] none none (by simp) (by simp) (by intro p hp; simp at hp; rcases hp with rfl | rfl; exact q1; exact q2)
   rw [← hy] at this; exact this
  ·have := mkb [u1] none none (by simp) (by simp) (by intro p hp; simp at hp; rcases hp with rfl; exact q1)
   rw [← hy] at this; exact this
 split at hy
 ·have hc : g.a.tmod 2 = 0 ∨ g.a.tmod 2 = 1 := by omega
  have hf : (O5 (1 + g.a.tmod 2)).1 = 0 ∧ (O5 (1 + g.a.tmod 2)).2 = 0 := by rcases hc with e | e <;> rw [e] <;> decide
  have := mk (1 + g.a.tmod 2) [] (some 0) (some true) (by omega) (by omega) (by omega) (by omega) (by rw [hf.1]; simp) (by rw [hf.2]; simp) (by simp)
  rw [← hy] at this; exact this
 ·have := mk 3 [a'] none none (by omega) (by omega) (by omega) (by omega) (by simp [Uu]) (by simp [Uu]) one
  rw [← hy] at this; exact this
theorem qC8 {B bus : Bool} : ∀ {l : List Gd} {ns : List Nd}, (∀ g ∈ l, qCc g) → 1 ≤ ns.length → GNs B ns → GNs B (Uk bus l ns)
 | [], ns, _, _, h => h
 | g :: l, ns, hg, h0, h => by
  simp only [Uk]
  exact qC8 (fun y hy => hg y (List.mem_cons_of_mem _ hy)) (by simp) (h.add (qK5 (hg g List.mem_cons_self) h0))
theorem qK6 {B : Bool} {ns : List Nd} {j : Nat} {v : Int} (h : GNs B ns) (hj : j < ns.length) (hk : ns[j].k = 14) (hv : 0 ≤ v ∧ v < ns.length) : GNs B (Xb ns j v) := by
 have hm := (h j hj).mm.1 (by rw [hk]; decide)
 have hgd : ns.getD j Nd.d = ns[j] := by simp [List.getD_eq_getElem?_getD, hj]
 have kinds : ∀ q : Nat, ((Xb ns j v).getD q Nd.d).k = (ns.getD q Nd.d).k := fun q => by
  unfold Xb
  simp only [List.getD_eq_getElem?_getD, List.getElem?_set]
  split
  ·rename_i e; subst e; simp [hj]
  ·rfl
 intro i hi
 have hi' : i < ns.length := by rw [Qd] at hi; exact hi
 by_cases hij : i = j
 ·subst hij
  have : (Xb ns i v)[i] = ⟨14, ⟨[v], some 1, some false⟩, 0, 0⟩ := by
   simp only [Xb, hgd, hk, hm.1, hm.2, List.getElem_set_self]
  rw [this]
  exact ⟨by simp, by simp [Uu], by simp [Qd]; exact hv, by simp, by simp, by simp⟩
 ·have : (Xb ns j v)[i] = ns[i] := by
   simp only [Xb]
   rw [List.getElem_set_ne (fun e => hij e.symm)]
  rw [this]
  have hn := h i hi'
  exact ⟨hn.k, hn.f, fun p hp => by rw [Qd]; exact hn.inn p hp, hn.top, fun hk p hp => by rw [kinds]; exact hn.bus hk p hp, hn.mm⟩
theorem qFM {ns : List Nd} {j q : Nat} {v : Int} : ((Xb ns j v).getD q Nd.d).k = (ns.getD q Nd.d).k := by
 unfold Xb
 simp only [List.getD_eq_getElem?_getD, List.getElem?_set]
 split
 ·rename_i e; subst e
  split
  ·simp
  ·rename_i h; simp [List.getElem?_eq_none (Nat.le_of_not_lt h)]
 ·rfl
theorem qE8 {B : Bool} {x : CD} {first : Nat} (h0 : Byt x.d0) (h1 : Byt x.d1) : ∀ {k i : Nat} {ns : List Nd}, GNs B ns → (∀ q, q < i + k → first + q < ns.length ∧ (ns.getD (first + q) Nd.d).k = 14) → GNs B (q3i x first k i ns)
 | 0, _, _, h, _ => h
 | k + 1, i, ns, h, hq => by
  simp only [q3i]
  obtain ⟨hl, hk⟩ := hq i (by omega)
  have hd : 0 ≤ ddN x i := by unfold ddN; split; exact h0.1; exact h1.1
  have hv := D4 (n := ns.length) hd (by omega)
  refine qE8 h0 h1 (qK6 h hl (by simpa [List.getD_eq_getElem?_getD, hl] using hk) hv) fun q hq' => ?_
  rw [Qd, qFM]
  exact hq q (by omega)
theorem q95 {bus : Bool} : ∀ {l : List Gd} {ns : List Nd} {q : Nat}, q < ns.length → ((Uk bus l ns).getD q Nd.d) = (ns.getD q Nd.d)
 | [], _, _, _ => rfl
 | g :: l, ns, q, h => by
  simp only [Uk]
  rw [q95 (by simp; omega)]
  rw [List.getD_eq_getElem?_getD, List.getElem?_append_left h, ← List.getD_eq_getElem?_getD]
theorem qCm {B : Bool} {x : Nd} (h : ∀ ns : List Nd, 1 ≤ ns.length → ∀ i, NG B ns i x) : ∀ (k : Nat) {ns : List Nd}, GNs B ns → GNs B (ns ++ List.replicate k x)
 | 0, ns, hn => by simpa using hn
 | k + 1, ns, hn => by
  rw [List.replicate_succ, List.append_cons]
  exact qCm h k (hn.add (h _ (by simp) _))
theorem q96 {x : CD} (hx : q8J x) : GNs x.mem (Hr x) := by
 have m4 : 0 ≤ x.i.tmod 4 ∧ x.i.tmod 4 < 4 := D4 (n := 4) hx.i.1 (by omega)
 have m3 : 0 ≤ x.f.tmod 3 ∧ x.f.tmod 3 < 3 := D4 (n := 3) hx.f.1 (by omega)
 have g0 : GNs x.mem [] := fun i h => by simp at h
 have g1 : GNs x.mem (Jc x) := by
  have := qCm (B := x.mem) (x := q9L) (fun ns _ i => qM3) (x.i.tmod 4 + 1).toNat g0
  simpa [Jc] using this
 have l1 : 1 ≤ (Jc x).length := by simp [Jc]; omega
 have g2 : GNs x.mem (Gj x) := qCm (fun ns h i => qM4 ⟨by omega, by omega⟩) _ g1
 have l2 : (Gj x).length = (Jc x).length + (x.f.tmod 3).toNat := by simp [Gj]
 have g3 : GNs x.mem (Fh x) := by
  unfold Fh
  split
  ·rename_i hm
   rw [hm] at g2 ⊢
   have a1 := g2.add (y := q6M 0) (qIR (.inl rfl))
   have a2 := a1.add (y := q6M 1) (qIR (.inr rfl))
   rw [List.append_assoc] at a2
   exact a2
  ·exact g2
 have l3 : (Gj x).length ≤ (Fh x).length := by unfold Fh; split <;> simp
 have g4 : GNs x.mem (Cc x) := qC8 (fun g hg => hx.gates g (List.mem_of_mem_take hg)) (by omega) g3
 have l4 : (Fh x).length ≤ (Cc x).length := by unfold Cc; rw [q2N]; omega
 refine qE8 hx.d0 hx.d1 g4 fun q hq => ⟨by omega, ?_⟩
 unfold Cc
 rw [q95 (by omega)]
 have e : (Fh x).getD ((Jc x).length + q) Nd.d = (Gj x).getD ((Jc x).length + q) Nd.d := by
  unfold Fh
  split
  ·rw [List.getD_eq_getElem?_getD, List.getElem?_append_left (by omega), ← List.getD_eq_getElem?_getD]
  ·rfl
 rw [e]
 unfold Gj
 rw [List.getD_eq_getElem?_getD, List.getElem?_append_right (by omega)]
 simp only [Nat.add_sub_cancel_left]
 rw [List.getElem?_replicate, if_pos (by omega)]
 rfl
theorem q2W {α : Type} {f : α → Int} : ∀ {l : List α}, (∀ x ∈ l, f x = 0) → Ds (l.map f) = 0
 | [], _ => rfl
 | x :: l, h => by
  simp only [List.map_cons, Ds, h x List.mem_cons_self, ne_eq, not_true_eq_false, if_false]
  exact q2W fun y hy => h y (List.mem_cons_of_mem _ hy)
theorem qFN : ∀ n, n ≤ 16 → Ji [] ((List.range' 0 n).map q1a) = 0 := by
 intro n hn
 have : n = 0 ∨ n = 1 ∨ n = 2 ∨ n = 3 ∨ n = 4 ∨ n = 5 ∨ n = 6 ∨ n = 7 ∨ n = 8 ∨ n = 9 ∨ n = 10 ∨ n = 11 ∨ n = 12 ∨ n = 13 ∨ n = 14 ∨ n = 15 ∨ n = 16 := by omega
 rcases this with rfl | rfl | rfl | rfl | rfl | rfl | rfl | rfl | rfl | rfl | rfl | rfl | rfl | rfl | rfl | rfl | rfl <;> decide +kernel
theorem qHE {x : CD} (hx : q8J x) : E5 (ofC x) = 0 := by
 have hl := q6O hx
 have h5 := q6P hx
 have hg := q96 hx
 have hN : (ofC x).nodes.l = Hr x := rfl
 have hmods : ∀ b, Byt b → 0 ≤ b.tmod (Cc x).length ∧ b.tmod (Cc x).length < (Hr x).length := fun b hb => by
  have := D4 (n := (Cc x).length) hb.1 (by omega); omega
 have hout : ∀ n, 0 ≤ n ∧ n < ((Hr x).length : Int) → Re (ofC x) n = false := fun n h => by simp [Re, hN]; omega
 have hnode : ∀ y ∈ Hr x, Dv (ofC x) y = 0 := by
  intro y hy
  obtain ⟨i, hi, rfl⟩ := List.getElem_of_mem hy
  have hn := hg i hi
  unfold Dv
  rw [if_neg (by have := hn.k; omega), if_neg (by have := hn.f; omega)]
  have h1 : (Hr x)[i].inn.l.any (Re (ofC x)) = false := List.any_eq_false.2 fun p hp => by rw [hout p (hn.inn p hp)]; simp
  rw [h1]
  have h2 : ¬ ((Hr x)[i].k = 13 ∧ (Hr x)[i].inn.l.any (q3b (ofC x)) = true) := by
   rintro ⟨hk, ha⟩
   obtain ⟨p, hp, hq⟩ := List.any_eq_true.1 ha
   have := hn.bus hk p hp
   simp [q3b, hN] at hq
   rw [List.getD_eq_getElem?_getD] at this
   exact hq this
  rw [if_neg (by simp), if_neg h2]
  have h3 : q1Y (ofC x) (Hr x)[i] = true := by
   unfold q1Y
   by_cases hk : (Hr x)[i].k = 15
   ·obtain ⟨hm, e1, e2, e3⟩ := hn.mm.2 hk
    simp only [hk, ne_eq, not_true_eq_false, if_false, decide_eq_true_eq]
    simp [ofC, qBI, hm, e1]
    omega
   ·have := hn.mm.1 hk
    simp [hk, this]
  rw [h3]; simp
 unfold E5
 have e1 : ¬ (16384 < (ofC x).nodes.l.length ∨ 16 < (ofC x).mems.l.length ∨ 16384 < (ofC x).outs.l.length) := by
  have : (ofC x).mems.l.length ≤ 1 := by simp only [ofC, qBI]; split <;> simp
  have : (ofC x).outs.l.length ≤ 4 := by simp [ofC]; omega
  rw [hN]; omega
 have e2 : (ofC x).names.l.length = (ofC x).nodes.l.length := by rw [hN]; simp [ofC]; omega
 rw [if_neg e1, if_neg (by simp [e2]), if_neg (by rw [hN, q2W hnode]; simp), if_neg (by
  rw [show (ofC x).names.l = (List.range' 0 (Cc x).length).map q1a from rfl, qFN _ hl.2]; simp), if_neg (by
  rw [q2W]
  ·simp
  ·intro m hm
   simp only [ofC, qBI] at hm
   split at hm
   ·simp at hm; subst hm
    unfold Ph
    have a0 := hout _ (hmods _ hx.p0)
    have a1 := hout _ (hmods _ hx.p1)
    have a2 := hout _ (hmods _ hx.p2)
    have a3 := hout _ (hmods _ hx.p3)
    simp [Wy, a0, a1, a2, a3]
   ·cases hm)]
 have ho : (ofC x).outs.l.any (Re (ofC x)) = false := by
  refine List.any_eq_false.2 fun p hp => ?_
  have : 0 ≤ p ∧ p < ((Hr x).length : Int) := by
   simp only [ofC, List.mem_append, List.mem_map, List.mem_singleton] at hp
   rcases hp with ⟨b, hb, rfl⟩ | rfl
   ·exact hmods b (hx.outs b (List.mem_of_mem_take hb))
   ·omega
  rw [hout p this]; simp
 rw [ho]; rfl
theorem qC9 {x : CD} (hx : q8J x) : E9 (ofC x) = 0 := by
 have hs := qHE hx
 have hg := q96 hx
 have hN : (ofC x).nodes.l = Hr x := rfl
 have hin : ∀ y ∈ (ofC x).nodes.l, ∀ p ∈ y.inn.l, 0 ≤ p ∧ p < (ofC x).nodes.l.length := by
  intro y hy p hp
  rw [hN] at hy ⊢
  obtain ⟨i, hi, rfl⟩ := List.getElem_of_mem hy
  exact (hg i hi).inn p hp
 have hd := qDv (ofC x) (Is hs).2.1 hin (by
  intro i hi hc p hp
  rw [hN] at hi
  have e : (ofC x).nodes.l.getD i Nd.d = (Hr x)[i] := by rw [hN]; simp [List.getD_eq_getElem?_getD, hi]
  simp only [Ap, F4, e] at hc hp
  exact (hg i hi).top (by simpa [Cd] using hc) p hp)
 unfold E9
 rw [if_neg (by simp [hs]), if_neg hd]
end Go.Lg
namespace Go.Lg
open Go Go.Proofs
variable {Γ : Tables}
theorem q7R {f : FuncId} {as' : List AV} {ts : List T} {res : T} {K : T → Prop} (h : A6 Tryz.prog Γ f ts res) (ht : As (as'.map toT) = some ts) (hk : K res) : qF4 Tryz.prog Γ f as' K ⟨⟩ := ⟨ts, res, ht, .inr h, hk⟩
theorem qHF (q : PD) (hq : qE7 q) (c : Bd) (hc : COk c) : A6 Tryz.prog Γ 44 [.agg (tPD q), .agg (tC c)] (.agg (tP (qAm q c))) := by
 refine Aa qAf rfl ?_
 have h1 := qGG (Γ := Γ) q.i (E1 c).length (Nat.le_trans (q2R c) hc.nodes) 4 (by omega)
 have h2 := qGG (Γ := Γ) q.s (Be c).length (Nat.le_trans (Hl c) hc.nodes) 3 (by omega)
 have l1 : (X2 q.i.l (E1 c).length 4).length = (E1 c).length := q2T
 have l2 : (X2 q.s.l (Be c).length 3).length = (Be c).length := q2T
 have k1 := Bh (l := X2 q.i.l (E1 c).length 4)
 have k2 := Bh (l := X2 q.s.l (Be c).length 3)
 rw [l1] at k1
 rw [l2] at k2
 simp [q5U, tC, Ab, Ad, Ag, Av, tPD, tV]
 refine q7R (qAk c hc 0) rfl ?_
 simp
 refine ⟨_, _, h1, ?_⟩
 simp
 refine q7R (qAk c hc 14) rfl ?_
 simp
 refine ⟨_, _, h2, ?_⟩
 simp [q5V, B6, Am, k1, k2, tP, tV, qAm, qNh, qNi]
theorem qGJ {l : List Int} {n : Nat} {most : Int} (hl : ∀ v ∈ l, 0 ≤ v) (hm : 0 < most ∧ most ≤ 4) : ∀ v ∈ X2 l n most, V4 v := by
 intro v hv
 obtain ⟨i, _, rfl⟩ := List.mem_map.1 hv
 split
 ·simp [V4]
 ·rename_i h
  have hpos : 0 < l.length := List.length_pos_iff.2 h
  have h0 : 0 ≤ l.getD (i % l.length) 0 := by
   rw [B5 (Nat.mod_lt _ hpos)]; exact hl _ (List.getElem_mem _)
  generalize l.getD (i % l.length) 0 = u at *
  rw [Int.tmod_eq_emod_of_nonneg h0]
  have := Int.emod_nonneg u (show most ≠ 0 by omega)
  have := Int.emod_lt_of_pos u hm.1
  unfold V4; omega
structure POk (c : Bd) (p : Pat) : Prop where
 i : p.inn.l.length = (E1 c).length
 s : p.st.l.length = (Be c).length
 vi : ∀ v ∈ p.inn.l, V4 v
 vs : ∀ v ∈ p.st.l, V4 v
theorem qIS {q : PD} (hq : qE7 q) (c : Bd) : POk c (qAm q c) :=
 ⟨q2T, q2T, qGJ (fun v hv => (hq.1 v hv).1) (by omega), qGJ (fun v hv => (hq.2 v hv).1) (by omega)⟩
theorem Blw.below {a b : Int} (h : Blw a b) : qID a b = true := by
 unfold qID
 rcases h with rfl | rfl
 ·simp
 ·simp [Du]
theorem qIE.map {α : Type} {f g : α → Int} {l : List α} (h : ∀ x ∈ l, Blw (f x) (g x)) : qIE (l.map f) (l.map g) := by
 refine ⟨by simp, fun i => ?_⟩
 by_cases hi : i < l.length
 ·rw [B5 (by simpa using hi), B5 (by simpa using hi), List.getElem_map, List.getElem_map]
  exact h _ (List.getElem_mem hi)
 ·rw [List.getD_eq_getElem?_getD, List.getD_eq_getElem?_getD, List.getElem?_eq_none (by simp; omega), List.getElem?_eq_none (by simp; omega)]
  exact .refl _
end Go.Lg
namespace Go.Lg
open Go Go.Proofs
def By (v : Int) (bus : Bool) : List Int := if v = 0 then [0] else if v = 1 then [1] else if bus = true ∧ v = 3 then [2] else if bus = true then [0, 1, 2] else [0, 1]
def Ba (l : List Int) (v : Int) : Nat := l.countP (fun x => decide (x = v))
def Jx (b : Bool) : Int := if b then 1 else 0
def Jq (k : Int) (l : List Int) : Int :=
 if k = 1 ∨ k = 2 then Jx (decide (k = 2)) else if k = 3 ∨ k = 4 then Jx (decide ((l.getD 0 0 = 1) ↔ k = 3)) else
 if k = 5 ∨ k = 6 then Jx (decide ((Ba l 0 = 0) ↔ k = 5)) else if k = 7 ∨ k = 8 then Jx (decide ((0 < Ba l 1) ↔ k = 7)) else
 if k = 9 ∨ k = 10 then Jx (decide ((Ba l 1 % 2 = 1) ↔ k = 9)) else if k = 11 ∧ l.getD 0 0 = 0 then l.getD 1 0 else if k = 11 then l.getD 2 0 else
 if k = 12 ∧ l.getD 0 0 = 0 ∨ k = 13 ∧ Ba l 1 + Ba l 0 = 0 then 2 else if k = 12 then l.getD 1 0 else if k = 13 ∧ 0 < Ba l 1 ∧ 0 < Ba l 0 then 3 else Jx (decide (0 < Ba l 1))
def q6Z (l : List Int) : Int := if l.all (fun x => decide (x = l.getD 0 0)) then [0, 1, 3, 2].getD (l.getD 0 0).toNat 0 else 2
structure T3 where
 a : Int
 b : Int
 d : Int
deriving DecidableEq
def q7S (t : T3) (v : Int) : T3 := if v = 0 then ⟨t.a + 1, t.b, t.d⟩ else if v = 1 then ⟨t.a, t.b + 1, t.d⟩ else ⟨t.a, t.b, t.d + 1⟩
def q7T (L : List T3) (t : T3) : List T3 := if t ∈ L then L else L ++ [t]
def Xq (t : T3) : List Int → List T3 → List T3
 | [], L => L
 | v :: l, L => Xq t l (q7T L (q7S t v))
def Xr (cs : List Int) : List T3 → List T3 → List T3
 | [], L => L
 | t :: S, L => Xr cs S (Xq t cs L)
def Zq (bus : Bool) : List Int → List T3 → List T3
 | [], S => S
 | v :: l, S => Zq bus l (Xr (By v bus) S [])
def Yg (t : T3) : List Int := List.replicate t.a.toNat 0 ++ (List.replicate t.b.toNat 1 ++ List.replicate t.d.toNat 2)
def M3 (k : Int) (l : List Int) : List Int := (Zq (decide (k = 13)) l [⟨0, 0, 0⟩]).map fun t => Jq k (Yg t)
theorem qE9 {L : List T3} {t x : T3} : x ∈ q7T L t ↔ x ∈ L ∨ x = t := by
 unfold q7T
 split
 ·rename_i h
  exact ⟨.inl, fun h' => h'.elim id fun e => e ▸ h⟩
 ·simp
theorem q8Q {t x : T3} : ∀ {cs : List Int} {L : List T3}, x ∈ Xq t cs L ↔ x ∈ L ∨ ∃ v ∈ cs, x = q7S t v
 | [], L => by simp [Xq]
 | v :: l, L => by
  simp only [Xq]
  rw [q8Q, qE9]
  simp [or_assoc]
theorem q4u {cs : List Int} {x : T3} : ∀ {S L : List T3}, x ∈ Xr cs S L ↔ x ∈ L ∨ ∃ t ∈ S, ∃ v ∈ cs, x = q7S t v
 | [], L => by simp [Xr]
 | t :: S, L => by
  simp only [Xr]
  rw [q4u, q8Q]
  simp [or_assoc]
inductive Chs (bus : Bool) : List Int → List Int → Prop
 | nil : Chs bus [] []
 | cons {y v : Int} {ys vs : List Int} : y ∈ By v bus → Chs bus ys vs → Chs bus (y :: ys) (v :: vs)
def qCA : List Int → T3 → T3
 | [], t => t
 | y :: ys, t => qCA ys (q7S t y)
theorem q8R {bus : Bool} {x : T3} : ∀ {l : List Int} {S : List T3}, x ∈ Zq bus l S ↔ ∃ t ∈ S, ∃ ys, Chs bus ys l ∧ x = qCA ys t
 | [], S => by
  simp only [Zq]
  constructor
  ·intro h; exact ⟨x, h, [], .nil, rfl⟩
  ·rintro ⟨t, ht, ys, hc, rfl⟩
   cases hc; exact ht
 | v :: l, S => by
  simp only [Zq]
  rw [q8R]
  constructor
  ·rintro ⟨t, ht, ys, hc, rfl⟩
   rw [q4u] at ht
   rcases ht with ht | ⟨t0, ht0, y, hy, rfl⟩
   ·simp at ht
   ·exact ⟨t0, ht0, y :: ys, .cons hy hc, rfl⟩
  ·rintro ⟨t, ht, ys, hc, rfl⟩
   cases hc with
   | cons hy hc => exact ⟨_, q4u.2 (.inr ⟨t, ht, _, hy, rfl⟩), _, hc, rfl⟩
theorem qCn {v y : Int} {bus : Bool} (h : y ∈ By v bus) : y = 0 ∨ y = 1 ∨ y = 2 := by
 unfold By at h
 split at h
 ·simp at h; omega
 split at h
 ·simp at h; omega
 split at h
 ·simp at h; omega
 split at h <;> simp at h <;> omega
theorem qIT {bus : Bool} : ∀ {ys l : List Int}, Chs bus ys l → ∀ y ∈ ys, y = 0 ∨ y = 1 ∨ y = 2
 | _, _, .nil, _, h => by simp at h
 | _, _, .cons h1 h2, y, h => by
  rcases List.mem_cons.1 h with rfl | h
  ·exact qCn h1
  ·exact qIT h2 y h
theorem q8S : ∀ {ys : List Int} {t : T3}, (∀ y ∈ ys, y = 0 ∨ y = 1 ∨ y = 2) → qCA ys t = ⟨t.a + Ba ys 0, t.b + Ba ys 1, t.d + Ba ys 2⟩
 | [], t, _ => by simp [qCA, Ba]
 | y :: ys, t, h => by
  simp only [qCA]
  rw [q8S fun z hz => h z (List.mem_cons_of_mem _ hz)]
  rcases h y List.mem_cons_self with rfl | rfl | rfl <;> simp [q7S, Ba] <;> omega
theorem qIU {n : Nat} {a v : Int} : Ba (List.replicate n a) v = if a = v then n else 0 := by
 unfold Ba
 rw [List.countP_replicate]
 simp
theorem q7U {a b : List Int} {v : Int} : Ba (a ++ b) v = Ba a v + Ba b v := List.countP_append
theorem qEA {t : T3} (ha : 0 ≤ t.a) (hb : 0 ≤ t.b) : Ba (Yg t) 0 = t.a.toNat ∧ Ba (Yg t) 1 = t.b.toNat := by
 simp [Yg, q7U, qIU]
def q1C (k : Int) (z o : Nat) : Int :=
 if k = 5 ∨ k = 6 then Jx (decide ((z = 0) ↔ k = 5)) else if k = 7 ∨ k = 8 then Jx (decide ((0 < o) ↔ k = 7)) else
 if k = 9 ∨ k = 10 then Jx (decide ((o % 2 = 1) ↔ k = 9)) else if o + z = 0 then 2 else if 0 < o ∧ 0 < z then 3 else Jx (decide (0 < o))
theorem qIV {k : Int} (hk : 5 ≤ k ∧ k ≤ 10 ∨ k = 13) {l : List Int} : Jq k l = q1C k (Ba l 0) (Ba l 1) := by
 have hc : k = 5 ∨ k = 6 ∨ k = 7 ∨ k = 8 ∨ k = 9 ∨ k = 10 ∨ k = 13 := by omega
 rcases hc with rfl | rfl | rfl | rfl | rfl | rfl | rfl <;> simp [Jq, q1C]
theorem F8 {k : Int} (hk : 5 ≤ k ∧ k ≤ 10 ∨ k = 13) {l : List Int} {x : Int} : x ∈ M3 k l ↔ ∃ ys, Chs (decide (k = 13)) ys l ∧ x = q1C k (Ba ys 0) (Ba ys 1) := by
 unfold M3
 rw [List.mem_map]
 constructor
 ·rintro ⟨t, ht, rfl⟩
  obtain ⟨t0, h0, ys, hc, rfl⟩ := q8R.1 ht
  simp at h0
  subst h0
  refine ⟨ys, hc, ?_⟩
  rw [q8S (qIT hc), qIV hk]
  have := qEA (t := ⟨0 + (Ba ys 0 : Int), 0 + (Ba ys 1 : Int), 0 + (Ba ys 2 : Int)⟩) (by simp) (by simp)
  rw [this.1, this.2]
  simp
 ·rintro ⟨ys, hc, rfl⟩
  refine ⟨qCA ys ⟨0, 0, 0⟩, q8R.2 ⟨_, by simp, ys, hc, rfl⟩, ?_⟩
  rw [q8S (qIT hc), qIV hk]
  have := qEA (t := ⟨0 + (Ba ys 0 : Int), 0 + (Ba ys 1 : Int), 0 + (Ba ys 2 : Int)⟩) (by simp) (by simp)
  rw [this.1, this.2]
  simp
theorem Ru {l : List Int} {a : Int} (hne : l ≠ []) (h : ∀ x ∈ l, x = a) : q6Z l = [0, 1, 3, 2].getD a.toNat 0 := by
 cases l with
 | nil => exact absurd rfl hne
 | cons y l =>
  have hy : y = a := h y List.mem_cons_self
  unfold q6Z
  rw [if_pos (by
   rw [List.all_eq_true]
   intro x hx
   simp [h x hx, hy])]
  simp [hy]
theorem q7V {l : List Int} {a b : Int} (ha : a ∈ l) (hb : b ∈ l) (h : a ≠ b) : q6Z l = 2 := by
 unfold q6Z
 rw [if_neg]
 intro hh
 rw [List.all_eq_true] at hh
 have h1 := hh a ha
 have h2 := hh b hb
 simp at h1 h2
 exact h (h1.trans h2.symm)
theorem Vk {bus : Bool} {g : Int → Int} : ∀ {l : List Int}, (∀ v ∈ l, g v ∈ By v bus) → Chs bus (l.map g) l
 | [], _ => .nil
 | v :: l, h => .cons (h v List.mem_cons_self) (Vk fun u hu => h u (List.mem_cons_of_mem _ hu))
theorem qGK {bus : Bool} : ∀ {ys l zs m : List Int}, Chs bus ys l → Chs bus zs m → Chs bus (ys ++ zs) (l ++ m)
 | _, _, _, _, .nil, h => h
 | _, _, _, _, .cons h1 h2, h => .cons h1 (qGK h2 h)
theorem Yh {k : Int} (hk : 5 ≤ k ∧ k ≤ 10 ∨ k = 13) {l : List Int} : M3 k l ≠ [] := by
 have hm : ∀ v ∈ l, (fun v => if v = 0 then 0 else if v = 1 then 1 else if v = 3 ∧ k = 13 then 2 else 1 : Int → Int) v ∈ By v (decide (k = 13)) := by
  intro v _
  unfold By
  by_cases h0 : v = 0
  ·simp [h0]
  by_cases h1 : v = 1
  ·simp [h1]
  by_cases h3 : v = 3 <;> by_cases h13 : k = 13 <;> simp [h0, h1, h3, h13]
 exact List.ne_nil_of_mem ((F8 hk).2 ⟨_, Vk hm, rfl⟩)
def to0 (v : Int) : Int := if v = 1 then 1 else if v = 3 then 2 else 0
def to1 (v : Int) : Int := if v = 0 then 0 else if v = 3 then 2 else 1
def go0 (v : Int) : Int := if v = 1 then 1 else 0
def go1 (v : Int) : Int := if v = 0 then 0 else 1
theorem qCo {v : Int} : go0 v ∈ By v false := by unfold go0 By; repeat' split <;> simp_all
theorem qIW {v : Int} : go1 v ∈ By v false := by unfold go1 By; repeat' split <;> simp_all
theorem qM6 {v : Int} : to0 v ∈ By v true := by
 unfold to0 By
 by_cases h0 : v = 0
 ·simp [h0]
 by_cases h1 : v = 1
 ·simp [h1]
 by_cases h3 : v = 3 <;> simp [h0, h1, h3]
theorem qM7 {v : Int} : to1 v ∈ By v true := by
 unfold to1 By
 by_cases h0 : v = 0
 ·simp [h0]
 by_cases h1 : v = 1
 ·simp [h1]
 by_cases h3 : v = 3 <;> simp [h0, h1, h3]
theorem Rw {l : List Int} {v : Int} : Ba l v = 0 ↔ v ∉ l := by
 unfold Ba
 rw [List.countP_eq_zero]
 constructor
 ·intro h hm; simpa using h v hm
 ·intro h x hx; simp; intro e; exact h (e ▸ hx)
theorem P2 {l : List Int} {v : Int} : 0 < Ba l v ↔ v ∈ l := by
 rw [Nat.pos_iff_ne_zero, Ne, Rw, Classical.not_not]
theorem q2X {bus : Bool} {a : Int} : ∀ {ys l : List Int}, Chs bus ys l → (∀ y, y ∈ By a bus → y = a) → a ∈ l → a ∈ ys
 | _, _, .nil, _, h => h
 | _, _, .cons h1 h2, ha, h => by
  rcases List.mem_cons.1 h with rfl | h
  ·have := ha _ h1
   exact this ▸ List.mem_cons_self
  ·exact List.mem_cons_of_mem _ (q2X h2 ha h)
theorem q7W {bus : Bool} {y : Int} : ∀ {ys l : List Int}, Chs bus ys l → y ∈ ys → ∃ v ∈ l, y ∈ By v bus
 | _, _, .nil, h => by simp at h
 | _, _, .cons h1 h2, h => by
  rcases List.mem_cons.1 h with rfl | h
  ·exact ⟨_, List.mem_cons_self, h1⟩
  ·obtain ⟨v, hv, hy⟩ := q7W h2 h
   exact ⟨v, List.mem_cons_of_mem _ hv, hy⟩
theorem ch0 {bus : Bool} : ∀ y, y ∈ By 0 bus → y = 0 := by intro y h; simpa [By] using h
theorem ch1 {bus : Bool} : ∀ y, y ∈ By 1 bus → y = 1 := by intro y h; simpa [By] using h
theorem qGL {k : Int} (hk : k = 5 ∨ k = 6) {l : List Int} (h4 : ∀ v ∈ l, V4 v) : q6Z (M3 k l) = if k = 5 then La 0 1 1 l else Oh (La 0 1 1 l) := by
 have hk' : 5 ≤ k ∧ k ≤ 10 ∨ k = 13 := by omega
 have hb : decide (k = 13) = false := by simp; omega
 have hf : ∀ z o, q1C k z o = Jx (decide ((z = 0) ↔ k = 5)) := fun z o => by unfold q1C; rw [if_pos hk]
 rw [W2 (.inr rfl)]
 by_cases h0 : (0 : Int) ∈ l
 ·rw [if_pos h0, Ru (a := Jx (decide (False ↔ k = 5))) (Yh hk') fun x hx => by
   obtain ⟨ys, hc, rfl⟩ := (F8 hk').1 hx
   have := q2X hc ch0 h0
   rw [hf]
   congr 1
   have h1 : ¬ Ba ys 0 = 0 := by rw [Rw]; exact fun h => h this
   simp [h1]]
  rcases hk with rfl | rfl <;> simp [Jx, Oh]
 rw [if_neg h0]
 by_cases h1 : ∀ v ∈ l, v = 1
 ·rw [if_pos (show (1 : Int) = 1 ∧ ∀ v ∈ l, v = 1 from ⟨rfl, h1⟩), Ru (a := Jx (decide (True ↔ k = 5))) (Yh hk') fun x hx => by
   obtain ⟨ys, hc, rfl⟩ := (F8 hk').1 hx
   rw [hf]
   congr 1
   have h1 : Ba ys 0 = 0 := by
    rw [Rw]
    intro hm
    obtain ⟨v, hv, hy⟩ := q7W hc hm
    rw [h1 v hv] at hy
    have := ch1 _ hy
    omega
   simp [h1]]
  rcases hk with rfl | rfl <;> simp [Jx, Oh]
 rw [if_neg (show ¬ ((1 : Int) = 1 ∧ ∀ v ∈ l, v = 1) from fun h => h1 h.2)]
 have e : ∃ v, v ∈ l ∧ v ≠ 1 := by
  refine Classical.byContradiction fun hn => h1 fun v hv => Classical.byContradiction fun hv1 => hn ⟨v, hv, hv1⟩
 obtain ⟨v, hv, hv1⟩ := e
 have m0 : q1C k (Ba (l.map go0) 0) (Ba (l.map go0) 1) ∈ M3 k l := (F8 hk').2 ⟨_, by rw [hb]; exact Vk fun v _ => qCo, rfl⟩
 have m1 : q1C k (Ba (l.map go1) 0) (Ba (l.map go1) 1) ∈ M3 k l := (F8 hk').2 ⟨_, by rw [hb]; exact Vk fun v _ => qIW, rfl⟩
 have z0 : ¬ Ba (l.map go0) 0 = 0 := by
  rw [Rw]
  exact fun h => h (List.mem_map.2 ⟨v, hv, by simp [go0, hv1]⟩)
 have z1 : Ba (l.map go1) 0 = 0 := by
  rw [Rw]
  intro h
  obtain ⟨u, hu, e⟩ := List.mem_map.1 h
  unfold go1 at e
  split at e
  ·rename_i h; exact h0 (h ▸ hu)
  ·omega
 rw [q7V m0 m1]
 ·rcases hk with rfl | rfl <;> simp [Oh]
 ·rw [hf, hf]
  rcases hk with rfl | rfl <;> simp [Jx, z0, z1]
theorem qIX {k : Int} (hk : k = 7 ∨ k = 8) {l : List Int} (h4 : ∀ v ∈ l, V4 v) : q6Z (M3 k l) = if k = 7 then La 1 0 0 l else Oh (La 1 0 0 l) := by
 have hk' : 5 ≤ k ∧ k ≤ 10 ∨ k = 13 := by omega
 have hb : decide (k = 13) = false := by simp; omega
 have hf : ∀ z o, q1C k z o = Jx (decide ((0 < o) ↔ k = 7)) := fun z o => by unfold q1C; rw [if_neg (by omega), if_pos hk]
 rw [W2 (.inr rfl)]
 by_cases h0 : (1 : Int) ∈ l
 ·rw [if_pos h0, Ru (a := Jx (decide (True ↔ k = 7))) (Yh hk') fun x hx => by
   obtain ⟨ys, hc, rfl⟩ := (F8 hk').1 hx
   have := P2.2 (q2X hc ch1 h0)
   rw [hf]
   congr 1
   simp [this]]
  rcases hk with rfl | rfl <;> simp [Jx, Oh]
 rw [if_neg h0]
 by_cases h1 : ∀ v ∈ l, v = 0
 ·rw [if_pos (show (0 : Int) = 0 ∧ ∀ v ∈ l, v = 0 from ⟨rfl, h1⟩), Ru (a := Jx (decide (False ↔ k = 7))) (Yh hk') fun x hx => by
   obtain ⟨ys, hc, rfl⟩ := (F8 hk').1 hx
   rw [hf]
   congr 1
   have h1 : ¬ 0 < Ba ys 1 := by
    rw [P2]
    intro hm
    obtain ⟨v, hv, hy⟩ := q7W hc hm
    rw [h1 v hv] at hy
    have := ch0 _ hy
    omega
   simp [h1]]
  rcases hk with rfl | rfl <;> simp [Jx, Oh]
 rw [if_neg (show ¬ ((0 : Int) = 0 ∧ ∀ v ∈ l, v = 0) from fun h => h1 h.2)]
 have e : ∃ v, v ∈ l ∧ v ≠ 0 := by
  refine Classical.byContradiction fun hn => h1 fun v hv => Classical.byContradiction fun hv1 => hn ⟨v, hv, hv1⟩
 obtain ⟨v, hv, hv1⟩ := e
 have m0 : q1C k (Ba (l.map go0) 0) (Ba (l.map go0) 1) ∈ M3 k l := (F8 hk').2 ⟨_, by rw [hb]; exact Vk fun v _ => qCo, rfl⟩
 have m1 : q1C k (Ba (l.map go1) 0) (Ba (l.map go1) 1) ∈ M3 k l := (F8 hk').2 ⟨_, by rw [hb]; exact Vk fun v _ => qIW, rfl⟩
 have z1 : 0 < Ba (l.map go1) 1 := by
  rw [P2]
  exact List.mem_map.2 ⟨v, hv, by simp [go1, hv1]⟩
 have z0 : ¬ 0 < Ba (l.map go0) 1 := by
  rw [P2]
  intro h
  obtain ⟨u, hu, e⟩ := List.mem_map.1 h
  unfold go0 at e
  split at e
  ·rename_i h; exact h0 (h ▸ hu)
  ·omega
 rw [q7V m0 m1]
 ·rcases hk with rfl | rfl <;> simp [Oh]
 ·rw [hf, hf]
  rcases hk with rfl | rfl <;> simp [Jx, z0, z1]
theorem qAn : ∀ {l : List Int} {out : Int}, (out = 0 ∨ out = 1) → (∀ v ∈ l, v = 0 ∨ v = 1) → Y8 out l = if (Ba l 1 + out.toNat) % 2 = 1 then 1 else 0
 | [], out, h, _ => by rcases h with rfl | rfl <;> simp [Y8, Ba]
 | v :: l, out, h, hl => by
  have hv := hl v List.mem_cons_self
  simp only [Y8]
  rw [if_pos (by omega), qAn (by unfold qFG; split <;> simp) fun u hu => hl u (List.mem_cons_of_mem _ hu)]
  have e : Ba (v :: l) 1 = Ba l 1 + if v = 1 then 1 else 0 := by
   unfold Ba
   rw [List.countP_cons]
   simp
  rw [e]
  rcases hv with rfl | rfl <;> rcases h with rfl | rfl <;> simp [qFG]
  all_goals (try omega)
  all_goals (congr 1; simp; omega)
theorem qEB : ∀ {l : List Int} {out : Int}, (∃ v ∈ l, ¬ v ≤ 1) → Y8 out l = 2
 | [], out, ⟨_, h, _⟩ => by simp at h
 | v :: l, out, ⟨u, hu, h1⟩ => by
  simp only [Y8]
  split
  ·rename_i hv
   rcases List.mem_cons.1 hu with rfl | hu
   ·exact absurd hv h1
   ·exact qEB ⟨u, hu, h1⟩
  ·rfl
theorem qIY {bus : Bool} : ∀ {ys l : List Int}, Chs bus ys l → (∀ v ∈ l, v = 0 ∨ v = 1) → ys = l
 | _, _, .nil, _ => rfl
 | _, _, .cons (v := v) h1 h2, h => by
  rw [qIY h2 fun u hu => h u (List.mem_cons_of_mem _ hu)]
  rcases h v List.mem_cons_self with rfl | rfl
  ·rw [ch0 _ h1]
  ·rw [ch1 _ h1]
theorem qGM {k : Int} (hk : k = 9 ∨ k = 10) {l : List Int} (h4 : ∀ v ∈ l, V4 v) : q6Z (M3 k l) = if k = 9 then Y8 0 l else Oh (Y8 0 l) := by
 have hk' : 5 ≤ k ∧ k ≤ 10 ∨ k = 13 := by omega
 have hb : decide (k = 13) = false := by simp; omega
 have hf : ∀ z o, q1C k z o = Jx (decide ((o % 2 = 1) ↔ k = 9)) := fun z o => by unfold q1C; rw [if_neg (by omega), if_neg (by omega), if_pos hk]
 by_cases h1 : ∀ v ∈ l, v = 0 ∨ v = 1
 ·rw [Ru (a := Jx (decide ((Ba l 1 % 2 = 1) ↔ k = 9))) (Yh hk') fun x hx => by
   obtain ⟨ys, hc, rfl⟩ := (F8 hk').1 hx
   rw [hf, qIY hc h1], qAn (.inl rfl) h1]
  rcases hk with rfl | rfl <;> by_cases h2 : Ba l 1 % 2 = 1 <;> simp [Jx, Oh, h2]
 ·have e : ∃ v, v ∈ l ∧ ¬ (v = 0 ∨ v = 1) := by
   refine Classical.byContradiction fun hn => h1 fun v hv => Classical.byContradiction fun hv1 => hn ⟨v, hv, hv1⟩
  obtain ⟨v, hv, hv1⟩ := e
  have hv4 := h4 v hv
  unfold V4 at hv4
  rw [qEB ⟨v, hv, by omega⟩]
  obtain ⟨a, b, rfl⟩ := List.append_of_mem hv
  have hvc : ∀ y, y = 0 ∨ y = 1 → y ∈ By v false := by
   intro y hy
   unfold By
   rw [if_neg (by omega), if_neg (by omega)]
   simpa using hy
  have mk : ∀ y, y = 0 ∨ y = 1 → q1C k (Ba (a.map go0 ++ y :: b.map go0) 0) (Ba (a.map go0 ++ y :: b.map go0) 1) ∈ M3 k (a ++ v :: b) := fun y hy =>
   (F8 hk').2 ⟨_, by rw [hb]; exact qGK (Vk fun v _ => qCo) (.cons (hvc y hy) (Vk fun v _ => qCo)), rfl⟩
  rw [q7V (mk 0 (.inl rfl)) (mk 1 (.inr rfl))]
  ·rcases hk with rfl | rfl <;> simp [Oh]
  ·rw [hf, hf]
   have c0 : Ba (a.map go0 ++ 0 :: b.map go0) 1 = Ba (a.map go0) 1 + Ba (b.map go0) 1 := by
    rw [q7U]; unfold Ba; rw [List.countP_cons]; simp
   have c1 : Ba (a.map go0 ++ 1 :: b.map go0) 1 = Ba (a.map go0) 1 + Ba (b.map go0) 1 + 1 := by
    rw [q7U]; unfold Ba; rw [List.countP_cons]; simp; omega
   rw [c0, c1]
   generalize Ba (a.map go0) 1 + Ba (b.map go0) 1 = n
   rcases Nat.mod_two_eq_zero_or_one n with h | h
   ·have h' : (n + 1) % 2 = 1 := by omega
    rcases hk with rfl | rfl <;> simp [Jx, h, h']
   ·have h' : (n + 1) % 2 = 0 := by omega
    rcases hk with rfl | rfl <;> simp [Jx, h, h']
def Yi (c : Bd) (rd : List (List Int)) : List Int := (mems c).map fun n => (rd.getD (nd c n).mem.toNat []).getD (nd c n).bit.toNat 0
def M4 (c : Bd) (pin pst : List Int) (rd : List (List Int)) : List Int := G5 (mems c) (Yi c rd) (q90 c pin pst)
def qGN (c : Bd) (pin pst : List Int) (rd : List (List Int)) : List Int := q55 c (Ls c) (M4 c pin pst rd)
theorem qEC {c : Bd} {rd : List (List Int)} : (Yi c rd).length = (mems c).length := by simp [Yi]
theorem Uw {c : Bd} {pin pst : List Int} {rd : List (List Int)} : (M4 c pin pst rd).length = c.nodes.l.length := by unfold M4; rw [Qg, qBz]
theorem qCB {c : Bd} {pin pst : List Int} {rd : List (List Int)} : (qGN c pin pst rd).length = c.nodes.l.length := by unfold qGN; rw [q7C, Uw]
theorem qHG {c : Bd} (h : E9 c = 0) (pin pst : List Int) (rd : List (List Int)) : qHB c (M4 c pin pst rd) (qGN c pin pst rd) := qK1 h (Ym c).1 (Ym c).2 Uw
theorem qIZ {c : Bd} {pin pst : List Int} {rd : List (List Int)} {i : Nat} (hi : i < c.nodes.l.length) :
  (M4 c pin pst rd).getD i 0 = if Ap c i = 15 then (Yi c rd).getD (Ek 15 c i) 0 else (q90 c pin pst).getD i 0 := by
 have n15 := (q4p [15] c.nodes.l 0).2
 have r15 : ∀ n ∈ mems c, 0 ≤ n := fun n hn => (Jw n hn).1
 unfold M4
 by_cases hk : Ap c i = 15
 ·obtain ⟨a, b⟩ := q4t hi hk
  have e : (mems c)[Ek 15 c i]'a = (i : Int) := by show (N5 [15] c.nodes.l 0)[Ek 15 c i] = _; rw [← b, B5 a]
  have := q7D (ns := mems c) (vs := Yi c rd) (nets := q90 c pin pst) (j := Ek 15 c i) n15 (fun n hn => by rw [qBz]; have := Jw n hn; omega) qEC.symm a
  rw [e] at this
  simp only [Int.toNat_natCast] at this
  rw [this, if_pos hk]
 ·have : (i : Int) ∉ mems c := fun hm => hk ((q9n hi).1 hm)
  rw [q1b r15 this, if_neg hk]
theorem qFO {c : Bd} {rd : List (List Int)} {i : Nat} (hi : i < c.nodes.l.length) (hk : Ap c i = 15) :
  (Yi c rd).getD (Ek 15 c i) 0 = (rd.getD (nd c i).mem.toNat []).getD (nd c i).bit.toNat 0 := by
 obtain ⟨a, b⟩ := q4t hi hk
 have e : (mems c)[Ek 15 c i]'a = (i : Int) := by show (N5 [15] c.nodes.l 0)[Ek 15 c i] = _; rw [← b, B5 a]
 have e2 : (mems c)[Ek 15 c i]? = some (i : Int) := by rw [List.getElem?_eq_getElem (l := mems c) a, e]
 unfold Yi
 rw [List.getD_eq_getElem?_getD, List.getElem?_map, e2]
 rfl
def Rx : Nat → List Int → Bool
 | i, [] => decide (i = 0)
 | i, v :: l => if v ≤ 1 ∧ v ≠ (i : Int) % 2 then false else Rx (i / 2) l
def q2r (a b : Int) : Int := if a = b then a else 2
def q1D (w : List Int) (b : Nat) : Int := if b < w.length then Dk (w.getD b 0) else 2
def Xs (w : List Int) (first : Bool) : Nat → Nat → List Int → List Int
 | 0, _, out => out
 | k + 1, b, out => Xs w first k (b + 1) (out.set b (if first then q1D w b else q2r (out.getD b 0) (q1D w b)))
def q4D (addr : List Int) : Nat → List (List Int) → List Int × Bool → List Int × Bool
 | _, [], s => s
 | i, w :: ws, s => q4D addr (i + 1) ws (if Rx i addr then (Xs w s.2 s.1.length 0 s.1, false) else s)
def Qk (words : List (List Int)) (addr : List Int) : List Int := match words with
 | [] => []
 | w :: ws => (q4D addr 0 (w :: ws) (List.replicate w.length 2, true)).1
def q7X (addr : List Int) (en : Int) : Bool := decide (en = 1) && !addr.any fun v => !Rh v
def q4E (i : Nat) (addr : List Int) (en old new : Int) : Int := if en = 0 ∨ Rx i addr = false then old else if q7X addr en = true then new else q2r old new
def Ux (i : Nat) (addr data : List Int) (en : Int) (w : List Int) : Nat → Nat → List Int
 | 0, _ => []
 | k + 1, b => q4E i addr en (q1D w b) (q1D data b) :: Ux i addr data en w k (b + 1)
def En (addr data : List Int) (en : Int) : Nat → List (List Int) → List (List Int)
 | _, [] => []
 | i, w :: ws => Ux i addr data en w w.length 0 :: En addr data en (i + 1) ws
def q7Y (v x y : Int) : Int := if v = 0 then x else if v = 1 then y else q2r x y
def qAo (i : Int) (v en w d : Int) : Int := if en = 0 ∨ v ≤ 1 ∧ v ≠ i then w else if en = 1 ∧ v ≤ 1 then d else q2r w d
theorem qIa {v : Int} (h : 0 ≤ v) : (Rx 0 [v] = !decide (v = 1)) ∧ (Rx 1 [v] = !decide (v = 0)) := by
 constructor
 ·simp only [Rx]
  by_cases h1 : v = 1
  ·simp [h1]
  ·rw [if_neg (by omega)]; simp [h1]
 ·simp only [Rx]
  by_cases h1 : v = 0
  ·simp [h1]
  ·rw [if_neg (by omega)]; simp [h1]
theorem qKg {a b c d v : Int} (h : 0 ≤ v) : Qk [[a, b], [c, d]] [v] = [q7Y v (Dk a) (Dk c), q7Y v (Dk b) (Dk d)] := by
 obtain ⟨h0, h1⟩ := qIa h
 simp only [Qk, q4D, h0, h1]
 by_cases e1 : v = 1
 ·subst e1; simp [Xs, q1D, q7Y, List.replicate]
 by_cases e0 : v = 0
 ·subst e0; simp [Xs, q1D, q7Y, List.replicate]
 simp [e0, e1, Xs, q1D, q7Y, List.replicate]
theorem qM8 {a b c d v x y en : Int} (h : 0 ≤ v) : En [v] [x, y] en 0 [[a, b], [c, d]] = [[qAo 0 v en (Dk a) (Dk x), qAo 0 v en (Dk b) (Dk y)], [qAo 1 v en (Dk c) (Dk x), qAo 1 v en (Dk d) (Dk y)]] := by
 obtain ⟨h0, h1⟩ := qIa h
 have e : ∀ (o n : Int), q4E 0 [v] en o n = qAo 0 v en o n ∧ q4E 1 [v] en o n = qAo 1 v en o n := fun o n => by
  unfold q4E qAo q7X
  rw [h0, h1]
  simp only [List.any_cons, List.any_nil, Rh]
  constructor
  ·by_cases e1 : v = 1 <;> by_cases e2 : en = 0 <;> by_cases e3 : en = 1 <;> by_cases e4 : v ≤ 1 <;> simp_all <;> omega
  ·by_cases e1 : v = 0 <;> by_cases e2 : en = 0 <;> by_cases e3 : en = 1 <;> by_cases e4 : v ≤ 1 <;> simp_all <;> omega
 simp [En, Ux, q1D, e]
def M5 (l : List Int) : Int := if l = [] then 2 else if l.any (fun x => decide (x ≠ l.getD 0 0)) then 2 else l.getD 0 0
def chB (w : List Int) (b : Nat) : List Int := if b < w.length then By (w.getD b 0) false else [0, 1]
def Bq (words : List (List Int)) (all : List Int) (b : Nat) : List Int := all.flatMap fun i : Int => if i < (words.length : Int) then chB (words.getD i.toNat []) b else []
def Dc (w : List Int) (at' : Int) (all en : List Int) (data : List Int) (b : Nat) : List Int := all.flatMap fun i => en.flatMap fun k => if k = 1 ∧ i = at' then chB data b else chB w b
theorem Ed (v : Int) : By v false = [0] ∧ v = 0 ∨ By v false = [1] ∧ v = 1 ∨ By v false = [0, 1] ∧ v ≠ 0 ∧ v ≠ 1 := by
 unfold By
 by_cases h0 : v = 0
 ·exact .inl ⟨by simp [h0], h0⟩
 by_cases h1 : v = 1
 ·exact .inr (.inl ⟨by simp [h1], h1⟩)
 exact .inr (.inr ⟨by simp [h0, h1], h0, h1⟩)
theorem Wb {v : Int} (h : V4 v) : Dk v = if v = 0 then 0 else if v = 1 then 1 else 2 := by
 unfold Dk V4 at *
 repeat' split
 all_goals omega
theorem qIb {a b c d v : Int} (h : 0 ≤ v) (ha : V4 a) (hb : V4 b) (hc : V4 c) (hd : V4 d) :
  M5 (Bq [[a, b], [c, d]] (By v false) 0) = q7Y v (Dk a) (Dk c) ∧ M5 (Bq [[a, b], [c, d]] (By v false) 1) = q7Y v (Dk b) (Dk d) := by
 rw [Wb ha, Wb hb, Wb hc, Wb hd]
 constructor
 ·obtain ⟨e, hv⟩ | ⟨e, hv⟩ | ⟨e, hv⟩ := Ed v <;> obtain ⟨e1, h1⟩ | ⟨e1, h1⟩ | ⟨e1, h1⟩ := Ed a <;> obtain ⟨e2, h2⟩ | ⟨e2, h2⟩ | ⟨e2, h2⟩ := Ed c <;> (rw [e]; simp [Bq, chB, e1, e2, M5]; try simp [q7Y, q2r, hv, h1, h2])
 ·obtain ⟨e, hv⟩ | ⟨e, hv⟩ | ⟨e, hv⟩ := Ed v <;> obtain ⟨e1, h1⟩ | ⟨e1, h1⟩ | ⟨e1, h1⟩ := Ed b <;> obtain ⟨e2, h2⟩ | ⟨e2, h2⟩ | ⟨e2, h2⟩ := Ed d <;> (rw [e]; simp [Bq, chB, e1, e2, M5]; try simp [q7Y, q2r, hv, h1, h2])
theorem qGO {i a b x y v en : Int} (hi : i = 0 ∨ i = 1) (h : 0 ≤ v) (ha : V4 a) (hb : V4 b) (hx : V4 x) (hy : V4 y) :
  M5 (Dc [a, b] i (By v false) (By en false) [x, y] 0) = qAo i v en (Dk a) (Dk x) ∧ M5 (Dc [a, b] i (By v false) (By en false) [x, y] 1) = qAo i v en (Dk b) (Dk y) := by
 rw [Wb ha, Wb hb, Wb hx, Wb hy]
 have hle : v ≠ 0 → v ≠ 1 → ¬ v ≤ 1 := fun p q r => by omega
 constructor
 ·obtain ⟨e, hv⟩ | ⟨e, hv⟩ | ⟨e, hv⟩ := Ed v <;> obtain ⟨e3, h3⟩ | ⟨e3, h3⟩ | ⟨e3, h3⟩ := Ed en <;> obtain ⟨e1, h1⟩ | ⟨e1, h1⟩ | ⟨e1, h1⟩ := Ed a <;> obtain ⟨e2, h2⟩ | ⟨e2, h2⟩ | ⟨e2, h2⟩ := Ed x <;> rcases hi with hi | hi <;> (rw [e, e3]; simp [Dc, chB, e1, e2, M5, hi]; try simp [qAo, q2r, hv, h1, h2, h3, hi, hle])
 ·obtain ⟨e, hv⟩ | ⟨e, hv⟩ | ⟨e, hv⟩ := Ed v <;> obtain ⟨e3, h3⟩ | ⟨e3, h3⟩ | ⟨e3, h3⟩ := Ed en <;> obtain ⟨e1, h1⟩ | ⟨e1, h1⟩ | ⟨e1, h1⟩ := Ed b <;> obtain ⟨e2, h2⟩ | ⟨e2, h2⟩ | ⟨e2, h2⟩ := Ed y <;> rcases hi with hi | hi <;> (rw [e, e3]; simp [Dc, chB, e1, e2, M5, hi]; try simp [qAo, q2r, hv, h1, h2, h3, hi, hle])
end Go.Lg
namespace Go.Lg
open Go
section
variable {P : Program} {Γ : Tables} {Q : AX → St → Prop} {s : St}
/- slices.Repeat[[]probecard/api.Value,probecard/api.Value] (function 140) -/
abbrev M6 : IC := .gh (.seq (.seq (.reg [om 34 8, om 35 7, od 36 (le 0 35), od 37 (.bin .lss (tm 34) (tm 36))] [kp [7, 8, 37] [30]]) (.cond (tm 37) .skip (.exit 0))) (.block 1 (.reg [om 38 8, om 39 7, om 40 8, od 41 (.slice 1 (tm 39) (some (tm 40))
 none none), om 42 7, om 43 8, od 44 (.slice 1 (tm 42) none (some (tm 43)) none), od 45 (.cpy 1 (tm 41) (tm 44)), od 46 (.bin .add (tm 38) (tm 45)), om 8 46] [kp [7, 8] [30]]))) [kp [7, 8] [30]]
def Eb : IC := .loop M6
abbrev M7 : IC := (.seq (.reg [od 4 (.mv kN)] [kp [0, 1] []]) (.seq (.seq (.reg [om 9 1, od 10 (.bin .lss (tm 9) (ki 0))] [kp [0, 1, 10] []]) (.cond (tm 10) .dead .skip)) (.seq (.reg [om 13 0, od 14 (le 0 13), od 15 (.conv .u64 (tm 14)), om 16 1, od
 17 (.conv .u64 (tm 16)), od 18 (.call 163 [(tm 15), (tm 17)]), om 12 18, od 19 (ex 12 0), od 20 (ex 12 1), om 5 19, om 6 20] [kp [0, 5, 6] []]) (.seq (.seq (.reg [om 21 5, od 22 (.bin .gtr (tm 21) (.const (.int .u64 0))), om 23 22,
 oF 24 (.mv (tm 6)) 23, oF 25 (.bin .gtr (tm 24) (.const (.int .u64 9223372036854775807))) 23, od 26 (.pick (tm 23) kT (tm 25))] [kp [0, 6, 26] []]) (.cond (tm 26) .dead .skip)) (.seq (.reg [om 28 6, od 29 (.conv .i64 (tm 28)), od
 30 (.mk 64 1 [(.int .u8 0)] (tm 29) (tm 29)), om 7 30] [kp [0, 7] [30]]) (.seq (.reg [om 31 7, om 32 0, od 33 (.cpy 1 (tm 31) (tm 32)), om 8 33] [kp [7, 8] [30]]) (.seq (.block 0 Eb) (.seq (.reg [om 47 7, om
 4 47] [kp [4] [30]]) .ret))))))))
theorem Eo (h : ∀ K : St → Prop, K = run P Γ Eb Q → run P Γ M6 (An K Q) s) : run P Γ Eb Q s := Af h
def Gs : List RV := [.tmp 4]
/- probecard/sims.Blank (function 95) -/
abbrev q97 : IC := (.seq (.reg [od 4 (.mv (.const (.int .u64 0))), od 5 (.mv (.const (.int .u64 0)))] [kp [0, 1] []]) (.seq (.cond kF (.seq (.reg [om 11 0, od 12 (.conv .u32 (tm 11)), om 13 1, od 14 (.conv .u32 (tm 13)), od 15 (.call 181 [(tm 12),
 (tm 14)]), om 10 15, od 16 (ex 10 0), od 17 (ex 10 1), om 6 16, om 7 17] [kp [6, 7] []]) (.seq (.reg [om 18 6, od 19 (.conv .u64 (tm 18)), om 20 7, od 21 (.conv .u64 (tm 20)), om 4 19, om 5 21] [kp [4, 5] []]) .ret)) .skip) (.seq
 (.reg [om 23 0, om 24 1, od 25 (.call 182 [(tm 23), (tm 24)]), om 22 25, od 26 (ex 22 0), od 27 (ex 22 1), om 8 26, om 9 27] [kp [8, 9] []]) (.seq (.reg [om 28 8, om 29 9, om 4 28, om 5 29] [kp [4, 5] []]) .ret))))
def q98 : List RV := [.tmp 4, .tmp 5]
/- math/bits.Mul64 (function 182) -/
abbrev q5b : IC := (.seq (.reg [od 4 (.mv (.const (.int .u64 0))), od 5 (.mv (.const (.int .u64 0)))] [kp [0, 1] []]) (.seq (.reg [om 14 0, od 15 (.bin .and (tm 14) (.const (.int .u64 4294967295))), om 6 15] [kp [0, 1, 6] []]) (.seq (.reg [om 16 0,
 od 17 (.bin .shr (tm 16) (.const (.int .u64 32))), om 7 17] [kp [0, 1, 6, 7] []]) (.seq (.reg [om 18 1, od 19 (.bin .and (tm 18) (.const (.int .u64 4294967295))), om 8 19] [kp [0, 1, 6, 7, 8] []]) (.seq (.reg [om 20 1, od 21 (.bin
 .shr (tm 20) (.const (.int .u64 32))), om 9 21] [kp [0, 1, 6, 7, 8, 9] []]) (.seq (.reg [om 22 6, om 23 8, od 24 (.bin .mul (tm 22) (tm 23)), om 10 24] [kp [0, 1, 6, 7, 8, 9, 10] []]) (.seq (.reg [om 25 7, om 26 8, od 27 (.bin .mul
 (tm 25) (tm 26)), om 28 10, od 29 (.bin .shr (tm 28) (.const (.int .u64 32))), od 30 (.bin .add (tm 27) (tm 29)), om 11 30] [kp [0, 1, 6, 7, 9, 11] []]) (.seq (.reg [om 31 11, od 32 (.bin .and (tm 31) (.const (.int .u64
 4294967295))), om 12 32] [kp [0, 1, 6, 7, 9, 11, 12] []]) (.seq (.reg [om 33 11, od 34 (.bin .shr (tm 33) (.const (.int .u64 32))), om 13 34] [kp [0, 1, 6, 7, 9, 12, 13] []]) (.seq (.reg [om 35 12, om 36 6, om 37 9, od 38 (.bin
 .mul (tm 36) (tm 37)), od 39 (.bin .add (tm 35) (tm 38)), om 12 39] [kp [0, 1, 7, 9, 12, 13] []]) (.seq (.reg [om 40 7, om 41 9, od 42 (.bin .mul (tm 40) (tm 41)), om 43 13, od 44 (.bin .add (tm 42) (tm 43)), om 45 12, od 46 (.bin
 .shr (tm 45) (.const (.int .u64 32))), od 47 (.bin .add (tm 44) (tm 46)), om 4 47] [kp [0, 1, 4] []]) (.seq (.reg [om 48 0, om 49 1, od 50 (.bin .mul (tm 48) (tm 49)), om 5 50] [kp [4, 5] []]) .ret))))))))))))
def q5c : List RV := [.tmp 4, .tmp 5]
end
end Go.Lg
namespace Go.Lg
open Go Go.Proofs
theorem Yj : Au Tryz.prog 140 M7 48 2 Gs = true := by kernel_rfl
theorem qCp : Au Tryz.prog 163 q97 30 2 q98 = true := by kernel_rfl
theorem qAp : Au Tryz.prog 182 q5b 51 2 q5c = true := by kernel_rfl
end Go.Lg
namespace Go.Lg
open Go
section
variable {P : Program} {Γ : Tables} {Q : AX → St → Prop} {s : St}
/- slices.Clone[[]probecard/api.Value,probecard/api.Value] (function 53) -/
abbrev Eg : IC := (.seq (.reg [od 2 (.mv kN)] [kp [0] []]) (.seq (.seq (.reg [om 3 0, od 4 (.isNil true (tm 3))] [kp [0, 4] []]) (.cond (tm 4) (.seq (.reg [od 2 (.mv kN)] [kp [2] []]) .ret) .skip)) (.seq (.reg [od 5 (.bsl true 64 1 []), om 6 0, od 7
 (.appT 64 1 (tm 5) (tm 6)), om 2 7] [kp [2] []]) .ret)))
def Eh : List RV := [.tmp 2]
end
end Go.Lg
namespace Go.Lg
open Go Go.Proofs
theorem Zr : Au Tryz.prog 53 Eg 8 1 Eh = true := by kernel_rfl
end Go.Lg
namespace Go.Lg
open Go Go.Proofs
variable {Γ : Tables}
abbrev Pnt := Int × Int
def qIc (l : List (Int × Pnt)) (n : Int) : Pnt := match l.find? (fun p => p.1 == n) with | some p => p.2 | none => (0, 0)
def qKh (l : List (Int × Pnt)) : Prop := ∀ p ∈ l, -1000000 ≤ p.2.1 ∧ p.2.1 ≤ 1000000 ∧ -1000000 ≤ p.2.2 ∧ p.2.2 ≤ 1000000
theorem qKh.at {l : List (Int × Pnt)} (h : qKh l) (n : Int) : -1000000 ≤ (qIc l n).1 ∧ (qIc l n).1 ≤ 1000000 ∧ -1000000 ≤ (qIc l n).2 ∧ (qIc l n).2 ≤ 1000000 := by
 unfold qIc
 split
 ·rename_i p hp
  exact h p (List.mem_of_find?_eq_some hp)
 ·simp
def qOb {α : Type} (s : Sl α) : Prop := (s.nl = some true → s.l = []) ∧ (s.nl = none → s.l ≠ []) ∧ s.l.length ≤ 1000000
theorem q8T (s : Sl Int) (hs : qOb s) : Ah Tryz.prog Γ 53 [tV s] (if s.nl = some true then .sl [] (some 0) (some true) else .sl (Ai s.l) none none) := by
 refine B7 Zr rfl ?_
 obtain ⟨l, cap, nl⟩ := s
 obtain ⟨h1, h2, h3⟩ := hs
 simp only at h1 h2 h3
 rcases nl with _ | _ | _
 ·have h4 : Ai l ≠ [] := by simpa [Aj] using h2 rfl
  simp (disch := omega) [Eg, Eh, A8, A5, h4, Bv, tV]
  omega
 ·simp (disch := omega) [Eg, Eh, A8, A5, Bv, tV]
  omega
 ·have := h1 rfl
  subst this
  simp [Eg, Eh, tV]
theorem qId {w : World} {X : Nat → Prop} {cap : Option Nat} {v : Value} (h : TR w X (.sl [] cap none) v) : TR w X (.sl [] cap (some true)) v ∨ TR w X (.sl [] cap (some false)) v := by
 cases h with
 | nil _ _ a c hc hn hz =>
  cases a with
  | none => exact .inl (.nil cap (some true) none c hc (fun b hb => by cases hb; rfl) hz)
  | some a => exact .inr (.nil cap (some false) (some a) c hc (fun b hb => by cases hb; rfl) hz)
 | sl _ _ _ s b off c f hcell hlen hrel hone hx hle hc hq =>
  exact .inr (.sl [] cap (some false) s b off c f hcell hlen hrel hone hx hle hc (fun q hq => by cases hq; rfl))
theorem qK7 {w : World} {X : Nat → Prop} {es : List (List T)} {cap : Option Nat} {nl : Option Bool} {v : Value} (h : TR w X (.sl es cap nl) v) : TR w X (.sl es none none) v := by
 cases h with
 | nil _ _ a c hc hn hz => exact .nil none none a c (fun n h => nomatch h) (fun n h => nomatch h) hz
 | sl _ _ _ s b off c f hcell hlen hrel hone hx hle hc hq => exact .sl es none none s b off c f hcell hlen hrel hone hx hle (fun n h => nomatch h) (fun n h => nomatch h)
theorem qCC {P : Program} {f : FuncId} {args : List T} {es : List (List T)} {cap : Option Nat} {nl : Option Bool} (h : Ah P Γ f args (.sl es cap nl)) : Ah P Γ f args (.sl es none none) :=
 fun w X vs hg hx hr => (h w X vs hg hx hr).mono fun v w' ⟨hb, ht⟩ => ⟨hb, qK7 ht⟩
theorem qFP {P : Program} {f : FuncId} {cap : Option Nat} {r : T} (h1 : Ah P Γ f [.sl [] cap (some true)] r) (h2 : Ah P Γ f [.sl [] cap (some false)] r) : Ah P Γ f [.sl [] cap none] r :=
 fun w X vs hg hx hr => by
  obtain ⟨x, ys, rfl, hx1, hy⟩ := hr.cons_inv
  rcases qId hx1 with h | h
  ·exact h1 w X _ hg hx (Fp.cons h hy)
  ·exact h2 w X _ hg hx (Fp.cons h hy)
def qCq (s : Sl Int) : Sl Int := if s.nl = some true then ⟨[], some 0, some true⟩ else ⟨s.l, none, none⟩
theorem qHH (s : Sl Int) (h1 : s.nl = some true → s.l = []) (h2 : s.l.length ≤ 1000000) : Ah Tryz.prog Γ 53 [tV s] (tV (qCq s)) := by
 obtain ⟨l, cap, nl⟩ := s
 simp only at h1 h2
 by_cases h3 : nl = none ∧ l = []
 ·obtain ⟨rfl, rfl⟩ := h3
  have a1 := q8T (Γ := Γ) ⟨[], cap, some true⟩ ⟨fun _ => rfl, (fun h => nomatch h), Nat.zero_le _⟩
  have a2 := q8T (Γ := Γ) ⟨[], cap, some false⟩ ⟨(fun h => nomatch h), (fun h => nomatch h), Nat.zero_le _⟩
  exact qFP (qCC a1) (qCC a2)
 ·have := q8T (Γ := Γ) ⟨l, cap, nl⟩ ⟨h1, fun a b => h3 ⟨a, b⟩, h2⟩
  unfold qCq
  by_cases hn : nl = some true
  ·have hl := h1 hn
   subst hn
   subst hl
   simpa [tV, Cf] using this
  ·simpa [tV, hn] using this
end Go.Lg
namespace Go.Lg
open Go
section
variable {P : Program} {Γ : Tables} {Q : AX → St → Prop} {s : St}
/- slices.Clip[[][]probecard/api.Value,[]probecard/api.Value] (function 57) -/
abbrev O0 : IC := (.seq (.reg [od 2 (.mv kN)] [kp [0] []]) (.seq (.reg [om 3 0, om 4 0, od 5 (le 0 4), om 6 0, od 7 (le 0 6), od 8 (.slice 1 (tm 3) none (some (tm 5)) (some (tm 7))), om 2 8] [kp [2] []]) .ret))
def O1 : List RV := [.tmp 2]
end
end Go.Lg
namespace Go.Lg
open Go Go.Proofs
theorem Zs : Au Tryz.prog 57 O0 9 1 O1 = true := by kernel_rfl
end Go.Lg
namespace Go.Lg
open Go Go.Proofs
variable {Γ : Tables}
def qNj (l : List (Sl Int)) : List Int := (l.map fun s => s.l).flatten
end Go.Lg
namespace Go.Lg
open Go Go.Proofs
def m0 (c : Bd) (ch : List (Sl Int)) : Nat := c.nodes.l.length + 1 + ch.length
end Go.Lg
namespace Go.Lg
open Go Go.Proofs
variable {Γ : Tables}
theorem Jv {α : Type} {f : α → T} {l : List α} {i : Nat} (d : α) (h0 : i < l.length) : ∀ h : i < (Aj f l).length, (Aj f l)[i] = [f (l.getD i d)] := fun h => by
 have := Cb (f := f) d h0
 rw [List.getElem?_eq_getElem h] at this
 simpa [List.getD_eq_getElem?_getD] using this
theorem gE {α : Type} {f : α → T} {l : List α} {i : Nat} (d : α) (h0 : i < l.length) : (Aj f l)[i]?.getD [] = [f (l.getD i d)] := by
 rw [List.getElem?_eq_getElem (by rw [A5]; exact h0)]
 exact Jv d h0 _
theorem qAq {n : Int} (h1 : 0 ≤ n) (h2 : n < 18446744073709551616) : IntKind.u64.wrap n = n := by
 simp [IntKind.wrap, IntKind.signed, IntKind.bits]
 omega
theorem qNk {n : Nat} (h : n < 4294967296) : IntKind.u64.wrap ((BitVec.ofInt 64 (n : Int) &&& BitVec.ofInt 64 4294967295).toNat : Int) = n := by
 have e : (BitVec.ofInt 64 (n : Int) &&& BitVec.ofInt 64 4294967295).toNat = n := by
  rw [BitVec.toNat_and]
  have h1 : (BitVec.ofInt 64 (n : Int)).toNat = n := by
   simp [BitVec.toNat_ofInt]; omega
  have h2 : (BitVec.ofInt 64 4294967295).toNat = 2 ^ 32 - 1 := by decide
  rw [h1, h2, Nat.and_two_pow_sub_one_eq_mod]
  omega
 rw [e, qAq] <;> omega
theorem qFQ {n : Nat} (h : n < 4294967296) : IntKind.u64.wrap ((BitVec.ofNat 64 n &&& 4294967295#64).toNat : Int) = n := by
 have := qNk h
 rwa [show BitVec.ofInt 64 (n : Int) = BitVec.ofNat 64 n from by simp, show BitVec.ofInt 64 4294967295 = 4294967295#64 from rfl] at this
abbrev tU (n : Int) : T := .v (.int .u64 n)
theorem qFR {n : Nat} (h : n < 4294967296) : (n : Int).fdiv 4294967296 = 0 := by
 rw [Int.fdiv_eq_ediv_of_nonneg _ (by omega)]; omega
theorem qFS (a b : Nat) (ha : a < 65536) (hb : b < 65536) : A6 Tryz.prog Γ 182 [tU a, tU b] (.tup [tU 0, tU (a * b : Nat)]) := by
 refine Aa qAp rfl ?_
 have hab : a * b ≤ 65535 * 65535 := Nat.mul_le_mul (by omega) (by omega)
 have a1 := qFQ (n := a) (by omega)
 have b1 := qFQ (n := b) (by omega)
 have z1 := qFQ (n := 0) (by omega)
 have a2 := qFR (n := a) (by omega)
 have b2 := qFR (n := b) (by omega)
 have c2 := qFR (n := a * b) (by omega)
 have m32 : min (32 : Int).toNat 64 = 32 := by decide
 have c1 : IntKind.u64.wrap ((a : Int) * b) = ((a * b : Nat) : Int) := by rw [← Int.natCast_mul, qAq] <;> omega
 have z2 : IntKind.u64.wrap 0 = 0 := by decide
 simp [q5b, q5c, IntKind.bits, a1, b1, a2, b2, c1, c2, z1, z2, m32, -Int.natCast_mul]
 erw [a1, b1, c1, c2, z2]
theorem qIe (a b : Nat) (ha : a < 65536) (hb : b < 65536) : A6 Tryz.prog Γ 163 [tU a, tU b] (.tup [tU 0, tU (a * b : Nat)]) := by
 refine Aa qCp rfl ?_
 simp [q97]
 refine A4 (qFS a b ha hb) rfl ?_
 simp [q98]
theorem qIf {j n : Nat} (h1 : 0 < j) (h2 : j < n) : (List.replicate j [tK 2] ++ List.replicate (n - j) [tK 0]).take j ++ ((List.replicate j [tK 2] ++ List.replicate (n - j) [tK 0]).take j).take (min (n - j) j) ++ (List.replicate j [tK 2] ++ List.replicate (n - j) [tK 0]).drop (j + min (n - j) j) = List.replicate (j + min (n - j) j) [tK 2] ++ List.replicate (n - (j + min (n - j) j)) [tK 0] := by
 have e1 : (List.replicate j [tK 2] ++ List.replicate (n - j) [tK 0]).take j = List.replicate j [tK 2] := by
  rw [List.take_append_of_le_length (by simp), List.take_of_length_le (by simp)]
 have e2 : (List.replicate j [tK 2]).take (min (n - j) j) = List.replicate (min (n - j) j) [tK 2] := by
  rw [List.take_replicate, Nat.min_eq_left (Nat.min_le_right _ _)]
 rw [e1, e2, ← List.replicate_append_replicate (n := j), List.drop_append, List.drop_of_length_le (by simp), List.nil_append, List.drop_replicate]
 congr 2
 simp; omega
theorem qED {Q : AX → St → Prop} (n : Nat) (hn : n ≤ 1000000)
  (h0 : Q (.exit 0) ⟨[(7, .ls 30 0 n none), (8, .t (tI n)), (37, .t (tB false))], [(30, .sl 64 1 (List.replicate n [tK 2]))]⟩) :
  ∀ (f j : Nat), n - j ≤ f → 0 < j → j ≤ n →
  run Tryz.prog Γ Eb Q ⟨[(7, .ls 30 0 n none), (8, .t (tI j))], [(30, .sl 64 1 (List.replicate j [tK 2] ++ List.replicate (n - j) [tK 0]))]⟩
 | 0, j, hf, h1, h2 => by
  refine Eo fun K hK => ?_
  have h3 : j = n := by omega
  subst h3
  simp
  simpa using h0
 | f + 1, j, hf, h1, h2 => by
  refine Eo fun K hK => ?_
  by_cases h3 : j = n
  ·subst h3
   simp
   simpa using h0
  ·have h4 : j < n := by omega
   have ih := qED n hn h0 f (j + min (n - j) j) (by omega) (by omega) (by omega)
   rw [← qIf h1 h4] at ih
   have hw : E2 1 (List.replicate j [tK 2] ++ List.replicate (n - j) [tK 0]) := by
    intro e he
    rcases List.mem_append.1 he with he | he <;> rw [List.eq_of_mem_replicate he] <;> rfl
   have hl : (List.replicate j [tK 2] ++ List.replicate (n - j) [tK 0]).length = n := by simp; omega
   generalize List.replicate j [tK 2] ++ List.replicate (n - j) [tK 0] = es at *
   have hwt : E2 1 (es.take j) := fun e he => hw e (List.mem_of_mem_take he)
   have hjn : min j n = j := by omega
   have w1 : IntKind.i64.wrap ((j : Int) + ((min (n - j) j : Nat) : Int)) = ((j + min (n - j) j : Nat) : Int) := by rw [A9] <;> omega
   simp [h4, h2, hl, hwt, hjn, w1, -Int.natCast_add]
   rw [hK]
   simpa using ih
theorem qOc {n : Nat} (h : n < 4611686018427387904) : IntKind.i64.wrap ((n % 2 ^ IntKind.i64.bits &&& 1 % 2 ^ IntKind.i64.bits : Nat) : Int) = ((n % 2 : Nat) : Int) := by
 have e : (n % 2 ^ IntKind.i64.bits &&& 1 % 2 ^ IntKind.i64.bits : Nat) = n % 2 := by
  have h0 : IntKind.i64.bits = 64 := rfl
  rw [h0, Nat.mod_eq_of_lt (show n < 2 ^ 64 by omega), show 1 % 2 ^ 64 = 2 ^ 1 - 1 by decide, Nat.and_two_pow_sub_one_eq_mod]
 rw [e, A9] <;> omega
theorem qNl {n : Nat} : (n : Int).fdiv (2 ^ min 1 IntKind.i64.bits) = ((n / 2 : Nat) : Int) := by
 have h1 : min 1 IntKind.i64.bits = 1 := by decide
 rw [h1, Int.fdiv_eq_ediv_of_nonneg _ (by omega)]; omega
theorem qFT {Q : AX → St → Prop} (addr : Sl Int) (hl : addr.l.length ≤ 1000000) (hv : ∀ v ∈ addr.l, 0 ≤ v) (R : Bool)
  (h0 : ∀ i : Nat, decide (i = 0) = R → Q (.exit 0) ⟨[(0, .t (tI i)), (7, .t (tV addr)), (8, .t (tI addr.l.length)), (9, .t (tI addr.l.length)), (10, .t (tB false))], []⟩)
  (h1 : R = false → Q .ret ⟨[(4, .t (tB false))], []⟩) :
  ∀ (k j i : Nat), k + j = addr.l.length → i ≤ 1000000000 → Rx i (addr.l.drop j) = R →
  run Tryz.prog Γ I3 Q ⟨[(0, .t (tI i)), (7, .t (tV addr)), (8, .t (tI addr.l.length)), (9, .t (tI j))], []⟩
 | 0, j, i, h, hi, hR => by
  refine Qj fun K hK => ?_
  have h2 : j = addr.l.length := by omega
  subst h2
  rw [List.drop_of_length_le (Nat.le_refl _)] at hR
  have := h0 i hR
  simp
  simpa using this
 | k + 1, j, i, h, hi, hR => by
  refine Qj fun K hK => ?_
  have h2 : j < addr.l.length := by omega
  rw [List.drop_eq_getElem_cons h2] at hR
  have e1 := gE (f := tK) 0 h2
  have e1' := Jv (f := tK) 0 h2
  have hv0 := hv _ (List.getElem_mem h2)
  rw [B5 h2] at e1 e1'
  generalize addr.l[j] = v at *
  have w1 : IntKind.i64.wrap ((j : Int) + 1) = (j : Int) + 1 := by rw [A9] <;> omega
  have a1 := qOc (n := i) (by omega)
  have f1 := qNl (n := i)
  have hk := Zd (Γ := Γ) v
  simp only [Rx] at hR
  simp [tV, A5, A8, h2, e1, e1']
  refine A4 hk rfl ?_
  by_cases hv1 : v ≤ 1
  ·have wv : IntKind.i64.wrap v = v := by rw [A9] <;> omega
   by_cases hne : v = (i : Int) % 2
   ·rw [if_neg (by simp [hne])] at hR
    have ih := qFT addr hl hv R h0 h1 k (j + 1) (i / 2) (by omega) (by omega) hR
    simp [Rh, hv1, wv, a1, ← hne, f1, w1]
    rw [hK]
    simpa [tV] using ih
   ·rw [if_pos ⟨hv1, hne⟩] at hR
    simp [Rh, hv1, wv, a1, hne]
    exact h1 hR.symm
  ·rw [if_neg (by simp [hv1])] at hR
   have ih := qFT addr hl hv R h0 h1 k (j + 1) (i / 2) (by omega) (by omega) hR
   simp [Rh, hv1, f1, w1]
   rw [hK]
   simpa [tV] using ih
theorem Bl {i : Nat} (h : i ≤ 1000000000) : IntKind.i64.wrap ((i : Int) + 1) = (i : Int) + 1 := by rw [A9] <;> omega
theorem q7Z (i : Nat) (hi : i ≤ 1000000000) (addr : Sl Int) (hl : addr.l.length ≤ 1000000) (hv : ∀ v ∈ addr.l, 0 ≤ v) : A6 Tryz.prog Γ 122 [tI i, tV addr] (tB (Rx i addr.l)) := by
 refine Aa q49 rfl ?_
 have g := fun Q h0 h1 => qFT (Γ := Γ) (Q := Q) addr hl hv (Rx i addr.l) h0 h1 addr.l.length 0 i (by omega) hi rfl
 simp [Xj, tV, A5] at g ⊢
 refine g _ (fun q hq => ?_) (fun hq => ?_)
 ·simp [O7, ← hq]
 ·simp [O7, hq]
theorem q8U (w : Sl Int) (b : Nat) (hb : b ≤ 1000000000) (hw : w.l.length ≤ 1000000000) : A6 Tryz.prog Γ 123 [tV w, tI b] (tK (q1D w.l b)) := by
 refine Aa q8P rfl ?_
 unfold q1D
 by_cases h : b < w.l.length
 ·have e1 := gE (f := tK) 0 h
  have e1' := Jv (f := tK) 0 h
  rw [if_pos h]
  have hr := Up (Γ := Γ) (w.l.getD b 0)
  generalize w.l.getD b 0 = v at *
  have h2 : ¬ (w.l.length : Int) ≤ b := by omega
  have h3 : ¬ w.l.length ≤ b := by omega
  simp [X3, tV, A5, A8, h, h2, h3, e1, e1']
  refine A4 hr rfl ?_
  simp [X4]
 ·rw [if_neg h]
  have h2 : (w.l.length : Int) ≤ b := by omega
  have h3 : w.l.length ≤ b := by omega
  simp [X3, tV, A5, h2, h3, X4]
theorem q99 (a b : Int) : A6 Tryz.prog Γ 124 [tK a, tK b] (tK (q2r a b)) := by
 refine Aa q59 rfl ?_
 unfold q2r
 by_cases h : a = b
 ·simp [Pm, h, Pn]
 ·simp [Pm, h, Pn]
theorem qIg (n : Nat) (hn : n ≤ 60000) : Hn Tryz.prog Γ 140 [] [.t (.sl [[tK 2]] (some 1) (some false)), .t (tI n)] (.ls 30 0 n none) [(30, .sl 64 1 (Ai (List.replicate n 2)))] := by
 refine N7 Yj rfl ?_
 have em : A6 Tryz.prog Γ 163 [tU 1, tU n] (.tup [tU 0, tU n]) := by
  have := qIe (Γ := Γ) 1 n (by omega) (by omega)
  rwa [Nat.one_mul] at this
 have u1 : IntKind.u64.wrap (n : Int) = n := by rw [qAq] <;> omega
 have u2 : IntKind.u64.wrap 1 = 1 := by decide
 have u3 : IntKind.i64.wrap (n : Int) = n := by rw [A9] <;> omega
 have u4 : ¬ (9223372036854775807 : Int) < n := by omega
 have u5 : ¬ (n : Int) < 0 := by omega
 have hw2 : E2 1 [[tK 2]] := by intro e he; simp at he; subst he; rfl
 have v1 : Ai (List.replicate n 2) = List.replicate n [tK 2] := by simp [Aj]
 rw [v1]
 simp [M7, u1, u2, u5]
 refine A4 em rfl ?_
 simp [u3, u4]
 refine ⟨by omega, ?_⟩
 by_cases h0 : n = 0
 ·subst h0
  simp
  refine Eo fun K hK => ?_
  simp [Gs]
 ·have hm1 : min n 1 = 1 := by omega
  have hdr : (List.replicate n [tK 0]).drop 1 = List.replicate (n - 1) [tK 0] := by rw [List.drop_replicate]
  have g := fun Q h0 => qED (Γ := Γ) (Q := Q) n (by omega) h0 n 1 (by omega) (by omega) (by omega)
  simp at g
  simp [hm1]
  refine g _ ?_
  simp [Gs]
theorem qHI (n : Nat) (hn : n ≤ 60000) : Hn Tryz.prog Γ 76 [] [.t (tI n)] (.ls 5030 0 n none) [(5030, .sl 64 1 (Ai (List.replicate n 2)))] := by
 refine N7 q3I rfl ?_
 simp [W8]
 refine ⟨_, _, qIg n hn, ?_⟩
 simp [W9]
def tW (s : Sl (Sl Int)) : T := .sl (Aj tV s.l) s.cap s.nl
def Sl.z : Sl Int := ⟨[], none, none⟩
theorem qKi {Q : AX → St → Prop} (addr : Sl Int) (n : Nat) (hn : n ≤ 1000000) (first : Bool) (w : Sl Int) (hw : w.l.length ≤ 1000000) (tw : T) (len i : Int) (R : List Int)
  (h0 : R.length = n → Q (.exit 2) ⟨[(1, .t (tV addr)), (5, .ls 22030 0 n none), (6, .t (tB first)), (8, .t (tV w)), (18, .t tw), (19, .t (tI len)), (20, .t (tI i)), (30, .t (tI n)), (31, .t (tI n)), (32, .t (tB false))], [(22030, .sl 64 1 (Ai R))]⟩) :
  ∀ (k b : Nat) (out : List Int), k + b = n → out.length = n → Xs w.l first k b out = R →
  run Tryz.prog Γ Na Q ⟨[(1, .t (tV addr)), (5, .ls 22030 0 n none), (6, .t (tB first)), (8, .t (tV w)), (18, .t tw), (19, .t (tI len)), (20, .t (tI i)), (30, .t (tI n)), (31, .t (tI b))], [(22030, .sl 64 1 (Ai out))]⟩
 | 0, b, out, h, ho, hR => by
  refine W6 fun K hK => ?_
  have h2 : b = n := by omega
  subst h2
  have hR : out = R := hR
  subst hR
  simp
  simpa using h0 ho
 | k + 1, b, out, h, ho, hR => by
  refine W6 fun K hK => ?_
  have h2 : b < n := by omega
  have hbo : b < out.length := by omega
  simp only [Xs] at hR
  have ih := qKi addr n hn first w hw tw len i R h0 k (b + 1) _ (by omega) (by rw [List.length_set]; exact ho) hR
  have e1 := gE (f := tK) 0 hbo
  have e1' := Jv (f := tK) 0 hbo
  have hb := q8U (Γ := Γ) w b (by omega) (by omega)
  have hs : ∀ v : Int, (Ai out).set b [tK v] = Ai (out.set b v) := fun v => Fj
  have w1 := Bl (i := b) (by omega)
  generalize out.getD b 0 = o at *
  cases first with
  | true =>
   simp only [if_pos] at ih
   simp [h2]
   refine A4 hb rfl ?_
   simp [h2, hbo, A5, hs, w1, ho]
   rw [hK]
   simpa using ih
  | false =>
   simp only [Bool.false_eq_true, if_false] at ih
   simp [h2, hbo, A5, A8, e1, e1', ho]
   refine A4 hb rfl ?_
   simp
   refine A4 (q99 o (q1D w.l b)) rfl ?_
   simp [h2, hbo, A5, hs, w1, ho]
   rw [hK]
   simpa using ih
theorem qIh {Q : AX → St → Prop} (addr : Sl Int) (ha : addr.l.length ≤ 1000000) (hv : ∀ v ∈ addr.l, 0 ≤ v) (n : Nat) (hn : n ≤ 1000000) (words : Sl (Sl Int)) (hl : words.l.length ≤ 1000000) (hw : ∀ w ∈ words.l, w.l.length ≤ 1000000) (R : List Int × Bool)
  (h0 : R.1.length = n → Q (.exit 0) ⟨[(1, .t (tV addr)), (5, .ls 22030 0 n none), (6, .t (tB R.2)), (18, .t (tW words)), (19, .t (tI words.l.length)), (20, .t (tI words.l.length)), (21, .t (tB false))], [(22030, .sl 64 1 (Ai R.1))]⟩) :
  ∀ (k i : Nat) (out : List Int) (first : Bool), k + i = words.l.length → out.length = n → q4D addr.l i ((words.l.drop i).map (·.l)) (out, first) = R →
  run Tryz.prog Γ Nb Q ⟨[(1, .t (tV addr)), (5, .ls 22030 0 n none), (6, .t (tB first)), (18, .t (tW words)), (19, .t (tI words.l.length)), (20, .t (tI i))], [(22030, .sl 64 1 (Ai out))]⟩
 | 0, i, out, first, h, ho, hR => by
  refine W7 fun K hK => ?_
  have h2 : i = words.l.length := by omega
  subst h2
  rw [List.drop_of_length_le (Nat.le_refl _)] at hR
  have hR : (out, first) = R := hR
  subst hR
  have := h0 ho
  simp
  simpa using this
 | k + 1, i, out, first, h, ho, hR => by
  refine W7 fun K hK => ?_
  have h2 : i < words.l.length := by omega
  rw [List.drop_eq_getElem_cons h2, List.map_cons] at hR
  simp only [q4D] at hR
  have e1 := gE (f := tV) Sl.z h2
  have e1' := Jv (f := tV) Sl.z h2
  have hwi := hw _ (List.getElem_mem h2)
  rw [show words.l.getD i Sl.z = words.l[i] by simp [List.getD_eq_getElem?_getD, h2]] at e1 e1'
  have hm := q7Z (Γ := Γ) i (by omega) addr ha hv
  have w1 := Bl (i := i) (by omega)
  by_cases hmm : Rx i addr.l = true
  ·rw [if_pos hmm] at hR
   have hlen : ∀ (w : List Int) (f : Bool) (k b : Nat) (o : List Int), (Xs w f k b o).length = o.length := by
    intro w f k
    induction k with
    | zero => intro b o; rfl
    | succ k ih => intro b o; simp only [Xs]; rw [ih, List.length_set]
   have ih := qIh addr ha hv n hn words hl hw R h0 k (i + 1) _ _ (by omega) (by rw [hlen]; exact ho) hR
   generalize words.l[i] = w at *
   have g := fun Q h0 => qKi (Γ := Γ) (Q := Q) addr n hn first w hwi (tW words) words.l.length i (Xs w.l first n 0 out) h0 n 0 out (by omega) ho rfl
   simp only [ho] at ih
   generalize Xs w.l first n 0 out = R1 at *
   rw [hmm] at hm
   simp [tW] at ih g
   simp [tW, A5, A8, h2, e1, e1']
   refine A4 hm rfl ?_
   simp [h2]
   refine g _ fun hR1 => ?_
   simp [w1]
   rw [hK]
   simpa using ih
  ·rw [if_neg hmm] at hR
   have ih := qIh addr ha hv n hn words hl hw R h0 k (i + 1) _ _ (by omega) ho hR
   generalize words.l[i] = w at *
   simp only [Bool.not_eq_true] at hmm
   rw [hmm] at hm
   simp [tW] at ih
   simp [tW, A5, A8, h2, e1, e1']
   refine A4 hm rfl ?_
   simp [w1]
   rw [hK]
   simpa using ih
theorem qCD (words : Sl (Sl Int)) (hl : words.l.length ≤ 1000000) (hw : ∀ w ∈ words.l, w.l.length ≤ 60000) (addr : Sl Int) (ha : addr.l.length ≤ 1000000) (hv : ∀ v ∈ addr.l, 0 ≤ v) :
  Ah Tryz.prog Γ 54 [tW words, tV addr] (if words.l = [] then .sl [] (some 0) (some true) else .sl (Ai (Qk (words.l.map (·.l)) addr.l)) none none) := by
 refine B7 q7P rfl ?_
 by_cases h0 : words.l = []
 ·rw [if_pos h0]
  simp [Us, tW, h0, Cf, Ut]
 ·rw [if_neg h0]
  have h1 : 0 < words.l.length := List.length_pos_iff.2 h0
  have e1 := gE (f := tV) Sl.z h1
  have e1' := Jv (f := tV) Sl.z h1
  rw [show words.l.getD 0 Sl.z = words.l[0] by simp [List.getD_eq_getElem?_getD, h1]] at e1 e1'
  have hw0 := hw _ (List.getElem_mem h1)
  have hu := qHI (Γ := Γ) words.l[0].l.length hw0
  have hR : Qk (words.l.map (·.l)) addr.l = (q4D addr.l 0 (words.l.map (·.l)) (List.replicate words.l[0].l.length 2, true)).1 := by
   obtain ⟨l, cp, n0⟩ := words
   cases l with
   | nil => exact absurd rfl h0
   | cons w ws => rfl
  rw [hR]
  generalize words.l[0] = w at *
  have g := fun Q h0 => qIh (Γ := Γ) (Q := Q) addr ha hv w.l.length (by omega) words hl (fun w h => by have := hw w h; omega) (q4D addr.l 0 (words.l.map (·.l)) (List.replicate w.l.length 2, true)) h0 words.l.length 0 (List.replicate w.l.length 2) true (by omega) (by simp) (by rw [List.drop_zero])
  generalize q4D addr.l 0 (words.l.map (·.l)) (List.replicate w.l.length 2, true) = R at *
  obtain ⟨R1, R2⟩ := R
  simp [tW] at g
  simp only [tV] at e1 e1'
  have h0' : ¬ (words.l.length : Int) = 0 := by omega
  simp [Us, tW, h0, h0', h1, A5, A8, e1, e1']
  refine ⟨_, _, hu, ?_⟩
  simp [A5]
  refine g _ fun hR1 => ?_
  have vt : (Ai R1).take w.l.length = Ai R1 := by rw [← hR1]; exact Bh
  simp [Ut, Am, vt]
theorem q2Y {i : Nat} {addr data w : List Int} {en : Int} : ∀ {k b : Nat}, (Ux i addr data en w k b).length = k
 | 0, _ => rfl
 | k + 1, b => by simp [Ux, q2Y]
theorem q6a {i : Nat} {addr data w : List Int} {en : Int} : ∀ {k b j : Nat}, j < k → (Ux i addr data en w k b).getD j 0 = q4E i addr en (q1D w (b + j)) (q1D data (b + j))
 | k + 1, b, 0, _ => rfl
 | k + 1, b, j + 1, h => by
  show (Ux i addr data en w k (b + 1)).getD j 0 = _
  rw [q6a (by omega), show b + 1 + j = b + (j + 1) by omega]
theorem qEE {hp : List (Nat × Bn)} {k : Nat} : ∀ (l : List T), As ((l.map AV.t).map (Am hp k)) = some l
 | [] => rfl
 | t :: l => by
  have ih := qEE (hp := hp) (k := k) l
  cases k <;> simp only [List.map_cons, Am, As, ih] <;> rfl
theorem qKj {Q : AX → St → Prop} (addr data : Sl Int) (ha : addr.l.length ≤ 1000000) (hv : ∀ v ∈ addr.l, 0 ≤ v) (hd : data.l.length ≤ 1000000) (en : Int) (tw : T) (n i : Nat) (hi : i < n) (hn : n ≤ 1000000) (w : Sl Int) (hw : w.l.length ≤ 1000000) (cells : List AV)
  (hcl : i + 1 ≤ cells.length) (hc : (cells.drop i).take 1 = [.ls 37 0 w.l.length none]) (R : List Int) (hRl : R.length = w.l.length) (hR : ∀ b, b < w.l.length → R.getD b 0 = q4E i addr.l en (q1D w.l b) (q1D data.l b))
  (h0 : Q (.exit 2) ⟨[(1, .t (tV addr)), (2, .t (tV data)), (3, .t (tK en)), (9, .t (tB (q7X addr.l en))), (10, .lb 25 n), (11, .t (tI i)), (12, .t (tV w)), (26, .t tw), (27, .t (tI n)), (28, .t (tI i)), (49, .t (tI w.l.length)), (50, .t (tI w.l.length)), (51, .t (tB false))], [(25, .bx cells), (37, .sl 64 1 (Ai R))]⟩) :
  ∀ (k b : Nat) (row : List Int), k + b = w.l.length → row = R.take b ++ w.l.drop b →
  run Tryz.prog Γ Kw Q ⟨[(1, .t (tV addr)), (2, .t (tV data)), (3, .t (tK en)), (9, .t (tB (q7X addr.l en))), (10, .lb 25 n), (11, .t (tI i)), (12, .t (tV w)), (26, .t tw), (27, .t (tI n)), (28, .t (tI i)), (49, .t (tI w.l.length)), (50, .t (tI b))], [(25, .bx cells), (37, .sl 64 1 (Ai row))]⟩
 | 0, b, row, h, hr => by
  refine U1 fun K hK => ?_
  have h2 : b = w.l.length := by omega
  subst h2
  rw [List.drop_length, List.append_nil, ← hRl, List.take_length] at hr
  subst hr
  simp
  simpa using h0
 | k + 1, b, row, h, hr => by
  refine U1 fun K hK => ?_
  have h2 : b < w.l.length := by omega
  have h2R : b < R.length := by omega
  have hrl : row.length = w.l.length := by rw [hr]; simp; omega
  have ih := qKj addr data ha hv hd en tw n i hi hn w hw cells hcl hc R hRl hR h0 k (b + 1) _ (by omega) rfl
  have hset : ∀ v : Int, v = R.getD b 0 → (Ai row).set b [tK v] = Ai (R.take (b + 1) ++ w.l.drop (b + 1)) := by
   rintro v rfl
   rw [show (Ai row).set b [tK (R.getD b 0)] = Ai (row.set b (R.getD b 0)) from Fj, hr]
   congr 1
   have ht : (R.take b).length = b := by rw [List.length_take]; omega
   rw [List.set_append_right _ _ (by omega), ht, Nat.sub_self, List.drop_eq_getElem_cons h2, List.set_cons_zero, show R.take (b + 1) = R.take b ++ [R.getD b 0] by rw [List.take_add_one, List.getElem?_eq_getElem h2R, B5 h2R]; rfl, List.append_assoc]
   rfl
  have hRb := hR b h2
  have hb1 := q8U (Γ := Γ) w b (by omega) (by omega)
  have hb2 := q8U (Γ := Γ) data b (by omega) (by omega)
  have hm := q7Z (Γ := Γ) i (by omega) addr ha hv
  have w1 := Bl (i := b) (by omega)
  generalize R.take (b + 1) ++ w.l.drop (b + 1) = row' at *
  generalize R.getD b 0 = v at *
  generalize q1D w.l b = o at *
  generalize q1D data.l b = d at *
  unfold q4E at hRb
  generalize q7X addr.l en = su at *
  have hcv := q99 (Γ := Γ) o d
  have hii : (i : Int) < n := by omega
  simp [h2]
  refine A4 hb1 rfl ?_
  simp
  refine A4 hb2 rfl ?_
  by_cases he : en = 0
  ·rw [if_pos (.inl he)] at hRb
   subst hRb
   simp [he, hi, hii, hcl, hc, hrl, h2, A5, hset, w1]
   rw [hK]
   simpa [he] using ih
  ·simp [he]
   refine A4 hm rfl ?_
   cases hmm : Rx i addr.l with
   | false =>
    rw [if_pos (.inr hmm)] at hRb
    subst hRb
    simp [hmm, hi, hii, hcl, hc, hrl, h2, A5, hset, w1]
    rw [hK]
    simpa using ih
   | true =>
    rw [if_neg (by simp [he, hmm])] at hRb
    cases su with
    | true =>
     rw [if_pos rfl] at hRb
     subst hRb
     simp [hmm, hi, hii, hcl, hc, hrl, h2, A5, hset, w1]
     rw [hK]
     simpa using ih
    | false =>
     rw [if_neg (by simp)] at hRb
     simp [hmm, hi, hii, hcl, hc, hrl, h2, A5, w1]
     refine A4 hcv rfl ?_
     rw [← hRb]
     simp [hi, hii, hcl, hc, hrl, h2, A5, hset, w1]
     rw [hK]
     simpa using ih
def q6b (done : List (List Int)) (n : Nat) : List AV := (done.map fun r => T.sl (Ai r) none none).map AV.t ++ List.replicate (n - done.length) (AV.t (T.sl [] (some 0) (some true)))
theorem qIi {done : List (List Int)} {n : Nat} (h : done.length ≤ n) : (q6b done n).length = n := by simp [q6b]; omega
theorem qIj {done : List (List Int)} {n : Nat} (h : done.length < n) (a : AV) : (q6b done n).take done.length ++ [a] ++ (q6b done n).drop (done.length + 1) = (done.map fun r => T.sl (Ai r) none none).map AV.t ++ [a] ++ List.replicate (n - (done.length + 1)) (AV.t (T.sl [] (some 0) (some true))) := by
 have e : ((done.map fun r => T.sl (Ai r) none none).map AV.t).length = done.length := by simp
 unfold q6b
 rw [show n - done.length = (n - (done.length + 1)) + 1 by omega, List.replicate_succ]
 rw [List.take_append_of_le_length (by omega), List.take_of_length_le (by omega), List.drop_append, List.drop_of_length_le (by omega), e, show done.length + 1 - done.length = 1 by omega]
 simp
theorem qIk {done : List (List Int)} {n : Nat} (h : done.length < n) (R : List Int) (ty : Nat) :
  ((done.map fun r => T.sl (Ai r) none none).map AV.t ++ [AV.ls 37 0 R.length none] ++ List.replicate (n - (done.length + 1)) (AV.t (T.sl [] (some 0) (some true)))).map (Do 37 (.sl ty 1 (Ai R))) = q6b (done ++ [R]) n := by
 have vt : (Ai R).take R.length = Ai R := Bh
 unfold q6b
 simp [Do, frz1, frz0, Am, A7, vt, Function.comp_def]
theorem qKk {Q : AX → St → Prop} (addr data : Sl Int) (ha : addr.l.length ≤ 1000000) (hv : ∀ v ∈ addr.l, 0 ≤ v) (hd : data.l.length ≤ 1000000) (en : Int) (words : Sl (Sl Int)) (hl : words.l.length ≤ 1000000) (hw : ∀ w ∈ words.l, w.l.length ≤ 1000000) (R : List (List Int)) (hRl : R.length = words.l.length)
  (h0 : Q (.exit 0) ⟨[(1, .t (tV addr)), (2, .t (tV data)), (3, .t (tK en)), (9, .t (tB (q7X addr.l en))), (10, .lb 25 words.l.length), (26, .t (tW words)), (27, .t (tI words.l.length)), (28, .t (tI words.l.length)), (29, .t (tB false))], [(25, .bx (q6b R words.l.length))]⟩) :
  ∀ (k : Nat) (done : List (List Int)), k + done.length = words.l.length → done ++ En addr.l data.l en done.length ((words.l.drop done.length).map (·.l)) = R →
  run Tryz.prog Γ Kx Q ⟨[(1, .t (tV addr)), (2, .t (tV data)), (3, .t (tK en)), (9, .t (tB (q7X addr.l en))), (10, .lb 25 words.l.length), (26, .t (tW words)), (27, .t (tI words.l.length)), (28, .t (tI done.length))], [(25, .bx (q6b done words.l.length))]⟩
 | 0, done, h, hR => by
  refine U2 fun K hK => ?_
  have h2 : done.length = words.l.length := by omega
  rw [List.drop_of_length_le (by omega)] at hR
  simp only [List.map_nil, En, List.append_nil] at hR
  subst hR
  simp [h2]
  simpa using h0
 | k + 1, done, h, hR => by
  refine U2 fun K hK => ?_
  have h2 : done.length < words.l.length := by omega
  rw [List.drop_eq_getElem_cons h2, List.map_cons] at hR
  simp only [En] at hR
  have e1 := gE (f := tV) Sl.z h2
  have e1' := Jv (f := tV) Sl.z h2
  have hwi := hw _ (List.getElem_mem h2)
  rw [show words.l.getD done.length Sl.z = words.l[done.length] by simp [List.getD_eq_getElem?_getD, h2]] at e1 e1'
  have hrow : (Ux done.length addr.l data.l en words.l[done.length].l words.l[done.length].l.length 0).length = words.l[done.length].l.length := q2Y
  have hget := fun b (hb : b < words.l[done.length].l.length) => q6a (i := done.length) (addr := addr.l) (data := data.l) (en := en) (w := words.l[done.length].l) (b := 0) hb
  simp only [Nat.zero_add] at hget
  have ih := qKk addr data ha hv hd en words hl hw R hRl h0 k (done ++ [Ux done.length addr.l data.l en words.l[done.length].l words.l[done.length].l.length 0]) (by simp; omega) (by rw [← hR]; simp)
  generalize words.l[done.length] = w at *
  generalize Ux done.length addr.l data.l en w.l w.l.length 0 = row at *
  have hcl := qIi (done := done) (n := words.l.length) (by omega)
  have hput := qIj h2 (.ls 37 0 w.l.length none)
  have hfz := qIk h2 row 64
  rw [hrow] at hfz
  have g := fun Q cells hc1 hc2 h0 => qKj (Γ := Γ) (Q := Q) addr data ha hv hd en (tW words) words.l.length done.length h2 hl w hwi cells hc1 hc2 row hrow hget h0 w.l.length 0 w.l (by omega) (by simp)
  generalize hC0 : q6b done words.l.length = C0 at *
  generalize hC1 : (done.map fun r => T.sl (Ai r) none none).map AV.t ++ [AV.ls 37 0 w.l.length none] ++ List.replicate (words.l.length - (done.length + 1)) (AV.t (T.sl [] (some 0) (some true))) = C1 at *
  have hc1 : done.length + 1 ≤ C1.length := by rw [← hC1]; simp
  have hc2 : (C1.drop done.length).take 1 = [.ls 37 0 w.l.length none] := by
   rw [← hC1, List.append_assoc, List.drop_append, List.drop_of_length_le (by simp)]
   simp
  have g := fun Q h0 => g Q C1 hc1 hc2 h0
  have w1 := Bl (i := done.length) (by omega)
  have hz : List.replicate w.l.length [T.v (Value.int .u8 0)] = Ai (List.replicate w.l.length 0) := by simp [Aj]
  have hcp : (Ai w.l).take w.l.length = Ai w.l := Bh
  have hdl : (Ai (List.replicate w.l.length (0 : Int))).drop w.l.length = [] := by rw [List.drop_of_length_le (by simp [Aj])]
  have hii : (done.length : Int) < words.l.length := by omega
  simp [tW] at ih g
  simp only [tV] at e1 e1' g ih
  rw [List.append_assoc, List.singleton_append] at hput
  simp [tV, tW, A5, A8, h2, e1, e1']
  simp [hz, A5, A8, h2, hii, hcl, hput, hc1, hc2, hcp, hdl]
  refine ⟨by omega, by omega, by omega, g _ ?_⟩
  simp [w1, St.freeze, Bn.closed, Do, frz1, frz0, I8, del, hfz]
  rw [hK]
  simpa using ih
theorem qEF (v : Int) : A6 Tryz.prog Γ 125 [tK v] (tB (!Rh v)) := by
 refine Aa q4A rfl ?_
 simp [Xk]
 refine A4 (Zd v) rfl ?_
 simp [Xl]
def qGP (R : List (List Int)) : T := .sl ((R.map fun r => T.sl (Ai r) none none).map fun t => [t]) (some R.length) none
theorem q6c {addr data : List Int} {en : Int} : ∀ {ws : List (List Int)} {i : Nat}, (En addr data en i ws).length = ws.length
 | [], _ => rfl
 | w :: ws, i => by simp [En, q6c]
theorem qAr (words : Sl (Sl Int)) (hl : words.l.length ≤ 1000000) (hw : ∀ w ∈ words.l, w.l.length ≤ 1000000) (addr data : Sl Int) (ha : addr.l.length ≤ 1000000) (hv : ∀ v ∈ addr.l, 0 ≤ v) (hd : data.l.length ≤ 1000000) (en : Int) :
  Ah Tryz.prog Γ 55 [tW words, tV addr, tV data, tK en] (qGP (En addr.l data.l en 0 (words.l.map (·.l)))) := by
 refine B7 q6V rfl ?_
 have hcf := N9 (Γ := Γ) addr.l addr.cap addr.nl 125 [] (fun v => !Rh v) (fun x _ => qEF x) (by omega)
 have hRl : (En addr.l data.l en 0 (words.l.map (·.l))).length = words.l.length := by rw [q6c, List.length_map]
 have g := fun Q h0 => qKk (Γ := Γ) (Q := Q) addr data ha hv hd en words hl hw (En addr.l data.l en 0 (words.l.map (·.l))) hRl h0 words.l.length [] (by simp) (by simp)
 have hsu : q7X addr.l en = if en = 1 then !addr.l.any (fun v => !Rh v) else false := by
  unfold q7X
  by_cases h : en = 1 <;> simp [h]
 have hall := qEE (hp := [(25, Bn.bx (q6b (En addr.l data.l en 0 (words.l.map (·.l))) words.l.length))]) (k := 3) ((En addr.l data.l en 0 (words.l.map (·.l))).map fun r => T.sl (Ai r) none none)
 have hst : q6b (En addr.l data.l en 0 (words.l.map (·.l))) words.l.length = ((En addr.l data.l en 0 (words.l.map (·.l))).map fun r => T.sl (Ai r) none none).map AV.t := by
  unfold q6b
  rw [hRl, Nat.sub_self]
  simp
 have h0 : q6b [] words.l.length = List.replicate words.l.length (AV.t (T.sl [] (some 0) (some true))) := by simp [q6b]
 rw [h0] at g
 rw [hst] at g hall
 generalize En addr.l data.l en 0 (words.l.map (·.l)) = R at *
 have hT : qGP R = .sl ((R.map fun r => T.sl (Ai r) none none).map fun t => [t]) (some words.l.length) none := by rw [← hRl]; rfl
 rw [hT]
 generalize (R.map fun r => T.sl (Ai r) none none) = RT at *
 rw [List.map_map] at hall
 simp [tW, tV] at g
 by_cases he : en = 1
 ·rw [if_pos he] at hsu
  simp [Rr, tW, tV, he]
  refine A4 hcf rfl ?_
  rw [hsu, he] at g
  simp [A5]
  refine ⟨by omega, g _ ?_⟩
  simp [Rt, Am, hall]
 ·rw [if_neg he] at hsu
  rw [hsu] at g
  simp [Rr, tW, tV, he, A5]
  refine ⟨by omega, g _ ?_⟩
  simp [Rt, Am, hall]
end Go.Lg
namespace Go.Lg
open Go
section
variable {P : Program} {Γ : Tables} {Q : AX → St → Prop} {s : St}
/- probecard/probecardref01.Choices (function 130) -/
abbrev G9 : IC := (.seq (.reg [od 4 (.mv kN)] [kp [0, 1] []]) (.seq (.seq (.reg [om 5 0, od 6 (.bin .eql (tm 5) (ku 0))] [kp [0, 1, 6] []]) (.cond (tm 6) (.seq (.reg [od 7 (.bsl true 3 1 [(ki 0)]), om 4 7] [kp [4] []]) .ret) .skip)) (.seq (.seq
 (.reg [om 8 0, od 9 (.bin .eql (tm 8) (ku 1))] [kp [0, 1, 9] []]) (.cond (tm 9) (.seq (.reg [od 10 (.bsl true 3 1 [(ki 1)]), om 4 10] [kp [4] []]) .ret) .skip)) (.seq (.seq (.reg [om 11 1, om 12 11, oT 13 (.mv (tm 0)) 12, oT 14
 (.bin .eql (tm 13) (ku 3)) 12, od 15 (.pick (tm 12) (tm 14) kF)] [kp [1, 15] []]) (.cond (tm 15) (.seq (.reg [od 16 (.bsl true 3 1 [(ki 2)]), om 4 16] [kp [4] []]) .ret) .skip)) (.seq (.seq (.reg [om 17 1] [kp [17] []]) (.cond (tm
 17) (.seq (.reg [od 18 (.bsl true 3 1 [(ki 0), (ki 1), (ki 2)]), om 4 18] [kp [4] []]) .ret) .skip)) (.seq (.reg [od 19 (.bsl true 3 1 [(ki 0), (ki 1)]), om 4 19] [kp [4] []]) .ret))))))
def Ge : List RV := [.tmp 4]
/- probecard/probecardref01.count (function 204) -/
abbrev q4F : IC := .gh (.seq (.seq (.reg [om 7 6, om 8 0, od 9 (le 0 8), od 10 (.bin .lss (tm 7) (tm 9))] [kp [0, 1, 5, 6, 10] []]) (.cond (tm 10) .skip (.exit 0))) (.seq (.block 1 (.seq (.reg [om 13 0, om 14 6, od 15 (ia 1 13 14), od 16 (ld 1 15),
 om 17 1, od 18 (.bin .eql (tm 16) (tm 17))] [kp [0, 1, 5, 6, 18] []]) (.cond (tm 18) (.reg [om 19 5, od 20 (.bin .add (tm 19) (ki 1)), om 5 20] [kp [0, 1, 5, 6] []]) .skip))) (.reg [om 11 6, od 12 (.bin .add (tm 11) (ki 1)), om 6
 12] [kp [0, 1, 5, 6] []]))) [kp [0, 1, 5, 6] []]
def Ry : IC := .loop q4F
abbrev q4G : IC := (.seq (.reg [od 4 (.mv (ki 0))] [kp [0, 1] []]) (.seq (.reg [od 5 (.mv (ki 0))] [kp [0, 1, 5] []]) (.seq (.seq (.reg [od 6 (.mv (ki 0))] [kp [0, 1, 5, 6] []]) (.block 0 Ry)) (.seq (.reg [om 21 5, om 4 21] [kp [4] []])
 .ret))))
theorem Zt (h : ∀ K : St → Prop, K = run P Γ Ry Q → run P Γ q4F (An K Q) s) : run P Γ Ry Q s := Af h
def q4H : List RV := [.tmp 4]
/- probecard/probecardref01.bit (function 205) -/
abbrev q7a : IC := (.seq (.reg [od 2 (.mv (ki 0))] [kp [0] []]) (.seq (.seq (.reg [om 3 0] [kp [3] []]) (.cond (tm 3) (.seq (.reg [od 2 (.mv (ki 1))] [kp [2] []]) .ret) .skip)) (.seq (.reg [od 2 (.mv (ki 0))] [kp [2] []]) .ret)))
def q7b : List RV := [.tmp 2]
/- probecard/probecardref01.Function (function 196) -/
abbrev Bf : IC := (.seq (.reg [od 4 (.mv (ki 0))] [kp [0, 1] []]) (.seq (.reg [om 7 1, od 8 (.call 204 [(tm 7), (ki 1)]), om 5 8] [kp [0, 1, 5] []]) (.seq (.reg [om 9 1, od 10 (.call 204 [(tm 9), (ki 0)]), om 6 10] [kp [0, 1, 5, 6] []]) (.seq
 (.block 0 (.seq (.reg [om 12 0, od 13 (.bin .eql (tm 12) (ku 1)), om 14 13, oF 15 (.mv (tm 0)) 14, oF 16 (.bin .eql (tm 15) (ku 2)) 14, od 17 (.pick (tm 14) kT (tm 16)), om 11 17] [kp [0, 1, 5, 6, 11] []]) (.cond (tm 11) (.seq
 (.reg [om 18 0, od 19 (.bin .eql (tm 18) (ku 2)), od 20 (.call 205 [(tm 19)]), om 4 20] [kp [4] []]) .ret) (.seq (.reg [om 22 0, od 23 (.bin .eql (tm 22) (ku 3)), om 24 23, oF 25 (.mv (tm 0)) 24, oF 26 (.bin .eql (tm 25) (ku 4))
 24, od 27 (.pick (tm 24) kT (tm 26)), om 21 27] [kp [0, 1, 5, 6, 21] []]) (.cond (tm 21) (.seq (.reg [om 28 1, od 29 (.iadr 1 (tm 28) (ki 0)), od 30 (ld 1 29), od 31 (.bin .eql (tm 30) (ki 1)), om 32 0, od 33 (.bin .eql (tm 32) (ku
 3)), od 34 (.eqb true (tm 31) (tm 33)), od 35 (.call 205 [(tm 34)]), om 4 35] [kp [4] []]) .ret) (.seq (.reg [om 37 0, od 38 (.bin .eql (tm 37) (ku 5)), om 39 38, oF 40 (.mv (tm 0)) 39, oF 41 (.bin .eql (tm 40) (ku 6)) 39, od 42
 (.pick (tm 39) kT (tm 41)), om 36 42] [kp [0, 1, 5, 6, 36] []]) (.cond (tm 36) (.seq (.reg [om 43 6, od 44 (.bin .eql (tm 43) (ki 0)), om 45 0, od 46 (.bin .eql (tm 45) (ku 5)), od 47 (.eqb true (tm 44) (tm 46)), od 48 (.call 205
 [(tm 47)]), om 4 48] [kp [4] []]) .ret) (.seq (.reg [om 50 0, od 51 (.bin .eql (tm 50) (ku 7)), om 52 51, oF 53 (.mv (tm 0)) 52, oF 54 (.bin .eql (tm 53) (ku 8)) 52, od 55 (.pick (tm 52) kT (tm 54)), om 49 55] [kp [0, 1, 5, 6, 49]
 []]) (.cond (tm 49) (.seq (.reg [om 56 5, od 57 (.bin .gtr (tm 56) (ki 0)), om 58 0, od 59 (.bin .eql (tm 58) (ku 7)), od 60 (.eqb true (tm 57) (tm 59)), od 61 (.call 205 [(tm 60)]), om 4 61] [kp [4] []]) .ret) (.seq (.reg [om 63
 0, od 64 (.bin .eql (tm 63) (ku 9)), om 65 64, oF 66 (.mv (tm 0)) 65, oF 67 (.bin .eql (tm 66) (ku 10)) 65, od 68 (.pick (tm 65) kT (tm 67)), om 62 68] [kp [0, 1, 5, 6, 62] []]) (.cond (tm 62) (.seq (.reg [om 69 5, od 70 (.bin .rem
 (tm 69) (ki 2)), od 71 (.bin .eql (tm 70) (ki 1)), om 72 0, od 73 (.bin .eql (tm 72) (ku 9)), od 74 (.eqb true (tm 71) (tm 73)), od 75 (.call 205 [(tm 74)]), om 4 75] [kp [4] []]) .ret) (.seq (.reg [om 77 0, od 78 (.bin .eql (tm
 77) (ku 11)), om 79 78, oT 80 (.mv (tm 1)) 79, oT 81 (.iadr 1 (tm 80) (ki 0)) 79, oT 82 (ld 1 81) 79, oT 83 (.bin .eql (tm 82) (ki 0)) 79, od 84 (.pick (tm 79) (tm 83) kF), om 76 84] [kp [0, 1, 5, 6, 76] []]) (.cond (tm 76) (.seq
 (.reg [om 85 1, od 86 (.iadr 1 (tm 85) (ki 1)), od 87 (ld 1 86), om 4 87] [kp [4] []]) .ret) (.seq (.reg [om 89 0, od 90 (.bin .eql (tm 89) (ku 11)), om 88 90] [kp [0, 1, 5, 6, 88] []]) (.cond (tm 88) (.seq (.reg [om 91 1, od 92
 (.iadr 1 (tm 91) (ki 2)), od 93 (ld 1 92), om 4 93] [kp [4] []]) .ret) (.seq (.reg [om 95 0, od 96 (.bin .eql (tm 95) (ku 12)), om 97 96, oT 98 (.mv (tm 1)) 97, oT 99 (.iadr 1 (tm 98) (ki 0)) 97, oT 100 (ld 1 99) 97, oT 101 (.bin
 .eql (tm 100) (ki 0)) 97, od 102 (.pick (tm 97) (tm 101) kF), om 103 102, oF 104 (.mv (tm 0)) 103, oF 105 (.bin .eql (tm 104) (ku 13)) 103, oF 106 (.mv (tm 105)) 103, oT 107 (.mv (tm 5)) 106, oT 108 (.mv (tm 6)) 106, oT 109 (.bin
 .add (tm 107) (tm 108)) 106, oT 110 (.bin .eql (tm 109) (ki 0)) 106, oF 111 (.pick (tm 106) (tm 110) kF) 103, od 112 (.pick (tm 103) kT (tm 111)), om 94 112] [kp [0, 1, 5, 6, 94] []]) (.cond (tm 94) (.seq (.reg [od 4 (.mv (ki 2))]
 [kp [4] []]) .ret) (.seq (.reg [om 114 0, od 115 (.bin .eql (tm 114) (ku 12)), om 113 115] [kp [0, 1, 5, 6, 113] []]) (.cond (tm 113) (.seq (.reg [om 116 1, od 117 (.iadr 1 (tm 116) (ki 1)), od 118 (ld 1 117), om 4 118] [kp [4]
 []]) .ret) (.seq (.reg [om 120 0, od 121 (.bin .eql (tm 120) (ku 13)), om 122 121, oT 123 (.mv (tm 5)) 122, oT 124 (.bin .gtr (tm 123) (ki 0)) 122, od 125 (.pick (tm 122) (tm 124) kF), om 126 125, oT 127 (.mv (tm 6)) 126, oT 128
 (.bin .gtr (tm 127) (ki 0)) 126, od 129 (.pick (tm 126) (tm 128) kF), om 119 129] [kp [5, 119] []]) (.cond (tm 119) (.seq (.reg [od 4 (.mv (ki 3))] [kp [4] []]) .ret) .skip))))))))))))))))))))) (.seq (.reg [om 130 5, od 131 (.bin
 .gtr (tm 130) (ki 0)), od 132 (.call 205 [(tm 131)]), om 4 132] [kp [4] []]) .ret)))))
def Ax : List RV := [.tmp 4]
/- probecard/probecardref01.Allowed (function 160) -/
abbrev Ep : IC := (.seq (.reg [od 4 (.mv kF)] [kp [0, 1] []]) (.seq (.block 0 (.seq (.reg [om 6 0, od 7 (.bin .eql (tm 6) (ku 1)), om 8 7, oF 9 (.mv (tm 0)) 8, oF 10 (.bin .eql (tm 9) (ku 2)) 8, od 11 (.pick (tm 8) kT (tm 10)), om 5 11] [kp [0, 1,
 5] []]) (.cond (tm 5) (.seq (.reg [om 12 1, od 13 (.bin .eql (tm 12) (ki 0)), om 4 13] [kp [4] []]) .ret) (.seq (.reg [om 15 0, od 16 (.bin .eql (tm 15) (ku 3)), om 17 16, oF 18 (.mv (tm 0)) 17, oF 19 (.bin .eql (tm 18) (ku 4)) 17,
 od 20 (.pick (tm 17) kT (tm 19)), om 14 20] [kp [0, 1, 14] []]) (.cond (tm 14) (.seq (.reg [om 21 1, od 22 (.bin .eql (tm 21) (ki 1)), om 4 22] [kp [4] []]) .ret) (.seq (.reg [om 24 0, od 25 (.bin .eql (tm 24) (ku 11)), om 23 25]
 [kp [0, 1, 23] []]) (.cond (tm 23) (.seq (.reg [om 26 1, od 27 (.bin .eql (tm 26) (ki 3)), om 4 27] [kp [4] []]) .ret) (.seq (.reg [om 29 0, od 30 (.bin .eql (tm 29) (ku 12)), om 28 30] [kp [0, 1, 28] []]) (.cond (tm 28) (.seq
 (.reg [om 31 1, od 32 (.bin .eql (tm 31) (ki 2)), om 4 32] [kp [4] []]) .ret) (.seq (.reg [om 34 0, od 35 (.bin .eql (tm 34) (ku 13)), om 33 35] [kp [0, 1, 33] []]) (.cond (tm 33) (.seq (.reg [om 36 1, od 37 (.bin .geq (tm 36) (ki
 1)), om 38 37, oT 39 (.mv (tm 1)) 38, oT 40 (.bin .leq (tm 39) (ki 16)) 38, od 41 (.pick (tm 38) (tm 40) kF), om 4 41] [kp [4] []]) .ret) .skip))))))))))) (.seq (.reg [om 42 0, od 43 (.bin .geq (tm 42) (ku 5)), om 44 43, oT 45 (.mv
 (tm 0)) 44, oT 46 (.bin .leq (tm 45) (ku 10)) 44, od 47 (.pick (tm 44) (tm 46) kF), om 48 47, oT 49 (.mv (tm 1)) 48, oT 50 (.bin .geq (tm 49) (ki 2)) 48, od 51 (.pick (tm 48) (tm 50) kF), om 52 51, oT 53 (.mv (tm 1)) 52, oT 54
 (.bin .leq (tm 53) (ki 16)) 52, od 55 (.pick (tm 52) (tm 54) kF), om 4 55] [kp [4] []]) .ret)))
def Es : List RV := [.tmp 4]
/- probecard/probecardref01.Results (function 179) -/
abbrev q1m : IC := .gh (.seq (.seq (.reg [om 27 9, om 28 8, od 29 (le 0 28), od 30 (.bin .lss (tm 27) (tm 29))] [kp [0, 1, 2, 7, 8, 9, 30] [45]]) (.cond (tm 30) .skip (.exit 0))) (.seq (.block 1 (.reg [om 33 7, om 34 0, om 35 1, om 36 2, od 37 (.appN
 3 1 (tm 36)), om 38 8, om 39 9, od 40 (.iadT 1 (tm 38) (tm 39)), od 41 (.ldT 1 false (tm 40)), od 42 (.bsl true 3 1 [(tm 41)]), od 43 (.app false 3 1 (tm 37) (tm 42)), od 44 (.call 179 [(tm 34), (tm 35), (tm 43)]), od 45 (.app
 false 3 1 (tm 33) (tm 44)), om 7 45] [kp [0, 1, 2, 7, 8, 9] [45]])) (.reg [om 31 9, od 32 (.bin .add (tm 31) (ki 1)), om 9 32] [kp [0, 1, 2, 7, 8, 9] [45]]))) [kp [0, 1, 2, 7, 8, 9] [45]]
def Nh : IC := .loop q1m
abbrev Uy : IC := (.seq (.reg [od 6 (.mv kN)] [kp [0, 1, 2] []]) (.seq (.seq (.reg [om 10 2, od 11 (le 0 10), om 12 1, od 13 (le 0 12), od 14 (.bin .eql (tm 11) (tm 13))] [kp [0, 1, 2, 14] []]) (.cond (tm 14) (.seq (.reg [om 15 0, om 16 2, od 17
 (.call 196 [(tm 15), (tm 16)]), od 18 (.bsl false 3 1 [(tm 17)]), om 6 18] [kp [6] [18, 45]]) .ret) .skip)) (.seq (.reg [od 7 (.mv kN)] [.nl 7 45 3 1, kp [0, 1, 2, 7] [45]]) (.seq (.reg [om 19 1, om 20 2, od 21 (le 0 20), od 22 (ia
 1 19 21), od 23 (ld 1 22), om 24 0, od 25 (.bin .eql (tm 24) (ku 13)), od 26 (.call 130 [(tm 23), (tm 25)]), om 8 26] [kp [0, 1, 2, 7, 8] [45]]) (.seq (.seq (.reg [od 9 (.mv (ki 0))] [kp [0, 1, 2, 7, 8, 9] [45]]) (.block 0
 Nh)) (.seq (.reg [om 46 7, om 6 46] [kp [6] [18, 45]]) .ret))))))
theorem Wc (h : ∀ K : St → Prop, K = run P Γ Nh Q → run P Γ q1m (An K Q) s) : run P Γ Nh Q s := Af h
def Uz : List RV := [.tmp 6]
/- probecard/probecardref01.counted (function 178) -/
abbrev q1n : IC := .gh (.seq (.seq (.reg [om 58 13, om 59 7, od 60 (le 0 59), od 61 (.bin .lss (tm 58) (tm 60))] [kp [0, 1, 5, 6, 7, 8, 9, 10, 11, 12, 13, 61] [11, 78]]) (.cond (tm 61) .skip (.exit 6))) (.seq (.block 7 (.reg [om 64 12, om 65 64, oF
 66 (.mv (tm 7)) 65, oF 67 (.mv (tm 13)) 65, oF 68 (ia 3 66 67) 65, oF 69 (lG 3 68) 65, oF 70 (lG 3 11) 65, oF 71 (.eqg true [(some .i64), (some .i64), (some .i64)] (tm 69) (tm 70)) 65, od 72 (.pick (tm 65) kT (tm 71)), om 12 72]
 [kp [0, 1, 5, 6, 7, 8, 9, 10, 11, 12, 13] [11, 78]])) (.reg [om 62 13, od 63 (.bin .add (tm 62) (ki 1)), om 13 63] [kp [0, 1, 5, 6, 7, 8, 9, 10, 11, 12, 13] [11, 78]]))) [kp [0, 1, 5, 6, 7, 8, 9, 10, 11, 12, 13] [11, 78]]
def Ni : IC := .loop q1n
abbrev q1o : IC := .gh (.seq (.seq (.reg [om 40 10, om 41 8, od 42 (le 0 41), od 43 (.bin .lss (tm 40) (tm 42))] [kp [0, 1, 5, 6, 7, 8, 9, 10, 43] [78]]) (.cond (tm 43) .skip (.exit 4))) (.seq (.block 5 (.seq (.reg [om 46 5, om 47 9, od 48 (ia 3 46
 47), od 49 (lG 3 48), od 11 (.alloc false [(.int .i64 0), (.int .i64 0), (.int .i64 0)]), on (.store 3 (tm 11) (tm 49))] [kp [0, 1, 5, 6, 7, 8, 9, 10, 11] [11, 78]]) (.seq (.reg [om 50 8, om 51 10, od 52 (ia 1 50 51), od 53 (ld 1
 52), od 54 (.iadrA 3 1 (tm 11) (tm 53)), od 55 (ld 1 54), od 56 (.bin .add (tm 55) (ki 1)), od 57 (.iadrA 3 1 (tm 11) (tm 53)), on (.store 1 (tm 57) (tm 56))] [kp [0, 1, 5, 6, 7, 8, 9, 10, 11] [11, 78]]) (.seq (.reg [od 12 (.mv
 kF)] [kp [0, 1, 5, 6, 7, 8, 9, 10, 11, 12] [11, 78]]) (.seq (.seq (.reg [od 13 (.mv (ki 0))] [kp [0, 1, 5, 6, 7, 8, 9, 10, 11, 12, 13] [11, 78]]) (.block 6 Ni)) (.seq (.reg [om 73 12, od 74 (.un .not (tm 73))] [kp [0,
 1, 5, 6, 7, 8, 9, 10, 11, 74] [11, 78]]) (.cond (tm 74) (.reg [om 75 7, od 76 (lG 3 11), od 77 (.bsl true 243 3 [(tm 76)]), od 78 (.app false 243 3 (tm 75) (tm 77)), om 7 78] [kp [0, 1, 5, 6, 7, 8, 9, 10] [78]]) .skip))))))) (.reg
 [om 44 10, od 45 (.bin .add (tm 44) (ki 1)), om 10 45] [kp [0, 1, 5, 6, 7, 8, 9, 10] [78]]))) [kp [0, 1, 5, 6, 7, 8, 9, 10] [78]]
def Nj : IC := .loop q1o
abbrev q1p : IC := .gh (.seq (.seq (.reg [om 34 9, om 35 5, od 36 (le 0 35), od 37 (.bin .lss (tm 34) (tm 36))] [kp [0, 1, 5, 6, 7, 8, 9, 37] [78]]) (.cond (tm 37) .skip (.exit 2))) (.seq (.block 3 (.seq (.reg [od 10 (.mv (ki 0))] [kp [0, 1, 5, 6, 7,
 8, 9, 10] [78]]) (.block 4 Nj))) (.reg [om 38 9, od 39 (.bin .add (tm 38) (ki 1)), om 9 39] [kp [0, 1, 5, 6, 7, 8, 9] [78]]))) [kp [0, 1, 5, 6, 7, 8, 9] [78]]
def Nk : IC := .loop q1p
abbrev q1q : IC := .gh (.seq (.seq (.reg [om 21 6, om 22 1, od 23 (le 0 22), od 24 (.bin .lss (tm 21) (tm 23))] [kp [0, 1, 5, 6, 24] [78]]) (.cond (tm 24) .skip (.exit 0))) (.seq (.block 1 (.seq (.reg [od 7 (.mv kN)] [.nl 7 78 243 3, kp [0, 1, 5, 6,
 7] [78]]) (.seq (.reg [om 27 1, om 28 6, od 29 (ia 1 27 28), od 30 (ld 1 29), om 31 0, od 32 (.bin .eql (tm 31) (ku 13)), od 33 (.call 130 [(tm 30), (tm 32)]), om 8 33] [kp [0, 1, 5, 6, 7, 8] [78]]) (.seq (.seq (.reg [od 9 (.mv (ki
 0))] [kp [0, 1, 5, 6, 7, 8, 9] [78]]) (.block 2 Nk)) (.reg [om 79 7, om 5 79] [.frz 78, kp [0, 1, 5, 6] [78]]))))) (.reg [om 25 6, od 26 (.bin .add (tm 25) (ki 1)), om 6 26] [kp [0, 1, 5, 6] [78]]))) [kp [0, 1, 5, 6]
 [78]]
def Nl : IC := .loop q1q
abbrev q1r : IC := .gh (.seq (.seq (.reg [om 90 18, om 91 5, om 92 15, om 93 17, od 94 (ia 3 91 92), od 95 (.iadrA 3 1 (tm 94) (tm 93)), od 96 (ld 1 95), od 97 (.bin .lss (tm 90) (tm 96))] [kp [0, 5, 14, 15, 16, 17, 18, 97] [78, 103, 109]]) (.cond
 (tm 97) .skip (.exit 12))) (.seq (.block 13 (.reg [om 100 16, om 101 17, od 102 (.bsl true 3 1 [(tm 101)]), od 103 (.app false 3 1 (tm 100) (tm 102)), om 16 103] [kp [0, 5, 14, 15, 16, 17, 18] [78, 103, 109]])) (.reg [om 98 18, od
 99 (.bin .add (tm 98) (ki 1)), om 18 99] [kp [0, 5, 14, 15, 16, 17, 18] [78, 103, 109]]))) [kp [0, 5, 14, 15, 16, 17, 18] [78, 103, 109]]
def Nn : IC := .loop q1r
abbrev q0l : IC := .gh (.seq (.seq (.reg [om 86 17, od 87 (.bin .lss (tm 86) (ki 3))] [kp [0, 5, 14, 15, 16, 17, 87] [78, 103, 109]]) (.cond (tm 87) .skip (.exit 10))) (.seq (.block 11 (.seq (.reg [od 18 (.mv (ki 0))] [kp [0, 5, 14, 15, 16, 17, 18]
 [78, 103, 109]]) (.block 12 Nn))) (.reg [om 88 17, od 89 (.bin .add (tm 88) (ki 1)), om 17 89] [kp [0, 5, 14, 15, 16, 17] [78, 103, 109]]))) [kp [0, 5, 14, 15, 16, 17] [78, 103, 109]]
def L1 : IC := .loop q0l
abbrev q0m : IC := .gh (.seq (.seq (.reg [om 80 15, om 81 5, od 82 (le 0 81), od 83 (.bin .lss (tm 80) (tm 82))] [kp [0, 5, 14, 15, 83] [78, 109]]) (.cond (tm 83) .skip (.exit 8))) (.seq (.block 9 (.seq (.reg [od 16 (.mv kN)] [.nl 16 103 3 1, kp [0,
 5, 14, 15, 16] [78, 103, 109]]) (.seq (.seq (.reg [od 17 (.mv (ki 0))] [kp [0, 5, 14, 15, 16, 17] [78, 103, 109]]) (.block 10 L1)) (.reg [om 104 14, om 105 0, om 106 16, od 107 (.call 196 [(tm 105), (tm 106)]), od
 108 (.bsl true 3 1 [(tm 107)]), od 109 (.app false 3 1 (tm 104) (tm 108)), om 14 109] [kp [0, 5, 14, 15] [78, 109]])))) (.reg [om 84 15, od 85 (.bin .add (tm 84) (ki 1)), om 15 85] [kp [0, 5, 14, 15] [78, 109]]))) [kp [0, 5, 14,
 15] [78, 109]]
def L6 : IC := .loop q0m
abbrev q1s : IC := (.seq (.reg [od 4 (.mv kN)] [kp [0, 1] []]) (.seq (.reg [od 19 (.build [(3, (.const (.agg #[(.int .i64 0), (.int .i64 0), (.int .i64 0)])))]), od 20 (.bsl true 243 3 [(tm 19)]), om 5 20] [kp [0, 1, 5] [78]]) (.seq (.seq (.reg [od 6
 (.mv (ki 0))] [kp [0, 1, 5, 6] [78]]) (.block 0 Nl)) (.seq (.reg [od 14 (.mv kN)] [.nl 14 109 3 1, kp [0, 5, 14] [78, 109]]) (.seq (.seq (.reg [od 15 (.mv (ki 0))] [kp [0, 5, 14, 15] [78, 109]]) (.block 8
 L6)) (.seq (.reg [om 110 14, om 4 110] [kp [4] [109]]) .ret))))))
theorem We (h : ∀ K : St → Prop, K = run P Γ Ni Q → run P Γ q1n (An K Q) s) : run P Γ Ni Q s := Af h
theorem Wg (h : ∀ K : St → Prop, K = run P Γ Nj Q → run P Γ q1o (An K Q) s) : run P Γ Nj Q s := Af h
theorem Wh (h : ∀ K : St → Prop, K = run P Γ Nk Q → run P Γ q1p (An K Q) s) : run P Γ Nk Q s := Af h
theorem Wi (h : ∀ K : St → Prop, K = run P Γ Nl Q → run P Γ q1q (An K Q) s) : run P Γ Nl Q s := Af h
theorem Wj (h : ∀ K : St → Prop, K = run P Γ Nn Q → run P Γ q1r (An K Q) s) : run P Γ Nn Q s := Af h
theorem Gw (h : ∀ K : St → Prop, K = run P Γ L1 Q → run P Γ q0l (An K Q) s) : run P Γ L1 Q s := Af h
theorem U8 (h : ∀ K : St → Prop, K = run P Γ L6 Q → run P Γ q0m (An K Q) s) : run P Γ L6 Q s := Af h
def q1t : List RV := [.tmp 4]
/- probecard/probecardref01.Apply (function 161) -/
abbrev q4I : IC := .gh (.seq (.seq (.reg [om 24 6, om 25 5, od 26 (le 0 25), od 27 (.bin .lss (tm 24) (tm 26))] [kp [5, 6, 27] []]) (.cond (tm 27) .skip (.exit 0))) (.seq (.block 1 (.seq (.reg [om 30 5, om 31 6, od 32 (ia 1 30 31), od 33 (ld 1 32),
 om 34 5, od 35 (.iadr 1 (tm 34) (ki 0)), od 36 (ld 1 35), od 37 (.bin .neq (tm 33) (tm 36))] [kp [5, 6, 37] []]) (.cond (tm 37) (.seq (.reg [od 4 (.mv (ku 2))] [kp [4] []]) .ret) .skip))) (.reg [om 28 6, od 29 (.bin .add (tm 28)
 (ki 1)), om 6 29] [kp [5, 6] []]))) [kp [5, 6] []]
def M8 : IC := .loop q4I
abbrev M9 : IC := (.seq (.reg [od 4 (.mv (ku 0))] [kp [0, 1] []]) (.seq (.reg [od 7 (.bsl true 3 1 []), om 5 7] [kp [0, 1] []]) (.seq (.seq (.reg [om 8 0, od 9 (.bin .geq (tm 8) (ku 5)), om 10 9, oT 11 (.mv (tm 0)) 10, oT 12 (.bin .leq (tm 11) (ku
 10)) 10, od 13 (.pick (tm 10) (tm 12) kF), om 14 13, oF 15 (.mv (tm 0)) 14, oF 16 (.bin .eql (tm 15) (ku 13)) 14, od 17 (.pick (tm 14) kT (tm 16))] [kp [0, 1, 17] []]) (.cond (tm 17) (.reg [om 18 0, om 19 1, od 20 (.call 178 [(tm
 18), (tm 19)]), om 5 20] [kp [5] []]) (.reg [om 21 0, om 22 1, od 23 (.call 179 [(tm 21), (tm 22), kN]), om 5 23] [kp [5] []]))) (.seq (.seq (.reg [od 6 (.mv (ki 0))] [kp [5, 6] []]) (.block 0 M8)) (.seq (.reg [od 38
 (.bsl true 64 1 [(ku 0), (ku 1), (ku 3), (ku 2)]), om 39 5, od 40 (.iadr 1 (tm 39) (ki 0)), od 41 (ld 1 40), od 42 (ia 1 38 41), od 43 (ld 1 42), om 4 43] [kp [4] []]) .ret)))))
theorem Zu (h : ∀ K : St → Prop, K = run P Γ M8 Q → run P Γ q4I (An K Q) s) : run P Γ M8 Q s := Af h
def Mc : List RV := [.tmp 4]
/- probecard/probecardref01.Eval (function 128) -/
abbrev q1E : IC := (.seq (.reg [od 4 (.mv (ku 0))] [kp [0, 1] []]) (.seq (.seq (.reg [om 5 0, om 6 1, od 7 (le 0 6), od 8 (.call 160 [(tm 5), (tm 7)]), od 9 (.un .not (tm 8))] [kp [0, 1, 9] []]) (.cond (tm 9) (.seq (.reg [od 4 (.mv (ku 2))] [kp [4]
 []]) .ret) .skip)) (.seq (.reg [om 10 0, om 11 1, od 12 (.call 161 [(tm 10), (tm 11)]), om 4 12] [kp [4] []]) .ret)))
def q1F : List RV := [.tmp 4]
/- probecard/probecardref03.Comb (function 127) -/
abbrev q1G : IC := (.seq (.reg [od 2 (.mv kF)] [kp [0] []]) (.seq (.reg [om 3 0, od 4 (.bin .geq (tm 3) (ku 1)), om 5 4, oT 6 (.mv (tm 0)) 5, oT 7 (.bin .leq (tm 6) (ku 13)) 5, od 8 (.pick (tm 5) (tm 7) kF), om 2 8] [kp [2] []]) .ret))
def q1H : List RV := [.tmp 2]
/- probecard/probecardref03.Of (function 60) -/
abbrev q9A : IC := .gh (.seq (.seq (.reg [om 7 6, od 8 (fa 0 2), od 9 (ld 1 8), od 10 (le 0 9), od 11 (.bin .lss (tm 7) (tm 10))] [kp [1, 2, 5, 6, 11] [25]]) (.cond (tm 11) .skip (.exit 0))) (.seq (.block 1 (.seq (.reg [od 14 (fa 0 2), od 15 (ld 1
 14), om 16 6, od 17 (ia 4 15 16), od 18 (fa 0 17), od 19 (ld 1 18), om 20 1, od 21 (.bin .eql (tm 19) (tm 20))] [kp [1, 2, 5, 6, 21] [25]]) (.cond (tm 21) (.reg [om 22 5, om 23 6, od 24 (.bsl true 3 1 [(tm 23)]), od 25 (.app false
 3 1 (tm 22) (tm 24)), om 5 25] [kp [1, 2, 5, 6] [25]]) .skip))) (.reg [om 12 6, od 13 (.bin .add (tm 12) (ki 1)), om 6 13] [kp [1, 2, 5, 6] [25]]))) [kp [1, 2, 5, 6] [25]]
def q0n : IC := .loop q9A
abbrev q9B : IC := (.seq (.reg [od 2 (.box true (tm 0)), od 4 (.mv kN)] [kp [1, 2] []]) (.seq (.reg [od 5 (.mv kN)] [.nl 5 25 3 1, kp [1, 2, 5] [25]]) (.seq (.seq (.reg [od 6 (.mv (ki 0))] [kp [1, 2, 5, 6] [25]]) (.block 0 q0n)) (.seq (.reg
 [om 26 5, om 4 26] [kp [4] [25]]) .ret))))
theorem q2s (h : ∀ K : St → Prop, K = run P Γ q0n Q → run P Γ q9A (An K Q) s) : run P Γ q0n Q s := Af h
def q9C : List RV := [.tmp 4]
/- probecard/probecardref03.Levels (function 159) -/
abbrev q2t : IC := .gh (.seq (.seq (.reg [om 33 9, od 34 (fa 1 8), od 35 (ld 1 34), od 36 (le 0 35), od 37 (.bin .lss (tm 33) (tm 36)), om 38 37, oT 39 (fa 0 8) 38, oT 40 (ld 1 39) 38, oT 41 (.call 127 [(tm 40)]) 38, od 42 (.pick (tm 38) (tm 41) kF)]
 [kp [1, 4, 5, 6, 7, 8, 9, 42] [8, 13]]) (.cond (tm 42) .skip (.exit 4))) (.seq (.block 5 (.seq (.reg [om 45 4, om 46 7, od 47 (ia 1 45 46), od 48 (ld 1 47), om 49 4, od 50 (fa 1 8), od 51 (ld 1 50), om 52 9, od 53 (ia 1 51 52), od
 54 (ld 1 53), od 55 (ia 1 49 54), od 56 (ld 1 55), od 57 (.bin .add (tm 56) (ki 1)), od 58 (.bin .lss (tm 48) (tm 57))] [kp [1, 4, 5, 6, 7, 8, 9, 58] [8, 13]]) (.cond (tm 58) (.seq (.reg [om 59 4, om 60 7, om 61 4, od 62 (fa 1 8),
 od 63 (ld 1 62), om 64 9, od 65 (ia 1 63 64), od 66 (ld 1 65), od 67 (ia 1 61 66), od 68 (ld 1 67), od 69 (.bin .add (tm 68) (ki 1)), od 70 (ia 1 59 60), on (.store 1 (tm 70) (tm 69))] [kp [1, 4, 5, 7, 8, 9] [8, 13]]) (.reg [od 6
 (.mv kT)] [kp [1, 4, 5, 6, 7, 8, 9] [8, 13]])) .skip))) (.reg [om 43 9, od 44 (.bin .add (tm 43) (ki 1)), om 9 44] [kp [1, 4, 5, 6, 7, 8, 9] [8, 13]]))) [kp [1, 4, 5, 6, 7, 8, 9] [8, 13]]
def P3 : IC := .loop q2t
abbrev q2u : IC := .gh (.seq (.seq (.reg [om 21 7, od 22 (fa 0 1), od 23 (ld 1 22), od 24 (le 0 23), od 25 (.bin .lss (tm 21) (tm 24))] [kp [1, 4, 5, 6, 7, 25] [13]]) (.cond (tm 25) .skip (.exit 2))) (.seq (.block 3 (.seq (.reg [od 28 (fa 0 1), od 29
 (ld 1 28), om 30 7, od 31 (ia 4 29 30), od 32 (lG 4 31), od 8 (.alloc false [(.int .u8 0), (.slice none 0 0), (.int .i64 0), (.int .i64 0)]), on (.store 4 (tm 8) (tm 32))] [kp [1, 4, 5, 6, 7, 8] [8, 13]]) (.seq (.reg [od 9 (.mv (ki
 0))] [kp [1, 4, 5, 6, 7, 8, 9] [8, 13]]) (.block 4 P3)))) (.reg [om 26 7, od 27 (.bin .add (tm 26) (ki 1)), om 7 27] [kp [1, 4, 5, 6, 7] [13]]))) [kp [1, 4, 5, 6, 7] [13]]
def P4 : IC := .loop q2u
abbrev q2v : IC := .gh (.seq (.seq (.reg [om 14 5, od 15 (fa 0 1), od 16 (ld 1 15), od 17 (le 0 16), od 18 (.bin .leq (tm 14) (tm 17))] [kp [1, 4, 5, 18] [13]]) (.cond (tm 18) .skip (.exit 0))) (.seq (.block 1 (.seq (.reg [od 6 (.mv kF)] [kp [1, 4,
 5, 6] [13]]) (.seq (.seq (.reg [od 7 (.mv (ki 0))] [kp [1, 4, 5, 6, 7] [13]]) (.block 2 P4)) (.seq (.reg [om 71 6, od 72 (.un .not (tm 71))] [kp [1, 4, 5, 72] [13]]) (.cond (tm 72) (.seq (.reg [om 73 4, om 2 73, od 3
 (.mv kT)] [kp [2, 3] [13]]) .ret) .skip))))) (.reg [om 19 5, od 20 (.bin .add (tm 19) (ki 1)), om 5 20] [kp [1, 4, 5] [13]]))) [kp [1, 4, 5] [13]]
def P5 : IC := .loop q2v
abbrev q2w : IC := (.seq (.reg [od 1 (.box true (tm 0)), od 2 (.mv kN), od 3 (.mv kF)] [kp [1] []]) (.seq (.reg [od 10 (fa 0 1), od 11 (ld 1 10), od 12 (le 0 11), od 13 (.mk 3 1 [(.int .i64 0)] (tm 12) (tm 12)), om 4 13] [kp [1, 4] [13]]) (.seq (.seq
 (.reg [od 5 (.mv (ki 0))] [kp [1, 4, 5] [13]]) (.block 0 P5)) (.seq (.reg [od 2 (.mv kN), od 3 (.mv kF)] [kp [2, 3] [13]]) .ret))))
theorem I4 (h : ∀ K : St → Prop, K = run P Γ P3 Q → run P Γ q2t (An K Q) s) : run P Γ P3 Q s := Af h
theorem Xt (h : ∀ K : St → Prop, K = run P Γ P4 Q → run P Γ q2u (An K Q) s) : run P Γ P4 Q s := Af h
theorem q5C (h : ∀ K : St → Prop, K = run P Γ P5 Q → run P Γ q2v (An K Q) s) : run P Γ P5 Q s := Af h
def q2x : List RV := [.tmp 2, .tmp 3]
/- probecard/probecardref03.Order (function 126) -/
abbrev q4J : IC := .gh (.seq (.seq (.reg [om 21 7, od 22 (fa 0 1), od 23 (ld 1 22), od 24 (le 0 23), od 25 (.bin .lss (tm 21) (tm 24))] [kp [1, 3, 5, 6, 7, 25] [37]]) (.cond (tm 25) .skip (.exit 2))) (.seq (.block 3 (.seq (.reg [om 28 3, om 29 7, od
 30 (ia 1 28 29), od 31 (ld 1 30), om 32 6, od 33 (.bin .eql (tm 31) (tm 32))] [kp [1, 3, 5, 6, 7, 33] [37]]) (.cond (tm 33) (.reg [om 34 5, om 35 7, od 36 (.bsl true 3 1 [(tm 35)]), od 37 (.app false 3 1 (tm 34) (tm 36)), om 5 37]
 [kp [1, 3, 5, 6, 7] [37]]) .skip))) (.reg [om 26 7, od 27 (.bin .add (tm 26) (ki 1)), om 7 27] [kp [1, 3, 5, 6, 7] [37]]))) [kp [1, 3, 5, 6, 7] [37]]
def Rz : IC := .loop q4J
abbrev q4K : IC := .gh (.seq (.seq (.reg [om 13 5, od 14 (le 0 13), od 15 (fa 0 1), od 16 (ld 1 15), od 17 (le 0 16), od 18 (.bin .lss (tm 14) (tm 17))] [kp [1, 3, 5, 6, 18] [37]]) (.cond (tm 18) .skip (.exit 0))) (.seq (.block 1 (.seq (.reg [od 7
 (.mv (ki 0))] [kp [1, 3, 5, 6, 7] [37]]) (.block 2 Rz))) (.reg [om 19 6, od 20 (.bin .add (tm 19) (ki 1)), om 6 20] [kp [1, 3, 5, 6] [37]]))) [kp [1, 3, 5, 6] [37]]
def S3 : IC := .loop q4K
abbrev q4L : IC := (.seq (.reg [od 1 (.box true (tm 0)), od 2 (.mv kN)] [kp [1] []]) (.seq (.reg [od 9 (lG 4 1), od 10 (.call 159 [(tm 9)]), om 8 10, od 11 (ex 8 0), od 12 (ex 8 1), om 3 11, om 4 12] [kp [1, 3] []]) (.seq (.reg [od 5 (.mv kN)] [.nl 5
 37 3 1, kp [1, 3, 5] [37]]) (.seq (.seq (.reg [od 6 (.mv (ki 0))] [kp [1, 3, 5, 6] [37]]) (.block 0 S3)) (.seq (.reg [om 38 5, om 2 38] [kp [2] [37]]) .ret)))))
theorem Zv (h : ∀ K : St → Prop, K = run P Γ Rz Q → run P Γ q4J (An K Q) s) : run P Γ Rz Q s := Af h
theorem q6d (h : ∀ K : St → Prop, K = run P Γ S3 Q → run P Γ q4K (An K Q) s) : run P Γ S3 Q s := Af h
def q4M : List RV := [.tmp 2]
/- probecard/probecardref06.value (function 59) -/
abbrev Md : IC := (.seq (.reg [od 4 (.mv (ku 0))] [kp [0, 1] []]) (.seq (.seq (.reg [om 5 1, od 6 (.bin .lss (tm 5) (ki 0)), om 7 6, oF 8 (.mv (tm 1)) 7, oF 9 (.mv (tm 0)) 7, oF 10 (le 0 9) 7, oF 11 (.bin .geq (tm 8) (tm 10)) 7, od 12 (.pick (tm 7)
 kT (tm 11)), om 13 12, oF 14 (.mv (tm 0)) 13, oF 15 (.mv (tm 1)) 13, oF 16 (ia 1 14 15) 13, oF 17 (ld 1 16) 13, oF 18 (.bin .gtr (tm 17) (ku 3)) 13, od 19 (.pick (tm 13) kT (tm 18))] [kp [0, 1, 19] []]) (.cond (tm 19) (.seq (.reg
 [od 4 (.mv (ku 2))] [kp [4] []]) .ret) .skip)) (.seq (.reg [om 20 0, om 21 1, od 22 (ia 1 20 21), od 23 (ld 1 22), om 4 23] [kp [4] []]) .ret)))
def Me : List RV := [.tmp 4]
/- probecard/probecardref06.Observe (function 15) -/
abbrev q1u : IC := .gh (.seq (.seq (.reg [om 10 6, od 11 (fa 3 2), od 12 (ld 1 11), od 13 (le 0 12), od 14 (.bin .lss (tm 10) (tm 13))] [kp [1, 2, 4, 5, 6, 14] [4, 5, 27, 67]]) (.cond (tm 14) .skip (.exit 0))) (.seq (.block 1 (.reg [od 17 (fa 0 5),
 od 18 (.ldR 5 1 false (tm 17)), om 19 1, od 20 (fa 3 2), od 21 (.ldT 1 false (tm 20)), om 22 6, od 23 (ia 1 21 22), od 24 (.ldT 1 false (tm 23)), od 25 (.call 59 [(tm 19), (tm 24)]), od 26 (.bsl true 64 1 [(tm 25)]), od 27 (.app
 false 64 1 (tm 18) (tm 26)), od 28 (fa 0 5), on (.stR 5 1 (tm 28) (tm 27))] [kp [1, 2, 4, 5, 6] [4, 5, 27, 67]])) (.reg [om 15 6, od 16 (.bin .add (tm 15) (ki 1)), om 6 16] [kp [1, 2, 4, 5, 6] [4, 5, 27, 67]]))) [kp [1, 2, 4, 5, 6]
 [4, 5, 27, 67]]
def Np : IC := .loop q1u
abbrev q1v : IC := .gh (.seq (.seq (.reg [om 31 8, om 32 7, od 33 (le 0 32), od 34 (.bin .lss (tm 31) (tm 33))] [kp [1, 2, 4, 5, 7, 8, 34] [4, 5, 27, 67]]) (.cond (tm 34) .skip (.exit 2))) (.seq (.block 3 (.seq (.reg [od 9 (.mv (ku 2))] [kp [1, 2, 4,
 5, 7, 8, 9] [4, 5, 27, 67]]) (.seq (.seq (.reg [od 37 (fa 0 2), od 38 (ld 1 37), om 39 7, om 40 8, od 41 (ia 1 39 40), od 42 (ld 1 41), od 43 (ia 4 38 42), od 44 (fa 1 43), od 45 (ld 1 44), od 46 (le 0 45), od 47 (.bin .eql (tm 46)
 (ki 1))] [kp [1, 2, 4, 5, 7, 8, 9, 47] [4, 5, 27, 67]]) (.cond (tm 47) (.reg [om 48 1, od 49 (fa 0 2), od 50 (ld 1 49), om 51 7, om 52 8, od 53 (ia 1 51 52), od 54 (ld 1 53), od 55 (ia 4 50 54), od 56 (fa 1 55), od 57 (ld 1 56), od
 58 (.iadr 1 (tm 57) (ki 0)), od 59 (ld 1 58), od 60 (.call 59 [(tm 48), (tm 59)]), om 9 60] [kp [1, 2, 4, 5, 7, 8, 9] [4, 5, 27, 67]]) .skip)) (.seq (.seq (.reg [om 61 9, od 62 (.bin .eql (tm 61) (ku 3))] [kp [1, 2, 4, 5, 7, 8, 9,
 62] [4, 5, 27, 67]]) (.cond (tm 62) (.reg [od 9 (.mv (ku 2))] [kp [1, 2, 4, 5, 7, 8, 9] [4, 5, 27, 67]]) .skip)) (.reg [od 63 (fa 1 5), od 64 (ld 1 63), om 65 9, od 66 (.bsl true 64 1 [(tm 65)]), od 67 (.app false 64 1 (tm 64) (tm
 66)), od 68 (fa 1 5), on (.store 1 (tm 68) (tm 67))] [kp [1, 2, 4, 5, 7, 8] [4, 5, 27, 67]]))))) (.reg [om 35 8, od 36 (.bin .add (tm 35) (ki 1)), om 8 36] [kp [1, 2, 4, 5, 7, 8] [4, 5, 27, 67]]))) [kp [1, 2, 4, 5, 7, 8] [4, 5, 27,
 67]]
def Nq : IC := .loop q1v
abbrev q1w : IC := (.seq (.reg [od 2 (.box true (tm 0)), od 4 (.alloc false [(.slice none 0 0), (.slice none 0 0)])] [kp [1, 2, 4] [4, 27, 67]]) (.seq (.reg [od 5 (.alloc false [(.slice none 0 0), (.slice none 0 0)])] [.nlb 5 0 27 64 1, .nlb 5 1 67
 64 1, kp [1, 2, 4, 5] [4, 5, 27, 67]]) (.seq (.seq (.reg [od 6 (.mv (ki 0))] [kp [1, 2, 4, 5, 6] [4, 5, 27, 67]]) (.block 0 Np)) (.seq (.reg [od 29 (lG 4 2), od 30 (.call 60 [(tm 29), (ku 14)]), om 7 30] [kp [1, 2, 4,
 5, 7] [4, 5, 27, 67]]) (.seq (.seq (.reg [od 8 (.mv (ki 0))] [kp [1, 2, 4, 5, 7, 8] [4, 5, 27, 67]]) (.block 2 Nq)) (.seq (.reg [od 69 (lG 2 5), on (.store 2 (tm 4) (tm 69))] [kp [4] [4, 27, 67]]) .ret))))))
theorem Wl (h : ∀ K : St → Prop, K = run P Γ Np Q → run P Γ q1u (An K Q) s) : run P Γ Np Q s := Af h
theorem Wm (h : ∀ K : St → Prop, K = run P Γ Nq Q → run P Γ q1v (An K Q) s) : run P Γ Nq Q s := Af h
def q1x : List RV := [.cell 4 2 true]
/- probecard/probecardref06.Settle (function 58) -/
abbrev q2y : IC := .gh (.seq (.seq (.reg [om 29 10, od 30 (fa 1 8), od 31 (ld 1 30), od 32 (le 0 31), od 33 (.bin .lss (tm 29) (tm 32))] [kp [2, 5, 6, 7, 8, 9, 10, 33] [8, 12, 46]]) (.cond (tm 33) .skip (.exit 2))) (.seq (.block 3 (.reg [om 36 9, om
 37 5, od 38 (fa 1 8), od 39 (ld 1 38), om 40 10, od 41 (ia 1 39 40), od 42 (ld 1 41), od 43 (ia 1 37 42), od 44 (ld 1 43), od 45 (.bsl true 64 1 [(tm 44)]), od 46 (.app false 64 1 (tm 36) (tm 45)), om 9 46] [kp [2, 5, 6, 7, 8, 9,
 10] [8, 12, 46]])) (.reg [om 34 10, od 35 (.bin .add (tm 34) (ki 1)), om 10 35] [kp [2, 5, 6, 7, 8, 9, 10] [8, 12, 46]]))) [kp [2, 5, 6, 7, 8, 9, 10] [8, 12, 46]]
def P6 : IC := .loop q2y
abbrev q2z : IC := .gh (.seq (.seq (.reg [om 15 7, om 16 6, od 17 (le 0 16), od 18 (.bin .lss (tm 15) (tm 17))] [kp [2, 5, 6, 7, 18] [12]]) (.cond (tm 18) .skip (.exit 0))) (.seq (.block 1 (.seq (.reg [od 21 (fa 0 2), od 22 (.ldT 1 false (tm 21)), om
 23 6, om 24 7, od 25 (ia 1 23 24), od 26 (.ldT 1 false (tm 25)), od 27 (ia 4 22 26), od 28 (.ldT 4 true (tm 27)), od 8 (.alloc false [(.int .u8 0), (.slice none 0 0), (.int .i64 0), (.int .i64 0)]), on (.stR 8 4 (tm 8) (tm 28))]
 [kp [2, 5, 6, 7, 8] [8, 12]]) (.seq (.reg [od 9 (.mv kN)] [.nl 9 46 64 1, kp [2, 5, 6, 7, 8, 9] [8, 12, 46]]) (.seq (.seq (.reg [od 10 (.mv (ki 0))] [kp [2, 5, 6, 7, 8, 9, 10] [8, 12, 46]]) (.block 2 P6)) (.seq (.reg
 [od 47 (fa 0 8), od 48 (ld 1 47), od 49 (.call 127 [(tm 48)])] [kp [2, 5, 6, 7, 8, 9, 49] [8, 12, 46]]) (.cond (tm 49) (.reg [om 50 5, om 51 6, om 52 7, od 53 (ia 1 51 52), od 54 (.ldT 1 false (tm 53)), od 55 (fa 0 8), od 56 (.ldR
 8 1 false (tm 55)), om 57 9, od 58 (.call 128 [(tm 56), (tm 57)]), od 59 (ia 1 50 54), on (.stR 12 1 (tm 59) (tm 58))] [kp [2, 5, 6, 7] [12]]) .skip)))))) (.reg [om 19 7, od 20 (.bin .add (tm 19) (ki 1)), om 7 20] [kp [2, 5, 6, 7]
 [12]]))) [kp [2, 5, 6, 7] [12]]
def P7 : IC := .loop q2z
abbrev q30 : IC := (.seq (.reg [od 2 (.box true (tm 0)), od 4 (.mv kN)] [kp [1, 2] []]) (.seq (.reg [om 11 1, od 12 (.app false 64 1 kN (tm 11)), om 5 12] [kp [2, 5] [12]]) (.seq (.reg [od 13 (lG 4 2), od 14 (.call 126 [(tm 13)]), om 6 14] [kp [2, 5,
 6] [12]]) (.seq (.seq (.reg [od 7 (.mv (ki 0))] [kp [2, 5, 6, 7] [12]]) (.block 0 P7)) (.seq (.reg [om 60 5, om 4 60] [kp [4] [12]]) .ret)))))
theorem Xu (h : ∀ K : St → Prop, K = run P Γ P6 Q → run P Γ q2y (An K Q) s) : run P Γ P6 Q s := Af h
theorem Xv (h : ∀ K : St → Prop, K = run P Γ P7 Q → run P Γ q2z (An K Q) s) : run P Γ P7 Q s := Af h
def q31 : List RV := [.tmp 4]
end
end Go.Lg
namespace Go.Lg
open Go Go.Proofs
theorem q7c : Au Tryz.prog 130 G9 20 2 Ge = true := by kernel_rfl
theorem q9T : Au Tryz.prog 204 q4G 22 2 q4H = true := by kernel_rfl
theorem qBR : Au Tryz.prog 205 q7a 4 1 q7b = true := by kernel_rfl
theorem q6e : Au Tryz.prog 196 Bf 133 2 Ax = true := by kernel_rfl
theorem q7d : Au Tryz.prog 160 Ep 56 2 Es = true := by kernel_rfl
theorem q0o : Au Tryz.prog 179 Uy 47 3 Uz = true := by kernel_rfl
theorem q7e : Au Tryz.prog 178 q1s 111 2 q1t = true := by kernel_rfl
theorem q9U : Au Tryz.prog 161 M9 44 2 Mc = true := by kernel_rfl
theorem qAs : Au Tryz.prog 128 q1E 13 2 q1F = true := by kernel_rfl
theorem qAt : Au Tryz.prog 127 q1G 9 1 q1H = true := by kernel_rfl
theorem qCr : Au Tryz.prog 60 q9B 27 2 q9C = true := by kernel_rfl
theorem q8V : Au Tryz.prog 159 q2w 74 1 q2x = true := by kernel_rfl
theorem q9V : Au Tryz.prog 126 q4L 39 1 q4M = true := by kernel_rfl
theorem q9W : Au Tryz.prog 59 Md 24 2 Me = true := by kernel_rfl
theorem q7f : Au Tryz.prog 15 q1w 70 2 q1x = true := by kernel_rfl
theorem q8W : Au Tryz.prog 58 q30 61 2 q31 = true := by kernel_rfl
end Go.Lg
