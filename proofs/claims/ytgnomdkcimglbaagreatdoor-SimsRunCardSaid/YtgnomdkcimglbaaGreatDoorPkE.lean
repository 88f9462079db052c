/- The abstract code of some functions, as the program gen.py prints it. Conditions: none. -/
import Derived.Test.YtgnomdkcimglbaaGreatDoorPkC
import Derived.Test.YtgnomdkcimglbaaGreatDoorProg
import Derived.KernelRfl
import Derived.Test.YtgnomdkcimglbaaGreatDoorPkD
set_option linter.unusedVariables false
namespace Go.Lg
open Go
section
variable {P : Program} {Γ : Tables} {Q : AX → St → Prop} {s : St}
/- probecard/logic.Clean (function 127) -/
abbrev q0Z : IC := (.seq (.reg [od 2 (.mv (ku 0))] [kp [0] []]) (.seq (.seq (.reg [om 3 0, od 4 (.bin .gtr (tm 3) (ku 3))] [kp [0, 4] []]) (.cond (tm 4) (.seq (.reg [od 2 (.mv (ku 2))] [kp [2] []]) .ret) .skip)) (.seq (.reg [om 5 0, om 2 5] [kp [2]
 []]) .ret)))
def q0a : List RV := [.tmp 2]
/- probecard/logic.Read (function 73) -/
abbrev q1j : IC := (.seq (.reg [od 2 (.mv (ku 0))] [kp [0] []]) (.seq (.reg [om 3 0, od 4 (.mmx false [(tm 3), (ku 2)]), om 2 4] [kp [2] []]) .ret))
def q1k : List RV := [.tmp 2]
/- probecard/logic.Known (function 152) -/
abbrev q0b : IC := (.seq (.reg [od 2 (.mv kF)] [kp [0] []]) (.seq (.reg [om 3 0, od 4 (.bin .leq (tm 3) (ku 1)), om 2 4] [kp [2] []]) .ret))
def q0c : List RV := [.tmp 2]
/- probecard/logic.Not (function 115) -/
abbrev q39 : IC := (.seq (.reg [od 2 (.mv (ku 0))] [kp [0] []]) (.seq (.seq (.reg [om 3 0, od 4 (.call 152 [(tm 3)])] [kp [0, 4] []]) (.cond (tm 4) (.seq (.reg [om 5 0, od 6 (.bin .sub (ku 1) (tm 5)), om 2 6] [kp [2] []]) .ret) .skip)) (.seq (.reg
 [od 2 (.mv (ku 2))] [kp [2] []]) .ret)))
def Yv : List RV := [.tmp 2]
/- probecard/logic.decided (function 153) -/
abbrev Xl : IC := .gh (.seq (.reg [od 14 (.bin .lss (tm 13) (tm 12))] [kp [1, 2, 7, 11, 12, 13, 14] []]) (.seq (.cond (tm 14) .skip (.exit 0)) (.seq (.block 1 (.seq (.reg [od 15 (ia 1 11 13), od 16 (ld 1 15), om 9 16] [kp [1, 2, 7, 9, 11, 12, 13]
 []]) (.block 2 (.seq (.reg [om 18 9, om 19 1, od 20 (.bin .eql (tm 18) (tm 19)), om 17 20] [kp [1, 2, 7, 9, 11, 12, 13, 17] []]) (.cond (tm 17) (.seq (.reg [om 21 1, om 6 21] [kp [6] []]) .ret) (.seq (.reg [om 23 9, om 24 2, od 25
 (.bin .neq (tm 23) (tm 24)), om 22 25] [kp [1, 2, 7, 11, 12, 13, 22] []]) (.cond (tm 22) (.reg [od 7 (.mv (ku 2))] [kp [1, 2, 7, 11, 12, 13] []]) .skip))))))) (.reg [od 26 (.bin .add (tm 13) (ki 1)), om 13 26] [kp [1, 2, 7, 11, 12,
 13] []])))) [kp [1, 2, 7, 11, 12, 13] []]
def Jk : IC := .loop Xl
abbrev Xm : IC := (.seq (.reg [od 6 (.mv (ku 0))] [kp [0, 1, 2] []]) (.seq (.reg [om 10 2, om 7 10] [kp [0, 1, 2, 7] []]) (.seq (.seq (.reg [om 11 0, od 12 (le 0 11), od 13 (.mv (ki 0))] [kp [1, 2, 7, 11, 12, 13] []]) (.block 0 Jk))
 (.seq (.reg [om 27 7, om 6 27] [kp [6] []]) .ret))))
theorem Qr (h : ∀ K : St → Prop, K = run P Γ Jk Q → run P Γ Xl (An K Q) s) : run P Γ Jk Q s := Af h
def Pq : List RV := [.tmp 6]
/- probecard/logic.And (function 116) -/
abbrev q3A : IC := (.seq (.reg [od 2 (.mv (ku 0))] [kp [0] []]) (.seq (.reg [om 3 0, od 4 (.call 153 [(tm 3), (ku 0), (ku 1)]), om 2 4] [kp [2] []]) .ret))
def q3B : List RV := [.tmp 2]
/- probecard/logic.Or (function 117) -/
abbrev q4h : IC := (.seq (.reg [od 2 (.mv (ku 0))] [kp [0] []]) (.seq (.reg [om 3 0, od 4 (.call 153 [(tm 3), (ku 1), (ku 0)]), om 2 4] [kp [2] []]) .ret))
def q4i : List RV := [.tmp 2]
/- probecard/logic.Xor (function 118) -/
abbrev q3C : IC := .gh (.seq (.reg [od 9 (.bin .lss (tm 8) (tm 7))] [kp [3, 6, 7, 8, 9] []]) (.seq (.cond (tm 9) .skip (.exit 0)) (.seq (.block 1 (.seq (.reg [od 10 (ia 1 6 8), od 11 (ld 1 10), om 5 11] [kp [3, 5, 6, 7, 8] []]) (.seq (.seq (.reg [om
 12 5, od 13 (.call 152 [(tm 12)]), od 14 (.un .not (tm 13))] [kp [3, 5, 6, 7, 8, 14] []]) (.cond (tm 14) (.seq (.reg [od 2 (.mv (ku 2))] [kp [2] []]) .ret) .skip)) (.reg [om 15 3, om 16 5, od 17 (.bin .xor (tm 15) (tm 16)), om 3
 17] [kp [3, 6, 7, 8] []])))) (.reg [od 18 (.bin .add (tm 8) (ki 1)), om 8 18] [kp [3, 6, 7, 8] []])))) [kp [3, 6, 7, 8] []]
def Td : IC := .loop q3C
abbrev q3D : IC := (.seq (.reg [od 2 (.mv (ku 0))] [kp [0] []]) (.seq (.reg [od 3 (.mv (ku 0))] [kp [0, 3] []]) (.seq (.seq (.reg [om 6 0, od 7 (le 0 6), od 8 (.mv (ki 0))] [kp [3, 6, 7, 8] []]) (.block 0 Td)) (.seq (.reg [om 19 3, om 2 19]
 [kp [2] []]) .ret))))
theorem Xn (h : ∀ K : St → Prop, K = run P Γ Td Q → run P Γ q3C (An K Q) s) : run P Γ Td Q s := Af h
def Yw : List RV := [.tmp 2]
/- probecard/logic.Mux (function 119) -/
abbrev O0 : IC := (.seq (.reg [od 6 (.mv (ku 0))] [kp [0, 1, 2] []]) (.seq (.block 0 (.seq (.reg [om 8 0, od 9 (.bin .eql (tm 8) (ku 0)), om 7 9] [kp [0, 1, 2, 7] []]) (.cond (tm 7) (.seq (.reg [om 10 1, od 11 (.call 73 [(tm 10)]), om 6 11] [kp [6]
 []]) .ret) (.seq (.reg [om 13 0, od 14 (.bin .eql (tm 13) (ku 1)), om 12 14] [kp [1, 2, 12] []]) (.cond (tm 12) (.seq (.reg [om 15 2, od 16 (.call 73 [(tm 15)]), om 6 16] [kp [6] []]) .ret) (.seq (.reg [om 18 1, om 19 2, od 20
 (.bin .eql (tm 18) (tm 19)), om 17 20] [kp [1, 17] []]) (.cond (tm 17) (.seq (.reg [om 21 1, od 22 (.call 73 [(tm 21)]), om 6 22] [kp [6] []]) .ret) .skip))))))) (.seq (.reg [od 6 (.mv (ku 2))] [kp [6] []]) .ret)))
def O1 : List RV := [.tmp 6]
/- probecard/logic.Tri (function 120) -/
abbrev Tf : IC := (.seq (.reg [od 4 (.mv (ku 0))] [kp [0, 1] []]) (.seq (.seq (.reg [om 5 0] [kp [1, 5] []]) (.block 0 (.seq (.reg [od 7 (.bin .eql (tm 5) (ku 0)), om 6 7] [kp [1, 5, 6] []]) (.cond (tm 6) (.seq (.reg [od 4 (.mv (ku 3))] [kp [4] []])
 .ret) (.seq (.reg [od 9 (.bin .eql (tm 5) (ku 1)), om 8 9] [kp [1, 8] []]) (.cond (tm 8) (.seq (.reg [om 10 1, od 11 (.call 73 [(tm 10)]), om 4 11] [kp [4] []]) .ret) .skip)))))) (.seq (.reg [od 4 (.mv (ku 2))] [kp [4] []]) .ret)))
def Ti : List RV := [.tmp 4]
/- probecard/logic.Bus (function 121) -/
abbrev q3E : IC := (.seq (.reg [od 2 (.mv (ku 0))] [kp [0] []]) (.seq (.reg [od 3 (.mv (.func 154))] [kp [0, 3] []]) (.seq (.reg [od 4 (.mv (.func 155))] [kp [0, 3, 4] []]) (.seq (.reg [om 6 0, om 7 4, od 8 (.call 130 [(tm 6), (tm 7)]), om 5 8] [kp
 [0, 3, 5] []]) (.seq (.block 0 (.seq (.reg [om 10 5, od 11 (.bin .lss (tm 10) (ki 0)), om 9 11] [kp [0, 3, 5, 9] []]) (.cond (tm 9) (.seq (.reg [od 2 (.mv (ku 3))] [kp [2] []]) .ret) (.seq (.reg [om 13 0, od 14 (.call 128 [(tm
 13)]), om 15 14, oF 16 (.mv (tm 0)) 15, oF 17 (.mv (tm 3)) 15, oF 18 (.call 76 [(tm 16), (tm 17)]) 15, od 19 (.pick (tm 15) kT (tm 18)), om 12 19] [kp [0, 5, 12] []]) (.cond (tm 12) (.seq (.reg [od 2 (.mv (ku 2))] [kp [2] []])
 .ret) .skip))))) (.seq (.reg [om 20 0, om 21 5, od 22 (ia 1 20 21), od 23 (ld 1 22), om 2 23] [kp [2] []]) .ret))))))
def O2 : List RV := [.tmp 2]
/- probecard/logic.Bus$1 (function 154) -/
abbrev q0d : IC := (.seq (.reg [od 2 (.mv kF)] [kp [0] []]) (.seq (.reg [om 3 0, od 4 (.call 127 [(tm 3)]), od 5 (.bin .eql (tm 4) (ku 2)), om 2 5] [kp [2] []]) .ret))
def q0e : List RV := [.tmp 2]
/- probecard/logic.Bus$2 (function 155) -/
abbrev q0f : IC := (.seq (.reg [od 2 (.mv kF)] [kp [0] []]) (.seq (.reg [om 3 0, od 4 (.bin .neq (tm 3) (ku 3)), om 2 4] [kp [2] []]) .ret))
def q0g : List RV := [.tmp 2]
/- probecard/logic.Conflict (function 128) -/
abbrev Vx : IC := (.seq (.reg [od 2 (.mv kF)] [kp [0] []]) (.seq (.reg [om 3 0, od 4 (.call 160 [(tm 3), (ku 0)]), om 5 4, oT 6 (.mv (tm 0)) 5, oT 7 (.call 160 [(tm 6), (ku 1)]) 5, od 8 (.pick (tm 5) (tm 7) kF), om 2 8] [kp [2] []]) .ret))
def O3 : List RV := [.tmp 2]
/- slices.Contains[[]probecard/api.Value,probecard/api.Value] (function 160) -/
abbrev I1 : IC := (.seq (.reg [od 4 (.mv kF)] [kp [0, 1] []]) (.seq (.reg [om 5 0, om 6 1, od 7 (.call 182 [(tm 5), (tm 6)]), od 8 (.bin .geq (tm 7) (ki 0)), om 4 8] [kp [4] []]) .ret))
def I2 : List RV := [.tmp 4]
/- slices.Index[[]probecard/api.Value,probecard/api.Value] (function 182) -/
abbrev Jz : IC := .gh (.seq (.reg [od 9 (.bin .lss (tm 8) (tm 7))] [kp [0, 1, 7, 8, 9] []]) (.seq (.cond (tm 9) .skip (.exit 0)) (.seq (.block 1 (.seq (.reg [om 10 8, om 5 10] [kp [0, 1, 5, 7, 8] []]) (.seq (.reg [om 11 1, om 12 0, om 13 5, od 14
 (ia 1 12 13), od 15 (ld 1 14), od 16 (.bin .eql (tm 11) (tm 15))] [kp [0, 1, 5, 7, 8, 16] []]) (.cond (tm 16) (.seq (.reg [om 17 5, om 4 17] [kp [4] []]) .ret) .skip)))) (.reg [od 18 (.bin .add (tm 8) (ki 1)), om 8 18] [kp [0, 1,
 7, 8] []])))) [kp [0, 1, 7, 8] []]
def Dt : IC := .loop Jz
def Fz : List RO := [od 4 (.mv (.const (.int .i64 (-1))))]
abbrev K0 : IC := (.seq (.reg [od 4 (.mv (ki 0))] [kp [0, 1] []]) (.seq (.seq (.reg [om 6 0, od 7 (le 0 6), od 8 (.mv (ki 0))] [kp [0, 1, 7, 8] []]) (.block 0 Dt)) (.seq (.reg Fz [kp [4] []]) .ret)))
theorem H7 (h : ∀ K : St → Prop, K = run P Γ Dt Q → run P Γ Jz (An K Q) s) : run P Γ Dt Q s := Af h
attribute [simp] Fz
def D1 : List RV := [.tmp 4]
/- slices.ContainsFunc[[]probecard/api.Value,probecard/api.Value] (function 76) -/
abbrev G7 : IC := (.seq (.reg [od 4 (.mv kF)] [kp [0, 1] []]) (.seq (.reg [om 5 0, om 6 1, od 7 (.call 130 [(tm 5), (tm 6)]), od 8 (.bin .geq (tm 7) (ki 0)), om 4 8] [kp [4] []]) .ret))
def G8 : List RV := [.tmp 4]
/- slices.IndexFunc[[]probecard/api.Value,probecard/api.Value] (function 130) -/
abbrev H8 : IC := .gh (.seq (.reg [od 9 (.bin .lss (tm 8) (tm 7))] [kp [0, 1, 7, 8, 9] []]) (.seq (.cond (tm 9) .skip (.exit 0)) (.seq (.block 1 (.seq (.reg [om 10 8, om 5 10] [kp [0, 1, 5, 7, 8] []]) (.seq (.reg [om 11 1, om 12 0, om 13 5, od 14
 (ia 1 12 13), od 15 (ld 1 14), od 16 (.callv (tm 11) [(tm 15)])] [kp [0, 1, 5, 7, 8, 16] []]) (.cond (tm 16) (.seq (.reg [om 17 5, om 4 17] [kp [4] []]) .ret) .skip)))) (.reg [od 18 (.bin .add (tm 8) (ki 1)), om 8 18] [kp [0, 1, 7,
 8] []])))) [kp [0, 1, 7, 8] []]
def D5 : IC := .loop H8
abbrev H9 : IC := (.seq (.reg [od 4 (.mv (ki 0))] [kp [0, 1] []]) (.seq (.seq (.reg [om 6 0, od 7 (le 0 6), od 8 (.mv (ki 0))] [kp [0, 1, 7, 8] []]) (.block 0 D5)) (.seq (.reg [od 4 (.mv (.const (.int .i64 (-1))))] [kp [4]
 []]) .ret)))
theorem Fp (h : ∀ K : St → Prop, K = run P Γ D5 Q → run P Γ H8 (An K Q) s) : run P Γ D5 Q s := Af h
def E3 : List RV := [.tmp 4]
/- probecard/logic.Eval (function 57) -/
abbrev Bi : IC := (.seq (.reg [od 4 (.mv (ku 0))] [kp [0, 1] []]) (.seq (.seq (.reg [om 8 0, od 9 (.call 114 [(tm 8)]), om 7 9, od 10 (ex 7 0), od 11 (ex 7 1), om 5 10, om 6 11] [kp [0, 1, 5, 6] []]) (.seq (.reg [om 12 1, od 13 (le 0 12), om 14 5,
 od 15 (.bin .lss (tm 13) (tm 14)), om 16 15, oF 17 (.mv (tm 1)) 16, oF 18 (le 0 17) 16, oF 19 (.mv (tm 6)) 16, oF 20 (.bin .gtr (tm 18) (tm 19)) 16, od 21 (.pick (tm 16) kT (tm 20))] [kp [0, 1, 21] []]) (.cond (tm 21) (.seq (.reg
 [od 4 (.mv (ku 2))] [kp [4] []]) .ret) .skip))) (.seq (.seq (.reg [om 22 0] [kp [1, 22] []]) (.block 0 (.seq (.reg [od 24 (.bin .eql (tm 22) (ku 1)), om 23 24] [kp [1, 22, 23] []]) (.cond (tm 23) (.seq (.reg [od 4 (.mv (ku 0))] [kp
 [4] []]) .ret) (.seq (.reg [od 26 (.bin .eql (tm 22) (ku 2)), om 25 26] [kp [1, 22, 25] []]) (.cond (tm 25) (.seq (.reg [od 4 (.mv (ku 1))] [kp [4] []]) .ret) (.seq (.reg [od 28 (.bin .eql (tm 22) (ku 3)), om 27 28] [kp [1, 22, 27]
 []]) (.cond (tm 27) (.seq (.reg [om 29 1, od 30 (.iadr 1 (tm 29) (ki 0)), od 31 (ld 1 30), od 32 (.call 73 [(tm 31)]), om 4 32] [kp [4] []]) .ret) (.seq (.reg [od 34 (.bin .eql (tm 22) (ku 4)), om 33 34] [kp [1, 22, 33] []]) (.cond
 (tm 33) (.seq (.reg [om 35 1, od 36 (.iadr 1 (tm 35) (ki 0)), od 37 (ld 1 36), od 38 (.call 115 [(tm 37)]), om 4 38] [kp [4] []]) .ret) (.seq (.reg [od 40 (.bin .eql (tm 22) (ku 5)), om 39 40] [kp [1, 22, 39] []]) (.cond (tm 39)
 (.seq (.reg [om 41 1, od 42 (.call 116 [(tm 41)]), om 4 42] [kp [4] []]) .ret) (.seq (.reg [od 44 (.bin .eql (tm 22) (ku 6)), om 43 44] [kp [1, 22, 43] []]) (.cond (tm 43) (.seq (.reg [om 45 1, od 46 (.call 116 [(tm 45)]), od 47
 (.call 115 [(tm 46)]), om 4 47] [kp [4] []]) .ret) (.seq (.reg [od 49 (.bin .eql (tm 22) (ku 7)), om 48 49] [kp [1, 22, 48] []]) (.cond (tm 48) (.seq (.reg [om 50 1, od 51 (.call 117 [(tm 50)]), om 4 51] [kp [4] []]) .ret) (.seq
 (.reg [od 53 (.bin .eql (tm 22) (ku 8)), om 52 53] [kp [1, 22, 52] []]) (.cond (tm 52) (.seq (.reg [om 54 1, od 55 (.call 117 [(tm 54)]), od 56 (.call 115 [(tm 55)]), om 4 56] [kp [4] []]) .ret) (.seq (.reg [od 58 (.bin .eql (tm
 22) (ku 9)), om 57 58] [kp [1, 22, 57] []]) (.cond (tm 57) (.seq (.reg [om 59 1, od 60 (.call 118 [(tm 59)]), om 4 60] [kp [4] []]) .ret) (.seq (.reg [od 62 (.bin .eql (tm 22) (ku 10)), om 61 62] [kp [1, 22, 61] []]) (.cond (tm 61)
 (.seq (.reg [om 63 1, od 64 (.call 118 [(tm 63)]), od 65 (.call 115 [(tm 64)]), om 4 65] [kp [4] []]) .ret) (.seq (.reg [od 67 (.bin .eql (tm 22) (ku 11)), om 66 67] [kp [1, 22, 66] []]) (.cond (tm 66) (.seq (.reg [om 68 1, od 69
 (.iadr 1 (tm 68) (ki 0)), od 70 (ld 1 69), om 71 1, od 72 (.iadr 1 (tm 71) (ki 1)), od 73 (ld 1 72), om 74 1, od 75 (.iadr 1 (tm 74) (ki 2)), od 76 (ld 1 75), od 77 (.call 119 [(tm 70), (tm 73), (tm 76)]), om 4 77] [kp [4] []])
 .ret) (.seq (.reg [od 79 (.bin .eql (tm 22) (ku 12)), om 78 79] [kp [1, 22, 78] []]) (.cond (tm 78) (.seq (.reg [om 80 1, od 81 (.iadr 1 (tm 80) (ki 0)), od 82 (ld 1 81), om 83 1, od 84 (.iadr 1 (tm 83) (ki 1)), od 85 (ld 1 84), od
 86 (.call 120 [(tm 82), (tm 85)]), om 4 86] [kp [4] []]) .ret) (.seq (.reg [od 88 (.bin .eql (tm 22) (ku 13)), om 87 88] [kp [1, 87] []]) (.cond (tm 87) (.seq (.reg [om 89 1, od 90 (.call 121 [(tm 89)]), om 4 90] [kp [4] []]) .ret)
 .skip)))))))))))))))))))))))))))) (.seq (.reg [od 4 (.mv (ku 2))] [kp [4] []]) .ret))))
def Bc : List RV := [.tmp 4]
end
end Go.Lg
namespace Go.Lg
open Go Go.Proofs
theorem q4x : B7 Tryz.prog 127 q0Z 6 1 q0a = true := by kernel_rfl
theorem q66 : B7 Tryz.prog 73 q1j 5 1 q1k = true := by kernel_rfl
theorem q4y : B7 Tryz.prog 152 q0b 5 1 q0c = true := by kernel_rfl
theorem q6f : B7 Tryz.prog 115 q39 7 1 Yv = true := by kernel_rfl
theorem q3F : B7 Tryz.prog 153 Xm 28 3 Pq = true := by kernel_rfl
theorem q6g : B7 Tryz.prog 116 q3A 5 1 q3B = true := by kernel_rfl
theorem q7n : B7 Tryz.prog 117 q4h 5 1 q4i = true := by kernel_rfl
theorem q6h : B7 Tryz.prog 118 q3D 20 1 Yw = true := by kernel_rfl
theorem q6i : B7 Tryz.prog 119 O0 23 3 O1 = true := by kernel_rfl
theorem q6j : B7 Tryz.prog 120 Tf 12 2 Ti = true := by kernel_rfl
theorem q6k : B7 Tryz.prog 121 q3E 24 1 O2 = true := by kernel_rfl
theorem q4z : B7 Tryz.prog 154 q0d 6 1 q0e = true := by kernel_rfl
theorem q50 : B7 Tryz.prog 155 q0f 5 1 q0g = true := by kernel_rfl
theorem q2R : B7 Tryz.prog 128 Vx 9 1 O3 = true := by kernel_rfl
theorem Qs : B7 Tryz.prog 160 I1 9 2 I2 = true := by kernel_rfl
theorem Us : B7 Tryz.prog 182 K0 19 2 D1 = true := by kernel_rfl
theorem N7 : B7 Tryz.prog 76 G7 9 2 G8 = true := by kernel_rfl
theorem Pv : B7 Tryz.prog 130 H9 19 2 E3 = true := by kernel_rfl
theorem q67 : B7 Tryz.prog 57 Bi 91 2 Bc = true := by kernel_rfl
end Go.Lg
set_option linter.unusedSimpArgs false
set_option maxRecDepth 100000
namespace Go.Lg
open Go Go.Proofs
variable {Γ : Tables}
theorem q2S (v : Int) : A8 Tryz.prog Γ 127 [tK v] (tK (C2 v)) := by
  refine Ac q4x rfl ?_
  by_cases h : 3 < v <;> simp [q0Z, q0a, Ak, C2, h]
theorem Tz (v : Int) : A8 Tryz.prog Γ 73 [tK v] (tK (Rz v)) := by
  refine Ac q66 rfl ?_
  by_cases h : v < 2 <;> simp [q1j, q1k, Ak, Rz, h, X5, Gq] <;> omega
theorem q2T (v : Int) : A8 Tryz.prog Γ 152 [tK v] (tB (q48 v)) := by
  refine Ac q4y rfl ?_
  simp [q0b, q0c, Ak, q48]
theorem q3G (v : Int) (h0 : 0 ≤ v) : A8 Tryz.prog Γ 115 [tK v] (tK (Kr v)) := by
  refine Ac q6f rfl ?_
  simp [q39]
  refine A4 (q2T v) rfl ?_
  by_cases h : v ≤ 1
  · simp (disch := omega) [Yv, Ak, q48, Kr, h, Bd]
  · simp (disch := omega) [Yv, Ak, q48, Kr, h, Bd]
theorem qCV (s a b : Int) : A8 Tryz.prog Γ 119 [tK s, tK a, tK b] (tK (q6e s a b)) := by
  refine Ac q6i rfl ?_
  by_cases h : s = 0
  · simp [O0, h]
    refine A4 (Tz a) rfl ?_
    simp [O1, Ak, q6e, h]
  by_cases h1 : s = 1
  · simp [O0, h1]
    refine A4 (Tz b) rfl ?_
    simp [O1, Ak, q6e, h1]
  by_cases h2 : a = b
  · simp [O0, h, h1, h2]
    refine A4 (Tz b) rfl ?_
    simp [O1, Ak, q6e, h, h1, h2]
  · simp [O0, h, h1, h2, O1, Ak, q6e]
theorem qCW (e d : Int) : A8 Tryz.prog Γ 120 [tK e, tK d] (tK (q7k e d)) := by
  refine Ac q6j rfl ?_
  by_cases h : e = 0
  · simp [Tf, h, Ti, Ak, q7k]
  by_cases h1 : e = 1
  · simp [Tf, h1]
    refine A4 (Tz d) rfl ?_
    simp [Ti, Ak, q7k, h1]
  · simp [Tf, h, h1, Ti, Ak, q7k]
abbrev Az (l : List Int) : List (List T) := Av tK l
def tV (s : Sl Int) : T := .sl (Az s.l) s.cap s.nl
theorem Yx {Q : AX → St → Prop} (l : List Int) (c : Option Nat) (nl : Option Bool) (low high : Int) (hl : l.length ≤ 1000000000) (R : Int)
    (h0 : Q (.exit 0) ⟨[(1, .t (tK low)), (2, .t (tK high)), (7, .t (tK R)), (11, .t (.sl (Az l) c nl)), (12, .t (tI l.length)), (13, .t (tI l.length)), (14, .t (tB false))], []⟩)
    (h1 : R = low → Q .ret ⟨[(6, .t (tK low))], []⟩) : ∀ (k i : Nat) (out : Int), k + i = l.length → Iz low high out (l.drop i) = R →
    run Tryz.prog Γ Jk Q ⟨[(1, .t (tK low)), (2, .t (tK high)), (7, .t (tK out)), (11, .t (.sl (Az l) c nl)), (12, .t (tI l.length)), (13, .t (tI i))], []⟩
  | 0, i, out, h, hR => by
    refine Qr fun K hK => ?_
    have h2 : ¬ i < l.length := by omega
    rw [List.drop_of_length_le (by omega)] at hR
    simp only [Iz] at hR
    subst hR
    have h3 : i = l.length := by omega
    simp [h2]
    subst h3
    exact h0
  | k + 1, i, out, h, hR => by
    refine Qr fun K hK => ?_
    have h2 : i < l.length := by omega
    rw [List.drop_eq_getElem_cons h2] at hR
    simp only [Iz] at hR
    have hget := C0 (f := tK) 0 h2
    simp only [List.getElem?_eq_getElem h2, Option.getD_some] at hget
    generalize l[i] = v at *
    by_cases a1 : v = low
    · rw [if_pos a1] at hR
      simp (disch := omega) [h2, A5, hget, A9, A6, a1]
      exact h1 hR.symm
    · by_cases a2 : v = high
      · rw [if_neg a1, if_neg (by simp [a2])] at hR
        have ih := Yx l c nl low high hl R h0 h1 k (i + 1) out (by omega) hR
        have a1' : ¬ high = low := by rw [← a2]; exact a1
        simp (disch := omega) [h2, A5, hget, A9, A6, a1', a2]
        rw [hK]
        exact_mod_cast ih
      · rw [if_neg a1, if_pos a2] at hR
        have ih := Yx l c nl low high hl R h0 h1 k (i + 1) 2 (by omega) hR
        simp (disch := omega) [h2, A5, hget, A9, A6, a1, a2]
        rw [hK]
        exact_mod_cast ih
theorem q3H (l : List Int) (c : Option Nat) (nl : Option Bool) (low high : Int) (hl : l.length ≤ 1000000000) : A8 Tryz.prog Γ 153 [.sl (Az l) c nl, tK low, tK high] (tK (Iz low high high l)) := by
  refine Ac q3F rfl ?_
  simp (disch := omega) [Xm, A5, A6]
  refine Yx l c nl low high hl (Iz low high high l) ?_ (fun h => ?_) l.length 0 high (by omega) (by simp)
  · simp [Pq, Ak]
  · simp [Pq, Ak, h]
theorem q8s (l : List Int) (c : Option Nat) (nl : Option Bool) (hl : l.length ≤ 1000000000) : A8 Tryz.prog Γ 116 [.sl (Az l) c nl] (tK (Iz 0 1 1 l)) := by
  refine Ac q6g rfl ?_
  simp [q3A]
  refine A4 (q3H l c nl 0 1 hl) rfl ?_
  simp [q3B, Ak]
theorem qAi (l : List Int) (c : Option Nat) (nl : Option Bool) (hl : l.length ≤ 1000000000) : A8 Tryz.prog Γ 117 [.sl (Az l) c nl] (tK (Iz 1 0 0 l)) := by
  refine Ac q7n rfl ?_
  simp [q4h]
  refine A4 (q3H l c nl 1 0 hl) rfl ?_
  simp [q4i, Ak]
theorem qDm {a b : Int} (ha : a = 0 ∨ a = 1) (hb : b = 0 ∨ b = 1) : IntKind.u8.wrap ((BitVec.ofInt IntKind.u8.bits a ^^^ BitVec.ofInt IntKind.u8.bits b).toNat : Int) = q9y a b := by
  rcases ha with rfl | rfl <;> rcases hb with rfl | rfl <;> decide
theorem q8t {Q : AX → St → Prop} (l : List Int) (c : Option Nat) (nl : Option Bool) (hl : l.length ≤ 1000000000) (hv : ∀ v ∈ l, 0 ≤ v) (R : Int)
    (h0 : Q (.exit 0) ⟨[(3, .t (tK R)), (6, .t (.sl (Az l) c nl)), (7, .t (tI l.length)), (8, .t (tI l.length)), (9, .t (tB false))], []⟩)
    (h1 : R = 2 → Q .ret ⟨[(2, .t (tK 2))], []⟩) : ∀ (k i : Nat) (out : Int), k + i = l.length → (out = 0 ∨ out = 1) → Tc out (l.drop i) = R →
    run Tryz.prog Γ Td Q ⟨[(3, .t (tK out)), (6, .t (.sl (Az l) c nl)), (7, .t (tI l.length)), (8, .t (tI i))], []⟩
  | 0, i, out, h, ho, hR => by
    refine Xn fun K hK => ?_
    have h2 : ¬ i < l.length := by omega
    rw [List.drop_of_length_le (by omega)] at hR
    simp only [Tc] at hR
    subst hR
    have h3 : i = l.length := by omega
    simp [h2]
    subst h3
    exact h0
  | k + 1, i, out, h, ho, hR => by
    refine Xn fun K hK => ?_
    have h2 : i < l.length := by omega
    rw [List.drop_eq_getElem_cons h2] at hR
    simp only [Tc] at hR
    have hget := C0 (f := tK) 0 h2
    simp only [List.getElem?_eq_getElem h2, Option.getD_some] at hget
    have hv0 := hv _ (List.getElem_mem h2)
    generalize l[i] = v at *
    by_cases a1 : v ≤ 1
    · rw [if_pos a1] at hR
      have ih := q8t l c nl hl hv R h0 h1 k (i + 1) (q9y out v) (by omega) (by unfold q9y; split <;> simp) hR
      simp (disch := omega) [h2, A5, hget, A9, A6]
      refine A4 (q2T v) rfl ?_
      have hx := qDm ho (show v = 0 ∨ v = 1 by omega)
      simp (disch := omega) [q48, a1, ↓hx, A6]
      rw [hK]
      exact_mod_cast ih
    · rw [if_neg a1] at hR
      simp (disch := omega) [h2, A5, hget, A9, A6]
      refine A4 (q2T v) rfl ?_
      simp (disch := omega) [q48, a1]
      exact h1 hR.symm
theorem q8u (l : List Int) (c : Option Nat) (nl : Option Bool) (hl : l.length ≤ 1000000000) (hv : ∀ v ∈ l, 0 ≤ v) : A8 Tryz.prog Γ 118 [.sl (Az l) c nl] (tK (Tc 0 l)) := by
  refine Ac q6h rfl ?_
  simp (disch := omega) [q3D, A5, A6]
  refine q8t l c nl hl hv (Tc 0 l) ?_ (fun h => ?_) l.length 0 0 (by omega) (.inl rfl) (by simp)
  · simp [Yw, Ak]
  · simp [Yw, Ak, h]
theorem q0h (l : List Int) (c : Option Nat) (nl : Option Bool) (x : Int) (hl : l.length ≤ 1000000000) : ∀ (k i : Nat), k + i = l.length → (∀ j, j < i → ∀ y, l[j]? = some y → (y == x) = false) →
    run Tryz.prog Γ Dt (J1 0 (An (run Tryz.prog Γ (.seq (.reg Fz [.keep [4] []]) .ret) (ret true D1 fun r => r = tI (Wu (· == x) l))) (ret true D1 fun r => r = tI (Wu (· == x) l)))) ⟨[(0, .t (.sl (Av tK l) c nl)), (1, .t (tK x)), (7, .t (tI l.length)), (8, .t (tI i))], []⟩
  | 0, i, h, hp => by
    refine H7 fun K hK => ?_
    have h2 : ¬ i < l.length := by omega
    simp (disch := omega) [A5, C0 (0 : Int), A9, A6, h2, ret, D1, D8, Et, Es, Ak]
    have : l.findIdx? (· == x) = none := by
      rw [List.findIdx?_eq_none_iff]
      intro y hy
      obtain ⟨j, hj, rfl⟩ := List.getElem_of_mem hy
      exact hp j (by omega) _ (List.getElem?_eq_getElem hj)
    have e : l.findIdx? (fun y => decide (y = x)) = _ := this
    simp [Wu, e]
  | k + 1, i, h, hp => by
    refine H7 fun K hK => ?_
    have h2 : i < l.length := by omega
    simp (disch := omega) [A5, C0 (0 : Int), A9, A6, h2]
    refine ⟨fun hc => ?_, fun hc => ?_⟩
    · simp [Bh, ret, D1, D8, Et, Es, Ak]
      have := Yq (p := (· == x)) hp l[i] (List.getElem?_eq_getElem h2) (by simp [hc])
      have e : l.findIdx? (fun y => decide (y = x)) = _ := this
      simp [Wu, e]
    · simp (disch := omega) [Bh, A6]
      rw [hK]
      exact_mod_cast q0h l c nl x hl k (i + 1) (by omega) (fun j hj y hy => by
        rcases Nat.lt_succ_iff_lt_or_eq.1 hj with hj | rfl
        · exact hp j hj y hy
        · rw [List.getElem?_eq_getElem h2] at hy; simp at hy; subst hy
          simp; exact fun e => hc e.symm)
theorem qBX (l : List Int) (c : Option Nat) (nl : Option Bool) (x : Int) (hl : l.length ≤ 1000000000) : A8 Tryz.prog Γ 182 [.sl (Av tK l) c nl, tK x] (tI (Wu (· == x) l)) := by
  refine Ac Us rfl ?_
  simp (disch := omega) [K0, A5, A6]
  exact_mod_cast q0h l c nl x hl l.length 0 (by omega) (by simp)
theorem q3I (l : List Int) (c : Option Nat) (nl : Option Bool) (x : Int) (hl : l.length ≤ 1000000000) : A8 Tryz.prog Γ 160 [.sl (Av tK l) c nl, tK x] (tB (l.contains x)) := by
  refine Ac Qs rfl ?_
  simp (disch := omega) [I1, A5, A6]
  refine A4 (qBX l c nl x hl) rfl ?_
  simp [ret, I2, D8, Et, Es, Ak]
  unfold Wu
  cases h : l.findIdx? (· == x) with
  | none =>
    rw [List.findIdx?_eq_none_iff] at h
    have : ¬ x ∈ l := fun hx => by simpa using h x hx
    simp [this]
  | some i =>
    rw [List.findIdx?_eq_some_iff_getElem] at h
    obtain ⟨hi, h1, _⟩ := h
    have : x ∈ l := by rw [← (show l[i] = x by simpa using h1)]; exact List.getElem_mem hi
    simp [this]
theorem Ut {Q : AX → St → Prop} (l : List Int) (c : Option Nat) (nl : Option Bool) (f : FuncId) (cs : List T) (p : Int → Bool) (hp : ∀ x ∈ l, A8 Tryz.prog Γ f (tK x :: cs) (tB (p x))) (hl : l.length ≤ 1000000000)
    (h0 : (∀ x ∈ l, p x = false) → Q (.exit 0) ⟨[(0, .t (.sl (Av tK l) c nl)), (1, .t (.fn f cs)), (7, .t (tI l.length)), (8, .t (tI l.length)), (9, .t (tB false))], []⟩)
    (h1 : ∀ i : Nat, l.findIdx? p = some i → Q .ret ⟨[(4, .t (tI i))], []⟩) : ∀ (k i : Nat), k + i = l.length → (∀ j, j < i → ∀ y, l[j]? = some y → p y = false) →
    run Tryz.prog Γ D5 Q ⟨[(0, .t (.sl (Av tK l) c nl)), (1, .t (.fn f cs)), (7, .t (tI l.length)), (8, .t (tI i))], []⟩
  | 0, i, h, hq => by
    refine Fp fun K hK => ?_
    have h2 : ¬ i < l.length := by omega
    simp (disch := omega) [A5, C0 (0 : Int), A9, A6, h2]
    have h3 : i = l.length := by omega
    subst h3
    refine h0 fun y hy => ?_
    obtain ⟨j, hj, rfl⟩ := List.getElem_of_mem hy
    exact hq j (by omega) _ (List.getElem?_eq_getElem hj)
  | k + 1, i, h, hq => by
    refine Fp fun K hK => ?_
    have h2 : i < l.length := by omega
    simp (disch := omega) [A5, C0 (0 : Int), A9, A6, h2]
    refine Yr (hp l[i] (List.getElem_mem h2)) ?_
    simp
    refine ⟨fun hc => ?_, fun hc => ?_⟩
    · simp [Bh]
      exact h1 i (Yq hq l[i] (List.getElem?_eq_getElem h2) hc)
    · simp (disch := omega) [Bh, A6]
      rw [hK]
      exact_mod_cast Ut l c nl f cs p hp hl h0 h1 k (i + 1) (by omega) (fun j hj y hy => by
        rcases Nat.lt_succ_iff_lt_or_eq.1 hj with hj | rfl
        · exact hq j hj y hy
        · rw [List.getElem?_eq_getElem h2] at hy; simp at hy; subst hy; exact hc)
theorem q1l (l : List Int) (c : Option Nat) (nl : Option Bool) (f : FuncId) (cs : List T) (p : Int → Bool) (hp : ∀ x ∈ l, A8 Tryz.prog Γ f (tK x :: cs) (tB (p x))) (hl : l.length ≤ 1000000000) : A8 Tryz.prog Γ 130 [.sl (Av tK l) c nl, .fn f cs] (tI (Wu p l)) := by
  refine Ac Pv rfl ?_
  simp (disch := omega) [H9, A5, A6]
  refine Ut l c nl f cs p hp hl (fun h => ?_) (fun i h => ?_) l.length 0 (by omega) (by simp)
  · have : l.findIdx? p = none := List.findIdx?_eq_none_iff.2 h
    simp [ret, E3, D8, Et, Es, Ak, Wu, this]
  · simp [ret, E3, D8, Et, Es, Ak, Wu, h]
theorem Px (l : List Int) (c : Option Nat) (nl : Option Bool) (f : FuncId) (cs : List T) (p : Int → Bool) (hp : ∀ x ∈ l, A8 Tryz.prog Γ f (tK x :: cs) (tB (p x))) (hl : l.length ≤ 1000000000) : A8 Tryz.prog Γ 76 [.sl (Av tK l) c nl, .fn f cs] (tB (l.any p)) := by
  refine Ac N7 rfl ?_
  simp (disch := omega) [G7, A5, A6]
  refine A4 (q1l l c nl f cs p hp hl) rfl ?_
  simp [ret, G8, D8, Et, Es, Ak]
  unfold Wu
  cases h : l.findIdx? p with
  | none =>
    rw [List.findIdx?_eq_none_iff] at h
    have : l.any p = false := by rw [List.any_eq_false]; intro x hx; simp [h x hx]
    simp [this]
  | some i =>
    rw [List.findIdx?_eq_some_iff_getElem] at h
    obtain ⟨hi, h1, _⟩ := h
    have : l.any p = true := List.any_eq_true.2 ⟨_, List.getElem_mem hi, h1⟩
    simp [this]
theorem q1m (l : List Int) (c : Option Nat) (nl : Option Bool) (hl : l.length ≤ 1000000000) : A8 Tryz.prog Γ 128 [.sl (Az l) c nl] (tB (Yu l)) := by
  refine Ac q2R rfl ?_
  simp [Vx]
  refine A4 (q3I l c nl 0 hl) rfl ?_
  simp
  by_cases h : (0 : Int) ∈ l
  · simp [h]
    refine A4 (q3I l c nl 1 hl) rfl ?_
    simp [O3, Ak, Yu, h]
  · simp [h, O3, Ak, Yu]
theorem qCX (v : Int) : A8 Tryz.prog Γ 154 [tK v] (tB (q8o v)) := by
  refine Ac q4z rfl ?_
  simp [q0d]
  refine A4 (q2S v) rfl ?_
  simp [q0e, Ak, q8o]
theorem qCY (v : Int) : A8 Tryz.prog Γ 155 [tK v] (tB (q8p v)) := by
  refine Ac q50 rfl ?_
  simp [q0f, q0g, Ak, q8p]
theorem qCZ (l : List Int) (c : Option Nat) (nl : Option Bool) (hl : l.length ≤ 1000000000) : A8 Tryz.prog Γ 121 [.sl (Az l) c nl] (tK (q49 l)) := by
  refine Ac q6k rfl ?_
  simp [q3E]
  refine A4 (q1l l c nl _ [] q8p (fun x _ => qCY x) hl) rfl ?_
  unfold Wu
  cases h : l.findIdx? q8p with
  | none =>
    have hR : q49 l = 3 := by unfold q49; rw [h]
    simp [O2, Ak, hR]
  | some i =>
    have hb : q49 l = if Yu l = true ∨ l.any q8o = true then 2 else l.getD i 0 := by unfold q49; rw [h]
    have hi : i < l.length := by
      rw [List.findIdx?_eq_some_iff_getElem] at h
      exact h.1
    have hget := C0 (f := tK) 0 hi
    have hgg : l[i]?.getD 0 = l.getD i 0 := by simp [List.getD_eq_getElem?_getD]
    rw [hgg] at hget
    have hneg : ¬ (i : Int) < 0 := by omega
    simp only
    simp [hneg]
    refine A4 (q1m l c nl hl) rfl ?_
    by_cases h1 : Yu l = true
    · rw [if_pos (.inl h1)] at hb
      simp [h1, O2, Ak, hb]
    · simp [h1]
      refine A4 (Px l c nl _ [] q8o (fun x _ => qCX x) hl) rfl ?_
      by_cases h2 : l.any q8o = true
      · rw [if_pos (.inr h2)] at hb
        simp only [h2]
        simp [O2, Ak, hb]
      · rw [if_neg (by rintro (h | h); exact h1 h; exact h2 h)] at hb
        simp only [Bool.not_eq_true] at h2
        generalize q49 l = r at *
        subst hb
        simp only [h2]
        simp (disch := omega) [O2, Ak, A5, A9, hget, hi]
theorem qBY (hΓ : GOk Γ) (k : Int) (hk : 0 ≤ k ∧ k ≤ 255) (l : List Int) (c : Option Nat) (nl : Option Bool) (hl : l.length ≤ 1000000000) (hv : ∀ v ∈ l, V4 v) : A8 Tryz.prog Γ 57 [tK k, .sl (Az l) c nl] (tK (Oz k l)) := by
  refine Ac q67 rfl ?_
  unfold Oz
  by_cases hw : Gi k l.length = true
  · rw [if_pos hw]
    simp only [Gi, decide_eq_true_eq] at hw
    simp [Bi]
    refine A4 (D2 hΓ k hk.1 hk.2) rfl ?_
    by_cases hw1 : (l.length : Int) < (K5 k).1
    · simp [A5, hw1, Bc, Ak]
    · have hw2 : (K5 k).2 < (l.length : Int) := by omega
      simp [A5, hw1, hw2, Bc, Ak]
  rw [if_neg hw]
  simp only [Gi, decide_eq_true_eq] at hw
  have hw1 : ¬ (l.length : Int) < (K5 k).1 := by omega
  have hw2 : ¬ (K5 k).2 < (l.length : Int) := by omega
  have hv0 : ∀ v ∈ l, 0 ≤ v := fun v h => (hv v h).1
  have ge : ∀ i, i < l.length → (Av tK l)[i]?.getD [] = [tK (l.getD i 0)] := fun i hi => by
    have hget := C0 (f := tK) 0 hi
    have hgg : l[i]?.getD 0 = l.getD i 0 := by simp [List.getD_eq_getElem?_getD]
    rw [hgg] at hget
    exact hget
  have dA := Qq (low := 0) (l := l) (out := 1) (high := 1) (.inr rfl)
  have dO := Qq (low := 1) (l := l) (out := 0) (high := 0) (.inr rfl)
  have n1 : 0 ≤ Iz 0 1 1 l := by rw [dA]; split; omega; split <;> omega
  have n2 : 0 ≤ Iz 1 0 0 l := by rw [dO]; split; omega; split <;> omega
  have n3 : 0 ≤ Tc 0 l := (q9z (by simp [V4]) hv).1
  have g0 := q62 hv 0
  by_cases e1 : k = 1
  · subst e1
    have hR : Dh 1 l = 0 := rfl
    generalize Dh 1 l = r at *
    subst hR
    simp [Bi]
    refine A4 (D2 hΓ 1 hk.1 hk.2) rfl ?_
    simp [A5, hw1, hw2, Bh, Bc, Ak]
  by_cases e2 : k = 2
  · subst e2
    have hR : Dh 2 l = 1 := rfl
    generalize Dh 2 l = r at *
    subst hR
    simp [Bi]
    refine A4 (D2 hΓ 2 hk.1 hk.2) rfl ?_
    simp [A5, hw1, hw2, Bh, Bc, Ak]
  by_cases e3 : k = 3
  · subst e3
    have f1 : (K5 3).1 = 1 := rfl
    have q0 : 0 < l.length := by omega
    have u0 := ge 0 q0
    have hR : Dh 3 l = Rz (l.getD 0 0) := rfl
    generalize l.getD 0 0 = x0 at *
    generalize Dh 3 l = r at *
    subst hR
    simp [Bi]
    refine A4 (D2 hΓ 3 hk.1 hk.2) rfl ?_
    simp [A5, hw1, hw2, Bh]
    simp (disch := omega) [A5, A9, q0, u0]
    refine A4 (Tz x0) rfl ?_
    simp [Bc, Ak]
  by_cases e4 : k = 4
  · subst e4
    have f1 : (K5 4).1 = 1 := rfl
    have q0 : 0 < l.length := by omega
    have u0 := ge 0 q0
    have p0 := g0.1
    have hR : Dh 4 l = Kr (l.getD 0 0) := rfl
    generalize l.getD 0 0 = x0 at *
    generalize Dh 4 l = r at *
    subst hR
    simp [Bi]
    refine A4 (D2 hΓ 4 hk.1 hk.2) rfl ?_
    simp [A5, hw1, hw2, Bh]
    simp (disch := omega) [A5, A9, q0, u0]
    refine A4 (q3G x0 p0) rfl ?_
    simp [Bc, Ak]
  by_cases e5 : k = 5
  · subst e5
    have hR : Dh 5 l = Iz 0 1 1 l := rfl
    generalize Dh 5 l = r at *
    subst hR
    simp [Bi]
    refine A4 (D2 hΓ 5 hk.1 hk.2) rfl ?_
    simp [A5, hw1, hw2, Bh]
    refine A4 (q8s l c nl hl) rfl ?_
    simp [Bc, Ak]
  by_cases e6 : k = 6
  · subst e6
    have hR : Dh 6 l = Kr (Iz 0 1 1 l) := rfl
    generalize Dh 6 l = r at *
    subst hR
    simp [Bi]
    refine A4 (D2 hΓ 6 hk.1 hk.2) rfl ?_
    simp [A5, hw1, hw2, Bh]
    refine A4 (q8s l c nl hl) rfl ?_
    simp
    refine A4 (q3G _ n1) rfl ?_
    simp [Bc, Ak]
  by_cases e7 : k = 7
  · subst e7
    have hR : Dh 7 l = Iz 1 0 0 l := rfl
    generalize Dh 7 l = r at *
    subst hR
    simp [Bi]
    refine A4 (D2 hΓ 7 hk.1 hk.2) rfl ?_
    simp [A5, hw1, hw2, Bh]
    refine A4 (qAi l c nl hl) rfl ?_
    simp [Bc, Ak]
  by_cases e8 : k = 8
  · subst e8
    have hR : Dh 8 l = Kr (Iz 1 0 0 l) := rfl
    generalize Dh 8 l = r at *
    subst hR
    simp [Bi]
    refine A4 (D2 hΓ 8 hk.1 hk.2) rfl ?_
    simp [A5, hw1, hw2, Bh]
    refine A4 (qAi l c nl hl) rfl ?_
    simp
    refine A4 (q3G _ n2) rfl ?_
    simp [Bc, Ak]
  by_cases e9 : k = 9
  · subst e9
    have hR : Dh 9 l = Tc 0 l := rfl
    generalize Dh 9 l = r at *
    subst hR
    simp [Bi]
    refine A4 (D2 hΓ 9 hk.1 hk.2) rfl ?_
    simp [A5, hw1, hw2, Bh]
    refine A4 (q8u l c nl hl hv0) rfl ?_
    simp [Bc, Ak]
  by_cases e10 : k = 10
  · subst e10
    have hR : Dh 10 l = Kr (Tc 0 l) := rfl
    generalize Dh 10 l = r at *
    subst hR
    simp [Bi]
    refine A4 (D2 hΓ 10 hk.1 hk.2) rfl ?_
    simp [A5, hw1, hw2, Bh]
    refine A4 (q8u l c nl hl hv0) rfl ?_
    simp
    refine A4 (q3G _ n3) rfl ?_
    simp [Bc, Ak]
  by_cases e11 : k = 11
  · subst e11
    have f1 : (K5 11).1 = 3 := rfl
    have q0 : 0 < l.length := by omega
    have u0 := ge 0 q0
    have q1 : 1 < l.length := by omega
    have u1 := ge 1 q1
    have q2 : 2 < l.length := by omega
    have u2 := ge 2 q2
    have hR : Dh 11 l = q6e (l.getD 0 0) (l.getD 1 0) (l.getD 2 0) := rfl
    generalize l.getD 0 0 = x0 at *
    generalize l.getD 1 0 = x1 at *
    generalize l.getD 2 0 = x2 at *
    generalize Dh 11 l = r at *
    subst hR
    simp [Bi]
    refine A4 (D2 hΓ 11 hk.1 hk.2) rfl ?_
    simp [A5, hw1, hw2, Bh]
    simp (disch := omega) [A5, A9, q0, u0, q1, u1, q2, u2]
    refine ⟨by omega, by omega, ?_⟩
    refine A4 (qCV x0 x1 x2) rfl ?_
    simp [Bc, Ak]
  by_cases e12 : k = 12
  · subst e12
    have f1 : (K5 12).1 = 2 := rfl
    have q0 : 0 < l.length := by omega
    have u0 := ge 0 q0
    have q1 : 1 < l.length := by omega
    have u1 := ge 1 q1
    have hR : Dh 12 l = q7k (l.getD 0 0) (l.getD 1 0) := rfl
    generalize l.getD 0 0 = x0 at *
    generalize l.getD 1 0 = x1 at *
    generalize Dh 12 l = r at *
    subst hR
    simp [Bi]
    refine A4 (D2 hΓ 12 hk.1 hk.2) rfl ?_
    simp [A5, hw1, hw2, Bh]
    simp (disch := omega) [A5, A9, q0, u0, q1, u1]
    refine ⟨by omega, ?_⟩
    refine A4 (qCW x0 x1) rfl ?_
    simp [Bc, Ak]
  by_cases e13 : k = 13
  · subst e13
    have hR : Dh 13 l = q49 l := rfl
    generalize Dh 13 l = r at *
    subst hR
    simp [Bi]
    refine A4 (D2 hΓ 13 hk.1 hk.2) rfl ?_
    simp [A5, hw1, hw2, Bh]
    refine A4 (qCZ l c nl hl) rfl ?_
    simp [Bc, Ak]
  have ek : Dh k l = 2 := by
    unfold Dh
    rw [if_neg e1, if_neg e2, if_neg e3, if_neg e4, if_neg e5, if_neg e6, if_neg e7, if_neg e8, if_neg e9, if_neg e10, if_neg e11, if_neg e12, if_neg e13]
  rw [ek]
  simp [Bi]
  refine A4 (D2 hΓ k hk.1 hk.2) rfl ?_
  simp [A5, hw1, hw2, Bc, Ak, e1, e2, e3, e4, e5, e6, e7, e8, e9, e10, e11, e12, e13]
end Go.Lg
namespace Go.Lg
open Go
section
variable {P : Program} {Γ : Tables} {Q : AX → St → Prop} {s : St}
/- slices.SortStableFunc[[]int,int] (function 110) -/
abbrev I3 : IC := (.reg [om 4 0, om 5 0, od 6 (le 0 5), om 7 1, od 8 (.hcall 150 [(tm 4), (tm 6), (tm 7)] [1000000] 8000)] [kp [] [1000000]])
def I4 : List RV := []
/- slices.stableCmpFunc[int] (function 150) -/
abbrev Il : IC := .gh (.seq (.seq (.reg [om 11 8, om 12 1, od 13 (.bin .leq (tm 11) (tm 12))] [kp [0, 1, 2, 6, 7, 8, 13] [1000000]]) (.cond (tm 13) .skip (.exit 0))) (.block 1 (.seq (.reg [om 14 0, om 15 7, om 16 8, om 17 2, od 18 (.hcall 177 [(tm
 14), (tm 15), (tm 16), (tm 17)] [1000000] 18000)] [kp [0, 1, 2, 6, 8] [1000000]]) (.seq (.reg [om 19 8, om 7 19] [kp [0, 1, 2, 6, 7, 8] [1000000]]) (.reg [om 20 8, om 21 6, od 22 (.bin .add (tm 20) (tm 21)), om 8 22] [kp [0, 1, 2,
 6, 7, 8] [1000000]]))))) [kp [0, 1, 2, 6, 7, 8] [1000000]]
def Ek : IC := .loop Il
abbrev Tj : IC := .gh (.seq (.seq (.reg [om 33 8, om 34 1, od 35 (.bin .leq (tm 33) (tm 34))] [kp [0, 1, 2, 6, 7, 8, 35] [1000000]]) (.cond (tm 35) .skip (.exit 4))) (.block 5 (.seq (.reg [om 36 0, om 37 7, om 38 7, om 39 6, od 40 (.bin .add (tm 38)
 (tm 39)), om 41 8, om 42 2, od 43 (.hcall 178 [(tm 36), (tm 37), (tm 40), (tm 41), (tm 42)] [1000000] 43000)] [kp [0, 1, 2, 6, 8] [1000000]]) (.seq (.reg [om 44 8, om 7 44] [kp [0, 1, 2, 6, 7, 8] [1000000]]) (.reg [om 45 8, om 46
 6, od 47 (.bin .mul (ki 2) (tm 46)), od 48 (.bin .add (tm 45) (tm 47)), om 8 48] [kp [0, 1, 2, 6, 7, 8] [1000000]]))))) [kp [0, 1, 2, 6, 7, 8] [1000000]]
def Tm : IC := .loop Tj
abbrev Im : IC := .gh (.seq (.seq (.reg [om 28 6, om 29 1, od 30 (.bin .lss (tm 28) (tm 29))] [kp [0, 1, 2, 6, 30] [1000000]]) (.cond (tm 30) .skip (.exit 2))) (.block 3 (.seq (.reg [om 31 6, od 32 (.bin .mul (ki 2) (tm 31)), od 7 (.mv (ki 0)), om 8
 32] [kp [0, 1, 2, 6, 7, 8] [1000000]]) (.seq (.block 4 Tm) (.seq (.seq (.reg [om 49 7, om 50 6, od 51 (.bin .add (tm 49) (tm 50)), om 9 51] [kp [0, 1, 2, 6, 7, 9] [1000000]]) (.seq (.reg [om 52 9, om 53 1,
 od 54 (.bin .lss (tm 52) (tm 53))] [kp [0, 1, 2, 6, 7, 9, 54] [1000000]]) (.cond (tm 54) (.reg [om 55 0, om 56 7, om 57 9, om 58 1, om 59 2, od 60 (.hcall 178 [(tm 55), (tm 56), (tm 57), (tm 58), (tm 59)] [1000000] 60000)] [kp [0,
 1, 2, 6] [1000000]]) .skip))) (.reg [om 61 6, od 62 (.bin .mul (tm 61) (ki 2)), om 6 62] [kp [0, 1, 2, 6] [1000000]])))))) [kp [0, 1, 2, 6] [1000000]]
def Em : IC := .loop Im
abbrev Ip : IC := (.seq (.reg [od 6 (.mv (ki 20))] [kp [0, 1, 2, 6] [1000000]]) (.seq (.reg [om 10 6, od 7 (.mv (ki 0)), om 8 10] [kp [0, 1, 2, 6, 7, 8] [1000000]]) (.seq (.block 0 Ek) (.seq (.reg [om 23 0, om 24 7, om 25 1,
 om 26 2, od 27 (.hcall 177 [(tm 23), (tm 24), (tm 25), (tm 26)] [1000000] 27000)] [kp [0, 1, 2, 6] [1000000]]) (.block 2 Em)))))
theorem Om (h : ∀ K : St → Prop, K = run P Γ Ek Q → run P Γ Il (An K Q) s) : run P Γ Ek Q s := Af h
theorem On (h : ∀ K : St → Prop, K = run P Γ Em Q → run P Γ Im (An K Q) s) : run P Γ Em Q s := Af h
def Iq : List RV := []
/- slices.insertionSortCmpFunc[int] (function 177) -/
abbrev F7 : IC := .gh (.seq (.seq (.reg [om 18 9, om 19 1, od 20 (.bin .gtr (tm 18) (tm 19)), om 21 20, oT 22 (.mv (tm 3)) 21, oT 23 (.mv (tm 0)) 21, oT 24 (.mv (tm 9)) 21, oT 25 (ia 1 23 24) 21, oT 26 (ld 1 25) 21, oT 27 (.mv (tm 0)) 21, oT 28 (.mv
 (tm 9)) 21, oT 29 (.bin .sub (tm 28) (ki 1)) 21, oT 30 (ia 1 27 29) 21, oT 31 (ld 1 30) 21, oT 32 (.callv (tm 22) [(tm 26), (tm 31)]) 21, oT 33 (.bin .lss (tm 32) (ki 0)) 21, od 34 (.pick (tm 21) (tm 33) kF)] [kp [0, 1, 2, 3, 8, 9,
 34] [1000000]]) (.cond (tm 34) .skip (.exit 2))) (.seq (.block 3 (.reg [om 37 0, om 38 9, om 39 0, om 40 9, od 41 (.bin .sub (tm 40) (ki 1)), om 42 0, om 43 9, od 44 (.bin .sub (tm 43) (ki 1)), od 45 (ia 1 42 44), od 46 (.ldR
 1000000 1 false (tm 45)), om 47 0, om 48 9, od 49 (ia 1 47 48), od 50 (.ldR 1000000 1 false (tm 49)), od 51 (ia 1 37 38), on (.stR 1000000 1 (tm 51) (tm 46)), od 52 (ia 1 39 41), on (.stR 1000000 1 (tm 52) (tm 50))] [kp [0, 1, 2,
 3, 8, 9] [1000000]])) (.reg [om 35 9, od 36 (.bin .sub (tm 35) (ki 1)), om 9 36] [kp [0, 1, 2, 3, 8, 9] [1000000]]))) [kp [0, 1, 2, 3, 8, 9] [1000000]]
def Bt : IC := .loop F7
abbrev F8 : IC := .gh (.seq (.seq (.reg [om 12 8, om 13 2, od 14 (.bin .lss (tm 12) (tm 13))] [kp [0, 1, 2, 3, 8, 14] [1000000]]) (.cond (tm 14) .skip (.exit 0))) (.seq (.block 1 (.seq (.reg [om 17 8, om 9 17] [kp [0, 1, 2, 3, 8, 9] [1000000]])
 (.block 2 Bt))) (.reg [om 15 8, od 16 (.bin .add (tm 15) (ki 1)), om 8 16] [kp [0, 1, 2, 3, 8] [1000000]]))) [kp [0, 1, 2, 3, 8] [1000000]]
def Bv : IC := .loop F8
abbrev F9 : IC := (.seq (.reg [om 10 1, od 11 (.bin .add (tm 10) (ki 1)), om 8 11] [kp [0, 1, 2, 3, 8] [1000000]]) (.block 0 Bv))
theorem E4 (h : ∀ K : St → Prop, K = run P Γ Bt Q → run P Γ F7 (An K Q) s) : run P Γ Bt Q s := Af h
theorem E5 (h : ∀ K : St → Prop, K = run P Γ Bv Q → run P Γ F8 (An K Q) s) : run P Γ Bv Q s := Af h
def Fa : List RV := []
/- probecard/netlists.Order (function 53) -/
abbrev Vy : IC := .gh (.seq (.reg [od 23 (.bin .lss (tm 22) (tm 21))] [kp [4, 6, 21, 22, 23] [19]]) (.seq (.cond (tm 23) .skip (.exit 0)) (.seq (.block 1 (.seq (.reg [om 24 22, om 7 24] [kp [4, 6, 7, 21, 22] [19]]) (.reg [om 25 6, om 26 7, om 27 7,
 od 28 (ia 1 25 26), on (.store 1 (tm 28) (tm 27))] [kp [4, 6, 21, 22] [19]]))) (.reg [od 29 (.bin .add (tm 22) (ki 1)), om 22 29] [kp [4, 6, 21, 22] [19]])))) [kp [4, 6, 21, 22] [19]]
def Ir : IC := .loop Vy
abbrev Vz : IC := (.seq (.reg [od 1 (.box true (tm 0)), od 2 (.mv kN), od 3 (.mv (ki 0))] [kp [1] []]) (.seq (.reg [od 9 (lG 4 1), od 10 (.call 109 [(tm 9)]), om 8 10, od 11 (ex 8 0), od 12 (ex 8 1), od 4 (.alloc false [(.slice none 0 0)]), on
 (.store 1 (tm 4) (tm 11)), om 5 12] [.frz 4, kp [1, 4, 5] []]) (.seq (.seq (.reg [om 13 5, od 14 (.bin .neq (tm 13) (ki 0))] [kp [1, 4, 5, 14] []]) (.cond (tm 14) (.seq (.reg [om 15 5, od 2 (.mv kN), om 3 15] [kp [2, 3] [19]])
 .ret) .skip)) (.seq (.reg [od 16 (fa 0 1), od 17 (ld 1 16), od 18 (le 0 17), od 19 (.mk 3 1 [(.int .i64 0)] (tm 18) (tm 18)), om 6 19] [kp [4, 6] [19]]) (.seq (.seq (.reg [om 20 6, od 21 (le 0 20), od 22 (.mv (ki 0))] [kp [4, 6,
 21, 22] [19]]) (.block 0 Ir)) (.seq (.reg [om 30 6, od 31 (.mkf 111 [(tm 4)]), od 32 (.hcall 110 [(tm 30), (tm 31)] [19] 32000)] [kp [6] [19]]) (.seq (.reg [om 33 6, om 2 33, od 3 (.mv (ki 0))] [kp [2, 3] [19]])
 .ret)))))))
theorem P0 (h : ∀ K : St → Prop, K = run P Γ Ir Q → run P Γ Vy (An K Q) s) : run P Γ Ir Q s := Af h
def O4 : List RV := [.tmp 2, .tmp 3]
/- probecard/netlists.Order$1 (function 111) -/
abbrev S0 : IC := (.seq (.reg [od 5 (.mv (ki 0))] [kp [0, 1, 2] []]) (.seq (.reg [od 6 (ld 1 2), om 7 0, od 8 (ia 1 6 7), od 9 (ld 1 8), od 10 (ld 1 2), om 11 1, od 12 (ia 1 10 11), od 13 (ld 1 12), od 14 (.call 112 [(tm 9), (tm 13)]), om 5 14] [kp
 [5] []]) .ret))
def S1 : List RV := [.tmp 5]
/- cmp.Compare[int] (function 112) -/
abbrev Uu : IC := (.seq (.reg [od 4 (.mv (ki 0))] [kp [0, 1] []]) (.seq (.reg [om 7 0, od 8 (.call 151 [(tm 7)]), om 5 8] [kp [0, 1, 5] []]) (.seq (.reg [om 9 1, od 10 (.call 151 [(tm 9)]), om 6 10] [kp [0, 1, 5, 6] []]) (.seq (.seq (.reg [om 11 5]
 [kp [0, 1, 6, 11] []]) (.cond (tm 11) (.seq (.seq (.reg [om 12 6] [kp [12] []]) (.cond (tm 12) (.seq (.reg [od 4 (.mv (ki 0))] [kp [4] []]) .ret) .skip)) (.seq (.reg [od 4 (.mv (.const (.int .i64 (-1))))] [kp [4] []]) .ret))
 .skip)) (.seq (.seq (.reg [om 13 6] [kp [0, 1, 13] []]) (.cond (tm 13) (.seq (.reg [od 4 (.mv (ki 1))] [kp [4] []]) .ret) .skip)) (.seq (.seq (.reg [om 14 0, om 15 1, od 16 (.bin .lss (tm 14) (tm 15))] [kp [0, 1, 16] []]) (.cond
 (tm 16) (.seq (.reg [od 4 (.mv (.const (.int .i64 (-1))))] [kp [4] []]) .ret) .skip)) (.seq (.seq (.reg [om 17 0, om 18 1, od 19 (.bin .gtr (tm 17) (tm 18))] [kp [19] []]) (.cond (tm 19) (.seq (.reg [od 4 (.mv (ki 1))] [kp [4] []])
 .ret) .skip)) (.seq (.reg [od 4 (.mv (ki 0))] [kp [4] []]) .ret))))))))
def Lo : List RV := [.tmp 4]
/- cmp.isNaN[int] (function 151) -/
abbrev Xo : IC := (.seq (.reg [od 2 (.mv kF)] [kp [0] []]) (.seq (.reg [om 3 0, om 4 0, od 5 (.bin .neq (tm 3) (tm 4)), om 2 5] [kp [2] []]) .ret))
def Xp : List RV := [.tmp 2]
end
end Go.Lg
namespace Go.Lg
open Go Go.Proofs
theorem Qu : B7 Tryz.prog 110 I3 9 2 I4 = true := by kernel_rfl
theorem Rl : B7 Tryz.prog 150 Ip 63 3 Iq = true := by kernel_rfl
theorem Kt : B7 Tryz.prog 177 F9 53 4 Fa = true := by kernel_rfl
theorem q2U : B7 Tryz.prog 53 Vz 34 1 O4 = true := by kernel_rfl
theorem q0i : B7 Tryz.prog 111 S0 15 3 S1 = true := by kernel_rfl
theorem q1S : B7 Tryz.prog 112 Uu 20 2 Lo = true := by kernel_rfl
theorem q3J : B7 Tryz.prog 151 Xo 6 1 Xp = true := by kernel_rfl
end Go.Lg
namespace Go.Lg
open Go Go.Proofs
variable {Γ : Tables}
theorem q8v {hp : List (Nat × Bj)} {f : FuncId} {K : T → Prop} {cs : List T} {t u res : T} (h : A8 Tryz.prog Γ f (t :: u :: cs) res) (hk : K res) : q4Y Tryz.prog Γ hp f (.t t :: .t u :: cs.map .t) K ⟨⟩ :=
  A4 h (by simp only [List.map_cons, List.map_map, Function.comp_def, Ar, Ai]; rw [q0I]; rfl) hk
theorem qCa {l : List Int} {a b : Nat} : Ah (Vr l a b) = ((Ah l).set a [tI (l.getD b 0)]).set b [tI (l.getD a 0)] := by
  show Av tI _ = ((Av tI l).set a _).set b _
  rw [Gu, Gu]; rfl
theorem ge1 {f : Int → T} {l : List Int} {i : Nat} (hi : i < l.length) : (Av f l)[i]?.getD [] = [f (l.getD i 0)] := by
  have hget := C0 (f := f) 0 hi
  have hgg : l[i]?.getD 0 = l.getD i 0 := by simp [List.getD_eq_getElem?_getD]
  rw [hgg] at hget
  exact hget
theorem q7F {Q : AX → St → Prop} (ty n : Nat) (cap : Option Nat) (hn : n ≤ 1000000000) (f : FuncId) (cs : List T) (cmp : Int → Int → Int) (i : Nat) (hi : i < n) (R : List Int)
    (h0 : ∀ j : Int, Q (.exit 2) ⟨[(0, .ls 1000000 0 n cap), (1, .t (tI 0)), (2, .t (tI n)), (3, .t (.fn f cs)), (8, .t (tI i)), (9, .t (tI j)), (34, .t (tB false))], [(1000000, .sl ty 1 (Ah R))]⟩) :
    ∀ (j : Nat) (l : List Int), j ≤ i → l.length = n → (∀ x ∈ l, ∀ y ∈ l, A8 Tryz.prog Γ f (tI x :: tI y :: cs) (tI (cmp x y))) → q65 (fun a b => decide (cmp a b < 0)) j l = R →
    run Tryz.prog Γ Bt Q ⟨[(0, .ls 1000000 0 n cap), (1, .t (tI 0)), (2, .t (tI n)), (3, .t (.fn f cs)), (8, .t (tI i)), (9, .t (tI j))], [(1000000, .sl ty 1 (Ah l))]⟩
  | 0, l, hj, hl, hc, hR => by
    refine E4 fun K hK => ?_
    simp only [q65] at hR
    subst hR
    simp
    exact h0 0
  | j + 1, l, hj, hl, hc, hR => by
    refine E4 fun K hK => ?_
    simp only [q65] at hR
    have la : j < l.length := by omega
    have lb : j + 1 < l.length := by omega
    have e1 := ge1 (f := tI) la
    have e2 := ge1 (f := tI) lb
    have m1 : l.getD j 0 ∈ l := by rw [Be la]; exact List.getElem_mem la
    have m2 : l.getD (j + 1) 0 ∈ l := by rw [Be lb]; exact List.getElem_mem lb
    have hcc := hc _ m2 _ m1
    have hs := qCa (l := l) (a := j + 1) (b := j)
    have hperm : (Vr l (j + 1) j).Perm l := q5z lb la
    have hpl := q44 (l := l) (a := j + 1) (b := j)
    have hcs : ∀ x ∈ Vr l (j + 1) j, ∀ y ∈ Vr l (j + 1) j, A8 Tryz.prog Γ f (tI x :: tI y :: cs) (tI (cmp x y)) := fun x hx y hy => hc x (hperm.mem_iff.1 hx) y (hperm.mem_iff.1 hy)
    have ih := q7F ty n cap hn f cs cmp i hi R h0 j (Vr l (j + 1) j) (by omega) (by rw [hpl]; exact hl) hcs
    generalize Vr l (j + 1) j = l' at *
    generalize l.getD j 0 = va at *
    generalize l.getD (j + 1) 0 = vb at *
    have hj1 : (0 : Int) < (j : Int) + 1 := by omega
    have hj2 : ((j : Int) + 1).toNat = j + 1 := by omega
    have hj3 : (j : Int) + 1 < n := by omega
    have hj4 : (j : Int) < n := by omega
    have hj5 : (j : Int) + 1 - 1 = j := by omega
    have lan : j < n := by omega
    have lbn : j + 1 < n := by omega
    simp (disch := omega) [hj1, hj2, hj3, hj4, hj5, lan, lbn, A5, A9, hl, e1, e2, A6]
    refine ⟨by omega, q8v hcc ?_⟩
    by_cases h : cmp vb va < 0
    · rw [if_pos (by simpa using h)] at hR
      have ih := ih hR
      rw [hs] at ih
      simp (disch := omega) [h, hj1, hj2, hj3, hj4, hj5, lan, lbn, A5, A9, hl, e1, e2, A6]
      refine ⟨by omega, ?_⟩
      rw [hK]
      exact_mod_cast ih
    · rw [if_neg (by simpa using h)] at hR
      subst hR
      simp (disch := omega) [h]
      exact_mod_cast h0 (j + 1)
theorem q8w {Q : AX → St → Prop} (ty n : Nat) (cap : Option Nat) (hn : n ≤ 1000000000) (f : FuncId) (cs : List T) (cmp : Int → Int → Int) (R : List Int)
    (h0 : ∀ i : Int, Q (.exit 0) ⟨[(0, .ls 1000000 0 n cap), (1, .t (tI 0)), (2, .t (tI n)), (3, .t (.fn f cs)), (8, .t (tI i)), (14, .t (tB false))], [(1000000, .sl ty 1 (Ah R))]⟩) :
    ∀ (k i : Nat) (l : List Int), 1 ≤ i → i + k = max 1 n → l.length = n → (∀ x ∈ l, ∀ y ∈ l, A8 Tryz.prog Γ f (tI x :: tI y :: cs) (tI (cmp x y))) → q0W (fun a b => decide (cmp a b < 0)) k i l = R →
    run Tryz.prog Γ Bv Q ⟨[(0, .ls 1000000 0 n cap), (1, .t (tI 0)), (2, .t (tI n)), (3, .t (.fn f cs)), (8, .t (tI i))], [(1000000, .sl ty 1 (Ah l))]⟩
  | 0, i, l, h1, h, hl, hc, hR => by
    refine E5 fun K hK => ?_
    simp only [q0W] at hR
    subst hR
    have h2 : ¬ (i : Int) < n := by omega
    have h2' : ¬ i < n := by omega
    simp [h2, h2']
    exact h0 _
  | k + 1, i, l, h1, h, hl, hc, hR => by
    refine E5 fun K hK => ?_
    simp only [q0W] at hR
    have h2 : (i : Int) < n := by omega
    have h2' : i < n := by omega
    have hperm := q1H (lt := fun a b => decide (cmp a b < 0)) (j := i) (l := l) (by omega)
    have ih := q8w ty n cap hn f cs cmp R h0 k (i + 1) (q65 (fun a b => decide (cmp a b < 0)) i l) (by omega) (by omega) (by rw [hperm.length_eq]; exact hl) (fun x hx y hy => hc x (hperm.mem_iff.1 hx) y (hperm.mem_iff.1 hy)) hR
    have hlp := fun Q h0 => q7F (Γ := Γ) (Q := Q) ty n cap hn f cs cmp i h2' _ h0 i l (Nat.le_refl _) hl hc rfl
    simp (disch := omega) [h2, h2', A6]
    refine hlp _ fun j => ?_
    simp (disch := omega) [A6]
    rw [hK]
    exact_mod_cast ih
theorem q8x (ty n : Nat) (cap : Option Nat) (hn : n ≤ 1000000000) (f : FuncId) (cs : List T) (cmp : Int → Int → Int) (l : List Int) (hl : l.length = n) (hc : ∀ x ∈ l, ∀ y ∈ l, A8 Tryz.prog Γ f (tI x :: tI y :: cs) (tI (cmp x y))) :
    Hf Tryz.prog Γ 177 [(1000000, .sl ty 1 (Ah l))] [.ls 1000000 0 n cap, .t (tI 0), .t (tI n), .t (.fn f cs)] (.t (.tup [])) [(1000000, .sl ty 1 (Ah (q0W (fun a b => decide (cmp a b < 0)) (n - 1) 1 l)))] := by
  refine Pg Kt rfl ?_
  have hlp := fun Q h0 => q8w (Γ := Γ) (Q := Q) ty n cap hn f cs cmp _ h0 (n - 1) 1 l (by omega) (by omega) hl hc rfl
  simp (disch := omega) [F9, A6]
  refine hlp _ fun i => ?_
  simp [Fa]
theorem q7G {lt : Int → Int → Bool} : ∀ {f i : Nat} {l : List Int}, i + f ≤ l.length ∨ f = 0 → (q0W lt f i l).Perm l
  | 0, i, l, _ => List.Perm.refl l
  | f + 1, i, l, h => by
    simp only [q0W]
    have hp := q1H (lt := lt) (j := i) (l := l) (by omega)
    exact (q7G (by rw [hp.length_eq]; omega)).trans hp
theorem q8y {lt : Int → Int → Bool} {l : List Int} {n : Nat} (h : l.length = n) : (q0W lt (n - 1) 1 l).length = l.length := (q7G (by omega)).length_eq
theorem qCb (ty n : Nat) (cap : Option Nat) (hn : n ≤ 19) (f : FuncId) (cs : List T) (cmp : Int → Int → Int) (l : List Int) (hl : l.length = n) (hc : ∀ x ∈ l, ∀ y ∈ l, A8 Tryz.prog Γ f (tI x :: tI y :: cs) (tI (cmp x y))) :
    Hf Tryz.prog Γ 150 [(1000000, .sl ty 1 (Ah l))] [.ls 1000000 0 n cap, .t (tI n), .t (.fn f cs)] (.t (.tup [])) [(1000000, .sl ty 1 (Ah (q0W (fun a b => decide (cmp a b < 0)) (n - 1) 1 l)))] := by
  refine Pg Rl rfl ?_
  have hi := q8x (Γ := Γ) ty n cap (by omega) f cs cmp l hl hc
  simp (disch := omega) [Ip, A6]
  have hR := q8y (lt := fun a b => decide (cmp a b < 0)) hl
  generalize q0W (fun a b => decide (cmp a b < 0)) (n - 1) 1 l = R at *
  refine Om fun K hK => ?_
  have h1 : ¬ (20 : Int) ≤ n := by omega
  have h2 : ¬ 20 ≤ n := by omega
  have h3 : ¬ (20 : Int) < n := by omega
  have h4 : ¬ 20 < n := by omega
  simp [h1, h2]
  refine ⟨_, _, hi, ?_⟩
  simp [A5, hR]
  refine On fun K hK => ?_
  simp [h3, h4, Iq]
theorem qFS (ty n : Nat) (cap : Option Nat) (hn : n ≤ 19) (f : FuncId) (cs : List T) (cmp : Int → Int → Int) (l : List Int) (hl : l.length = n) (hc : ∀ x ∈ l, ∀ y ∈ l, A8 Tryz.prog Γ f (tI x :: tI y :: cs) (tI (cmp x y))) :
    Hf Tryz.prog Γ 110 [(1000000, .sl ty 1 (Ah l))] [.ls 1000000 0 n cap, .t (.fn f cs)] (.t (.tup [])) [(1000000, .sl ty 1 (Ah (q0W (fun a b => decide (cmp a b < 0)) (n - 1) 1 l)))] := by
  refine Pg Qu rfl ?_
  have hi := qCb (Γ := Γ) ty n cap hn f cs cmp l hl hc
  have hR := q8y (lt := fun a b => decide (cmp a b < 0)) hl
  generalize q0W (fun a b => decide (cmp a b < 0)) (n - 1) 1 l = R at *
  simp (disch := omega) [I3, A6]
  refine ⟨_, _, hi, ?_⟩
  simp [I4, A5, hR]
theorem q8z (n : Int) : A8 Tryz.prog Γ 151 [tI n] (tB false) := by
  refine Ac q3J rfl ?_
  simp [Xo, Xp, Ak]
def qA2 (a b : Int) : Int := if a < b then -1 else if b < a then 1 else 0
theorem qCc (a b : Int) : A8 Tryz.prog Γ 112 [tI a, tI b] (tI (qA2 a b)) := by
  refine Ac q1S rfl ?_
  simp [Uu]
  refine A4 (q8z a) rfl ?_
  simp
  refine A4 (q8z b) rfl ?_
  by_cases h : a < b
  · simp [h, Lo, Ak, qA2]
  · by_cases h1 : b < a <;> simp [h, h1, Lo, Ak, qA2]
def qDn (c : Bf) : T := .sl (Ah (Ln c).2.out) none none
theorem q90 (c : Bf) (h : D3 c = 0) (a b : Int) (ha : 0 ≤ a ∧ a < c.nodes.l.length) (hb : 0 ≤ b ∧ b < c.nodes.l.length) : A8 Tryz.prog Γ 111 [tI a, tI b, .ip [qDn c] 0] (tI (qA2 (Ks c a.toNat) (Ks c b.toNat))) := by
  refine Ac q0i rfl ?_
  have hl := (q64 h).1
  have e1 := ge1 (f := tI) (l := (Ln c).2.out) (i := a.toNat) (by omega)
  have e2 := ge1 (f := tI) (l := (Ln c).2.out) (i := b.toNat) (by omega)
  unfold Ks qDn
  generalize (Ln c).2.out.getD a.toNat 0 = va at *
  generalize (Ln c).2.out.getD b.toNat 0 = vb at *
  simp (disch := omega) [S0, A5, A9, hl, e1, e2, ha, hb]
  refine A4 (qCc _ _) rfl ?_
  simp [S1, Ak]
theorem q68 {Q : AX → St → Prop} (n : Nat) (hn : n ≤ 1000000000) (a4 : T)
    (h0 : Q (.exit 0) ⟨[(4, .t a4), (6, .ls 19 0 n none), (21, .t (tI n)), (22, .t (tI n)), (23, .t (tB false))], [(19, .sl 3 1 (Ah (rng n)))]⟩) : ∀ (k i : Nat), k + i = n →
    run Tryz.prog Γ Ir Q ⟨[(4, .t a4), (6, .ls 19 0 n none), (21, .t (tI n)), (22, .t (tI i))], [(19, .sl 3 1 (Ah (rng i ++ List.replicate (n - i) 0)))]⟩
  | 0, i, h => by
    refine P0 fun K hK => ?_
    have h2 : i = n := by omega
    subst h2
    simp
    simpa using h0
  | k + 1, i, h => by
    refine P0 fun K hK => ?_
    have ih := q68 n hn a4 h0 k (i + 1) (by omega)
    have h2 : i < n := by omega
    have hs : (Ah (rng i ++ List.replicate (n - i) 0)).set i [tI i] = Ah (rng (i + 1) ++ List.replicate (n - (i + 1)) 0) := by
      show (Av tI _).set i [tI i] = Av tI _
      rw [Gu]
      congr 1
      have e : n - i = (n - (i + 1)) + 1 := by omega
      rw [e, List.replicate_succ, List.set_append, if_neg (by rw [Ik]; omega), Ik, Nat.sub_self]
      simp [rng, List.range_succ]
    have hlen : (Ah (rng i ++ List.replicate (n - i) 0)).length = n := by rw [A5]; simp [Ik]; omega
    generalize Ah (rng i ++ List.replicate (n - i) 0) = E at *
    simp (disch := omega) [h2, hlen, hs, A6]
    rw [hK]
    exact_mod_cast ih
theorem qA3 (hΓ : GOk Γ) (c : Bf) (hc : COk c) (hn : c.nodes.l.length ≤ 19) :
    A8 Tryz.prog Γ 53 [.agg (tC c)] (.tup [if D3 c = 0 then .sl (Ah (Ja c)) none none else .sl [] (some 0) (some true), tI (D3 c)]) := by
  refine Ac q2U rfl ?_
  have e1 := q8g hΓ c hc.toCirOk hc.asc
  simp [Vz, tC, Aa, Ad, Ae, Aw]
  refine A4 e1 rfl ?_
  by_cases h : D3 c = 0
  case neg => simp [h, O4, St.freeze, Bj.closed, Ej, frz1, frz0, Ni, del, Ai]
  have hlp := fun Q h0 => q68 (Γ := Γ) (Q := Q) c.nodes.l.length (by omega) (.ip [qDn c] 0) h0 c.nodes.l.length 0 (by omega)
  have hz : List.replicate c.nodes.l.length [T.v (Value.int .i64 0)] = Ah (rng 0 ++ List.replicate (c.nodes.l.length - 0) 0) := by simp [Av, rng]
  have hsort := qFS (Γ := Γ) 3 c.nodes.l.length none hn 111 [.ip [qDn c] 0] (fun a b => qA2 (Ks c a.toNat) (Ks c b.toNat)) (rng c.nodes.l.length) Ik (fun x hx y hy => q90 c h x y (Q7.1 hx) (Q7.1 hy))
  have hlt : (fun a b => decide (qA2 (Ks c a.toNat) (Ks c b.toNat) < 0)) = qAh c := by
    funext a b
    simp only [qAh, qA2]
    by_cases h1 : Ks c a.toNat < Ks c b.toNat
    · simp [h1]
    · by_cases h2 : Ks c b.toNat < Ks c a.toNat <;> simp [h1, h2]
  rw [hlt] at hsort
  have ho : q0W (qAh c) (c.nodes.l.length - 1) 1 (rng c.nodes.l.length) = Ja c := rfl
  rw [ho] at hsort
  have holen : (Ja c).length = c.nodes.l.length := by rw [(Tv c).1.length_eq, Ik]
  simp [h, Ab, A6, St.freeze, Bj.closed, Ej, frz1, frz0, Ni, del, Ai]
  refine ⟨by omega, ?_⟩
  rw [hz]
  refine hlp _ ?_
  simp
  refine ⟨_, _, hsort, ?_⟩
  have htk : (Ah (Ja c)).take c.nodes.l.length = Ah (Ja c) := List.take_of_length_le (by rw [A5, holen]; exact Nat.le_refl _)
  simp [A5, Ik, holen, O4, Ai, htk, h]
end Go.Lg
namespace Go.Lg
open Go
section
variable {P : Program} {Γ : Tables} {Q : AX → St → Prop} {s : St}
/- probecard/sims.fits (function 54) -/
abbrev Yy : IC := (.seq (.reg [od 2 (.box true (tm 0)), od 3 (.box true (tm 1)), od 4 (.mv (ki 0))] [kp [2, 3] []]) (.seq (.block 0 (.seq (.reg [od 6 (fa 2 2), od 7 (ld 1 6), od 8 (le 0 7), od 9 (.bin .gtr (tm 8) (ki 0)), om 10 9, oF 11 (lG 4 2) 10,
 oF 12 (.bsl true 102 1 [(ku 15)]) 10, oF 13 (.call 80 [(tm 11), (tm 12)]) 10, oF 14 (le 0 13) 10, oF 15 (.bin .gtr (tm 14) (ki 0)) 10, od 16 (.pick (tm 10) kT (tm 15)), om 5 16] [kp [2, 3, 5] []]) (.cond (tm 5) (.seq (.reg [od 4
 (.mv (ki 7))] [kp [4] []]) .ret) (.seq (.reg [od 18 (fa 0 3), od 19 (ld 1 18), od 20 (le 0 19), od 21 (lG 4 2), od 22 (.call 41 [(tm 21)]), od 23 (le 0 22), od 24 (.bin .neq (tm 20) (tm 23)), om 25 24, oF 26 (fa 1 3) 25, oF 27 (ld
 1 26) 25, oF 28 (le 0 27) 25, oF 29 (lG 4 2) 25, oF 30 (.call 27 [(tm 29)]) 25, oF 31 (le 0 30) 25, oF 32 (.bin .neq (tm 28) (tm 31)) 25, od 33 (.pick (tm 25) kT (tm 32)), om 17 33] [kp [3, 17] []]) (.cond (tm 17) (.seq (.reg [od 4
 (.mv (ki 8))] [kp [4] []]) .ret) (.seq (.reg [od 35 (fa 0 3), od 36 (ld 1 35), od 37 (.call 76 [(tm 36), (.func 113)]), om 38 37, oF 39 (fa 1 3) 38, oF 40 (ld 1 39) 38, oF 41 (.call 76 [(tm 40), (.func 113)]) 38, od 42 (.pick (tm
 38) kT (tm 41)), om 34 42] [kp [34] []]) (.cond (tm 34) (.seq (.reg [od 4 (.mv (ki 1))] [kp [4] []]) .ret) .skip))))))) (.seq (.reg [od 4 (.mv (ki 0))] [kp [4] []]) .ret)))
def G9 : List RV := [.tmp 4]
/- probecard/sims.above (function 113) -/
abbrev q1n : IC := (.seq (.reg [od 2 (.mv kF)] [kp [0] []]) (.seq (.reg [om 3 0, od 4 (.bin .gtr (tm 3) (ku 3)), om 2 4] [kp [2] []]) .ret))
def q1o : List RV := [.tmp 2]
/- (probecard/sims.run).load (function 55) -/
abbrev Xq : IC := .gh (.seq (.reg [od 13 (.bin .lss (tm 12) (tm 11))] [kp [2, 3, 10, 11, 12, 13] [2, 1000000]]) (.seq (.cond (tm 13) .skip (.exit 0)) (.seq (.block 1 (.seq (.reg [om 14 12, od 15 (ia 1 10 12), od 16 (ld 1 15), om 4 14, om 5 16] [kp
 [2, 3, 4, 5, 10, 11, 12] [2, 1000000]]) (.reg [od 17 (fa 4 2), od 18 (.ldR 2 1 false (tm 17)), om 19 5, od 20 (fa 0 3), od 21 (.ldT 1 false (tm 20)), om 22 4, od 23 (ia 1 21 22), od 24 (.ldT 1 false (tm 23)), od 25 (ia 1 18 19), on
 (.stR 1000000 1 (tm 25) (tm 24))] [kp [2, 3, 10, 11, 12] [2, 1000000]]))) (.reg [od 26 (.bin .add (tm 12) (ki 1)), om 12 26] [kp [2, 3, 10, 11, 12] [2, 1000000]])))) [kp [2, 3, 10, 11, 12] [2, 1000000]]
def Jl : IC := .loop Xq
abbrev Xr : IC := .gh (.seq (.reg [od 32 (.bin .lss (tm 31) (tm 30))] [kp [2, 3, 29, 30, 31, 32] [2, 1000000]]) (.seq (.cond (tm 32) .skip (.exit 2)) (.seq (.block 3 (.seq (.reg [om 33 31, od 34 (ia 1 29 31), od 35 (ld 1 34), om 6 33, om 7 35] [kp
 [2, 3, 6, 7, 29, 30, 31] [2, 1000000]]) (.reg [od 36 (fa 4 2), od 37 (.ldR 2 1 false (tm 36)), om 38 7, od 39 (fa 1 3), od 40 (.ldT 1 false (tm 39)), om 41 6, od 42 (ia 1 40 41), od 43 (.ldT 1 false (tm 42)), od 44 (ia 1 37 38), on
 (.stR 1000000 1 (tm 44) (tm 43))] [kp [2, 3, 29, 30, 31] [2, 1000000]]))) (.reg [od 45 (.bin .add (tm 31) (ki 1)), om 31 45] [kp [2, 3, 29, 30, 31] [2, 1000000]])))) [kp [2, 3, 29, 30, 31] [2, 1000000]]
def Jm : IC := .loop Xr
abbrev Xs : IC := (.seq (.reg [od 2 (.box false (tm 0)), od 3 (.box true (tm 1))] [kp [2, 3] [2, 1000000]]) (.seq (.seq (.reg [od 8 (fa 0 2), od 9 (lG 4 8), od 10 (.call 41 [(tm 9)]), od 11 (le 0 10), od 12 (.mv (ki 0))] [kp [2, 3, 10, 11, 12] [2,
 1000000]]) (.block 0 Jl)) (.seq (.reg [od 27 (fa 0 2), od 28 (lG 4 27), od 29 (.call 27 [(tm 28)]), od 30 (le 0 29), od 31 (.mv (ki 0))] [kp [2, 3, 29, 30, 31] [2, 1000000]]) (.gh (.block 2 Jm) [.keep []
 [1000000]]))))
theorem Qv (h : ∀ K : St → Prop, K = run P Γ Jl Q → run P Γ Xq (An K Q) s) : run P Γ Jl Q s := Af h
theorem Qw (h : ∀ K : St → Prop, K = run P Γ Jm Q → run P Γ Xr (An K Q) s) : run P Γ Jm Q s := Af h
def Xt : List RV := []
/- probecard/sims.Run (function 15) -/
abbrev q4j : IC := .gh (.seq (.reg [od 62 (.bin .lss (tm 61) (tm 60))] [kp [4, 9, 10, 12, 13, 40, 41, 42, 59, 60, 61, 62] [4, 9, 13, 34, 39]]) (.seq (.cond (tm 62) .skip (.exit 2)) (.seq (.block 3 (.seq (.reg [od 63 (ia 1 59 61), od 64 (ld 1 63), om
 15 64] [kp [4, 9, 10, 12, 13, 15, 40, 41, 42, 59, 60, 61] [4, 9, 13, 34, 39]]) (.reg [om 65 10, od 66 (fa 4 9), od 67 (ld 1 66), om 68 15, od 69 (ia 1 67 68), od 70 (ld 1 69), od 71 (.bsl true 68 1 [(tm 70)]), oz 72 (.app false 68
 1 (tm 65) (tm 71)) 39, om 10 72] [kp [4, 9, 10, 12, 13, 40, 41, 42, 59, 60, 61] [4, 9, 13, 34, 39]]))) (.reg [od 73 (.bin .add (tm 61) (ki 1)), om 61 73] [kp [4, 9, 10, 12, 13, 40, 41, 42, 59, 60, 61] [4, 9, 13, 34, 39]])))) [kp
 [4, 9, 10, 12, 13, 40, 41, 42, 59, 60, 61] [4, 9, 13, 34, 39]]
def W0 : IC := .loop q4j
abbrev q4k : IC := .gh (.seq (.reg [od 43 (.bin .lss (tm 42) (tm 41))] [kp [4, 9, 10, 40, 41, 42, 43] [4, 9, 34, 39]]) (.seq (.cond (tm 43) .skip (.exit 0)) (.seq (.block 1 (.seq (.reg [od 44 (ia 1 40 42), od 45 (ld 1 44), om 12 45] [kp [4, 9, 10,
 12, 40, 41, 42] [4, 9, 34, 39]]) (.seq (.reg [od 46 (fa 0 9), od 47 (fa 0 46), od 48 (ld 1 47), om 49 12, od 50 (ia 4 48 49), od 51 (lG 4 50), od 13 (.alloc false [(.int .u8 0), (.slice none 0 0), (.int .i64 0), (.int .i64 0)]), on
 (.store 4 (tm 13) (tm 51))] [kp [4, 9, 10, 12, 13, 40, 41, 42] [4, 9, 13, 34, 39]]) (.seq (.seq (.reg [od 52 (fa 0 13), od 53 (ld 1 52), od 54 (.call 56 [(tm 53)]), od 55 (.un .not (tm 54))] [kp [4, 9, 10, 12, 13, 40, 41, 42, 55]
 [4, 9, 13, 34, 39]]) (.cond (tm 55) (.exit 1) .skip)) (.seq (.reg [om 56 10, od 57 (.slice 1 (tm 56) none (some (ki 0)) none), om 10 57] [kp [4, 9, 10, 12, 13, 40, 41, 42] [4, 9, 13, 34, 39]]) (.seq (.seq (.reg [od 58 (fa 1 13), od
 59 (ld 1 58), od 60 (le 0 59), od 61 (.mv (ki 0))] [kp [4, 9, 10, 12, 13, 40, 41, 42, 59, 60, 61] [4, 9, 13, 34, 39]]) (.block 2 W0)) (.reg [od 74 (fa 4 9), od 75 (.ldR 9 1 false (tm 74)), om 76 12, od 77 (fa 0 13), od 78
 (.ldR 13 1 false (tm 77)), om 79 10, od 80 (.call 57 [(tm 78), (tm 79)]), od 81 (ia 1 75 76), on (.stR 34 1 (tm 81) (tm 80))] [kp [4, 9, 10, 40, 41, 42] [4, 9, 34, 39]]))))))) (.reg [od 82 (.bin .add (tm 42) (ki 1)), om 42 82] [kp
 [4, 9, 10, 40, 41, 42] [4, 9, 34, 39]])))) [kp [4, 9, 10, 40, 41, 42] [4, 9, 34, 39]]
def W1 : IC := .loop q4k
abbrev q4l : IC := (.seq (.reg [od 2 (.box true (tm 0)), od 3 (.box true (tm 1)), od 4 (.alloc false [(.slice none 0 0), (.slice none 0 0)]), od 5 (.mv kN), od 6 (.mv (ki 0))] [kp [2, 3, 4] [4]]) (.seq (.reg [od 17 (lG 4 2), od 18 (.call 53 [(tm
 17)]), om 16 18, od 19 (ex 16 0), od 20 (ex 16 1), om 7 19, om 8 20] [kp [2, 3, 4, 7, 8] [4]]) (.seq (.seq (.reg [om 21 8, od 22 (.bin .eql (tm 21) (ki 0))] [kp [2, 3, 4, 7, 8, 22] [4]]) (.cond (tm 22) (.reg [od 23 (lG 4 2), od 24
 (lG 2 3), od 25 (.call 54 [(tm 23), (tm 24)]), om 8 25] [kp [2, 3, 4, 7, 8] [4]]) .skip)) (.seq (.seq (.reg [om 26 8, od 27 (.bin .neq (tm 26) (ki 0))] [kp [2, 3, 4, 7, 8, 27] [4]]) (.cond (tm 27) (.seq (.reg [od 28 (.build [(1,
 kN), (1, kN)]), om 29 8, on (.store 2 (tm 4) (tm 28)), od 5 (.mv kN), om 6 29] [kp [4, 5, 6] [4, 34]]) .ret) .skip)) (.seq (.reg [od 30 (.ldT 4 true (tm 2)), od 31 (fa 0 2), od 32 (.ldT 1 false (tm 31)), od 33 (le 0 32), od 34
 (.mkE 68 1 [(.int .u8 0)] (tm 33) (tm 33)), od 35 (.build [(4, (tm 30)), (1, (tm 34))]), od 9 (.alloc false [(.slice none 0 0), (.slice none 0 0), (.slice none 0 0), (.slice none 0 0), (.slice none 0 0)]), on (.stR 9 5 (tm 9) (tm
 35))] [kp [3, 4, 7, 9] [4, 9, 34]]) (.seq (.reg [od 36 (lG 5 9), od 37 (lG 2 3), od 38 (.hcall 55 [(tm 36), (tm 37)] [34] 38000)] [kp [4, 7, 9] [4, 9, 34]]) (.seq (.reg [od 39 (.mk 68 1 [(.int .u8 0)] (ki 0) (ki 16)), om 10 39] [kp
 [4, 7, 9, 10] [4, 9, 34, 39]]) (.seq (.seq (.reg [om 40 7, od 41 (le 0 40), od 42 (.mv (ki 0))] [kp [4, 9, 10, 40, 41, 42] [4, 9, 34, 39]]) (.block 0 W1)) (.seq (.reg [od 83 (.ldR 9 5 true (tm 9)), od 84 (.call 58 [(tm
 83)]), od 85 (fa 4 9), od 86 (.ldR 9 1 false (tm 85)), on (.stR 4 2 (tm 4) (tm 84)), om 5 86, od 6 (.mv (ki 0))] [kp [4, 5, 6] [4, 34]]) .ret)))))))))
theorem Zd (h : ∀ K : St → Prop, K = run P Γ W0 Q → run P Γ q4j (An K Q) s) : run P Γ W0 Q s := Af h
theorem Ze (h : ∀ K : St → Prop, K = run P Γ W1 Q → run P Γ q4k (An K Q) s) : run P Γ W1 Q s := Af h
def W2 : List RV := [.cell 4 2 true, .tmp 5, .tmp 6]
/- (probecard/sims.run).value (function 122) -/
abbrev Is : IC := (.seq (.reg [od 2 (.box true (tm 0)), od 4 (.mv (ku 0))] [kp [1, 2] []]) (.seq (.seq (.reg [om 5 1, od 6 (.bin .lss (tm 5) (ki 0)), om 7 6, oF 8 (.mv (tm 1)) 7, oF 9 (fa 4 2) 7, oF 10 (ld 1 9) 7, oF 11 (le 0 10) 7, oF 12 (.bin .geq
 (tm 8) (tm 11)) 7, od 13 (.pick (tm 7) kT (tm 12))] [kp [1, 2, 13] []]) (.cond (tm 13) (.seq (.reg [od 4 (.mv (ku 2))] [kp [4] []]) .ret) .skip)) (.seq (.reg [od 14 (fa 4 2), od 15 (ld 1 14), om 16 1, od 17 (ia 1 15 16), od 18 (ld
 1 17), od 19 (.call 127 [(tm 18)]), om 4 19] [kp [4] []]) .ret)))
def It : List RV := [.tmp 4]
/- (probecard/sims.run).observe (function 58) -/
abbrev S3 : IC := .gh (.seq (.reg [od 15 (.bin .lss (tm 14) (tm 13))] [kp [1, 2, 3, 12, 13, 14, 15] [2, 3, 24, 55]]) (.seq (.cond (tm 15) .skip (.exit 0)) (.seq (.block 1 (.seq (.reg [od 16 (ia 1 12 14), od 17 (ld 1 16), om 5 17] [kp [1, 2, 3, 5,
 12, 13, 14] [2, 3, 24, 55]]) (.reg [od 18 (fa 0 3), od 19 (.ldR 3 1 false (tm 18)), od 20 (.ldT 5 true (tm 1)), om 21 5, od 22 (.call 122 [(tm 20), (tm 21)]), od 23 (.bsl true 68 1 [(tm 22)]), od 24 (.app false 68 1 (tm 19) (tm
 23)), od 25 (fa 0 3), on (.stR 3 1 (tm 25) (tm 24))] [kp [1, 2, 3, 12, 13, 14] [2, 3, 24, 55]]))) (.reg [od 26 (.bin .add (tm 14) (ki 1)), om 14 26] [kp [1, 2, 3, 12, 13, 14] [2, 3, 24, 55]])))) [kp [1, 2, 3, 12, 13, 14] [2, 3, 24,
 55]]
def Gk : IC := .loop S3
abbrev S4 : IC := .gh (.seq (.reg [od 32 (.bin .lss (tm 31) (tm 30))] [kp [1, 2, 3, 29, 30, 31, 32] [2, 3, 24, 55]]) (.seq (.cond (tm 32) .skip (.exit 2)) (.seq (.block 3 (.seq (.reg [od 33 (ia 1 29 31), od 34 (ld 1 33), om 7 34] [kp [1, 2, 3, 7,
 29, 30, 31] [2, 3, 24, 55]]) (.seq (.reg [od 8 (.mv (ku 2))] [kp [1, 2, 3, 7, 8, 29, 30, 31] [2, 3, 24, 55]]) (.seq (.seq (.reg [od 35 (fa 0 1), od 36 (fa 0 35), od 37 (ld 1 36), om 38 7, od 39 (ia 4 37 38), od 40 (fa 1 39), od 41
 (ld 1 40), om 9 41] [kp [1, 2, 3, 8, 9, 29, 30, 31] [2, 3, 24, 55]]) (.seq (.reg [om 42 9, od 43 (le 0 42), od 44 (.bin .eql (tm 43) (ki 1))] [kp [1, 2, 3, 8, 9, 29, 30, 31, 44] [2, 3, 24, 55]]) (.cond (tm 44) (.reg [od 45 (lG 5
 1), om 46 9, od 47 (.iadr 1 (tm 46) (ki 0)), od 48 (ld 1 47), od 49 (.call 122 [(tm 45), (tm 48)]), od 50 (.call 73 [(tm 49)]), om 8 50] [kp [1, 2, 3, 8, 29, 30, 31] [2, 3, 24, 55]]) .skip))) (.reg [od 51 (fa 1 3), od 52 (ld 1 51),
 om 53 8, od 54 (.bsl true 68 1 [(tm 53)]), od 55 (.app false 68 1 (tm 52) (tm 54)), od 56 (fa 1 3), on (.store 1 (tm 56) (tm 55))] [kp [1, 2, 3, 29, 30, 31] [2, 3, 24, 55]]))))) (.reg [od 57 (.bin .add (tm 31) (ki 1)), om 31 57]
 [kp [1, 2, 3, 29, 30, 31] [2, 3, 24, 55]])))) [kp [1, 2, 3, 29, 30, 31] [2, 3, 24, 55]]
def Gm : IC := .loop S4
abbrev S5 : IC := (.seq (.reg [od 1 (.box true (tm 0)), od 2 (.alloc false [(.slice none 0 0), (.slice none 0 0)])] [kp [1, 2] [2, 24, 55]]) (.seq (.reg [od 3 (.alloc false [(.slice none 0 0), (.slice none 0 0)])] [.nlb 3 0 24 68 1, .nlb 3 1 55 68
 1, kp [1, 2, 3] [2, 3, 24, 55]]) (.seq (.seq (.reg [od 10 (fa 0 1), od 11 (fa 3 10), od 12 (ld 1 11), od 13 (le 0 12), od 14 (.mv (ki 0))] [kp [1, 2, 3, 12, 13, 14] [2, 3, 24, 55]]) (.block 0 Gk)) (.seq (.seq (.reg
 [od 27 (fa 0 1), od 28 (lG 4 27), od 29 (.call 27 [(tm 28)]), od 30 (le 0 29), od 31 (.mv (ki 0))] [kp [1, 2, 3, 29, 30, 31] [2, 3, 24, 55]]) (.block 2 Gm)) (.seq (.reg [od 58 (fa 0 3), od 59 (.ldR 3 1 false (tm
 58)), od 60 (.rcall 74 [(tm 59)] [24]), od 61 (fa 1 3), od 62 (.ldR 3 1 false (tm 61)), od 63 (.rcall 74 [(tm 62)] [55]), od 64 (.build [(1, (tm 60)), (1, (tm 63))]), on (.stR 2 2 (tm 2) (tm 64))] [kp [2] [2, 24, 55]]) .ret)))))
theorem N1 (h : ∀ K : St → Prop, K = run P Γ Gk Q → run P Γ S3 (An K Q) s) : run P Γ Gk Q s := Af h
theorem N2 (h : ∀ K : St → Prop, K = run P Γ Gm Q → run P Γ S4 (An K Q) s) : run P Γ Gm Q s := Af h
def S7 : List RV := [.cell 2 2 true]
/- probecard/sims.Observe (function 18) -/
abbrev Rm : IC := (.seq (.reg [od 2 (.box true (tm 0)), od 4 (.alloc false [(.slice none 0 0), (.slice none 0 0)])] [kp [1, 2, 4] [4]]) (.seq (.reg [od 5 (lG 4 2), om 6 1, od 7 (.build [(4, (tm 5)), (1, (tm 6))]), od 8 (.call 58 [(tm 7)]), on
 (.store 2 (tm 4) (tm 8))] [kp [4] [4]]) .ret))
def Rn : List RV := [.cell 4 2 true]
/- probecard/sims.Conflicts (function 71) -/
abbrev W3 : IC := .gh (.seq (.reg [od 32 (.bin .lss (tm 31) (tm 30))] [kp [5, 6, 8, 9, 17, 18, 19, 29, 30, 31, 32] [5, 40, 47]]) (.seq (.cond (tm 32) .skip (.exit 2)) (.seq (.block 3 (.seq (.reg [od 33 (ia 1 29 31), od 34 (ld 1 33), om 11 34] [kp
 [5, 6, 8, 9, 11, 17, 18, 19, 29, 30, 31] [5, 40, 47]]) (.reg [om 35 9, od 36 (lG 5 5), om 37 11, od 38 (.call 122 [(tm 36), (tm 37)]), od 39 (.bsl true 68 1 [(tm 38)]), od 40 (.app false 68 1 (tm 35) (tm 39)), om 9 40] [kp [5, 6,
 8, 9, 17, 18, 19, 29, 30, 31] [5, 40, 47]]))) (.reg [od 41 (.bin .add (tm 31) (ki 1)), om 31 41] [kp [5, 6, 8, 9, 17, 18, 19, 29, 30, 31] [5, 40, 47]])))) [kp [5, 6, 8, 9, 17, 18, 19, 29, 30, 31] [5, 40, 47]]
def O5 : IC := .loop W3
abbrev W4 : IC := .gh (.seq (.reg [od 20 (.bin .lss (tm 19) (tm 18))] [kp [5, 6, 17, 18, 19, 20] [5, 47]]) (.seq (.cond (tm 20) .skip (.exit 0)) (.seq (.block 1 (.seq (.reg [od 21 (ia 1 17 19), od 22 (ld 1 21), om 8 22] [kp [5, 6, 8, 17, 18, 19] [5,
 47]]) (.seq (.reg [od 9 (.mv kN)] [.nl 9 40 68 1, kp [5, 6, 8, 9, 17, 18, 19] [5, 40, 47]]) (.seq (.seq (.reg [od 23 (fa 0 5), od 24 (fa 0 23), od 25 (ld 1 24), om 26 8, od 27 (ia 4 25 26), od 28 (fa 1 27), od 29 (ld 1 28), od 30
 (le 0 29), od 31 (.mv (ki 0))] [kp [5, 6, 8, 9, 17, 18, 19, 29, 30, 31] [5, 40, 47]]) (.block 2 O5)) (.seq (.reg [om 42 9, od 43 (.call 128 [(tm 42)])] [kp [5, 6, 8, 17, 18, 19, 43] [5, 47]]) (.cond (tm 43) (.reg [om
 44 6, om 45 8, od 46 (.bsl true 3 1 [(tm 45)]), od 47 (.app false 3 1 (tm 44) (tm 46)), om 6 47] [kp [5, 6, 17, 18, 19] [5, 47]]) .skip)))))) (.reg [od 48 (.bin .add (tm 19) (ki 1)), om 19 48] [kp [5, 6, 17, 18, 19] [5, 47]]))))
 [kp [5, 6, 17, 18, 19] [5, 47]]
def O6 : IC := .loop W4
abbrev W5 : IC := (.seq (.reg [od 2 (.box true (tm 0)), od 4 (.mv kN)] [kp [1, 2] []]) (.seq (.reg [od 12 (lG 4 2), om 13 1, od 14 (.build [(4, (tm 12)), (1, (tm 13))]), od 5 (.alloc false [(.slice none 0 0), (.slice none 0 0), (.slice none 0 0),
 (.slice none 0 0), (.slice none 0 0)]), on (.store 5 (tm 5) (tm 14))] [kp [2, 5] [5]]) (.seq (.reg [od 6 (.mv kN)] [.nl 6 47 3 1, kp [2, 5, 6] [5, 47]]) (.seq (.seq (.reg [od 15 (lG 4 2), od 16 (.bsl true 102 1 [(ku 13)]), od 17
 (.call 80 [(tm 15), (tm 16)]), od 18 (le 0 17), od 19 (.mv (ki 0))] [kp [5, 6, 17, 18, 19] [5, 47]]) (.block 0 O6)) (.seq (.reg [om 49 6, od 50 (.rcall 85 [(tm 49)] [47]), om 4 50] [kp [4] [47]]) .ret)))))
theorem P1 (h : ∀ K : St → Prop, K = run P Γ O5 Q → run P Γ W3 (An K Q) s) : run P Γ O5 Q s := Af h
theorem P2 (h : ∀ K : St → Prop, K = run P Γ O6 Q → run P Γ W4 (An K Q) s) : run P Γ O6 Q s := Af h
def W6 : List RV := [.tmp 4]
/- probecard/netlists.Inputs (function 41) -/
abbrev Uw : IC := (.seq (.reg [od 1 (.box true (tm 0)), od 2 (.mv kN)] [kp [1] []]) (.seq (.reg [od 3 (lG 4 1), od 4 (.bsl true 102 1 [(ku 0)]), od 5 (.call 80 [(tm 3), (tm 4)]), om 2 5] [kp [2] []]) .ret))
def Ux : List RV := [.tmp 2]
/- slices.Clip[[]probecard/api.Value,probecard/api.Value] (function 74) -/
abbrev Ku : IC := (.seq (.reg [od 2 (.mv kN)] [kp [0] [1000000]]) (.seq (.reg [om 3 0, om 4 0, od 5 (le 0 4), om 6 0, od 7 (le 0 6), od 8 (.slice 1 (tm 3) none (some (tm 5)) (some (tm 7))), om 2 8] [kp [2] [1000000]]) .ret))
def Kv : List RV := [.tmp 2]
end
end Go.Lg
namespace Go.Lg
open Go Go.Proofs
theorem q6l : B7 Tryz.prog 54 Yy 43 2 G9 = true := by kernel_rfl
theorem q69 : B7 Tryz.prog 113 q1n 5 1 q1o = true := by kernel_rfl
theorem q3K : B7 Tryz.prog 55 Xs 46 2 Xt = true := by kernel_rfl
theorem q7o : B7 Tryz.prog 15 q4l 87 2 W2 = true := by kernel_rfl
theorem q2V : B7 Tryz.prog 122 Is 20 2 It = true := by kernel_rfl
theorem q0j : B7 Tryz.prog 58 S5 65 1 S7 = true := by kernel_rfl
theorem Xu : B7 Tryz.prog 18 Rm 9 2 Rn = true := by kernel_rfl
theorem q2W : B7 Tryz.prog 71 W5 51 2 W6 = true := by kernel_rfl
theorem q1T : B7 Tryz.prog 41 Uw 6 1 Ux = true := by kernel_rfl
theorem Ve : B7 Tryz.prog 74 Ku 9 1 Kv = true := by kernel_rfl
end Go.Lg
namespace Go.Lg
open Go Go.Proofs
variable {Γ : Tables}
theorem q4m (c : Bf) (hc : COk c) : Au Tryz.prog Γ 41 [.agg (tC c)] (.sl (Ah (Dn c)) (some (Dn c).length) none) := by
  refine D7 q1T rfl ?_
  simp [Uw, tC, Aa, Ad, Ae, Aw]
  refine A4 (q7h c hc 0) rfl ?_
  simp [Ux, Dn]
def K6 (v : Int) : Bool := decide (3 < v)
theorem q6A (v : Int) : A8 Tryz.prog Γ 113 [tK v] (tB (K6 v)) := by
  refine Ac q69 rfl ?_
  simp [q1n, q1o, Ak, K6]
structure Pat where
  inn : Sl Int
  st : Sl Int
def tP (p : Pat) : List T := [tV p.inn, tV p.st]
theorem Uy (c : Bf) : (Dn c).length ≤ c.nodes.l.length := Vo _ _ _
theorem Jb (c : Bf) : (Ce c).length ≤ c.nodes.l.length := Vo _ _ _
def W7 (c : Bf) (p : Pat) : Int :=
  if 0 < c.mems.l.length ∨ 0 < (mems c).length then 7 else
  if p.inn.l.length ≠ (Dn c).length ∨ p.st.l.length ≠ (Ce c).length then 8 else
  if p.inn.l.any K6 = true ∨ p.st.l.any K6 = true then 1 else 0
theorem qBZ (c : Bf) (hc : COk c) (p : Pat) (hp : p.inn.l.length ≤ 1000000000 ∧ p.st.l.length ≤ 1000000000) : A8 Tryz.prog Γ 54 [.agg (tC c), .agg (tP p)] (tI (W7 c p)) := by
  refine Ac q6l rfl ?_
  have e1 := q7h (Γ := Γ) c hc 15
  have e2 := q4m (Γ := Γ) c hc
  have e3 := q0P (Γ := Γ) c hc
  have e4 := Px (Γ := Γ) p.inn.l p.inn.cap p.inn.nl 113 [] K6 (fun x _ => q6A x) hp.1
  have e5 := Px (Γ := Γ) p.st.l p.st.cap p.st.nl 113 [] K6 (fun x _ => q6A x) hp.2
  have hm : Mc [15] c.nodes.l 0 = mems c := rfl
  rw [hm] at e1
  generalize hR : W7 c p = R
  unfold W7 at hR
  by_cases h1 : 0 < c.mems.l.length
  · rw [if_pos (.inl h1)] at hR
    subst hR
    have h1' : ¬ c.mems.l = [] := fun e => by rw [e] at h1; simp at h1
    simp [Yy, tC, Aa, Ad, Ae, Aw, tP, tV, Ab, h1, h1', G9, Ak]
  have h1' : c.mems.l = [] := List.eq_nil_of_length_eq_zero (by omega)
  simp [Yy, tC, Aa, Ad, Ae, Aw, tP, tV, Ab, h1, h1']
  refine A4 e1 (by simp [Ai, Ar, Av, tC, Aa, Ad, Ae, Aw, h1']) ?_
  by_cases h2 : 0 < (mems c).length
  · rw [if_pos (.inr h2)] at hR
    subst hR
    have h2' : ¬ mems c = [] := fun e => by rw [e] at h2; simp at h2
    simp [A5, h2, h2', G9, Ak]
  rw [if_neg (by omega)] at hR
  have h2' : mems c = [] := List.eq_nil_of_length_eq_zero (by omega)
  simp [A5, h2']
  have tt : ∀ {x : T}, x = T.agg (tC c) → Ar [some x] = some [T.agg (tC c)] := fun h => by rw [h]; rfl
  have tc : T.agg (tC c) = T.agg [T.sl (B1 D4 c.nodes.l) c.nodes.cap c.nodes.nl, T.sl (Av tS c.names.l) c.names.cap c.names.nl, T.sl (B1 tMm []) c.mems.cap c.mems.nl, T.sl (Ah c.outs.l) c.outs.cap c.outs.nl] := by rw [← h1']; rfl
  refine Ao e2 (by rw [tc]; rfl) ?_
  simp [A5]
  by_cases h3 : p.inn.l.length = (Dn c).length
  case neg =>
    have h3' : ¬ (p.inn.l.length : Int) = (Dn c).length := by omega
    rw [if_pos (.inl h3)] at hR
    subst hR
    simp [h3, h3', G9, Ak, Bh]
  simp [h3]
  refine Ao e3 (by rw [tc]; rfl) ?_
  simp [A5]
  by_cases h4 : p.st.l.length = (Ce c).length
  case neg =>
    have h4' : ¬ (p.st.l.length : Int) = (Ce c).length := by omega
    rw [if_pos (.inr h4)] at hR
    subst hR
    simp [h4, h4', G9, Ak, Bh]
  rw [if_neg (by omega)] at hR
  simp [h4, Bh]
  refine A4 e4 rfl ?_
  by_cases h5 : p.inn.l.any K6 = true
  · rw [if_pos (.inl h5)] at hR
    subst hR
    simp only [h5]
    simp [G9, Ak]
  simp only [Bool.not_eq_true] at h5
  simp only [h5]
  simp
  refine A4 e5 rfl ?_
  by_cases h6 : p.st.l.any K6 = true
  · rw [if_pos (.inr h6)] at hR
    subst hR
    simp only [h6]
    simp [G9, Ak]
  rw [if_neg (by simp only [h5]; simp only [Bool.not_eq_true] at h6; simp [h6])] at hR
  subst hR
  simp only [Bool.not_eq_true] at h6
  simp only [h6]
  simp [G9, Ak]
def Tn (c : Bf) (id n : Nat) (cap : Option Nat) : List AV := [.t (Aa c.nodes), .t (Ad c.names), .t (Ae c.mems), .t (Aw c.outs), .ls id 0 n cap]
theorem Yz {ns vs l : List Int} {i : Nat} (h : i < ns.length) (hv : i < vs.length) : H6 (ns.drop i) (vs.drop i) l = H6 (ns.drop (i + 1)) (vs.drop (i + 1)) (l.set (ns.getD i 0).toNat (vs.getD i 0)) := by
  rw [List.drop_eq_getElem_cons h, List.drop_eq_getElem_cons hv]
  simp only [H6]
  rw [Be h, Be hv]
theorem qAj {Q : AX → St → Prop} (c : Bf) (p : Pat) (ns : List Int) (cap : Option Nat) (n : Nat) (hn : n ≤ 1000000000) (hns : ns.length ≤ n) (hin : ∀ x ∈ ns, 0 ≤ x ∧ x < n) (hp : p.inn.l.length = ns.length) (R : List Int)
    (h0 : Q (.exit 0) ⟨[(2, .lp 2 0 0), (3, .t (.ip (tP p) 0)), (10, .t (.sl (Ah ns) (some ns.length) none)), (11, .t (tI ns.length)), (12, .t (tI ns.length)), (13, .t (tB false))], [(2, .bx (Tn c 1000000 n cap)), (1000000, .sl 68 1 (Az R))]⟩) :
    ∀ (k i : Nat) (l : List Int), k + i = ns.length → l.length = n → H6 (ns.drop i) (p.inn.l.drop i) l = R →
    run Tryz.prog Γ Jl Q ⟨[(2, .lp 2 0 0), (3, .t (.ip (tP p) 0)), (10, .t (.sl (Ah ns) (some ns.length) none)), (11, .t (tI ns.length)), (12, .t (tI i))], [(2, .bx (Tn c 1000000 n cap)), (1000000, .sl 68 1 (Az l))]⟩
  | 0, i, l, h, hl, hR => by
    refine Qv fun K hK => ?_
    have h2 : i = ns.length := by omega
    subst h2
    rw [List.drop_length] at hR
    simp only [H6] at hR
    subst hR
    simp
    exact h0
  | k + 1, i, l, h, hl, hR => by
    refine Qv fun K hK => ?_
    have h2 : i < ns.length := by omega
    have h3 : i < p.inn.l.length := by omega
    rw [Yz h2 h3] at hR
    have ih := qAj c p ns cap n hn hns hin hp R h0 k (i + 1) _ (by omega) (by simp [hl]) hR
    have e1 := ge1 (f := tI) h2
    have e2 := ge1 (f := tK) h3
    have hx := hin (ns.getD i 0) (by rw [Be h2]; exact List.getElem_mem h2)
    have hs : ∀ (j : Nat) (v : Int), (Az l).set j [tK v] = Az (l.set j v) := fun j v => Gu
    generalize ns.getD i 0 = x at *
    generalize p.inn.l.getD i 0 = v at *
    have hx2 : x.toNat < n := by omega
    simp (disch := omega) [h2, h3, A5, A9, e1, e2, A6, hx, hx2, hl, Tn, tP, tV, hs, hp]
    rw [hK]
    simpa [Tn, tP, tV] using ih
theorem qAk {Q : AX → St → Prop} (c : Bf) (p : Pat) (ns : List Int) (cap : Option Nat) (n : Nat) (hn : n ≤ 1000000000) (hns : ns.length ≤ n) (hin : ∀ x ∈ ns, 0 ≤ x ∧ x < n) (hp : p.st.l.length = ns.length) (R : List Int)
    (h0 : Q (.exit 2) ⟨[(2, .lp 2 0 0), (3, .t (.ip (tP p) 0)), (29, .t (.sl (Ah ns) (some ns.length) none)), (30, .t (tI ns.length)), (31, .t (tI ns.length)), (32, .t (tB false))], [(2, .bx (Tn c 1000000 n cap)), (1000000, .sl 68 1 (Az R))]⟩) :
    ∀ (k i : Nat) (l : List Int), k + i = ns.length → l.length = n → H6 (ns.drop i) (p.st.l.drop i) l = R →
    run Tryz.prog Γ Jm Q ⟨[(2, .lp 2 0 0), (3, .t (.ip (tP p) 0)), (29, .t (.sl (Ah ns) (some ns.length) none)), (30, .t (tI ns.length)), (31, .t (tI i))], [(2, .bx (Tn c 1000000 n cap)), (1000000, .sl 68 1 (Az l))]⟩
  | 0, i, l, h, hl, hR => by
    refine Qw fun K hK => ?_
    have h2 : i = ns.length := by omega
    subst h2
    rw [List.drop_length] at hR
    simp only [H6] at hR
    subst hR
    simp
    exact h0
  | k + 1, i, l, h, hl, hR => by
    refine Qw fun K hK => ?_
    have h2 : i < ns.length := by omega
    have h3 : i < p.st.l.length := by omega
    rw [Yz h2 h3] at hR
    have ih := qAk c p ns cap n hn hns hin hp R h0 k (i + 1) _ (by omega) (by simp [hl]) hR
    have e1 := ge1 (f := tI) h2
    have e2 := ge1 (f := tK) h3
    have hx := hin (ns.getD i 0) (by rw [Be h2]; exact List.getElem_mem h2)
    have hs : ∀ (j : Nat) (v : Int), (Az l).set j [tK v] = Az (l.set j v) := fun j v => Gu
    generalize ns.getD i 0 = x at *
    generalize p.st.l.getD i 0 = v at *
    have hx2 : x.toNat < n := by omega
    simp (disch := omega) [h2, h3, A5, A9, e1, e2, A6, hx, hx2, hl, Tn, tP, tV, hs, hp]
    rw [hK]
    simpa [Tn, tP, tV] using ih
theorem qFT (c : Bf) (hc : COk c) (p : Pat) (cap : Option Nat) (l : List Int) (hl : l.length = c.nodes.l.length) (h1 : p.inn.l.length = (Dn c).length) (h2 : p.st.l.length = (Ce c).length) :
    Hf Tryz.prog Γ 55 [(1000000, .sl 68 1 (Az l))] [.ag (Tn c 1000000 c.nodes.l.length cap), .t (.agg (tP p))] (.t (.tup [])) [(1000000, .sl 68 1 (Az (H6 (Ce c) p.st.l (H6 (Dn c) p.inn.l l))))] := by
  refine Pg q3K rfl ?_
  have hn := hc.nodes
  have g1 := fun Q h0 => qAj (Γ := Γ) (Q := Q) c p (Dn c) cap c.nodes.l.length hn (Uy c) (fun x hx => ⟨(Po x hx).1, (Po x hx).2.1⟩) h1 _ h0 (Dn c).length 0 l (by omega) hl rfl
  have g2 := fun Q h0 => qAk (Γ := Γ) (Q := Q) c p (Ce c) cap c.nodes.l.length hn (Jb c) (fun x hx => ⟨(Po x hx).1, (Po x hx).2.1⟩) h2 _ h0 (Ce c).length 0 (H6 (Dn c) p.inn.l l) (by omega) (by rw [Xk]; exact hl) rfl
  simp only [List.drop_zero] at g1 g2
  simp [Xs, Tn, tP, tV, Aa, Ad, Ae, Aw]
  refine Ao (q4m c hc) rfl ?_
  simp [A5]
  refine g1 _ ?_
  simp [Tn, Aa, Ad, Ae, Aw]
  refine Ao (q0P c hc) rfl ?_
  simp [A5]
  refine g2 _ ?_
  simp [Xt]
@[simp] theorem qH1 {s : Nat} {e : List T} : Dz s [e] = (e.length = s) := propext ⟨fun h => h e List.mem_cons_self, fun h x hx => by simp at hx; subst hx; exact h⟩
def Z0 (c : Bf) (nets : Sl Int) : List T := [Aa c.nodes, Ad c.names, Ae c.mems, Aw c.outs, tV nets]
def Gj (nets : List Int) (n : Int) : Int := if n < 0 ∨ (nets.length : Int) ≤ n then 2 else C2 (nets.getD n.toNat 0)
theorem q2X (c : Bf) (nets : Sl Int) (n : Int) (hl : nets.l.length ≤ 1000000000) : A8 Tryz.prog Γ 122 [.agg (Z0 c nets), tI n] (tK (Gj nets.l n)) := by
  refine Ac q2V rfl ?_
  generalize hR : Gj nets.l n = R
  unfold Gj at hR
  by_cases h1 : n < 0
  · rw [if_pos (.inl h1)] at hR
    subst hR
    simp [Is, Z0, Aa, Ad, Ae, Aw, tV, h1, It, Ak]
  by_cases h2 : (nets.l.length : Int) ≤ n
  · rw [if_pos (.inr h2)] at hR
    subst hR
    simp [Is, Z0, Aa, Ad, Ae, Aw, tV, h1, h2, A5, It, Ak]
  rw [if_neg (by omega)] at hR
  have h3 : n.toNat < nets.l.length := by omega
  have e := ge1 (f := tK) h3
  generalize nets.l.getD n.toNat 0 = v at *
  have h4 : n < nets.l.length := by omega
  simp (disch := omega) [Is, Z0, Aa, Ad, Ae, Aw, tV, h1, h2, h4, A5, A9, e]
  refine ⟨by omega, A4 (q2S v) rfl ?_⟩
  simp [It, Ak, hR]
def q0k (c : Bf) (nets : List Int) (n : Int) : Int := if (Eh c n.toNat).length = 1 then Rz (Gj nets ((Eh c n.toNat).getD 0 0)) else 2
def Ro (c : Bf) (nets : List Int) : List Int := c.outs.l.map (Gj nets)
def Fb (c : Bf) (nets : List Int) : List Int := (Ce c).map (q0k c nets)
def q4C (o s : Nat) : List AV := [.ls 24 0 o none, .ls 55 0 s none]
def q1U (o s : List Int) : List (Nat × Bj) := [(2, .bx [.t (.sl [] (some 0) (some true)), .t (.sl [] (some 0) (some true))]), (3, .bx (q4C o.length s.length)), (24, .sl 68 1 (Az o)), (55, .sl 68 1 (Az s))]
theorem N3 {l : List Int} {v : Int} : Az l ++ [[tK v]] = Az (l ++ [v]) := E8
theorem Dl {l : List Int} : (Az l).take l.length = Az l := Cf
theorem q91 {Q : AX → St → Prop} (c : Bf) (nets : Sl Int) (hl : nets.l.length ≤ 1000000000) (ho : c.outs.l.length ≤ 1000000000) (R : List Int)
    (h0 : Q (.exit 0) ⟨[(1, .t (.ip (Z0 c nets) 0)), (2, .lp 2 0 0), (3, .lp 3 0 0), (12, .t (Aw c.outs)), (13, .t (tI c.outs.l.length)), (14, .t (tI c.outs.l.length)), (15, .t (tB false))], q1U R []⟩) :
    ∀ (k i : Nat) (out : List Int), k + i = c.outs.l.length → out.length = i → out ++ (c.outs.l.drop i).map (Gj nets.l) = R →
    run Tryz.prog Γ Gk Q ⟨[(1, .t (.ip (Z0 c nets) 0)), (2, .lp 2 0 0), (3, .lp 3 0 0), (12, .t (Aw c.outs)), (13, .t (tI c.outs.l.length)), (14, .t (tI i))], q1U out []⟩
  | 0, i, out, h, hi, hR => by
    refine N1 fun K hK => ?_
    have h2 : i = c.outs.l.length := by omega
    rw [List.drop_of_length_le (by omega), List.map_nil, List.append_nil] at hR
    subst hR
    simp [q1U, q4C, h2]
    simpa [q1U, q4C] using h0
  | k + 1, i, out, h, hi, hR => by
    refine N1 fun K hK => ?_
    have h2 : i < c.outs.l.length := by omega
    rw [List.drop_eq_getElem_cons h2, List.map_cons] at hR
    have e := ge1 (f := tI) h2
    rw [Be h2] at e
    generalize c.outs.l[i] = n at *
    have ih := q91 c nets hl ho R h0 k (i + 1) (out ++ [Gj nets.l n]) (by omega) (by simp [hi]) (by rw [← hR]; simp)
    have vs := N3 (l := out) (v := Gj nets.l n)
    have vt : (Az out).take i = Az out := by rw [← hi]; exact Dl
    have hv := q2X (Γ := Γ) c nets n hl
    simp (disch := omega) [q1U, q4C, h2, Aw, A5, A9, e, hi, A6, Z0, Aa, Ad, Ae, tV]
    refine A4 hv rfl ?_
    simp (disch := omega) [vt, vs, A5, A9, hi, A6]
    refine ⟨by omega, ?_⟩
    rw [hK]
    simpa [q1U, q4C, hi, Z0, Aa, Ad, Ae, Aw, tV] using ih
theorem q7H {Q : AX → St → Prop} (c : Bf) (hc : COk c) (nets : Sl Int) (hl : nets.l.length ≤ 1000000000) (ns : List Int) (hns : ns.length ≤ 1000000000) (hin : ∀ n ∈ ns, 0 ≤ n ∧ n < c.nodes.l.length) (o R : List Int)
    (h0 : Q (.exit 2) ⟨[(1, .t (.ip (Z0 c nets) 0)), (2, .lp 2 0 0), (3, .lp 3 0 0), (29, .t (.sl (Ah ns) (some ns.length) none)), (30, .t (tI ns.length)), (31, .t (tI ns.length)), (32, .t (tB false))], q1U o R⟩) :
    ∀ (k i : Nat) (out : List Int), k + i = ns.length → out.length = i → out ++ (ns.drop i).map (q0k c nets.l) = R →
    run Tryz.prog Γ Gm Q ⟨[(1, .t (.ip (Z0 c nets) 0)), (2, .lp 2 0 0), (3, .lp 3 0 0), (29, .t (.sl (Ah ns) (some ns.length) none)), (30, .t (tI ns.length)), (31, .t (tI i))], q1U o out⟩
  | 0, i, out, h, hi, hR => by
    refine N2 fun K hK => ?_
    have h2 : i = ns.length := by omega
    rw [List.drop_of_length_le (by omega), List.map_nil, List.append_nil] at hR
    subst hR
    simp [q1U, q4C, h2]
    simpa [q1U, q4C] using h0
  | k + 1, i, out, h, hi, hR => by
    refine N2 fun K hK => ?_
    have h2 : i < ns.length := by omega
    rw [List.drop_eq_getElem_cons h2, List.map_cons] at hR
    have e := ge1 (f := tI) h2
    have hn := hin ns[i] (List.getElem_mem h2)
    rw [Be h2] at e
    generalize ns[i] = n at *
    have ih := q7H c hc nets hl ns hns hin o R h0 k (i + 1) (out ++ [q0k c nets.l n]) (by omega) (by simp [hi]) (by rw [← hR]; simp)
    have vs := N3 (l := out) (v := q0k c nets.l n)
    have vt : (Az out).take i = Az out := by rw [← hi]; exact Dl
    have hnn : n.toNat < c.nodes.l.length := by omega
    have hget : (B1 D4 c.nodes.l)[n.toNat]?.getD [] = D4 (c.nodes.l.getD n.toNat Nd.d) := by
      rw [Du Nd.d hnn]; simp [List.getD_eq_getElem?_getD]
    have hxi := hc.inn _ (List.getElem_mem hnn)
    have hgd : c.nodes.l.getD n.toNat Nd.d = c.nodes.l[n.toNat] := by simp [List.getD_eq_getElem?_getD, hnn]
    have hia : Eh c n.toNat = (c.nodes.l.getD n.toNat Nd.d).inn.l := rfl
    have hnl : q0k c nets.l n = if (Eh c n.toNat).length = 1 then Rz (Gj nets.l ((Eh c n.toNat).getD 0 0)) else 2 := rfl
    rw [← hgd] at hxi
    rw [hia] at hnl
    generalize c.nodes.l.getD n.toNat Nd.d = x at *
    generalize q0k c nets.l n = v at *
    obtain ⟨h3, h4⟩ := hn
    by_cases h1 : x.inn.l.length = 1
    · rw [if_pos h1] at hnl
      have h10 : 0 < x.inn.l.length := by omega
      have e0 := ge1 (f := tI) h10
      have hv := q2X (Γ := Γ) c nets (x.inn.l.getD 0 0) hl
      generalize x.inn.l.getD 0 0 = m at *
      simp (disch := omega) [q1U, q4C, h2, Aw, A5, A9, e, hi, A6, Z0, Aa, Ad, Ae, tV, h3, h4, Ab, Bg, hget, D4, h1, e0, h10]
      refine A4 hv rfl ?_
      simp
      refine A4 (Tz _) rfl ?_
      rw [← hnl]
      simp (disch := omega) [vt, vs, A5, A9, hi, A6]
      refine ⟨by omega, ?_⟩
      rw [hK]
      simpa [q1U, q4C, hi, Z0, Aa, Ad, Ae, Aw, tV] using ih
    · rw [if_neg h1] at hnl
      subst hnl
      have h1i : ¬ (x.inn.l.length : Int) = 1 := by omega
      simp (disch := omega) [q1U, q4C, h2, Aw, A5, A9, e, hi, A6, Z0, Aa, Ad, Ae, tV, h3, h4, Ab, Bg, hget, D4, h1, h1i, Bh, vt, vs]
      refine ⟨by omega, ?_⟩
      rw [hK]
      simpa [q1U, q4C, hi, Z0, Aa, Ad, Ae, Aw, tV] using ih
theorem q6B (ty : Nat) (es : List (List T)) (cap : Option Nat) (hw : Dz 1 es) : Hf Tryz.prog Γ 74 [(1000000, .sl ty 1 es)] [.ls 1000000 0 es.length cap] (.ls 1000000 0 es.length (some es.length)) [(1000000, .sl ty 1 es)] := by
  refine Pg Ve rfl ?_
  simp [Ku, Kv, qBF, hw]
def tVs (l : List Int) : T := .sl (Az l) (some l.length) none
theorem Z1 (c : Bf) (hc : COk c) (nets : Sl Int) (hl : nets.l.length ≤ 1000000000) : A8 Tryz.prog Γ 58 [.agg (Z0 c nets)] (.agg [tVs (Ro c nets.l), tVs (Fb c nets.l)]) := by
  refine Ac q0j rfl ?_
  have hn := hc.nodes
  have ho := hc.outs
  have hs := Jb c
  have g1 := fun Q h0 => q91 (Γ := Γ) (Q := Q) c nets hl ho (Ro c nets.l) h0 c.outs.l.length 0 [] (by omega) rfl (by simp [Ro])
  have g2 := fun Q h0 => q7H (Γ := Γ) (Q := Q) c hc nets hl (Ce c) (by omega) (fun x hx => ⟨(Po x hx).1, (Po x hx).2.1⟩) (Ro c nets.l) (Fb c nets.l) h0 (Ce c).length 0 [] (by omega) rfl (by simp [Fb])
  have l1 : (Ro c nets.l).length = c.outs.l.length := by simp [Ro]
  have l2 : (Fb c nets.l).length = (Ce c).length := by simp [Fb]
  have t1 := Dl (l := Ro c nets.l)
  have t2 := Dl (l := Fb c nets.l)
  generalize Ro c nets.l = O at *
  generalize Fb c nets.l = S at *
  simp [S5, Z0, Aa, Ad, Ae, Aw, tV, A5]
  refine g1 _ ?_
  simp [q1U, q4C, Z0, Aa, Ad, Ae, Aw, tV]
  refine Ao (q0P c hc) rfl ?_
  simp [A5]
  refine g2 _ ?_
  have hc1 := q6B (Γ := Γ) 68 (Az O) none A9
  have hc2 := q6B (Γ := Γ) 68 (Az S) none A9
  simp only [A5] at hc1 hc2
  simp [q1U, q4C]
  refine ⟨_, hc1, ?_⟩
  simp
  refine ⟨_, hc2, ?_⟩
  simp [S7, tVs, A5, Ak, Ai, t1, t2]
def nd (c : Bf) (n : Int) : Nd := c.nodes.l.getD n.toNat Nd.d
theorem q2Y {c : Bf} {n : Int} (h0 : 0 ≤ n) (h : n < c.nodes.l.length) : (B1 D4 c.nodes.l)[n.toNat]?.getD [] = D4 (nd c n) := by
  rw [Du Nd.d (by omega)]; simp [nd, List.getD_eq_getElem?_getD]
theorem qA4 {c : Bf} {n : Int} (h0 : 0 ≤ n) (h : n < c.nodes.l.length) : nd c n ∈ c.nodes.l := by
  have hi : n.toNat < c.nodes.l.length := by omega
  have : nd c n = c.nodes.l[n.toNat] := by simp [nd, List.getD_eq_getElem?_getD, hi]
  rw [this]; exact List.getElem_mem hi
def q2Z : AV := .t (.sl [] (some 0) (some true))
def q92 (c : Bf) (n : Nat) (nets inb : List Int) : List (Nat × Bj) := [(4, .bx [q2Z, q2Z]), (9, .bx (Tn c 34 n (some n))), (34, .sl 68 1 (Az nets)), (39, .sl 68 1 (Az inb))]
def q6C (c : Bf) (n : Nat) (x : Nd) (nets inb : List Int) : List (Nat × Bj) := [(4, .bx [q2Z, q2Z]), (9, .bx (Tn c 34 n (some n))), (13, .bx ((D4 x).map .t)), (34, .sl 68 1 (Az nets)), (39, .sl 68 1 (Az inb))]
theorem q93 {Q : AX → St → Prop} (c : Bf) (n : Nat) (hn : n ≤ 1000000000) (x : Nd) (hx : x.inn.l.length ≤ 1000000) (hin : ∀ k ∈ x.inn.l, 0 ≤ k ∧ k < n) (nets : List Int) (hl : nets.length = n) (nn : Int) (t40 t41 t42 : T) (R : List Int)
    (h0 : ∀ X : List Int, X.take x.inn.l.length = R → R.length = x.inn.l.length → Q (.exit 2) ⟨[(4, .lp 4 0 0), (9, .lp 9 0 0), (10, .ls 39 0 x.inn.l.length none), (12, .t (tI nn)), (13, .lp 13 0 0), (40, .t t40), (41, .t t41), (42, .t t42), (59, .t (Aw x.inn)), (60, .t (tI x.inn.l.length)), (61, .t (tI x.inn.l.length)), (62, .t (tB false))], q6C c n x nets X⟩) :
    ∀ (k i : Nat) (X : List Int), k + i = x.inn.l.length → i ≤ X.length → X.take i ++ (x.inn.l.drop i).map (fun k => nets.getD k.toNat 0) = R →
    run Tryz.prog Γ W0 Q ⟨[(4, .lp 4 0 0), (9, .lp 9 0 0), (10, .ls 39 0 i none), (12, .t (tI nn)), (13, .lp 13 0 0), (40, .t t40), (41, .t t41), (42, .t t42), (59, .t (Aw x.inn)), (60, .t (tI x.inn.l.length)), (61, .t (tI i))], q6C c n x nets X⟩
  | 0, i, X, h, hi, hR => by
    refine Zd fun K hK => ?_
    have h2 : i = x.inn.l.length := by omega
    subst h2
    rw [List.drop_length, List.map_nil, List.append_nil] at hR
    have := h0 X hR (by rw [← hR, List.length_take]; omega)
    simp [q6C, Tn, D4, q2Z, Aa, Ad, Ae, Aw]
    simpa [q6C, Tn, D4, q2Z, Aa, Ad, Ae, Aw] using this
  | k + 1, i, X, h, hi, hR => by
    refine Zd fun K hK => ?_
    have h2 : i < x.inn.l.length := by omega
    rw [List.drop_eq_getElem_cons h2, List.map_cons] at hR
    have e := ge1 (f := tI) h2
    have hq := hin _ (List.getElem_mem h2)
    rw [Be h2] at e
    generalize x.inn.l[i] = q at *
    have hq2 : q.toNat < nets.length := by omega
    have e2 := ge1 (f := tK) hq2
    have hti : (X.take i).length = i := by rw [List.length_take]; omega
    generalize nets.getD q.toNat 0 = v at *
    have ih := q93 c n hn x hx hin nets hl nn t40 t41 t42 R h0 k (i + 1) (X.take i ++ [v]) (by omega) (by simp [hti]) (by rw [List.take_of_length_le (by simp [hti]), ← hR]; simp)
    have vs : Az (X.take i) ++ [[tK v]] = Az (X.take i ++ [v]) := N3
    have vt : (Az X).take i = Az (X.take i) := q74
    have hxl : (Az (X.take i)).length = i := by rw [A5]; exact hti
    simp (disch := omega) [q6C, Tn, D4, q2Z, Aa, Ad, Ae, Aw, h2, A5, A9, e, e2, hq, hl, A6, vt, vs, hti, hxl]
    refine ⟨by omega, ?_⟩
    rw [hK]
    simpa [q6C, Tn, D4, q2Z, Aa, Ad, Ae, Aw] using ih
structure ROk (c : Bf) : Prop where
  ok : COk c
  inn : ∀ x ∈ c.nodes.l, x.inn.l.length ≤ 16 ∧ ∀ k ∈ x.inn.l, 0 ≤ k ∧ k < c.nodes.l.length
theorem qAl {c : Bf} {nets : List Int} {n : Int} (h : ∀ v ∈ nets, V4 v) : ∀ v ∈ Nz c nets n, V4 v := by
  intro v hv
  unfold Nz at hv
  split at hv
  · rcases List.mem_or_eq_of_mem_set hv with hv | rfl
    · exact h v hv
    · refine qDh fun u hu => ?_
      obtain ⟨q, _, rfl⟩ := List.mem_map.1 hu
      exact q62 h _
  · exact h v hv
theorem qAm {Q : AX → St → Prop} (hΓ : GOk Γ) (c : Bf) (H : ROk c) (ord : List Int) (ho : ord.length ≤ 1000000000) (hin : ∀ n ∈ ord, 0 ≤ n ∧ n < c.nodes.l.length) (R : List Int)
    (h0 : ∀ (m : Nat) (inb : List Int), Q (.exit 0) ⟨[(4, .lp 4 0 0), (9, .lp 9 0 0), (10, .ls 39 0 m none), (40, .t (.sl (Ah ord) none none)), (41, .t (tI ord.length)), (42, .t (tI ord.length)), (43, .t (tB false))], q92 c c.nodes.l.length R inb⟩) :
    ∀ (k i : Nat) (nets : List Int) (m : Nat) (inb : List Int), k + i = ord.length → nets.length = c.nodes.l.length → (∀ v ∈ nets, V4 v) → q2Q c (ord.drop i) nets = R →
    run Tryz.prog Γ W1 Q ⟨[(4, .lp 4 0 0), (9, .lp 9 0 0), (10, .ls 39 0 m none), (40, .t (.sl (Ah ord) none none)), (41, .t (tI ord.length)), (42, .t (tI i))], q92 c c.nodes.l.length nets inb⟩
  | 0, i, nets, m, inb, h, hl, hv, hR => by
    refine Ze fun K hK => ?_
    have h2 : i = ord.length := by omega
    subst h2
    rw [List.drop_length] at hR
    have hR' : nets = R := hR
    subst hR'
    have := h0 m inb
    simp [q92, Tn, q2Z, Aa, Ad, Ae, Aw]
    simpa [q92, Tn, q2Z, Aa, Ad, Ae, Aw] using this
  | k + 1, i, nets, m, inb, h, hl, hv, hR => by
    refine Ze fun K hK => ?_
    have h2 : i < ord.length := by omega
    rw [List.drop_eq_getElem_cons h2] at hR
    have hR : q2Q c (ord.drop (i + 1)) (Nz c nets ord[i]) = R := hR
    have e := ge1 (f := tI) h2
    have hn := hin _ (List.getElem_mem h2)
    rw [Be h2] at e
    generalize ord[i] = n at *
    have ih := fun m inb => qAm hΓ c H ord ho hin R h0 k (i + 1) (Nz c nets n) m inb (by omega) (by rw [q1J]; exact hl) (qAl hv) hR
    have hcn := H.ok.nodes
    have hget := q2Y hn.1 hn.2
    have hmem := qA4 hn.1 hn.2
    have hk : (nd c n).k = As c n.toNat := rfl
    have hxi := H.inn _ hmem
    have hkk := H.ok.kind _ hmem
    have hinv : F5 c nets n.toNat = (nd c n).inn.l.map fun k => nets.getD k.toNat 0 := rfl
    have hlR : (F5 c nets n.toNat).length = (nd c n).inn.l.length := by rw [hinv]; simp
    have hvR : ∀ v ∈ F5 c nets n.toNat, V4 v := fun v hv' => by
      rw [hinv] at hv'
      obtain ⟨q, hq, rfl⟩ := List.mem_map.1 hv'
      exact q62 hv _
    have hev := fun cap nl => qBY hΓ (nd c n).k hkk (F5 c nets n.toNat) cap nl (by rw [hlR]; omega) hvR
    have hcb := q40 (Γ := Γ) (nd c n).k
    have hst : Nz c nets n = if C3 (nd c n).k then nets.set n.toNat (Oz (nd c n).k (F5 c nets n.toNat)) else nets := by rw [hk]; rfl
    have hlp := fun Q h0 => q93 (Γ := Γ) (Q := Q) c c.nodes.l.length hcn (nd c n) (by omega) hxi.2 nets hl n (.sl (Ah ord) none none) (tI ord.length) (tI i) (F5 c nets n.toNat) h0 (nd c n).inn.l.length 0 inb (by omega) (by omega) (by rw [hinv]; simp)
    have hcd : decide (1 ≤ (nd c n).k ∧ (nd c n).k ≤ 13) = C3 (nd c n).k := rfl
    rw [hcd] at hcb
    rw [hst] at ih
    generalize F5 c nets n.toNat = RV at *
    generalize nd c n = x at *
    obtain ⟨hn0, hn1⟩ := hn
    have hn2 : n.toNat < c.nodes.l.length := by omega
    have hn3 : n.toNat < nets.length := by omega
    simp (disch := omega) [q92, Tn, q2Z, Aa, Ad, Ae, Aw, h2, A5, A9, e, hn0, hn1, Ab, Bg, hget, D4]
    refine A4 hcb rfl ?_
    by_cases hc : C3 x.k = true
    · rw [if_pos hc] at ih
      simp [hc, A5]
      simp only [q6C, Tn, D4, q2Z, Aa, Ad, Ae, Aw, List.map_cons, List.map_nil] at hlp
      refine hlp _ fun X hX hXl => ?_
      have hXR : (Az X).take x.inn.l.length = Az RV := by rw [q74, hX]
      simp (disch := omega)
      refine A4 (hev none none) (by simp [Ai, hXR]) ?_
      have hs : (Az nets).set n.toNat [tK (Oz x.k RV)] = Az (nets.set n.toNat (Oz x.k RV)) := Gu
      generalize Oz x.k RV = v at *
      simp (disch := omega) [hn0, hn1, hn2, hn3, A5, hl, hs, A6]
      rw [hK]
      simpa [q92, Tn, q2Z, Aa, Ad, Ae, Aw] using ih _ X
    · rw [if_neg hc] at ih
      simp only [Bool.not_eq_true] at hc
      simp only [hc]
      simp (disch := omega) [A6]
      rw [hK]
      simpa [q92, Tn, q2Z, Aa, Ad, Ae, Aw] using ih m inb
def Ww (c : Bf) (p : Pat) : Int := if D3 c ≠ 0 then D3 c else W7 c p
theorem q7p {c : Bf} (hc : COk c) (h : D3 c = 0) : ROk c := by
  have hs := (q0V h).1
  exact ⟨hc, fun x hx => ⟨(Md hs).2.1 x hx, q8r hs x hx⟩⟩
theorem q3L : ∀ {ns vs nets : List Int}, (∀ v ∈ vs, V4 v) → (∀ v ∈ nets, V4 v) → ∀ v ∈ H6 ns vs nets, V4 v
  | [], vs, nets, _, h => by cases vs <;> exact h
  | _ :: _, [], nets, _, h => h
  | n :: ns, v :: vs, nets, hv, h => by
    simp only [H6]
    refine q3L (fun u hu => hv u (List.mem_cons_of_mem _ hu)) fun u hu => ?_
    rcases List.mem_or_eq_of_mem_set hu with hu | rfl
    · exact h u hu
    · exact hv _ List.mem_cons_self
def q4D (c : Bf) (p : Pat) : T := if Ww c p = 0 then .tup [.agg [tVs (Ro c (F6 c p.inn.l p.st.l)), tVs (Fb c (F6 c p.inn.l p.st.l))], .sl (Az (F6 c p.inn.l p.st.l)) (some c.nodes.l.length) none, tI 0] else .tup [.agg [.sl [] (some 0) (some true), .sl [] (some 0) (some true)], .sl [] (some 0) (some true), tI (Ww c p)]
theorem q6D (hΓ : GOk Γ) (c : Bf) (hc : COk c) (hn : c.nodes.l.length ≤ 19) (p : Pat) (hp : p.inn.l.length ≤ 1000000000 ∧ p.st.l.length ≤ 1000000000) (hv : (∀ v ∈ p.inn.l, 0 ≤ v) ∧ ∀ v ∈ p.st.l, 0 ≤ v) :
    Au Tryz.prog Γ 15 [.agg (tC c), .agg (tP p)] (q4D c p) := by
  refine D7 q7o rfl ?_
  generalize hR : q4D c p = RR
  unfold q4D at hR
  simp [q4l, tC, Aa, Ad, Ae, Aw, tP, tV]
  refine A4 (qA3 hΓ c hc hn) rfl ?_
  by_cases h1 : D3 c = 0
  case neg =>
    have he : Ww c p = D3 c := by unfold Ww; rw [if_pos h1]
    rw [he, if_neg h1] at hR
    subst hR
    simp [h1, W2, Ai, Ak]
  have he : Ww c p = W7 c p := by unfold Ww; rw [if_neg (by simp [h1])]
  rw [he] at hR
  simp [h1]
  refine A4 (qBZ c hc p hp) rfl ?_
  by_cases h2 : W7 c p = 0
  case neg =>
    rw [if_neg h2] at hR
    subst hR
    simp [h2, W2, Ai, Ak]
  rw [if_pos h2] at hR
  obtain ⟨l1, l2, v1, v2⟩ : p.inn.l.length = (Dn c).length ∧ p.st.l.length = (Ce c).length ∧ (∀ v ∈ p.inn.l, V4 v) ∧ ∀ v ∈ p.st.l, V4 v := by
    unfold W7 at h2
    split at h2
    · cases h2
    split at h2
    · cases h2
    split at h2
    · cases h2
    rename_i a b d
    refine ⟨by omega, by omega, fun v hvm => ⟨hv.1 v hvm, ?_⟩, fun v hvm => ⟨hv.2 v hvm, ?_⟩⟩
    · have : ¬ p.inn.l.any K6 = true := fun h => d (.inl h)
      rw [List.any_eq_true] at this
      have h3 : ¬ K6 v = true := fun h => this ⟨v, hvm, h⟩
      simp [K6] at h3; omega
    · have : ¬ p.st.l.any K6 = true := fun h => d (.inr h)
      rw [List.any_eq_true] at this
      have h3 : ¬ K6 v = true := fun h => this ⟨v, hvm, h⟩
      simp [K6] at h3; omega
  have H := q7p hc h1
  have hzl : (List.replicate c.nodes.l.length (0 : Int)).length = c.nodes.l.length := by simp
  have hload := qFT (Γ := Γ) c hc p (some c.nodes.l.length) (List.replicate c.nodes.l.length 0) hzl l1 l2
  have hz : List.replicate c.nodes.l.length [T.v (Value.int .u8 0)] = Az (List.replicate c.nodes.l.length 0) := by simp [Av]
  have hL : H6 (Ce c) p.st.l (H6 (Dn c) p.inn.l (List.replicate c.nodes.l.length 0)) = Ur c p.inn.l p.st.l := rfl
  rw [hL] at hload
  have hol : (Ja c).length = c.nodes.l.length := by rw [(Tv c).1.length_eq, Ik]
  have ho := fun Q h0 => qAm (Γ := Γ) (Q := Q) hΓ c H (Ja c) (by omega) (fun n hn => by rw [(Tv c).1.mem_iff, Q7] at hn; exact hn) (F6 c p.inn.l p.st.l) h0 (Ja c).length 0 (Ur c p.inn.l p.st.l) 0 [] (by omega) Pn (q3L v2 (q3L v1 (fun v hv => by rw [(List.mem_replicate.1 hv).2]; simp [V4]))) rfl
  have hnl : (F6 c p.inn.l p.st.l).length = c.nodes.l.length := by unfold F6; rw [q0Y, Pn]
  have hll : (Ur c p.inn.l p.st.l).length = c.nodes.l.length := Pn
  have hobs := Z1 (Γ := Γ) c hc ⟨F6 c p.inn.l p.st.l, some c.nodes.l.length, none⟩ (by simp only [hnl]; omega)
  have htk : (Az (F6 c p.inn.l p.st.l)).take c.nodes.l.length = Az (F6 c p.inn.l p.st.l) := by rw [← hnl]; exact Dl
  simp only at hobs
  generalize F6 c p.inn.l p.st.l = NL at *
  generalize Ur c p.inn.l p.st.l = LL at *
  simp [h2, Ab]
  refine ⟨by omega, ?_⟩
  rw [hz]
  refine ⟨_, _, hload, ?_⟩
  simp [A5, hll, hol]
  simp only [hol] at ho
  refine ho _ fun m inb => ?_
  simp [q92, Tn, q2Z, Aa, Ad, Ae, Aw]
  refine A4 hobs (by simp [Ai, htk, Z0, Aa, Ad, Ae, Aw, tV]) ?_
  subst hR
  simp [W2, Ai, htk, tVs]
end Go.Lg
namespace Go.Lg
open Go
section
variable {P : Program} {Γ : Tables} {Q : AX → St → Prop} {s : St}
/- probecard/probecardlaw06.taken (function 51) -/
abbrev q0l : IC := .gh (.seq (.seq (.reg [om 9 8, om 10 1, od 11 (.bin .lss (tm 9) (tm 10))] [kp [0, 1, 2, 7, 8, 11] [19]]) (.cond (tm 11) .skip (.exit 0))) (.seq (.block 1 (.seq (.reg [om 14 0, od 15 (le 0 14), od 16 (.bin .eql (tm 15) (ki 0))] [kp
 [0, 1, 2, 7, 8, 16] [19]]) (.cond (tm 16) (.reg [om 17 7, od 18 (.bsl true 68 1 [(ku 2)]), od 19 (.app false 68 1 (tm 17) (tm 18)), om 7 19] [kp [0, 1, 2, 7, 8] [19]]) (.reg [om 20 7, om 21 0, om 22 8, om 23 0, od 24 (le 0 23), od
 25 (.bin .rem (tm 22) (tm 24)), od 26 (ia 1 21 25), od 27 (ld 1 26), om 28 2, od 29 (.bin .rem (tm 27) (tm 28)), od 30 (.bsl true 68 1 [(tm 29)]), oz 31 (.app false 68 1 (tm 20) (tm 30)) 19, om 7 31] [kp [0, 1, 2, 7, 8] [19]]))))
 (.reg [om 12 8, od 13 (.bin .add (tm 12) (ki 1)), om 8 13] [kp [0, 1, 2, 7, 8] [19]]))) [kp [0, 1, 2, 7, 8] [19]]
def O7 : IC := .loop q0l
abbrev q0m : IC := (.seq (.reg [od 6 (.mv kN)] [kp [0, 1, 2] []]) (.seq (.reg [od 7 (.mv kN)] [.nl 7 19 68 1, kp [0, 1, 2, 7] [19]]) (.seq (.seq (.reg [od 8 (.mv (ki 0))] [kp [0, 1, 2, 7, 8] [19]]) (.block 0 O7)) (.seq (.reg [om 32 7, om
 6 32] [kp [6] [19]]) .ret))))
theorem Uz (h : ∀ K : St → Prop, K = run P Γ O7 Q → run P Γ q0l (An K Q) s) : run P Γ O7 Q s := Af h
def q0n : List RV := [.tmp 6]
/- probecard/probecardlaw06.count (function 52) -/
abbrev q0o : IC := .gh (.seq (.seq (.reg [om 7 6, od 8 (fa 0 2), od 9 (ld 1 8), od 10 (le 0 9), od 11 (.bin .lss (tm 7) (tm 10))] [kp [1, 2, 5, 6, 11] []]) (.cond (tm 11) .skip (.exit 0))) (.seq (.block 1 (.seq (.reg [od 14 (fa 0 2), od 15 (ld 1 14),
 om 16 6, od 17 (ia 4 15 16), od 18 (fa 0 17), od 19 (ld 1 18), om 20 1, od 21 (.bin .eql (tm 19) (tm 20))] [kp [1, 2, 5, 6, 21] []]) (.cond (tm 21) (.reg [om 22 5, od 23 (.bin .add (tm 22) (ki 1)), om 5 23] [kp [1, 2, 5, 6] []])
 .skip))) (.reg [om 12 6, od 13 (.bin .add (tm 12) (ki 1)), om 6 13] [kp [1, 2, 5, 6] []]))) [kp [1, 2, 5, 6] []]
def O8 : IC := .loop q0o
abbrev q0p : IC := (.seq (.reg [od 2 (.box true (tm 0)), od 4 (.mv (ki 0))] [kp [1, 2] []]) (.seq (.reg [od 5 (.mv (ki 0))] [kp [1, 2, 5] []]) (.seq (.seq (.reg [od 6 (.mv (ki 0))] [kp [1, 2, 5, 6] []]) (.block 0 O8)) (.seq (.reg [om 24
 5, om 4 24] [kp [4] []]) .ret))))
theorem V0 (h : ∀ K : St → Prop, K = run P Γ O8 Q → run P Γ q0o (An K Q) s) : run P Γ O8 Q s := Af h
def q0q : List RV := [.tmp 4]
/- (probecard/probecardlaw06.P).Of (function 14) -/
abbrev q1p : IC := (.seq (.reg [od 2 (.box true (tm 0)), od 3 (.box true (tm 1)), od 4 (.alloc false [(.slice none 0 0), (.slice none 0 0)])] [kp [2, 3, 4] [4, 9019, 14019]]) (.seq (.reg [od 5 (fa 0 2), od 6 (.ldT 1 false (tm 5)), od 7 (.ldT 4 true
 (tm 3)), od 8 (.callT 52 [(tm 7), (ku 0)]), od 9 (.ncall 51 [(tm 6), (tm 8), (ku 4)] 9000), od 10 (fa 1 2), od 11 (.ldT 1 false (tm 10)), od 12 (.ldT 4 true (tm 3)), od 13 (.callT 52 [(tm 12), (ku 14)]), od 14 (.ncall 51 [(tm 11),
 (tm 13), (ku 3)] 14000), od 15 (.build [(1, (tm 9)), (1, (tm 14))]), on (.stR 4 2 (tm 4) (tm 15))] [kp [4] [4, 9019, 14019]]) .ret))
def q1q : List RV := [.cell 4 2 true]
/- probecard/probecardlaw06.Same (function 19) -/
abbrev q1r : IC := .gh (.seq (.seq (.reg [om 11 5, om 12 0, od 13 (le 0 12), od 14 (.bin .lss (tm 11) (tm 13))] [kp [0, 1, 5, 14] []]) (.cond (tm 14) .skip (.exit 0))) (.seq (.block 1 (.seq (.reg [om 17 0, om 18 5, od 19 (ia 1 17 18), od 20 (ld 1
 19), om 21 1, om 22 5, od 23 (ia 1 21 22), od 24 (ld 1 23), od 25 (.bin .neq (tm 20) (tm 24))] [kp [0, 1, 5, 25] []]) (.cond (tm 25) (.seq (.reg [od 4 (.mv (ki 1))] [kp [4] []]) .ret) .skip))) (.reg [om 15 5, od 16 (.bin .add (tm
 15) (ki 1)), om 5 16] [kp [0, 1, 5] []]))) [kp [0, 1, 5] []]
def Q8 : IC := .loop q1r
abbrev Wx : IC := (.seq (.reg [od 4 (.mv (ki 0))] [kp [0, 1] []]) (.seq (.seq (.reg [om 6 0, od 7 (le 0 6), om 8 1, od 9 (le 0 8), od 10 (.bin .neq (tm 7) (tm 9))] [kp [0, 1, 10] []]) (.cond (tm 10) (.seq (.reg [od 4 (.mv (ki 1))] [kp [4] []]) .ret)
 .skip)) (.seq (.seq (.reg [od 5 (.mv (ki 0))] [kp [0, 1, 5] []]) (.block 0 Q8)) (.seq (.reg [od 4 (.mv (ki 0))] [kp [4] []]) .ret))))
theorem W8 (h : ∀ K : St → Prop, K = run P Γ Q8 Q → run P Γ q1r (An K Q) s) : run P Γ Q8 Q s := Af h
def Q9 : List RV := [.tmp 4]
/- probecard/probecardlaw06.example (function 68) -/
abbrev Xv : IC := (.seq (.reg [od 0 (.alloc false [(.slice none 0 0), (.slice none 0 0), (.slice none 0 0), (.slice none 0 0)])] [kp [0] [0]]) (.seq (.reg [od 1 (.build [(1, (ku 0)), (1, kN), (1, (ki 0)), (1, (ki 0))]), od 2 (.bsl true 3 1 [(ki
 3)]), od 3 (.build [(1, (ku 14)), (1, (tm 2)), (1, (ki 0)), (1, (ki 0))]), od 4 (.bsl true 3 1 [(ki 0)]), od 5 (.build [(1, (ku 4)), (1, (tm 4)), (1, (ki 0)), (1, (ki 0))]), od 6 (.bsl true 3 1 [(ki 1), (ki 2)]), od 7 (.build [(1,
 (ku 5)), (1, (tm 6)), (1, (ki 0)), (1, (ki 0))]), od 8 (.bsl true 3 1 [(ki 0), (ki 2)]), od 9 (.build [(1, (ku 12)), (1, (tm 8)), (1, (ki 0)), (1, (ki 0))]), od 10 (.bsl true 3 1 [(ki 4)]), od 11 (.build [(1, (ku 13)), (1, (tm
 10)), (1, (ki 0)), (1, (ki 0))]), od 12 (.bsl true 104 4 [(tm 1), (tm 3), (tm 5), (tm 7), (tm 9), (tm 11)]), od 13 (.bsl true 9 1 [(.const (sV [97])), (.const (sV [113])), (.const (sV [110])), (.const (sV [103])), (.const (sV
 [116])), (.const (sV [98]))]), od 14 (.bsl true 3 1 [(ki 3), (ki 5)]), od 15 (.build [(1, (tm 12)), (1, (tm 13)), (1, kN), (1, (tm 14))]), on (.store 4 (tm 0) (tm 15))] [kp [0] [0]]) .ret))
def Xw : List RV := [.cell 0 4 true]
/- probecard/probecardlaw06.lives (function 21) -/
abbrev q0r : IC := .gh (.seq (.seq (.reg [om 25 7, od 26 (.bin .lss (tm 25) (ki 3))] [kp [1, 2, 3, 4, 5, 6, 7, 26] [1]]) (.cond (tm 26) .skip (.exit 0))) (.seq (.block 1 (.seq (.reg [om 30 2, om 31 7, od 32 (ia 1 30 31), od 33 (ld 1 32), od 34 (.call
 69 [(tm 33)]), om 29 34, od 35 (ex 29 0), od 36 (ex 29 1), om 8 35, om 9 36] [kp [1, 2, 3, 4, 5, 6, 7, 8] [1]]) (.seq (.reg [om 38 3, om 39 7, od 40 (ia 1 38 39), od 41 (ld 1 40), od 42 (.call 69 [(tm 41)]), om 37 42, od 43 (ex 37
 0), od 44 (ex 37 1), om 10 43, om 11 44] [kp [1, 2, 3, 4, 5, 6, 7, 8, 10] [1]]) (.seq (.reg [od 46 (lG 4 1), om 47 8, om 48 10, od 49 (.build [(1, (tm 47)), (1, (tm 48))]), od 50 (.call 15 [(tm 46), (tm 49)]), om 45 50, od 51 (ex
 45 0), od 52 (ex 45 1), od 53 (ex 45 2), od 12 (.alloc false [(.slice none 0 0), (.slice none 0 0)]), on (.store 2 (tm 12) (tm 51)), om 13 52, om 14 53] [kp [1, 2, 3, 4, 5, 6, 7, 12, 13, 14] [1, 12]]) (.seq (.reg [om 54 14, od 55
 (.bin .neq (tm 54) (ki 0)), om 56 55, oF 57 (.mv (tm 13)) 56, oF 58 (.call 70 [(tm 57)]) 56, oF 59 (.mv (tm 4)) 56, oF 60 (.mv (tm 7)) 56, oF 61 (ia 1 59 60) 56, oF 62 (ld 1 61) 56, oF 63 (.bin .neq (tm 58) (tm 62)) 56, od 64
 (.pick (tm 56) kT (tm 63)), om 65 64, oF 66 (fa 0 12) 65, oF 67 (ld 1 66) 65, oF 68 (.call 70 [(tm 67)]) 65, oF 69 (.mv (tm 5)) 65, oF 70 (.mv (tm 7)) 65, oF 71 (ia 1 69 70) 65, oF 72 (ld 1 71) 65, oF 73 (.bin .neq (tm 68) (tm 72))
 65, od 74 (.pick (tm 65) kT (tm 73)), om 75 74, oF 76 (fa 1 12) 75, oF 77 (ld 1 76) 75, oF 78 (.call 70 [(tm 77)]) 75, oF 79 (.mv (tm 6)) 75, oF 80 (.mv (tm 7)) 75, oF 81 (ia 1 79 80) 75, oF 82 (ld 1 81) 75, oF 83 (.bin .neq (tm
 78) (tm 82)) 75, od 84 (.pick (tm 75) kT (tm 83)), om 85 84, oF 86 (.mv (tm 13)) 85, oF 87 (le 0 86) 85, oF 88 (.bin .neq (tm 87) (ki 6)) 85, od 89 (.pick (tm 85) kT (tm 88))] [kp [1, 2, 3, 4, 5, 6, 7, 89] [1]]) (.cond (tm 89)
 (.seq (.reg [od 0 (.mv kF)] [kp [0] []]) .ret) .skip)))))) (.reg [om 27 7, od 28 (.bin .add (tm 27) (ki 1)), om 7 28] [kp [1, 2, 3, 4, 5, 6, 7] [1]]))) [kp [1, 2, 3, 4, 5, 6, 7] [1]]
def V1 : IC := .loop q0r
abbrev q0s : IC := (.seq (.reg [od 0 (.mv kF)] [kp [] []]) (.seq (.reg [od 19 (.call 68 []), od 1 (.alloc false [(.slice none 0 0), (.slice none 0 0), (.slice none 0 0), (.slice none 0 0)]), on (.store 4 (tm 1) (tm 19))] [kp [1] [1]]) (.seq (.reg [od
 20 (.bsl true 9 1 [(.const (sV [48])), (.const (sV [49])), (.const (sV [88]))]), om 2 20] [kp [1, 2] [1]]) (.seq (.reg [od 21 (.bsl true 9 1 [(.const (sV [49])), (.const (sV [88])), (.const (sV [49]))]), om 3 21] [kp [1, 2, 3]
 [1]]) (.seq (.reg [od 22 (.bsl true 9 1 [(.const (sV [48, 49, 49, 49, 90, 90])), (.const (sV [49, 88, 48, 48, 48, 48])), (.const (sV [88, 49, 88, 88, 88, 88]))]), om 4 22] [kp [1, 2, 3, 4] [1]]) (.seq (.reg [od 23 (.bsl true 9 1
 [(.const (sV [49, 90])), (.const (sV [48, 48])), (.const (sV [88, 88]))]), om 5 23] [kp [1, 2, 3, 4, 5] [1]]) (.seq (.reg [od 24 (.bsl true 9 1 [(.const (sV [49])), (.const (sV [48])), (.const (sV [88]))]), om 6 24] [kp [1, 2, 3,
 4, 5, 6] [1]]) (.seq (.seq (.reg [od 7 (.mv (ki 0))] [kp [1, 2, 3, 4, 5, 6, 7] [1]]) (.block 0 V1)) (.seq (.reg [od 90 (lG 4 1), od 91 (.bsl true 68 1 [(ku 1), (ku 0), (ku 3), (ku 1), (ku 3)]), od 92 (.call 18 [(tm 90),
 (tm 91)]), od 15 (.alloc false [(.slice none 0 0), (.slice none 0 0)]), on (.store 2 (tm 15) (tm 92))] [kp [1, 15] [1, 15]]) (.seq (.reg [od 94 (lG 4 1), od 95 (.build [(1, kN), (1, kN)]), od 96 (.call 15 [(tm 94), (tm 95)]), om 93
 96, od 97 (ex 93 0), od 98 (ex 93 1), od 99 (ex 93 2), od 16 (.alloc false [(.slice none 0 0), (.slice none 0 0)]), on (.store 2 (tm 16) (tm 97)), om 17 98, om 18 99] [kp [1, 15, 18] [1, 15]]) (.seq (.reg [od 100 (fa 0 15), od 101
 (ld 1 100), od 102 (.call 70 [(tm 101)]), od 103 (.bin .eql (tm 102) (.const (sV [49, 88]))), om 104 103, oT 105 (fa 1 15) 104, oT 106 (ld 1 105) 104, oT 107 (.call 70 [(tm 106)]) 104, oT 108 (.bin .eql (tm 107) (.const (sV [49])))
 104, od 109 (.pick (tm 104) (tm 108) kF), om 110 109, oT 111 (lG 4 1) 110, oT 112 (.bsl true 68 1 [(ku 0), (ku 0), (ku 0), (ku 0), (ku 0), (ku 0)]) 110, oT 113 (.call 71 [(tm 111), (tm 112)]) 110, oT 114 (le 0 113) 110, oT 115
 (.bin .eql (tm 114) (ki 0)) 110, od 116 (.pick (tm 110) (tm 115) kF), om 117 116, oT 118 (.mv (tm 18)) 117, oT 119 (.bin .eql (tm 118) (ki 8)) 117, od 120 (.pick (tm 117) (tm 119) kF), om 0 120] [kp [0] []]) .ret)))))))))))
theorem Ht (h : ∀ K : St → Prop, K = run P Γ V1 Q → run P Γ q0r (An K Q) s) : run P Γ V1 Q s := Af h
def q0t : List RV := [.tmp 0]
/- probecard/logic.Text (function 70) -/
abbrev q1s : IC := .gh (.seq (.reg [od 12 (.bin .lss (tm 11) (tm 10))] [kp [3, 9, 10, 11, 12] [8]]) (.seq (.cond (tm 12) .skip (.exit 0)) (.seq (.block 1 (.seq (.reg [om 13 11, od 14 (ia 1 9 11), od 15 (ld 1 14), om 4 13, om 5 15] [kp [3, 4, 5, 9,
 10, 11] [8]]) (.reg [om 16 3, om 17 4, om 18 5, od 19 (.call 127 [(tm 18)]), od 20 (.idxS (.const (sV [48, 49, 88, 90])) (tm 19)), od 21 (ia 1 16 17), on (.store 1 (tm 21) (tm 20))] [kp [3, 9, 10, 11] [8]]))) (.reg [od 22 (.bin
 .add (tm 11) (ki 1)), om 11 22] [kp [3, 9, 10, 11] [8]])))) [kp [3, 9, 10, 11] [8]]
def Qa : IC := .loop q1s
abbrev q1t : IC := (.seq (.reg [od 2 (.mv (.const (sV [])))] [kp [0] []]) (.seq (.reg [om 6 0, od 7 (le 0 6), od 8 (.mk 5 1 [(.int .u8 0)] (tm 7) (tm 7)), om 3 8] [kp [0, 3] [8]]) (.seq (.seq (.reg [om 9 0, od 10 (le 0 9), od 11 (.mv (ki 0))] [kp [3,
 9, 10, 11] [8]]) (.block 0 Qa)) (.seq (.reg [om 23 3, od 24 (.bytesStr (tm 23)), om 2 24] [kp [2] []]) .ret))))
theorem W9 (h : ∀ K : St → Prop, K = run P Γ Qa Q → run P Γ q1s (An K Q) s) : run P Γ Qa Q s := Af h
def q1u : List RV := [.tmp 2]
/- probecard/logic.Parse (function 69) -/
abbrev q0u : IC := .gh (.seq (.reg [od 13 (.bin .lss (tm 12) (tm 11))] [kp [0, 4, 11, 12, 13] [9]]) (.seq (.cond (tm 13) .skip (.exit 0)) (.seq (.block 1 (.seq (.reg [om 14 12, om 5 14] [kp [0, 4, 5, 11, 12] [9]]) (.seq (.reg [om 15 0, om 16 5, od 17
 (.idxS (tm 15) (tm 16)), od 18 (.call 126 [(.const (sV [48, 49, 88, 90])), (tm 17)]), om 6 18] [kp [0, 4, 5, 6, 11, 12] [9]]) (.seq (.seq (.reg [om 19 6, od 20 (.bin .lss (tm 19) (ki 0))] [kp [0, 4, 5, 6, 11, 12, 20] [9]]) (.cond
 (tm 20) (.seq (.reg [od 2 (.mv kN), od 3 (.mv (ki 4))] [kp [2, 3] [9]]) .ret) .skip)) (.reg [om 21 4, om 22 5, om 23 6, od 24 (.conv .u8 (tm 23)), od 25 (ia 1 21 22), on (.store 1 (tm 25) (tm 24))] [kp [0, 4, 11, 12] [9]])))))
 (.reg [od 26 (.bin .add (tm 12) (ki 1)), om 12 26] [kp [0, 4, 11, 12] [9]])))) [kp [0, 4, 11, 12] [9]]
def V2 : IC := .loop q0u
abbrev q0v : IC := (.seq (.reg [od 2 (.mv kN), od 3 (.mv (ki 0))] [kp [0] []]) (.seq (.reg [om 7 0, od 8 (le 1 7), od 9 (.mk 68 1 [(.int .u8 0)] (tm 8) (tm 8)), om 4 9] [kp [0, 4] [9]]) (.seq (.seq (.reg [om 10 0, od 11 (le 1 10), od 12 (.mv (ki 0))]
 [kp [0, 4, 11, 12] [9]]) (.block 0 V2)) (.seq (.reg [om 27 4, om 2 27, od 3 (.mv (ki 0))] [kp [2, 3] [9]]) .ret))))
theorem V3 (h : ∀ K : St → Prop, K = run P Γ V2 Q → run P Γ q0u (An K Q) s) : run P Γ V2 Q s := Af h
def q0w : List RV := [.tmp 2, .tmp 3]
end
end Go.Lg
namespace Go.Lg
open Go Go.Proofs
theorem q51 : B7 Tryz.prog 51 q0m 33 3 q0n = true := by kernel_rfl
theorem q52 : B7 Tryz.prog 52 q0p 25 2 q0q = true := by kernel_rfl
theorem q6E : B7 Tryz.prog 14 q1p 16 2 q1q = true := by kernel_rfl
theorem q6F : B7 Tryz.prog 19 Wx 26 2 Q9 = true := by kernel_rfl
theorem q3M : B7 Tryz.prog 68 Xv 16 0 Xw = true := by kernel_rfl
theorem q53 : B7 Tryz.prog 21 q0s 121 0 q0t = true := by kernel_rfl
theorem q6G : B7 Tryz.prog 70 q1t 25 1 q1u = true := by kernel_rfl
theorem q54 : B7 Tryz.prog 69 q0v 28 1 q0w = true := by kernel_rfl
end Go.Lg
namespace Go.Lg
open Go Go.Proofs
variable {Γ : Tables}
theorem q94 {ks : List Int} {c : Bf} {i : Nat} (hi : i < c.nodes.l.length) : Mc ks (c.nodes.l.take (i + 1)) 0 = Mc ks (c.nodes.l.take i) 0 ++ if ks.contains (As c i) then [(i : Int)] else [] := by
  have hk : As c i = c.nodes.l[i].k := by simp [As, hi]
  rw [List.take_add_one, List.getElem?_eq_getElem hi, q2y, hk]
  have : (c.nodes.l.take i).length = i := by rw [List.length_take]; omega
  rw [this]
  simp [Mc]
theorem q6H {Q : AX → St → Prop} (c : Bf) (hc : COk c) (k : Int)
    (h0 : Q (.exit 0) ⟨[(1, .t (tK k)), (2, .t (.ip (tC c) 0)), (5, .t (tI (Mc [k] c.nodes.l 0).length)), (6, .t (tI c.nodes.l.length)), (11, .t (tB false))], []⟩) : ∀ (f i : Nat), f + i = c.nodes.l.length →
    run Tryz.prog Γ O8 Q ⟨[(1, .t (tK k)), (2, .t (.ip (tC c) 0)), (5, .t (tI (Mc [k] (c.nodes.l.take i) 0).length)), (6, .t (tI i))], []⟩
  | 0, i, h => by
    refine V0 fun K hK => ?_
    have h2 : i = c.nodes.l.length := by omega
    subst h2
    rw [List.take_length]
    simp [tC, Aa, Ad, Ae, Aw, Ab]
    simpa [tC, Aa, Ad, Ae, Aw] using h0
  | f + 1, i, h => by
    refine V0 fun K hK => ?_
    have h2 : i < c.nodes.l.length := by omega
    have hn := hc.nodes
    have ih := q6H c hc k h0 f (i + 1) (by omega)
    rw [q94 h2] at ih
    have hget := q2Y (c := c) (n := (i : Int)) (by omega) (by omega)
    have hk : (nd c i).k = As c i := by simp [nd, As]
    simp only [Int.toNat_natCast] at hget
    have hle := Vo [k] (c.nodes.l.take i) 0
    rw [List.length_take] at hle
    generalize nd c i = x at *
    by_cases h1 : x.k = k
    · have hkk : [k].contains (As c i) = true := by rw [← hk, h1]; simp
      rw [hkk, if_pos rfl, List.length_append] at ih
      simp (disch := omega) [tC, Aa, Ad, Ae, Aw, Ab, h2, Bg, hget, D4, h1, A6]
      rw [hK]
      simpa [tC, Aa, Ad, Ae, Aw] using ih
    · have hkk : [k].contains (As c i) = false := by rw [← hk]; simp; exact h1
      rw [hkk, if_neg (by simp), List.append_nil] at ih
      simp (disch := omega) [tC, Aa, Ad, Ae, Aw, Ab, h2, Bg, hget, D4, h1, A6]
      rw [hK]
      simpa [tC, Aa, Ad, Ae, Aw] using ih
theorem q6I (c : Bf) (hc : COk c) (k : Int) : A8 Tryz.prog Γ 52 [.agg (tC c), tK k] (tI (Mc [k] c.nodes.l 0).length) := by
  refine Ac q52 rfl ?_
  have g := fun Q h0 => q6H (Γ := Γ) (Q := Q) c hc k h0 c.nodes.l.length 0 (by omega)
  simp [q0p, tC, Aa, Ad, Ae, Aw]
  refine g _ ?_
  simp [q0q, Ak]
def Rq (l : List Int) (n : Nat) (most : Int) : List Int := (List.range' 0 n).map fun i => if l = [] then 2 else (l.getD (i % l.length) 0).tmod most
theorem Z2 {l : List Int} {n : Nat} {most : Int} : (Rq l n most).length = n := by simp [Rq]
theorem q2a {Q : AX → St → Prop} (l : Sl Int) (n : Nat) (hn : n ≤ 1000000000) (most : Int) (hm : 0 < most) (R : List Int)
    (h0 : Q (.exit 0) ⟨[(0, .t (tV l)), (1, .t (tI n)), (2, .t (tK most)), (7, .ls 19 0 n none), (8, .t (tI n)), (11, .t (tB false))], [(19, .sl 68 1 (Az R))]⟩) : ∀ (k i : Nat) (out : List Int), k + i = n → out.length = i → out ++ (List.range' i k).map (fun i => if l.l = [] then 2 else (l.l.getD (i % l.l.length) 0).tmod most) = R →
    run Tryz.prog Γ O7 Q ⟨[(0, .t (tV l)), (1, .t (tI n)), (2, .t (tK most)), (7, .ls 19 0 i none), (8, .t (tI i))], [(19, .sl 68 1 (Az out))]⟩
  | 0, i, out, h, hi, hR => by
    refine Uz fun K hK => ?_
    have h2 : i = n := by omega
    subst h2
    simp only [List.range'_zero, List.map_nil, List.append_nil] at hR
    subst hR
    simp
    exact h0
  | k + 1, i, out, h, hi, hR => by
    refine Uz fun K hK => ?_
    have h2 : i < n := by omega
    rw [List.range'_succ, List.map_cons] at hR
    have vt : (Az out).take i = Az out := by rw [← hi]; exact Dl
    by_cases h1 : l.l = []
    · have ih := q2a l n hn most hm R h0 k (i + 1) (out ++ [2]) (by omega) (by simp [hi]) (by rw [← hR]; simp [h1])
      have vs := N3 (l := out) (v := 2)
      simp (disch := omega) [h2, tV, A5, h1, A6, vt, vs, hi]
      refine ⟨by omega, ?_⟩
      rw [hK]
      simpa [tV, h1] using ih
    · have hpos : 0 < l.l.length := List.length_pos_iff.2 h1
      have hlt : i % l.l.length < l.l.length := Nat.mod_lt _ hpos
      have hmod : (i : Int).tmod (l.l.length : Int) = ((i % l.l.length : Nat) : Int) := by rw [Int.natCast_emod]; exact Int.tmod_eq_emod_of_nonneg (by omega)
      rw [if_neg h1] at hR
      have e := ge1 (f := tK) hlt
      generalize hj : i % l.l.length = j at *
      generalize l.l.getD j 0 = v at *
      have ih := q2a l n hn most hm R h0 k (i + 1) (out ++ [v.tmod most]) (by omega) (by simp [hi]) (by rw [← hR]; simp)
      have vs := N3 (l := out) (v := v.tmod most)
      have hne : ¬ (l.l.length : Int) = 0 := by omega
      have hm0 : ¬ most = 0 := by omega
      simp (disch := omega) [h2, tV, A5, A9, h1, hne, hm0, hmod, hlt, e, A6, vt, vs, hi, -Int.natCast_emod]
      refine ⟨by omega, ?_⟩
      rw [hK]
      simpa [tV] using ih
theorem qAn (l : Sl Int) (n : Nat) (hn : n ≤ 1000000000) (most : Int) (hm : 0 < most) : Hf Tryz.prog Γ 51 [] [.t (tV l), .t (tI n), .t (tK most)] (.ls 19 0 n none) [(19, .sl 68 1 (Az (Rq l.l n most)))] := by
  refine Pg q51 rfl ?_
  have g := fun Q h0 => q2a (Γ := Γ) (Q := Q) l n hn most hm (Rq l.l n most) h0 n 0 [] (by omega) rfl (by simp [Rq])
  simp [q0m]
  refine g _ ?_
  simp [q0n]
def q7I (a b : List Int) : Int := if a = b then 0 else 1
theorem qCd {a b : List Int} (hl : a.length = b.length) (h : ∀ j, j < a.length → a.getD j 0 = b.getD j 0) : a = b := by
  refine List.ext_getElem hl fun i h1 h2 => ?_
  have := h i h1
  rwa [Be h1, Be h2] at this
theorem q7J {Q : AX → St → Prop} (a b : Sl Int) (hl : a.l.length ≤ 1000000000) (he : a.l.length = b.l.length)
    (h0 : a.l = b.l → Q (.exit 0) ⟨[(0, .t (tV a)), (1, .t (tV b)), (5, .t (tI a.l.length)), (14, .t (tB false))], []⟩)
    (h1 : a.l ≠ b.l → Q .ret ⟨[(4, .t (tI 1))], []⟩) : ∀ (k i : Nat), k + i = a.l.length → (∀ j, j < i → a.l.getD j 0 = b.l.getD j 0) →
    run Tryz.prog Γ Q8 Q ⟨[(0, .t (tV a)), (1, .t (tV b)), (5, .t (tI i))], []⟩
  | 0, i, h, hp => by
    refine W8 fun K hK => ?_
    have h2 : i = a.l.length := by omega
    subst h2
    simp [tV, A5]
    exact h0 (qCd he hp)
  | k + 1, i, h, hp => by
    refine W8 fun K hK => ?_
    have h2 : i < a.l.length := by omega
    have h3 : i < b.l.length := by omega
    have e1 := ge1 (f := tK) h2
    have e2 := ge1 (f := tK) h3
    by_cases hv : a.l.getD i 0 = b.l.getD i 0
    · have ih := q7J a b hl he h0 h1 k (i + 1) (by omega) (fun j hj => by
        rcases Nat.lt_succ_iff_lt_or_eq.1 hj with hj | rfl
        · exact hp j hj
        · exact hv)
      rw [hv] at e1
      generalize b.l.getD i 0 = v at *
      simp (disch := omega) [h2, h3, tV, A5, A9, e1, e2, A6]
      rw [hK]
      simpa [tV] using ih
    · have hne : a.l ≠ b.l := fun e => hv (by rw [e])
      generalize b.l.getD i 0 = v at *
      generalize a.l.getD i 0 = u at *
      simp (disch := omega) [h2, h3, tV, A5, A9, e1, e2, A6, hv]
      exact h1 hne
theorem qBa (a b : Sl Int) (hl : a.l.length ≤ 1000000000) : A8 Tryz.prog Γ 19 [tV a, tV b] (tI (q7I a.l b.l)) := by
  refine Ac q6F rfl ?_
  by_cases he : a.l.length = b.l.length
  · have g := fun Q h0 h1 => q7J (Γ := Γ) (Q := Q) a b hl he h0 h1 a.l.length 0 (by omega) (by simp)
    simp [Wx, tV, A5, he]
    simp only [tV] at g
    refine g _ (fun h => ?_) (fun h => ?_)
    · simp [Q9, Ak, q7I, h]
    · simp [Q9, Ak, q7I, h]
  · have hne : ¬ a.l = b.l := fun e => he (by rw [e])
    have he' : ¬ (a.l.length : Int) = b.l.length := by omega
    simp [Wx, tV, A5, he, he', Q9, Ak, q7I, hne]
def chV (v : Int) : Int := if v = 0 then 48 else if v = 1 then 49 else if v = 2 then 88 else 90
def Wa (l : List Int) : List UInt8 := l.map fun v => UInt8.ofNat (chV (C2 v)).toNat
theorem q7K {Q : AX → St → Prop} (l : Sl Int) (hl : l.l.length ≤ 1000000000) (hv : ∀ v ∈ l.l, 0 ≤ v) (R : List Int)
    (h0 : Q (.exit 0) ⟨[(3, .ls 8 0 l.l.length none), (9, .t (tV l)), (10, .t (tI l.l.length)), (11, .t (tI l.l.length)), (12, .t (tB false))], [(8, .sl 5 1 (Az R))]⟩) : ∀ (k i : Nat), k + i = l.l.length → R = l.l.map (fun v => chV (C2 v)) →
    run Tryz.prog Γ Qa Q ⟨[(3, .ls 8 0 l.l.length none), (9, .t (tV l)), (10, .t (tI l.l.length)), (11, .t (tI i))], [(8, .sl 5 1 (Az (R.take i ++ List.replicate (l.l.length - i) 0)))]⟩
  | 0, i, h, hR => by
    refine W9 fun K hK => ?_
    have h2 : i = l.l.length := by omega
    have h3 : R.length = l.l.length := by rw [hR]; simp
    subst h2
    rw [← h3, List.take_length, h3, Nat.sub_self, List.replicate_zero, List.append_nil]
    simp
    exact h0
  | k + 1, i, h, hR => by
    refine W9 fun K hK => ?_
    have h2 : i < l.l.length := by omega
    have h3 : R.length = l.l.length := by rw [hR]; simp
    have ih := q7K l hl hv R h0 k (i + 1) (by omega) hR
    have e1 := ge1 (f := tK) h2
    have hv0 := hv (l.l.getD i 0) (by rw [Be h2]; exact List.getElem_mem h2)
    have hRi : R.getD i 0 = chV (C2 (l.l.getD i 0)) := by rw [hR, Be h2]; simp [List.getD_eq_getElem?_getD, h2]
    have hset : ∀ v, v = R.getD i 0 → (Az (R.take i ++ List.replicate (l.l.length - i) 0)).set i [tK v] = Az (R.take (i + 1) ++ List.replicate (l.l.length - (i + 1)) 0) := by
      rintro v rfl
      show (Av tK _).set i [tK _] = Av tK _
      rw [Gu]
      congr 1
      have e : l.l.length - i = (l.l.length - (i + 1)) + 1 := by omega
      have ht : (R.take i).length = i := by rw [List.length_take]; omega
      have hri : i < R.length := by omega
      have hta : R.take (i + 1) = R.take i ++ [R.getD i 0] := by rw [List.take_add_one, List.getElem?_eq_getElem hri, Be hri]; rfl
      rw [e, List.replicate_succ, List.set_append, if_neg (by rw [ht]; omega), ht, Nat.sub_self, hta]
      simp
    have hlen : (Az (R.take i ++ List.replicate (l.l.length - i) 0)).length = l.l.length := by rw [A5]; simp; omega
    generalize Az (R.take i ++ List.replicate (l.l.length - i) 0) = E at *
    generalize l.l.getD i 0 = v at *
    have hc4 : C2 v = 0 ∨ C2 v = 1 ∨ C2 v = 2 ∨ C2 v = 3 := by unfold C2; split <;> omega
    simp (disch := omega) [h2, tV, A5, A9, e1, A6]
    refine A4 (q2S v) rfl ?_
    have hch : (ByteArray.mk #[48, 49, 88, 90]).size = 4 := rfl
    have hb : ∀ q : Int, C2 v = q → (0 ≤ q ∧ q < 4) := fun q hq => by omega
    generalize C2 v = w at *
    have hval : ((([48, 49, 88, 90] : List UInt8)[w.toNat]?.getD 0).toNat : Int) = chV w := by
      rcases hc4 with rfl | rfl | rfl | rfl <;> rfl
    have hw := hb w rfl
    have hs := hset _ (hval.trans hRi.symm)
    simp (disch := omega) [h2, hlen, hs, A6, sV, hch, hw]
    rw [hK]
    simpa [tV] using ih
theorem q6J : ∀ (l : List Int), (∀ v ∈ l, 0 ≤ v ∧ v < 256) → Kw (Az l) = some (l.map fun v => UInt8.ofNat v.toNat)
  | [], _ => rfl
  | v :: l, h => by
    have ih := q6J l fun u hu => h u (List.mem_cons_of_mem _ hu)
    have hv := h v List.mem_cons_self
    show (Kw (Az l)).map _ = _
    rw [ih]; rfl
theorem Gy (l : Sl Int) (hl : l.l.length ≤ 1000000000) (hv : ∀ v ∈ l.l, 0 ≤ v) : A8 Tryz.prog Γ 70 [tV l] (tS (Wa l.l)) := by
  refine Ac q6G rfl ?_
  have g := fun Q h0 => q7K (Γ := Γ) (Q := Q) l hl hv (l.l.map fun v => chV (C2 v)) h0 l.l.length 0 (by omega) rfl
  have hz : List.replicate l.l.length [T.v (Value.int .u8 0)] = Az (([] : List Int) ++ List.replicate (l.l.length - 0) 0) := by simp [Av]
  have hlen : (l.l.map fun v => chV (C2 v)).length = l.l.length := by simp
  have hR : Kw (Az (l.l.map fun v => chV (C2 v))) = some (Wa l.l) := by
    rw [q6J]
    · simp [Wa]
    · intro v hv'
      obtain ⟨u, _, rfl⟩ := List.mem_map.1 hv'
      unfold chV; split; omega; split; omega; split <;> omega
  have htk : (Az (l.l.map fun v => chV (C2 v))).take l.l.length = Az (l.l.map fun v => chV (C2 v)) := by rw [← hlen]; exact Dl
  rw [List.take_zero] at g
  generalize Az (l.l.map fun v => chV (C2 v)) = E at *
  simp (disch := omega) [q1t, tV, A5, A6]
  refine ⟨by omega, ?_⟩
  rw [hz]
  refine g _ ?_
  simp [q1u, Ak, htk, hR, tS, sV]
theorem Bn {s : Nat} {e : List T} {l : List (List T)} : Dz s (e :: l) = (e.length = s ∧ Dz s l) := propext ⟨fun h => ⟨h e List.mem_cons_self, fun x hx => h x (List.mem_cons_of_mem _ hx)⟩, fun ⟨h1, h2⟩ x hx => by rcases List.mem_cons.1 hx with rfl | hx; exact h1; exact h2 x hx⟩
structure PD where
  i : Sl Int
  s : Sl Int
def tPD (q : PD) : List T := [tV q.i, tV q.s]
def qCe (q : PD) : Prop := (∀ v ∈ q.i.l, Byt v) ∧ ∀ v ∈ q.s.l, Byt v
def qH2 (q : PD) (c : Bf) : List Int := Rq q.i.l (Dn c).length 4
def qH3 (q : PD) (c : Bf) : List Int := Rq q.s.l (Ce c).length 3
def q7L (q : PD) (c : Bf) : Pat := ⟨⟨qH2 q c, none, none⟩, ⟨qH3 q c, none, none⟩⟩
def qCf (b : UInt8) : Int := if b = 48 then 0 else if b = 49 then 1 else if b = 88 then 2 else 3
theorem q4E (b : UInt8) (hb : b = 48 ∨ b = 49 ∨ b = 88 ∨ b = 90) : A8 Tryz.prog Γ 69 [tS [b]] (.tup [.sl (Az [qCf b]) none none, tI 0]) := by
  refine Ac q54 rfl ?_
  have hi := q0M (Γ := Γ) (ByteArray.mk #[48, 49, 88, 90]) (b.toNat : Int)
  have hx : Lib.indexByte (ByteArray.mk #[48, 49, 88, 90]).data.toList ((b.toNat : Int)).toNat.toUInt8 = qCf b := by
    rcases hb with rfl | rfl | rfl | rfl <;> rfl
  rw [hx] at hi
  have hp : 0 ≤ qCf b ∧ qCf b ≤ 3 := by rcases hb with rfl | rfl | rfl | rfl <;> decide
  generalize qCf b = v at *
  have hneg : ¬ v < 0 := by omega
  have hsz : (ByteArray.mk #[b]).size = 1 := rfl
  simp (disch := omega) [q0v, tS, sV, A6, hsz]
  refine V3 fun K hK => ?_
  simp (disch := omega) [A6, hsz, sV]
  refine A4 hi rfl ?_
  simp (disch := omega) [hneg, Bd, A6, hsz]
  rw [hK]
  refine V3 fun K hK => ?_
  simp (disch := omega) [A6, hsz, q0w, Ak, Ai, Az, Av, Br]
def exC : Bf := ⟨⟨[⟨0, ⟨[], some 0, some true⟩, 0, 0⟩, ⟨14, ⟨[3], some 1, some false⟩, 0, 0⟩, ⟨4, ⟨[0], some 1, some false⟩, 0, 0⟩, ⟨5, ⟨[1, 2], some 2, some false⟩, 0, 0⟩, ⟨12, ⟨[0, 2], some 2, some false⟩, 0, 0⟩, ⟨13, ⟨[4], some 1, some false⟩, 0, 0⟩], some 6, some false⟩,
  ⟨[[97], [113], [110], [103], [116], [98]], some 6, some false⟩, ⟨[], some 0, some true⟩, ⟨[3, 5], some 2, some false⟩⟩
theorem qDo : Au Tryz.prog Γ 68 [] (.agg (tC exC)) := by
  refine D7 q3M rfl ?_
  simp [Xv, Xw, tC, exC, Aa, Ad, Ae, Aw, B1, Av, D4, tS, sV, Dz]
theorem qDp : COk exC := by
  refine ⟨⟨by decide, by decide, by decide, by decide, ?_, ?_, ?_⟩, ?_⟩
  · intro x hx; simp [exC] at hx; rcases hx with rfl | rfl | rfl | rfl | rfl | rfl <;> simp
  · intro x hx; simp [exC] at hx; rcases hx with rfl | rfl | rfl | rfl | rfl | rfl <;> simp
  · intro m hm; simp [exC] at hm
  · intro s hs b hb; simp [exC] at hs; rcases hs with rfl | rfl | rfl | rfl | rfl | rfl <;> simp at hb <;> subst hb <;> decide
def v1 (v : Int) : Sl Int := ⟨[v], none, none⟩
theorem qCg (hΓ : GOk Γ) (a b : Int) (ha : 0 ≤ a) (hb : 0 ≤ b) (N O X : List Int) (he : Ww exC ⟨v1 a, v1 b⟩ = 0) (hN : F6 exC [a] [b] = N) (hO : Ro exC N = O) (hX : Fb exC N = X) :
    Au Tryz.prog Γ 15 [.agg (tC exC), .agg [.sl (Az [a]) none none, .sl (Az [b]) none none]] (.tup [.agg [tVs O, tVs X], .sl (Az N) (some 6) none, tI 0]) := by
  have := q6D hΓ exC qDp (by decide) ⟨v1 a, v1 b⟩ (by simp [v1]) (by simp [v1]; exact ⟨ha, hb⟩)
  unfold q4D at this
  rw [if_pos he] at this
  have e : F6 exC (v1 a).l (v1 b).l = N := hN
  simp only at this
  rw [e, hO, hX] at this
  exact this
theorem qH4 : Mc [13] exC.nodes.l 0 = [5] := by decide +kernel
theorem q7q : A8 Tryz.prog Γ 71 [.agg (tC exC), .sl (Az [0, 0, 0, 0, 0, 0]) (some 6) (some false)] (.sl [] (some 0) none) := by
  refine Ac q2W rfl ?_
  have e1 := q7h (Γ := Γ) exC qDp 13
  rw [qH4] at e1
  have hv := q2X (Γ := Γ) exC ⟨[0, 0, 0, 0, 0, 0], some 6, some false⟩ 4 (by decide)
  have hvv : Gj [0, 0, 0, 0, 0, 0] 4 = 0 := by decide
  simp only [hvv] at hv
  have hc := q1m (Γ := Γ) [0] none none (by decide)
  have hcc : Yu [0] = false := by decide
  rw [hcc] at hc
  have hE : B1 D4 exC.nodes.l = [[tK 0, .sl [] (some 0) (some true), tI 0, tI 0], [tK 14, .sl (Ah [3]) (some 1) (some false), tI 0, tI 0], [tK 4, .sl (Ah [0]) (some 1) (some false), tI 0, tI 0], [tK 5, .sl (Ah [1, 2]) (some 2) (some false), tI 0, tI 0], [tK 12, .sl (Ah [0, 2]) (some 2) (some false), tI 0, tI 0], [tK 13, .sl (Ah [4]) (some 1) (some false), tI 0, tI 0]] := rfl
  simp [W5, tC, Aa, hE, Ad, Ae, Aw]
  refine A4 e1 rfl ?_
  simp
  refine P2 fun K hK => ?_
  simp [Ah, Av, Bn]
  refine P1 fun L hL => ?_
  simp [Ah, Av]
  refine A4 hv rfl ?_
  simp [A6]
  rw [hL]
  refine P1 fun L hL => ?_
  simp
  refine A4 hc rfl ?_
  simp [A6]
  rw [hK]
  refine P2 fun K hK => ?_
  simp [Ah, Av]
  refine ⟨_, q5o 3 [] 0 none (by simp), ?_⟩
  simp [W6, Ai, Ak]
theorem qHp (hΓ : GOk Γ) : Au Tryz.prog Γ 15 [.agg (tC exC), .agg [.sl (Az [0]) none none, .sl (Az [1]) none none]] (.tup [.agg [tVs [1, 3], tVs [1]], .sl (Az [0, 1, 1, 1, 3, 3]) (some 6) none, tI 0]) :=
  qCg hΓ 0 1 (by omega) (by omega) _ _ _ (by decide +kernel) (by decide +kernel) (by decide +kernel) (by decide +kernel)
theorem qHq (hΓ : GOk Γ) : Au Tryz.prog Γ 15 [.agg (tC exC), .agg [.sl (Az [1]) none none, .sl (Az [2]) none none]] (.tup [.agg [tVs [0, 0], tVs [0]], .sl (Az [1, 2, 0, 0, 0, 0]) (some 6) none, tI 0]) :=
  qCg hΓ 1 2 (by omega) (by omega) _ _ _ (by decide +kernel) (by decide +kernel) (by decide +kernel) (by decide +kernel)
theorem qHr (hΓ : GOk Γ) : Au Tryz.prog Γ 15 [.agg (tC exC), .agg [.sl (Az [2]) none none, .sl (Az [1]) none none]] (.tup [.agg [tVs [2, 2], tVs [2]], .sl (Az [2, 1, 2, 2, 2, 2]) (some 6) none, tI 0]) :=
  qCg hΓ 2 1 (by omega) (by omega) _ _ _ (by decide +kernel) (by decide +kernel) (by decide +kernel) (by decide +kernel)
theorem qFU (hΓ : GOk Γ) : Au Tryz.prog Γ 15 [.agg (tC exC), .agg [.sl [] (some 0) (some true), .sl [] (some 0) (some true)]] (.tup [.agg [.sl [] (some 0) (some true), .sl [] (some 0) (some true)], .sl [] (some 0) (some true), tI 8]) := by
  have := q6D hΓ exC qDp (by decide) ⟨⟨[], some 0, some true⟩, ⟨[], some 0, some true⟩⟩ (by simp) (by simp)
  have he : Ww exC ⟨⟨[], some 0, some true⟩, ⟨[], some 0, some true⟩⟩ = 8 := by decide +kernel
  unfold q4D at this
  rw [he] at this
  exact this
theorem qH5 : Au Tryz.prog Γ 18 [.agg (tC exC), .sl (Az [1, 0, 3, 1, 3]) (some 5) (some false)] (.agg [tVs [1, 2], tVs [1]]) := by
  refine D7 Xu rfl ?_
  have h := Z1 (Γ := Γ) exC qDp ⟨[1, 0, 3, 1, 3], some 5, some false⟩ (by decide)
  have h1 : Ro exC [1, 0, 3, 1, 3] = [1, 2] := by decide +kernel
  have h2 : Fb exC [1, 0, 3, 1, 3] = [1] := by decide +kernel
  simp only [h1, h2] at h
  simp [Rm, tC, Aa, Ad, Ae, Aw]
  refine A4 h rfl ?_
  simp [Rn, tVs]
theorem q7r (hΓ : GOk Γ) : Au Tryz.prog Γ 21 [] (tB true) := by
  refine D7 q53 rfl ?_
  simp [q0s]
  refine Ao qDo rfl ?_
  simp [tC, Aa, Ad, Ae, Aw, sV]
  refine Ht fun K hK => ?_
  simp [Bn]
  refine A4 (q4E 48 (by decide)) rfl ?_
  simp [Bn]
  refine A4 (q4E 49 (by decide)) rfl ?_
  simp [Bn]
  refine Ao (qHp hΓ) rfl ?_
  simp [tVs, Bn]
  refine A4 (Gy ⟨[0, 1, 1, 1, 3, 3], some 6, none⟩ (by decide) (by decide)) rfl ?_
  simp [tS, Wa, chV, C2, sV, Bn]
  refine A4 (Gy ⟨[1, 3], some 2, none⟩ (by decide) (by decide)) rfl ?_
  simp [tS, Wa, chV, C2, sV, Bn]
  refine A4 (Gy ⟨[1], some 1, none⟩ (by decide) (by decide)) rfl ?_
  simp [tS, Wa, chV, C2, sV, Bn, Av, A6]
  rw [hK]
  refine Ht fun K hK => ?_
  simp [Bn]
  refine A4 (q4E 49 (by decide)) rfl ?_
  simp [Bn]
  refine A4 (q4E 88 (by decide)) rfl ?_
  simp [Bn]
  refine Ao (qHq hΓ) rfl ?_
  simp [tVs, Bn]
  refine A4 (Gy ⟨[1, 2, 0, 0, 0, 0], some 6, none⟩ (by decide) (by decide)) rfl ?_
  simp [tS, Wa, chV, C2, sV, Bn]
  refine A4 (Gy ⟨[0, 0], some 2, none⟩ (by decide) (by decide)) rfl ?_
  simp [tS, Wa, chV, C2, sV, Bn]
  refine A4 (Gy ⟨[0], some 1, none⟩ (by decide) (by decide)) rfl ?_
  simp [tS, Wa, chV, C2, sV, Bn, Av, A6]
  rw [hK]
  refine Ht fun K hK => ?_
  simp [Bn]
  refine A4 (q4E 88 (by decide)) rfl ?_
  simp [Bn]
  refine A4 (q4E 49 (by decide)) rfl ?_
  simp [Bn]
  refine Ao (qHr hΓ) rfl ?_
  simp [tVs, Bn]
  refine A4 (Gy ⟨[2, 1, 2, 2, 2, 2], some 6, none⟩ (by decide) (by decide)) rfl ?_
  simp [tS, Wa, chV, C2, sV, Bn]
  refine A4 (Gy ⟨[2, 2], some 2, none⟩ (by decide) (by decide)) rfl ?_
  simp [tS, Wa, chV, C2, sV, Bn]
  refine A4 (Gy ⟨[2], some 1, none⟩ (by decide) (by decide)) rfl ?_
  simp [tS, Wa, chV, C2, sV, Bn, Av, A6]
  rw [hK]
  refine Ht fun K hK => ?_
  simp [Bn]
  refine Ao qH5 rfl ?_
  simp [Bn, tVs]
  refine Ao (qFU hΓ) rfl ?_
  simp [tVs, Bn]
  refine A4 (Gy ⟨[1, 2], some 2, none⟩ (by decide) (by decide)) rfl ?_
  simp [tS, Wa, chV, C2, sV, Bn]
  refine A4 (Gy ⟨[1], some 1, none⟩ (by decide) (by decide)) rfl ?_
  simp [tS, Wa, chV, C2, sV, Bn]
  refine A4 q7q rfl ?_
  simp [q0t]
end Go.Lg
namespace Go.Lg
open Go Go.Proofs Go.Proofs.YtgnomdkcimglbaaGreatDoor
theorem qDq : Tryz.prog.cellsOf 29 = 2 := by kernel_rfl
theorem qAo : Rd Tryz.prog 25 fun ts => ∃ s : Sl Int, ts = [tV s] ∧ ∀ b ∈ s.l, Byt b := by
  refine (q5m Tryz.underlying25 q0S (by decide) q8n).mono fun ts ⟨es, cap, nl, h, _, hes⟩ => ?_
  obtain ⟨l, rfl, hl⟩ := q5J (f := fun n : Int => [tK n]) (Q := Byt) fun x hx => (hes x hx).1
  exact ⟨⟨l, cap, nl⟩, h, hl⟩
theorem qHs : Rd Tryz.prog 29 fun ts => ∃ q, ts = tPD q ∧ qCe q := by
  refine (q3y (l := [(1, fun ts => ∃ s : Sl Int, ts = [tV s] ∧ ∀ b ∈ s.l, Byt b), (1, fun ts => ∃ s : Sl Int, ts = [tV s] ∧ ∀ b ∈ s.l, Byt b)]) Tryz.underlying29 qDq
    (.cons rfl q7j qAo (.cons rfl q7j qAo (.nil _)))).mono fun ts h => ?_
  obtain ⟨_, _, rfl, ⟨a, rfl, ha⟩, _, _, rfl, ⟨b, rfl, hb⟩, rfl⟩ := h
  exact ⟨⟨a, b⟩, rfl, ha, hb⟩
end Go.Lg
namespace Go.Proofs.YtgnomdkcimglbaaGreatDoor
open Go Go.Lg Go.ChangeShapes Go.WideShapes Go.ChangeAt Go.RowKit
theorem qHd {H : Type} {enc : TypeId × Value → H} {W : World} {base : Nat} {v : Value} {d : DataW H} {p : List MemPlace} (hval : Value.okWide Tryz.prog W .any base 29 v) (h : DataW.Trod enc Tryz.prog W 0 (fun _ => true) true 29 v d p) : ∃ q, qCe q ∧ TR W (Old W) (.agg (tPD q)) v := by
  simp only [Value.okWide, Tryz.underlying29] at hval
  obtain ⟨cs, rfl, _, _⟩ := hval
  obtain ⟨fuel, hf⟩ := h
  obtain ⟨ts, ⟨x, rfl, hx⟩, htr, ho⟩ := qHs H enc W true fuel _ _ hf
  exact ⟨x, hx, qCF htr ho⟩
end Go.Proofs.YtgnomdkcimglbaaGreatDoor
namespace Go.Lg
open Go
section
variable {P : Program} {Γ : Tables} {Q : AX → St → Prop} {s : St}
/- probecard/probecardref01.Choices (function 197) -/
abbrev Ew : IC := (.seq (.reg [od 4 (.mv kN)] [kp [0, 1] []]) (.seq (.seq (.reg [om 5 0, od 6 (.bin .eql (tm 5) (ku 0))] [kp [0, 1, 6] []]) (.cond (tm 6) (.seq (.reg [od 7 (.bsl true 3 1 [(ki 0)]), om 4 7] [kp [4] []]) .ret) .skip)) (.seq (.seq
 (.reg [om 8 0, od 9 (.bin .eql (tm 8) (ku 1))] [kp [0, 1, 9] []]) (.cond (tm 9) (.seq (.reg [od 10 (.bsl true 3 1 [(ki 1)]), om 4 10] [kp [4] []]) .ret) .skip)) (.seq (.seq (.reg [om 11 1, om 12 11, oT 13 (.mv (tm 0)) 12, oT 14
 (.bin .eql (tm 13) (ku 3)) 12, od 15 (.pick (tm 12) (tm 14) kF)] [kp [1, 15] []]) (.cond (tm 15) (.seq (.reg [od 16 (.bsl true 3 1 [(ki 2)]), om 4 16] [kp [4] []]) .ret) .skip)) (.seq (.seq (.reg [om 17 1] [kp [17] []]) (.cond (tm
 17) (.seq (.reg [od 18 (.bsl true 3 1 [(ki 0), (ki 1), (ki 2)]), om 4 18] [kp [4] []]) .ret) .skip)) (.seq (.reg [od 19 (.bsl true 3 1 [(ki 0), (ki 1)]), om 4 19] [kp [4] []]) .ret))))))
def Ey : List RV := [.tmp 4]
/- probecard/probecardref01.count (function 208) -/
abbrev q0x : IC := .gh (.seq (.seq (.reg [om 7 6, om 8 0, od 9 (le 0 8), od 10 (.bin .lss (tm 7) (tm 9))] [kp [0, 1, 5, 6, 10] []]) (.cond (tm 10) .skip (.exit 0))) (.seq (.block 1 (.seq (.reg [om 13 0, om 14 6, od 15 (ia 1 13 14), od 16 (ld 1 15),
 om 17 1, od 18 (.bin .eql (tm 16) (tm 17))] [kp [0, 1, 5, 6, 18] []]) (.cond (tm 18) (.reg [om 19 5, od 20 (.bin .add (tm 19) (ki 1)), om 5 20] [kp [0, 1, 5, 6] []]) .skip))) (.reg [om 11 6, od 12 (.bin .add (tm 11) (ki 1)), om 6
 12] [kp [0, 1, 5, 6] []]))) [kp [0, 1, 5, 6] []]
def O9 : IC := .loop q0x
abbrev q0y : IC := (.seq (.reg [od 4 (.mv (ki 0))] [kp [0, 1] []]) (.seq (.reg [od 5 (.mv (ki 0))] [kp [0, 1, 5] []]) (.seq (.seq (.reg [od 6 (.mv (ki 0))] [kp [0, 1, 5, 6] []]) (.block 0 O9)) (.seq (.reg [om 21 5, om 4 21] [kp [4] []])
 .ret))))
theorem V5 (h : ∀ K : St → Prop, K = run P Γ O9 Q → run P Γ q0x (An K Q) s) : run P Γ O9 Q s := Af h
def q0z : List RV := [.tmp 4]
/- probecard/probecardref01.bit (function 209) -/
abbrev q3N : IC := (.seq (.reg [od 2 (.mv (ki 0))] [kp [0] []]) (.seq (.seq (.reg [om 3 0] [kp [3] []]) (.cond (tm 3) (.seq (.reg [od 2 (.mv (ki 1))] [kp [2] []]) .ret) .skip)) (.seq (.reg [od 2 (.mv (ki 0))] [kp [2] []]) .ret)))
def q3O : List RV := [.tmp 2]
/- probecard/probecardref01.Function (function 198) -/
abbrev B8 : IC := (.seq (.reg [od 4 (.mv (ki 0))] [kp [0, 1] []]) (.seq (.reg [om 7 1, od 8 (.call 208 [(tm 7), (ki 1)]), om 5 8] [kp [0, 1, 5] []]) (.seq (.reg [om 9 1, od 10 (.call 208 [(tm 9), (ki 0)]), om 6 10] [kp [0, 1, 5, 6] []]) (.seq
 (.block 0 (.seq (.reg [om 12 0, od 13 (.bin .eql (tm 12) (ku 1)), om 14 13, oF 15 (.mv (tm 0)) 14, oF 16 (.bin .eql (tm 15) (ku 2)) 14, od 17 (.pick (tm 14) kT (tm 16)), om 11 17] [kp [0, 1, 5, 6, 11] []]) (.cond (tm 11) (.seq
 (.reg [om 18 0, od 19 (.bin .eql (tm 18) (ku 2)), od 20 (.call 209 [(tm 19)]), om 4 20] [kp [4] []]) .ret) (.seq (.reg [om 22 0, od 23 (.bin .eql (tm 22) (ku 3)), om 24 23, oF 25 (.mv (tm 0)) 24, oF 26 (.bin .eql (tm 25) (ku 4))
 24, od 27 (.pick (tm 24) kT (tm 26)), om 21 27] [kp [0, 1, 5, 6, 21] []]) (.cond (tm 21) (.seq (.reg [om 28 1, od 29 (.iadr 1 (tm 28) (ki 0)), od 30 (ld 1 29), od 31 (.bin .eql (tm 30) (ki 1)), om 32 0, od 33 (.bin .eql (tm 32) (ku
 3)), od 34 (.eqb true (tm 31) (tm 33)), od 35 (.call 209 [(tm 34)]), om 4 35] [kp [4] []]) .ret) (.seq (.reg [om 37 0, od 38 (.bin .eql (tm 37) (ku 5)), om 39 38, oF 40 (.mv (tm 0)) 39, oF 41 (.bin .eql (tm 40) (ku 6)) 39, od 42
 (.pick (tm 39) kT (tm 41)), om 36 42] [kp [0, 1, 5, 6, 36] []]) (.cond (tm 36) (.seq (.reg [om 43 6, od 44 (.bin .eql (tm 43) (ki 0)), om 45 0, od 46 (.bin .eql (tm 45) (ku 5)), od 47 (.eqb true (tm 44) (tm 46)), od 48 (.call 209
 [(tm 47)]), om 4 48] [kp [4] []]) .ret) (.seq (.reg [om 50 0, od 51 (.bin .eql (tm 50) (ku 7)), om 52 51, oF 53 (.mv (tm 0)) 52, oF 54 (.bin .eql (tm 53) (ku 8)) 52, od 55 (.pick (tm 52) kT (tm 54)), om 49 55] [kp [0, 1, 5, 6, 49]
 []]) (.cond (tm 49) (.seq (.reg [om 56 5, od 57 (.bin .gtr (tm 56) (ki 0)), om 58 0, od 59 (.bin .eql (tm 58) (ku 7)), od 60 (.eqb true (tm 57) (tm 59)), od 61 (.call 209 [(tm 60)]), om 4 61] [kp [4] []]) .ret) (.seq (.reg [om 63
 0, od 64 (.bin .eql (tm 63) (ku 9)), om 65 64, oF 66 (.mv (tm 0)) 65, oF 67 (.bin .eql (tm 66) (ku 10)) 65, od 68 (.pick (tm 65) kT (tm 67)), om 62 68] [kp [0, 1, 5, 6, 62] []]) (.cond (tm 62) (.seq (.reg [om 69 5, od 70 (.bin .rem
 (tm 69) (ki 2)), od 71 (.bin .eql (tm 70) (ki 1)), om 72 0, od 73 (.bin .eql (tm 72) (ku 9)), od 74 (.eqb true (tm 71) (tm 73)), od 75 (.call 209 [(tm 74)]), om 4 75] [kp [4] []]) .ret) (.seq (.reg [om 77 0, od 78 (.bin .eql (tm
 77) (ku 11)), om 79 78, oT 80 (.mv (tm 1)) 79, oT 81 (.iadr 1 (tm 80) (ki 0)) 79, oT 82 (ld 1 81) 79, oT 83 (.bin .eql (tm 82) (ki 0)) 79, od 84 (.pick (tm 79) (tm 83) kF), om 76 84] [kp [0, 1, 5, 6, 76] []]) (.cond (tm 76) (.seq
 (.reg [om 85 1, od 86 (.iadr 1 (tm 85) (ki 1)), od 87 (ld 1 86), om 4 87] [kp [4] []]) .ret) (.seq (.reg [om 89 0, od 90 (.bin .eql (tm 89) (ku 11)), om 88 90] [kp [0, 1, 5, 6, 88] []]) (.cond (tm 88) (.seq (.reg [om 91 1, od 92
 (.iadr 1 (tm 91) (ki 2)), od 93 (ld 1 92), om 4 93] [kp [4] []]) .ret) (.seq (.reg [om 95 0, od 96 (.bin .eql (tm 95) (ku 12)), om 97 96, oT 98 (.mv (tm 1)) 97, oT 99 (.iadr 1 (tm 98) (ki 0)) 97, oT 100 (ld 1 99) 97, oT 101 (.bin
 .eql (tm 100) (ki 0)) 97, od 102 (.pick (tm 97) (tm 101) kF), om 103 102, oF 104 (.mv (tm 0)) 103, oF 105 (.bin .eql (tm 104) (ku 13)) 103, oF 106 (.mv (tm 105)) 103, oT 107 (.mv (tm 5)) 106, oT 108 (.mv (tm 6)) 106, oT 109 (.bin
 .add (tm 107) (tm 108)) 106, oT 110 (.bin .eql (tm 109) (ki 0)) 106, oF 111 (.pick (tm 106) (tm 110) kF) 103, od 112 (.pick (tm 103) kT (tm 111)), om 94 112] [kp [0, 1, 5, 6, 94] []]) (.cond (tm 94) (.seq (.reg [od 4 (.mv (ki 2))]
 [kp [4] []]) .ret) (.seq (.reg [om 114 0, od 115 (.bin .eql (tm 114) (ku 12)), om 113 115] [kp [0, 1, 5, 6, 113] []]) (.cond (tm 113) (.seq (.reg [om 116 1, od 117 (.iadr 1 (tm 116) (ki 1)), od 118 (ld 1 117), om 4 118] [kp [4]
 []]) .ret) (.seq (.reg [om 120 0, od 121 (.bin .eql (tm 120) (ku 13)), om 122 121, oT 123 (.mv (tm 5)) 122, oT 124 (.bin .gtr (tm 123) (ki 0)) 122, od 125 (.pick (tm 122) (tm 124) kF), om 126 125, oT 127 (.mv (tm 6)) 126, oT 128
 (.bin .gtr (tm 127) (ki 0)) 126, od 129 (.pick (tm 126) (tm 128) kF), om 119 129] [kp [5, 119] []]) (.cond (tm 119) (.seq (.reg [od 4 (.mv (ki 3))] [kp [4] []]) .ret) .skip))))))))))))))))))))) (.seq (.reg [om 130 5, od 131 (.bin
 .gtr (tm 130) (ki 0)), od 132 (.call 209 [(tm 131)]), om 4 132] [kp [4] []]) .ret)))))
def Am : List RV := [.tmp 4]
/- probecard/probecardref01.Allowed (function 157) -/
abbrev Dw : IC := (.seq (.reg [od 4 (.mv kF)] [kp [0, 1] []]) (.seq (.block 0 (.seq (.reg [om 6 0, od 7 (.bin .eql (tm 6) (ku 1)), om 8 7, oF 9 (.mv (tm 0)) 8, oF 10 (.bin .eql (tm 9) (ku 2)) 8, od 11 (.pick (tm 8) kT (tm 10)), om 5 11] [kp [0, 1,
 5] []]) (.cond (tm 5) (.seq (.reg [om 12 1, od 13 (.bin .eql (tm 12) (ki 0)), om 4 13] [kp [4] []]) .ret) (.seq (.reg [om 15 0, od 16 (.bin .eql (tm 15) (ku 3)), om 17 16, oF 18 (.mv (tm 0)) 17, oF 19 (.bin .eql (tm 18) (ku 4)) 17,
 od 20 (.pick (tm 17) kT (tm 19)), om 14 20] [kp [0, 1, 14] []]) (.cond (tm 14) (.seq (.reg [om 21 1, od 22 (.bin .eql (tm 21) (ki 1)), om 4 22] [kp [4] []]) .ret) (.seq (.reg [om 24 0, od 25 (.bin .eql (tm 24) (ku 11)), om 23 25]
 [kp [0, 1, 23] []]) (.cond (tm 23) (.seq (.reg [om 26 1, od 27 (.bin .eql (tm 26) (ki 3)), om 4 27] [kp [4] []]) .ret) (.seq (.reg [om 29 0, od 30 (.bin .eql (tm 29) (ku 12)), om 28 30] [kp [0, 1, 28] []]) (.cond (tm 28) (.seq
 (.reg [om 31 1, od 32 (.bin .eql (tm 31) (ki 2)), om 4 32] [kp [4] []]) .ret) (.seq (.reg [om 34 0, od 35 (.bin .eql (tm 34) (ku 13)), om 33 35] [kp [0, 1, 33] []]) (.cond (tm 33) (.seq (.reg [om 36 1, od 37 (.bin .geq (tm 36) (ki
 1)), om 38 37, oT 39 (.mv (tm 1)) 38, oT 40 (.bin .leq (tm 39) (ki 16)) 38, od 41 (.pick (tm 38) (tm 40) kF), om 4 41] [kp [4] []]) .ret) .skip))))))))))) (.seq (.reg [om 42 0, od 43 (.bin .geq (tm 42) (ku 5)), om 44 43, oT 45 (.mv
 (tm 0)) 44, oT 46 (.bin .leq (tm 45) (ku 10)) 44, od 47 (.pick (tm 44) (tm 46) kF), om 48 47, oT 49 (.mv (tm 1)) 48, oT 50 (.bin .geq (tm 49) (ki 2)) 48, od 51 (.pick (tm 48) (tm 50) kF), om 52 51, oT 53 (.mv (tm 1)) 52, oT 54
 (.bin .leq (tm 53) (ki 16)) 52, od 55 (.pick (tm 52) (tm 54) kF), om 4 55] [kp [4] []]) .ret)))
def Dx : List RV := [.tmp 4]
/- probecard/probecardref01.Results (function 180) -/
abbrev Xx : IC := .gh (.seq (.seq (.reg [om 27 9, om 28 8, od 29 (le 0 28), od 30 (.bin .lss (tm 27) (tm 29))] [kp [0, 1, 2, 7, 8, 9, 30] [45]]) (.cond (tm 30) .skip (.exit 0))) (.seq (.block 1 (.reg [om 33 7, om 34 0, om 35 1, om 36 2, od 37 (.appN
 3 1 (tm 36)), om 38 8, om 39 9, od 40 (.iadT 1 (tm 38) (tm 39)), od 41 (.ldT 1 false (tm 40)), od 42 (.bsl true 3 1 [(tm 41)]), od 43 (.app false 3 1 (tm 37) (tm 42)), od 44 (.call 180 [(tm 34), (tm 35), (tm 43)]), od 45 (.app
 false 3 1 (tm 33) (tm 44)), om 7 45] [kp [0, 1, 2, 7, 8, 9] [45]])) (.reg [om 31 9, od 32 (.bin .add (tm 31) (ki 1)), om 9 32] [kp [0, 1, 2, 7, 8, 9] [45]]))) [kp [0, 1, 2, 7, 8, 9] [45]]
def Jn : IC := .loop Xx
abbrev Py : IC := (.seq (.reg [od 6 (.mv kN)] [kp [0, 1, 2] []]) (.seq (.seq (.reg [om 10 2, od 11 (le 0 10), om 12 1, od 13 (le 0 12), od 14 (.bin .eql (tm 11) (tm 13))] [kp [0, 1, 2, 14] []]) (.cond (tm 14) (.seq (.reg [om 15 0, om 16 2, od 17
 (.call 198 [(tm 15), (tm 16)]), od 18 (.bsl false 3 1 [(tm 17)]), om 6 18] [kp [6] [18, 45]]) .ret) .skip)) (.seq (.reg [od 7 (.mv kN)] [.nl 7 45 3 1, kp [0, 1, 2, 7] [45]]) (.seq (.reg [om 19 1, om 20 2, od 21 (le 0 20), od 22 (ia
 1 19 21), od 23 (ld 1 22), om 24 0, od 25 (.bin .eql (tm 24) (ku 13)), od 26 (.call 197 [(tm 23), (tm 25)]), om 8 26] [kp [0, 1, 2, 7, 8] [45]]) (.seq (.seq (.reg [od 9 (.mv (ki 0))] [kp [0, 1, 2, 7, 8, 9] [45]]) (.block 0
 Jn)) (.seq (.reg [om 46 7, om 6 46] [kp [6] [18, 45]]) .ret))))))
theorem Qx (h : ∀ K : St → Prop, K = run P Γ Jn Q → run P Γ Xx (An K Q) s) : run P Γ Jn Q s := Af h
def Pz : List RV := [.tmp 6]
/- probecard/probecardref01.counted (function 179) -/
abbrev Xy : IC := .gh (.seq (.seq (.reg [om 58 13, om 59 7, od 60 (le 0 59), od 61 (.bin .lss (tm 58) (tm 60))] [kp [0, 1, 5, 6, 7, 8, 9, 10, 11, 12, 13, 61] [11, 78]]) (.cond (tm 61) .skip (.exit 6))) (.seq (.block 7 (.reg [om 64 12, om 65 64, oF
 66 (.mv (tm 7)) 65, oF 67 (.mv (tm 13)) 65, oF 68 (ia 3 66 67) 65, oF 69 (lG 3 68) 65, oF 70 (lG 3 11) 65, oF 71 (.eqg true [(some .i64), (some .i64), (some .i64)] (tm 69) (tm 70)) 65, od 72 (.pick (tm 65) kT (tm 71)), om 12 72]
 [kp [0, 1, 5, 6, 7, 8, 9, 10, 11, 12, 13] [11, 78]])) (.reg [om 62 13, od 63 (.bin .add (tm 62) (ki 1)), om 13 63] [kp [0, 1, 5, 6, 7, 8, 9, 10, 11, 12, 13] [11, 78]]))) [kp [0, 1, 5, 6, 7, 8, 9, 10, 11, 12, 13] [11, 78]]
def Jo : IC := .loop Xy
abbrev Xz : IC := .gh (.seq (.seq (.reg [om 40 10, om 41 8, od 42 (le 0 41), od 43 (.bin .lss (tm 40) (tm 42))] [kp [0, 1, 5, 6, 7, 8, 9, 10, 43] [78]]) (.cond (tm 43) .skip (.exit 4))) (.seq (.block 5 (.seq (.reg [om 46 5, om 47 9, od 48 (ia 3 46
 47), od 49 (lG 3 48), od 11 (.alloc false [(.int .i64 0), (.int .i64 0), (.int .i64 0)]), on (.store 3 (tm 11) (tm 49))] [kp [0, 1, 5, 6, 7, 8, 9, 10, 11] [11, 78]]) (.seq (.reg [om 50 8, om 51 10, od 52 (ia 1 50 51), od 53 (ld 1
 52), od 54 (.iadrA 3 1 (tm 11) (tm 53)), od 55 (ld 1 54), od 56 (.bin .add (tm 55) (ki 1)), od 57 (.iadrA 3 1 (tm 11) (tm 53)), on (.store 1 (tm 57) (tm 56))] [kp [0, 1, 5, 6, 7, 8, 9, 10, 11] [11, 78]]) (.seq (.reg [od 12 (.mv
 kF)] [kp [0, 1, 5, 6, 7, 8, 9, 10, 11, 12] [11, 78]]) (.seq (.seq (.reg [od 13 (.mv (ki 0))] [kp [0, 1, 5, 6, 7, 8, 9, 10, 11, 12, 13] [11, 78]]) (.block 6 Jo)) (.seq (.reg [om 73 12, od 74 (.un .not (tm 73))] [kp [0,
 1, 5, 6, 7, 8, 9, 10, 11, 74] [11, 78]]) (.cond (tm 74) (.reg [om 75 7, od 76 (lG 3 11), od 77 (.bsl true 248 3 [(tm 76)]), od 78 (.app false 248 3 (tm 75) (tm 77)), om 7 78] [kp [0, 1, 5, 6, 7, 8, 9, 10] [78]]) .skip))))))) (.reg
 [om 44 10, od 45 (.bin .add (tm 44) (ki 1)), om 10 45] [kp [0, 1, 5, 6, 7, 8, 9, 10] [78]]))) [kp [0, 1, 5, 6, 7, 8, 9, 10] [78]]
def Jp : IC := .loop Xz
abbrev Y0 : IC := .gh (.seq (.seq (.reg [om 34 9, om 35 5, od 36 (le 0 35), od 37 (.bin .lss (tm 34) (tm 36))] [kp [0, 1, 5, 6, 7, 8, 9, 37] [78]]) (.cond (tm 37) .skip (.exit 2))) (.seq (.block 3 (.seq (.reg [od 10 (.mv (ki 0))] [kp [0, 1, 5, 6, 7,
 8, 9, 10] [78]]) (.block 4 Jp))) (.reg [om 38 9, od 39 (.bin .add (tm 38) (ki 1)), om 9 39] [kp [0, 1, 5, 6, 7, 8, 9] [78]]))) [kp [0, 1, 5, 6, 7, 8, 9] [78]]
def Jq : IC := .loop Y0
abbrev Y1 : IC := .gh (.seq (.seq (.reg [om 21 6, om 22 1, od 23 (le 0 22), od 24 (.bin .lss (tm 21) (tm 23))] [kp [0, 1, 5, 6, 24] [78]]) (.cond (tm 24) .skip (.exit 0))) (.seq (.block 1 (.seq (.reg [od 7 (.mv kN)] [.nl 7 78 248 3, kp [0, 1, 5, 6,
 7] [78]]) (.seq (.reg [om 27 1, om 28 6, od 29 (ia 1 27 28), od 30 (ld 1 29), om 31 0, od 32 (.bin .eql (tm 31) (ku 13)), od 33 (.call 197 [(tm 30), (tm 32)]), om 8 33] [kp [0, 1, 5, 6, 7, 8] [78]]) (.seq (.seq (.reg [od 9 (.mv (ki
 0))] [kp [0, 1, 5, 6, 7, 8, 9] [78]]) (.block 2 Jq)) (.reg [om 79 7, om 5 79] [.frz 78, kp [0, 1, 5, 6] [78]]))))) (.reg [om 25 6, od 26 (.bin .add (tm 25) (ki 1)), om 6 26] [kp [0, 1, 5, 6] [78]]))) [kp [0, 1, 5, 6]
 [78]]
def Jr : IC := .loop Y1
abbrev Y2 : IC := .gh (.seq (.seq (.reg [om 90 18, om 91 5, om 92 15, om 93 17, od 94 (ia 3 91 92), od 95 (.iadrA 3 1 (tm 94) (tm 93)), od 96 (ld 1 95), od 97 (.bin .lss (tm 90) (tm 96))] [kp [0, 5, 14, 15, 16, 17, 18, 97] [78, 103, 109]]) (.cond
 (tm 97) .skip (.exit 12))) (.seq (.block 13 (.reg [om 100 16, om 101 17, od 102 (.bsl true 3 1 [(tm 101)]), od 103 (.app false 3 1 (tm 100) (tm 102)), om 16 103] [kp [0, 5, 14, 15, 16, 17, 18] [78, 103, 109]])) (.reg [om 98 18, od
 99 (.bin .add (tm 98) (ki 1)), om 18 99] [kp [0, 5, 14, 15, 16, 17, 18] [78, 103, 109]]))) [kp [0, 5, 14, 15, 16, 17, 18] [78, 103, 109]]
def Js : IC := .loop Y2
abbrev Wb : IC := .gh (.seq (.seq (.reg [om 86 17, od 87 (.bin .lss (tm 86) (ki 3))] [kp [0, 5, 14, 15, 16, 17, 87] [78, 103, 109]]) (.cond (tm 87) .skip (.exit 10))) (.seq (.block 11 (.seq (.reg [od 18 (.mv (ki 0))] [kp [0, 5, 14, 15, 16, 17, 18]
 [78, 103, 109]]) (.block 12 Js))) (.reg [om 88 17, od 89 (.bin .add (tm 88) (ki 1)), om 17 89] [kp [0, 5, 14, 15, 16, 17] [78, 103, 109]]))) [kp [0, 5, 14, 15, 16, 17] [78, 103, 109]]
def Iu : IC := .loop Wb
abbrev Wc : IC := .gh (.seq (.seq (.reg [om 80 15, om 81 5, od 82 (le 0 81), od 83 (.bin .lss (tm 80) (tm 82))] [kp [0, 5, 14, 15, 83] [78, 109]]) (.cond (tm 83) .skip (.exit 8))) (.seq (.block 9 (.seq (.reg [od 16 (.mv kN)] [.nl 16 103 3 1, kp [0,
 5, 14, 15, 16] [78, 103, 109]]) (.seq (.seq (.reg [od 17 (.mv (ki 0))] [kp [0, 5, 14, 15, 16, 17] [78, 103, 109]]) (.block 10 Iu)) (.reg [om 104 14, om 105 0, om 106 16, od 107 (.call 198 [(tm 105), (tm 106)]), od
 108 (.bsl true 3 1 [(tm 107)]), od 109 (.app false 3 1 (tm 104) (tm 108)), om 14 109] [kp [0, 5, 14, 15] [78, 109]])))) (.reg [om 84 15, od 85 (.bin .add (tm 84) (ki 1)), om 15 85] [kp [0, 5, 14, 15] [78, 109]]))) [kp [0, 5, 14,
 15] [78, 109]]
def Iw : IC := .loop Wc
abbrev Y3 : IC := (.seq (.reg [od 4 (.mv kN)] [kp [0, 1] []]) (.seq (.reg [od 19 (.build [(3, (.const (.agg #[(.int .i64 0), (.int .i64 0), (.int .i64 0)])))]), od 20 (.bsl true 248 3 [(tm 19)]), om 5 20] [kp [0, 1, 5] [78]]) (.seq (.seq (.reg [od 6
 (.mv (ki 0))] [kp [0, 1, 5, 6] [78]]) (.block 0 Jr)) (.seq (.reg [od 14 (.mv kN)] [.nl 14 109 3 1, kp [0, 5, 14] [78, 109]]) (.seq (.seq (.reg [od 15 (.mv (ki 0))] [kp [0, 5, 14, 15] [78, 109]]) (.block 8
 Iw)) (.seq (.reg [om 110 14, om 4 110] [kp [4] [109]]) .ret))))))
theorem Qy (h : ∀ K : St → Prop, K = run P Γ Jo Q → run P Γ Xy (An K Q) s) : run P Γ Jo Q s := Af h
theorem Qz (h : ∀ K : St → Prop, K = run P Γ Jp Q → run P Γ Xz (An K Q) s) : run P Γ Jp Q s := Af h
theorem R2 (h : ∀ K : St → Prop, K = run P Γ Jq Q → run P Γ Y0 (An K Q) s) : run P Γ Jq Q s := Af h
theorem R7 (h : ∀ K : St → Prop, K = run P Γ Jr Q → run P Γ Y1 (An K Q) s) : run P Γ Jr Q s := Af h
theorem R9 (h : ∀ K : St → Prop, K = run P Γ Js Q → run P Γ Y2 (An K Q) s) : run P Γ Js Q s := Af h
theorem Fg (h : ∀ K : St → Prop, K = run P Γ Iu Q → run P Γ Wb (An K Q) s) : run P Γ Iu Q s := Af h
theorem P3 (h : ∀ K : St → Prop, K = run P Γ Iw Q → run P Γ Wc (An K Q) s) : run P Γ Iw Q s := Af h
def Y4 : List RV := [.tmp 4]
/- probecard/probecardref01.Apply (function 158) -/
abbrev q10 : IC := .gh (.seq (.seq (.reg [om 24 6, om 25 5, od 26 (le 0 25), od 27 (.bin .lss (tm 24) (tm 26))] [kp [5, 6, 27] []]) (.cond (tm 27) .skip (.exit 0))) (.seq (.block 1 (.seq (.reg [om 30 5, om 31 6, od 32 (ia 1 30 31), od 33 (ld 1 32),
 om 34 5, od 35 (.iadr 1 (tm 34) (ki 0)), od 36 (ld 1 35), od 37 (.bin .neq (tm 33) (tm 36))] [kp [5, 6, 37] []]) (.cond (tm 37) (.seq (.reg [od 4 (.mv (ku 2))] [kp [4] []]) .ret) .skip))) (.reg [om 28 6, od 29 (.bin .add (tm 28)
 (ki 1)), om 6 29] [kp [5, 6] []]))) [kp [5, 6] []]
def Jc : IC := .loop q10
abbrev Jd : IC := (.seq (.reg [od 4 (.mv (ku 0))] [kp [0, 1] []]) (.seq (.reg [od 7 (.bsl true 3 1 []), om 5 7] [kp [0, 1] []]) (.seq (.seq (.reg [om 8 0, od 9 (.bin .geq (tm 8) (ku 5)), om 10 9, oT 11 (.mv (tm 0)) 10, oT 12 (.bin .leq (tm 11) (ku
 10)) 10, od 13 (.pick (tm 10) (tm 12) kF), om 14 13, oF 15 (.mv (tm 0)) 14, oF 16 (.bin .eql (tm 15) (ku 13)) 14, od 17 (.pick (tm 14) kT (tm 16))] [kp [0, 1, 17] []]) (.cond (tm 17) (.reg [om 18 0, om 19 1, od 20 (.call 179 [(tm
 18), (tm 19)]), om 5 20] [kp [5] []]) (.reg [om 21 0, om 22 1, od 23 (.call 180 [(tm 21), (tm 22), kN]), om 5 23] [kp [5] []]))) (.seq (.seq (.reg [od 6 (.mv (ki 0))] [kp [5, 6] []]) (.block 0 Jc)) (.seq (.reg [od 38
 (.bsl true 68 1 [(ku 0), (ku 1), (ku 3), (ku 2)]), om 39 5, od 40 (.iadr 1 (tm 39) (ki 0)), od 41 (ld 1 40), od 42 (ia 1 38 41), od 43 (ld 1 42), om 4 43] [kp [4] []]) .ret)))))
theorem V6 (h : ∀ K : St → Prop, K = run P Γ Jc Q → run P Γ q10 (An K Q) s) : run P Γ Jc Q s := Af h
def Je : List RV := [.tmp 4]
/- probecard/probecardref01.Eval (function 125) -/
abbrev Wy : IC := (.seq (.reg [od 4 (.mv (ku 0))] [kp [0, 1] []]) (.seq (.seq (.reg [om 5 0, om 6 1, od 7 (le 0 6), od 8 (.call 157 [(tm 5), (tm 7)]), od 9 (.un .not (tm 8))] [kp [0, 1, 9] []]) (.cond (tm 9) (.seq (.reg [od 4 (.mv (ku 2))] [kp [4]
 []]) .ret) .skip)) (.seq (.reg [om 10 0, om 11 1, od 12 (.call 158 [(tm 10), (tm 11)]), om 4 12] [kp [4] []]) .ret)))
def Wz : List RV := [.tmp 4]
/- probecard/probecardref03.Comb (function 124) -/
abbrev X1 : IC := (.seq (.reg [od 2 (.mv kF)] [kp [0] []]) (.seq (.reg [om 3 0, od 4 (.bin .geq (tm 3) (ku 1)), om 5 4, oT 6 (.mv (tm 0)) 5, oT 7 (.bin .leq (tm 6) (ku 13)) 5, od 8 (.pick (tm 5) (tm 7) kF), om 2 8] [kp [2] []]) .ret))
def X2 : List RV := [.tmp 2]
/- probecard/probecardref03.Of (function 59) -/
abbrev q4n : IC := .gh (.seq (.seq (.reg [om 7 6, od 8 (fa 0 2), od 9 (ld 1 8), od 10 (le 0 9), od 11 (.bin .lss (tm 7) (tm 10))] [kp [1, 2, 5, 6, 11] [25]]) (.cond (tm 11) .skip (.exit 0))) (.seq (.block 1 (.seq (.reg [od 14 (fa 0 2), od 15 (ld 1
 14), om 16 6, od 17 (ia 4 15 16), od 18 (fa 0 17), od 19 (ld 1 18), om 20 1, od 21 (.bin .eql (tm 19) (tm 20))] [kp [1, 2, 5, 6, 21] [25]]) (.cond (tm 21) (.reg [om 22 5, om 23 6, od 24 (.bsl true 3 1 [(tm 23)]), od 25 (.app false
 3 1 (tm 22) (tm 24)), om 5 25] [kp [1, 2, 5, 6] [25]]) .skip))) (.reg [om 12 6, od 13 (.bin .add (tm 12) (ki 1)), om 6 13] [kp [1, 2, 5, 6] [25]]))) [kp [1, 2, 5, 6] [25]]
def We : IC := .loop q4n
abbrev q4o : IC := (.seq (.reg [od 2 (.box true (tm 0)), od 4 (.mv kN)] [kp [1, 2] []]) (.seq (.reg [od 5 (.mv kN)] [.nl 5 25 3 1, kp [1, 2, 5] [25]]) (.seq (.seq (.reg [od 6 (.mv (ki 0))] [kp [1, 2, 5, 6] [25]]) (.block 0 We)) (.seq (.reg
 [om 26 5, om 4 26] [kp [4] [25]]) .ret))))
theorem Zf (h : ∀ K : St → Prop, K = run P Γ We Q → run P Γ q4n (An K Q) s) : run P Γ We Q s := Af h
def q4p : List RV := [.tmp 4]
/- probecard/probecardref03.Levels (function 156) -/
abbrev Zg : IC := .gh (.seq (.seq (.reg [om 33 9, od 34 (fa 1 8), od 35 (ld 1 34), od 36 (le 0 35), od 37 (.bin .lss (tm 33) (tm 36)), om 38 37, oT 39 (fa 0 8) 38, oT 40 (ld 1 39) 38, oT 41 (.call 124 [(tm 40)]) 38, od 42 (.pick (tm 38) (tm 41) kF)]
 [kp [1, 4, 5, 6, 7, 8, 9, 42] [8, 13]]) (.cond (tm 42) .skip (.exit 4))) (.seq (.block 5 (.seq (.reg [om 45 4, om 46 7, od 47 (ia 1 45 46), od 48 (ld 1 47), om 49 4, od 50 (fa 1 8), od 51 (ld 1 50), om 52 9, od 53 (ia 1 51 52), od
 54 (ld 1 53), od 55 (ia 1 49 54), od 56 (ld 1 55), od 57 (.bin .add (tm 56) (ki 1)), od 58 (.bin .lss (tm 48) (tm 57))] [kp [1, 4, 5, 6, 7, 8, 9, 58] [8, 13]]) (.cond (tm 58) (.seq (.reg [om 59 4, om 60 7, om 61 4, od 62 (fa 1 8),
 od 63 (ld 1 62), om 64 9, od 65 (ia 1 63 64), od 66 (ld 1 65), od 67 (ia 1 61 66), od 68 (ld 1 67), od 69 (.bin .add (tm 68) (ki 1)), od 70 (ia 1 59 60), on (.store 1 (tm 70) (tm 69))] [kp [1, 4, 5, 7, 8, 9] [8, 13]]) (.reg [od 6
 (.mv kT)] [kp [1, 4, 5, 6, 7, 8, 9] [8, 13]])) .skip))) (.reg [om 43 9, od 44 (.bin .add (tm 43) (ki 1)), om 9 44] [kp [1, 4, 5, 6, 7, 8, 9] [8, 13]]))) [kp [1, 4, 5, 6, 7, 8, 9] [8, 13]]
def L8 : IC := .loop Zg
abbrev Zh : IC := .gh (.seq (.seq (.reg [om 21 7, od 22 (fa 0 1), od 23 (ld 1 22), od 24 (le 0 23), od 25 (.bin .lss (tm 21) (tm 24))] [kp [1, 4, 5, 6, 7, 25] [13]]) (.cond (tm 25) .skip (.exit 2))) (.seq (.block 3 (.seq (.reg [od 28 (fa 0 1), od 29
 (ld 1 28), om 30 7, od 31 (ia 4 29 30), od 32 (lG 4 31), od 8 (.alloc false [(.int .u8 0), (.slice none 0 0), (.int .i64 0), (.int .i64 0)]), on (.store 4 (tm 8) (tm 32))] [kp [1, 4, 5, 6, 7, 8] [8, 13]]) (.seq (.reg [od 9 (.mv (ki
 0))] [kp [1, 4, 5, 6, 7, 8, 9] [8, 13]]) (.block 4 L8)))) (.reg [om 26 7, od 27 (.bin .add (tm 26) (ki 1)), om 7 27] [kp [1, 4, 5, 6, 7] [13]]))) [kp [1, 4, 5, 6, 7] [13]]
def L9 : IC := .loop Zh
abbrev Zi : IC := .gh (.seq (.seq (.reg [om 14 5, od 15 (fa 0 1), od 16 (ld 1 15), od 17 (le 0 16), od 18 (.bin .leq (tm 14) (tm 17))] [kp [1, 4, 5, 18] [13]]) (.cond (tm 18) .skip (.exit 0))) (.seq (.block 1 (.seq (.reg [od 6 (.mv kF)] [kp [1, 4,
 5, 6] [13]]) (.seq (.seq (.reg [od 7 (.mv (ki 0))] [kp [1, 4, 5, 6, 7] [13]]) (.block 2 L9)) (.seq (.reg [om 71 6, od 72 (.un .not (tm 71))] [kp [1, 4, 5, 72] [13]]) (.cond (tm 72) (.seq (.reg [om 73 4, om 2 73, od 3
 (.mv kT)] [kp [2, 3] [13]]) .ret) .skip))))) (.reg [om 19 5, od 20 (.bin .add (tm 19) (ki 1)), om 5 20] [kp [1, 4, 5] [13]]))) [kp [1, 4, 5] [13]]
def La : IC := .loop Zi
abbrev Zj : IC := (.seq (.reg [od 1 (.box true (tm 0)), od 2 (.mv kN), od 3 (.mv kF)] [kp [1] []]) (.seq (.reg [od 10 (fa 0 1), od 11 (ld 1 10), od 12 (le 0 11), od 13 (.mk 3 1 [(.int .i64 0)] (tm 12) (tm 12)), om 4 13] [kp [1, 4] [13]]) (.seq (.seq
 (.reg [od 5 (.mv (ki 0))] [kp [1, 4, 5] [13]]) (.block 0 La)) (.seq (.reg [od 2 (.mv kN), od 3 (.mv kF)] [kp [2, 3] [13]]) .ret))))
theorem Gn (h : ∀ K : St → Prop, K = run P Γ L8 Q → run P Γ Zg (An K Q) s) : run P Γ L8 Q s := Af h
theorem S8 (h : ∀ K : St → Prop, K = run P Γ L9 Q → run P Γ Zh (An K Q) s) : run P Γ L9 Q s := Af h
theorem q1V (h : ∀ K : St → Prop, K = run P Γ La Q → run P Γ Zi (An K Q) s) : run P Γ La Q s := Af h
def Zk : List RV := [.tmp 2, .tmp 3]
/- probecard/probecardref03.Order (function 123) -/
abbrev q11 : IC := .gh (.seq (.seq (.reg [om 21 7, od 22 (fa 0 1), od 23 (ld 1 22), od 24 (le 0 23), od 25 (.bin .lss (tm 21) (tm 24))] [kp [1, 3, 5, 6, 7, 25] [37]]) (.cond (tm 25) .skip (.exit 2))) (.seq (.block 3 (.seq (.reg [om 28 3, om 29 7, od
 30 (ia 1 28 29), od 31 (ld 1 30), om 32 6, od 33 (.bin .eql (tm 31) (tm 32))] [kp [1, 3, 5, 6, 7, 33] [37]]) (.cond (tm 33) (.reg [om 34 5, om 35 7, od 36 (.bsl true 3 1 [(tm 35)]), od 37 (.app false 3 1 (tm 34) (tm 36)), om 5 37]
 [kp [1, 3, 5, 6, 7] [37]]) .skip))) (.reg [om 26 7, od 27 (.bin .add (tm 26) (ki 1)), om 7 27] [kp [1, 3, 5, 6, 7] [37]]))) [kp [1, 3, 5, 6, 7] [37]]
def Oa : IC := .loop q11
abbrev q12 : IC := .gh (.seq (.seq (.reg [om 13 5, od 14 (le 0 13), od 15 (fa 0 1), od 16 (ld 1 15), od 17 (le 0 16), od 18 (.bin .lss (tm 14) (tm 17))] [kp [1, 3, 5, 6, 18] [37]]) (.cond (tm 18) .skip (.exit 0))) (.seq (.block 1 (.seq (.reg [od 7
 (.mv (ki 0))] [kp [1, 3, 5, 6, 7] [37]]) (.block 2 Oa))) (.reg [om 19 6, od 20 (.bin .add (tm 19) (ki 1)), om 6 20] [kp [1, 3, 5, 6] [37]]))) [kp [1, 3, 5, 6] [37]]
def Ob : IC := .loop q12
abbrev q13 : IC := (.seq (.reg [od 1 (.box true (tm 0)), od 2 (.mv kN)] [kp [1] []]) (.seq (.reg [od 9 (lG 4 1), od 10 (.call 156 [(tm 9)]), om 8 10, od 11 (ex 8 0), od 12 (ex 8 1), om 3 11, om 4 12] [kp [1, 3] []]) (.seq (.reg [od 5 (.mv kN)] [.nl 5
 37 3 1, kp [1, 3, 5] [37]]) (.seq (.seq (.reg [od 6 (.mv (ki 0))] [kp [1, 3, 5, 6] [37]]) (.block 0 Ob)) (.seq (.reg [om 38 5, om 2 38] [kp [2] [37]]) .ret)))))
theorem V7 (h : ∀ K : St → Prop, K = run P Γ Oa Q → run P Γ q11 (An K Q) s) : run P Γ Oa Q s := Af h
theorem q2b (h : ∀ K : St → Prop, K = run P Γ Ob Q → run P Γ q12 (An K Q) s) : run P Γ Ob Q s := Af h
def q14 : List RV := [.tmp 2]
/- probecard/probecardref06.value (function 61) -/
abbrev Jf : IC := (.seq (.reg [od 4 (.mv (ku 0))] [kp [0, 1] []]) (.seq (.seq (.reg [om 5 1, od 6 (.bin .lss (tm 5) (ki 0)), om 7 6, oF 8 (.mv (tm 1)) 7, oF 9 (.mv (tm 0)) 7, oF 10 (le 0 9) 7, oF 11 (.bin .geq (tm 8) (tm 10)) 7, od 12 (.pick (tm 7)
 kT (tm 11)), om 13 12, oF 14 (.mv (tm 0)) 13, oF 15 (.mv (tm 1)) 13, oF 16 (ia 1 14 15) 13, oF 17 (ld 1 16) 13, oF 18 (.bin .gtr (tm 17) (ku 3)) 13, od 19 (.pick (tm 13) kT (tm 18))] [kp [0, 1, 19] []]) (.cond (tm 19) (.seq (.reg
 [od 4 (.mv (ku 2))] [kp [4] []]) .ret) .skip)) (.seq (.reg [om 20 0, om 21 1, od 22 (ia 1 20 21), od 23 (ld 1 22), om 4 23] [kp [4] []]) .ret)))
def Jg : List RV := [.tmp 4]
/- probecard/probecardref06.Observe (function 17) -/
abbrev Y5 : IC := .gh (.seq (.seq (.reg [om 10 6, od 11 (fa 3 2), od 12 (ld 1 11), od 13 (le 0 12), od 14 (.bin .lss (tm 10) (tm 13))] [kp [1, 2, 4, 5, 6, 14] [4, 5, 27, 67]]) (.cond (tm 14) .skip (.exit 0))) (.seq (.block 1 (.reg [od 17 (fa 0 5),
 od 18 (.ldR 5 1 false (tm 17)), om 19 1, od 20 (fa 3 2), od 21 (.ldT 1 false (tm 20)), om 22 6, od 23 (ia 1 21 22), od 24 (.ldT 1 false (tm 23)), od 25 (.call 61 [(tm 19), (tm 24)]), od 26 (.bsl true 68 1 [(tm 25)]), od 27 (.app
 false 68 1 (tm 18) (tm 26)), od 28 (fa 0 5), on (.stR 5 1 (tm 28) (tm 27))] [kp [1, 2, 4, 5, 6] [4, 5, 27, 67]])) (.reg [om 15 6, od 16 (.bin .add (tm 15) (ki 1)), om 6 16] [kp [1, 2, 4, 5, 6] [4, 5, 27, 67]]))) [kp [1, 2, 4, 5, 6]
 [4, 5, 27, 67]]
def Jt : IC := .loop Y5
abbrev Y6 : IC := .gh (.seq (.seq (.reg [om 31 8, om 32 7, od 33 (le 0 32), od 34 (.bin .lss (tm 31) (tm 33))] [kp [1, 2, 4, 5, 7, 8, 34] [4, 5, 27, 67]]) (.cond (tm 34) .skip (.exit 2))) (.seq (.block 3 (.seq (.reg [od 9 (.mv (ku 2))] [kp [1, 2, 4,
 5, 7, 8, 9] [4, 5, 27, 67]]) (.seq (.seq (.reg [od 37 (fa 0 2), od 38 (ld 1 37), om 39 7, om 40 8, od 41 (ia 1 39 40), od 42 (ld 1 41), od 43 (ia 4 38 42), od 44 (fa 1 43), od 45 (ld 1 44), od 46 (le 0 45), od 47 (.bin .eql (tm 46)
 (ki 1))] [kp [1, 2, 4, 5, 7, 8, 9, 47] [4, 5, 27, 67]]) (.cond (tm 47) (.reg [om 48 1, od 49 (fa 0 2), od 50 (ld 1 49), om 51 7, om 52 8, od 53 (ia 1 51 52), od 54 (ld 1 53), od 55 (ia 4 50 54), od 56 (fa 1 55), od 57 (ld 1 56), od
 58 (.iadr 1 (tm 57) (ki 0)), od 59 (ld 1 58), od 60 (.call 61 [(tm 48), (tm 59)]), om 9 60] [kp [1, 2, 4, 5, 7, 8, 9] [4, 5, 27, 67]]) .skip)) (.seq (.seq (.reg [om 61 9, od 62 (.bin .eql (tm 61) (ku 3))] [kp [1, 2, 4, 5, 7, 8, 9,
 62] [4, 5, 27, 67]]) (.cond (tm 62) (.reg [od 9 (.mv (ku 2))] [kp [1, 2, 4, 5, 7, 8, 9] [4, 5, 27, 67]]) .skip)) (.reg [od 63 (fa 1 5), od 64 (ld 1 63), om 65 9, od 66 (.bsl true 68 1 [(tm 65)]), od 67 (.app false 68 1 (tm 64) (tm
 66)), od 68 (fa 1 5), on (.store 1 (tm 68) (tm 67))] [kp [1, 2, 4, 5, 7, 8] [4, 5, 27, 67]]))))) (.reg [om 35 8, od 36 (.bin .add (tm 35) (ki 1)), om 8 36] [kp [1, 2, 4, 5, 7, 8] [4, 5, 27, 67]]))) [kp [1, 2, 4, 5, 7, 8] [4, 5, 27,
 67]]
def Ju : IC := .loop Y6
abbrev Y7 : IC := (.seq (.reg [od 2 (.box true (tm 0)), od 4 (.alloc false [(.slice none 0 0), (.slice none 0 0)])] [kp [1, 2, 4] [4, 27, 67]]) (.seq (.reg [od 5 (.alloc false [(.slice none 0 0), (.slice none 0 0)])] [.nlb 5 0 27 68 1, .nlb 5 1 67
 68 1, kp [1, 2, 4, 5] [4, 5, 27, 67]]) (.seq (.seq (.reg [od 6 (.mv (ki 0))] [kp [1, 2, 4, 5, 6] [4, 5, 27, 67]]) (.block 0 Jt)) (.seq (.reg [od 29 (lG 4 2), od 30 (.call 59 [(tm 29), (ku 14)]), om 7 30] [kp [1, 2, 4,
 5, 7] [4, 5, 27, 67]]) (.seq (.seq (.reg [od 8 (.mv (ki 0))] [kp [1, 2, 4, 5, 7, 8] [4, 5, 27, 67]]) (.block 2 Ju)) (.seq (.reg [od 69 (lG 2 5), on (.store 2 (tm 4) (tm 69))] [kp [4] [4, 27, 67]]) .ret))))))
theorem Rb (h : ∀ K : St → Prop, K = run P Γ Jt Q → run P Γ Y5 (An K Q) s) : run P Γ Jt Q s := Af h
theorem Re (h : ∀ K : St → Prop, K = run P Γ Ju Q → run P Γ Y6 (An K Q) s) : run P Γ Ju Q s := Af h
def Y8 : List RV := [.cell 4 2 true]
/- probecard/probecardref06.Settle (function 60) -/
abbrev Zl : IC := .gh (.seq (.seq (.reg [om 29 10, od 30 (fa 1 8), od 31 (ld 1 30), od 32 (le 0 31), od 33 (.bin .lss (tm 29) (tm 32))] [kp [2, 5, 6, 7, 8, 9, 10, 33] [8, 12, 46]]) (.cond (tm 33) .skip (.exit 2))) (.seq (.block 3 (.reg [om 36 9, om
 37 5, od 38 (fa 1 8), od 39 (ld 1 38), om 40 10, od 41 (ia 1 39 40), od 42 (ld 1 41), od 43 (ia 1 37 42), od 44 (ld 1 43), od 45 (.bsl true 68 1 [(tm 44)]), od 46 (.app false 68 1 (tm 36) (tm 45)), om 9 46] [kp [2, 5, 6, 7, 8, 9,
 10] [8, 12, 46]])) (.reg [om 34 10, od 35 (.bin .add (tm 34) (ki 1)), om 10 35] [kp [2, 5, 6, 7, 8, 9, 10] [8, 12, 46]]))) [kp [2, 5, 6, 7, 8, 9, 10] [8, 12, 46]]
def Lc : IC := .loop Zl
abbrev Zm : IC := .gh (.seq (.seq (.reg [om 15 7, om 16 6, od 17 (le 0 16), od 18 (.bin .lss (tm 15) (tm 17))] [kp [2, 5, 6, 7, 18] [12]]) (.cond (tm 18) .skip (.exit 0))) (.seq (.block 1 (.seq (.reg [od 21 (fa 0 2), od 22 (.ldT 1 false (tm 21)), om
 23 6, om 24 7, od 25 (ia 1 23 24), od 26 (.ldT 1 false (tm 25)), od 27 (ia 4 22 26), od 28 (.ldT 4 true (tm 27)), od 8 (.alloc false [(.int .u8 0), (.slice none 0 0), (.int .i64 0), (.int .i64 0)]), on (.stR 8 4 (tm 8) (tm 28))]
 [kp [2, 5, 6, 7, 8] [8, 12]]) (.seq (.reg [od 9 (.mv kN)] [.nl 9 46 68 1, kp [2, 5, 6, 7, 8, 9] [8, 12, 46]]) (.seq (.seq (.reg [od 10 (.mv (ki 0))] [kp [2, 5, 6, 7, 8, 9, 10] [8, 12, 46]]) (.block 2 Lc)) (.seq (.reg
 [od 47 (fa 0 8), od 48 (ld 1 47), od 49 (.call 124 [(tm 48)])] [kp [2, 5, 6, 7, 8, 9, 49] [8, 12, 46]]) (.cond (tm 49) (.reg [om 50 5, om 51 6, om 52 7, od 53 (ia 1 51 52), od 54 (.ldT 1 false (tm 53)), od 55 (fa 0 8), od 56 (.ldR
 8 1 false (tm 55)), om 57 9, od 58 (.call 125 [(tm 56), (tm 57)]), od 59 (ia 1 50 54), on (.stR 12 1 (tm 59) (tm 58))] [kp [2, 5, 6, 7] [12]]) .skip)))))) (.reg [om 19 7, od 20 (.bin .add (tm 19) (ki 1)), om 7 20] [kp [2, 5, 6, 7]
 [12]]))) [kp [2, 5, 6, 7] [12]]
def Ld : IC := .loop Zm
abbrev Zn : IC := (.seq (.reg [od 2 (.box true (tm 0)), od 4 (.mv kN)] [kp [1, 2] []]) (.seq (.reg [om 11 1, od 12 (.app false 68 1 kN (tm 11)), om 5 12] [kp [2, 5] [12]]) (.seq (.reg [od 13 (lG 4 2), od 14 (.call 123 [(tm 13)]), om 6 14] [kp [2, 5,
 6] [12]]) (.seq (.seq (.reg [od 7 (.mv (ki 0))] [kp [2, 5, 6, 7] [12]]) (.block 0 Ld)) (.seq (.reg [om 60 5, om 4 60] [kp [4] [12]]) .ret)))))
theorem S9 (h : ∀ K : St → Prop, K = run P Γ Lc Q → run P Γ Zl (An K Q) s) : run P Γ Lc Q s := Af h
theorem Si (h : ∀ K : St → Prop, K = run P Γ Ld Q → run P Γ Zm (An K Q) s) : run P Γ Ld Q s := Af h
def Zo : List RV := [.tmp 4]
/- probecard/probecardref06.Nets (function 16) -/
abbrev q1v : IC := .gh (.seq (.seq (.reg [om 15 7, om 16 6, od 17 (le 0 16), od 18 (.bin .lss (tm 15) (tm 17))] [kp [2, 3, 5, 6, 7, 18] [12]]) (.cond (tm 18) .skip (.exit 0))) (.seq (.block 1 (.reg [om 21 5, om 22 6, om 23 7, od 24 (ia 1 22 23), od
 25 (.ldT 1 false (tm 24)), od 26 (fa 0 3), od 27 (.ldT 1 false (tm 26)), om 28 7, od 29 (ia 1 27 28), od 30 (.ldT 1 false (tm 29)), od 31 (ia 1 21 25), on (.stR 12 1 (tm 31) (tm 30))] [kp [2, 3, 5, 6, 7] [12]])) (.reg [om 19 7, od
 20 (.bin .add (tm 19) (ki 1)), om 7 20] [kp [2, 3, 5, 6, 7] [12]]))) [kp [2, 3, 5, 6, 7] [12]]
def Qb : IC := .loop q1v
abbrev q1w : IC := .gh (.seq (.seq (.reg [om 34 8, om 35 6, od 36 (le 0 35), od 37 (.bin .lss (tm 34) (tm 36))] [kp [2, 3, 5, 6, 8, 37] [12]]) (.cond (tm 37) .skip (.exit 2))) (.seq (.block 3 (.reg [om 40 5, om 41 6, om 42 8, od 43 (ia 1 41 42), od
 44 (.ldT 1 false (tm 43)), od 45 (fa 1 3), od 46 (.ldT 1 false (tm 45)), om 47 8, od 48 (ia 1 46 47), od 49 (.ldT 1 false (tm 48)), od 50 (ia 1 40 44), on (.stR 12 1 (tm 50) (tm 49))] [kp [2, 3, 5, 6, 8] [12]])) (.reg [om 38 8, od
 39 (.bin .add (tm 38) (ki 1)), om 8 39] [kp [2, 3, 5, 6, 8] [12]]))) [kp [2, 3, 5, 6, 8] [12]]
def Qc : IC := .loop q1w
abbrev q1x : IC := (.seq (.reg [od 2 (.box true (tm 0)), od 3 (.box true (tm 1)), od 4 (.mv kN)] [kp [2, 3] []]) (.seq (.reg [od 9 (fa 0 2), od 10 (ld 1 9), od 11 (le 0 10), od 12 (.mk 68 1 [(.int .u8 0)] (tm 11) (tm 11)), om 5 12] [kp [2, 3, 5]
 [12]]) (.seq (.reg [od 13 (lG 4 2), od 14 (.call 59 [(tm 13), (ku 0)]), om 6 14] [kp [2, 3, 5, 6] [12]]) (.seq (.seq (.reg [od 7 (.mv (ki 0))] [kp [2, 3, 5, 6, 7] [12]]) (.block 0 Qb)) (.seq (.reg [od 32 (lG 4 2), od 33
 (.call 59 [(tm 32), (ku 14)]), om 6 33] [kp [2, 3, 5, 6] [12]]) (.seq (.seq (.reg [od 8 (.mv (ki 0))] [kp [2, 3, 5, 6, 8] [12]]) (.block 2 Qc)) (.seq (.reg [od 51 (lG 4 2), om 52 5, od 53 (.call 60 [(tm 51), (tm 52)]),
 om 4 53] [kp [4] []]) .ret)))))))
theorem Wg (h : ∀ K : St → Prop, K = run P Γ Qb Q → run P Γ q1v (An K Q) s) : run P Γ Qb Q s := Af h
theorem Wh (h : ∀ K : St → Prop, K = run P Γ Qc Q → run P Γ q1w (An K Q) s) : run P Γ Qc Q s := Af h
def q1y : List RV := [.tmp 4]
end
end Go.Lg
namespace Go.Lg
open Go Go.Proofs
theorem q3P : B7 Tryz.prog 197 Ew 20 2 Ey = true := by kernel_rfl
theorem q55 : B7 Tryz.prog 208 q0y 22 2 q0z = true := by kernel_rfl
theorem q6m : B7 Tryz.prog 209 q3N 4 1 q3O = true := by kernel_rfl
theorem q2c : B7 Tryz.prog 198 B8 133 2 Am = true := by kernel_rfl
theorem q3Q : B7 Tryz.prog 157 Dw 56 2 Dx = true := by kernel_rfl
theorem Wi : B7 Tryz.prog 180 Py 47 3 Pz = true := by kernel_rfl
theorem q3R : B7 Tryz.prog 179 Y3 111 2 Y4 = true := by kernel_rfl
theorem q56 : B7 Tryz.prog 158 Jd 44 2 Je = true := by kernel_rfl
theorem q6K : B7 Tryz.prog 125 Wy 13 2 Wz = true := by kernel_rfl
theorem q6L : B7 Tryz.prog 124 X1 9 1 X2 = true := by kernel_rfl
theorem q7s : B7 Tryz.prog 59 q4o 27 2 q4p = true := by kernel_rfl
theorem q4F : B7 Tryz.prog 156 Zj 74 1 Zk = true := by kernel_rfl
theorem q57 : B7 Tryz.prog 123 q13 39 1 q14 = true := by kernel_rfl
theorem q58 : B7 Tryz.prog 61 Jf 24 2 Jg = true := by kernel_rfl
theorem q3S : B7 Tryz.prog 17 Y7 70 2 Y8 = true := by kernel_rfl
theorem q4G : B7 Tryz.prog 60 Zn 61 2 Zo = true := by kernel_rfl
theorem q6M : B7 Tryz.prog 16 q1x 54 2 q1y = true := by kernel_rfl
def H4 (v : Int) (bus : Bool) : List Int := if v = 0 then [0] else if v = 1 then [1] else if bus = true ∧ v = 3 then [2] else if bus = true then [0, 1, 2] else [0, 1]
def B5 (l : List Int) (v : Int) : Nat := l.countP (fun x => decide (x = v))
def I9 (b : Bool) : Int := if b then 1 else 0
def I5 (k : Int) (l : List Int) : Int :=
  if k = 1 ∨ k = 2 then I9 (decide (k = 2)) else if k = 3 ∨ k = 4 then I9 (decide ((l.getD 0 0 = 1) ↔ k = 3)) else
  if k = 5 ∨ k = 6 then I9 (decide ((B5 l 0 = 0) ↔ k = 5)) else if k = 7 ∨ k = 8 then I9 (decide ((0 < B5 l 1) ↔ k = 7)) else
  if k = 9 ∨ k = 10 then I9 (decide ((B5 l 1 % 2 = 1) ↔ k = 9)) else if k = 11 ∧ l.getD 0 0 = 0 then l.getD 1 0 else if k = 11 then l.getD 2 0 else
  if k = 12 ∧ l.getD 0 0 = 0 ∨ k = 13 ∧ B5 l 1 + B5 l 0 = 0 then 2 else if k = 12 then l.getD 1 0 else if k = 13 ∧ 0 < B5 l 1 ∧ 0 < B5 l 0 then 3 else I9 (decide (0 < B5 l 1))
def q2d (l : List Int) : Int := if l.all (fun x => decide (x = l.getD 0 0)) then [0, 1, 3, 2].getD (l.getD 0 0).toNat 0 else 2
structure T3 where
  a : Int
  b : Int
  d : Int
deriving DecidableEq
def q3T (t : T3) (v : Int) : T3 := if v = 0 then ⟨t.a + 1, t.b, t.d⟩ else if v = 1 then ⟨t.a, t.b + 1, t.d⟩ else ⟨t.a, t.b, t.d + 1⟩
def q3U (L : List T3) (t : T3) : List T3 := if t ∈ L then L else L ++ [t]
def Sj (t : T3) : List Int → List T3 → List T3
  | [], L => L
  | v :: l, L => Sj t l (q3U L (q3T t v))
def Sr (cs : List Int) : List T3 → List T3 → List T3
  | [], L => L
  | t :: S, L => Sr cs S (Sj t cs L)
def V8 (bus : Bool) : List Int → List T3 → List T3
  | [], S => S
  | v :: l, S => V8 bus l (Sr (H4 v bus) S [])
def To (t : T3) : List Int := List.replicate t.a.toNat 0 ++ (List.replicate t.b.toNat 1 ++ List.replicate t.d.toNat 2)
def Jh (k : Int) (l : List Int) : List Int := (V8 (decide (k = 13)) l [⟨0, 0, 0⟩]).map fun t => I5 k (To t)
theorem q95 {L : List T3} {t x : T3} : x ∈ q3U L t ↔ x ∈ L ∨ x = t := by
  unfold q3U
  split
  · rename_i h
    exact ⟨.inl, fun h' => h'.elim id fun e => e ▸ h⟩
  · simp
theorem q4H {t x : T3} : ∀ {cs : List Int} {L : List T3}, x ∈ Sj t cs L ↔ x ∈ L ∨ ∃ v ∈ cs, x = q3T t v
  | [], L => by simp [Sj]
  | v :: l, L => by
    simp only [Sj]
    rw [q4H, q95]
    simp [or_assoc]
theorem q1K {cs : List Int} {x : T3} : ∀ {S L : List T3}, x ∈ Sr cs S L ↔ x ∈ L ∨ ∃ t ∈ S, ∃ v ∈ cs, x = q3T t v
  | [], L => by simp [Sr]
  | t :: S, L => by
    simp only [Sr]
    rw [q1K, q4H]
    simp [or_assoc]
inductive Chs (bus : Bool) : List Int → List Int → Prop
  | nil : Chs bus [] []
  | cons {y v : Int} {ys vs : List Int} : y ∈ H4 v bus → Chs bus ys vs → Chs bus (y :: ys) (v :: vs)
def q7M : List Int → T3 → T3
  | [], t => t
  | y :: ys, t => q7M ys (q3T t y)
theorem q4I {bus : Bool} {x : T3} : ∀ {l : List Int} {S : List T3}, x ∈ V8 bus l S ↔ ∃ t ∈ S, ∃ ys, Chs bus ys l ∧ x = q7M ys t
  | [], S => by
    simp only [V8]
    constructor
    · intro h; exact ⟨x, h, [], .nil, rfl⟩
    · rintro ⟨t, ht, ys, hc, rfl⟩
      cases hc; exact ht
  | v :: l, S => by
    simp only [V8]
    rw [q4I]
    constructor
    · rintro ⟨t, ht, ys, hc, rfl⟩
      rw [q1K] at ht
      rcases ht with ht | ⟨t0, ht0, y, hy, rfl⟩
      · simp at ht
      · exact ⟨t0, ht0, y :: ys, .cons hy hc, rfl⟩
    · rintro ⟨t, ht, ys, hc, rfl⟩
      cases hc with
      | cons hy hc => exact ⟨_, q1K.2 (.inr ⟨t, ht, _, hy, rfl⟩), _, hc, rfl⟩
theorem q7t {v y : Int} {bus : Bool} (h : y ∈ H4 v bus) : y = 0 ∨ y = 1 ∨ y = 2 := by
  unfold H4 at h
  split at h
  · simp at h; omega
  split at h
  · simp at h; omega
  split at h
  · simp at h; omega
  split at h <;> simp at h <;> omega
theorem qCh {bus : Bool} : ∀ {ys l : List Int}, Chs bus ys l → ∀ y ∈ ys, y = 0 ∨ y = 1 ∨ y = 2
  | _, _, .nil, _, h => by simp at h
  | _, _, .cons h1 h2, y, h => by
    rcases List.mem_cons.1 h with rfl | h
    · exact q7t h1
    · exact qCh h2 y h
theorem q4J : ∀ {ys : List Int} {t : T3}, (∀ y ∈ ys, y = 0 ∨ y = 1 ∨ y = 2) → q7M ys t = ⟨t.a + B5 ys 0, t.b + B5 ys 1, t.d + B5 ys 2⟩
  | [], t, _ => by simp [q7M, B5]
  | y :: ys, t, h => by
    simp only [q7M]
    rw [q4J fun z hz => h z (List.mem_cons_of_mem _ hz)]
    rcases h y List.mem_cons_self with rfl | rfl | rfl <;> simp [q3T, B5] <;> omega
theorem qCi {n : Nat} {a v : Int} : B5 (List.replicate n a) v = if a = v then n else 0 := by
  unfold B5
  rw [List.countP_replicate]
  simp
theorem q3V {a b : List Int} {v : Int} : B5 (a ++ b) v = B5 a v + B5 b v := List.countP_append
theorem q96 {t : T3} (ha : 0 ≤ t.a) (hb : 0 ≤ t.b) : B5 (To t) 0 = t.a.toNat ∧ B5 (To t) 1 = t.b.toNat := by
  simp [To, q3V, qCi]
def X3 (k : Int) (z o : Nat) : Int :=
  if k = 5 ∨ k = 6 then I9 (decide ((z = 0) ↔ k = 5)) else if k = 7 ∨ k = 8 then I9 (decide ((0 < o) ↔ k = 7)) else
  if k = 9 ∨ k = 10 then I9 (decide ((o % 2 = 1) ↔ k = 9)) else if o + z = 0 then 2 else if 0 < o ∧ 0 < z then 3 else I9 (decide (0 < o))
theorem qCj {k : Int} (hk : 5 ≤ k ∧ k ≤ 10 ∨ k = 13) {l : List Int} : I5 k l = X3 k (B5 l 0) (B5 l 1) := by
  have hc : k = 5 ∨ k = 6 ∨ k = 7 ∨ k = 8 ∨ k = 9 ∨ k = 10 ∨ k = 13 := by omega
  rcases hc with rfl | rfl | rfl | rfl | rfl | rfl | rfl <;> simp [I5, X3]
theorem E6 {k : Int} (hk : 5 ≤ k ∧ k ≤ 10 ∨ k = 13) {l : List Int} {x : Int} : x ∈ Jh k l ↔ ∃ ys, Chs (decide (k = 13)) ys l ∧ x = X3 k (B5 ys 0) (B5 ys 1) := by
  unfold Jh
  rw [List.mem_map]
  constructor
  · rintro ⟨t, ht, rfl⟩
    obtain ⟨t0, h0, ys, hc, rfl⟩ := q4I.1 ht
    simp at h0
    subst h0
    refine ⟨ys, hc, ?_⟩
    rw [q4J (qCh hc), qCj hk]
    have := q96 (t := ⟨0 + (B5 ys 0 : Int), 0 + (B5 ys 1 : Int), 0 + (B5 ys 2 : Int)⟩) (by simp) (by simp)
    rw [this.1, this.2]
    simp
  · rintro ⟨ys, hc, rfl⟩
    refine ⟨q7M ys ⟨0, 0, 0⟩, q4I.2 ⟨_, by simp, ys, hc, rfl⟩, ?_⟩
    rw [q4J (qCh hc), qCj hk]
    have := q96 (t := ⟨0 + (B5 ys 0 : Int), 0 + (B5 ys 1 : Int), 0 + (B5 ys 2 : Int)⟩) (by simp) (by simp)
    rw [this.1, this.2]
    simp
theorem Oc {l : List Int} {a : Int} (hne : l ≠ []) (h : ∀ x ∈ l, x = a) : q2d l = [0, 1, 3, 2].getD a.toNat 0 := by
  cases l with
  | nil => exact absurd rfl hne
  | cons y l =>
    have hy : y = a := h y List.mem_cons_self
    unfold q2d
    rw [if_pos (by
      rw [List.all_eq_true]
      intro x hx
      simp [h x hx, hy])]
    simp [hy]
theorem q3W {l : List Int} {a b : Int} (ha : a ∈ l) (hb : b ∈ l) (h : a ≠ b) : q2d l = 2 := by
  unfold q2d
  rw [if_neg]
  intro hh
  rw [List.all_eq_true] at hh
  have h1 := hh a ha
  have h2 := hh b hb
  simp at h1 h2
  exact h (h1.trans h2.symm)
theorem Qd {bus : Bool} {g : Int → Int} : ∀ {l : List Int}, (∀ v ∈ l, g v ∈ H4 v bus) → Chs bus (l.map g) l
  | [], _ => .nil
  | v :: l, h => .cons (h v List.mem_cons_self) (Qd fun u hu => h u (List.mem_cons_of_mem _ hu))
theorem qAp {bus : Bool} : ∀ {ys l zs m : List Int}, Chs bus ys l → Chs bus zs m → Chs bus (ys ++ zs) (l ++ m)
  | _, _, _, _, .nil, h => h
  | _, _, _, _, .cons h1 h2, h => .cons h1 (qAp h2 h)
theorem Tq {k : Int} (hk : 5 ≤ k ∧ k ≤ 10 ∨ k = 13) {l : List Int} : Jh k l ≠ [] := by
  have hm : ∀ v ∈ l, (fun v => if v = 0 then 0 else if v = 1 then 1 else if v = 3 ∧ k = 13 then 2 else 1 : Int → Int) v ∈ H4 v (decide (k = 13)) := by
    intro v _
    unfold H4
    by_cases h0 : v = 0
    · simp [h0]
    by_cases h1 : v = 1
    · simp [h1]
    by_cases h3 : v = 3 <;> by_cases h13 : k = 13 <;> simp [h0, h1, h3, h13]
  exact List.ne_nil_of_mem ((E6 hk).2 ⟨_, Qd hm, rfl⟩)
def to0 (v : Int) : Int := if v = 1 then 1 else if v = 3 then 2 else 0
def to1 (v : Int) : Int := if v = 0 then 0 else if v = 3 then 2 else 1
def go0 (v : Int) : Int := if v = 1 then 1 else 0
def go1 (v : Int) : Int := if v = 0 then 0 else 1
theorem q7u {v : Int} : go0 v ∈ H4 v false := by unfold go0 H4; repeat' split <;> simp_all
theorem qCk {v : Int} : go1 v ∈ H4 v false := by unfold go1 H4; repeat' split <;> simp_all
theorem qFV {v : Int} : to0 v ∈ H4 v true := by
  unfold to0 H4
  by_cases h0 : v = 0
  · simp [h0]
  by_cases h1 : v = 1
  · simp [h1]
  by_cases h3 : v = 3 <;> simp [h0, h1, h3]
theorem qFW {v : Int} : to1 v ∈ H4 v true := by
  unfold to1 H4
  by_cases h0 : v = 0
  · simp [h0]
  by_cases h1 : v = 1
  · simp [h1]
  by_cases h3 : v = 3 <;> simp [h0, h1, h3]
theorem Oe {l : List Int} {v : Int} : B5 l v = 0 ↔ v ∉ l := by
  unfold B5
  rw [List.countP_eq_zero]
  constructor
  · intro h hm; simpa using h v hm
  · intro h x hx; simp; intro e; exact h (e ▸ hx)
theorem Le {l : List Int} {v : Int} : 0 < B5 l v ↔ v ∈ l := by
  rw [Nat.pos_iff_ne_zero, Ne, Oe, Classical.not_not]
theorem Z3 {bus : Bool} {a : Int} : ∀ {ys l : List Int}, Chs bus ys l → (∀ y, y ∈ H4 a bus → y = a) → a ∈ l → a ∈ ys
  | _, _, .nil, _, h => h
  | _, _, .cons h1 h2, ha, h => by
    rcases List.mem_cons.1 h with rfl | h
    · have := ha _ h1
      exact this ▸ List.mem_cons_self
    · exact List.mem_cons_of_mem _ (Z3 h2 ha h)
theorem q3X {bus : Bool} {y : Int} : ∀ {ys l : List Int}, Chs bus ys l → y ∈ ys → ∃ v ∈ l, y ∈ H4 v bus
  | _, _, .nil, h => by simp at h
  | _, _, .cons h1 h2, h => by
    rcases List.mem_cons.1 h with rfl | h
    · exact ⟨_, List.mem_cons_self, h1⟩
    · obtain ⟨v, hv, hy⟩ := q3X h2 h
      exact ⟨v, List.mem_cons_of_mem _ hv, hy⟩
theorem ch0 {bus : Bool} : ∀ y, y ∈ H4 0 bus → y = 0 := by intro y h; simpa [H4] using h
theorem ch1 {bus : Bool} : ∀ y, y ∈ H4 1 bus → y = 1 := by intro y h; simpa [H4] using h
theorem qAq {k : Int} (hk : k = 5 ∨ k = 6) {l : List Int} (h4 : ∀ v ∈ l, V4 v) : q2d (Jh k l) = if k = 5 then Iz 0 1 1 l else Kr (Iz 0 1 1 l) := by
  have hk' : 5 ≤ k ∧ k ≤ 10 ∨ k = 13 := by omega
  have hb : decide (k = 13) = false := by simp; omega
  have hf : ∀ z o, X3 k z o = I9 (decide ((z = 0) ↔ k = 5)) := fun z o => by unfold X3; rw [if_pos hk]
  rw [Qq (.inr rfl)]
  by_cases h0 : (0 : Int) ∈ l
  · rw [if_pos h0, Oc (a := I9 (decide (False ↔ k = 5))) (Tq hk') fun x hx => by
      obtain ⟨ys, hc, rfl⟩ := (E6 hk').1 hx
      have := Z3 hc ch0 h0
      rw [hf]
      congr 1
      have h1 : ¬ B5 ys 0 = 0 := by rw [Oe]; exact fun h => h this
      simp [h1]]
    rcases hk with rfl | rfl <;> simp [I9, Kr]
  rw [if_neg h0]
  by_cases h1 : ∀ v ∈ l, v = 1
  · rw [if_pos (show (1 : Int) = 1 ∧ ∀ v ∈ l, v = 1 from ⟨rfl, h1⟩), Oc (a := I9 (decide (True ↔ k = 5))) (Tq hk') fun x hx => by
      obtain ⟨ys, hc, rfl⟩ := (E6 hk').1 hx
      rw [hf]
      congr 1
      have h1 : B5 ys 0 = 0 := by
        rw [Oe]
        intro hm
        obtain ⟨v, hv, hy⟩ := q3X hc hm
        rw [h1 v hv] at hy
        have := ch1 _ hy
        omega
      simp [h1]]
    rcases hk with rfl | rfl <;> simp [I9, Kr]
  rw [if_neg (show ¬ ((1 : Int) = 1 ∧ ∀ v ∈ l, v = 1) from fun h => h1 h.2)]
  have e : ∃ v, v ∈ l ∧ v ≠ 1 := by
    refine Classical.byContradiction fun hn => h1 fun v hv => Classical.byContradiction fun hv1 => hn ⟨v, hv, hv1⟩
  obtain ⟨v, hv, hv1⟩ := e
  have m0 : X3 k (B5 (l.map go0) 0) (B5 (l.map go0) 1) ∈ Jh k l := (E6 hk').2 ⟨_, by rw [hb]; exact Qd fun v _ => q7u, rfl⟩
  have m1 : X3 k (B5 (l.map go1) 0) (B5 (l.map go1) 1) ∈ Jh k l := (E6 hk').2 ⟨_, by rw [hb]; exact Qd fun v _ => qCk, rfl⟩
  have z0 : ¬ B5 (l.map go0) 0 = 0 := by
    rw [Oe]
    exact fun h => h (List.mem_map.2 ⟨v, hv, by simp [go0, hv1]⟩)
  have z1 : B5 (l.map go1) 0 = 0 := by
    rw [Oe]
    intro h
    obtain ⟨u, hu, e⟩ := List.mem_map.1 h
    unfold go1 at e
    split at e
    · rename_i h; exact h0 (h ▸ hu)
    · omega
  rw [q3W m0 m1]
  · rcases hk with rfl | rfl <;> simp [Kr]
  · rw [hf, hf]
    rcases hk with rfl | rfl <;> simp [I9, z0, z1]
theorem qCl {k : Int} (hk : k = 7 ∨ k = 8) {l : List Int} (h4 : ∀ v ∈ l, V4 v) : q2d (Jh k l) = if k = 7 then Iz 1 0 0 l else Kr (Iz 1 0 0 l) := by
  have hk' : 5 ≤ k ∧ k ≤ 10 ∨ k = 13 := by omega
  have hb : decide (k = 13) = false := by simp; omega
  have hf : ∀ z o, X3 k z o = I9 (decide ((0 < o) ↔ k = 7)) := fun z o => by unfold X3; rw [if_neg (by omega), if_pos hk]
  rw [Qq (.inr rfl)]
  by_cases h0 : (1 : Int) ∈ l
  · rw [if_pos h0, Oc (a := I9 (decide (True ↔ k = 7))) (Tq hk') fun x hx => by
      obtain ⟨ys, hc, rfl⟩ := (E6 hk').1 hx
      have := Le.2 (Z3 hc ch1 h0)
      rw [hf]
      congr 1
      simp [this]]
    rcases hk with rfl | rfl <;> simp [I9, Kr]
  rw [if_neg h0]
  by_cases h1 : ∀ v ∈ l, v = 0
  · rw [if_pos (show (0 : Int) = 0 ∧ ∀ v ∈ l, v = 0 from ⟨rfl, h1⟩), Oc (a := I9 (decide (False ↔ k = 7))) (Tq hk') fun x hx => by
      obtain ⟨ys, hc, rfl⟩ := (E6 hk').1 hx
      rw [hf]
      congr 1
      have h1 : ¬ 0 < B5 ys 1 := by
        rw [Le]
        intro hm
        obtain ⟨v, hv, hy⟩ := q3X hc hm
        rw [h1 v hv] at hy
        have := ch0 _ hy
        omega
      simp [h1]]
    rcases hk with rfl | rfl <;> simp [I9, Kr]
  rw [if_neg (show ¬ ((0 : Int) = 0 ∧ ∀ v ∈ l, v = 0) from fun h => h1 h.2)]
  have e : ∃ v, v ∈ l ∧ v ≠ 0 := by
    refine Classical.byContradiction fun hn => h1 fun v hv => Classical.byContradiction fun hv1 => hn ⟨v, hv, hv1⟩
  obtain ⟨v, hv, hv1⟩ := e
  have m0 : X3 k (B5 (l.map go0) 0) (B5 (l.map go0) 1) ∈ Jh k l := (E6 hk').2 ⟨_, by rw [hb]; exact Qd fun v _ => q7u, rfl⟩
  have m1 : X3 k (B5 (l.map go1) 0) (B5 (l.map go1) 1) ∈ Jh k l := (E6 hk').2 ⟨_, by rw [hb]; exact Qd fun v _ => qCk, rfl⟩
  have z1 : 0 < B5 (l.map go1) 1 := by
    rw [Le]
    exact List.mem_map.2 ⟨v, hv, by simp [go1, hv1]⟩
  have z0 : ¬ 0 < B5 (l.map go0) 1 := by
    rw [Le]
    intro h
    obtain ⟨u, hu, e⟩ := List.mem_map.1 h
    unfold go0 at e
    split at e
    · rename_i h; exact h0 (h ▸ hu)
    · omega
  rw [q3W m0 m1]
  · rcases hk with rfl | rfl <;> simp [Kr]
  · rw [hf, hf]
    rcases hk with rfl | rfl <;> simp [I9, z0, z1]
theorem q6N : ∀ {l : List Int} {out : Int}, (out = 0 ∨ out = 1) → (∀ v ∈ l, v = 0 ∨ v = 1) → Tc out l = if (B5 l 1 + out.toNat) % 2 = 1 then 1 else 0
  | [], out, h, _ => by rcases h with rfl | rfl <;> simp [Tc, B5]
  | v :: l, out, h, hl => by
    have hv := hl v List.mem_cons_self
    simp only [Tc]
    rw [if_pos (by omega), q6N (by unfold q9y; split <;> simp) fun u hu => hl u (List.mem_cons_of_mem _ hu)]
    have e : B5 (v :: l) 1 = B5 l 1 + if v = 1 then 1 else 0 := by
      unfold B5
      rw [List.countP_cons]
      simp
    rw [e]
    rcases hv with rfl | rfl <;> rcases h with rfl | rfl <;> simp [q9y]
    all_goals (try omega)
    all_goals (congr 1; simp; omega)
theorem q97 : ∀ {l : List Int} {out : Int}, (∃ v ∈ l, ¬ v ≤ 1) → Tc out l = 2
  | [], out, ⟨_, h, _⟩ => by simp at h
  | v :: l, out, ⟨u, hu, h1⟩ => by
    simp only [Tc]
    split
    · rename_i hv
      rcases List.mem_cons.1 hu with rfl | hu
      · exact absurd hv h1
      · exact q97 ⟨u, hu, h1⟩
    · rfl
theorem qCm {bus : Bool} : ∀ {ys l : List Int}, Chs bus ys l → (∀ v ∈ l, v = 0 ∨ v = 1) → ys = l
  | _, _, .nil, _ => rfl
  | _, _, .cons (v := v) h1 h2, h => by
    rw [qCm h2 fun u hu => h u (List.mem_cons_of_mem _ hu)]
    rcases h v List.mem_cons_self with rfl | rfl
    · rw [ch0 _ h1]
    · rw [ch1 _ h1]
theorem qAr {k : Int} (hk : k = 9 ∨ k = 10) {l : List Int} (h4 : ∀ v ∈ l, V4 v) : q2d (Jh k l) = if k = 9 then Tc 0 l else Kr (Tc 0 l) := by
  have hk' : 5 ≤ k ∧ k ≤ 10 ∨ k = 13 := by omega
  have hb : decide (k = 13) = false := by simp; omega
  have hf : ∀ z o, X3 k z o = I9 (decide ((o % 2 = 1) ↔ k = 9)) := fun z o => by unfold X3; rw [if_neg (by omega), if_neg (by omega), if_pos hk]
  by_cases h1 : ∀ v ∈ l, v = 0 ∨ v = 1
  · rw [Oc (a := I9 (decide ((B5 l 1 % 2 = 1) ↔ k = 9))) (Tq hk') fun x hx => by
      obtain ⟨ys, hc, rfl⟩ := (E6 hk').1 hx
      rw [hf, qCm hc h1], q6N (.inl rfl) h1]
    rcases hk with rfl | rfl <;> by_cases h2 : B5 l 1 % 2 = 1 <;> simp [I9, Kr, h2]
  · have e : ∃ v, v ∈ l ∧ ¬ (v = 0 ∨ v = 1) := by
      refine Classical.byContradiction fun hn => h1 fun v hv => Classical.byContradiction fun hv1 => hn ⟨v, hv, hv1⟩
    obtain ⟨v, hv, hv1⟩ := e
    have hv4 := h4 v hv
    unfold V4 at hv4
    rw [q97 ⟨v, hv, by omega⟩]
    obtain ⟨a, b, rfl⟩ := List.append_of_mem hv
    have hvc : ∀ y, y = 0 ∨ y = 1 → y ∈ H4 v false := by
      intro y hy
      unfold H4
      rw [if_neg (by omega), if_neg (by omega)]
      simpa using hy
    have mk : ∀ y, y = 0 ∨ y = 1 → X3 k (B5 (a.map go0 ++ y :: b.map go0) 0) (B5 (a.map go0 ++ y :: b.map go0) 1) ∈ Jh k (a ++ v :: b) := fun y hy =>
      (E6 hk').2 ⟨_, by rw [hb]; exact qAp (Qd fun v _ => q7u) (.cons (hvc y hy) (Qd fun v _ => q7u)), rfl⟩
    rw [q3W (mk 0 (.inl rfl)) (mk 1 (.inr rfl))]
    · rcases hk with rfl | rfl <;> simp [Kr]
    · rw [hf, hf]
      have c0 : B5 (a.map go0 ++ 0 :: b.map go0) 1 = B5 (a.map go0) 1 + B5 (b.map go0) 1 := by
        rw [q3V]; unfold B5; rw [List.countP_cons]; simp
      have c1 : B5 (a.map go0 ++ 1 :: b.map go0) 1 = B5 (a.map go0) 1 + B5 (b.map go0) 1 + 1 := by
        rw [q3V]; unfold B5; rw [List.countP_cons]; simp; omega
      rw [c0, c1]
      generalize B5 (a.map go0) 1 + B5 (b.map go0) 1 = n
      rcases Nat.mod_two_eq_zero_or_one n with h | h
      · have h' : (n + 1) % 2 = 1 := by omega
        rcases hk with rfl | rfl <;> simp [I9, h, h']
      · have h' : (n + 1) % 2 = 0 := by omega
        rcases hk with rfl | rfl <;> simp [I9, h, h']
theorem q5K {y : Int} {ys l : List Int} (h4 : ∀ v ∈ l, V4 v) (h : Chs true ys l) (hy : y = 0 ∨ y = 1) (hm : y ∈ ys) : y ∈ l ∨ 2 ∈ l := by
  obtain ⟨v, hv, hc⟩ := q3X h hm
  have := h4 v hv
  unfold V4 at this
  have h4' : v = 0 ∨ v = 1 ∨ v = 2 ∨ v = 3 := by omega
  rcases h4' with rfl | rfl | rfl | rfl
  · rw [ch0 _ hc]; exact .inl hv
  · rw [ch1 _ hc]; exact .inl hv
  · exact .inr hv
  · simp [H4] at hc; omega
theorem qDr {l : List Int} (h4 : ∀ v ∈ l, V4 v) : q2d (Jh 13 l) = q49 l := by
  have hk' : 5 ≤ (13 : Int) ∧ (13 : Int) ≤ 10 ∨ (13 : Int) = 13 := by omega
  have hf : ∀ z o, X3 13 z o = if o + z = 0 then 2 else if 0 < o ∧ 0 < z then 3 else I9 (decide (0 < o)) := fun z o => by unfold X3; simp
  have hd : decide ((13 : Int) = 13) = true := rfl
  unfold q49
  cases hfi : l.findIdx? q8p with
  | none =>
    have hz : ∀ v ∈ l, v = 3 := fun v hv => by
      have := List.findIdx?_eq_none_iff.1 hfi v hv
      simpa [q8p] using this
    rw [Oc (a := 2) (Tq hk') fun x hx => by
      obtain ⟨ys, hc, rfl⟩ := (E6 hk').1 hx
      rw [hd] at hc
      have n0 : B5 ys 0 = 0 := Oe.2 fun hm => by
        rcases q5K h4 hc (.inl rfl) hm with h | h <;> have := hz _ h <;> omega
      have n1 : B5 ys 1 = 0 := Oe.2 fun hm => by
        rcases q5K h4 hc (.inr rfl) hm with h | h <;> have := hz _ h <;> omega
      rw [n0, n1, hf]; rfl]
    rfl
  | some i =>
    obtain ⟨hi, hdi, _⟩ := List.findIdx?_eq_some_iff_getElem.1 hfi
    have hm : l[i] ∈ l := List.getElem_mem hi
    have hgi : l.getD i 0 = l[i] := Be hi
    simp only [hgi]
    have hdi : ¬ l[i] = 3 := by simpa [q8p] using hdi
    have hconf : Yu l = true ↔ (0 : Int) ∈ l ∧ (1 : Int) ∈ l := by simp [Yu]
    have hunk : l.any q8o = true ↔ (2 : Int) ∈ l := by
      rw [List.any_eq_true]
      constructor
      · rintro ⟨v, hv, h⟩
        have := h4 v hv
        unfold V4 at this
        have hcl : C2 v = v := by unfold C2; rw [if_neg (by omega)]
        have h2 : C2 v = 2 := of_decide_eq_true h
        rw [hcl] at h2
        exact h2 ▸ hv
      · intro h; exact ⟨2, h, by simp [q8o, C2]⟩
    by_cases hc : (0 : Int) ∈ l ∧ (1 : Int) ∈ l
    · rw [if_pos (.inl (hconf.2 hc)), Oc (a := 3) (Tq hk') fun x hx => by
        obtain ⟨ys, hcs, rfl⟩ := (E6 hk').1 hx
        have n0 := Le.2 (Z3 hcs ch0 hc.1)
        have n1 := Le.2 (Z3 hcs ch1 hc.2)
        rw [hf, if_neg (by omega), if_pos ⟨n1, n0⟩]]
      rfl
    by_cases hu : (2 : Int) ∈ l
    · rw [if_pos (.inr (hunk.2 hu))]
      have m0 : X3 13 (B5 (l.map to0) 0) (B5 (l.map to0) 1) ∈ Jh 13 l := (E6 hk').2 ⟨_, Qd fun v _ => qFV, rfl⟩
      have m1 : X3 13 (B5 (l.map to1) 0) (B5 (l.map to1) 1) ∈ Jh 13 l := (E6 hk').2 ⟨_, Qd fun v _ => qFW, rfl⟩
      have a0 : 0 < B5 (l.map to0) 0 := Le.2 (List.mem_map.2 ⟨2, hu, rfl⟩)
      have a1 : 0 < B5 (l.map to1) 1 := Le.2 (List.mem_map.2 ⟨2, hu, rfl⟩)
      have b1 : 0 < B5 (l.map to0) 1 ↔ (1 : Int) ∈ l := by
        rw [Le, List.mem_map]
        constructor
        · rintro ⟨v, hv, e⟩
          unfold to0 at e
          split at e
          · rename_i h; exact h ▸ hv
          · split at e <;> omega
        · intro h; exact ⟨1, h, rfl⟩
      have b0 : 0 < B5 (l.map to1) 0 ↔ (0 : Int) ∈ l := by
        rw [Le, List.mem_map]
        constructor
        · rintro ⟨v, hv, e⟩
          unfold to1 at e
          split at e
          · rename_i h; exact h ▸ hv
          · split at e <;> omega
        · intro h; exact ⟨0, h, rfl⟩
      refine q3W m0 m1 ?_
      have A0 := hf (B5 (l.map to0) 0) (B5 (l.map to0) 1)
      have B0 := hf (B5 (l.map to1) 0) (B5 (l.map to1) 1)
      rw [if_neg (show ¬ B5 (l.map to0) 1 + B5 (l.map to0) 0 = 0 by omega)] at A0
      rw [if_neg (show ¬ B5 (l.map to1) 1 + B5 (l.map to1) 0 = 0 by omega)] at B0
      by_cases h1 : (1 : Int) ∈ l
      · have h0 : ¬ (0 : Int) ∈ l := fun h => hc ⟨h, h1⟩
        have c1 := b1.2 h1
        have c0 : ¬ 0 < B5 (l.map to1) 0 := fun h => h0 (b0.1 h)
        rw [if_pos (show 0 < B5 (l.map to0) 1 ∧ 0 < B5 (l.map to0) 0 from ⟨c1, a0⟩)] at A0
        rw [if_neg (show ¬ (0 < B5 (l.map to1) 1 ∧ 0 < B5 (l.map to1) 0) from fun h => c0 h.2)] at B0
        rw [A0, B0]
        simp [I9, a1]
      · have c1 : ¬ 0 < B5 (l.map to0) 1 := fun h => h1 (b1.1 h)
        rw [if_neg (show ¬ (0 < B5 (l.map to0) 1 ∧ 0 < B5 (l.map to0) 0) from fun h => c1 h.1)] at A0
        by_cases h0 : (0 : Int) ∈ l
        · rw [if_pos (show 0 < B5 (l.map to1) 1 ∧ 0 < B5 (l.map to1) 0 from ⟨a1, b0.2 h0⟩)] at B0
          rw [A0, B0]
          simp [I9, c1]
        · rw [if_neg (show ¬ (0 < B5 (l.map to1) 1 ∧ 0 < B5 (l.map to1) 0) from fun h => h0 (b0.1 h.2))] at B0
          rw [A0, B0]
          simp [I9, c1, a1]
    · rw [if_neg (fun h => h.elim (fun h => hc (hconf.1 h)) fun h => hu (hunk.1 h))]
      have h4i := h4 _ hm
      unfold V4 at h4i
      have h2 : ¬ l[i] = 2 := fun e => hu (e ▸ hm)
      have h01 : l[i] = 0 ∨ l[i] = 1 := by omega
      generalize l[i] = a at *
      rw [Oc (a := a) (Tq hk') fun x hx => by
        obtain ⟨ys, hcs, rfl⟩ := (E6 hk').1 hx
        rw [hd] at hcs
        rcases h01 with rfl | rfl
        · have n0 := Le.2 (Z3 hcs ch0 hm)
          have n1 : B5 ys 1 = 0 := Oe.2 fun h => (q5K h4 hcs (.inr rfl) h).elim (fun h => hc ⟨hm, h⟩) hu
          rw [n1, hf, if_neg (by omega), if_neg (by omega)]; rfl
        · have n1 := Le.2 (Z3 hcs ch1 hm)
          have n0 : B5 ys 0 = 0 := Oe.2 fun h => (q5K h4 hcs (.inl rfl) h).elim (fun h => hc ⟨h, hm⟩) hu
          rw [n0, hf, if_neg (by omega), if_neg (by omega)]
          simp [I9, n1]]
      rcases h01 with rfl | rfl <;> rfl
def Rr (k : Int) (ins : List Int) : Nat → List Int → List Int
  | 0, l => [I5 k l]
  | n + 1, l => (H4 (ins.getD l.length 0) (decide (k = 13))).flatMap fun y => Rr k ins n (l ++ [y])
def Ia (k : Int) (n : Nat) : Bool :=
  if k = 1 ∨ k = 2 then decide (n = 0) else if k = 3 ∨ k = 4 then decide (n = 1) else if k = 11 then decide (n = 3) else if k = 12 then decide (n = 2) else
  if k = 13 then decide (1 ≤ n ∧ n ≤ 16) else decide (5 ≤ k ∧ k ≤ 10 ∧ 2 ≤ n ∧ n ≤ 16)
def qDs (k : Int) (l : List Int) : Int := if Ia k l.length then q2d (if 5 ≤ k ∧ k ≤ 10 ∨ k = 13 then Jh k l else Rr k l l.length []) else 2
theorem V9 {v : Int} (h : V4 v) : v = 0 ∨ v = 1 ∨ v = 2 ∨ v = 3 := by unfold V4 at h; omega
theorem qDt {k : Int} (hk : 0 ≤ k ∧ k ≤ 15) {l : List Int} (h4 : ∀ v ∈ l, V4 v) : qDs k l = Oz k l := by
  have hkc : k = 0 ∨ k = 1 ∨ k = 2 ∨ k = 3 ∨ k = 4 ∨ k = 5 ∨ k = 6 ∨ k = 7 ∨ k = 8 ∨ k = 9 ∨ k = 10 ∨ k = 11 ∨ k = 12 ∨ k = 13 ∨ k = 14 ∨ k = 15 := by omega
  unfold qDs Oz
  rcases hkc with rfl | rfl | rfl | rfl | rfl | rfl | rfl | rfl | rfl | rfl | rfl | rfl | rfl | rfl | rfl | rfl
  · simp [Ia, Gi, K5, Ph, Dh]
  · cases l with
    | nil => rfl
    | cons a l => simp [Ia, Gi, K5, Ph]
  · cases l with
    | nil => rfl
    | cons a l => simp [Ia, Gi, K5, Ph]
  · match l, h4 with
    | [], _ => rfl
    | [a], h4 => rcases V9 (h4 a (by simp)) with rfl | rfl | rfl | rfl <;> rfl
    | a :: b :: l, _ => simp [Ia, Gi, K5, Ph]; omega
  · match l, h4 with
    | [], _ => rfl
    | [a], h4 => rcases V9 (h4 a (by simp)) with rfl | rfl | rfl | rfl <;> rfl
    | a :: b :: l, _ => simp [Ia, Gi, K5, Ph]; omega
  · have e := qAq (k := 5) (.inl rfl) h4
    simp [Ia, Gi, K5, Ph, Dh, e]; (repeat' split) <;> first | rfl | omega
  · have e := qAq (k := 6) (.inr rfl) h4
    simp [Ia, Gi, K5, Ph, Dh, e]; (repeat' split) <;> first | rfl | omega
  · have e := qCl (k := 7) (.inl rfl) h4
    simp [Ia, Gi, K5, Ph, Dh, e]; (repeat' split) <;> first | rfl | omega
  · have e := qCl (k := 8) (.inr rfl) h4
    simp [Ia, Gi, K5, Ph, Dh, e]; (repeat' split) <;> first | rfl | omega
  · have e := qAr (k := 9) (.inl rfl) h4
    simp [Ia, Gi, K5, Ph, Dh, e]; (repeat' split) <;> first | rfl | omega
  · have e := qAr (k := 10) (.inr rfl) h4
    simp [Ia, Gi, K5, Ph, Dh, e]; (repeat' split) <;> first | rfl | omega
  · match l, h4 with
    | [], _ => rfl
    | [a], _ => rfl
    | [a, b], _ => rfl
    | [a, b, d], h4 =>
      rcases V9 (h4 a (by simp)) with rfl | rfl | rfl | rfl <;> rcases V9 (h4 b (by simp)) with rfl | rfl | rfl | rfl <;> rcases V9 (h4 d (by simp)) with rfl | rfl | rfl | rfl <;> rfl
    | a :: b :: d :: e :: l, _ => simp [Ia, Gi, K5, Ph]; omega
  · match l, h4 with
    | [], _ => rfl
    | [a], _ => rfl
    | [a, b], h4 =>
      rcases V9 (h4 a (by simp)) with rfl | rfl | rfl | rfl <;> rcases V9 (h4 b (by simp)) with rfl | rfl | rfl | rfl <;> rfl
    | a :: b :: d :: l, _ => simp [Ia, Gi, K5, Ph]; omega
  · have e := qDr h4
    simp [Ia, Gi, K5, Ph, Dh, e]; (repeat' split) <;> first | rfl | omega
  · simp [Ia, Gi, K5, Ph, Dh]
  · simp [Ia, Gi, K5, Ph, Dh]
def Fe (i : Nat) : List Int → List Int → Bool → List Int × Bool
  | [], out, b => (out, b)
  | p :: l, out, b => if out.getD i 0 < out.getD p.toNat 0 + 1 then Fe i l (out.set i (out.getD p.toNat 0 + 1)) true else Fe i l out b
def K7 (c : Bf) (i : Nat) (s : List Int × Bool) : List Int × Bool := if C3 (As c i) then Fe i (Eh c i) s.1 s.2 else s
def Ix (c : Bf) : Nat → Nat → List Int × Bool → List Int × Bool
  | 0, _, s => s
  | k + 1, i, s => Ix c k (i + 1) (K7 c i s)
def q1z (c : Bf) (out : List Int) : List Int × Bool := Ix c c.nodes.l.length 0 (out, false)
def q7N (c : Bf) : Nat → List Int → List Int
  | 0, out => out
  | f + 1, out => if (q1z c out).2 then q7N c f (q1z c out).1 else (q1z c out).1
def Rt (c : Bf) : List Int := q7N c (c.nodes.l.length + 1) (List.replicate c.nodes.l.length 0)
def q3Y (c : Bf) (out : List Int) (i : Nat) : Prop := C3 (As c i) = true → ∀ p ∈ Eh c i, out.getD p.toNat 0 + 1 ≤ out.getD i 0
theorem q4K {i : Nat} : ∀ {l out : List Int} {b : Bool}, i < out.length → (∀ p ∈ l, p.toNat ≠ i) →
    (Fe i l out b).1.length = out.length ∧ (∀ j, j ≠ i → (Fe i l out b).1.getD j 0 = out.getD j 0) ∧ out.getD i 0 ≤ (Fe i l out b).1.getD i 0 ∧ (∀ p ∈ l, out.getD p.toNat 0 + 1 ≤ (Fe i l out b).1.getD i 0) ∧
    ((∀ p ∈ l, out.getD p.toNat 0 + 1 ≤ out.getD i 0) → Fe i l out b = (out, b)) ∧ ((Fe i l out b).2 = false → (Fe i l out b).1 = out ∧ b = false)
  | [], out, b, hi, hp => ⟨rfl, fun _ _ => rfl, Int.le_refl _, fun _ h => by simp at h, fun _ => rfl, fun h => ⟨rfl, h⟩⟩
  | p :: l, out, b, hi, hp => by
    have hpi := hp p List.mem_cons_self
    have hpl := fun q hq => hp q (List.mem_cons_of_mem p hq)
    by_cases h : out.getD i 0 < out.getD p.toNat 0 + 1
    · obtain ⟨h1, h2, h3, h4, h5, h6⟩ := q4K (l := l) (out := out.set i (out.getD p.toNat 0 + 1)) (b := true) (by rw [List.length_set]; exact hi) hpl
      have e : Fe i (p :: l) out b = Fe i l (out.set i (out.getD p.toNat 0 + 1)) true := by simp only [Fe]; rw [if_pos h]
      have hs : (out.set i (out.getD p.toNat 0 + 1)).getD i 0 = out.getD p.toNat 0 + 1 := by rw [E2 hi, if_pos rfl]
      have ho : ∀ j, j ≠ i → (out.set i (out.getD p.toNat 0 + 1)).getD j 0 = out.getD j 0 := fun j hj => by rw [E2 hi, if_neg hj]
      rw [e]
      rw [hs] at h3
      refine ⟨by rw [h1, List.length_set], fun j hj => by rw [h2 j hj, ho j hj], by omega, fun q hq => ?_, fun hall => ?_, fun hf => ?_⟩
      · rcases List.mem_cons.1 hq with rfl | hq
        · omega
        · have := h4 q hq
          rwa [ho _ (hpl q hq)] at this
      · have := hall p List.mem_cons_self
        omega
      · have := (h6 hf).2
        cases this
    · obtain ⟨h1, h2, h3, h4, h5, h6⟩ := q4K (l := l) (out := out) (b := b) hi hpl
      have e : Fe i (p :: l) out b = Fe i l out b := by simp only [Fe]; rw [if_neg h]
      rw [e]
      refine ⟨h1, h2, h3, fun q hq => ?_, fun hall => h5 fun q hq => hall q (List.mem_cons_of_mem _ hq), h6⟩
      rcases List.mem_cons.1 hq with rfl | hq
      · omega
      · exact h4 q hq
structure Plc (c : Bf) (φ : Nat → Nat) : Prop where
  lt : ∀ i, i < c.nodes.l.length → φ i < c.nodes.l.length
  dn : ∀ i, i < c.nodes.l.length → C3 (As c i) = true → ∀ p ∈ Eh c i, p.toNat < c.nodes.l.length ∧ φ p.toNat < φ i
theorem Plc.ne {c : Bf} {φ : Nat → Nat} (h : Plc c φ) {i : Nat} (hi : i < c.nodes.l.length) (hc : C3 (As c i) = true) : ∀ p ∈ Eh c i, p.toNat ≠ i := fun p hp e => by
  have := (h.dn i hi hc p hp).2
  rw [e] at this
  omega
theorem q7O {c : Bf} {φ : Nat → Nat} (h : Plc c φ) {i : Nat} (hi : i < c.nodes.l.length) {out : List Int} {b : Bool} (hl : out.length = c.nodes.l.length) :
    (K7 c i (out, b)).1.length = c.nodes.l.length ∧ (∀ j, j ≠ i → (K7 c i (out, b)).1.getD j 0 = out.getD j 0) ∧ q3Y c (K7 c i (out, b)).1 i ∧ (q3Y c out i → K7 c i (out, b) = (out, b)) ∧ ((K7 c i (out, b)).2 = false → (K7 c i (out, b)).1 = out ∧ b = false) ∧
    ((∀ j, j < c.nodes.l.length → 0 ≤ out.getD j 0 ∧ out.getD j 0 ≤ φ j) → ∀ j, j < c.nodes.l.length → 0 ≤ (K7 c i (out, b)).1.getD j 0 ∧ (K7 c i (out, b)).1.getD j 0 ≤ φ j) := by
  unfold K7
  by_cases hc : C3 (As c i) = true
  · rw [if_pos hc]
    have hne := h.ne hi hc
    obtain ⟨h1, h2, h3, h4, h5, h6⟩ := q4K (i := i) (l := Eh c i) (out := out) (b := b) (by omega) hne
    refine ⟨by rw [h1, hl], h2, fun _ p hp => ?_, fun hs => h5 (hs hc), h6, fun hb j hj => ?_⟩
    · have := h4 p hp
      rw [h2 _ (hne p hp)]
      exact this
    · by_cases hji : j = i
      · subst hji
        refine ⟨Int.le_trans (hb j hj).1 h3, ?_⟩
        have key : ∀ (l o : List Int) (b : Bool), j < o.length → (∀ p ∈ l, p.toNat ≠ j) → (∀ p ∈ l, o.getD p.toNat 0 + 1 ≤ φ j) → o.getD j 0 ≤ φ j → (Fe j l o b).1.getD j 0 ≤ φ j := by
          intro l
          induction l with
          | nil => intro o b _ _ _ h; exact h
          | cons p l ih =>
            intro o b ho hp hq hoj
            simp only [Fe]
            split
            · refine ih _ _ (by rw [List.length_set]; exact ho) (fun q hq' => hp q (List.mem_cons_of_mem _ hq')) (fun q hq' => ?_) ?_
              · rw [E2 ho, if_neg (hp q (List.mem_cons_of_mem _ hq'))]
                exact hq q (List.mem_cons_of_mem _ hq')
              · rw [E2 ho, if_pos rfl]
                exact hq p List.mem_cons_self
            · exact ih _ _ ho (fun q hq' => hp q (List.mem_cons_of_mem _ hq')) (fun q hq' => hq q (List.mem_cons_of_mem _ hq')) hoj
        refine key _ _ _ (by show j < out.length; omega) hne (fun p hp => ?_) (hb j hj).2
        obtain ⟨d1, d2⟩ := h.dn j hj hc p hp
        have := (hb _ d1).2
        show out.getD p.toNat 0 + 1 ≤ φ j
        omega
      · rw [h2 j hji]; exact hb j hj
  · rw [if_neg hc]
    exact ⟨hl, fun _ _ => rfl, fun hh => absurd hh hc, fun _ => rfl, fun hf => ⟨rfl, hf⟩, fun hb => hb⟩
theorem qDu {c : Bf} {φ : Nat → Nat} (h : Plc c φ) {i j : Nat} (hj : j < c.nodes.l.length) (hji : j ≠ i) (hφ : φ j ≤ φ i) {a b : List Int} (hab : ∀ q, q ≠ i → b.getD q 0 = a.getD q 0) (hs : q3Y c a j) : q3Y c b j := fun hc p hp => by
  have hd := h.dn j hj hc p hp
  have hpi : p.toNat ≠ i := fun e => by rw [e] at hd; omega
  rw [hab _ hpi, hab _ hji]
  exact hs hc p hp
theorem q2e {c : Bf} {φ : Nat → Nat} (h : Plc c φ) (r : Nat) (o0 : List Int) (h0 : ∀ j, j < c.nodes.l.length → φ j < r → q3Y c o0 j) : ∀ (k i : Nat) (out : List Int) (b : Bool), k + i = c.nodes.l.length → out.length = c.nodes.l.length →
    (∀ j, j < c.nodes.l.length → φ j < r → out.getD j 0 = o0.getD j 0) → (∀ j, j < i → φ j < r + 1 → q3Y c out j) → (∀ j, j < c.nodes.l.length → 0 ≤ out.getD j 0 ∧ out.getD j 0 ≤ φ j) → (b = false → ∀ j, j < i → q3Y c out j) →
    (Ix c k i (out, b)).1.length = c.nodes.l.length ∧ (∀ j, j < c.nodes.l.length → φ j < r → (Ix c k i (out, b)).1.getD j 0 = o0.getD j 0) ∧ (∀ j, j < c.nodes.l.length → φ j < r + 1 → q3Y c (Ix c k i (out, b)).1 j) ∧
    (∀ j, j < c.nodes.l.length → 0 ≤ (Ix c k i (out, b)).1.getD j 0 ∧ (Ix c k i (out, b)).1.getD j 0 ≤ φ j) ∧ ((Ix c k i (out, b)).2 = false → ∀ j, j < c.nodes.l.length → q3Y c (Ix c k i (out, b)).1 j) ∧ ((∀ j, j < c.nodes.l.length → q3Y c out j) → Ix c k i (out, b) = (out, b))
  | 0, i, out, b, hk, hl, h1, h2, h3, h4 => ⟨hl, h1, fun j hj hφ => h2 j (by omega) hφ, h3, fun hf j hj => h4 hf j (by omega), fun _ => rfl⟩
  | k + 1, i, out, b, hk, hl, h1, h2, h3, h4 => by
    have hi : i < c.nodes.l.length := by omega
    obtain ⟨n1, n2, n3, n4, n5, n6⟩ := q7O h hi (out := out) (b := b) hl
    simp only [Ix]
    have hφr : φ i < r → q3Y c out i := fun hφ hc p hp => by
      have hd := h.dn i hi hc p hp
      rw [h1 _ hd.1 (by omega), h1 _ hi hφ]
      exact h0 i hi hφ hc p hp
    have := q2e h r o0 h0 k (i + 1) (K7 c i (out, b)).1 (K7 c i (out, b)).2 (by omega) n1 (fun j hj hφ => by
      by_cases hji : j = i
      · subst hji
        rw [n4 (hφr hφ)]
        exact h1 j hj hφ
      · rw [n2 j hji]; exact h1 j hj hφ) (fun j hj hφ => by
      by_cases hji : j = i
      · subst hji; exact n3
      · have hj' : j < i := by omega
        by_cases hir : φ i < r
        · rw [n4 (hφr hir)]; exact h2 j hj' hφ
        · exact qDu h (by omega) hji (by omega) n2 (h2 j hj' hφ)) (n6 h3) (fun hf j hj => by
      obtain ⟨e1, e2⟩ := n5 hf
      by_cases hji : j = i
      · subst hji; exact n3
      · rw [e1]; exact h4 e2 j (by omega))
    obtain ⟨m1, m2, m3, m4, m5, m6⟩ := this
    refine ⟨m1, m2, m3, m4, m5, fun hall => ?_⟩
    have e := n4 (hall i hi)
    rw [e] at m6 ⊢
    exact m6 hall
structure qBb (c : Bf) (L : List Int) : Prop where
  len : L.length = c.nodes.l.length
  rg : ∀ j, j < c.nodes.l.length → 0 ≤ L.getD j 0 ∧ L.getD j 0 < c.nodes.l.length
  sat : ∀ j, j < c.nodes.l.length → q3Y c L j
theorem q98 {c : Bf} {φ : Nat → Nat} (h : Plc c φ) : ∀ (f r : Nat) (out : List Int), c.nodes.l.length + 1 ≤ f + r → r ≤ c.nodes.l.length → out.length = c.nodes.l.length → (∀ j, j < c.nodes.l.length → 0 ≤ out.getD j 0 ∧ out.getD j 0 ≤ φ j) → (∀ j, j < c.nodes.l.length → φ j < r → q3Y c out j) → qBb c (q7N c f out)
  | 0, r, out, hf, hr, _, _, _ => by omega
  | f + 1, r, out, hf, hr, hl, hb, hs => by
    obtain ⟨m1, m2, m3, m4, m5, m6⟩ := q2e h r out hs c.nodes.l.length 0 out false (by omega) hl (fun _ _ _ => rfl) (fun j hj => absurd hj (Nat.not_lt_zero _)) hb (fun _ j hj => absurd hj (Nat.not_lt_zero _))
    simp only [q7N]
    split
    · rename_i ht
      by_cases hrn : r = c.nodes.l.length
      · have := m6 fun j hj => hs j hj (by rw [hrn]; exact h.lt j hj)
        unfold q1z at ht
        rw [this] at ht
        cases ht
      · exact q98 h f (r + 1) _ (by omega) (by omega) m1 m4 m3
    · rename_i ht
      have hf2 : (q1z c out).2 = false := Bool.eq_false_iff.2 ht
      exact ⟨m1, fun j hj => ⟨(m4 j hj).1, by
        have h1 : (q1z c out).1.getD j 0 ≤ φ j := (m4 j hj).2
        have := h.lt j hj
        omega⟩, m5 hf2⟩
theorem q7v {l : List Int} {x : Int} (h : x ∈ l) : ∃ hi : l.idxOf x < l.length, l[l.idxOf x] = x := ⟨List.idxOf_lt_length_iff.2 h, List.getElem_idxOf _⟩
theorem qCn {c : Bf} (h : D3 c = 0) : Plc c fun i => (Ja c).idxOf (i : Int) := by
  obtain ⟨_, _, h1⟩ := q64 h
  obtain ⟨hp, hs⟩ := Tv c
  have hlen : (Ja c).length = c.nodes.l.length := by rw [hp.length_eq, Ik]
  have hmem : ∀ i : Nat, i < c.nodes.l.length → (i : Int) ∈ Ja c := fun i hi => hp.mem_iff.2 (Q7.2 ⟨by omega, by omega⟩)
  refine ⟨fun i hi => by have := (q7v (hmem i hi)).1; omega, fun i hi hc p hpi => ?_⟩
  obtain ⟨hr, hl⟩ := h1 i hi hc p hpi
  have hpn : p.toNat < c.nodes.l.length := by omega
  refine ⟨hpn, ?_⟩
  obtain ⟨a1, a2⟩ := q7v (hmem i hi)
  obtain ⟨b1, b2⟩ := q7v (hmem p.toNat hpn)
  refine Nat.lt_of_not_le fun hle => ?_
  show False
  have hle : (Ja c).idxOf (i : Int) ≤ (Ja c).idxOf ((p.toNat : Nat) : Int) := hle
  rcases Nat.lt_or_eq_of_le hle with hlt | heq
  · have := hs _ _ hlt (by omega)
    simp only [Be a1, Be b1, a2, b2, Int.toNat_natCast] at this
    omega
  · have e : (i : Int) = ((p.toNat : Nat) : Int) := by rw [← a2, ← b2]; simp only [heq]
    have : i = p.toNat := by omega
    rw [← this] at hl
    omega
theorem q4L {c : Bf} (h : D3 c = 0) : qBb c (Rt c) := by
  refine q98 (qCn h) (c.nodes.l.length + 1) 0 _ (by omega) (Nat.zero_le _) (by simp) (fun j hj => ?_) (fun j _ h => absurd h (Nat.not_lt_zero _))
  have : (List.replicate c.nodes.l.length (0 : Int)).getD j 0 = 0 := by rw [List.getD_eq_getElem?_getD, List.getElem?_replicate]; split <;> rfl
  rw [this]
  omega
def qCo (L : List Int) (n : Nat) (v : Nat) : List Int := (rng n).filter fun i => decide (L.getD i.toNat 0 = (v : Int))
def C6 (L : List Int) (n : Nat) : Nat → List Int
  | 0 => []
  | v + 1 => C6 L n v ++ qCo L n v
theorem Hu {L : List Int} {n : Nat} {x : Int} : ∀ {v : Nat}, x ∈ C6 L n v ↔ x ∈ rng n ∧ 0 ≤ L.getD x.toNat 0 ∧ L.getD x.toNat 0 < v
  | 0 => by simp [C6]
  | v + 1 => by
    simp only [C6, List.mem_append, Hu (v := v), qCo, List.mem_filter, decide_eq_true_eq]
    constructor
    · rintro (⟨a, b, d⟩ | ⟨a, b⟩)
      · exact ⟨a, b, by omega⟩
      · exact ⟨a, by omega, by omega⟩
    · rintro ⟨a, b, d⟩
      by_cases h : L.getD x.toNat 0 < v
      · exact .inl ⟨a, b, h⟩
      · exact .inr ⟨a, by omega⟩
theorem Jv {L : List Int} {n : Nat} : ∀ {v : Nat}, (C6 L n v).Nodup
  | 0 => List.nodup_nil
  | v + 1 => by
    simp only [C6]
    refine List.nodup_append.2 ⟨Jv, q1I.filter _, fun a ha b hb e => ?_⟩
    subst e
    have h1 := (Hu.1 ha).2.2
    simp only [qCo, List.mem_filter, decide_eq_true_eq] at hb
    omega
theorem q20 {L : List Int} {n : Nat} : ∀ {v : Nat}, (C6 L n v).Pairwise fun x y => L.getD x.toNat 0 ≤ L.getD y.toNat 0
  | 0 => List.Pairwise.nil
  | v + 1 => by
    simp only [C6]
    refine List.pairwise_append.2 ⟨q20, ?_, fun a ha b hb => ?_⟩
    · refine List.pairwise_of_forall_mem_list fun a ha b hb => ?_
      simp only [qCo, List.mem_filter, decide_eq_true_eq] at ha hb
      omega
    · have h1 := (Hu.1 ha).2.2
      simp only [qCo, List.mem_filter, decide_eq_true_eq] at hb
      omega
theorem qA5 {c : Bf} {L : List Int} (h : qBb c L) {v : Nat} (hv : c.nodes.l.length ≤ (C6 L c.nodes.l.length v).length) : (C6 L c.nodes.l.length v).Perm (rng c.nodes.l.length) := by
  refine (List.perm_ext_iff_of_nodup Jv q1I).2 fun x => ⟨fun hx => (Hu.1 hx).1, fun hx => ?_⟩
  refine Classical.byContradiction fun hn => ?_
  have hsub : (x :: C6 L c.nodes.l.length v).Nodup := List.nodup_cons.2 ⟨hn, Jv⟩
  have := q1G (N := c.nodes.l.length) hsub fun j hj => by
    have hj' : j ∈ rng c.nodes.l.length := by
      rcases List.mem_cons.1 hj with rfl | hj
      · exact hx
      · exact (Hu.1 hj).1
    have := Q7.1 hj'
    exact ⟨j.toNat, by omega, by omega⟩
  simp at this
  omega
theorem q6O {L : List Int} {n v : Nat} : (C6 L n v).length ≤ n := q1G Jv fun j hj => by
  have := Q7.1 (Hu.1 hj).1
  exact ⟨j.toNat, by omega, by omega⟩
theorem q99 {c : Bf} {L : List Int} (h : qBb c L) {v : Nat} (hv : (C6 L c.nodes.l.length v).length < c.nodes.l.length) : v < c.nodes.l.length := by
  refine Nat.lt_of_not_le fun hle => ?_
  have hp : (C6 L c.nodes.l.length v).Perm (rng c.nodes.l.length) := by
    refine (List.perm_ext_iff_of_nodup Jv q1I).2 fun x => ⟨fun hx => (Hu.1 hx).1, fun hx => Hu.2 ⟨hx, ?_⟩⟩
    have := Q7.1 hx
    have := h.rg x.toNat (by omega)
    omega
  have := hp.length_eq
  rw [Ik] at this
  omega
theorem qA6 {c : Bf} (h : D3 c = 0) {L : List Int} (hL : qBb c L) {v : Nat} (hv : c.nodes.l.length ≤ (C6 L c.nodes.l.length v).length) {init : List Int} (hi : init.length = c.nodes.l.length) : qBV c init (q2Q c (C6 L c.nodes.l.length v) init) := by
  obtain ⟨_, _, h1⟩ := q64 h
  have hp := qA5 hL hv
  have hmem : ∀ n, n ∈ C6 L c.nodes.l.length v ↔ 0 ≤ n ∧ n < c.nodes.l.length := fun n => by rw [hp.mem_iff, Q7]
  have hlt : ∀ x, x ∈ C6 L c.nodes.l.length v → C3 (As c x.toNat) = true → ∀ p ∈ Eh c x.toNat, (0 ≤ p ∧ p < c.nodes.l.length) ∧ L.getD p.toNat 0 < L.getD x.toNat 0 := fun x hx hc p hpp => by
    have hx' := (hmem x).1 hx
    have := hL.sat x.toNat (by omega) hc p hpp
    exact ⟨(h1 x.toNat (by omega) hc p hpp).1, by omega⟩
  obtain ⟨_, a2⟩ := q7m (c := c) (o := C6 L c.nodes.l.length v) (nets := init) hi Jv (fun n hn => (hmem n).1 hn) (q20.imp_of_mem fun {x y} hx hy hxy hc hm => by
    have := (hlt x hx hc y hm).2
    omega) (fun x hx hc => ⟨fun hm => by have := (hlt x hx hc x hm).2; omega, fun p hpp => (hlt x hx hc p hpp).1.1⟩)
  exact ⟨by rw [q0Y]; exact hi, fun i hi => a2 i ((hmem i).2 (by omega))⟩
end Go.Lg
namespace Go.Lg
open Go Go.Proofs
variable {Γ : Tables}
abbrev Pnt := Int × Int
def qCp (l : List (Int × Pnt)) (n : Int) : Pnt := match l.find? (fun p => p.1 == n) with | some p => p.2 | none => (0, 0)
def qEM (l : List (Int × Pnt)) : Prop := ∀ p ∈ l, -1000000 ≤ p.2.1 ∧ p.2.1 ≤ 1000000 ∧ -1000000 ≤ p.2.2 ∧ p.2.2 ≤ 1000000
theorem qEM.at {l : List (Int × Pnt)} (h : qEM l) (n : Int) : -1000000 ≤ (qCp l n).1 ∧ (qCp l n).1 ≤ 1000000 ∧ -1000000 ≤ (qCp l n).2 ∧ (qCp l n).2 ≤ 1000000 := by
  unfold qCp
  split
  · rename_i p hp
    exact h p (List.mem_of_find?_eq_some hp)
  · simp
end Go.Lg
namespace Go.Lg
open Go Go.Proofs
structure NG (B : Bool) (ns : List Nd) (i : Nat) (x : Nd) : Prop where
  k : 0 ≤ x.k ∧ x.k ≤ 15
  f : (K5 x.k).1 ≤ x.inn.l.length ∧ (x.inn.l.length : Int) ≤ (K5 x.k).2
  inn : ∀ p ∈ x.inn.l, 0 ≤ p ∧ p < ns.length
  top : 1 ≤ x.k ∧ x.k ≤ 13 → ∀ p ∈ x.inn.l, p < i
  bus : x.k = 13 → ∀ p ∈ x.inn.l, (ns.getD p.toNat Nd.d).k = 12
  mm : (x.k ≠ 15 → x.mem = 0 ∧ x.bit = 0) ∧ (x.k = 15 → B = true ∧ x.mem = 0 ∧ 0 ≤ x.bit ∧ x.bit ≤ 1)
theorem NG.mono {B : Bool} {ns ys : List Nd} {i : Nat} {x : Nd} (h : NG B ns i x) : NG B (ns ++ ys) i x :=
  ⟨h.k, h.f, fun p hp => by have := h.inn p hp; simp; omega, h.top, fun hk p hp => by
    have h1 := h.inn p hp
    rw [List.getD_eq_getElem?_getD, List.getElem?_append_left (by omega), ← List.getD_eq_getElem?_getD]
    exact h.bus hk p hp, h.mm⟩
def GNs (B : Bool) (ns : List Nd) : Prop := ∀ i (h : i < ns.length), NG B ns i ns[i]
theorem GNs.add {B : Bool} {ns : List Nd} {y : Nd} (h : GNs B ns) (hy : NG B (ns ++ [y]) ns.length y) : GNs B (ns ++ [y]) := by
  intro i hi
  by_cases h1 : i < ns.length
  · rw [List.getElem_append_left h1]; exact (h i h1).mono
  · have : i = ns.length := by simp at hi; omega
    subst this
    simpa using hy
theorem Q0 : K5 0 = (0, 0) ∧ K5 1 = (0, 0) ∧ K5 2 = (0, 0) ∧ K5 3 = (1, 1) ∧ K5 4 = (1, 1) ∧ K5 5 = (2, 16) ∧ K5 6 = (2, 16) ∧ K5 7 = (2, 16) ∧ K5 8 = (2, 16) ∧ K5 9 = (2, 16) ∧ K5 10 = (2, 16) ∧ K5 11 = (3, 3) ∧ K5 12 = (2, 2) ∧ K5 13 = (1, 16) ∧ K5 14 = (1, 1) ∧ K5 15 = (0, 0) := by decide
theorem qFX {B : Bool} {ns : List Nd} {i : Nat} : NG B ns i q4w := ⟨by decide, by decide, by simp [q4w], by simp [q4w], by simp [q4w], by simp [q4w]⟩
theorem qFY {B : Bool} {ns : List Nd} {i : Nat} {v : Int} (h : 0 ≤ v ∧ v < ns.length) : NG B ns i (q46 v) := ⟨by simp [q46], by simp [q46, Q0], by simp [q46]; exact h, by simp [q46], by simp [q46], by simp [q46]⟩
theorem qCq {ns : List Nd} {i : Nat} {b : Int} (h : b = 0 ∨ b = 1) : NG true ns i (q2L b) := ⟨by simp [q2L], by simp [q2L, Q0], by simp [q2L], by simp [q2L], by simp [q2L], by simp [q2L]; omega⟩
theorem qFZ {ns : List Nd} : ∀ p ∈ q34 ns, 0 ≤ p ∧ p < ns.length ∧ (ns.getD p.toNat Nd.d).k = 12 := by
  intro p hp
  obtain ⟨h1, h2, h3⟩ := q33 [12] ns 0 p hp
  refine ⟨by omega, by omega, ?_⟩
  simpa using h3
theorem qAs {l : List Int} {q : Nat} (h : q < l.length) : l.getD q 0 ∈ l := by
  rw [List.getD_eq_getElem?_getD, List.getElem?_eq_getElem h]; exact List.getElem_mem h
theorem qDv {B bus : Bool} {g : Gd} {ns : List Nd} (hg : q7i g) (h0 : 1 ≤ ns.length) : NG B (ns ++ [q35 bus g ns]) ns.length (q35 bus g ns) := by
  have a := Cb (n := ns.length) hg.2.1.1 (by omega)
  have b := Cb (n := ns.length) hg.2.2.1.1 (by omega)
  have d := Cb (n := ns.length) hg.2.2.2.1 (by omega)
  have m13 : 0 ≤ g.k.tmod 13 ∧ g.k.tmod 13 < 13 := Cb (n := 13) hg.1.1 (by omega)
  have m9 : 0 ≤ g.k.tmod 9 ∧ g.k.tmod 9 < 9 := Cb (n := 9) hg.1.1 (by omega)
  have ma : 0 ≤ g.a.tmod 2 ∧ g.a.tmod 2 < 2 := Cb (n := 2) hg.2.1.1 (by omega)
  have hkk : 0 ≤ (if bus then g.k.tmod 13 else g.k.tmod 9) ∧ (if bus then g.k.tmod 13 else g.k.tmod 9) < 13 := by cases bus <;> simp <;> omega
  have ht := qFZ (ns := ns)
  obtain ⟨y, hy⟩ : ∃ y, y = q35 bus g ns := ⟨_, rfl⟩
  rw [← hy]
  have hlen : (ns ++ [y]).length = ns.length + 1 := by simp
  have old : ∀ p : Int, 0 ≤ p → p < ns.length → ((ns ++ [y]).getD p.toNat Nd.d).k = (ns.getD p.toNat Nd.d).k := fun p h1 h2 => by
    rw [List.getD_eq_getElem?_getD, List.getElem?_append_left (by omega), ← List.getD_eq_getElem?_getD]
  -- what suffices of a plain gate
  have mk : ∀ (k : Int) (l : List Int) (cap : Option Nat) (nl : Option Bool), 0 ≤ k → k ≤ 15 → k ≠ 13 → k ≠ 15 → (K5 k).1 ≤ l.length → (l.length : Int) ≤ (K5 k).2 → (∀ p ∈ l, 0 ≤ p ∧ p < ns.length) → NG B (ns ++ [y]) ns.length ⟨k, ⟨l, cap, nl⟩, 0, 0⟩ := fun k l cap nl h1 h2 h3 h4 h5 h6 h7 =>
    ⟨⟨h1, h2⟩, ⟨h5, h6⟩, fun p hp => by have := h7 p hp; omega, fun _ p hp => (h7 p hp).2, fun e => absurd e h3, fun _ => ⟨rfl, rfl⟩, fun e => absurd e h4⟩
  unfold q35 q8h at hy
  simp only at hy
  generalize g.a.tmod ns.length = a' at *
  generalize g.b.tmod ns.length = b' at *
  generalize g.d.tmod ns.length = d' at *
  generalize (if bus = true then g.k.tmod 13 else g.k.tmod 9) = kk at *
  have two : ∀ p ∈ [a', b'], 0 ≤ p ∧ p < ns.length := by intro p hp; simp at hp; rcases hp with rfl | rfl; exact a; exact b
  have three : ∀ p ∈ [a', b', d'], 0 ≤ p ∧ p < ns.length := by intro p hp; simp at hp; rcases hp with rfl | rfl | rfl; exact a; exact b; exact d
  have one : ∀ p ∈ [a'], 0 ≤ p ∧ p < ns.length := by intro p hp; simp at hp; rcases hp with rfl; exact a
  split at hy
  · rename_i h6
    have hc : kk = 0 ∨ kk = 1 ∨ kk = 2 ∨ kk = 3 ∨ kk = 4 ∨ kk = 5 := by omega
    split at hy
    · rw [hy]
      have hf : (K5 (5 + kk)).1 = 2 ∧ (K5 (5 + kk)).2 = 16 := by rcases hc with rfl | rfl | rfl | rfl | rfl | rfl <;> decide
      rw [← hy]
      have := mk (5 + kk) [a', b', d'] none none (by omega) (by omega) (by omega) (by omega) (by rw [hf.1]; simp) (by rw [hf.2]; simp) three
      rw [← hy] at this; exact this
    · have hf : (K5 (5 + kk)).1 = 2 ∧ (K5 (5 + kk)).2 = 16 := by rcases hc with rfl | rfl | rfl | rfl | rfl | rfl <;> decide
      have := mk (5 + kk) [a', b'] none none (by omega) (by omega) (by omega) (by omega) (by rw [hf.1]; simp) (by rw [hf.2]; simp) two
      rw [← hy] at this; exact this
  split at hy
  · have := mk 4 [a'] none none (by omega) (by omega) (by omega) (by omega) (by simp [Q0]) (by simp [Q0]) one
    rw [← hy] at this; exact this
  split at hy
  · have := mk 11 [a', b', d'] none none (by omega) (by omega) (by omega) (by omega) (by simp [Q0]) (by simp [Q0]) three
    rw [← hy] at this; exact this
  split at hy
  · have := mk 12 [a', b'] none none (by omega) (by omega) (by omega) (by omega) (by simp [Q0]) (by simp [Q0]) two
    rw [← hy] at this; exact this
  split at hy
  · rename_i ht2
    generalize q34 ns = t at *
    have mt := Cb (n := t.length) hg.2.1.1 ht2.2
    have mt2 := Cb (a := g.a.tmod t.length + 1) (n := t.length) (by omega) ht2.2
    have q1 := ht _ (qAs (l := t) (q := (g.a.tmod t.length).toNat) (by omega))
    have q2 := ht _ (qAs (l := t) (q := ((g.a.tmod t.length + 1).tmod t.length).toNat) (by omega))
    generalize t.getD (g.a.tmod t.length).toNat 0 = u1 at *
    generalize t.getD ((g.a.tmod t.length + 1).tmod t.length).toNat 0 = u2 at *
    have mkb : ∀ (l : List Int) (cap : Option Nat) (nl : Option Bool), 1 ≤ l.length → l.length ≤ 16 → (∀ p ∈ l, 0 ≤ p ∧ p < ns.length ∧ (ns.getD p.toNat Nd.d).k = 12) → NG B (ns ++ [y]) ns.length ⟨13, ⟨l, cap, nl⟩, 0, 0⟩ := fun l cap nl h5 h6 h7 =>
      ⟨by simp, ⟨by simp [Q0]; omega, by simp [Q0]; omega⟩, fun p hp => by have := h7 p hp; omega, fun _ p hp => (h7 p hp).2.1, fun _ p hp => by rw [old p (h7 p hp).1 (h7 p hp).2.1]; exact (h7 p hp).2.2, fun _ => ⟨rfl, rfl⟩, fun e => by simp at e⟩
    split at hy
    · have := mkb [u1, u2] none none (by simp) (by simp) (by intro p hp; simp at hp; rcases hp with rfl | rfl; exact q1; exact q2)
      rw [← hy] at this; exact this
    · have := mkb [u1] none none (by simp) (by simp) (by intro p hp; simp at hp; rcases hp with rfl; exact q1)
      rw [← hy] at this; exact this
  split at hy
  · have hc : g.a.tmod 2 = 0 ∨ g.a.tmod 2 = 1 := by omega
    have hf : (K5 (1 + g.a.tmod 2)).1 = 0 ∧ (K5 (1 + g.a.tmod 2)).2 = 0 := by rcases hc with e | e <;> rw [e] <;> decide
    have := mk (1 + g.a.tmod 2) [] (some 0) (some true) (by omega) (by omega) (by omega) (by omega) (by rw [hf.1]; simp) (by rw [hf.2]; simp) (by simp)
    rw [← hy] at this; exact this
  · have := mk 3 [a'] none none (by omega) (by omega) (by omega) (by omega) (by simp [Q0]) (by simp [Q0]) one
    rw [← hy] at this; exact this
theorem q7P {B bus : Bool} : ∀ {l : List Gd} {ns : List Nd}, (∀ g ∈ l, q7i g) → 1 ≤ ns.length → GNs B ns → GNs B (Pl bus l ns)
  | [], ns, _, _, h => h
  | g :: l, ns, hg, h0, h => by
    simp only [Pl]
    exact q7P (fun y hy => hg y (List.mem_cons_of_mem _ hy)) (by simp) (h.add (qDv (hg g List.mem_cons_self) h0))
theorem qDw {B : Bool} {ns : List Nd} {j : Nat} {v : Int} (h : GNs B ns) (hj : j < ns.length) (hk : ns[j].k = 14) (hv : 0 ≤ v ∧ v < ns.length) : GNs B (Ry ns j v) := by
  have hm := (h j hj).mm.1 (by rw [hk]; decide)
  have hgd : ns.getD j Nd.d = ns[j] := by simp [List.getD_eq_getElem?_getD, hj]
  have kinds : ∀ q : Nat, ((Ry ns j v).getD q Nd.d).k = (ns.getD q Nd.d).k := fun q => by
    unfold Ry
    simp only [List.getD_eq_getElem?_getD, List.getElem?_set]
    split
    · rename_i e; subst e; simp [hj]
    · rfl
  intro i hi
  have hi' : i < ns.length := by rw [Me] at hi; exact hi
  by_cases hij : i = j
  · subst hij
    have : (Ry ns i v)[i] = ⟨14, ⟨[v], some 1, some false⟩, 0, 0⟩ := by
      simp only [Ry, hgd, hk, hm.1, hm.2, List.getElem_set_self]
    rw [this]
    exact ⟨by simp, by simp [Q0], by simp [Me]; exact hv, by simp, by simp, by simp⟩
  · have : (Ry ns j v)[i] = ns[i] := by
      simp only [Ry]
      rw [List.getElem_set_ne (fun e => hij e.symm)]
    rw [this]
    have hn := h i hi'
    exact ⟨hn.k, hn.f, fun p hp => by rw [Me]; exact hn.inn p hp, hn.top, fun hk p hp => by rw [kinds]; exact hn.bus hk p hp, hn.mm⟩
theorem qA7 {ns : List Nd} {j q : Nat} {v : Int} : ((Ry ns j v).getD q Nd.d).k = (ns.getD q Nd.d).k := by
  unfold Ry
  simp only [List.getD_eq_getElem?_getD, List.getElem?_set]
  split
  · rename_i e; subst e
    split
    · simp
    · rename_i h; simp [List.getElem?_eq_none (Nat.le_of_not_lt h)]
  · rfl
theorem q9A {B : Bool} {x : CD} {first : Nat} (h0 : Byt x.d0) (h1 : Byt x.d1) : ∀ {k i : Nat} {ns : List Nd}, GNs B ns → (∀ q, q < i + k → first + q < ns.length ∧ (ns.getD (first + q) Nd.d).k = 14) → GNs B (q0R x first k i ns)
  | 0, _, _, h, _ => h
  | k + 1, i, ns, h, hq => by
    simp only [q0R]
    obtain ⟨hl, hk⟩ := hq i (by omega)
    have hd : 0 ≤ ddN x i := by unfold ddN; split; exact h0.1; exact h1.1
    have hv := Cb (n := ns.length) hd (by omega)
    refine q9A h0 h1 (qDw h hl (by simpa [List.getD_eq_getElem?_getD, hl] using hk) hv) fun q hq' => ?_
    rw [Me, qA7]
    exact hq q (by omega)
theorem q4q {bus : Bool} : ∀ {l : List Gd} {ns : List Nd} {q : Nat}, q < ns.length → ((Pl bus l ns).getD q Nd.d) = (ns.getD q Nd.d)
  | [], _, _, _ => rfl
  | g :: l, ns, q, h => by
    simp only [Pl]
    rw [q4q (by simp; omega)]
    rw [List.getD_eq_getElem?_getD, List.getElem?_append_left h, ← List.getD_eq_getElem?_getD]
theorem q7w {B : Bool} {x : Nd} (h : ∀ ns : List Nd, 1 ≤ ns.length → ∀ i, NG B ns i x) : ∀ (k : Nat) {ns : List Nd}, GNs B ns → GNs B (ns ++ List.replicate k x)
  | 0, ns, hn => by simpa using hn
  | k + 1, ns, hn => by
    rw [List.replicate_succ, List.append_cons]
    exact q7w h k (hn.add (h _ (by simp) _))
theorem q15 {x : CD} (hx : q2M x) : GNs x.mem (Ef x) := by
  have m4 : 0 ≤ x.i.tmod 4 ∧ x.i.tmod 4 < 4 := Cb (n := 4) hx.i.1 (by omega)
  have m3 : 0 ≤ x.f.tmod 3 ∧ x.f.tmod 3 < 3 := Cb (n := 3) hx.f.1 (by omega)
  have g0 : GNs x.mem [] := fun i h => by simp at h
  have g1 : GNs x.mem (Hr x) := by
    have := q7w (B := x.mem) (x := q4w) (fun ns _ i => qFX) (x.i.tmod 4 + 1).toNat g0
    simpa [Hr] using this
  have l1 : 1 ≤ (Hr x).length := by simp [Hr]; omega
  have g2 : GNs x.mem (F4 x) := q7w (fun ns h i => qFY ⟨by omega, by omega⟩) _ g1
  have l2 : (F4 x).length = (Hr x).length + (x.f.tmod 3).toNat := by simp [F4]
  have g3 : GNs x.mem (Ee x) := by
    unfold Ee
    split
    · rename_i hm
      rw [hm] at g2 ⊢
      have a1 := g2.add (y := q2L 0) (qCq (.inl rfl))
      have a2 := a1.add (y := q2L 1) (qCq (.inr rfl))
      rw [List.append_assoc] at a2
      exact a2
    · exact g2
  have l3 : (F4 x).length ≤ (Ee x).length := by unfold Ee; split <;> simp
  have g4 : GNs x.mem (Cm x) := q7P (fun g hg => hx.gates g (List.mem_of_mem_take hg)) (by omega) g3
  have l4 : (Ee x).length ≤ (Cm x).length := by unfold Cm; rw [Yt]; omega
  refine q9A hx.d0 hx.d1 g4 fun q hq => ⟨by omega, ?_⟩
  unfold Cm
  rw [q4q (by omega)]
  have e : (Ee x).getD ((Hr x).length + q) Nd.d = (F4 x).getD ((Hr x).length + q) Nd.d := by
    unfold Ee
    split
    · rw [List.getD_eq_getElem?_getD, List.getElem?_append_left (by omega), ← List.getD_eq_getElem?_getD]
    · rfl
  rw [e]
  unfold F4
  rw [List.getD_eq_getElem?_getD, List.getElem?_append_right (by omega)]
  simp only [Nat.add_sub_cancel_left]
  rw [List.getElem?_replicate, if_pos (by omega)]
  rfl
theorem Z4 {α : Type} {f : α → Int} : ∀ {l : List α}, (∀ x ∈ l, f x = 0) → Da (l.map f) = 0
  | [], _ => rfl
  | x :: l, h => by
    simp only [List.map_cons, Da, h x List.mem_cons_self, ne_eq, not_true_eq_false, if_false]
    exact Z4 fun y hy => h y (List.mem_cons_of_mem _ hy)
theorem qA8 : ∀ n, n ≤ 16 → I0 [] ((List.range' 0 n).map Xj) = 0 := by
  intro n hn
  have : n = 0 ∨ n = 1 ∨ n = 2 ∨ n = 3 ∨ n = 4 ∨ n = 5 ∨ n = 6 ∨ n = 7 ∨ n = 8 ∨ n = 9 ∨ n = 10 ∨ n = 11 ∨ n = 12 ∨ n = 13 ∨ n = 14 ∨ n = 15 ∨ n = 16 := by omega
  rcases this with rfl | rfl | rfl | rfl | rfl | rfl | rfl | rfl | rfl | rfl | rfl | rfl | rfl | rfl | rfl | rfl | rfl <;> decide +kernel
theorem qBc {x : CD} (hx : q2M x) : Dv (Ol x) = 0 := by
  have hl := q2O hx
  have h5 := q2P hx
  have hg := q15 hx
  have hN : (Ol x).nodes.l = Ef x := rfl
  have hmods : ∀ b, Byt b → 0 ≤ b.tmod (Cm x).length ∧ b.tmod (Cm x).length < (Ef x).length := fun b hb => by
    have := Cb (n := (Cm x).length) hb.1 (by omega); omega
  have hout : ∀ n, 0 ≤ n ∧ n < ((Ef x).length : Int) → Oj (Ol x) n = false := fun n h => by simp [Oj, hN]; omega
  have hnode : ∀ y ∈ Ef x, Dm (Ol x) y = 0 := by
    intro y hy
    obtain ⟨i, hi, rfl⟩ := List.getElem_of_mem hy
    have hn := hg i hi
    unfold Dm
    rw [if_neg (by have := hn.k; omega), if_neg (by have := hn.f; omega)]
    have h1 : (Ef x)[i].inn.l.any (Oj (Ol x)) = false := List.any_eq_false.2 fun p hp => by rw [hout p (hn.inn p hp)]; simp
    rw [h1]
    have h2 : ¬ ((Ef x)[i].k = 13 ∧ (Ef x)[i].inn.l.any (q0K (Ol x)) = true) := by
      rintro ⟨hk, ha⟩
      obtain ⟨p, hp, hq⟩ := List.any_eq_true.1 ha
      have := hn.bus hk p hp
      simp [q0K, hN] at hq
      rw [List.getD_eq_getElem?_getD] at this
      exact hq this
    rw [if_neg (by simp), if_neg h2]
    have h3 : Za (Ol x) (Ef x)[i] = true := by
      unfold Za
      by_cases hk : (Ef x)[i].k = 15
      · obtain ⟨hm, e1, e2, e3⟩ := hn.mm.2 hk
        simp only [hk, ne_eq, not_true_eq_false, if_false, decide_eq_true_eq]
        simp [Ol, q6d, hm, e1]
        omega
      · have := hn.mm.1 hk
        simp [hk, this]
    rw [h3]; simp
  unfold Dv
  have e1 : ¬ (16384 < (Ol x).nodes.l.length ∨ 16 < (Ol x).mems.l.length ∨ 16384 < (Ol x).outs.l.length) := by
    have : (Ol x).mems.l.length ≤ 1 := by simp only [Ol, q6d]; split <;> simp
    have : (Ol x).outs.l.length ≤ 4 := by simp [Ol]; omega
    rw [hN]; omega
  have e2 : (Ol x).names.l.length = (Ol x).nodes.l.length := by rw [hN]; simp [Ol]; omega
  rw [if_neg e1, if_neg (by simp [e2]), if_neg (by rw [hN, Z4 hnode]; simp), if_neg (by
    rw [show (Ol x).names.l = (List.range' 0 (Cm x).length).map Xj from rfl, qA8 _ hl.2]; simp), if_neg (by
    rw [Z4]
    · simp
    · intro m hm
      simp only [Ol, q6d] at hm
      split at hm
      · simp at hm; subst hm
        unfold Nx
        have a0 := hout _ (hmods _ hx.p0)
        have a1 := hout _ (hmods _ hx.p1)
        have a2 := hout _ (hmods _ hx.p2)
        have a3 := hout _ (hmods _ hx.p3)
        simp [Um, a0, a1, a2, a3]
      · cases hm)]
  have ho : (Ol x).outs.l.any (Oj (Ol x)) = false := by
    refine List.any_eq_false.2 fun p hp => ?_
    have : 0 ≤ p ∧ p < ((Ef x).length : Int) := by
      simp only [Ol, List.mem_append, List.mem_map, List.mem_singleton] at hp
      rcases hp with ⟨b, hb, rfl⟩ | rfl
      · exact hmods b (hx.outs b (List.mem_of_mem_take hb))
      · omega
    rw [hout p this]; simp
  rw [ho]; rfl
theorem q7Q {x : CD} (hx : q2M x) : D3 (Ol x) = 0 := by
  have hs := qBc hx
  have hg := q15 hx
  have hN : (Ol x).nodes.l = Ef x := rfl
  have hin : ∀ y ∈ (Ol x).nodes.l, ∀ p ∈ y.inn.l, 0 ≤ p ∧ p < (Ol x).nodes.l.length := by
    intro y hy p hp
    rw [hN] at hy ⊢
    obtain ⟨i, hi, rfl⟩ := List.getElem_of_mem hy
    exact (hg i hi).inn p hp
  have hd := q8q (Ol x) (Md hs).2.1 hin (by
    intro i hi hc p hp
    rw [hN] at hi
    have e : (Ol x).nodes.l.getD i Nd.d = (Ef x)[i] := by rw [hN]; simp [List.getD_eq_getElem?_getD, hi]
    simp only [As, Eh, e] at hc hp
    exact (hg i hi).top (by simpa [C3] using hc) p hp)
  unfold D3
  rw [if_neg (by simp [hs]), if_neg hd]
theorem qBd {x : CD} (hx : q2M x) (hm : x.mem = false) : q5y (Ol x) = 0 := by
  have hv := q7Q hx
  have hg := q15 hx
  have h1 : (Ol x).mems.l = [] := by simp [Ol, q6d, hm]
  have h2 : mems (Ol x) = [] := by
    refine List.eq_nil_iff_forall_not_mem.2 fun n hn => ?_
    obtain ⟨a, b, h3⟩ := q33 [15] (Ol x).nodes.l 0 n hn
    have hi : n.toNat < (Ef x).length := by have : (Ol x).nodes.l = Ef x := rfl; rw [this] at b; omega
    have hk : (Ef x)[n.toNat].k = 15 := by
      have : (Ol x).nodes.l = Ef x := rfl
      rw [this] at h3
      simpa [List.getD_eq_getElem?_getD, hi] using h3
    have := ((hg _ hi).mm.2 hk).1
    rw [hm] at this; cases this
  unfold q5y
  rw [if_neg (by simp [hv]), h1, h2]; simp
end Go.Lg
namespace Go.Lg
open Go Go.Proofs
variable {Γ : Tables}
def qH6 (l : List (Sl Int)) : List Int := (l.map fun s => s.l).flatten
end Go.Lg
namespace Go.Lg
open Go Go.Proofs
def qCr (x : CD) : CD := { x with mem := false }
theorem qCs {x : CD} (hx : q2M x) : q2M (qCr x) := ⟨hx.i, hx.f, hx.d0, hx.d1, hx.p0, hx.p1, hx.p2, hx.p3, hx.gates, hx.outs⟩
def m0 (c : Bf) (ch : List (Sl Int)) : Nat := c.nodes.l.length + 1 + ch.length
end Go.Lg
namespace Go.Lg
open Go Go.Proofs
variable {Γ : Tables}
theorem q3Z {f : FuncId} {as' : List AV} {ts : List T} {res : T} {K : T → Prop} (h : A8 Tryz.prog Γ f ts res) (ht : Ar (as'.map toT) = some ts) (hk : K res) : q9p Tryz.prog Γ f as' K ⟨⟩ := ⟨ts, res, ht, .inr h, hk⟩
theorem qBe (q : PD) (hq : qCe q) (c : Bf) (hc : COk c) : A8 Tryz.prog Γ 14 [.agg (tPD q), .agg (tC c)] (.agg (tP (q7L q c))) := by
  refine Ac q6E rfl ?_
  have h1 := qAn (Γ := Γ) q.i (Dn c).length (Nat.le_trans (Uy c) hc.nodes) 4 (by omega)
  have h2 := qAn (Γ := Γ) q.s (Ce c).length (Nat.le_trans (Jb c) hc.nodes) 3 (by omega)
  have l1 : (Rq q.i.l (Dn c).length 4).length = (Dn c).length := Z2
  have l2 : (Rq q.s.l (Ce c).length 3).length = (Ce c).length := Z2
  have k1 := Dl (l := Rq q.i.l (Dn c).length 4)
  have k2 := Dl (l := Rq q.s.l (Ce c).length 3)
  rw [l1] at k1
  rw [l2] at k2
  simp [q1p, tC, Aa, Ad, Ae, Aw, tPD, tV]
  refine q3Z (q6I c hc 0) rfl ?_
  simp
  refine ⟨_, _, h1, ?_⟩
  simp
  refine q3Z (q6I c hc 14) rfl ?_
  simp
  refine ⟨_, _, h2, ?_⟩
  simp [q1q, Ak, Ai, k1, k2, tP, tV, q7L, qH2, qH3]
structure NOk (c : Bf) : Prop where
  ok : COk c
  lev : D3 c = 0
  mm : c.mems.l = []
  m0 : mems c = []
  n1 : 1 ≤ c.nodes.l.length
  n2 : c.nodes.l.length ≤ 16
  k : ∀ i, i < c.nodes.l.length → 0 ≤ As c i ∧ As c i ≤ 14
theorem qFa {x : CD} (hx : q2M x) (hm : x.mem = false) : NOk (Ol x) := by
  have hl := q2O hx
  have h5 := q2P hx
  have hN : (Ol x).nodes.l = Ef x := rfl
  have hp := qBd hx hm
  have hv := q7Q hx
  have h1 : (Ol x).mems.l = [] := by simp [Ol, q6d, hm]
  have h2 : mems (Ol x) = [] := by
    unfold q5y at hp
    rw [if_neg (by simp [hv])] at hp
    split at hp
    · cases hp
    · rename_i h; exact List.eq_nil_of_length_eq_zero (by omega)
  refine ⟨qCO hx, hv, h1, h2, by rw [hN]; omega, by rw [hN]; omega, fun i hi => ?_⟩
  have hs := (q0V hv).1
  have hn := (Md hs).2.2.1 _ (List.getElem_mem hi)
  have hk : As (Ol x) i = (Ol x).nodes.l[i].k := by simp [As, hi]
  have hkk := (qCO hx).kind _ (List.getElem_mem hi)
  have h15 : ¬ As (Ol x) i = 15 := fun e => by
    have : (i : Int) ∈ mems (Ol x) := (qDl hi).2 e
    rw [h2] at this; cases this
  have hle : ¬ 15 < (Ol x).nodes.l[i].k := fun h => by
    unfold Dm at hn
    rw [if_pos h] at hn; cases hn
  rw [hk] at h15 ⊢
  omega
theorem qAt {l : List Int} {n : Nat} {most : Int} (hl : ∀ v ∈ l, 0 ≤ v) (hm : 0 < most ∧ most ≤ 4) : ∀ v ∈ Rq l n most, V4 v := by
  intro v hv
  obtain ⟨i, _, rfl⟩ := List.mem_map.1 hv
  split
  · simp [V4]
  · rename_i h
    have hpos : 0 < l.length := List.length_pos_iff.2 h
    have h0 : 0 ≤ l.getD (i % l.length) 0 := by
      rw [Be (Nat.mod_lt _ hpos)]; exact hl _ (List.getElem_mem _)
    generalize l.getD (i % l.length) 0 = u at *
    rw [Int.tmod_eq_emod_of_nonneg h0]
    have := Int.emod_nonneg u (show most ≠ 0 by omega)
    have := Int.emod_lt_of_pos u hm.1
    unfold V4; omega
structure POk (c : Bf) (p : Pat) : Prop where
  i : p.inn.l.length = (Dn c).length
  s : p.st.l.length = (Ce c).length
  vi : ∀ v ∈ p.inn.l, V4 v
  vs : ∀ v ∈ p.st.l, V4 v
theorem qCt {q : PD} (hq : qCe q) (c : Bf) : POk c (q7L q c) :=
  ⟨Z2, Z2, qAt (fun v hv => (hq.1 v hv).1) (by omega), qAt (fun v hv => (hq.2 v hv).1) (by omega)⟩
theorem qBf {c : Bf} (hc : NOk c) {p : Pat} (hp : POk c p) : Ww c p = 0 := by
  unfold Ww
  rw [if_neg (by simp [hc.lev])]
  unfold W7
  have a1 : ∀ {l : List Int}, (∀ v ∈ l, V4 v) → l.any K6 = false := fun h => List.any_eq_false.2 fun v hv => by have := (h v hv).2; simp [K6]; omega
  rw [if_neg (by rw [hc.mm, hc.m0]; simp), if_neg (by simp [hp.i, hp.s]), a1 hp.vi, a1 hp.vs]
  simp
theorem qFb (hΓ : GOk Γ) {c : Bf} (hc : NOk c) {p : Pat} (hp : POk c p) :
    Au Tryz.prog Γ 15 [.agg (tC c), .agg (tP p)] (.tup [.agg [tVs (Ro c (F6 c p.inn.l p.st.l)), tVs (Fb c (F6 c p.inn.l p.st.l))], .sl (Az (F6 c p.inn.l p.st.l)) (some c.nodes.l.length) none, tI 0]) := by
  have hcn := hc.n2
  have h := q6D hΓ c hc.ok (by omega) p ⟨by rw [hp.i]; have := Uy c; omega, by rw [hp.s]; have := Jb c; omega⟩ ⟨fun v hv => (hp.vi v hv).1, fun v hv => (hp.vs v hv).1⟩
  unfold q4D at h
  rwa [if_pos (qBf hc hp)] at h
theorem qCu {c : Bf} {a b : List Int} : (F6 c a b).length = c.nodes.l.length := by unfold F6; rw [q0Y, Pn]
theorem gE' {α : Type} {f : α → T} {l : List α} {i : Nat} (d : α) (h0 : i < l.length) : ∀ h : i < (Av f l).length, (Av f l)[i] = [f (l.getD i d)] := fun h => by
  have := C0 (f := f) d h0
  rw [List.getElem?_eq_getElem h] at this
  simpa [List.getD_eq_getElem?_getD] using this
theorem gE {α : Type} {f : α → T} {l : List α} {i : Nat} (d : α) (h0 : i < l.length) : (Av f l)[i]?.getD [] = [f (l.getD i d)] := by
  rw [List.getElem?_eq_getElem (by rw [A5]; exact h0)]
  exact gE' d h0 _
end Go.Lg
