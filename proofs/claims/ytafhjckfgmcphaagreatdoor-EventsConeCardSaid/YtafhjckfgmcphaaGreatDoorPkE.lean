/- The abstract code of some functions, as the program gen.py prints it. Conditions: none. -/
import Derived.Test.YtafhjckfgmcphaaGreatDoorPkC
import Derived.Test.YtafhjckfgmcphaaGreatDoorProg
import Derived.KernelRfl
import Derived.Test.YtafhjckfgmcphaaGreatDoorPkD
set_option linter.unusedVariables false
namespace Go.Lg
open Go
section
variable {P:Program} {Γ:Tables} {Q:AX->St->Prop} {s:St}
/- probecard/logic.Clean (function 109) -/
abbrev q1k:IC:=(.seq (.reg [od 2 (.mv (ku 0))] [kp [0] []]) (.seq (.seq (.reg [om 3 0,od 4 (.bin .gtr (tm 3) (ku 3))] [kp [0,4] []]) (.cond (tm 4) (.seq (.reg [od 2 (.mv (ku 2))] [kp [2] []]) .ret) .skip)) (.seq (.reg [om 5 0,om 2 5] [kp [2]
 []]) .ret)))
def q1l:List RV:=[.tmp 2]
/- probecard/logic.Read (function 120) -/
abbrev q2s:IC:=(.seq (.reg [od 2 (.mv (ku 0))] [kp [0] []]) (.seq (.reg [om 3 0,od 4 (.mmx false [(tm 3),(ku 2)]),om 2 4] [kp [2] []]) .ret))
def q2t:List RV:=[.tmp 2]
/- probecard/logic.Known (function 130) -/
abbrev q1m:IC:=(.seq (.reg [od 2 (.mv kF)] [kp [0] []]) (.seq (.reg [om 3 0,od 4 (.bin .leq (tm 3) (ku 1)),om 2 4] [kp [2] []]) .ret))
def q1n:List RV:=[.tmp 2]
/- probecard/logic.Not (function 121) -/
abbrev q4R:IC:=(.seq (.reg [od 2 (.mv (ku 0))] [kp [0] []]) (.seq (.seq (.reg [om 3 0,od 4 (.call 130 [(tm 3)])] [kp [0,4] []]) (.cond (tm 4) (.seq (.reg [om 5 0,od 6 (.bin .sub (ku 1) (tm 5)),om 2 6] [kp [2] []]) .ret) .skip)) (.seq (.reg
 [od 2 (.mv (ku 2))] [kp [2] []]) .ret)))
def q0S:List RV:=[.tmp 2]
/- probecard/logic.decided (function 184) -/
abbrev Zf:IC:=.gh (.seq (.reg [od 14 (.bin .lss (tm 13) (tm 12))] [kp [1,2,7,11,12,13,14] []]) (.seq (.cond (tm 14) .skip (.exit 0)) (.seq (.block 1 (.seq (.reg [od 15 (ia 1 11 13),od 16 (ld 1 15),om 9 16] [kp [1,2,7,9,11,12,13]
 []]) (.block 2 (.seq (.reg [om 18 9,om 19 1,od 20 (.bin .eql (tm 18) (tm 19)),om 17 20] [kp [1,2,7,9,11,12,13,17] []]) (.cond (tm 17) (.seq (.reg [om 21 1,om 6 21] [kp [6] []]) .ret) (.seq (.reg [om 23 9,om 24 2,od 25
 (.bin .neq (tm 23) (tm 24)),om 22 25] [kp [1,2,7,11,12,13,22] []]) (.cond (tm 22) (.reg [od 7 (.mv (ku 2))] [kp [1,2,7,11,12,13] []]) .skip))))))) (.reg [od 26 (.bin .add (tm 13) (ki 1)),om 13 26] [kp [1,2,7,11,12,
 13] []])))) [kp [1,2,7,11,12,13] []]
def Ls:IC:=.loop Zf
abbrev Zg:IC:=(.seq (.reg [od 6 (.mv (ku 0))] [kp [0,1,2] []]) (.seq (.reg [om 10 2,om 7 10] [kp [0,1,2,7] []]) (.seq (.seq (.reg [om 11 0,od 12 (le 0 11),od 13 (.mv (ki 0))] [kp [1,2,7,11,12,13] []]) (.block 0 Ls))
 (.seq (.reg [om 27 7,om 6 27] [kp [6] []]) .ret))))
theorem Tu (h:∀ K:St->Prop,K=run P Γ Ls Q->run P Γ Zf (B0 K Q) s):run P Γ Ls Q s:=Am h
def Rt:List RV:=[.tmp 6]
/- probecard/logic.And (function 122) -/
abbrev q4S:IC:=(.seq (.reg [od 2 (.mv (ku 0))] [kp [0] []]) (.seq (.reg [om 3 0,od 4 (.call 184 [(tm 3),(ku 0),(ku 1)]),om 2 4] [kp [2] []]) .ret))
def q4T:List RV:=[.tmp 2]
/- probecard/logic.Or (function 123) -/
abbrev q5x:IC:=(.seq (.reg [od 2 (.mv (ku 0))] [kp [0] []]) (.seq (.reg [om 3 0,od 4 (.call 184 [(tm 3),(ku 1),(ku 0)]),om 2 4] [kp [2] []]) .ret))
def q5y:List RV:=[.tmp 2]
/- probecard/logic.Xor (function 124) -/
abbrev q4U:IC:=.gh (.seq (.reg [od 9 (.bin .lss (tm 8) (tm 7))] [kp [3,6,7,8,9] []]) (.seq (.cond (tm 9) .skip (.exit 0)) (.seq (.block 1 (.seq (.reg [od 10 (ia 1 6 8),od 11 (ld 1 10),om 5 11] [kp [3,5,6,7,8] []]) (.seq (.seq (.reg [om
 12 5,od 13 (.call 130 [(tm 12)]),od 14 (.un .not (tm 13))] [kp [3,5,6,7,8,14] []]) (.cond (tm 14) (.seq (.reg [od 2 (.mv (ku 2))] [kp [2] []]) .ret) .skip)) (.reg [om 15 3,om 16 5,od 17 (.bin .xor (tm 15) (tm 16)),om 3
 17] [kp [3,6,7,8] []])))) (.reg [od 18 (.bin .add (tm 8) (ki 1)),om 8 18] [kp [3,6,7,8] []])))) [kp [3,6,7,8] []]
def Vq:IC:=.loop q4U
abbrev q4V:IC:=(.seq (.reg [od 2 (.mv (ku 0))] [kp [0] []]) (.seq (.reg [od 3 (.mv (ku 0))] [kp [0,3] []]) (.seq (.seq (.reg [om 6 0,od 7 (le 0 6),od 8 (.mv (ki 0))] [kp [3,6,7,8] []]) (.block 0 Vq)) (.seq (.reg [om 19 3,om 2 19]
 [kp [2] []]) .ret))))
theorem Zh (h:∀ K:St->Prop,K=run P Γ Vq Q->run P Γ q4U (B0 K Q) s):run P Γ Vq Q s:=Am h
def q0T:List RV:=[.tmp 2]
/- probecard/logic.Mux (function 125) -/
abbrev Q5:IC:=(.seq (.reg [od 6 (.mv (ku 0))] [kp [0,1,2] []]) (.seq (.block 0 (.seq (.reg [om 8 0,od 9 (.bin .eql (tm 8) (ku 0)),om 7 9] [kp [0,1,2,7] []]) (.cond (tm 7) (.seq (.reg [om 10 1,od 11 (.call 120 [(tm 10)]),om 6 11] [kp [6]
 []]) .ret) (.seq (.reg [om 13 0,od 14 (.bin .eql (tm 13) (ku 1)),om 12 14] [kp [1,2,12] []]) (.cond (tm 12) (.seq (.reg [om 15 2,od 16 (.call 120 [(tm 15)]),om 6 16] [kp [6] []]) .ret) (.seq (.reg [om 18 1,om 19 2,od 20
 (.bin .eql (tm 18) (tm 19)),om 17 20] [kp [1,17] []]) (.cond (tm 17) (.seq (.reg [om 21 1,od 22 (.call 120 [(tm 21)]),om 6 22] [kp [6] []]) .ret) .skip))))))) (.seq (.reg [od 6 (.mv (ku 2))] [kp [6] []]) .ret)))
def Q6:List RV:=[.tmp 6]
/- probecard/logic.Tri (function 126) -/
abbrev Vr:IC:=(.seq (.reg [od 4 (.mv (ku 0))] [kp [0,1] []]) (.seq (.seq (.reg [om 5 0] [kp [1,5] []]) (.block 0 (.seq (.reg [od 7 (.bin .eql (tm 5) (ku 0)),om 6 7] [kp [1,5,6] []]) (.cond (tm 6) (.seq (.reg [od 4 (.mv (ku 3))] [kp [4] []])
 .ret) (.seq (.reg [od 9 (.bin .eql (tm 5) (ku 1)),om 8 9] [kp [1,8] []]) (.cond (tm 8) (.seq (.reg [om 10 1,od 11 (.call 120 [(tm 10)]),om 4 11] [kp [4] []]) .ret) .skip)))))) (.seq (.reg [od 4 (.mv (ku 2))] [kp [4] []])
 .ret)))
def Vs:List RV:=[.tmp 4]
/- probecard/logic.Bus (function 127) -/
abbrev q4W:IC:=(.seq (.reg [od 2 (.mv (ku 0))] [kp [0] []]) (.seq (.reg [od 3 (.mv (.func 185))] [kp [0,3] []]) (.seq (.reg [od 4 (.mv (.func 186))] [kp [0,3,4] []]) (.seq (.reg [om 6 0,om 7 4,od 8 (.call 106 [(tm 6),(tm 7)]),om 5 8] [kp
 [0,3,5] []]) (.seq (.block 0 (.seq (.reg [om 10 5,od 11 (.bin .lss (tm 10) (ki 0)),om 9 11] [kp [0,3,5,9] []]) (.cond (tm 9) (.seq (.reg [od 2 (.mv (ku 3))] [kp [2] []]) .ret) (.seq (.reg [om 13 0,od 14 (.call 187 [(tm
 13)]),om 15 14,oF 16 (.mv (tm 0)) 15,oF 17 (.mv (tm 3)) 15,oF 18 (.call 43 [(tm 16),(tm 17)]) 15,od 19 (.pick (tm 15) kT (tm 18)),om 12 19] [kp [0,5,12] []]) (.cond (tm 12) (.seq (.reg [od 2 (.mv (ku 2))] [kp [2] []])
 .ret) .skip))))) (.seq (.reg [om 20 0,om 21 5,od 22 (ia 1 20 21),od 23 (ld 1 22),om 2 23] [kp [2] []]) .ret))))))
def Q7:List RV:=[.tmp 2]
/- probecard/logic.Bus$1 (function 185) -/
abbrev q1o:IC:=(.seq (.reg [od 2 (.mv kF)] [kp [0] []]) (.seq (.reg [om 3 0,od 4 (.call 109 [(tm 3)]),od 5 (.bin .eql (tm 4) (ku 2)),om 2 5] [kp [2] []]) .ret))
def q1p:List RV:=[.tmp 2]
/- probecard/logic.Bus$2 (function 186) -/
abbrev q1q:IC:=(.seq (.reg [od 2 (.mv kF)] [kp [0] []]) (.seq (.reg [om 3 0,od 4 (.bin .neq (tm 3) (ku 3)),om 2 4] [kp [2] []]) .ret))
def q1r:List RV:=[.tmp 2]
/- probecard/logic.Conflict (function 187) -/
abbrev Y4:IC:=(.seq (.reg [od 2 (.mv kF)] [kp [0] []]) (.seq (.reg [om 3 0,od 4 (.call 207 [(tm 3),(ku 0)]),om 5 4,oT 6 (.mv (tm 0)) 5,oT 7 (.call 207 [(tm 6),(ku 1)]) 5,od 8 (.pick (tm 5) (tm 7) kF),om 2 8] [kp [2] []]) .ret))
def Q8:List RV:=[.tmp 2]
/- slices.Contains[[]probecard/api.Value,probecard/api.Value] (function 207) -/
abbrev Jh:IC:=(.seq (.reg [od 4 (.mv kF)] [kp [0,1] []]) (.seq (.reg [om 5 0,om 6 1,od 7 (.call 216 [(tm 5),(tm 6)]),od 8 (.bin .geq (tm 7) (ki 0)),om 4 8] [kp [4] []]) .ret))
def Ji:List RV:=[.tmp 4]
/- slices.Index[[]probecard/api.Value,probecard/api.Value] (function 216) -/
abbrev M4:IC:=.gh (.seq (.reg [od 9 (.bin .lss (tm 8) (tm 7))] [kp [0,1,7,8,9] []]) (.seq (.cond (tm 9) .skip (.exit 0)) (.seq (.block 1 (.seq (.reg [om 10 8,om 5 10] [kp [0,1,5,7,8] []]) (.seq (.reg [om 11 1,om 12 0,om 13 5,od 14
 (ia 1 12 13),od 15 (ld 1 14),od 16 (.bin .eql (tm 11) (tm 15))] [kp [0,1,5,7,8,16] []]) (.cond (tm 16) (.seq (.reg [om 17 5,om 4 17] [kp [4] []]) .ret) .skip)))) (.reg [od 18 (.bin .add (tm 8) (ki 1)),om 8 18] [kp [0,1,
 7,8] []])))) [kp [0,1,7,8] []]
def Ek:IC:=.loop M4
def Gu:List RO:=[od 4 (.mv (.const (.int .i64 (-1))))]
abbrev M5:IC:=(.seq (.reg [od 4 (.mv (ki 0))] [kp [0,1] []]) (.seq (.seq (.reg [om 6 0,od 7 (le 0 6),od 8 (.mv (ki 0))] [kp [0,1,7,8] []]) (.block 0 Ek)) (.seq (.reg Gu [kp [4] []]) .ret)))
theorem Ij (h:∀ K:St->Prop,K=run P Γ Ek Q->run P Γ M4 (B0 K Q) s):run P Γ Ek Q s:=Am h
attribute [simp] Gu
def Dk:List RV:=[.tmp 4]
/- slices.ContainsFunc[[]probecard/api.Value,probecard/api.Value] (function 43) -/
abbrev H7:IC:=(.seq (.reg [od 4 (.mv kF)] [kp [0,1] []]) (.seq (.reg [om 5 0,om 6 1,od 7 (.call 106 [(tm 5),(tm 6)]),od 8 (.bin .geq (tm 7) (ki 0)),om 4 8] [kp [4] []]) .ret))
def H8:List RV:=[.tmp 4]
/- slices.IndexFunc[[]probecard/api.Value,probecard/api.Value] (function 106) -/
abbrev Ik:IC:=.gh (.seq (.reg [od 9 (.bin .lss (tm 8) (tm 7))] [kp [0,1,7,8,9] []]) (.seq (.cond (tm 9) .skip (.exit 0)) (.seq (.block 1 (.seq (.reg [om 10 8,om 5 10] [kp [0,1,5,7,8] []]) (.seq (.reg [om 11 1,om 12 0,om 13 5,od 14
 (ia 1 12 13),od 15 (ld 1 14),od 16 (.callv (tm 11) [(tm 15)])] [kp [0,1,5,7,8,16] []]) (.cond (tm 16) (.seq (.reg [om 17 5,om 4 17] [kp [4] []]) .ret) .skip)))) (.reg [od 18 (.bin .add (tm 8) (ki 1)),om 8 18] [kp [0,1,7,
 8] []])))) [kp [0,1,7,8] []]
def Dm:IC:=.loop Ik
abbrev Il:IC:=(.seq (.reg [od 4 (.mv (ki 0))] [kp [0,1] []]) (.seq (.seq (.reg [om 6 0,od 7 (le 0 6),od 8 (.mv (ki 0))] [kp [0,1,7,8] []]) (.block 0 Dm)) (.seq (.reg [od 4 (.mv (.const (.int .i64 (-1))))] [kp [4]
 []]) .ret)))
theorem Gq (h:∀ K:St->Prop,K=run P Γ Dm Q->run P Γ Ik (B0 K Q) s):run P Γ Dm Q s:=Am h
def F2:List RV:=[.tmp 4]
/- probecard/logic.Eval (function 64) -/
abbrev C2:IC:=(.seq (.reg [od 4 (.mv (ku 0))] [kp [0,1] []]) (.seq (.seq (.reg [om 8 0,od 9 (.call 119 [(tm 8)]),om 7 9,od 10 (ex 7 0),od 11 (ex 7 1),om 5 10,om 6 11] [kp [0,1,5,6] []]) (.seq (.reg [om 12 1,od 13 (le 0 12),om 14 5,
 od 15 (.bin .lss (tm 13) (tm 14)),om 16 15,oF 17 (.mv (tm 1)) 16,oF 18 (le 0 17) 16,oF 19 (.mv (tm 6)) 16,oF 20 (.bin .gtr (tm 18) (tm 19)) 16,od 21 (.pick (tm 16) kT (tm 20))] [kp [0,1,21] []]) (.cond (tm 21) (.seq (.reg
 [od 4 (.mv (ku 2))] [kp [4] []]) .ret) .skip))) (.seq (.seq (.reg [om 22 0] [kp [1,22] []]) (.block 0 (.seq (.reg [od 24 (.bin .eql (tm 22) (ku 1)),om 23 24] [kp [1,22,23] []]) (.cond (tm 23) (.seq (.reg [od 4 (.mv (ku 0))] [kp
 [4] []]) .ret) (.seq (.reg [od 26 (.bin .eql (tm 22) (ku 2)),om 25 26] [kp [1,22,25] []]) (.cond (tm 25) (.seq (.reg [od 4 (.mv (ku 1))] [kp [4] []]) .ret) (.seq (.reg [od 28 (.bin .eql (tm 22) (ku 3)),om 27 28] [kp [1,22,27]
 []]) (.cond (tm 27) (.seq (.reg [om 29 1,od 30 (.iadr 1 (tm 29) (ki 0)),od 31 (ld 1 30),od 32 (.call 120 [(tm 31)]),om 4 32] [kp [4] []]) .ret) (.seq (.reg [od 34 (.bin .eql (tm 22) (ku 4)),om 33 34] [kp [1,22,33] []])
 (.cond (tm 33) (.seq (.reg [om 35 1,od 36 (.iadr 1 (tm 35) (ki 0)),od 37 (ld 1 36),od 38 (.call 121 [(tm 37)]),om 4 38] [kp [4] []]) .ret) (.seq (.reg [od 40 (.bin .eql (tm 22) (ku 5)),om 39 40] [kp [1,22,39] []]) (.cond (tm
 39) (.seq (.reg [om 41 1,od 42 (.call 122 [(tm 41)]),om 4 42] [kp [4] []]) .ret) (.seq (.reg [od 44 (.bin .eql (tm 22) (ku 6)),om 43 44] [kp [1,22,43] []]) (.cond (tm 43) (.seq (.reg [om 45 1,od 46 (.call 122 [(tm 45)]),od
 47 (.call 121 [(tm 46)]),om 4 47] [kp [4] []]) .ret) (.seq (.reg [od 49 (.bin .eql (tm 22) (ku 7)),om 48 49] [kp [1,22,48] []]) (.cond (tm 48) (.seq (.reg [om 50 1,od 51 (.call 123 [(tm 50)]),om 4 51] [kp [4] []]) .ret) (.seq
 (.reg [od 53 (.bin .eql (tm 22) (ku 8)),om 52 53] [kp [1,22,52] []]) (.cond (tm 52) (.seq (.reg [om 54 1,od 55 (.call 123 [(tm 54)]),od 56 (.call 121 [(tm 55)]),om 4 56] [kp [4] []]) .ret) (.seq (.reg [od 58 (.bin .eql (tm
 22) (ku 9)),om 57 58] [kp [1,22,57] []]) (.cond (tm 57) (.seq (.reg [om 59 1,od 60 (.call 124 [(tm 59)]),om 4 60] [kp [4] []]) .ret) (.seq (.reg [od 62 (.bin .eql (tm 22) (ku 10)),om 61 62] [kp [1,22,61] []]) (.cond (tm 61)
 (.seq (.reg [om 63 1,od 64 (.call 124 [(tm 63)]),od 65 (.call 121 [(tm 64)]),om 4 65] [kp [4] []]) .ret) (.seq (.reg [od 67 (.bin .eql (tm 22) (ku 11)),om 66 67] [kp [1,22,66] []]) (.cond (tm 66) (.seq (.reg [om 68 1,od 69
 (.iadr 1 (tm 68) (ki 0)),od 70 (ld 1 69),om 71 1,od 72 (.iadr 1 (tm 71) (ki 1)),od 73 (ld 1 72),om 74 1,od 75 (.iadr 1 (tm 74) (ki 2)),od 76 (ld 1 75),od 77 (.call 125 [(tm 70),(tm 73),(tm 76)]),om 4 77] [kp [4] []])
 .ret) (.seq (.reg [od 79 (.bin .eql (tm 22) (ku 12)),om 78 79] [kp [1,22,78] []]) (.cond (tm 78) (.seq (.reg [om 80 1,od 81 (.iadr 1 (tm 80) (ki 0)),od 82 (ld 1 81),om 83 1,od 84 (.iadr 1 (tm 83) (ki 1)),od 85 (ld 1 84),od
 86 (.call 126 [(tm 82),(tm 85)]),om 4 86] [kp [4] []]) .ret) (.seq (.reg [od 88 (.bin .eql (tm 22) (ku 13)),om 87 88] [kp [1,87] []]) (.cond (tm 87) (.seq (.reg [om 89 1,od 90 (.call 127 [(tm 89)]),om 4 90] [kp [4] []]) .ret)
 .skip)))))))))))))))))))))))))))) (.seq (.reg [od 4 (.mv (ku 2))] [kp [4] []]) .ret))))
def Br:List RV:=[.tmp 4]
end
end Go.Lg
namespace Go.Lg
open Go Go.Proofs
theorem q6G:Bc Tryz.prog 109 q1k 6 1 q1l=true:=by kernel_rfl
theorem q7X:Bc Tryz.prog 120 q2s 5 1 q2t=true:=by kernel_rfl
theorem q6H:Bc Tryz.prog 130 q1m 5 1 q1n=true:=by kernel_rfl
theorem q8N:Bc Tryz.prog 121 q4R 7 1 q0S=true:=by kernel_rfl
theorem q4X:Bc Tryz.prog 184 Zg 28 3 Rt=true:=by kernel_rfl
theorem q8O:Bc Tryz.prog 122 q4S 5 1 q4T=true:=by kernel_rfl
theorem q9o:Bc Tryz.prog 123 q5x 5 1 q5y=true:=by kernel_rfl
theorem q8P:Bc Tryz.prog 124 q4V 20 1 q0T=true:=by kernel_rfl
theorem q8Q:Bc Tryz.prog 125 Q5 23 3 Q6=true:=by kernel_rfl
theorem q8R:Bc Tryz.prog 126 Vr 12 2 Vs=true:=by kernel_rfl
theorem q8S:Bc Tryz.prog 127 q4W 24 1 Q7=true:=by kernel_rfl
theorem q6I:Bc Tryz.prog 185 q1o 6 1 q1p=true:=by kernel_rfl
theorem q6J:Bc Tryz.prog 186 q1q 5 1 q1r=true:=by kernel_rfl
theorem q3i:Bc Tryz.prog 187 Y4 9 1 Q8=true:=by kernel_rfl
theorem Tv:Bc Tryz.prog 207 Jh 9 2 Ji=true:=by kernel_rfl
theorem X6:Bc Tryz.prog 216 M5 19 2 Dk=true:=by kernel_rfl
theorem Pg:Bc Tryz.prog 43 H7 9 2 H8=true:=by kernel_rfl
theorem Ru:Bc Tryz.prog 106 Il 19 2 F2=true:=by kernel_rfl
theorem q7Y:Bc Tryz.prog 64 C2 91 2 Br=true:=by kernel_rfl
end Go.Lg
set_option linter.unusedSimpArgs false
set_option maxRecDepth 100000
namespace Go.Lg
open Go Go.Proofs
variable {Γ:Tables}
theorem q3j (v:Int):A7 Tryz.prog Γ 109 [tK v] (tK (Ft v)):=by
 refine Ac q6G rfl ?_
 by_cases h:3<v<;>simp[q1k,q1l,Ar,Ft,h]
theorem W7 (v:Int):A7 Tryz.prog Γ 120 [tK v] (tK (X4 v)):=by
 refine Ac q7X rfl ?_
 by_cases h:v<2<;>simp[q2s,q2t,Ar,X4,h,Yv,I4]<;>omega
theorem q3k (v:Int):A7 Tryz.prog Γ 130 [tK v] (tB (q3g v)):=by
 refine Ac q6H rfl ?_
 simp[q1m,q1n,Ar,q3g]
theorem q4Y (v:Int) (h0:0<=v):A7 Tryz.prog Γ 121 [tK v] (tK (Yr v)):=by
 refine Ac q8N rfl ?_
 simp[q4R]
 refine A4 (q3k v) rfl ?_
 by_cases h:v<=1
 ·simp(disch:=omega) [q0S,Ar,q3g,Yr,h,Bw]
 ·simp(disch:=omega) [q0S,Ar,q3g,Yr,h,Bw]
theorem qFW (s a b:Int):A7 Tryz.prog Γ 125 [tK s,tK a,tK b] (tK (q8L s a b)):=by
 refine Ac q8Q rfl ?_
 by_cases h:s=0
 ·simp[Q5,h]
  refine A4 (W7 a) rfl ?_
  simp[Q6,Ar,q8L,h]
 by_cases h1:s=1
 ·simp[Q5,h1]
  refine A4 (W7 b) rfl ?_
  simp[Q6,Ar,q8L,h1]
 by_cases h2:a=b
 ·simp[Q5,h,h1,h2]
  refine A4 (W7 b) rfl ?_
  simp[Q6,Ar,q8L,h,h1,h2]
 ·simp[Q5,h,h1,h2,Q6,Ar,q8L]
theorem qFX (e d:Int):A7 Tryz.prog Γ 126 [tK e,tK d] (tK (q9l e d)):=by
 refine Ac q8R rfl ?_
 by_cases h:e=0
 ·simp[Vr,h,Vs,Ar,q9l]
 by_cases h1:e=1
 ·simp[Vr,h1]
  refine A4 (W7 d) rfl ?_
  simp[Vs,Ar,q9l,h1]
 ·simp[Vr,h,h1,Vs,Ar,q9l]
abbrev B7 (l:List Int):List (List T):=An tK l
def tV (s:Sl Int):T:=.sl (B7 s.l) s.cap s.nl
theorem q0U {Q:AX->St->Prop} (l:List Int) (c:Option Nat) (nl:Option Bool) (low high:Int) (hl:l.length<=1000000000) (R:Int)
  (h0:Q (.exit 0) ⟨[(1,.t (tK low)),(2,.t (tK high)),(7,.t (tK R)),(11,.t (.sl (B7 l) c nl)),(12,.t (tI l.length)),(13,.t (tI l.length)),(14,.t (tB false))],[]⟩)
  (h1:R=low->Q .ret ⟨[(6,.t (tK low))],[]⟩):∀ (k i:Nat) (out:Int),k+i=l.length->Nl low high out (l.drop i)=R ->
  run Tryz.prog Γ Ls Q ⟨[(1,.t (tK low)),(2,.t (tK high)),(7,.t (tK out)),(11,.t (.sl (B7 l) c nl)),(12,.t (tI l.length)),(13,.t (tI i))],[]⟩
 | 0,i,out,h,hR=>by
  refine Tu fun K hK=>?_
  have h2:¬ i<l.length:=by omega
  rw[xq2 (by omega)]at hR
  simp only[Nl]at hR
  subst hR
  have h3:i=l.length:=by omega
  simp[h2]
  subst h3
  exact h0
 | k+1,i,out,h,hR=>by
  refine Tu fun K hK=>?_
  have h2:i<l.length:=by omega
  rw[xqq h2]at hR
  simp only[Nl]at hR
  have hget:=Cm (f:=tK) 0 h2
  simp only[xqg h2,xzy]at hget
  generalize l[i]=v at *
  by_cases a1:v=low
  ·rw[if_pos a1]at hR
   simp(disch:=omega) [h2,A5,hget,Aa,A6,a1]
   exact h1 hR.symm
  ·by_cases a2:v=high
   ·rw[if_neg a1,if_neg (by simp[a2])]at hR
    have ih:=q0U l c nl low high hl R h0 h1 k (i+1) out (by omega) hR
    have a1':¬ high=low:=by rw[<- a2];exact a1
    simp(disch:=omega) [h2,A5,hget,Aa,A6,a1',a2]
    rw[hK]
    exact_mod_cast ih
   ·rw[if_neg a1,if_pos a2]at hR
    have ih:=q0U l c nl low high hl R h0 h1 k (i+1) 2 (by omega) hR
    simp(disch:=omega) [h2,A5,hget,Aa,A6,a1,a2]
    rw[hK]
    exact_mod_cast ih
theorem q4Z (l:List Int) (c:Option Nat) (nl:Option Bool) (low high:Int) (hl:l.length<=1000000000):A7 Tryz.prog Γ 184 [.sl (B7 l) c nl,tK low,tK high] (tK (Nl low high high l)):=by
 refine Ac q4X rfl ?_
 simp(disch:=omega) [Zg,A5,A6]
 refine q0U l c nl low high hl (Nl low high high l) ?_ (fun h=>?_) l.length 0 high (by omega) (by simp)
 ·simp[Rt,Ar]
 ·simp[Rt,Ar,h]
theorem qAo (l:List Int) (c:Option Nat) (nl:Option Bool) (hl:l.length<=1000000000):A7 Tryz.prog Γ 122 [.sl (B7 l) c nl] (tK (Nl 0 1 1 l)):=by
 refine Ac q8O rfl ?_
 simp[q4S]
 refine A4 (q4Z l c nl 0 1 hl) rfl ?_
 simp[q4T,Ar]
theorem qDE (l:List Int) (c:Option Nat) (nl:Option Bool) (hl:l.length<=1000000000):A7 Tryz.prog Γ 123 [.sl (B7 l) c nl] (tK (Nl 1 0 0 l)):=by
 refine Ac q9o rfl ?_
 simp[q5x]
 refine A4 (q4Z l c nl 1 0 hl) rfl ?_
 simp[q5y,Ar]
theorem qHJ {a b:Int} (ha:a=0\/a=1) (hb:b=0\/b=1):IntKind.u8.wrap ((BitVec.ofInt IntKind.u8.bits a ^^^ BitVec.ofInt IntKind.u8.bits b).toNat:Int)=qFR a b:=by
 rcases ha with rfl|rfl<;>rcases hb with rfl|rfl<;>decide
theorem qAp {Q:AX->St->Prop} (l:List Int) (c:Option Nat) (nl:Option Bool) (hl:l.length<=1000000000) (hv:∀ v∈l,0<=v) (R:Int)
  (h0:Q (.exit 0) ⟨[(3,.t (tK R)),(6,.t (.sl (B7 l) c nl)),(7,.t (tI l.length)),(8,.t (tI l.length)),(9,.t (tB false))],[]⟩)
  (h1:R=2->Q .ret ⟨[(2,.t (tK 2))],[]⟩):∀ (k i:Nat) (out:Int),k+i=l.length->(out=0\/out=1)->q1d out (l.drop i)=R ->
  run Tryz.prog Γ Vq Q ⟨[(3,.t (tK out)),(6,.t (.sl (B7 l) c nl)),(7,.t (tI l.length)),(8,.t (tI i))],[]⟩
 | 0,i,out,h,ho,hR=>by
  refine Zh fun K hK=>?_
  have h2:¬ i<l.length:=by omega
  rw[xq2 (by omega)]at hR
  simp only[q1d]at hR
  subst hR
  have h3:i=l.length:=by omega
  simp[h2]
  subst h3
  exact h0
 | k+1,i,out,h,ho,hR=>by
  refine Zh fun K hK=>?_
  have h2:i<l.length:=by omega
  rw[xqq h2]at hR
  simp only[q1d]at hR
  have hget:=Cm (f:=tK) 0 h2
  simp only[xqg h2,xzy]at hget
  have hv0:=hv _ (xqj h2)
  generalize l[i]=v at *
  by_cases a1:v<=1
  ·rw[if_pos a1]at hR
   have ih:=qAp l c nl hl hv R h0 h1 k (i+1) (qFR out v) (by omega) (by unfold qFR;split<;>simp) hR
   simp(disch:=omega) [h2,A5,hget,Aa,A6]
   refine A4 (q3k v) rfl ?_
   have hx:=qHJ ho (show v=0\/v=1 by omega)
   simp(disch:=omega) [q3g,a1,↓hx,A6]
   rw[hK]
   exact_mod_cast ih
  ·rw[if_neg a1]at hR
   simp(disch:=omega) [h2,A5,hget,Aa,A6]
   refine A4 (q3k v) rfl ?_
   simp(disch:=omega) [q3g,a1]
   exact h1 hR.symm
theorem qAq (l:List Int) (c:Option Nat) (nl:Option Bool) (hl:l.length<=1000000000) (hv:∀ v∈l,0<=v):A7 Tryz.prog Γ 124 [.sl (B7 l) c nl] (tK (q1d 0 l)):=by
 refine Ac q8P rfl ?_
 simp(disch:=omega) [q4V,A5,A6]
 refine qAp l c nl hl hv (q1d 0 l) ?_ (fun h=>?_) l.length 0 0 (by omega) (.inl rfl) (by simp)
 ·simp[q0T,Ar]
 ·simp[q0T,Ar,h]
theorem q1s (l:List Int) (c:Option Nat) (nl:Option Bool) (x:Int) (hl:l.length<=1000000000):∀ (k i:Nat),k+i=l.length->(∀ j,j<i->∀ y,l[j]? = some y->(y==x)=false) ->
  run Tryz.prog Γ Ek (N5 0 (B0 (run Tryz.prog Γ (.seq (.reg Gu [.keep [4] []]) .ret) (ret true Dk fun r=>r=tI (Yo (· == x) l))) (ret true Dk fun r=>r=tI (Yo (· == x) l)))) ⟨[(0,.t (.sl (An tK l) c nl)),(1,.t (tK x)),(7,.t (tI l.length)),(8,.t (tI i))],[]⟩
 | 0,i,h,hp=>by
  refine Ij fun K hK=>?_
  have h2:¬ i<l.length:=by omega
  simp(disch:=omega) [A5,Cm (0:Int),Aa,A6,h2,ret,Dk,Dp,G3,F8,Ar]
  have:l.findIdx? (· == x)=none:=by
   rw[List.findIdx?_eq_none_iff]
   intro y hy
   obtain⟨j,hj,rfl⟩:=xqt hy
   exact hp j (by omega) _ (xqg hj)
  have e:l.findIdx? (fun y=>decide (y=x))=_:=this
  simp[Yo,e]
 | k+1,i,h,hp=>by
  refine Ij fun K hK=>?_
  have h2:i<l.length:=by omega
  simp(disch:=omega) [A5,Cm (0:Int),Aa,A6,h2]
  refine⟨fun hc=>?_,fun hc=>?_⟩
  ·simp[Bm,ret,Dk,Dp,G3,F8,Ar]
   have:=q0K (p:=(· == x)) hp l[i] (xqg h2) (by simp[hc])
   have e:l.findIdx? (fun y=>decide (y=x))=_:=this
   simp[Yo,e]
  ·simp(disch:=omega) [Bm,A6]
   rw[hK]
   exact_mod_cast q1s l c nl x hl k (i+1) (by omega) (fun j hj y hy=>by
    rcases Nat.lt_succ_iff_lt_or_eq.1 hj with hj|rfl
    ·exact hp j hj y hy
    ·rw[xqg h2]at hy;simp at hy;subst hy
     simp;exact fun e=>hc e.symm)
theorem qEK (l:List Int) (c:Option Nat) (nl:Option Bool) (x:Int) (hl:l.length<=1000000000):A7 Tryz.prog Γ 216 [.sl (An tK l) c nl,tK x] (tI (Yo (· == x) l)):=by
 refine Ac X6 rfl ?_
 simp(disch:=omega) [M5,A5,A6]
 exact_mod_cast q1s l c nl x hl l.length 0 (by omega) (by simp)
theorem q4a (l:List Int) (c:Option Nat) (nl:Option Bool) (x:Int) (hl:l.length<=1000000000):A7 Tryz.prog Γ 207 [.sl (An tK l) c nl,tK x] (tB (l.contains x)):=by
 refine Ac Tv rfl ?_
 simp(disch:=omega) [Jh,A5,A6]
 refine A4 (qEK l c nl x hl) rfl ?_
 simp[ret,Ji,Dp,G3,F8,Ar]
 unfold Yo
 cases h:l.findIdx? (· == x) with
 | none =>
  rw[List.findIdx?_eq_none_iff]at h
  have:¬ x∈l:=fun hx=>by simpa using h x hx
  simp[this]
 | some i =>
  rw[List.findIdx?_eq_some_iff_getElem]at h
  obtain⟨hi,h1,_⟩:=h
  have:x∈l:=by rw[<- (show l[i]=x by simpa using h1)];exact xqj hi
  simp[this]
theorem X7 {Q:AX->St->Prop} (l:List Int) (c:Option Nat) (nl:Option Bool) (f:FuncId) (cs:List T) (p:Int->Bool) (hp:∀ x∈l,A7 Tryz.prog Γ f (tK x::cs) (tB (p x))) (hl:l.length<=1000000000)
  (h0:(∀ x∈l,p x=false)->Q (.exit 0) ⟨[(0,.t (.sl (An tK l) c nl)),(1,.t (.fn f cs)),(7,.t (tI l.length)),(8,.t (tI l.length)),(9,.t (tB false))],[]⟩)
  (h1:∀ i:Nat,l.findIdx? p=some i->Q .ret ⟨[(4,.t (tI i))],[]⟩):∀ (k i:Nat),k+i=l.length->(∀ j,j<i->∀ y,l[j]? = some y->p y=false) ->
  run Tryz.prog Γ Dm Q ⟨[(0,.t (.sl (An tK l) c nl)),(1,.t (.fn f cs)),(7,.t (tI l.length)),(8,.t (tI i))],[]⟩
 | 0,i,h,hq=>by
  refine Gq fun K hK=>?_
  have h2:¬ i<l.length:=by omega
  simp(disch:=omega) [A5,Cm (0:Int),Aa,A6,h2]
  have h3:i=l.length:=by omega
  subst h3
  refine h0 fun y hy=>?_
  obtain⟨j,hj,rfl⟩:=xqt hy
  exact hq j (by omega) _ (xqg hj)
 | k+1,i,h,hq=>by
  refine Gq fun K hK=>?_
  have h2:i<l.length:=by omega
  simp(disch:=omega) [A5,Cm (0:Int),Aa,A6,h2]
  refine q0L (hp l[i] (xqj h2)) ?_
  simp
  refine⟨fun hc=>?_,fun hc=>?_⟩
  ·simp[Bm]
   exact h1 i (q0K hq l[i] (xqg h2) hc)
  ·simp(disch:=omega) [Bm,A6]
   rw[hK]
   exact_mod_cast X7 l c nl f cs p hp hl h0 h1 k (i+1) (by omega) (fun j hj y hy=>by
    rcases Nat.lt_succ_iff_lt_or_eq.1 hj with hj|rfl
    ·exact hq j hj y hy
    ·rw[xqg h2]at hy;simp at hy;subst hy;exact hc)
theorem q2u (l:List Int) (c:Option Nat) (nl:Option Bool) (f:FuncId) (cs:List T) (p:Int->Bool) (hp:∀ x∈l,A7 Tryz.prog Γ f (tK x::cs) (tB (p x))) (hl:l.length<=1000000000):A7 Tryz.prog Γ 106 [.sl (An tK l) c nl,.fn f cs] (tI (Yo p l)):=by
 refine Ac Ru rfl ?_
 simp(disch:=omega) [Il,A5,A6]
 refine X7 l c nl f cs p hp hl (fun h=>?_) (fun i h=>?_) l.length 0 (by omega) (by simp)
 ·have:l.findIdx? p=none:=List.findIdx?_eq_none_iff.2 h
  simp[ret,F2,Dp,G3,F8,Ar,Yo,this]
 ·simp[ret,F2,Dp,G3,F8,Ar,Yo,h]
theorem En (l:List Int) (c:Option Nat) (nl:Option Bool) (f:FuncId) (cs:List T) (p:Int->Bool) (hp:∀ x∈l,A7 Tryz.prog Γ f (tK x::cs) (tB (p x))) (hl:l.length<=1000000000):A7 Tryz.prog Γ 43 [.sl (An tK l) c nl,.fn f cs] (tB (l.any p)):=by
 refine Ac Pg rfl ?_
 simp(disch:=omega) [H7,A5,A6]
 refine A4 (q2u l c nl f cs p hp hl) rfl ?_
 simp[ret,H8,Dp,G3,F8,Ar]
 unfold Yo
 cases h:l.findIdx? p with
 | none =>
  rw[List.findIdx?_eq_none_iff]at h
  have:l.any p=false:=by rw[xz8];intro x hx;simp[h x hx]
  simp[this]
 | some i =>
  rw[List.findIdx?_eq_some_iff_getElem]at h
  obtain⟨hi,h1,_⟩:=h
  have:l.any p=true:=xz1.2 ⟨_,xqj hi,h1⟩
  simp[this]
theorem q8T (l:List Int) (c:Option Nat) (nl:Option Bool) (hl:l.length<=1000000000):A7 Tryz.prog Γ 187 [.sl (B7 l) c nl] (tB (q5M l)):=by
 refine Ac q3i rfl ?_
 simp[Y4]
 refine A4 (q4a l c nl 0 hl) rfl ?_
 simp
 by_cases h:(0:Int)∈l
 ·simp[h]
  refine A4 (q4a l c nl 1 hl) rfl ?_
  simp[Q8,Ar,q5M,h]
 ·simp[h,Q8,Ar,q5M]
theorem qFY (v:Int):A7 Tryz.prog Γ 185 [tK v] (tB (qEI v)):=by
 refine Ac q6I rfl ?_
 simp[q1o]
 refine A4 (q3j v) rfl ?_
 simp[q1p,Ar,qEI]
theorem qFZ (v:Int):A7 Tryz.prog Γ 186 [tK v] (tB (qFS v)):=by
 refine Ac q6J rfl ?_
 simp[q1q,q1r,Ar,qFS]
theorem qFa (l:List Int) (c:Option Nat) (nl:Option Bool) (hl:l.length<=1000000000):A7 Tryz.prog Γ 127 [.sl (B7 l) c nl] (tK (q7U l)):=by
 refine Ac q8S rfl ?_
 simp[q4W]
 refine A4 (q2u l c nl _ [] qFS (fun x _=>qFZ x) hl) rfl ?_
 unfold Yo
 cases h:l.findIdx? qFS with
 | none =>
  have hR:q7U l=3:=by unfold q7U;rw[h]
  simp[Q7,Ar,hR]
 | some i =>
  have hb:q7U l=if q5M l=true\/l.any qEI=true then 2 else l.getD i 0:=by unfold q7U;rw[h]
  have hi:i<l.length:=by
   rw[List.findIdx?_eq_some_iff_getElem]at h
   exact h.1
  have hget:=Cm (f:=tK) 0 hi
  have hgg:l[i]?.getD 0=l.getD i 0:=by simp[xqe]
  rw[hgg]at hget
  have hneg:¬ (i:Int)<0:=by omega
  simp only
  simp[hneg]
  refine A4 (q8T l c nl hl) rfl ?_
  by_cases h1:q5M l=true
  ·rw[if_pos (.inl h1)]at hb
   simp[h1,Q7,Ar,hb]
  ·simp[h1]
   refine A4 (En l c nl _ [] qEI (fun x _=>qFY x) hl) rfl ?_
   by_cases h2:l.any qEI=true
   ·rw[if_pos (.inr h2)]at hb
    simp only[h2]
    simp[Q7,Ar,hb]
   ·rw[if_neg (by rintro(h|h);exact h1 h;exact h2 h)]at hb
    simp only[xzm]at h2
    generalize q7U l=r at *
    subst hb
    simp only[h2]
    simp(disch:=omega) [Q7,Ar,A5,Aa,hget,hi]
theorem q99 (hΓ:GOk Γ) (k:Int) (hk:0<=k/\k<=255) (l:List Int) (c:Option Nat) (nl:Option Bool) (hl:l.length<=1000000000) (hv:∀ v∈l,V4 v):A7 Tryz.prog Γ 64 [tK k,.sl (B7 l) c nl] (tK (Ih k l)):=by
 refine Ac q7Y rfl ?_
 unfold Ih
 by_cases hw:q7V k l.length=true
 ·rw[if_pos hw]
  simp only[q7V,xqu]at hw
  simp[C2]
  refine A4 (Dl hΓ k hk.1 hk.2) rfl ?_
  by_cases hw1:(l.length:Int)<(Um k).1
  ·simp[A5,hw1,Br,Ar]
  ·have hw2:(Um k).2<(l.length:Int):=by omega
   simp[A5,hw1,hw2,Br,Ar]
 rw[if_neg hw]
 simp only[q7V,xqu]at hw
 have hw1:¬ (l.length:Int)<(Um k).1:=by omega
 have hw2:¬ (Um k).2<(l.length:Int):=by omega
 have hv0:∀ v∈l,0<=v:=fun v h=>(hv v h).1
 have ge:∀ i,i<l.length->(An tK l)[i]?.getD []=[tK (l.getD i 0)]:=fun i hi=>by
  have hget:=Cm (f:=tK) 0 hi
  have hgg:l[i]?.getD 0=l.getD i 0:=by simp[xqe]
  rw[hgg]at hget
  exact hget
 have dA:=Zb (low:=0) (l:=l) (out:=1) (high:=1) (.inr rfl)
 have dO:=Zb (low:=1) (l:=l) (out:=0) (high:=0) (.inr rfl)
 have n1:0<=Nl 0 1 1 l:=by rw[dA];split;omega;split<;>omega
 have n2:0<=Nl 1 0 0 l:=by rw[dO];split;omega;split<;>omega
 have n3:0<=q1d 0 l:=(qC4 (by simp[V4]) hv).1
 have g0:=q1e hv 0
 by_cases e1:k=1
 ·subst e1
  have hR:G4 1 l=0:=rfl
  generalize G4 1 l=r at *
  subst hR
  simp[C2]
  refine A4 (Dl hΓ 1 hk.1 hk.2) rfl ?_
  simp[A5,hw1,hw2,Bm,Br,Ar]
 by_cases e2:k=2
 ·subst e2
  have hR:G4 2 l=1:=rfl
  generalize G4 2 l=r at *
  subst hR
  simp[C2]
  refine A4 (Dl hΓ 2 hk.1 hk.2) rfl ?_
  simp[A5,hw1,hw2,Bm,Br,Ar]
 by_cases e3:k=3
 ·subst e3
  have f1:(Um 3).1=1:=rfl
  have q0:0<l.length:=by omega
  have u0:=ge 0 q0
  have hR:G4 3 l=X4 (l.getD 0 0):=rfl
  generalize l.getD 0 0=x0 at *
  generalize G4 3 l=r at *
  subst hR
  simp[C2]
  refine A4 (Dl hΓ 3 hk.1 hk.2) rfl ?_
  simp[A5,hw1,hw2,Bm]
  simp(disch:=omega) [A5,Aa,q0,u0]
  refine A4 (W7 x0) rfl ?_
  simp[Br,Ar]
 by_cases e4:k=4
 ·subst e4
  have f1:(Um 4).1=1:=rfl
  have q0:0<l.length:=by omega
  have u0:=ge 0 q0
  have p0:=g0.1
  have hR:G4 4 l=Yr (l.getD 0 0):=rfl
  generalize l.getD 0 0=x0 at *
  generalize G4 4 l=r at *
  subst hR
  simp[C2]
  refine A4 (Dl hΓ 4 hk.1 hk.2) rfl ?_
  simp[A5,hw1,hw2,Bm]
  simp(disch:=omega) [A5,Aa,q0,u0]
  refine A4 (q4Y x0 p0) rfl ?_
  simp[Br,Ar]
 by_cases e5:k=5
 ·subst e5
  have hR:G4 5 l=Nl 0 1 1 l:=rfl
  generalize G4 5 l=r at *
  subst hR
  simp[C2]
  refine A4 (Dl hΓ 5 hk.1 hk.2) rfl ?_
  simp[A5,hw1,hw2,Bm]
  refine A4 (qAo l c nl hl) rfl ?_
  simp[Br,Ar]
 by_cases e6:k=6
 ·subst e6
  have hR:G4 6 l=Yr (Nl 0 1 1 l):=rfl
  generalize G4 6 l=r at *
  subst hR
  simp[C2]
  refine A4 (Dl hΓ 6 hk.1 hk.2) rfl ?_
  simp[A5,hw1,hw2,Bm]
  refine A4 (qAo l c nl hl) rfl ?_
  simp
  refine A4 (q4Y _ n1) rfl ?_
  simp[Br,Ar]
 by_cases e7:k=7
 ·subst e7
  have hR:G4 7 l=Nl 1 0 0 l:=rfl
  generalize G4 7 l=r at *
  subst hR
  simp[C2]
  refine A4 (Dl hΓ 7 hk.1 hk.2) rfl ?_
  simp[A5,hw1,hw2,Bm]
  refine A4 (qDE l c nl hl) rfl ?_
  simp[Br,Ar]
 by_cases e8:k=8
 ·subst e8
  have hR:G4 8 l=Yr (Nl 1 0 0 l):=rfl
  generalize G4 8 l=r at *
  subst hR
  simp[C2]
  refine A4 (Dl hΓ 8 hk.1 hk.2) rfl ?_
  simp[A5,hw1,hw2,Bm]
  refine A4 (qDE l c nl hl) rfl ?_
  simp
  refine A4 (q4Y _ n2) rfl ?_
  simp[Br,Ar]
 by_cases e9:k=9
 ·subst e9
  have hR:G4 9 l=q1d 0 l:=rfl
  generalize G4 9 l=r at *
  subst hR
  simp[C2]
  refine A4 (Dl hΓ 9 hk.1 hk.2) rfl ?_
  simp[A5,hw1,hw2,Bm]
  refine A4 (qAq l c nl hl hv0) rfl ?_
  simp[Br,Ar]
 by_cases e10:k=10
 ·subst e10
  have hR:G4 10 l=Yr (q1d 0 l):=rfl
  generalize G4 10 l=r at *
  subst hR
  simp[C2]
  refine A4 (Dl hΓ 10 hk.1 hk.2) rfl ?_
  simp[A5,hw1,hw2,Bm]
  refine A4 (qAq l c nl hl hv0) rfl ?_
  simp
  refine A4 (q4Y _ n3) rfl ?_
  simp[Br,Ar]
 by_cases e11:k=11
 ·subst e11
  have f1:(Um 11).1=3:=rfl
  have q0:0<l.length:=by omega
  have u0:=ge 0 q0
  have q1:1<l.length:=by omega
  have u1:=ge 1 q1
  have q2:2<l.length:=by omega
  have u2:=ge 2 q2
  have hR:G4 11 l=q8L (l.getD 0 0) (l.getD 1 0) (l.getD 2 0):=rfl
  generalize l.getD 0 0=x0 at *
  generalize l.getD 1 0=x1 at *
  generalize l.getD 2 0=x2 at *
  generalize G4 11 l=r at *
  subst hR
  simp[C2]
  refine A4 (Dl hΓ 11 hk.1 hk.2) rfl ?_
  simp[A5,hw1,hw2,Bm]
  simp(disch:=omega) [A5,Aa,q0,u0,q1,u1,q2,u2]
  refine⟨by omega,by omega,?_⟩
  refine A4 (qFW x0 x1 x2) rfl ?_
  simp[Br,Ar]
 by_cases e12:k=12
 ·subst e12
  have f1:(Um 12).1=2:=rfl
  have q0:0<l.length:=by omega
  have u0:=ge 0 q0
  have q1:1<l.length:=by omega
  have u1:=ge 1 q1
  have hR:G4 12 l=q9l (l.getD 0 0) (l.getD 1 0):=rfl
  generalize l.getD 0 0=x0 at *
  generalize l.getD 1 0=x1 at *
  generalize G4 12 l=r at *
  subst hR
  simp[C2]
  refine A4 (Dl hΓ 12 hk.1 hk.2) rfl ?_
  simp[A5,hw1,hw2,Bm]
  simp(disch:=omega) [A5,Aa,q0,u0,q1,u1]
  refine⟨by omega,?_⟩
  refine A4 (qFX x0 x1) rfl ?_
  simp[Br,Ar]
 by_cases e13:k=13
 ·subst e13
  have hR:G4 13 l=q7U l:=rfl
  generalize G4 13 l=r at *
  subst hR
  simp[C2]
  refine A4 (Dl hΓ 13 hk.1 hk.2) rfl ?_
  simp[A5,hw1,hw2,Bm]
  refine A4 (qFa l c nl hl) rfl ?_
  simp[Br,Ar]
 have ek:G4 k l=2:=by
  unfold G4
  rw[if_neg e1,if_neg e2,if_neg e3,if_neg e4,if_neg e5,if_neg e6,if_neg e7,if_neg e8,if_neg e9,if_neg e10,if_neg e11,if_neg e12,if_neg e13]
 rw[ek]
 simp[C2]
 refine A4 (Dl hΓ k hk.1 hk.2) rfl ?_
 simp[A5,hw1,hw2,Br,Ar,e1,e2,e3,e4,e5,e6,e7,e8,e9,e10,e11,e12,e13]
end Go.Lg
namespace Go.Lg
open Go
section
variable {P:Program} {Γ:Tables} {Q:AX->St->Prop} {s:St}
/- slices.SortStableFunc[[]int,int] (function 115) -/
abbrev Jj:IC:=(.reg [om 4 0,om 5 0,od 6 (le 0 5),om 7 1,od 8 (.hcall 182 [(tm 4),(tm 6),(tm 7)] [1000000] 8000)] [kp [] [1000000]])
def Jk:List RV:=[]
/- slices.stableCmpFunc[int] (function 182) -/
abbrev Jx:IC:=.gh (.seq (.seq (.reg [om 11 8,om 12 1,od 13 (.bin .leq (tm 11) (tm 12))] [kp [0,1,2,6,7,8,13] [1000000]]) (.cond (tm 13) .skip (.exit 0))) (.block 1 (.seq (.reg [om 14 0,om 15 7,om 16 8,om 17 2,od 18 (.hcall 205 [(tm
 14),(tm 15),(tm 16),(tm 17)] [1000000] 18000)] [kp [0,1,2,6,8] [1000000]]) (.seq (.reg [om 19 8,om 7 19] [kp [0,1,2,6,7,8] [1000000]]) (.reg [om 20 8,om 21 6,od 22 (.bin .add (tm 20) (tm 21)),om 8 22] [kp [0,1,2,
 6,7,8] [1000000]]))))) [kp [0,1,2,6,7,8] [1000000]]
def Fv:IC:=.loop Jx
abbrev Vt:IC:=.gh (.seq (.seq (.reg [om 33 8,om 34 1,od 35 (.bin .leq (tm 33) (tm 34))] [kp [0,1,2,6,7,8,35] [1000000]]) (.cond (tm 35) .skip (.exit 4))) (.block 5 (.seq (.reg [om 36 0,om 37 7,om 38 7,om 39 6,od 40 (.bin .add (tm 38)
 (tm 39)),om 41 8,om 42 2,od 43 (.hcall 206 [(tm 36),(tm 37),(tm 40),(tm 41),(tm 42)] [1000000] 43000)] [kp [0,1,2,6,8] [1000000]]) (.seq (.reg [om 44 8,om 7 44] [kp [0,1,2,6,7,8] [1000000]]) (.reg [om 45 8,om 46
 6,od 47 (.bin .mul (ki 2) (tm 46)),od 48 (.bin .add (tm 45) (tm 47)),om 8 48] [kp [0,1,2,6,7,8] [1000000]]))))) [kp [0,1,2,6,7,8] [1000000]]
def Vu:IC:=.loop Vt
abbrev Jy:IC:=.gh (.seq (.seq (.reg [om 28 6,om 29 1,od 30 (.bin .lss (tm 28) (tm 29))] [kp [0,1,2,6,30] [1000000]]) (.cond (tm 30) .skip (.exit 2))) (.block 3 (.seq (.reg [om 31 6,od 32 (.bin .mul (ki 2) (tm 31)),od 7 (.mv (ki 0)),om 8
 32] [kp [0,1,2,6,7,8] [1000000]]) (.seq (.block 4 Vu) (.seq (.seq (.reg [om 49 7,om 50 6,od 51 (.bin .add (tm 49) (tm 50)),om 9 51] [kp [0,1,2,6,7,9] [1000000]]) (.seq (.reg [om 52 9,om 53 1,
 od 54 (.bin .lss (tm 52) (tm 53))] [kp [0,1,2,6,7,9,54] [1000000]]) (.cond (tm 54) (.reg [om 55 0,om 56 7,om 57 9,om 58 1,om 59 2,od 60 (.hcall 206 [(tm 55),(tm 56),(tm 57),(tm 58),(tm 59)] [1000000] 60000)] [kp [0,
 1,2,6] [1000000]]) .skip))) (.reg [om 61 6,od 62 (.bin .mul (tm 61) (ki 2)),om 6 62] [kp [0,1,2,6] [1000000]])))))) [kp [0,1,2,6] [1000000]]
def Fz:IC:=.loop Jy
abbrev Jz:IC:=(.seq (.reg [od 6 (.mv (ki 20))] [kp [0,1,2,6] [1000000]]) (.seq (.reg [om 10 6,od 7 (.mv (ki 0)),om 8 10] [kp [0,1,2,6,7,8] [1000000]]) (.seq (.block 0 Fv) (.seq (.reg [om 23 0,om 24 7,om 25 1,
 om 26 2,od 27 (.hcall 205 [(tm 23),(tm 24),(tm 25),(tm 26)] [1000000] 27000)] [kp [0,1,2,6] [1000000]]) (.block 2 Fz)))))
theorem Qj (h:∀ K:St->Prop,K=run P Γ Fv Q->run P Γ Jx (B0 K Q) s):run P Γ Fv Q s:=Am h
theorem Qk (h:∀ K:St->Prop,K=run P Γ Fz Q->run P Γ Jy (B0 K Q) s):run P Γ Fz Q s:=Am h
def K4:List RV:=[]
/- slices.insertionSortCmpFunc[int] (function 205) -/
abbrev Gf:IC:=.gh (.seq (.seq (.reg [om 18 9,om 19 1,od 20 (.bin .gtr (tm 18) (tm 19)),om 21 20,oT 22 (.mv (tm 3)) 21,oT 23 (.mv (tm 0)) 21,oT 24 (.mv (tm 9)) 21,oT 25 (ia 1 23 24) 21,oT 26 (ld 1 25) 21,oT 27 (.mv (tm 0)) 21,oT 28 (.mv
 (tm 9)) 21,oT 29 (.bin .sub (tm 28) (ki 1)) 21,oT 30 (ia 1 27 29) 21,oT 31 (ld 1 30) 21,oT 32 (.callv (tm 22) [(tm 26),(tm 31)]) 21,oT 33 (.bin .lss (tm 32) (ki 0)) 21,od 34 (.pick (tm 21) (tm 33) kF)] [kp [0,1,2,3,8,9,
 34] [1000000]]) (.cond (tm 34) .skip (.exit 2))) (.seq (.block 3 (.reg [om 37 0,om 38 9,om 39 0,om 40 9,od 41 (.bin .sub (tm 40) (ki 1)),om 42 0,om 43 9,od 44 (.bin .sub (tm 43) (ki 1)),od 45 (ia 1 42 44),od 46 (.ldR
 1000000 1 false (tm 45)),om 47 0,om 48 9,od 49 (ia 1 47 48),od 50 (.ldR 1000000 1 false (tm 49)),od 51 (ia 1 37 38),on (.stR 1000000 1 (tm 51) (tm 46)),od 52 (ia 1 39 41),on (.stR 1000000 1 (tm 52) (tm 50))] [kp [0,1,2,
 3,8,9] [1000000]])) (.reg [om 35 9,od 36 (.bin .sub (tm 35) (ki 1)),om 9 36] [kp [0,1,2,3,8,9] [1000000]]))) [kp [0,1,2,3,8,9] [1000000]]
def Cd:IC:=.loop Gf
abbrev Gg:IC:=.gh (.seq (.seq (.reg [om 12 8,om 13 2,od 14 (.bin .lss (tm 12) (tm 13))] [kp [0,1,2,3,8,14] [1000000]]) (.cond (tm 14) .skip (.exit 0))) (.seq (.block 1 (.seq (.reg [om 17 8,om 9 17] [kp [0,1,2,3,8,9] [1000000]])
 (.block 2 Cd))) (.reg [om 15 8,od 16 (.bin .add (tm 15) (ki 1)),om 8 16] [kp [0,1,2,3,8] [1000000]]))) [kp [0,1,2,3,8] [1000000]]
def Ce:IC:=.loop Gg
abbrev Gi:IC:=(.seq (.reg [om 10 1,od 11 (.bin .add (tm 10) (ki 1)),om 8 11] [kp [0,1,2,3,8] [1000000]]) (.block 0 Ce))
theorem F3 (h:∀ K:St->Prop,K=run P Γ Cd Q->run P Γ Gf (B0 K Q) s):run P Γ Cd Q s:=Am h
theorem F4 (h:∀ K:St->Prop,K=run P Γ Ce Q->run P Γ Gg (B0 K Q) s):run P Γ Ce Q s:=Am h
def Gj:List RV:=[]
/- probecard/netlists.Order (function 61) -/
abbrev Y5:IC:=.gh (.seq (.reg [od 23 (.bin .lss (tm 22) (tm 21))] [kp [4,6,21,22,23] [19]]) (.seq (.cond (tm 23) .skip (.exit 0)) (.seq (.block 1 (.seq (.reg [om 24 22,om 7 24] [kp [4,6,7,21,22] [19]]) (.reg [om 25 6,om 26 7,om 27 7,
 od 28 (ia 1 25 26),on (.store 1 (tm 28) (tm 27))] [kp [4,6,21,22] [19]]))) (.reg [od 29 (.bin .add (tm 22) (ki 1)),om 22 29] [kp [4,6,21,22] [19]])))) [kp [4,6,21,22] [19]]
def K5:IC:=.loop Y5
abbrev Y6:IC:=(.seq (.reg [od 1 (.box true (tm 0)),od 2 (.mv kN),od 3 (.mv (ki 0))] [kp [1] []]) (.seq (.reg [od 9 (lG 4 1),od 10 (.call 40 [(tm 9)]),om 8 10,od 11 (ex 8 0),od 12 (ex 8 1),od 4 (.alloc false [(.slice none 0 0)]),on
 (.store 1 (tm 4) (tm 11)),om 5 12] [.frz 4,kp [1,4,5] []]) (.seq (.seq (.reg [om 13 5,od 14 (.bin .neq (tm 13) (ki 0))] [kp [1,4,5,14] []]) (.cond (tm 14) (.seq (.reg [om 15 5,od 2 (.mv kN),om 3 15] [kp [2,3] [19]])
 .ret) .skip)) (.seq (.reg [od 16 (fa 0 1),od 17 (ld 1 16),od 18 (le 0 17),od 19 (.mk 3 1 [(.int .i64 0)] (tm 18) (tm 18)),om 6 19] [kp [4,6] [19]]) (.seq (.seq (.reg [om 20 6,od 21 (le 0 20),od 22 (.mv (ki 0))] [kp [4,6,
 21,22] [19]]) (.block 0 K5)) (.seq (.reg [om 30 6,od 31 (.mkf 116 [(tm 4)]),od 32 (.hcall 115 [(tm 30),(tm 31)] [19] 32000)] [kp [6] [19]]) (.seq (.reg [om 33 6,om 2 33,od 3 (.mv (ki 0))] [kp [2,3] [19]])
 .ret)))))))
theorem Qs (h:∀ K:St->Prop,K=run P Γ K5 Q->run P Γ Y5 (B0 K Q) s):run P Γ K5 Q s:=Am h
def Q9:List RV:=[.tmp 2,.tmp 3]
/- probecard/netlists.Order$1 (function 116) -/
abbrev V5:IC:=(.seq (.reg [od 5 (.mv (ki 0))] [kp [0,1,2] []]) (.seq (.reg [od 6 (ld 1 2),om 7 0,od 8 (ia 1 6 7),od 9 (ld 1 8),od 10 (ld 1 2),om 11 1,od 12 (ia 1 10 11),od 13 (ld 1 12),od 14 (.call 117 [(tm 9),(tm 13)]),om 5 14] [kp
 [5] []]) .ret))
def V6:List RV:=[.tmp 5]
/- cmp.Compare[int] (function 117) -/
abbrev X8:IC:=(.seq (.reg [od 4 (.mv (ki 0))] [kp [0,1] []]) (.seq (.reg [om 7 0,od 8 (.call 183 [(tm 7)]),om 5 8] [kp [0,1,5] []]) (.seq (.reg [om 9 1,od 10 (.call 183 [(tm 9)]),om 6 10] [kp [0,1,5,6] []]) (.seq (.seq (.reg [om 11 5]
 [kp [0,1,6,11] []]) (.cond (tm 11) (.seq (.seq (.reg [om 12 6] [kp [12] []]) (.cond (tm 12) (.seq (.reg [od 4 (.mv (ki 0))] [kp [4] []]) .ret) .skip)) (.seq (.reg [od 4 (.mv (.const (.int .i64 (-1))))] [kp [4] []]) .ret))
 .skip)) (.seq (.seq (.reg [om 13 6] [kp [0,1,13] []]) (.cond (tm 13) (.seq (.reg [od 4 (.mv (ki 1))] [kp [4] []]) .ret) .skip)) (.seq (.seq (.reg [om 14 0,om 15 1,od 16 (.bin .lss (tm 14) (tm 15))] [kp [0,1,16] []]) (.cond
 (tm 16) (.seq (.reg [od 4 (.mv (.const (.int .i64 (-1))))] [kp [4] []]) .ret) .skip)) (.seq (.seq (.reg [om 17 0,om 18 1,od 19 (.bin .gtr (tm 17) (tm 18))] [kp [19] []]) (.cond (tm 19) (.seq (.reg [od 4 (.mv (ki 1))] [kp [4] []])
 .ret) .skip)) (.seq (.reg [od 4 (.mv (ki 0))] [kp [4] []]) .ret))))))))
def Ob:List RV:=[.tmp 4]
/- cmp.isNaN[int] (function 183) -/
abbrev Zi:IC:=(.seq (.reg [od 2 (.mv kF)] [kp [0] []]) (.seq (.reg [om 3 0,om 4 0,od 5 (.bin .neq (tm 3) (tm 4)),om 2 5] [kp [2] []]) .ret))
def Zj:List RV:=[.tmp 2]
end
end Go.Lg
namespace Go.Lg
open Go Go.Proofs
theorem Tz:Bc Tryz.prog 115 Jj 9 2 Jk=true:=by kernel_rfl
theorem Uo:Bc Tryz.prog 182 Jz 63 3 K4=true:=by kernel_rfl
theorem Nn:Bc Tryz.prog 205 Gi 53 4 Gj=true:=by kernel_rfl
theorem q3l:Bc Tryz.prog 61 Y6 34 1 Q9=true:=by kernel_rfl
theorem q1t:Bc Tryz.prog 116 V5 15 3 V6=true:=by kernel_rfl
theorem q2a:Bc Tryz.prog 117 X8 20 2 Ob=true:=by kernel_rfl
theorem q4b:Bc Tryz.prog 183 Zi 6 1 Zj=true:=by kernel_rfl
end Go.Lg
namespace Go.Lg
open Go Go.Proofs
variable {Γ:Tables}
theorem qAr {hp:List (Nat×Aw)} {f:FuncId} {K:T->Prop} {cs:List T} {t u res:T} (h:A7 Tryz.prog Γ f (t::u::cs) res) (hk:K res):q5m Tryz.prog Γ hp f (.t t::.t u::cs.map .t) K ⟨⟩ :=
 A4 h (by simp only[xqm,xq5,Function.comp_def,Ag,Aj];rw[q1T];rfl) hk
theorem qFb {l:List Int} {a b:Nat}:Av (Xx l a b)=((Av l).set a [tI (l.getD b 0)]).set b [tI (l.getD a 0)]:=by
 show An tI _=((An tI l).set a _).set b _
 rw[I8,I8];rfl
theorem ge1 {f:Int->T} {l:List Int} {i:Nat} (hi:i<l.length):(An f l)[i]?.getD []=[f (l.getD i 0)]:=by
 have hget:=Cm (f:=f) 0 hi
 have hgg:l[i]?.getD 0=l.getD i 0:=by simp[xqe]
 rw[hgg]at hget
 exact hget
theorem q9A {Q:AX->St->Prop} (ty n:Nat) (cap:Option Nat) (hn:n<=1000000000) (f:FuncId) (cs:List T) (cmp:Int->Int->Int) (i:Nat) (hi:i<n) (R:List Int)
  (h0:∀ j:Int,Q (.exit 2) ⟨[(0,.ls 1000000 0 n cap),(1,.t (tI 0)),(2,.t (tI n)),(3,.t (.fn f cs)),(8,.t (tI i)),(9,.t (tI j)),(34,.t (tB false))],[(1000000,.sl ty 1 (Av R))]⟩) :
  ∀ (j:Nat) (l:List Int),j<=i->l.length=n->(∀ x∈l,∀ y∈l,A7 Tryz.prog Γ f (tI x::tI y::cs) (tI (cmp x y)))->q7W (fun a b=>decide (cmp a b<0)) j l=R ->
  run Tryz.prog Γ Cd Q ⟨[(0,.ls 1000000 0 n cap),(1,.t (tI 0)),(2,.t (tI n)),(3,.t (.fn f cs)),(8,.t (tI i)),(9,.t (tI j))],[(1000000,.sl ty 1 (Av l))]⟩
 | 0,l,hj,hl,hc,hR=>by
  refine F3 fun K hK=>?_
  simp only[q7W]at hR
  subst hR
  simp
  exact h0 0
 | j+1,l,hj,hl,hc,hR=>by
  refine F3 fun K hK=>?_
  simp only[q7W]at hR
  have la:j<l.length:=by omega
  have lb:j+1<l.length:=by omega
  have e1:=ge1 (f:=tI) la
  have e2:=ge1 (f:=tI) lb
  have m1:l.getD j 0∈l:=by rw[Bn la];exact xqj la
  have m2:l.getD (j+1) 0∈l:=by rw[Bn lb];exact xqj lb
  have hcc:=hc _ m2 _ m1
  have hs:=qFb (l:=l) (a:=j+1) (b:=j)
  have hperm:(Xx l (j+1) j).Perm l:=q7Q lb la
  have hpl:=q5I (l:=l) (a:=j+1) (b:=j)
  have hcs:∀ x∈Xx l (j+1) j,∀ y∈Xx l (j+1) j,A7 Tryz.prog Γ f (tI x::tI y::cs) (tI (cmp x y)):=fun x hx y hy=>hc x (hperm.mem_iff.1 hx) y (hperm.mem_iff.1 hy)
  have ih:=q9A ty n cap hn f cs cmp i hi R h0 j (Xx l (j+1) j) (by omega) (by rw[hpl];exact hl) hcs
  generalize Xx l (j+1) j=l' at *
  generalize l.getD j 0=va at *
  generalize l.getD (j+1) 0=vb at *
  have hj1:(0:Int)<(j:Int)+1:=by omega
  have hj2:((j:Int)+1).toNat=j+1:=by omega
  have hj3:(j:Int)+1<n:=by omega
  have hj4:(j:Int)<n:=by omega
  have hj5:(j:Int)+1-1=j:=by omega
  have lan:j<n:=by omega
  have lbn:j+1<n:=by omega
  simp(disch:=omega) [hj1,hj2,hj3,hj4,hj5,lan,lbn,A5,Aa,hl,e1,e2,A6]
  refine⟨by omega,qAr hcc ?_⟩
  by_cases h:cmp vb va<0
  ·rw[if_pos (by simpa using h)]at hR
   have ih:=ih hR
   rw[hs]at ih
   simp(disch:=omega) [h,hj1,hj2,hj3,hj4,hj5,lan,lbn,A5,Aa,hl,e1,e2,A6]
   refine⟨by omega,?_⟩
   rw[hK]
   exact_mod_cast ih
  ·rw[if_neg (by simpa using h)]at hR
   subst hR
   simp(disch:=omega) [h]
   exact_mod_cast h0 (j+1)
theorem qAs {Q:AX->St->Prop} (ty n:Nat) (cap:Option Nat) (hn:n<=1000000000) (f:FuncId) (cs:List T) (cmp:Int->Int->Int) (R:List Int)
  (h0:∀ i:Int,Q (.exit 0) ⟨[(0,.ls 1000000 0 n cap),(1,.t (tI 0)),(2,.t (tI n)),(3,.t (.fn f cs)),(8,.t (tI i)),(14,.t (tB false))],[(1000000,.sl ty 1 (Av R))]⟩) :
  ∀ (k i:Nat) (l:List Int),1<=i->i+k=max 1 n->l.length=n->(∀ x∈l,∀ y∈l,A7 Tryz.prog Γ f (tI x::tI y::cs) (tI (cmp x y)))->q1i (fun a b=>decide (cmp a b<0)) k i l=R ->
  run Tryz.prog Γ Ce Q ⟨[(0,.ls 1000000 0 n cap),(1,.t (tI 0)),(2,.t (tI n)),(3,.t (.fn f cs)),(8,.t (tI i))],[(1000000,.sl ty 1 (Av l))]⟩
 | 0,i,l,h1,h,hl,hc,hR=>by
  refine F4 fun K hK=>?_
  simp only[q1i]at hR
  subst hR
  have h2:¬ (i:Int)<n:=by omega
  have h2':¬ i<n:=by omega
  simp[h2,h2']
  exact h0 _
 | k+1,i,l,h1,h,hl,hc,hR=>by
  refine F4 fun K hK=>?_
  simp only[q1i]at hR
  have h2:(i:Int)<n:=by omega
  have h2':i<n:=by omega
  have hperm:=q2P (lt:=fun a b=>decide (cmp a b<0)) (j:=i) (l:=l) (by omega)
  have ih:=qAs ty n cap hn f cs cmp R h0 k (i+1) (q7W (fun a b=>decide (cmp a b<0)) i l) (by omega) (by omega) (by rw[hperm.length_eq];exact hl) (fun x hx y hy=>hc x (hperm.mem_iff.1 hx) y (hperm.mem_iff.1 hy)) hR
  have hlp:=fun Q h0=>q9A (Γ:=Γ) (Q:=Q) ty n cap hn f cs cmp i h2' _ h0 i l (xzo _) hl hc rfl
  simp(disch:=omega) [h2,h2',A6]
  refine hlp _ fun j=>?_
  simp(disch:=omega) [A6]
  rw[hK]
  exact_mod_cast ih
theorem qAt (ty n:Nat) (cap:Option Nat) (hn:n<=1000000000) (f:FuncId) (cs:List T) (cmp:Int->Int->Int) (l:List Int) (hl:l.length=n) (hc:∀ x∈l,∀ y∈l,A7 Tryz.prog Γ f (tI x::tI y::cs) (tI (cmp x y))) :
  Bf Tryz.prog Γ 205 [(1000000,.sl ty 1 (Av l))] [.ls 1000000 0 n cap,.t (tI 0),.t (tI n),.t (.fn f cs)] (.t (.tup [])) [(1000000,.sl ty 1 (Av (q1i (fun a b=>decide (cmp a b<0)) (n-1) 1 l)))]:=by
 refine Ee Nn rfl ?_
 have hlp:=fun Q h0=>qAs (Γ:=Γ) (Q:=Q) ty n cap hn f cs cmp _ h0 (n-1) 1 l (by omega) (by omega) hl hc rfl
 simp(disch:=omega) [Gi,A6]
 refine hlp _ fun i=>?_
 simp[Gj]
theorem q9B {lt:Int->Int->Bool}:∀ {f i:Nat} {l:List Int},i+f<=l.length\/f=0->(q1i lt f i l).Perm l
 | 0,i,l,_=>List.Perm.refl l
 | f+1,i,l,h=>by
  simp only[q1i]
  have hp:=q2P (lt:=lt) (j:=i) (l:=l) (by omega)
  exact(q9B (by rw[hp.length_eq];omega)).trans hp
theorem qAu {lt:Int->Int->Bool} {l:List Int} {n:Nat} (h:l.length=n):(q1i lt (n-1) 1 l).length=l.length:=(q9B (by omega)).length_eq
theorem qFc (ty n:Nat) (cap:Option Nat) (hn:n<=19) (f:FuncId) (cs:List T) (cmp:Int->Int->Int) (l:List Int) (hl:l.length=n) (hc:∀ x∈l,∀ y∈l,A7 Tryz.prog Γ f (tI x::tI y::cs) (tI (cmp x y))) :
  Bf Tryz.prog Γ 182 [(1000000,.sl ty 1 (Av l))] [.ls 1000000 0 n cap,.t (tI n),.t (.fn f cs)] (.t (.tup [])) [(1000000,.sl ty 1 (Av (q1i (fun a b=>decide (cmp a b<0)) (n-1) 1 l)))]:=by
 refine Ee Uo rfl ?_
 have hi:=qAt (Γ:=Γ) ty n cap (by omega) f cs cmp l hl hc
 simp(disch:=omega) [Jz,A6]
 have hR:=qAu (lt:=fun a b=>decide (cmp a b<0)) hl
 generalize q1i (fun a b=>decide (cmp a b<0)) (n-1) 1 l=R at *
 refine Qj fun K hK=>?_
 have h1:¬ (20:Int)<=n:=by omega
 have h2:¬ 20<=n:=by omega
 have h3:¬ (20:Int)<n:=by omega
 have h4:¬ 20<n:=by omega
 simp[h1,h2]
 refine⟨_,_,hi,?_⟩
 simp[A5,hR]
 refine Qk fun K hK=>?_
 simp[h3,h4,K4]
theorem qJR (ty n:Nat) (cap:Option Nat) (hn:n<=19) (f:FuncId) (cs:List T) (cmp:Int->Int->Int) (l:List Int) (hl:l.length=n) (hc:∀ x∈l,∀ y∈l,A7 Tryz.prog Γ f (tI x::tI y::cs) (tI (cmp x y))) :
  Bf Tryz.prog Γ 115 [(1000000,.sl ty 1 (Av l))] [.ls 1000000 0 n cap,.t (.fn f cs)] (.t (.tup [])) [(1000000,.sl ty 1 (Av (q1i (fun a b=>decide (cmp a b<0)) (n-1) 1 l)))]:=by
 refine Ee Tz rfl ?_
 have hi:=qFc (Γ:=Γ) ty n cap hn f cs cmp l hl hc
 have hR:=qAu (lt:=fun a b=>decide (cmp a b<0)) hl
 generalize q1i (fun a b=>decide (cmp a b<0)) (n-1) 1 l=R at *
 simp(disch:=omega) [Jj,A6]
 refine⟨_,_,hi,?_⟩
 simp[Jk,A5,hR]
theorem qAv (n:Int):A7 Tryz.prog Γ 183 [tI n] (tB false):=by
 refine Ac q4b rfl ?_
 simp[Zi,Zj,Ar]
def qC7 (a b:Int):Int:=if a<b then -1 else if b<a then 1 else 0
theorem qFd (a b:Int):A7 Tryz.prog Γ 117 [tI a,tI b] (tI (qC7 a b)):=by
 refine Ac q2a rfl ?_
 simp[X8]
 refine A4 (qAv a) rfl ?_
 simp
 refine A4 (qAv b) rfl ?_
 by_cases h:a<b
 ·simp[h,Ob,Ar,qC7]
 ·by_cases h1:b<a<;>simp[h,h1,Ob,Ar,qC7]
def qHK (c:Bg):T:=.sl (Av (H6 c).2.out) none none
theorem qAw (c:Bg) (h:D3 c=0) (a b:Int) (ha:0<=a/\a<c.nodes.l.length) (hb:0<=b/\b<c.nodes.l.length):A7 Tryz.prog Γ 116 [tI a,tI b,.ip [qHK c] 0] (tI (qC7 (G8 c a.toNat) (G8 c b.toNat))):=by
 refine Ac q1t rfl ?_
 have hl:=(q3h h).1
 have e1:=ge1 (f:=tI) (l:=(H6 c).2.out) (i:=a.toNat) (by omega)
 have e2:=ge1 (f:=tI) (l:=(H6 c).2.out) (i:=b.toNat) (by omega)
 unfold G8 qHK
 generalize (H6 c).2.out.getD a.toNat 0=va at *
 generalize (H6 c).2.out.getD b.toNat 0=vb at *
 simp(disch:=omega) [V5,A5,Aa,hl,e1,e2,ha,hb]
 refine A4 (qFd _ _) rfl ?_
 simp[V6,Ar]
theorem q7Z {Q:AX->St->Prop} (n:Nat) (hn:n<=1000000000) (a4:T)
  (h0:Q (.exit 0) ⟨[(4,.t a4),(6,.ls 19 0 n none),(21,.t (tI n)),(22,.t (tI n)),(23,.t (tB false))],[(19,.sl 3 1 (Av (rng n)))]⟩):∀ (k i:Nat),k+i=n ->
  run Tryz.prog Γ K5 Q ⟨[(4,.t a4),(6,.ls 19 0 n none),(21,.t (tI n)),(22,.t (tI i))],[(19,.sl 3 1 (Av (rng i++List.replicate (n-i) 0)))]⟩
 | 0,i,h=>by
  refine Qs fun K hK=>?_
  have h2:i=n:=by omega
  subst h2
  simp
  simpa using h0
 | k+1,i,h=>by
  refine Qs fun K hK=>?_
  have ih:=q7Z n hn a4 h0 k (i+1) (by omega)
  have h2:i<n:=by omega
  have hs:(Av (rng i++List.replicate (n-i) 0)).set i [tI i]=Av (rng (i+1)++List.replicate (n-(i+1)) 0):=by
   show(An tI _).set i [tI i]=An tI _
   rw[I8]
   congr 1
   have e:n-i=(n-(i+1))+1:=by omega
   rw[e,List.replicate_succ,List.set_append,if_neg (by rw[O0];omega),O0,xjb]
   simp[rng,List.range_succ]
  have hlen:(Av (rng i++List.replicate (n-i) 0)).length=n:=by rw[A5];simp[O0];omega
  generalize Av (rng i++List.replicate (n-i) 0)=E at *
  simp(disch:=omega) [h2,hlen,hs,A6]
  rw[hK]
  exact_mod_cast ih
theorem qC8 (hΓ:GOk Γ) (c:Bg) (hc:COk c) (hn:c.nodes.l.length<=19) :
  A7 Tryz.prog Γ 61 [.agg (tC c)] (.tup [if D3 c=0 then .sl (Av (Rq c)) none none else .sl [] (some 0) (some true),tI (D3 c)]):=by
 refine Ac q3l rfl ?_
 have e1:=q5u hΓ c hc.toCirOk hc.asc
 simp[Y6,tC,A9,Ah,Ap,B8]
 refine A4 e1 rfl ?_
 by_cases h:D3 c=0
 case neg=>simp[h,Q9,St.freeze,Aw.closed,C6,frz1,frz0,Ej,del,Aj]
 have hlp:=fun Q h0=>q7Z (Γ:=Γ) (Q:=Q) c.nodes.l.length (by omega) (.ip [qHK c] 0) h0 c.nodes.l.length 0 (by omega)
 have hz:List.replicate c.nodes.l.length [T.v (Value.int .i64 0)]=Av (rng 0++List.replicate (c.nodes.l.length-0) 0):=by simp[An,rng]
 have hsort:=qJR (Γ:=Γ) 3 c.nodes.l.length none hn 116 [.ip [qHK c] 0] (fun a b=>qC7 (G8 c a.toNat) (G8 c b.toNat)) (rng c.nodes.l.length) O0 (fun x hx y hy=>qAw c h x y (Q4.1 hx) (Q4.1 hy))
 have hlt:(fun a b=>decide (qC7 (G8 c a.toNat) (G8 c b.toNat)<0))=qDA c:=by
  funext a b
  simp only[qDA,qC7]
  by_cases h1:G8 c a.toNat<G8 c b.toNat
  ·simp[h1]
  ·by_cases h2:G8 c b.toNat<G8 c a.toNat<;>simp[h1,h2]
 rw[hlt]at hsort
 have ho:q1i (qDA c) (c.nodes.l.length-1) 1 (rng c.nodes.l.length)=Rq c:=rfl
 rw[ho]at hsort
 have holen:(Rq c).length=c.nodes.l.length:=by rw[(Zd c).1.length_eq,O0]
 simp[h,Ab,A6,St.freeze,Aw.closed,C6,frz1,frz0,Ej,del,Aj]
 refine⟨by omega,?_⟩
 rw[hz]
 refine hlp _ ?_
 simp
 refine⟨_,_,hsort,?_⟩
 have htk:(Av (Rq c)).take c.nodes.l.length=Av (Rq c):=xqw (by rw[A5,holen];exact xzo _)
 simp[A5,O0,holen,Q9,Aj,htk,h]
end Go.Lg
namespace Go.Lg
open Go
section
variable {P:Program} {Γ:Tables} {Q:AX->St->Prop} {s:St}
/- probecard/sims.fits (function 62) -/
abbrev q0V:IC:=(.seq (.reg [od 2 (.box true (tm 0)),od 3 (.box true (tm 1)),od 4 (.mv (ki 0))] [kp [2,3] []]) (.seq (.block 0 (.seq (.reg [od 6 (fa 2 2),od 7 (ld 1 6),od 8 (le 0 7),od 9 (.bin .gtr (tm 8) (ki 0)),om 10 9,oF 11 (lG 4 2) 10,
 oF 12 (.bsl true 48 1 [(ku 15)]) 10,oF 13 (.call 102 [(tm 11),(tm 12)]) 10,oF 14 (le 0 13) 10,oF 15 (.bin .gtr (tm 14) (ki 0)) 10,od 16 (.pick (tm 10) kT (tm 15)),om 5 16] [kp [2,3,5] []]) (.cond (tm 5) (.seq (.reg [od 4
 (.mv (ki 7))] [kp [4] []]) .ret) (.seq (.reg [od 18 (fa 0 3),od 19 (ld 1 18),od 20 (le 0 19),od 21 (lG 4 2),od 22 (.call 38 [(tm 21)]),od 23 (le 0 22),od 24 (.bin .neq (tm 20) (tm 23)),om 25 24,oF 26 (fa 1 3) 25,oF 27 (ld
 1 26) 25,oF 28 (le 0 27) 25,oF 29 (lG 4 2) 25,oF 30 (.call 39 [(tm 29)]) 25,oF 31 (le 0 30) 25,oF 32 (.bin .neq (tm 28) (tm 31)) 25,od 33 (.pick (tm 25) kT (tm 32)),om 17 33] [kp [3,17] []]) (.cond (tm 17) (.seq (.reg [od 4
 (.mv (ki 8))] [kp [4] []]) .ret) (.seq (.reg [od 35 (fa 0 3),od 36 (ld 1 35),od 37 (.call 43 [(tm 36),(.func 118)]),om 38 37,oF 39 (fa 1 3) 38,oF 40 (ld 1 39) 38,oF 41 (.call 43 [(tm 40),(.func 118)]) 38,od 42 (.pick (tm
 38) kT (tm 41)),om 34 42] [kp [34] []]) (.cond (tm 34) (.seq (.reg [od 4 (.mv (ki 1))] [kp [4] []]) .ret) .skip))))))) (.seq (.reg [od 4 (.mv (ki 0))] [kp [4] []]) .ret)))
def H9:List RV:=[.tmp 4]
/- probecard/sims.above (function 118) -/
abbrev q2v:IC:=(.seq (.reg [od 2 (.mv kF)] [kp [0] []]) (.seq (.reg [om 3 0,od 4 (.bin .gtr (tm 3) (ku 3)),om 2 4] [kp [2] []]) .ret))
def q2w:List RV:=[.tmp 2]
/- (probecard/sims.run).load (function 63) -/
abbrev Zk:IC:=.gh (.seq (.reg [od 13 (.bin .lss (tm 12) (tm 11))] [kp [2,3,10,11,12,13] [2,1000000]]) (.seq (.cond (tm 13) .skip (.exit 0)) (.seq (.block 1 (.seq (.reg [om 14 12,od 15 (ia 1 10 12),od 16 (ld 1 15),om 4 14,om 5 16] [kp
 [2,3,4,5,10,11,12] [2,1000000]]) (.reg [od 17 (fa 4 2),od 18 (.ldR 2 1 false (tm 17)),om 19 5,od 20 (fa 0 3),od 21 (.ldT 1 false (tm 20)),om 22 4,od 23 (ia 1 21 22),od 24 (.ldT 1 false (tm 23)),od 25 (ia 1 18 19),on
 (.stR 1000000 1 (tm 25) (tm 24))] [kp [2,3,10,11,12] [2,1000000]]))) (.reg [od 26 (.bin .add (tm 12) (ki 1)),om 12 26] [kp [2,3,10,11,12] [2,1000000]])))) [kp [2,3,10,11,12] [2,1000000]]
def Lt:IC:=.loop Zk
abbrev Zl:IC:=.gh (.seq (.reg [od 32 (.bin .lss (tm 31) (tm 30))] [kp [2,3,29,30,31,32] [2,1000000]]) (.seq (.cond (tm 32) .skip (.exit 2)) (.seq (.block 3 (.seq (.reg [om 33 31,od 34 (ia 1 29 31),od 35 (ld 1 34),om 6 33,om 7 35] [kp
 [2,3,6,7,29,30,31] [2,1000000]]) (.reg [od 36 (fa 4 2),od 37 (.ldR 2 1 false (tm 36)),om 38 7,od 39 (fa 1 3),od 40 (.ldT 1 false (tm 39)),om 41 6,od 42 (ia 1 40 41),od 43 (.ldT 1 false (tm 42)),od 44 (ia 1 37 38),on
 (.stR 1000000 1 (tm 44) (tm 43))] [kp [2,3,29,30,31] [2,1000000]]))) (.reg [od 45 (.bin .add (tm 31) (ki 1)),om 31 45] [kp [2,3,29,30,31] [2,1000000]])))) [kp [2,3,29,30,31] [2,1000000]]
def Lu:IC:=.loop Zl
abbrev Zm:IC:=(.seq (.reg [od 2 (.box false (tm 0)),od 3 (.box true (tm 1))] [kp [2,3] [2,1000000]]) (.seq (.seq (.reg [od 8 (fa 0 2),od 9 (lG 4 8),od 10 (.call 38 [(tm 9)]),od 11 (le 0 10),od 12 (.mv (ki 0))] [kp [2,3,10,11,12] [2,
 1000000]]) (.block 0 Lt)) (.seq (.reg [od 27 (fa 0 2),od 28 (lG 4 27),od 29 (.call 39 [(tm 28)]),od 30 (le 0 29),od 31 (.mv (ki 0))] [kp [2,3,29,30,31] [2,1000000]]) (.gh (.block 2 Lu) [.keep []
 [1000000]]))))
theorem U0 (h:∀ K:St->Prop,K=run P Γ Lt Q->run P Γ Zk (B0 K Q) s):run P Γ Lt Q s:=Am h
theorem U1 (h:∀ K:St->Prop,K=run P Γ Lu Q->run P Γ Zl (B0 K Q) s):run P Γ Lu Q s:=Am h
def Zn:List RV:=[]
/- probecard/sims.Run (function 22) -/
abbrev q5z:IC:=.gh (.seq (.reg [od 62 (.bin .lss (tm 61) (tm 60))] [kp [4,9,10,12,13,40,41,42,59,60,61,62] [4,9,13,34,39]]) (.seq (.cond (tm 62) .skip (.exit 2)) (.seq (.block 3 (.seq (.reg [od 63 (ia 1 59 61),od 64 (ld 1 63),om
 15 64] [kp [4,9,10,12,13,15,40,41,42,59,60,61] [4,9,13,34,39]]) (.reg [om 65 10,od 66 (fa 4 9),od 67 (ld 1 66),om 68 15,od 69 (ia 1 67 68),od 70 (ld 1 69),od 71 (.bsl true 65 1 [(tm 70)]),oz 72 (.app false 65
 1 (tm 65) (tm 71)) 39,om 10 72] [kp [4,9,10,12,13,40,41,42,59,60,61] [4,9,13,34,39]]))) (.reg [od 73 (.bin .add (tm 61) (ki 1)),om 61 73] [kp [4,9,10,12,13,40,41,42,59,60,61] [4,9,13,34,39]])))) [kp
 [4,9,10,12,13,40,41,42,59,60,61] [4,9,13,34,39]]
def Y7:IC:=.loop q5z
abbrev q60:IC:=.gh (.seq (.reg [od 43 (.bin .lss (tm 42) (tm 41))] [kp [4,9,10,40,41,42,43] [4,9,34,39]]) (.seq (.cond (tm 43) .skip (.exit 0)) (.seq (.block 1 (.seq (.reg [od 44 (ia 1 40 42),od 45 (ld 1 44),om 12 45] [kp [4,9,10,
 12,40,41,42] [4,9,34,39]]) (.seq (.reg [od 46 (fa 0 9),od 47 (fa 0 46),od 48 (ld 1 47),om 49 12,od 50 (ia 4 48 49),od 51 (lG 4 50),od 13 (.alloc false [(.int .u8 0),(.slice none 0 0),(.int .i64 0),(.int .i64 0)]),on
 (.store 4 (tm 13) (tm 51))] [kp [4,9,10,12,13,40,41,42] [4,9,13,34,39]]) (.seq (.seq (.reg [od 52 (fa 0 13),od 53 (ld 1 52),od 54 (.call 14 [(tm 53)]),od 55 (.un .not (tm 54))] [kp [4,9,10,12,13,40,41,42,55]
 [4,9,13,34,39]]) (.cond (tm 55) (.exit 1) .skip)) (.seq (.reg [om 56 10,od 57 (.slice 1 (tm 56) none (some (ki 0)) none),om 10 57] [kp [4,9,10,12,13,40,41,42] [4,9,13,34,39]]) (.seq (.seq (.reg [od 58 (fa 1 13),od
 59 (ld 1 58),od 60 (le 0 59),od 61 (.mv (ki 0))] [kp [4,9,10,12,13,40,41,42,59,60,61] [4,9,13,34,39]]) (.block 2 Y7)) (.reg [od 74 (fa 4 9),od 75 (.ldR 9 1 false (tm 74)),om 76 12,od 77 (fa 0 13),od 78
 (.ldR 13 1 false (tm 77)),om 79 10,od 80 (.call 64 [(tm 78),(tm 79)]),od 81 (ia 1 75 76),on (.stR 34 1 (tm 81) (tm 80))] [kp [4,9,10,40,41,42] [4,9,34,39]]))))))) (.reg [od 82 (.bin .add (tm 42) (ki 1)),om 42 82] [kp
 [4,9,10,40,41,42] [4,9,34,39]])))) [kp [4,9,10,40,41,42] [4,9,34,39]]
def Y8:IC:=.loop q60
abbrev q61:IC:=(.seq (.reg [od 2 (.box true (tm 0)),od 3 (.box true (tm 1)),od 4 (.alloc false [(.slice none 0 0),(.slice none 0 0)]),od 5 (.mv kN),od 6 (.mv (ki 0))] [kp [2,3,4] [4]]) (.seq (.reg [od 17 (lG 4 2),od 18 (.call 61 [(tm
 17)]),om 16 18,od 19 (ex 16 0),od 20 (ex 16 1),om 7 19,om 8 20] [kp [2,3,4,7,8] [4]]) (.seq (.seq (.reg [om 21 8,od 22 (.bin .eql (tm 21) (ki 0))] [kp [2,3,4,7,8,22] [4]]) (.cond (tm 22) (.reg [od 23 (lG 4 2),od 24
 (lG 2 3),od 25 (.call 62 [(tm 23),(tm 24)]),om 8 25] [kp [2,3,4,7,8] [4]]) .skip)) (.seq (.seq (.reg [om 26 8,od 27 (.bin .neq (tm 26) (ki 0))] [kp [2,3,4,7,8,27] [4]]) (.cond (tm 27) (.seq (.reg [od 28 (.build [(1,
 kN),(1,kN)]),om 29 8,on (.store 2 (tm 4) (tm 28)),od 5 (.mv kN),om 6 29] [kp [4,5,6] [4,34]]) .ret) .skip)) (.seq (.reg [od 30 (.ldT 4 true (tm 2)),od 31 (fa 0 2),od 32 (.ldT 1 false (tm 31)),od 33 (le 0 32),od 34
 (.mkE 65 1 [(.int .u8 0)] (tm 33) (tm 33)),od 35 (.build [(4,(tm 30)),(1,(tm 34))]),od 9 (.alloc false [(.slice none 0 0),(.slice none 0 0),(.slice none 0 0),(.slice none 0 0),(.slice none 0 0)]),on (.stR 9 5 (tm 9) (tm
 35))] [kp [3,4,7,9] [4,9,34]]) (.seq (.reg [od 36 (lG 5 9),od 37 (lG 2 3),od 38 (.hcall 63 [(tm 36),(tm 37)] [34] 38000)] [kp [4,7,9] [4,9,34]]) (.seq (.reg [od 39 (.mk 65 1 [(.int .u8 0)] (ki 0) (ki 16)),om 10 39] [kp
 [4,7,9,10] [4,9,34,39]]) (.seq (.seq (.reg [om 40 7,od 41 (le 0 40),od 42 (.mv (ki 0))] [kp [4,9,10,40,41,42] [4,9,34,39]]) (.block 0 Y8)) (.seq (.reg [od 83 (.ldR 9 5 true (tm 9)),od 84 (.call 65 [(tm
 83)]),od 85 (fa 4 9),od 86 (.ldR 9 1 false (tm 85)),on (.stR 4 2 (tm 4) (tm 84)),om 5 86,od 6 (.mv (ki 0))] [kp [4,5,6] [4,34]]) .ret)))))))))
theorem q0m (h:∀ K:St->Prop,K=run P Γ Y7 Q->run P Γ q5z (B0 K Q) s):run P Γ Y7 Q s:=Am h
theorem q0n (h:∀ K:St->Prop,K=run P Γ Y8 Q->run P Γ q60 (B0 K Q) s):run P Γ Y8 Q s:=Am h
def q62:List RV:=[.cell 4 2 true,.tmp 5,.tmp 6]
/- (probecard/sims.run).value (function 128) -/
abbrev K6:IC:=(.seq (.reg [od 2 (.box true (tm 0)),od 4 (.mv (ku 0))] [kp [1,2] []]) (.seq (.seq (.reg [om 5 1,od 6 (.bin .lss (tm 5) (ki 0)),om 7 6,oF 8 (.mv (tm 1)) 7,oF 9 (fa 4 2) 7,oF 10 (ld 1 9) 7,oF 11 (le 0 10) 7,oF 12 (.bin .geq
 (tm 8) (tm 11)) 7,od 13 (.pick (tm 7) kT (tm 12))] [kp [1,2,13] []]) (.cond (tm 13) (.seq (.reg [od 4 (.mv (ku 2))] [kp [4] []]) .ret) .skip)) (.seq (.reg [od 14 (fa 4 2),od 15 (ld 1 14),om 16 1,od 17 (ia 1 15 16),od 18 (ld
 1 17),od 19 (.call 109 [(tm 18)]),om 4 19] [kp [4] []]) .ret)))
def K7:List RV:=[.tmp 4]
/- (probecard/sims.run).observe (function 65) -/
abbrev V7:IC:=.gh (.seq (.reg [od 15 (.bin .lss (tm 14) (tm 13))] [kp [1,2,3,12,13,14,15] [2,3,24,55]]) (.seq (.cond (tm 15) .skip (.exit 0)) (.seq (.block 1 (.seq (.reg [od 16 (ia 1 12 14),od 17 (ld 1 16),om 5 17] [kp [1,2,3,5,
 12,13,14] [2,3,24,55]]) (.reg [od 18 (fa 0 3),od 19 (.ldR 3 1 false (tm 18)),od 20 (.ldT 5 true (tm 1)),om 21 5,od 22 (.call 128 [(tm 20),(tm 21)]),od 23 (.bsl true 65 1 [(tm 22)]),od 24 (.app false 65 1 (tm 19) (tm
 23)),od 25 (fa 0 3),on (.stR 3 1 (tm 25) (tm 24))] [kp [1,2,3,12,13,14] [2,3,24,55]]))) (.reg [od 26 (.bin .add (tm 14) (ki 1)),om 14 26] [kp [1,2,3,12,13,14] [2,3,24,55]])))) [kp [1,2,3,12,13,14] [2,3,24,
 55]]
def Hu:IC:=.loop V7
abbrev V8:IC:=.gh (.seq (.reg [od 32 (.bin .lss (tm 31) (tm 30))] [kp [1,2,3,29,30,31,32] [2,3,24,55]]) (.seq (.cond (tm 32) .skip (.exit 2)) (.seq (.block 3 (.seq (.reg [od 33 (ia 1 29 31),od 34 (ld 1 33),om 7 34] [kp [1,2,3,7,
 29,30,31] [2,3,24,55]]) (.seq (.reg [od 8 (.mv (ku 2))] [kp [1,2,3,7,8,29,30,31] [2,3,24,55]]) (.seq (.seq (.reg [od 35 (fa 0 1),od 36 (fa 0 35),od 37 (ld 1 36),om 38 7,od 39 (ia 4 37 38),od 40 (fa 1 39),od 41
 (ld 1 40),om 9 41] [kp [1,2,3,8,9,29,30,31] [2,3,24,55]]) (.seq (.reg [om 42 9,od 43 (le 0 42),od 44 (.bin .eql (tm 43) (ki 1))] [kp [1,2,3,8,9,29,30,31,44] [2,3,24,55]]) (.cond (tm 44) (.reg [od 45 (lG 5
 1),om 46 9,od 47 (.iadr 1 (tm 46) (ki 0)),od 48 (ld 1 47),od 49 (.call 128 [(tm 45),(tm 48)]),od 50 (.call 120 [(tm 49)]),om 8 50] [kp [1,2,3,8,29,30,31] [2,3,24,55]]) .skip))) (.reg [od 51 (fa 1 3),od 52 (ld 1
 51),om 53 8,od 54 (.bsl true 65 1 [(tm 53)]),od 55 (.app false 65 1 (tm 52) (tm 54)),od 56 (fa 1 3),on (.store 1 (tm 56) (tm 55))] [kp [1,2,3,29,30,31] [2,3,24,55]]))))) (.reg [od 57 (.bin .add (tm 31) (ki 1)),om 31
 57] [kp [1,2,3,29,30,31] [2,3,24,55]])))) [kp [1,2,3,29,30,31] [2,3,24,55]]
def Hv:IC:=.loop V8
abbrev V9:IC:=(.seq (.reg [od 1 (.box true (tm 0)),od 2 (.alloc false [(.slice none 0 0),(.slice none 0 0)])] [kp [1,2] [2,24,55]]) (.seq (.reg [od 3 (.alloc false [(.slice none 0 0),(.slice none 0 0)])] [.nlb 3 0 24 65 1,.nlb 3 1 55 65
 1,kp [1,2,3] [2,3,24,55]]) (.seq (.seq (.reg [od 10 (fa 0 1),od 11 (fa 3 10),od 12 (ld 1 11),od 13 (le 0 12),od 14 (.mv (ki 0))] [kp [1,2,3,12,13,14] [2,3,24,55]]) (.block 0 Hu)) (.seq (.seq (.reg
 [od 27 (fa 0 1),od 28 (lG 4 27),od 29 (.call 39 [(tm 28)]),od 30 (le 0 29),od 31 (.mv (ki 0))] [kp [1,2,3,29,30,31] [2,3,24,55]]) (.block 2 Hv)) (.seq (.reg [od 58 (fa 0 3),od 59 (.ldR 3 1 false (tm
 58)),od 60 (.rcall 57 [(tm 59)] [24]),od 61 (fa 1 3),od 62 (.ldR 3 1 false (tm 61)),od 63 (.rcall 57 [(tm 62)] [55]),od 64 (.build [(1,(tm 60)),(1,(tm 63))]),on (.stR 2 2 (tm 2) (tm 64))] [kp [2] [2,24,55]]) .ret)))))
theorem Oz (h:∀ K:St->Prop,K=run P Γ Hu Q->run P Γ V7 (B0 K Q) s):run P Γ Hu Q s:=Am h
theorem P0 (h:∀ K:St->Prop,K=run P Γ Hv Q->run P Γ V8 (B0 K Q) s):run P Γ Hv Q s:=Am h
def Va:List RV:=[.cell 2 2 true]
/- probecard/sims.Observe (function 66) -/
abbrev X9:IC:=(.seq (.reg [od 1 (.box true (tm 0)),od 2 (.mv kN)] [kp [1] []]) (.seq (.reg [od 3 (lG 4 1),od 4 (.bsl true 48 1 [(ku 0)]),od 5 (.call 102 [(tm 3),(tm 4)]),om 2 5] [kp [2] []]) .ret))
def Xa:List RV:=[.tmp 2]
/- slices.Clip[[]probecard/api.Value,probecard/api.Value] (function 57) -/
abbrev Hj:IC:=(.seq (.reg [od 2 (.mv kN)] [kp [0] [1000000]]) (.seq (.reg [om 3 0,om 4 0,od 5 (le 0 4),om 6 0,od 7 (le 0 6),od 8 (.slice 1 (tm 3) none (some (tm 5)) (some (tm 7))),om 2 8] [kp [2] [1000000]]) .ret))
def Hk:List RV:=[.tmp 2]
end
end Go.Lg
namespace Go.Lg
open Go Go.Proofs
theorem q8U:Bc Tryz.prog 62 q0V 43 2 H9=true:=by kernel_rfl
theorem q7a:Bc Tryz.prog 118 q2v 5 1 q2w=true:=by kernel_rfl
theorem q4c:Bc Tryz.prog 63 Zm 46 2 Zn=true:=by kernel_rfl
theorem q9p:Bc Tryz.prog 22 q61 87 2 q62=true:=by kernel_rfl
theorem q3m:Bc Tryz.prog 128 K6 20 2 K7=true:=by kernel_rfl
theorem q1u:Bc Tryz.prog 65 V9 65 1 Va=true:=by kernel_rfl
theorem q2b:Bc Tryz.prog 38 X9 6 1 Xa=true:=by kernel_rfl
theorem M6:Bc Tryz.prog 57 Hj 9 1 Hk=true:=by kernel_rfl
end Go.Lg
namespace Go.Lg
open Go Go.Proofs
variable {Γ:Tables}
theorem Y9 (c:Bg) (hc:COk c):B9 Tryz.prog Γ 38 [.agg (tC c)] (.sl (Av (Be c)) (some (Be c).length) none):=by
 refine Cc q2b rfl ?_
 simp[X9,tC,A9,Ah,Ap,B8]
 refine A4 (qC3 c hc 0) rfl ?_
 simp[Xa,Be]
theorem qFe (es:List (List T)) (cap:Option Nat) (nl:Option Bool) (hw:Es 1 es):B9 Tryz.prog Γ 57 [.sl es cap nl] (.sl es (some es.length) nl):=by
 refine Cc M6 rfl ?_
 simp[Hj,Hk,ret,hw]
def Di (v:Int):Bool:=decide (3<v)
theorem q7b (v:Int):A7 Tryz.prog Γ 118 [tK v] (tB (Di v)):=by
 refine Ac q7a rfl ?_
 simp[q2v,q2w,Ar,Di]
structure Pat where
 inn:Sl Int
 st:Sl Int
def tP (p:Pat):List T:=[tV p.inn,tV p.st]
theorem Rw (c:Bg):(Be c).length<=c.nodes.l.length:=q0M _ _ _
theorem Ld (c:Bg):(Ba c).length<=c.nodes.l.length:=q0M _ _ _
def Ya (c:Bg) (p:Pat):Int :=
 if 0<c.mems.l.length\/0<(mems c).length then 7 else
 if p.inn.l.length≠(Be c).length\/p.st.l.length≠(Ba c).length then 8 else
 if p.inn.l.any Di=true\/p.st.l.any Di=true then 1 else 0
theorem qEL (c:Bg) (hc:COk c) (p:Pat) (hp:p.inn.l.length<=1000000000/\p.st.l.length<=1000000000):A7 Tryz.prog Γ 62 [.agg (tC c),.agg (tP p)] (tI (Ya c p)):=by
 refine Ac q8U rfl ?_
 have e1:=qC3 (Γ:=Γ) c hc 15
 have e2:=Y9 (Γ:=Γ) c hc
 have e3:=Tt (Γ:=Γ) c hc
 have e4:=En (Γ:=Γ) p.inn.l p.inn.cap p.inn.nl 118 [] Di (fun x _=>q7b x) hp.1
 have e5:=En (Γ:=Γ) p.st.l p.st.cap p.st.nl 118 [] Di (fun x _=>q7b x) hp.2
 have hm:Rl [15] c.nodes.l 0=mems c:=rfl
 rw[hm]at e1
 generalize hR:Ya c p=R
 unfold Ya at hR
 by_cases h1:0<c.mems.l.length
 ·rw[if_pos (.inl h1)]at hR
  subst hR
  have h1':¬ c.mems.l=[]:=fun e=>by rw[e]at h1;simp at h1
  simp[q0V,tC,A9,Ah,Ap,B8,tP,tV,Ab,h1,h1',H9,Ar]
 have h1':c.mems.l=[]:=xqo (by omega)
 simp[q0V,tC,A9,Ah,Ap,B8,tP,tV,Ab,h1,h1']
 refine A4 e1 (by simp[Aj,Ag,An,tC,A9,Ah,Ap,B8,h1']) ?_
 by_cases h2:0<(mems c).length
 ·rw[if_pos (.inr h2)]at hR
  subst hR
  have h2':¬ mems c=[]:=fun e=>by rw[e]at h2;simp at h2
  simp[A5,h2,h2',H9,Ar]
 rw[if_neg (by omega)]at hR
 have h2':mems c=[]:=xqo (by omega)
 simp[A5,h2']
 have tt:∀ {x:T},x=T.agg (tC c)->Ag [some x]=some [T.agg (tC c)]:=fun h=>by rw[h];rfl
 have tc:T.agg (tC c)=T.agg [T.sl (Bo E3 c.nodes.l) c.nodes.cap c.nodes.nl,T.sl (An tS c.names.l) c.names.cap c.names.nl,T.sl (Bo tMm []) c.mems.cap c.mems.nl,T.sl (Av c.outs.l) c.outs.cap c.outs.nl]:=by rw[<- h1'];rfl
 refine B6 e2 (by rw[tc];rfl) ?_
 simp[A5]
 by_cases h3:p.inn.l.length=(Be c).length
 case neg =>
  have h3':¬ (p.inn.l.length:Int)=(Be c).length:=by omega
  rw[if_pos (.inl h3)]at hR
  subst hR
  simp[h3,h3',H9,Ar,Bm]
 simp[h3]
 refine B6 e3 (by rw[tc];rfl) ?_
 simp[A5]
 by_cases h4:p.st.l.length=(Ba c).length
 case neg =>
  have h4':¬ (p.st.l.length:Int)=(Ba c).length:=by omega
  rw[if_pos (.inr h4)]at hR
  subst hR
  simp[h4,h4',H9,Ar,Bm]
 rw[if_neg (by omega)]at hR
 simp[h4,Bm]
 refine A4 e4 rfl ?_
 by_cases h5:p.inn.l.any Di=true
 ·rw[if_pos (.inl h5)]at hR
  subst hR
  simp only[h5]
  simp[H9,Ar]
 simp only[xzm]at h5
 simp only[h5]
 simp
 refine A4 e5 rfl ?_
 by_cases h6:p.st.l.any Di=true
 ·rw[if_pos (.inr h6)]at hR
  subst hR
  simp only[h6]
  simp[H9,Ar]
 rw[if_neg (by simp only[h5];simp only[xzm]at h6;simp[h6])]at hR
 subst hR
 simp only[xzm]at h6
 simp only[h6]
 simp[H9,Ar]
def Vv (c:Bg) (id n:Nat) (cap:Option Nat):List AV:=[.t (A9 c.nodes),.t (Ah c.names),.t (Ap c.mems),.t (B8 c.outs),.ls id 0 n cap]
theorem q7c {ns vs l:List Int} {i:Nat} (h:i<ns.length) (hv:i<vs.length):Ge (ns.drop i) (vs.drop i) l=Ge (ns.drop (i+1)) (vs.drop (i+1)) (l.set (ns.getD i 0).toNat (vs.getD i 0)):=by
 rw[xqq h,xqq hv]
 simp only[Ge]
 rw[Bn h,Bn hv]
theorem qDF {Q:AX->St->Prop} (c:Bg) (p:Pat) (ns:List Int) (cap:Option Nat) (n:Nat) (hn:n<=1000000000) (hns:ns.length<=n) (hin:∀ x∈ns,0<=x/\x<n) (hp:p.inn.l.length=ns.length) (R:List Int)
  (h0:Q (.exit 0) ⟨[(2,.lp 2 0 0),(3,.t (.ip (tP p) 0)),(10,.t (.sl (Av ns) (some ns.length) none)),(11,.t (tI ns.length)),(12,.t (tI ns.length)),(13,.t (tB false))],[(2,.bx (Vv c 1000000 n cap)),(1000000,.sl 65 1 (B7 R))]⟩) :
  ∀ (k i:Nat) (l:List Int),k+i=ns.length->l.length=n->Ge (ns.drop i) (p.inn.l.drop i) l=R ->
  run Tryz.prog Γ Lt Q ⟨[(2,.lp 2 0 0),(3,.t (.ip (tP p) 0)),(10,.t (.sl (Av ns) (some ns.length) none)),(11,.t (tI ns.length)),(12,.t (tI i))],[(2,.bx (Vv c 1000000 n cap)),(1000000,.sl 65 1 (B7 l))]⟩
 | 0,i,l,h,hl,hR=>by
  refine U0 fun K hK=>?_
  have h2:i=ns.length:=by omega
  subst h2
  rw[xzs]at hR
  simp only[Ge]at hR
  subst hR
  simp
  exact h0
 | k+1,i,l,h,hl,hR=>by
  refine U0 fun K hK=>?_
  have h2:i<ns.length:=by omega
  have h3:i<p.inn.l.length:=by omega
  rw[q7c h2 h3]at hR
  have ih:=qDF c p ns cap n hn hns hin hp R h0 k (i+1) _ (by omega) (by simp[hl]) hR
  have e1:=ge1 (f:=tI) h2
  have e2:=ge1 (f:=tK) h3
  have hx:=hin (ns.getD i 0) (by rw[Bn h2];exact xqj h2)
  have hs:∀ (j:Nat) (v:Int),(B7 l).set j [tK v]=B7 (l.set j v):=fun j v=>I8
  generalize ns.getD i 0=x at *
  generalize p.inn.l.getD i 0=v at *
  have hx2:x.toNat<n:=by omega
  simp(disch:=omega) [h2,h3,A5,Aa,e1,e2,A6,hx,hx2,hl,Vv,tP,tV,hs,hp]
  rw[hK]
  simpa[Vv,tP,tV]using ih
theorem qDG {Q:AX->St->Prop} (c:Bg) (p:Pat) (ns:List Int) (cap:Option Nat) (n:Nat) (hn:n<=1000000000) (hns:ns.length<=n) (hin:∀ x∈ns,0<=x/\x<n) (hp:p.st.l.length=ns.length) (R:List Int)
  (h0:Q (.exit 2) ⟨[(2,.lp 2 0 0),(3,.t (.ip (tP p) 0)),(29,.t (.sl (Av ns) (some ns.length) none)),(30,.t (tI ns.length)),(31,.t (tI ns.length)),(32,.t (tB false))],[(2,.bx (Vv c 1000000 n cap)),(1000000,.sl 65 1 (B7 R))]⟩) :
  ∀ (k i:Nat) (l:List Int),k+i=ns.length->l.length=n->Ge (ns.drop i) (p.st.l.drop i) l=R ->
  run Tryz.prog Γ Lu Q ⟨[(2,.lp 2 0 0),(3,.t (.ip (tP p) 0)),(29,.t (.sl (Av ns) (some ns.length) none)),(30,.t (tI ns.length)),(31,.t (tI i))],[(2,.bx (Vv c 1000000 n cap)),(1000000,.sl 65 1 (B7 l))]⟩
 | 0,i,l,h,hl,hR=>by
  refine U1 fun K hK=>?_
  have h2:i=ns.length:=by omega
  subst h2
  rw[xzs]at hR
  simp only[Ge]at hR
  subst hR
  simp
  exact h0
 | k+1,i,l,h,hl,hR=>by
  refine U1 fun K hK=>?_
  have h2:i<ns.length:=by omega
  have h3:i<p.st.l.length:=by omega
  rw[q7c h2 h3]at hR
  have ih:=qDG c p ns cap n hn hns hin hp R h0 k (i+1) _ (by omega) (by simp[hl]) hR
  have e1:=ge1 (f:=tI) h2
  have e2:=ge1 (f:=tK) h3
  have hx:=hin (ns.getD i 0) (by rw[Bn h2];exact xqj h2)
  have hs:∀ (j:Nat) (v:Int),(B7 l).set j [tK v]=B7 (l.set j v):=fun j v=>I8
  generalize ns.getD i 0=x at *
  generalize p.st.l.getD i 0=v at *
  have hx2:x.toNat<n:=by omega
  simp(disch:=omega) [h2,h3,A5,Aa,e1,e2,A6,hx,hx2,hl,Vv,tP,tV,hs,hp]
  rw[hK]
  simpa[Vv,tP,tV]using ih
theorem qJS (c:Bg) (hc:COk c) (p:Pat) (cap:Option Nat) (l:List Int) (hl:l.length=c.nodes.l.length) (h1:p.inn.l.length=(Be c).length) (h2:p.st.l.length=(Ba c).length) :
  Bf Tryz.prog Γ 63 [(1000000,.sl 65 1 (B7 l))] [.ag (Vv c 1000000 c.nodes.l.length cap),.t (.agg (tP p))] (.t (.tup [])) [(1000000,.sl 65 1 (B7 (Ge (Ba c) p.st.l (Ge (Be c) p.inn.l l))))]:=by
 refine Ee q4c rfl ?_
 have hn:=hc.nodes
 have g1:=fun Q h0=>qDF (Γ:=Γ) (Q:=Q) c p (Be c) cap c.nodes.l.length hn (Rw c) (fun x hx=>⟨(Hi x hx).1,(Hi x hx).2.1⟩) h1 _ h0 (Be c).length 0 l (by omega) hl rfl
 have g2:=fun Q h0=>qDG (Γ:=Γ) (Q:=Q) c p (Ba c) cap c.nodes.l.length hn (Ld c) (fun x hx=>⟨(Hi x hx).1,(Hi x hx).2.1⟩) h2 _ h0 (Ba c).length 0 (Ge (Be c) p.inn.l l) (by omega) (by rw[Rr];exact hl) rfl
 simp only[xzt]at g1 g2
 simp[Zm,Vv,tP,tV,A9,Ah,Ap,B8]
 refine B6 (Y9 c hc) rfl ?_
 simp[A5]
 refine g1 _ ?_
 simp[Vv,A9,Ah,Ap,B8]
 refine B6 (Tt c hc) rfl ?_
 simp[A5]
 refine g2 _ ?_
 simp[Zn]
@[simp] theorem qLQ {s:Nat} {e:List T}:Es s [e]=(e.length=s):=propext ⟨fun h=>h e xqh,fun h x hx=>by simp at hx;subst hx;exact h⟩
def q14 (c:Bg) (nets:Sl Int):List T:=[A9 c.nodes,Ah c.names,Ap c.mems,B8 c.outs,tV nets]
def q0W (nets:List Int) (n:Int):Int:=if n<0\/(nets.length:Int)<=n then 2 else Ft (nets.getD n.toNat 0)
theorem q7d (c:Bg) (nets:Sl Int) (n:Int) (hl:nets.l.length<=1000000000):A7 Tryz.prog Γ 128 [.agg (q14 c nets),tI n] (tK (q0W nets.l n)):=by
 refine Ac q3m rfl ?_
 generalize hR:q0W nets.l n=R
 unfold q0W at hR
 by_cases h1:n<0
 ·rw[if_pos (.inl h1)]at hR
  subst hR
  simp[K6,q14,A9,Ah,Ap,B8,tV,h1,K7,Ar]
 by_cases h2:(nets.l.length:Int)<=n
 ·rw[if_pos (.inr h2)]at hR
  subst hR
  simp[K6,q14,A9,Ah,Ap,B8,tV,h1,h2,A5,K7,Ar]
 rw[if_neg (by omega)]at hR
 have h3:n.toNat<nets.l.length:=by omega
 have e:=ge1 (f:=tK) h3
 generalize nets.l.getD n.toNat 0=v at *
 have h4:n<nets.l.length:=by omega
 simp(disch:=omega) [K6,q14,A9,Ah,Ap,B8,tV,h1,h2,h4,A5,Aa,e]
 refine⟨by omega,A4 (q3j v) rfl ?_⟩
 simp[K7,Ar,hR]
def q9C (c:Bg) (nets:List Int) (n:Int):Int:=if(Bz c n.toNat).length=1 then X4 (q0W nets ((Bz c n.toNat).getD 0 0))else 2
def q8V (c:Bg) (nets:List Int):List Int:=c.outs.l.map (q0W nets)
def Xb (c:Bg) (nets:List Int):List Int:=(Ba c).map (q9C c nets)
def q5P (o s:Nat):List AV:=[.ls 24 0 o none,.ls 55 0 s none]
def q2c (o s:List Int):List (Nat×Aw):=[(2,.bx [.t (.sl [] (some 0) (some true)),.t (.sl [] (some 0) (some true))]),(3,.bx (q5P o.length s.length)),(24,.sl 65 1 (B7 o)),(55,.sl 65 1 (B7 s))]
theorem W8 {l:List Int} {v:Int}:B7 l++[[tK v]]=B7 (l++[v]):=Gy
theorem E5 {l:List Int}:(B7 l).take l.length=B7 l:=q8H
theorem qAx {Q:AX->St->Prop} (c:Bg) (nets:Sl Int) (hl:nets.l.length<=1000000000) (ho:c.outs.l.length<=1000000000) (R:List Int)
  (h0:Q (.exit 0) ⟨[(1,.t (.ip (q14 c nets) 0)),(2,.lp 2 0 0),(3,.lp 3 0 0),(12,.t (B8 c.outs)),(13,.t (tI c.outs.l.length)),(14,.t (tI c.outs.l.length)),(15,.t (tB false))],q2c R []⟩) :
  ∀ (k i:Nat) (out:List Int),k+i=c.outs.l.length->out.length=i->out++(c.outs.l.drop i).map (q0W nets.l)=R ->
  run Tryz.prog Γ Hu Q ⟨[(1,.t (.ip (q14 c nets) 0)),(2,.lp 2 0 0),(3,.lp 3 0 0),(12,.t (B8 c.outs)),(13,.t (tI c.outs.l.length)),(14,.t (tI i))],q2c out []⟩
 | 0,i,out,h,hi,hR=>by
  refine Oz fun K hK=>?_
  have h2:i=c.outs.l.length:=by omega
  rw[xq2 (by omega),xq3,List.append_nil]at hR
  subst hR
  simp[q2c,q5P,h2]
  simpa[q2c,q5P]using h0
 | k+1,i,out,h,hi,hR=>by
  refine Oz fun K hK=>?_
  have h2:i<c.outs.l.length:=by omega
  rw[xqq h2,xqm]at hR
  have e:=ge1 (f:=tI) h2
  rw[Bn h2]at e
  generalize c.outs.l[i]=n at *
  have ih:=qAx c nets hl ho R h0 k (i+1) (out++[q0W nets.l n]) (by omega) (by simp[hi]) (by rw[<- hR];simp)
  have vs:=W8 (l:=out) (v:=q0W nets.l n)
  have vt:(B7 out).take i=B7 out:=by rw[<- hi];exact E5
  have hv:=q7d (Γ:=Γ) c nets n hl
  simp(disch:=omega) [q2c,q5P,h2,B8,A5,Aa,e,hi,A6,q14,A9,Ah,Ap,tV]
  refine A4 hv rfl ?_
  simp(disch:=omega) [vt,vs,A5,Aa,hi,A6]
  refine⟨by omega,?_⟩
  rw[hK]
  simpa[q2c,q5P,hi,q14,A9,Ah,Ap,B8,tV]using ih
theorem q9D {Q:AX->St->Prop} (c:Bg) (hc:COk c) (nets:Sl Int) (hl:nets.l.length<=1000000000) (ns:List Int) (hns:ns.length<=1000000000) (hin:∀ n∈ns,0<=n/\n<c.nodes.l.length) (o R:List Int)
  (h0:Q (.exit 2) ⟨[(1,.t (.ip (q14 c nets) 0)),(2,.lp 2 0 0),(3,.lp 3 0 0),(29,.t (.sl (Av ns) (some ns.length) none)),(30,.t (tI ns.length)),(31,.t (tI ns.length)),(32,.t (tB false))],q2c o R⟩) :
  ∀ (k i:Nat) (out:List Int),k+i=ns.length->out.length=i->out++(ns.drop i).map (q9C c nets.l)=R ->
  run Tryz.prog Γ Hv Q ⟨[(1,.t (.ip (q14 c nets) 0)),(2,.lp 2 0 0),(3,.lp 3 0 0),(29,.t (.sl (Av ns) (some ns.length) none)),(30,.t (tI ns.length)),(31,.t (tI i))],q2c o out⟩
 | 0,i,out,h,hi,hR=>by
  refine P0 fun K hK=>?_
  have h2:i=ns.length:=by omega
  rw[xq2 (by omega),xq3,List.append_nil]at hR
  subst hR
  simp[q2c,q5P,h2]
  simpa[q2c,q5P]using h0
 | k+1,i,out,h,hi,hR=>by
  refine P0 fun K hK=>?_
  have h2:i<ns.length:=by omega
  rw[xqq h2,xqm]at hR
  have e:=ge1 (f:=tI) h2
  have hn:=hin ns[i] (xqj h2)
  rw[Bn h2]at e
  generalize ns[i]=n at *
  have ih:=q9D c hc nets hl ns hns hin o R h0 k (i+1) (out++[q9C c nets.l n]) (by omega) (by simp[hi]) (by rw[<- hR];simp)
  have vs:=W8 (l:=out) (v:=q9C c nets.l n)
  have vt:(B7 out).take i=B7 out:=by rw[<- hi];exact E5
  have hnn:n.toNat<c.nodes.l.length:=by omega
  have hget:(Bo E3 c.nodes.l)[n.toNat]?.getD []=E3 (c.nodes.l.getD n.toNat Nd.d):=by
   rw[Eb Nd.d hnn];simp[xqe]
  have hxi:=hc.inn _ (xqj hnn)
  have hgd:c.nodes.l.getD n.toNat Nd.d=c.nodes.l[n.toNat]:=by simp[xqe,hnn]
  have hia:Bz c n.toNat=(c.nodes.l.getD n.toNat Nd.d).inn.l:=rfl
  have hnl:q9C c nets.l n=if(Bz c n.toNat).length=1 then X4 (q0W nets.l ((Bz c n.toNat).getD 0 0))else 2:=rfl
  rw[<- hgd]at hxi
  rw[hia]at hnl
  generalize c.nodes.l.getD n.toNat Nd.d=x at *
  generalize q9C c nets.l n=v at *
  obtain⟨h3,h4⟩:=hn
  by_cases h1:x.inn.l.length=1
  ·rw[if_pos h1]at hnl
   have h10:0<x.inn.l.length:=by omega
   have e0:=ge1 (f:=tI) h10
   have hv:=q7d (Γ:=Γ) c nets (x.inn.l.getD 0 0) hl
   generalize x.inn.l.getD 0 0=m at *
   simp(disch:=omega) [q2c,q5P,h2,B8,A5,Aa,e,hi,A6,q14,A9,Ah,Ap,tV,h3,h4,Ab,Bj,hget,E3,h1,e0,h10]
   refine A4 hv rfl ?_
   simp
   refine A4 (W7 _) rfl ?_
   rw[<- hnl]
   simp(disch:=omega) [vt,vs,A5,Aa,hi,A6]
   refine⟨by omega,?_⟩
   rw[hK]
   simpa[q2c,q5P,hi,q14,A9,Ah,Ap,B8,tV]using ih
  ·rw[if_neg h1]at hnl
   subst hnl
   have h1i:¬ (x.inn.l.length:Int)=1:=by omega
   simp(disch:=omega) [q2c,q5P,h2,B8,A5,Aa,e,hi,A6,q14,A9,Ah,Ap,tV,h3,h4,Ab,Bj,hget,E3,h1,h1i,Bm,vt,vs]
   refine⟨by omega,?_⟩
   rw[hK]
   simpa[q2c,q5P,hi,q14,A9,Ah,Ap,B8,tV]using ih
theorem q7e (ty:Nat) (es:List (List T)) (cap:Option Nat) (hw:Es 1 es):Bf Tryz.prog Γ 57 [(1000000,.sl ty 1 es)] [.ls 1000000 0 es.length cap] (.ls 1000000 0 es.length (some es.length)) [(1000000,.sl ty 1 es)]:=by
 refine Ee M6 rfl ?_
 simp[Hj,Hk,qE4,hw]
def tVs (l:List Int):T:=.sl (B7 l) (some l.length) none
theorem q9q (c:Bg) (hc:COk c) (nets:Sl Int) (hl:nets.l.length<=1000000000):A7 Tryz.prog Γ 65 [.agg (q14 c nets)] (.agg [tVs (q8V c nets.l),tVs (Xb c nets.l)]):=by
 refine Ac q1u rfl ?_
 have hn:=hc.nodes
 have ho:=hc.outs
 have hs:=Ld c
 have g1:=fun Q h0=>qAx (Γ:=Γ) (Q:=Q) c nets hl ho (q8V c nets.l) h0 c.outs.l.length 0 [] (by omega) rfl (by simp[q8V])
 have g2:=fun Q h0=>q9D (Γ:=Γ) (Q:=Q) c hc nets hl (Ba c) (by omega) (fun x hx=>⟨(Hi x hx).1,(Hi x hx).2.1⟩) (q8V c nets.l) (Xb c nets.l) h0 (Ba c).length 0 [] (by omega) rfl (by simp[Xb])
 have l1:(q8V c nets.l).length=c.outs.l.length:=by simp[q8V]
 have l2:(Xb c nets.l).length=(Ba c).length:=by simp[Xb]
 have t1:=E5 (l:=q8V c nets.l)
 have t2:=E5 (l:=Xb c nets.l)
 generalize q8V c nets.l=O at *
 generalize Xb c nets.l=S at *
 simp[V9,q14,A9,Ah,Ap,B8,tV,A5]
 refine g1 _ ?_
 simp[q2c,q5P,q14,A9,Ah,Ap,B8,tV]
 refine B6 (Tt c hc) rfl ?_
 simp[A5]
 refine g2 _ ?_
 have hc1:=q7e (Γ:=Γ) 65 (B7 O) none Aa
 have hc2:=q7e (Γ:=Γ) 65 (B7 S) none Aa
 simp only[A5]at hc1 hc2
 simp[q2c,q5P]
 refine⟨_,hc1,?_⟩
 simp
 refine⟨_,hc2,?_⟩
 simp[Va,tVs,A5,Ar,Aj,t1,t2]
def nd (c:Bg) (n:Int):Nd:=c.nodes.l.getD n.toNat Nd.d
theorem q5Q {c:Bg} {n:Int} (h0:0<=n) (h:n<c.nodes.l.length):(Bo E3 c.nodes.l)[n.toNat]?.getD []=E3 (nd c n):=by
 rw[Eb Nd.d (by omega)];simp[nd,xqe]
theorem qC9 {c:Bg} {n:Int} (h0:0<=n) (h:n<c.nodes.l.length):nd c n∈c.nodes.l:=by
 have hi:n.toNat<c.nodes.l.length:=by omega
 have:nd c n=c.nodes.l[n.toNat]:=by simp[nd,xqe,hi]
 rw[this];exact xqj hi
def q3n:AV:=.t (.sl [] (some 0) (some true))
def qAy (c:Bg) (n:Nat) (nets inb:List Int):List (Nat×Aw):=[(4,.bx [q3n,q3n]),(9,.bx (Vv c 34 n (some n))),(34,.sl 65 1 (B7 nets)),(39,.sl 65 1 (B7 inb))]
def q7f (c:Bg) (n:Nat) (x:Nd) (nets inb:List Int):List (Nat×Aw):=[(4,.bx [q3n,q3n]),(9,.bx (Vv c 34 n (some n))),(13,.bx ((E3 x).map .t)),(34,.sl 65 1 (B7 nets)),(39,.sl 65 1 (B7 inb))]
theorem qAz {Q:AX->St->Prop} (c:Bg) (n:Nat) (hn:n<=1000000000) (x:Nd) (hx:x.inn.l.length<=1000000) (hin:∀ k∈x.inn.l,0<=k/\k<n) (nets:List Int) (hl:nets.length=n) (nn:Int) (t40 t41 t42:T) (R:List Int)
  (h0:∀ X:List Int,X.take x.inn.l.length=R->R.length=x.inn.l.length->Q (.exit 2) ⟨[(4,.lp 4 0 0),(9,.lp 9 0 0),(10,.ls 39 0 x.inn.l.length none),(12,.t (tI nn)),(13,.lp 13 0 0),(40,.t t40),(41,.t t41),(42,.t t42),(59,.t (B8 x.inn)),(60,.t (tI x.inn.l.length)),(61,.t (tI x.inn.l.length)),(62,.t (tB false))],q7f c n x nets X⟩) :
  ∀ (k i:Nat) (X:List Int),k+i=x.inn.l.length->i<=X.length->X.take i++(x.inn.l.drop i).map (fun k=>nets.getD k.toNat 0)=R ->
  run Tryz.prog Γ Y7 Q ⟨[(4,.lp 4 0 0),(9,.lp 9 0 0),(10,.ls 39 0 i none),(12,.t (tI nn)),(13,.lp 13 0 0),(40,.t t40),(41,.t t41),(42,.t t42),(59,.t (B8 x.inn)),(60,.t (tI x.inn.l.length)),(61,.t (tI i))],q7f c n x nets X⟩
 | 0,i,X,h,hi,hR=>by
  refine q0m fun K hK=>?_
  have h2:i=x.inn.l.length:=by omega
  subst h2
  rw[xzs,xq3,List.append_nil]at hR
  have:=h0 X hR (by rw[<- hR,xzf];omega)
  simp[q7f,Vv,E3,q3n,A9,Ah,Ap,B8]
  simpa[q7f,Vv,E3,q3n,A9,Ah,Ap,B8]using this
 | k+1,i,X,h,hi,hR=>by
  refine q0m fun K hK=>?_
  have h2:i<x.inn.l.length:=by omega
  rw[xqq h2,xqm]at hR
  have e:=ge1 (f:=tI) h2
  have hq:=hin _ (xqj h2)
  rw[Bn h2]at e
  generalize x.inn.l[i]=q at *
  have hq2:q.toNat<nets.length:=by omega
  have e2:=ge1 (f:=tK) hq2
  have hti:(X.take i).length=i:=by rw[xzf];omega
  generalize nets.getD q.toNat 0=v at *
  have ih:=qAz c n hn x hx hin nets hl nn t40 t41 t42 R h0 k (i+1) (X.take i++[v]) (by omega) (by simp[hti]) (by rw[xqw (by simp[hti]),<- hR];simp)
  have vs:B7 (X.take i)++[[tK v]]=B7 (X.take i++[v]):=W8
  have vt:(B7 X).take i=B7 (X.take i):=q8u
  have hxl:(B7 (X.take i)).length=i:=by rw[A5];exact hti
  simp(disch:=omega) [q7f,Vv,E3,q3n,A9,Ah,Ap,B8,h2,A5,Aa,e,e2,hq,hl,A6,vt,vs,hti,hxl]
  refine⟨by omega,?_⟩
  rw[hK]
  simpa[q7f,Vv,E3,q3n,A9,Ah,Ap,B8]using ih
structure ROk (c:Bg):Prop where
 ok:COk c
 inn:∀ x∈c.nodes.l,x.inn.l.length<=16/\∀ k∈x.inn.l,0<=k/\k<c.nodes.l.length
theorem qHL {c:Bg} {nets:List Int} {n:Int} (h:∀ v∈nets,V4 v):∀ v∈V2 c nets n,V4 v:=by
 intro v hv
 unfold V2 at hv
 split at hv
 ·rcases xz9 hv with hv|rfl
  ·exact h v hv
  ·refine q9n fun u hu=>?_
   obtain⟨q,_,rfl⟩:=xqy.1 hu
   exact q1e h _
 ·exact h v hv
theorem qDH {Q:AX->St->Prop} (hΓ:GOk Γ) (c:Bg) (H:ROk c) (ord:List Int) (ho:ord.length<=1000000000) (hin:∀ n∈ord,0<=n/\n<c.nodes.l.length) (R:List Int)
  (h0:∀ (m:Nat) (inb:List Int),Q (.exit 0) ⟨[(4,.lp 4 0 0),(9,.lp 9 0 0),(10,.ls 39 0 m none),(40,.t (.sl (Av ord) none none)),(41,.t (tI ord.length)),(42,.t (tI ord.length)),(43,.t (tB false))],qAy c c.nodes.l.length R inb⟩) :
  ∀ (k i:Nat) (nets:List Int) (m:Nat) (inb:List Int),k+i=ord.length->nets.length=c.nodes.l.length->(∀ v∈nets,V4 v)->q6F c (ord.drop i) nets=R ->
  run Tryz.prog Γ Y8 Q ⟨[(4,.lp 4 0 0),(9,.lp 9 0 0),(10,.ls 39 0 m none),(40,.t (.sl (Av ord) none none)),(41,.t (tI ord.length)),(42,.t (tI i))],qAy c c.nodes.l.length nets inb⟩
 | 0,i,nets,m,inb,h,hl,hv,hR=>by
  refine q0n fun K hK=>?_
  have h2:i=ord.length:=by omega
  subst h2
  rw[xzs]at hR
  have hR':nets=R:=hR
  subst hR'
  have:=h0 m inb
  simp[qAy,Vv,q3n,A9,Ah,Ap,B8]
  simpa[qAy,Vv,q3n,A9,Ah,Ap,B8]using this
 | k+1,i,nets,m,inb,h,hl,hv,hR=>by
  refine q0n fun K hK=>?_
  have h2:i<ord.length:=by omega
  rw[xqq h2]at hR
  have hR:q6F c (ord.drop (i+1)) (V2 c nets ord[i])=R:=hR
  have e:=ge1 (f:=tI) h2
  have hn:=hin _ (xqj h2)
  rw[Bn h2]at e
  generalize ord[i]=n at *
  have ih:=fun m inb=>qDH hΓ c H ord ho hin R h0 k (i+1) (V2 c nets n) m inb (by omega) (by rw[q5O];exact hl) (qHL hv) hR
  have hcn:=H.ok.nodes
  have hget:=q5Q hn.1 hn.2
  have hmem:=qC9 hn.1 hn.2
  have hk:(nd c n).k=Ad c n.toNat:=rfl
  have hxi:=H.inn _ hmem
  have hkk:=H.ok.kind _ hmem
  have hinv:G9 c nets n.toNat=(nd c n).inn.l.map fun k=>nets.getD k.toNat 0:=rfl
  have hlR:(G9 c nets n.toNat).length=(nd c n).inn.l.length:=by rw[hinv];simp
  have hvR:∀ v∈G9 c nets n.toNat,V4 v:=fun v hv'=>by
   rw[hinv]at hv'
   obtain⟨q,hq,rfl⟩:=xqy.1 hv'
   exact q1e hv _
  have hev:=fun cap nl=>q99 hΓ (nd c n).k hkk (G9 c nets n.toNat) cap nl (by rw[hlR];omega) hvR
  have hcb:=Z7 (Γ:=Γ) (nd c n).k
  have hst:V2 c nets n=if By (nd c n).k then nets.set n.toNat (Ih (nd c n).k (G9 c nets n.toNat))else nets:=by rw[hk];rfl
  have hlp:=fun Q h0=>qAz (Γ:=Γ) (Q:=Q) c c.nodes.l.length hcn (nd c n) (by omega) hxi.2 nets hl n (.sl (Av ord) none none) (tI ord.length) (tI i) (G9 c nets n.toNat) h0 (nd c n).inn.l.length 0 inb (by omega) (by omega) (by rw[hinv];simp)
  have hcd:decide (1<=(nd c n).k/\(nd c n).k<=13)=By (nd c n).k:=rfl
  rw[hcd]at hcb
  rw[hst]at ih
  generalize G9 c nets n.toNat=RV at *
  generalize nd c n=x at *
  obtain⟨hn0,hn1⟩:=hn
  have hn2:n.toNat<c.nodes.l.length:=by omega
  have hn3:n.toNat<nets.length:=by omega
  simp(disch:=omega) [qAy,Vv,q3n,A9,Ah,Ap,B8,h2,A5,Aa,e,hn0,hn1,Ab,Bj,hget,E3]
  refine A4 hcb rfl ?_
  by_cases hc:By x.k=true
  ·rw[if_pos hc]at ih
   simp[hc,A5]
   simp only[q7f,Vv,E3,q3n,A9,Ah,Ap,B8,xqm,xq3]at hlp
   refine hlp _ fun X hX hXl=>?_
   have hXR:(B7 X).take x.inn.l.length=B7 RV:=by rw[q8u,hX]
   simp(disch:=omega)
   refine A4 (hev none none) (by simp[Aj,hXR]) ?_
   have hs:(B7 nets).set n.toNat [tK (Ih x.k RV)]=B7 (nets.set n.toNat (Ih x.k RV)):=I8
   generalize Ih x.k RV=v at *
   simp(disch:=omega) [hn0,hn1,hn2,hn3,A5,hl,hs,A6]
   rw[hK]
   simpa[qAy,Vv,q3n,A9,Ah,Ap,B8]using ih _ X
  ·rw[if_neg hc]at ih
   simp only[xzm]at hc
   simp only[hc]
   simp(disch:=omega) [A6]
   rw[hK]
   simpa[qAy,Vv,q3n,A9,Ah,Ap,B8]using ih m inb
def qCA (c:Bg) (p:Pat):Int:=if D3 c≠0 then D3 c else Ya c p
theorem q7g {c:Bg} (hc:COk c) (h:D3 c=0):ROk c:=by
 have hs:=(Ii h).1
 exact⟨hc,fun x hx=>⟨(Ig hs).2.1 x hx,q1h hs x hx⟩⟩
theorem q9r:∀ {ns vs nets:List Int},(∀ v∈vs,V4 v)->(∀ v∈nets,V4 v)->∀ v∈Ge ns vs nets,V4 v
 | [],vs,nets,_,h=>by cases vs<;>exact h
 | _::_,[],nets,_,h=>h
 | n::ns,v::vs,nets,hv,h=>by
  simp only[Ge]
  refine q9r (fun u hu=>hv u (xqf _ hu)) fun u hu=>?_
  rcases xz9 hu with hu|rfl
  ·exact h u hu
  ·exact hv _ xqh
end Go.Lg
namespace Go.Lg
open Go
section
variable {P:Program} {Γ:Tables} {Q:AX->St->Prop} {s:St}
/- probecard/probecardlaw06.taken (function 50) -/
abbrev q1v:IC:=.gh (.seq (.seq (.reg [om 9 8,om 10 1,od 11 (.bin .lss (tm 9) (tm 10))] [kp [0,1,2,7,8,11] [19]]) (.cond (tm 11) .skip (.exit 0))) (.seq (.block 1 (.seq (.reg [om 14 0,od 15 (le 0 14),od 16 (.bin .eql (tm 15) (ki 0))] [kp
 [0,1,2,7,8,16] [19]]) (.cond (tm 16) (.reg [om 17 7,od 18 (.bsl true 65 1 [(ku 2)]),od 19 (.app false 65 1 (tm 17) (tm 18)),om 7 19] [kp [0,1,2,7,8] [19]]) (.reg [om 20 7,om 21 0,om 22 8,om 23 0,od 24 (le 0 23),od
 25 (.bin .rem (tm 22) (tm 24)),od 26 (ia 1 21 25),od 27 (ld 1 26),om 28 2,od 29 (.bin .rem (tm 27) (tm 28)),od 30 (.bsl true 65 1 [(tm 29)]),oz 31 (.app false 65 1 (tm 20) (tm 30)) 19,om 7 31] [kp [0,1,2,7,8] [19]]))))
 (.reg [om 12 8,od 13 (.bin .add (tm 12) (ki 1)),om 8 13] [kp [0,1,2,7,8] [19]]))) [kp [0,1,2,7,8] [19]]
def Qa:IC:=.loop q1v
abbrev q1w:IC:=(.seq (.reg [od 6 (.mv kN)] [kp [0,1,2] []]) (.seq (.reg [od 7 (.mv kN)] [.nl 7 19 65 1,kp [0,1,2,7] [19]]) (.seq (.seq (.reg [od 8 (.mv (ki 0))] [kp [0,1,2,7,8] [19]]) (.block 0 Qa)) (.seq (.reg [om 32 7,om
 6 32] [kp [6] [19]]) .ret))))
theorem Xc (h:∀ K:St->Prop,K=run P Γ Qa Q->run P Γ q1v (B0 K Q) s):run P Γ Qa Q s:=Am h
def q1x:List RV:=[.tmp 6]
/- probecard/probecardlaw06.count (function 51) -/
abbrev q1y:IC:=.gh (.seq (.seq (.reg [om 7 6,od 8 (fa 0 2),od 9 (ld 1 8),od 10 (le 0 9),od 11 (.bin .lss (tm 7) (tm 10))] [kp [1,2,5,6,11] []]) (.cond (tm 11) .skip (.exit 0))) (.seq (.block 1 (.seq (.reg [od 14 (fa 0 2),od 15 (ld 1 14),
 om 16 6,od 17 (ia 4 15 16),od 18 (fa 0 17),od 19 (ld 1 18),om 20 1,od 21 (.bin .eql (tm 19) (tm 20))] [kp [1,2,5,6,21] []]) (.cond (tm 21) (.reg [om 22 5,od 23 (.bin .add (tm 22) (ki 1)),om 5 23] [kp [1,2,5,6] []])
 .skip))) (.reg [om 12 6,od 13 (.bin .add (tm 12) (ki 1)),om 6 13] [kp [1,2,5,6] []]))) [kp [1,2,5,6] []]
def Qb:IC:=.loop q1y
abbrev q1z:IC:=(.seq (.reg [od 2 (.box true (tm 0)),od 4 (.mv (ki 0))] [kp [1,2] []]) (.seq (.reg [od 5 (.mv (ki 0))] [kp [1,2,5] []]) (.seq (.seq (.reg [od 6 (.mv (ki 0))] [kp [1,2,5,6] []]) (.block 0 Qb)) (.seq (.reg [om 24
 5,om 4 24] [kp [4] []]) .ret))))
theorem Xd (h:∀ K:St->Prop,K=run P Γ Qb Q->run P Γ q1y (B0 K Q) s):run P Γ Qb Q s:=Am h
def q20:List RV:=[.tmp 4]
/- (probecard/probecardlaw06.P).Of (function 13) -/
abbrev q2x:IC:=(.seq (.reg [od 2 (.box true (tm 0)),od 3 (.box true (tm 1)),od 4 (.alloc false [(.slice none 0 0),(.slice none 0 0)])] [kp [2,3,4] [4,9019,14019]]) (.seq (.reg [od 5 (fa 0 2),od 6 (.ldT 1 false (tm 5)),od 7 (.ldT 4 true
 (tm 3)),od 8 (.callT 51 [(tm 7),(ku 0)]),od 9 (.ncall 50 [(tm 6),(tm 8),(ku 4)] 9000),od 10 (fa 1 2),od 11 (.ldT 1 false (tm 10)),od 12 (.ldT 4 true (tm 3)),od 13 (.callT 51 [(tm 12),(ku 14)]),od 14 (.ncall 50 [(tm 11),
 (tm 13),(ku 3)] 14000),od 15 (.build [(1,(tm 9)),(1,(tm 14))]),on (.stR 4 2 (tm 4) (tm 15))] [kp [4] [4,9019,14019]]) .ret))
def q2y:List RV:=[.cell 4 2 true]
/- probecard/probecardlaw06.Same (function 19) -/
abbrev q2z:IC:=.gh (.seq (.reg [od 12 (.bin .lss (tm 11) (tm 10))] [kp [3,9,10,11,12] [8]]) (.seq (.cond (tm 12) .skip (.exit 0)) (.seq (.block 1 (.seq (.reg [om 13 11,od 14 (ia 1 9 11),od 15 (ld 1 14),om 4 13,om 5 15] [kp [3,4,5,9,
 10,11] [8]]) (.reg [om 16 3,om 17 4,om 18 5,od 19 (.call 109 [(tm 18)]),od 20 (.idxS (.const (sV [48,49,88,90])) (tm 19)),od 21 (ia 1 16 17),on (.store 1 (tm 21) (tm 20))] [kp [3,9,10,11] [8]]))) (.reg [od 22 (.bin
 .add (tm 11) (ki 1)),om 11 22] [kp [3,9,10,11] [8]])))) [kp [3,9,10,11] [8]]
def Sv:IC:=.loop q2z
abbrev q30:IC:=(.seq (.reg [od 2 (.mv (.const (sV [])))] [kp [0] []]) (.seq (.reg [om 6 0,od 7 (le 0 6),od 8 (.mk 5 1 [(.int .u8 0)] (tm 7) (tm 7)),om 3 8] [kp [0,3] [8]]) (.seq (.seq (.reg [om 9 0,od 10 (le 0 9),od 11 (.mv (ki 0))] [kp [3,
 9,10,11] [8]]) (.block 0 Sv)) (.seq (.reg [om 23 3,od 24 (.bytesStr (tm 23)),om 2 24] [kp [2] []]) .ret))))
theorem Yb (h:∀ K:St->Prop,K=run P Γ Sv Q->run P Γ q2z (B0 K Q) s):run P Γ Sv Q s:=Am h
def q31:List RV:=[.tmp 2]
/- probecard/logic.Parse (function 54) -/
abbrev q21:IC:=.gh (.seq (.reg [od 13 (.bin .lss (tm 12) (tm 11))] [kp [0,4,11,12,13] [9]]) (.seq (.cond (tm 13) .skip (.exit 0)) (.seq (.block 1 (.seq (.reg [om 14 12,om 5 14] [kp [0,4,5,11,12] [9]]) (.seq (.reg [om 15 0,om 16 5,od 17
 (.idxS (tm 15) (tm 16)),od 18 (.call 110 [(.const (sV [48,49,88,90])),(tm 17)]),om 6 18] [kp [0,4,5,6,11,12] [9]]) (.seq (.seq (.reg [om 19 6,od 20 (.bin .lss (tm 19) (ki 0))] [kp [0,4,5,6,11,12,20] [9]]) (.cond
 (tm 20) (.seq (.reg [od 2 (.mv kN),od 3 (.mv (ki 4))] [kp [2,3] [9]]) .ret) .skip)) (.reg [om 21 4,om 22 5,om 23 6,od 24 (.conv .u8 (tm 23)),od 25 (ia 1 21 22),on (.store 1 (tm 25) (tm 24))] [kp [0,4,11,12] [9]])))))
 (.reg [od 26 (.bin .add (tm 12) (ki 1)),om 12 26] [kp [0,4,11,12] [9]])))) [kp [0,4,11,12] [9]]
def Qc:IC:=.loop q21
abbrev q22:IC:=(.seq (.reg [od 2 (.mv kN),od 3 (.mv (ki 0))] [kp [0] []]) (.seq (.reg [om 7 0,od 8 (le 1 7),od 9 (.mk 65 1 [(.int .u8 0)] (tm 8) (tm 8)),om 4 9] [kp [0,4] [9]]) (.seq (.seq (.reg [om 10 0,od 11 (le 1 10),od 12 (.mv (ki 0))]
 [kp [0,4,11,12] [9]]) (.block 0 Qc)) (.seq (.reg [om 27 4,om 2 27,od 3 (.mv (ki 0))] [kp [2,3] [9]]) .ret))))
theorem Xe (h:∀ K:St->Prop,K=run P Γ Qc Q->run P Γ q21 (B0 K Q) s):run P Γ Qc Q s:=Am h
def q24:List RV:=[.tmp 2,.tmp 3]
end
end Go.Lg
namespace Go.Lg
open Go Go.Proofs
theorem q6K:Bc Tryz.prog 50 q1w 33 3 q1x=true:=by kernel_rfl
theorem q6L:Bc Tryz.prog 51 q1z 25 2 q20=true:=by kernel_rfl
theorem q7h:Bc Tryz.prog 13 q2x 16 2 q2y=true:=by kernel_rfl
theorem q7i:Bc Tryz.prog 53 q30 25 1 q31=true:=by kernel_rfl
theorem q6M:Bc Tryz.prog 54 q22 28 1 q24=true:=by kernel_rfl
end Go.Lg
namespace Go.Lg
open Go Go.Proofs
variable {Γ:Tables}
theorem qFf {ks:List Int} {c:Bg} {i:Nat} (hi:i<c.nodes.l.length):Rl ks (c.nodes.l.take (i+1)) 0=Rl ks (c.nodes.l.take i) 0++if ks.contains (Ad c i) then[(i:Int)] else[]:=by
 have hk:Ad c i=c.nodes.l[i].k:=by simp[Ad,hi]
 rw[xz7,xqg hi,q4E,hk]
 have:(c.nodes.l.take i).length=i:=by rw[xzf];omega
 rw[this]
 simp[Rl]
theorem q7j {Q:AX->St->Prop} (c:Bg) (hc:COk c) (k:Int)
  (h0:Q (.exit 0) ⟨[(1,.t (tK k)),(2,.t (.ip (tC c) 0)),(5,.t (tI (Rl [k] c.nodes.l 0).length)),(6,.t (tI c.nodes.l.length)),(11,.t (tB false))],[]⟩):∀ (f i:Nat),f+i=c.nodes.l.length ->
  run Tryz.prog Γ Qb Q ⟨[(1,.t (tK k)),(2,.t (.ip (tC c) 0)),(5,.t (tI (Rl [k] (c.nodes.l.take i) 0).length)),(6,.t (tI i))],[]⟩
 | 0,i,h=>by
  refine Xd fun K hK=>?_
  have h2:i=c.nodes.l.length:=by omega
  subst h2
  rw[xzn]
  simp[tC,A9,Ah,Ap,B8,Ab]
  simpa[tC,A9,Ah,Ap,B8]using h0
 | f+1,i,h=>by
  refine Xd fun K hK=>?_
  have h2:i<c.nodes.l.length:=by omega
  have hn:=hc.nodes
  have ih:=q7j c hc k h0 f (i+1) (by omega)
  rw[qFf h2]at ih
  have hget:=q5Q (c:=c) (n:=(i:Int)) (by omega) (by omega)
  have hk:(nd c i).k=Ad c i:=by simp[nd,Ad]
  simp only[xzl]at hget
  have hle:=q0M [k] (c.nodes.l.take i) 0
  rw[xzf]at hle
  generalize nd c i=x at *
  by_cases h1:x.k=k
  ·have hkk:[k].contains (Ad c i)=true:=by rw[<- hk,h1];simp
   rw[hkk,if_pos rfl,xq6]at ih
   simp(disch:=omega) [tC,A9,Ah,Ap,B8,Ab,h2,Bj,hget,E3,h1,A6]
   rw[hK]
   simpa[tC,A9,Ah,Ap,B8]using ih
  ·have hkk:[k].contains (Ad c i)=false:=by rw[<- hk];simp;exact h1
   rw[hkk,if_neg (by simp),List.append_nil]at ih
   simp(disch:=omega) [tC,A9,Ah,Ap,B8,Ab,h2,Bj,hget,E3,h1,A6]
   rw[hK]
   simpa[tC,A9,Ah,Ap,B8]using ih
theorem q7k (c:Bg) (hc:COk c) (k:Int):A7 Tryz.prog Γ 51 [.agg (tC c),tK k] (tI (Rl [k] c.nodes.l 0).length):=by
 refine Ac q6L rfl ?_
 have g:=fun Q h0=>q7j (Γ:=Γ) (Q:=Q) c hc k h0 c.nodes.l.length 0 (by omega)
 simp[q1z,tC,A9,Ah,Ap,B8]
 refine g _ ?_
 simp[q20,Ar]
def Up (l:List Int) (n:Nat) (most:Int):List Int:=(List.range' 0 n).map fun i=>if l=[]then 2 else(l.getD (i % l.length) 0).tmod most
theorem q0X {l:List Int} {n:Nat} {most:Int}:(Up l n most).length=n:=by simp[Up]
theorem q3o {Q:AX->St->Prop} (l:Sl Int) (n:Nat) (hn:n<=1000000000) (most:Int) (hm:0<most) (R:List Int)
  (h0:Q (.exit 0) ⟨[(0,.t (tV l)),(1,.t (tI n)),(2,.t (tK most)),(7,.ls 19 0 n none),(8,.t (tI n)),(11,.t (tB false))],[(19,.sl 65 1 (B7 R))]⟩):∀ (k i:Nat) (out:List Int),k+i=n->out.length=i->out++(List.range' i k).map (fun i=>if l.l=[]then 2 else(l.l.getD (i % l.l.length) 0).tmod most)=R ->
  run Tryz.prog Γ Qa Q ⟨[(0,.t (tV l)),(1,.t (tI n)),(2,.t (tK most)),(7,.ls 19 0 i none),(8,.t (tI i))],[(19,.sl 65 1 (B7 out))]⟩
 | 0,i,out,h,hi,hR=>by
  refine Xc fun K hK=>?_
  have h2:i=n:=by omega
  subst h2
  simp only[List.range'_zero,xq3,List.append_nil]at hR
  subst hR
  simp
  exact h0
 | k+1,i,out,h,hi,hR=>by
  refine Xc fun K hK=>?_
  have h2:i<n:=by omega
  rw[List.range'_succ,xqm]at hR
  have vt:(B7 out).take i=B7 out:=by rw[<- hi];exact E5
  by_cases h1:l.l=[]
  ·have ih:=q3o l n hn most hm R h0 k (i+1) (out++[2]) (by omega) (by simp[hi]) (by rw[<- hR];simp[h1])
   have vs:=W8 (l:=out) (v:=2)
   simp(disch:=omega) [h2,tV,A5,h1,A6,vt,vs,hi]
   refine⟨by omega,?_⟩
   rw[hK]
   simpa[tV,h1]using ih
  ·have hpos:0<l.l.length:=xza.2 h1
   have hlt:i % l.l.length<l.l.length:=Nat.mod_lt _ hpos
   have hmod:(i:Int).tmod (l.l.length:Int)=((i % l.l.length:Nat):Int):=by rw[Int.natCast_emod];exact Int.tmod_eq_emod_of_nonneg (by omega)
   rw[if_neg h1]at hR
   have e:=ge1 (f:=tK) hlt
   generalize hj:i % l.l.length=j at *
   generalize l.l.getD j 0=v at *
   have ih:=q3o l n hn most hm R h0 k (i+1) (out++[v.tmod most]) (by omega) (by simp[hi]) (by rw[<- hR];simp)
   have vs:=W8 (l:=out) (v:=v.tmod most)
   have hne:¬ (l.l.length:Int)=0:=by omega
   have hm0:¬ most=0:=by omega
   simp(disch:=omega) [h2,tV,A5,Aa,h1,hne,hm0,hmod,hlt,e,A6,vt,vs,hi,-Int.natCast_emod]
   refine⟨by omega,?_⟩
   rw[hK]
   simpa[tV]using ih
theorem qDI (l:Sl Int) (n:Nat) (hn:n<=1000000000) (most:Int) (hm:0<most):Bf Tryz.prog Γ 50 [] [.t (tV l),.t (tI n),.t (tK most)] (.ls 19 0 n none) [(19,.sl 65 1 (B7 (Up l.l n most)))]:=by
 refine Ee q6K rfl ?_
 have g:=fun Q h0=>q3o (Γ:=Γ) (Q:=Q) l n hn most hm (Up l.l n most) h0 n 0 [] (by omega) rfl (by simp[Up])
 simp[q1w]
 refine g _ ?_
 simp[q1x]
def chV (v:Int):Int:=if v=0 then 48 else if v=1 then 49 else if v=2 then 88 else 90
def qDJ (l:List Int):List UInt8:=l.map fun v=>UInt8.ofNat (chV (Ft v)).toNat
theorem q9E {Q:AX->St->Prop} (l:Sl Int) (hl:l.l.length<=1000000000) (hv:∀ v∈l.l,0<=v) (R:List Int)
  (h0:Q (.exit 0) ⟨[(3,.ls 8 0 l.l.length none),(9,.t (tV l)),(10,.t (tI l.l.length)),(11,.t (tI l.l.length)),(12,.t (tB false))],[(8,.sl 5 1 (B7 R))]⟩):∀ (k i:Nat),k+i=l.l.length->R=l.l.map (fun v=>chV (Ft v)) ->
  run Tryz.prog Γ Sv Q ⟨[(3,.ls 8 0 l.l.length none),(9,.t (tV l)),(10,.t (tI l.l.length)),(11,.t (tI i))],[(8,.sl 5 1 (B7 (R.take i++List.replicate (l.l.length-i) 0)))]⟩
 | 0,i,h,hR=>by
  refine Yb fun K hK=>?_
  have h2:i=l.l.length:=by omega
  have h3:R.length=l.l.length:=by rw[hR];simp
  subst h2
  rw[<- h3,xzn,h3,xjb,List.replicate_zero,List.append_nil]
  simp
  exact h0
 | k+1,i,h,hR=>by
  refine Yb fun K hK=>?_
  have h2:i<l.l.length:=by omega
  have h3:R.length=l.l.length:=by rw[hR];simp
  have ih:=q9E l hl hv R h0 k (i+1) (by omega) hR
  have e1:=ge1 (f:=tK) h2
  have hv0:=hv (l.l.getD i 0) (by rw[Bn h2];exact xqj h2)
  have hRi:R.getD i 0=chV (Ft (l.l.getD i 0)):=by rw[hR,Bn h2];simp[xqe,h2]
  have hset:∀ v,v=R.getD i 0->(B7 (R.take i++List.replicate (l.l.length-i) 0)).set i [tK v]=B7 (R.take (i+1)++List.replicate (l.l.length-(i+1)) 0):=by
   rintro v rfl
   show(An tK _).set i [tK _]=An tK _
   rw[I8]
   congr 1
   have e:l.l.length-i=(l.l.length-(i+1))+1:=by omega
   have ht:(R.take i).length=i:=by rw[xzf];omega
   have hri:i<R.length:=by omega
   have hta:R.take (i+1)=R.take i++[R.getD i 0]:=by rw[xz7,xqg hri,Bn hri];rfl
   rw[e,List.replicate_succ,List.set_append,if_neg (by rw[ht];omega),ht,xjb,hta]
   simp
  have hlen:(B7 (R.take i++List.replicate (l.l.length-i) 0)).length=l.l.length:=by rw[A5];simp;omega
  generalize B7 (R.take i++List.replicate (l.l.length-i) 0)=E at *
  generalize l.l.getD i 0=v at *
  have hc4:Ft v=0\/Ft v=1\/Ft v=2\/Ft v=3:=by unfold Ft;split<;>omega
  simp(disch:=omega) [h2,tV,A5,Aa,e1,A6]
  refine A4 (q3j v) rfl ?_
  have hch:(ByteArray.mk #[48,49,88,90]).size=4:=rfl
  have hb:∀ q:Int,Ft v=q->(0<=q/\q<4):=fun q hq=>by omega
  generalize Ft v=w at *
  have hval:((([48,49,88,90]:List UInt8)[w.toNat]?.getD 0).toNat:Int)=chV w:=by
   rcases hc4 with rfl|rfl|rfl|rfl<;>rfl
  have hw:=hb w rfl
  have hs:=hset _ (hval.trans hRi.symm)
  simp(disch:=omega) [h2,hlen,hs,A6,sV,hch,hw]
  rw[hK]
  simpa[tV]using ih
theorem q7l:∀ (l:List Int),(∀ v∈l,0<=v/\v<256)->Ns (B7 l)=some (l.map fun v=>UInt8.ofNat v.toNat)
 | [],_=>rfl
 | v::l,h=>by
  have ih:=q7l l fun u hu=>h u (xqf _ hu)
  have hv:=h v xqh
  show(Ns (B7 l)).map _=_
  rw[ih];rfl
theorem qEM (l:Sl Int) (hl:l.l.length<=1000000000) (hv:∀ v∈l.l,0<=v):A7 Tryz.prog Γ 53 [tV l] (tS (qDJ l.l)):=by
 refine Ac q7i rfl ?_
 have g:=fun Q h0=>q9E (Γ:=Γ) (Q:=Q) l hl hv (l.l.map fun v=>chV (Ft v)) h0 l.l.length 0 (by omega) rfl
 have hz:List.replicate l.l.length [T.v (Value.int .u8 0)]=B7 (([]:List Int)++List.replicate (l.l.length-0) 0):=by simp[An]
 have hlen:(l.l.map fun v=>chV (Ft v)).length=l.l.length:=by simp
 have hR:Ns (B7 (l.l.map fun v=>chV (Ft v)))=some (qDJ l.l):=by
  rw[q7l]
  ·simp[qDJ]
  ·intro v hv'
   obtain⟨u,_,rfl⟩:=xqy.1 hv'
   unfold chV;split;omega;split;omega;split<;>omega
 have htk:(B7 (l.l.map fun v=>chV (Ft v))).take l.l.length=B7 (l.l.map fun v=>chV (Ft v)):=by rw[<- hlen];exact E5
 rw[List.take_zero]at g
 generalize B7 (l.l.map fun v=>chV (Ft v))=E at *
 simp(disch:=omega) [q30,tV,A5,A6]
 refine⟨by omega,?_⟩
 rw[hz]
 refine g _ ?_
 simp[q31,Ar,htk,hR,tS,sV]
theorem Dt {s:Nat} {e:List T} {l:List (List T)}:Es s (e::l)=(e.length=s/\Es s l):=propext ⟨fun h=>⟨h e xqh,fun x hx=>h x (xqf _ hx)⟩,fun⟨h1,h2⟩ x hx=>by rcases xqv.1 hx with rfl|hx;exact h1;exact h2 x hx⟩
structure PD where
 i:Sl Int
 s:Sl Int
def tPD (q:PD):List T:=[tV q.i,tV q.s]
def qEN (q:PD):Prop:=(∀ v∈q.i.l,Byt v)/\∀ v∈q.s.l,Byt v
def qHM (q:PD) (c:Bg):List Int:=Up q.i.l (Be c).length 4
def qHN (q:PD) (c:Bg):List Int:=Up q.s.l (Ba c).length 3
def M7 (q:PD) (c:Bg):Pat:=⟨⟨qHM q c,none,none⟩,⟨qHN q c,none,none⟩⟩
def U2 (b:UInt8):Int:=if b=48 then 0 else if b=49 then 1 else if b=88 then 2 else 3
def Uf:Bg:=⟨⟨[⟨0,⟨[],some 0,some true⟩,0,0⟩,⟨14,⟨[3],some 1,some false⟩,0,0⟩,⟨4,⟨[0],some 1,some false⟩,0,0⟩,⟨5,⟨[1,2],some 2,some false⟩,0,0⟩,⟨12,⟨[0,2],some 2,some false⟩,0,0⟩,⟨13,⟨[4],some 1,some false⟩,0,0⟩],some 6,some false⟩,
 ⟨[[97],[113],[110],[103],[116],[98]],some 6,some false⟩,⟨[],some 0,some true⟩,⟨[3,5],some 2,some false⟩⟩
theorem qMR:COk Uf:=by
 refine⟨⟨by decide,by decide,by decide,by decide,?_,?_,?_⟩,?_⟩
 ·intro x hx;simp[Uf]at hx;rcases hx with rfl|rfl|rfl|rfl|rfl|rfl<;>simp
 ·intro x hx;simp[Uf]at hx;rcases hx with rfl|rfl|rfl|rfl|rfl|rfl<;>simp
 ·intro m hm;simp[Uf]at hm
 ·intro s hs b hb;simp[Uf]at hs;rcases hs with rfl|rfl|rfl|rfl|rfl|rfl<;>simp at hb<;>subst hb<;>decide
theorem qLR:D3 Uf=0:=by decide +kernel
def v1 (v:Int):Sl Int:=⟨[v],none,none⟩
end Go.Lg
namespace Go.Lg
open Go Go.Proofs Go.Proofs.YtafhjckfgmcphaaGreatDoor
theorem qHO:Tryz.prog.cellsOf 29=2:=by kernel_rfl
theorem qDK:Rd Tryz.prog 25 fun ts=>∃ s:Sl Int,ts=[tV s]/\∀ b∈s.l,Byt b:=by
 refine(q7B Tryz.underlying25 q1c (by decide) qAm).mono fun ts ⟨es,cap,nl,h,_,hes⟩=>?_
 obtain⟨l,rfl,hl⟩:=q6Y (f:=fun n:Int=>[tK n]) (Q:=Byt) fun x hx=>(hes x hx).1
 exact⟨⟨l,cap,nl⟩,h,hl⟩
theorem qMS:Rd Tryz.prog 29 fun ts=>∃ q,ts=tPD q/\qEN q:=by
 refine(q5D (l:=[(1,fun ts=>∃ s:Sl Int,ts=[tV s]/\∀ b∈s.l,Byt b),(1,fun ts=>∃ s:Sl Int,ts=[tV s]/\∀ b∈s.l,Byt b)]) Tryz.underlying29 qHO
  (.cons rfl q9k qDK (.cons rfl q9k qDK (.nil _)))).mono fun ts h=>?_
 obtain⟨_,_,rfl,⟨a,rfl,ha⟩,_,_,rfl,⟨b,rfl,hb⟩,rfl⟩:=h
 exact⟨⟨a,b⟩,rfl,ha,hb⟩
end Go.Lg
namespace Go.Proofs.YtafhjckfgmcphaaGreatDoor
open Go Go.Lg Go.ChangeShapes Go.WideShapes Go.ChangeAt Go.RowKit
theorem qMF {H:Type} {enc:TypeId×Value->H} {W:World} {base:Nat} {v:Value} {d:DataW H} {p:List MemPlace} (hval:Value.okWide Tryz.prog W .any base 29 v) (h:DataW.Trod enc Tryz.prog W 0 (fun _=>true) true 29 v d p):∃ q,qEN q/\TR W (Old W) (.agg (tPD q)) v:=by
 simp only[Value.okWide,Tryz.underlying29]at hval
 obtain⟨cs,rfl,_,_⟩:=hval
 obtain⟨fuel,hf⟩:=h
 obtain⟨ts,⟨x,rfl,hx⟩,htr,ho⟩:=qMS H enc W true fuel _ _ hf
 exact⟨x,hx,qFD htr ho⟩
end Go.Proofs.YtafhjckfgmcphaaGreatDoor
namespace Go.Lg
open Go
section
variable {P:Program} {Γ:Tables} {Q:AX->St->Prop} {s:St}
/- (*probecard/events.wave).set (function 44) -/
abbrev Xf:IC:=.gh (.seq (.reg [od 52 (.bin .lss (tm 51) (tm 50))] [.keepE [0,49,50,51,52]]) (.seq (.cond (tm 52) .skip (.exit 0)) (.seq (.block 1 (.seq (.reg [od 53 (ia 1 49 51),od 54 (ld 1 53),om 7 54] [.keepE [0,7,49,50,51]]) (.seq
 (.reg [om 55 0,od 56 (.nck (tm 55)),od 57 (fa 2 56),od 58 (ld 1 57),om 59 7,od 60 (ia 1 58 59),od 61 (ld 1 60),od 62 (.un .not (tm 61))] [.keepE [0,7,49,50,51,62]]) (.cond (tm 62) (.seq (.reg [om 63 0,od 64 (.nck (tm
 63)),od 65 (fa 2 64),od 66 (ld 1 65),om 67 7,od 68 (ia 1 66 67),on (.store 1 (tm 68) kT)] [.keepE [0,7,49,50,51]]) (.ghW (.reg [od 69 (.mvP (tm 0)),od 70 (.nckP (tm 69)),od 71 (.fadP 1 (tm 70)),od 72 (.ldP 1 (tm 71)),
 od 73 (.mvP (tm 0)),od 74 (.nckP (tm 73)),od 75 (.fadP 0 (tm 74)),od 76 (.ldP 1 (tm 75)),od 77 (.nckP (tm 76)),od 78 (.fadP 6 (tm 77)),od 79 (.ldP 1 (tm 78)),od 80 (.mvP (tm 7)),od 81 (.iadT 1 (tm 79) (tm 80)),od 82 (.ldT
 1 false (tm 81)),om 83 0,od 84 (.nck (tm 83)),od 85 (fa 1 84),od 86 (ld 1 85),om 87 0,od 88 (.nck (tm 87)),od 89 (fa 0 88),od 90 (ld 1 89),od 91 (.nck (tm 90)),od 92 (fa 6 91),od 93 (ld 1 92),om 94 7,od 95 (ia 1 93
 94),od 96 (ld 1 95),od 97 (.lkupA (.int .i64) (.slice none 0 0) (tm 86) (tm 96)),om 98 7,od 99 (.bsl true 3 1 [(tm 98)]),od 100 (.app false 3 1 (tm 97) (tm 99)),on (.mupA (.int .i64) (tm 72) (tm 82) (tm 100))] [.keepE [0,49,
 50,51]]))) .skip)))) (.reg [od 101 (.bin .add (tm 51) (ki 1)),om 51 101] [.keepE [0,49,50,51]])))) [.keepE [0,49,50,51]]
def J5:IC:=.loop Xf
abbrev Oc:IC:=(.seq (.seq (.reg [om 8 0,od 9 (.nck (tm 8)),od 10 (fa 0 9),od 11 (ld 1 10),od 12 (.nck (tm 11)),od 13 (fa 8 12),od 14 (ld 1 13),om 15 1,od 16 (ia 1 14 15),od 17 (ld 1 16),om 18 2,od 19 (.bin .eql (tm 17) (tm 18))]
 [.keepE [0,1,2,19]]) (.cond (tm 19) .ret .skip)) (.seq (.reg [om 20 0,od 21 (.nck (tm 20)),od 22 (fa 0 21),od 23 (ld 1 22),od 24 (.nck (tm 23)),od 25 (fa 8 24),od 26 (ld 1 25),om 27 1,om 28 2,od 29 (ia 1 26 27),on
 (.store 1 (tm 29) (tm 28))] [.keepE [0,1]]) (.seq (.ghW (.reg [om 30 0,om 31 0,od 32 (.nck (tm 31)),od 33 (fa 3 32),od 34 (ld 1 33),om 35 1,od 36 (.bsl true 3 1 [(tm 35)]),od 37 (.app false 3 1 (tm 34) (tm 36)),od 38 (.nck
 (tm 30)),od 39 (fa 3 38),on (.store 1 (tm 39) (tm 37))] [.keepE [0,1]])) (.seq (.reg [om 40 0,od 41 (.nck (tm 40)),od 42 (fa 0 41),od 43 (ld 1 42),od 44 (.nck (tm 43)),od 45 (fa 7 44),od 46 (ld 1 45),om 47 1,od 48 (ia 1
 46 47),od 49 (ld 1 48),od 50 (le 0 49),od 51 (.mv (ki 0))] [.keepE [0,49,50,51]]) (.block 0 J5)))))
theorem Qd (h:∀ K:St->Prop,K=run P Γ J5 Q->run P Γ Xf (B0 K Q) s):run P Γ J5 Q s:=Am h
def J6:List RV:=[]
/- (*probecard/events.wave).eval (function 47) -/
abbrev Vb:IC:=.gh (.seq (.reg [od 31 (.bin .lss (tm 30) (tm 29))] [.keepE [0,1,4,28,29,30,31]]) (.seq (.cond (tm 31) .skip (.exit 0)) (.seq (.block 1 (.seq (.reg [od 32 (ia 1 28 30),od 33 (ld 1 32),om 6 33] [.keepE [0,1,4,6,28,29,
 30]]) (.reg [om 34 4,om 35 0,od 36 (.nck (tm 35)),od 37 (fa 0 36),od 38 (ld 1 37),od 39 (.nck (tm 38)),od 40 (fa 8 39),od 41 (ld 1 40),om 42 6,od 43 (ia 1 41 42),od 44 (ld 1 43),od 45 (.bsl true 65 1 [(tm 44)]),od 46
 (.app false 65 1 (tm 34) (tm 45)),om 4 46] [.keepE [0,1,4,28,29,30]]))) (.reg [od 47 (.bin .add (tm 30) (ki 1)),om 30 47] [.keepE [0,1,4,28,29,30]])))) [.keepE [0,1,4,28,29,30]]
def Hw:IC:=.loop Vb
abbrev Vd:IC:=(.seq (.reg [om 7 0,od 8 (.nck (tm 7)),od 9 (fa 0 8),od 10 (ld 1 9),od 11 (.nck (tm 10)),od 12 (fa 9 11),od 13 (ld 1 12),od 14 (.bin .add (tm 13) (ki 1)),od 15 (.nck (tm 10)),od 16 (fa 9 15),on (.store 1 (tm 16) (tm 14))]
 [.keepE [0,1]]) (.seq (.reg [od 4 (.mv kN)] [.nl 4 46 65 1,.keepE [0,1,4]]) (.seq (.seq (.reg [om 17 0,od 18 (.nck (tm 17)),od 19 (fa 0 18),od 20 (ld 1 19),od 21 (.nck (tm 20)),od 22 (fa 0 21),od 23 (fa 0 22),od 24 (ld 1
 23),om 25 1,od 26 (ia 4 24 25),od 27 (fa 1 26),od 28 (ld 1 27),od 29 (le 0 28),od 30 (.mv (ki 0))] [.keepE [0,1,4,28,29,30]]) (.block 0 Hw)) (.ghW (.reg [om 48 0,om 49 1,om 50 0,od 51 (.nck (tm 50)),
 od 52 (fa 0 51),od 53 (ld 1 52),od 54 (.nck (tm 53)),od 55 (fa 0 54),od 56 (fa 0 55),od 57 (ld 1 56),om 58 1,od 59 (ia 4 57 58),od 60 (fa 0 59),od 61 (ld 1 60),om 62 4,od 63 (.call 64 [(tm 61),(tm 62)]),od 64 (.hcallW
 44 [(tm 48),(tm 49),(tm 63)] 0)] [.keepE []])))))
theorem P1 (h:∀ K:St->Prop,K=run P Γ Hw Q->run P Γ Vb (B0 K Q) s):run P Γ Hw Q s:=Am h
def Ve:List RV:=[]
/- probecard/events.each (function 46) -/
abbrev q25:IC:=.gh (.seq (.reg [od 9 (.bin .lss (tm 8) (tm 7))] [.keepE [1,6,7,8,9]]) (.seq (.cond (tm 9) .skip (.exit 0)) (.seq (.block 1 (.seq (.reg [od 10 (ia 1 6 8),od 11 (ld 1 10),om 5 11] [.keepE [1,5,6,7,8]]) (.ghW (.reg [om 12
 1,om 13 5,od 14 (.hcallB (tm 12) [(tm 13)] 0)] [.keepE [1,6,7,8]])))) (.reg [od 15 (.bin .add (tm 8) (ki 1)),om 8 15] [.keepE [1,6,7,8]])))) [.keepE [1,6,7,8]]
def Qe:IC:=.loop q25
abbrev q26:IC:=(.seq (.reg [om 6 0,od 7 (le 0 6),od 8 (.mv (ki 0))] [.keepE [1,6,7,8]]) (.block 0 Qe))
theorem Xg (h:∀ K:St->Prop,K=run P Γ Qe Q->run P Γ q25 (B0 K Q) s):run P Γ Qe Q s:=Am h
def q27:List RV:=[]
/- (*probecard/events.Sim).Apply (function 12) -/
abbrev Vf:IC:=.gh (.seq (.reg [od 70 (.bin .lss (tm 69) (tm 68))] [.keepE [0,3,7,67,68,69,70]]) (.seq (.cond (tm 70) .skip (.exit 1)) (.seq (.block 2 (.seq (.reg [om 71 69,od 72 (ia 1 67 69),od 73 (ld 1 72),om 8 71,om 9 73] [.keepE [0,
 3,7,8,9,67,68,69]]) (.ghW (.reg [om 74 7,om 75 9,od 76 (fa 0 3),od 77 (ld 1 76),om 78 8,od 79 (ia 1 77 78),od 80 (ld 1 79),od 81 (.hcallW 44 [(tm 74),(tm 75),(tm 80)] 0)] [.keepE [0,3,7,67,68,69]])))) (.reg [od
 82 (.bin .add (tm 69) (ki 1)),om 69 82] [.keepE [0,3,7,67,68,69]])))) [.keepE [0,3,7,67,68,69]]
def Hy:IC:=.loop Vf
abbrev Vg:IC:=.gh (.seq (.reg [od 89 (.bin .lss (tm 88) (tm 87))] [.keepE [3,7,86,87,88,89]]) (.seq (.cond (tm 89) .skip (.exit 3)) (.seq (.block 4 (.seq (.reg [om 90 88,od 91 (ia 1 86 88),od 92 (ld 1 91),om 10 90,om 11 92] [.keepE [3,
 7,10,11,86,87,88]]) (.ghW (.reg [om 93 7,om 94 11,od 95 (fa 1 3),od 96 (ld 1 95),om 97 10,od 98 (ia 1 96 97),od 99 (ld 1 98),od 100 (.hcallW 44 [(tm 93),(tm 94),(tm 99)] 0)] [.keepE [3,7,86,87,88]])))) (.reg [od
 101 (.bin .add (tm 88) (ki 1)),om 88 101] [.keepE [3,7,86,87,88]])))) [.keepE [3,7,86,87,88]]
def Hz:IC:=.loop Vg
abbrev Vh:IC:=.gh (.seq (.seq (.reg [om 102 7,od 103 (.nck (tm 102)),od 104 (fa 1 103),od 105 (ld 1 104),od 106 (le 2 105),od 107 (.bin .gtr (tm 106) (ki 0))] [.keepE [7,107]]) (.cond (tm 107) .skip (.exit 5))) (.block 6 (.seq (.ghW (.reg
 [om 108 7,od 109 (.hcallW 45 [(tm 108)] 0),om 12 109] [.keepE [7,12]])) (.seq (.reg [om 110 7,od 111 (.nck (tm 110)),od 112 (fa 1 111),od 113 (ld 1 112),om 114 12,od 115 (.lkupA (.int .i64) (.slice none 0 0) (tm 113) (tm
 114)),om 13 115] [.keepE [7,12,13]]) (.seq (.ghW (.reg [om 116 7,od 117 (.nck (tm 116)),od 118 (fa 1 117),od 119 (ld 1 118),om 120 12,on (.mdel (.int .i64) (tm 119) (tm 120))] [.keepE [7,13]])) (.ghW (.reg [om 121 13,om
 122 7,od 123 (.mkfB 47 [(tm 122)]),od 124 (.hcallW 46 [(tm 121),(tm 123)] 100000)] [.keepE [7]]))))))) [.keepE [7]]
def I3:IC:=.loop Vh
abbrev Fo:IC:=(.seq (.reg [od 3 (.box true (tm 1)),od 4 (.mv kN),od 5 (.mv (ki 0))] [.keepE [0,3]]) (.seq (.seq (.reg [om 14 0,od 15 (.isNilP true (tm 14))] [.keepE [0,3,15]]) (.cond (tm 15) (.reg [od 16 (.build [(4,(.const (.agg
 #[(.slice none 0 0),(.slice none 0 0),(.slice none 0 0),(.slice none 0 0)]))),(1,kN),(1,kN),(1,kN),(1,kN),(1,kN),(1,(ki 0))]),od 17 (.box false (tm 16)),om 0 17] [.keepE [0,3]]) .skip)) (.seq (.reg [od 6 (.mv
 (.func 42))] [.keepE [0,3,6]]) (.seq (.block 0 (.seq (.reg [od 19 (fa 0 3),od 20 (ld 1 19),od 21 (le 0 20),om 22 0,od 23 (.nck (tm 22)),od 24 (fa 4 23),od 25 (ld 1 24),od 26 (le 0 25),od 27 (.bin .neq (tm 21) (tm 26)),om
 28 27,oF 29 (fa 1 3) 28,oF 30 (ld 1 29) 28,oF 31 (le 0 30) 28,oF 32 (.mv (tm 0)) 28,oF 33 (.nck (tm 32)) 28,oF 34 (fa 5 33) 28,oF 35 (ld 1 34) 28,oF 36 (le 0 35) 28,oF 37 (.bin .neq (tm 31) (tm 36)) 28,od 38 (.pick (tm
 28) kT (tm 37)),om 18 38] [.keepE [0,3,6,18]]) (.cond (tm 18) (.seq (.reg [od 4 (.mv kN),od 5 (.mv (ki 8))] [.keepE [4,5]]) .ret) (.seq (.reg [od 40 (fa 0 3),od 41 (ld 1 40),om 42 6,od 43 (.call 43 [(tm 41),(tm 42)]),om
 44 43,oF 45 (fa 1 3) 44,oF 46 (ld 1 45) 44,oF 47 (.mv (tm 6)) 44,oF 48 (.call 43 [(tm 46),(tm 47)]) 44,od 49 (.pick (tm 44) kT (tm 48)),om 39 49] [.keepE [0,3,39]]) (.cond (tm 39) (.seq (.reg [od 4 (.mv kN),od 5 (.mv (ki
 1))] [.keepE [4,5]]) .ret) .skip))))) (.seq (.ghW (.reg [om 50 0,od 51 (.mkmap),om 52 0,od 53 (.nck (tm 52)),od 54 (fa 0 53),od 55 (fa 0 54),od 56 (ld 1 55),od 57 (le 0 56),od 58 (.mk 4 1 [(.bool false)] (tm 57) (tm 57)),
 od 59 (.build [(1,(tm 50)),(1,(tm 51)),(1,(tm 58)),(1,kN)]),od 60 (.box false (tm 59)),om 7 60] [.toM 51,.nlb 60 3 800999 3 1,.keepE [0,3,7]])) (.seq (.reg [om 61 0,od 62 (.nck (tm 61)),od 63 (fa 9 62),on (.store 1
 (tm 63) (ki 0))] [.keepE [0,3,7]]) (.seq (.seq (.reg [om 64 0,od 65 (.nck (tm 64)),od 66 (fa 4 65),od 67 (ld 1 66),od 68 (le 0 67),od 69 (.mv (ki 0))] [.keepE [0,3,7,67,68,69]]) (.block 1 Hy)) (.seq
 (.seq (.reg [om 83 0,od 84 (.nck (tm 83)),od 85 (fa 5 84),od 86 (ld 1 85),od 87 (le 0 86),od 88 (.mv (ki 0))] [.keepE [3,7,86,87,88]]) (.block 3 Hz)) (.seq (.block 5 I3) (.seq (.reg [om
 125 7,od 126 (.nck (tm 125)),od 127 (fa 3 126),od 128 (ld 1 127),od 129 (.hcallW 48 [(tm 128)] 0)] [.keepE [7]]) (.seq (.reg [om 130 7,od 131 (.nck (tm 130)),od 132 (fa 3 131),od 133 (ld 1 132),od 134 (.hcallW 49 [(tm 133)]
 0),om 4 134,od 5 (.mv (ki 0))] [.frz 800999,.drop [60,58,51],.keepE [4,5]]) .ret)))))))))))
theorem P2 (h:∀ K:St->Prop,K=run P Γ Hy Q->run P Γ Vf (B0 K Q) s):run P Γ Hy Q s:=Am h
theorem P3 (h:∀ K:St->Prop,K=run P Γ Hz Q->run P Γ Vg (B0 K Q) s):run P Γ Hz Q s:=Am h
theorem P4 (h:∀ K:St->Prop,K=run P Γ I3 Q->run P Γ Vh (B0 K Q) s):run P Γ I3 Q s:=Am h
def Eg:List RV:=[.tmp 4,.tmp 5]
/- (*probecard/events.Sim).Apply$1 (function 42) -/
abbrev Qu:IC:=(.seq (.reg [od 2 (.mv kF)] [kp [0] []]) (.seq (.reg [om 3 0,od 4 (.bin .gtr (tm 3) (ku 3)),om 2 4] [kp [2] []]) .ret))
def Qv:List RV:=[.tmp 2]
/- (*probecard/events.Sim).Values (function 18) -/
abbrev U3:IC:=(.seq (.reg [od 2 (.mv kN)] [kp [0] [1000000,1000001]]) (.seq (.seq (.reg [om 3 0,od 4 (.isNilP true (tm 3))] [kp [0,4] [1000000,1000001]]) (.cond (tm 4) (.seq (.reg [od 2 (.mv kN)] [kp [2] [1000000,1000001]]) .ret) .skip))
 (.seq (.reg [om 5 0,od 6 (.nck (tm 5)),od 7 (fa 8 6),od 8 (ld 1 7),od 9 (.call 58 [(tm 8)]),od 10 (.call 57 [(tm 9)]),om 2 10] [kp [2] [1000000,1000001]]) .ret)))
def U4:List RV:=[.tmp 2]
/- (*probecard/events.Sim).Response (function 23) -/
abbrev N9:IC:=(.seq (.reg [od 2 (.mv (ki 0))] [kp [0] [1000000,1000001]]) (.seq (.seq (.reg [om 3 0,od 4 (.isNilP true (tm 3))] [kp [0,4] [1000000,1000001]]) (.cond (tm 4) (.seq (.reg [od 2 (.mv (ki 0))] [kp [2] [1000000,1000001]]) .ret)
 .skip)) (.seq (.reg [om 5 0,od 6 (.nck (tm 5)),od 7 (fa 9 6),od 8 (ld 1 7),om 2 8] [kp [2] [1000000,1000001]]) .ret)))
def Na:List RV:=[.tmp 2]
end
end Go.Lg
namespace Go.Lg
open Go Go.Proofs
theorem q2d:Bc Tryz.prog 44 Oc 102 3 J6=true:=by kernel_rfl
theorem q28:Bc Tryz.prog 47 Vd 65 2 Ve=true:=by kernel_rfl
theorem q6N:Bc Tryz.prog 46 q26 16 2 q27=true:=by kernel_rfl
theorem U5:Bc Tryz.prog 12 Fo 135 2 Eg=true:=by kernel_rfl
theorem q0Y:Bc Tryz.prog 42 Qu 5 1 Qv=true:=by kernel_rfl
theorem q15:Bc Tryz.prog 18 U3 11 1 U4=true:=by kernel_rfl
theorem U6:Bc Tryz.prog 15 N9 9 1 Na=true:=by kernel_rfl
end Go.Lg
namespace Go.Lg
open Go Go.Proofs
variable {Γ:Tables}
structure C5 where
 c:Bg
 inp:Sl Int
 sts:Sl Int
 lev:Sl Int
 rdr:Sl (Sl Int)
def qFg (s:Sl (Sl Int)):T:=.sl (An B8 s.l) s.cap s.nl
structure WS where
 nets:List Int
 q:List Bool
 ch:List Int
 wl:List (Nat×List Int)
 ev:Int
def Ax (D:C5) (nid n:Nat) (ev:Int):List AV :=
 [.t (A9 D.c.nodes),.t (Ah D.c.names),.t (Ap D.c.mems),.t (B8 D.c.outs),.t (B8 D.inp),.t (B8 D.sts),.t (B8 D.lev),.t (qFg D.rdr),.ls nid 0 n (some n),.t (tI ev)]
def Eo (ν:Nat->Nat) (wl:List (Nat×List Int)):List (Value×AV):=wl.map fun p=>(.int .i64 p.1,.ls (ν p.1) 0 p.2.length none)
def Rx (lv:Nat) (k:Int):List (Nat×List Int)->List (Nat×List Int)
 | []=>[(lv,[k])]
 | (m,l)::w=>if m=lv then(m,l++[k])::w else(m,l)::Rx lv k w
def Kr (lv:Nat):List (Nat×List Int)->List (Nat×List Int)
 | []=>[]
 | (m,l)::w=>if m=lv then w else(m,l)::Kr lv w
def Ug (ν:Nat->Nat) (W:WS):List (Nat×Aw):=(ν 999,.sl 3 1 (Av W.ch))::W.wl.map fun p=>(ν p.1,.sl 3 1 (Av p.2))
structure q5R (ν:Nat->Nat):Prop where
 inj:∀ u v,u<1000->v<1000->ν u=ν v->u=v
 rg:∀ u,u<1000->(800000<=ν u/\ν u<1000000)\/(1000005<=ν u/\ν u<1001005)
structure U7 (wl:List (Nat×List Int)):Prop where
 lt:∀ p∈wl,p.1<999
 nd:(wl.map (·.1)).Nodup
theorem q5S (a b:Nat):Ku (.int .i64 (a:Int)) (.int .i64 (b:Int))=decide (a=b):=by
 simp[Ku];omega
theorem q7m {ν:Nat->Nat} {lv:Nat}:∀ {wl:List (Nat×List Int)},Ph (.int .i64 (lv:Int)) (Eo ν wl)=(A0 wl lv).map fun l=>.ls (ν lv) 0 l.length none
 | []=>rfl
 | (m,l)::wl=>by
  have ih:=q7m (ν:=ν) (lv:=lv) (wl:=wl)
  simp only[Eo,xqm,Ph,q5S,A0]at ih ⊢
  by_cases h:lv=m
  ·subst h;simp
  ·have h2:¬ m=lv:=fun e=>h e.symm
   simp only[h,h2,decide_false,xqn,if_false]
   exact ih
theorem q7n {ν:Nat->Nat} {wl:List (Nat×List Int)}:Ja (.int .i64) (Eo ν wl):=fun e he=>by
 obtain⟨p,_,rfl⟩:=xqy.1 he
 rfl
theorem Np {wl:List (Nat×List Int)} {lv:Nat} (h:A0 wl lv=none):∀ p∈wl,p.1≠lv:=by
 induction wl with
 | nil=>intro p hp;cases hp
 | cons q wl ih =>
  obtain⟨m,l⟩:=q
  simp only[A0]at h
  split at h
  ·cases h
  ·rename_i hne
   intro p hp
   rcases xqv.1 hp with rfl|hp
   ·exact hne
   ·exact ih h p hp
theorem qB0 {lv:Nat} {k:Int}:∀ {wl:List (Nat×List Int)} {p:Nat×List Int},p∈Rx lv k wl->p.1=lv\/p∈wl
 | [],p,h=>by simp[Rx]at h;exact .inl (by rw[h])
 | (m,l)::wl,p,h=>by
  simp only[Rx]at h
  split at h
  ·rename_i e
   rcases xqv.1 h with rfl|h
   ·exact .inl e
   ·exact .inr (xqf _ h)
  ·rcases xqv.1 h with rfl|h
   ·exact .inr xqh
   ·exact(qB0 h).imp id (xqf _)
theorem q5T {lv:Nat} {k:Int}:∀ {wl:List (Nat×List Int)},(Rx lv k wl).map (·.1)=if A0 wl lv=none then wl.map (·.1)++[lv]else wl.map (·.1)
 | []=>rfl
 | (m,l)::wl=>by
  have ih:=q5T (lv:=lv) (k:=k) (wl:=wl)
  simp only[Rx,A0]
  split
  ·simp
  ·simp only[xqm,ih]
   split<;>simp
theorem U7.add {lv:Nat} {k:Int} {wl:List (Nat×List Int)} (h:U7 wl) (hl:lv<999):U7 (Rx lv k wl):=by
 refine⟨fun p hp=>?_,?_⟩
 ·rcases qB0 hp with e|hp
  ·rw[e];exact hl
  ·exact h.lt p hp
 ·rw[q5T]
  split
  ·rename_i hn
   rw[List.nodup_append]
   refine⟨h.nd,by simp,fun a ha b hb=>?_⟩
   simp at hb;subst hb
   obtain⟨p,hp,rfl⟩:=xqy.1 ha
   exact Np hn p hp
  ·exact h.nd
theorem P5 {lv t:Nat} {k:Int}:∀ {wl:List (Nat×List Int)},A0 (Rx lv k wl) t=if t=lv then some ((A0 wl lv).getD []++[k])else A0 wl t
 | []=>by
  simp only[Rx,A0,Option.getD_none,List.nil_append]
  by_cases h:t=lv
  ·subst h;simp
  ·have h2:¬ lv=t:=fun e=>h e.symm
   simp[h,h2]
 | (m,l)::wl=>by
  have ih:=P5 (lv:=lv) (t:=t) (k:=k) (wl:=wl)
  simp only[Rx]
  by_cases hm:m=lv
  ·subst hm
   simp only[if_true,A0]
   by_cases ht:t=m
   ·subst ht;simp
   ·have h2:¬ m=t:=fun e=>ht e.symm
    simp[ht,h2]
  ·simp only[if_neg hm,A0,ih]
   by_cases ht:t=lv
   ·subst ht;simp[hm]
   ·simp[ht]
theorem Zo {lv t:Nat}:∀ {wl:List (Nat×List Int)},(wl.map (·.1)).Nodup->A0 (Kr lv wl) t=if t=lv then none else A0 wl t
 | [],_=>by simp[Kr,A0]
 | (m,l)::wl,h=>by
  simp only[xqm,xzj]at h
  have ih:=Zo (lv:=lv) (t:=t) h.2
  simp only[Kr]
  by_cases hm:m=lv
  ·subst hm
   simp only[if_true,A0]
   by_cases ht:t=m
   ·subst ht
    rw[if_pos rfl]
    cases hl:A0 wl t with
    | none=>rfl
    | some x =>
     exfalso
     have hne:A0 wl t≠none:=by rw[hl];simp
     exact h.1 (q45 hne)
   ·have h2:¬ m=t:=fun e=>ht e.symm
    simp[ht,h2]
  ·simp only[if_neg hm,A0,ih]
   by_cases ht:t=lv
   ·subst ht;simp[hm]
   ·simp[ht]
theorem Zp {lv:Nat}:∀ {wl:List (Nat×List Int)} {p:Nat×List Int},p∈Kr lv wl->p∈wl
 | [],p,h=>h
 | (m,l)::wl,p,h=>by
  simp only[Kr]at h
  split at h
  ·exact xqf _ h
  ·rcases xqv.1 h with rfl|h
   ·exact xqh
   ·exact xqf _ (Zp h)
theorem U7.del {lv:Nat} {wl:List (Nat×List Int)} (h:U7 wl):U7 (Kr lv wl):=by
 refine⟨fun p hp=>h.lt p (Zp hp),?_⟩
 have key:∀ wl:List (Nat×List Int),List.Sublist ((Kr lv wl).map (·.1)) (wl.map (·.1)):=by
  intro wl
  induction wl with
  | nil=>exact .slnil
  | cons q wl ih =>
   obtain⟨m,l⟩:=q
   simp only[Kr]
   split
   ·exact List.sublist_cons_self _ _
   ·exact ih.cons_cons _
 exact(key wl).nodup h.nd
theorem qDL {ν:Nat->Nat} {lv:Nat}:∀ {wl:List (Nat×List Int)},q3v (.int .i64 (lv:Int)) (Eo ν wl)=Eo ν (Kr lv wl)
 | []=>rfl
 | (m,l)::wl=>by
  have ih:=qDL (ν:=ν) (lv:=lv) (wl:=wl)
  simp only[Eo,xqm,q3v,q5S,Kr]at ih ⊢
  by_cases h:lv=m
  ·subst h;simp[Eo]
  ·have h2:¬ m=lv:=fun e=>h e.symm
   simp only[h,h2,decide_false,xqn,if_false,xqm,ih]
def Ie (W:WS) (u:Nat):Option (List Int):=if u=999 then some W.ch else A0 W.wl u
theorem Jl {ν:Nat->Nat} {W:WS} (hν:q5R ν) (hw:U7 W.wl) {u:Nat} (hu:u<1000):A0 (Ug ν W) (ν u)=(Ie W u).map fun l=>.sl 3 1 (Av l):=by
 have key:∀ wl:List (Nat×List Int),(∀ p∈wl,p.1<999)->A0 (wl.map fun p=>(ν p.1,Aw.sl 3 1 (Av p.2))) (ν u)=(A0 wl u).map fun l=>.sl 3 1 (Av l):=by
  intro wl
  induction wl with
  | nil=>intro _;rfl
  | cons q wl ih =>
   obtain⟨m,l⟩:=q
   intro h
   simp only[xqm,A0]
   by_cases hm:m=u
   ·subst hm;simp
   ·have h2:¬ ν m=ν u:=fun e=>hm (hν.inj m u (by have:=h (m,l) xqh;simp at this;omega) hu e)
    rw[if_neg h2,if_neg hm]
    exact ih fun p hp=>h p (xqf _ hp)
 simp only[Ug,A0,Ie]
 by_cases hm:u=999
 ·subst hm;simp
 ·have h2:¬ ν 999=ν u:=fun e=>hm (hν.inj 999 u (by omega) hu e).symm
  rw[if_neg h2,if_neg hm]
  exact key W.wl hw.lt
theorem Dj {ν:Nat->Nat} {W:WS} (hw:U7 W.wl) {t:Nat} (ht:∀ u,u<1000->t≠ν u):A0 (Ug ν W) t=none:=by
 have key:∀ wl:List (Nat×List Int),(∀ p∈wl,p.1<999)->A0 (wl.map fun p=>(ν p.1,Aw.sl 3 1 (Av p.2))) t=none:=by
  intro wl
  induction wl with
  | nil=>intro _;rfl
  | cons q wl ih =>
   intro h
   simp only[xqm,A0]
   rw[if_neg (fun e=>ht q.1 (by have:=h q xqh;omega) e.symm)]
   exact ih fun p hp=>h p (xqf _ hp)
 simp only[Ug,A0]
 rw[if_neg (fun e=>ht 999 (by omega) e.symm)]
 exact key W.wl hw.lt
end Go.Lg
namespace Go.Lg
open Go
section
variable {P:Program} {Γ:Tables} {Q:AX->St->Prop} {s:St}
/- probecard/netlists.Copy (function 37) -/
abbrev Zq:IC:=.gh (.seq (.reg [od 25 (.bin .lss (tm 24) (tm 23))] [kp [2,3,22,23,24,25] [2,3,14007]]) (.seq (.cond (tm 25) .skip (.exit 0)) (.seq (.block 1 (.seq (.reg [om 26 24,od 27 (ia 4 22 24),od 28 (lG 4 27),od 5 (.alloc false
 [(.int .u8 0),(.slice none 0 0),(.int .i64 0),(.int .i64 0)]),om 4 26,on (.store 4 (tm 5) (tm 28))] [kp [2,3,4,5,22,23,24] [2,3,5,14007]]) (.reg [od 29 (fa 0 3),od 30 (.ldR 3 1 false (tm 29)),om 31 4,od 32 (fa 1
 5),od 33 (.ldR 5 1 false (tm 32)),od 34 (.callT 101 [(tm 33)]),od 35 (ia 4 30 31),od 36 (fa 1 35),on (.stR 14007 1 (tm 36) (tm 34))] [kp [2,3,22,23,24] [2,3,14007]]))) (.reg [od 37 (.bin .add (tm 24) (ki 1)),om 24 37]
 [kp [2,3,22,23,24] [2,3,14007]])))) [kp [2,3,22,23,24] [2,3,14007]]
def Lx:IC:=.loop Zq
abbrev Zr:IC:=.gh (.seq (.reg [od 42 (.bin .lss (tm 41) (tm 40))] [kp [2,3,39,40,41,42] [2,3,14007]]) (.seq (.cond (tm 42) .skip (.exit 2)) (.seq (.block 3 (.seq (.reg [om 43 41,od 44 (ia 3 39 41),od 45 (lG 3 44),od 7 (.alloc false
 [(.slice none 0 0),(.slice none 0 0),(.int .i64 0)]),om 6 43,on (.store 3 (tm 7) (tm 45))] [kp [2,3,6,7,39,40,41] [2,3,7,14007]]) (.reg [od 46 (fa 2 3),od 47 (.ldR 3 1 false (tm 46)),om 48 6,od 49 (fa 2 3),od 50
 (.ldR 3 1 false (tm 49)),om 51 6,od 52 (fa 0 7),od 53 (.ldR 7 1 false (tm 52)),od 54 (.callT 101 [(tm 53)]),od 55 (fa 1 7),od 56 (.ldR 7 1 false (tm 55)),od 57 (.callT 101 [(tm 56)]),od 58 (ia 3 47 48),od 59 (fa 0 58),on
 (.stR 14007 1 (tm 59) (tm 54)),od 60 (ia 3 50 51),od 61 (fa 1 60),on (.stR 14007 1 (tm 61) (tm 57))] [kp [2,3,39,40,41] [2,3,14007]]))) (.reg [od 62 (.bin .add (tm 41) (ki 1)),om 41 62] [kp [2,3,39,40,41] [2,3,
 14007]])))) [kp [2,3,39,40,41] [2,3,14007]]
def Ry:IC:=.loop Zr
abbrev Zs:IC:=(.seq (.reg [od 1 (.box true (tm 0)),od 2 (.alloc false [(.slice none 0 0),(.slice none 0 0),(.slice none 0 0),(.slice none 0 0)])] [kp [1,2] [2,14007]]) (.seq (.reg [od 8 (fa 0 1),od 9 (.ldT 1 false (tm 8)),od 10 (.ncall
 98 [(tm 9)] 10000),od 11 (fa 1 1),od 12 (.ldT 1 false (tm 11)),od 13 (.callT 99 [(tm 12)]),od 14 (fa 2 1),od 15 (.ldT 1 false (tm 14)),od 16 (.callT 100 [(tm 15)]),od 17 (fa 3 1),od 18 (.ldT 1 false (tm 17)),od 19 (.callT
 101 [(tm 18)]),od 20 (.build [(1,(tm 10)),(1,(tm 13)),(1,(tm 16)),(1,(tm 19))]),od 3 (.alloc false [(.slice none 0 0),(.slice none 0 0),(.slice none 0 0),(.slice none 0 0)]),on (.stR 3 4 (tm 3) (tm 20))] [kp [2,3] [2,
 3,14007]]) (.seq (.seq (.reg [od 21 (fa 0 3),od 22 (ld 1 21),od 23 (le 0 22),od 24 (.mv (ki 0))] [kp [2,3,22,23,24] [2,3,14007]]) (.gh (.block 0 Lx) [.frz 14007])) (.seq (.seq (.reg [od 38 (fa 2 3),od 39
 (ld 1 38),od 40 (le 0 39),od 41 (.mv (ki 0))] [kp [2,3,39,40,41] [2,3,14007]]) (.block 2 Ry)) (.seq (.reg [od 63 (lG 4 3),on (.store 4 (tm 2) (tm 63))] [kp [2] [2,14007]]) .ret)))))
theorem U8 (h:∀ K:St->Prop,K=run P Γ Lx Q->run P Γ Zq (B0 K Q) s):run P Γ Lx Q s:=Am h
theorem q29 (h:∀ K:St->Prop,K=run P Γ Ry Q->run P Γ Zr (B0 K Q) s):run P Γ Ry Q s:=Am h
def Zt:List RV:=[.cell 2 4 true]
/- probecard/netlists.copied[probecard/api.Node] (function 98) -/
abbrev K8:IC:=(.seq (.reg [od 2 (.mv kN)] [kp [0] []]) (.seq (.reg [om 3 0,od 4 (.hcall 154 [(tm 3)] [] 4000),od 5 (.hcall 90 [(tm 4)] [4007] 5000),om 2 5] [kp [2] [4007]]) .ret))
def Ko:List RV:=[.tmp 2]
/- probecard/netlists.copied[string] (function 99) -/
abbrev M8:IC:=(.seq (.reg [od 2 (.mv kN)] [kp [0] []]) (.seq (.reg [om 3 0,od 4 (.call 155 [(tm 3)]),od 5 (.call 91 [(tm 4)]),om 2 5] [kp [2] []]) .ret))
def M9:List RV:=[.tmp 2]
/- probecard/netlists.copied[probecard/api.Memory] (function 100) -/
abbrev Im:IC:=(.seq (.reg [od 2 (.mv kN)] [kp [0] []]) (.seq (.reg [om 3 0,od 4 (.call 157 [(tm 3)]),od 5 (.call 156 [(tm 4)]),om 2 5] [kp [2] []]) .ret))
def Ip:List RV:=[.tmp 2]
/- probecard/netlists.copied[int] (function 101) -/
abbrev Qf:IC:=(.seq (.reg [od 2 (.mv kN)] [kp [0] []]) (.seq (.reg [om 3 0,od 4 (.call 158 [(tm 3)]),od 5 (.call 49 [(tm 4)]),om 2 5] [kp [2] []]) .ret))
def G1:List RV:=[.tmp 2]
/- slices.Clone[[]probecard/api.Node,probecard/api.Node] (function 154) -/
abbrev Hl:IC:=(.seq (.reg [od 2 (.mv kN)] [kp [0] []]) (.seq (.seq (.reg [om 3 0,od 4 (.isNil true (tm 3))] [kp [0,4] []]) (.cond (tm 4) (.seq (.reg [od 2 (.mv kN)] [kp [2] [7]]) .ret) .skip)) (.seq (.reg [od 5 (.bsl true 50 4 []),om 6 0,od
 7 (.app false 50 4 (tm 5) (tm 6)),om 2 7] [kp [2] [7]]) .ret)))
def Hm:List RV:=[.tmp 2]
/- slices.Clone[[]string,string] (function 155) -/
abbrev J7:IC:=(.seq (.reg [od 2 (.mv kN)] [kp [0] []]) (.seq (.seq (.reg [om 3 0,od 4 (.isNil true (tm 3))] [kp [0,4] []]) (.cond (tm 4) (.seq (.reg [od 2 (.mv kN)] [kp [2] []]) .ret) .skip)) (.seq (.reg [od 5 (.bsl true 9 1 []),om 6 0,od 7
 (.appT 9 1 (tm 5) (tm 6)),om 2 7] [kp [2] []]) .ret)))
def J8:List RV:=[.tmp 2]
/- slices.Clone[[]probecard/api.Memory,probecard/api.Memory] (function 157) -/
abbrev Le:IC:=(.seq (.reg [od 2 (.mv kN)] [kp [0] []]) (.seq (.seq (.reg [om 3 0,od 4 (.isNil true (tm 3))] [kp [0,4] []]) (.cond (tm 4) (.seq (.reg [od 2 (.mv kN)] [kp [2] []]) .ret) .skip)) (.seq (.reg [od 5 (.bsl true 102 3 []),om 6 0,od
 7 (.appT 102 3 (tm 5) (tm 6)),om 2 7] [kp [2] []]) .ret)))
def Lh:List RV:=[.tmp 2]
/- slices.Clip[[]probecard/api.Node,probecard/api.Node] (function 90) -/
abbrev P6:IC:=(.seq (.reg [od 2 (.mv kN)] [kp [0] [1000000]]) (.seq (.reg [om 3 0,om 4 0,od 5 (le 0 4),om 6 0,od 7 (le 0 6),od 8 (.slice 4 (tm 3) none (some (tm 5)) (some (tm 7))),om 2 8] [kp [2] [1000000]]) .ret))
def P7:List RV:=[.tmp 2]
/- slices.Clip[[]string,string] (function 91) -/
abbrev Qx:IC:=(.seq (.reg [od 2 (.mv kN)] [kp [0] []]) (.seq (.reg [om 3 0,om 4 0,od 5 (le 0 4),om 6 0,od 7 (le 0 6),od 8 (.slice 1 (tm 3) none (some (tm 5)) (some (tm 7))),om 2 8] [kp [2] []]) .ret))
def Qy:List RV:=[.tmp 2]
/- slices.Clip[[]probecard/api.Memory,probecard/api.Memory] (function 156) -/
abbrev Mc:IC:=(.seq (.reg [od 2 (.mv kN)] [kp [0] []]) (.seq (.reg [om 3 0,om 4 0,od 5 (le 0 4),om 6 0,od 7 (le 0 6),od 8 (.slice 3 (tm 3) none (some (tm 5)) (some (tm 7))),om 2 8] [kp [2] []]) .ret))
def Md:List RV:=[.tmp 2]
/- strconv.Itoa (function 152) -/
end
end Go.Lg
namespace Go.Lg
open Go Go.Proofs
theorem q4d:Bc Tryz.prog 37 Zs 64 1 Zt=true:=by kernel_rfl
theorem Ur:Bc Tryz.prog 98 K8 6 1 Ko=true:=by kernel_rfl
theorem Xh:Bc Tryz.prog 99 M8 6 1 M9=true:=by kernel_rfl
theorem Rz:Bc Tryz.prog 100 Im 6 1 Ip=true:=by kernel_rfl
theorem Zu:Bc Tryz.prog 101 Qf 6 1 G1=true:=by kernel_rfl
theorem Xo:Bc Tryz.prog 154 Hl 8 1 Hm=true:=by kernel_rfl
theorem Zv:Bc Tryz.prog 155 J7 8 1 J8=true:=by kernel_rfl
theorem Vw:Bc Tryz.prog 157 Le 8 1 Lh=true:=by kernel_rfl
theorem Ys:Bc Tryz.prog 90 P6 9 1 P7=true:=by kernel_rfl
theorem q0Z:Bc Tryz.prog 91 Qx 9 1 Qy=true:=by kernel_rfl
theorem Xi:Bc Tryz.prog 156 Mc 9 1 Md=true:=by kernel_rfl
end Go.Lg
namespace Go.Lg
open Go Go.Proofs
variable {Γ:Tables}
abbrev Pnt:=Int×Int
def qFh (l:List (Int×Pnt)) (n:Int):Pnt:=match l.find? (fun p=>p.1==n) with|some p=>p.2|none=>(0,0)
def qI6 (l:List (Int×Pnt)):Prop:=∀ p∈l,-1000000<=p.2.1/\p.2.1<=1000000 /\ -1000000<=p.2.2/\p.2.2<=1000000
theorem qI6.at {l:List (Int×Pnt)} (h:qI6 l) (n:Int) : -1000000<=(qFh l n).1/\(qFh l n).1<=1000000 /\ -1000000<=(qFh l n).2/\(qFh l n).2<=1000000:=by
 unfold qFh
 split
 ·rename_i p hp
  exact h p (List.mem_of_find?_eq_some hp)
 ·simp
def q7o {α:Type} (s:Sl α):Prop:=(s.nl=some true->s.l=[])/\(s.nl=none->s.l≠[])/\s.l.length<=1000000
def cpS (s:Sl Int):Sl Int:=⟨s.l,some s.l.length,if s.nl=some true then some true else none⟩
theorem qB1 (s:Sl Int) (hs:q7o s):A7 Tryz.prog Γ 158 [B8 s] (if s.nl=some true then .sl [] (some 0) (some true)else .sl (Av s.l) none none):=by
 refine Ac q1S rfl ?_
 obtain⟨l,cap,nl⟩:=s
 obtain⟨h1,h2,h3⟩:=hs
 simp only at h1 h2 h3
 rcases nl with _|_|_
 ·have h4:Av l≠[]:=by simpa[An]using h2 rfl
  simp(disch:=omega) [Hr,Ht,Aa,A5,h4,Bm,B8]
  omega
 ·simp(disch:=omega) [Hr,Ht,Aa,A5,Bm,B8]
  omega
 ·have:=h1 rfl
  subst this
  simp[Hr,Ht,B8]
theorem q0o (s:Sl Int) (hs:q7o s):B9 Tryz.prog Γ 101 [B8 s] (B8 (cpS s)):=by
 refine Cc Zu rfl ?_
 have e1:=qB1 (Γ:=Γ) s hs
 obtain⟨l,cap,nl⟩:=s
 obtain⟨h1,h2,h3⟩:=hs
 simp only at h1 h2 h3
 simp only at e1
 simp[Qf,B8]
 refine A4 e1 rfl ?_
 rcases nl with _|_|_
 ·simp
  refine B6 (q7D (Av l) none none Aa) rfl ?_
  simp[G1,cpS,A5]
 ·simp
  refine B6 (q7D (Av l) none none Aa) rfl ?_
  simp[G1,cpS,A5]
 ·have:=h1 rfl
  subst this
  simp
  refine B6 (q7D [] (some 0) (some true) (by simp)) rfl ?_
  simp[G1,cpS,A5,Pn]
theorem q4e (l:List (List UInt8)) (cap:Option Nat) (nl:Option Bool) (hq:nl≠some true) (h:l≠[]) (hl:l.length<=1000000):B9 Tryz.prog Γ 99 [.sl (An tS l) cap nl] (.sl (An tS l) (some l.length) none):=by
 refine Cc Xh rfl ?_
 have h4:An tS l≠[]:=by simpa[An]using h
 have e1:B9 Tryz.prog Γ 155 [.sl (An tS l) cap nl] (.sl (An tS l) none none):=by
  refine Cc Zv rfl ?_
  rcases nl with _|_|_
  ·simp(disch:=omega) [J7,J8,Aa,A5,h4,Bm]
   omega
  ·simp(disch:=omega) [J7,J8,Aa,A5,h4,Bm]
   omega
  ·exact absurd rfl hq
 have e2:B9 Tryz.prog Γ 91 [.sl (An tS l) none none] (.sl (An tS l) (some l.length) none):=by
  refine Cc q0Z rfl ?_
  simp[Qx,Qy,Aa,A5]
 simp[M8]
 refine B6 e1 rfl ?_
 simp
 refine B6 e2 rfl ?_
 simp[M9]
theorem q6O:B9 Tryz.prog Γ 100 [.sl [] (some 0) (some true)] (.sl [] (some 0) (some true)):=by
 refine Cc Rz rfl ?_
 have e1:B9 Tryz.prog Γ 157 [.sl [] (some 0) (some true)] (.sl [] (some 0) (some true)):=by
  refine Cc Vw rfl ?_
  simp[Le,Lh]
 have e2:B9 Tryz.prog Γ 156 [.sl [] (some 0) (some true)] (.sl [] (some 0) (some true)):=by
  refine Cc Xi rfl ?_
  simp[Mc,Md]
 simp[Im]
 refine B6 e1 rfl ?_
 simp
 refine B6 e2 rfl ?_
 simp[Ip]
theorem q7p (l:List Nd) (cap:Option Nat) (nl:Option Bool) (hq:nl≠some true) (h:l≠[]) (hl:l.length<=1000000):Bf Tryz.prog Γ 98 [] [.t (.sl (Bo E3 l) cap nl)] (.ls 4007 0 l.length (some l.length)) [(4007,.sl 50 4 (Bo E3 l))]:=by
 refine Ee Ur rfl ?_
 have h4:Bo E3 l≠[]:=by simpa[Bo]using h
 have e1:Bf Tryz.prog Γ 154 [] [.t (.sl (Bo E3 l) cap nl)] (.ls 7 0 l.length none) [(7,.sl 50 4 (Bo E3 l))]:=by
  refine Ee Xo rfl ?_
  rcases nl with _|_|_
  ·simp(disch:=omega) [Hl,Hm,Bj,Ab,h4,Bm]
   omega
  ·simp(disch:=omega) [Hl,Hm,Bj,Ab,h4,Bm]
   omega
  ·exact absurd rfl hq
 have e2:Bf Tryz.prog Γ 90 [(1000000,.sl 50 4 (Bo E3 l))] [.ls 1000000 0 l.length none] (.ls 1000000 0 l.length (some l.length)) [(1000000,.sl 50 4 (Bo E3 l))]:=by
  refine Ee Ys rfl ?_
  simp[P6,P7,Bj,Ab]
 simp[K8]
 refine⟨_,_,e1,?_⟩
 simp
 refine⟨_,_,e2,?_⟩
 simp[Ko]
theorem Yc {f:FuncId} {as':List AV} {ts:List T} {res:T} {K:T->Prop} (h:B9 Tryz.prog Γ f ts res) (ht:Ag (as'.map toT)=some ts) (hk:K res):q9g Tryz.prog Γ f as' K ⟨⟩:=⟨ts,res,ht,.inl h,hk⟩
theorem qFi {α:Type} {f:α->List T} {l:List α} {n:Nat} {x:α}:(Bo f l).set n (f x)=Bo f (l.set n x):=by simp[Bo,List.map_set]
theorem gN {l:List Nd} {i:Nat} (h:i<l.length):(Bo E3 l)[i]?.getD []=E3 (l.getD i Nd.d):=by
 rw[Eb Nd.d h];rfl
def q3p (x:Nd):Nd:=⟨x.k,cpS x.inn,x.mem,x.bit⟩
def cpL:Nat->Nat->List Nd->List Nd
 | 0,_,L=>L
 | k+1,i,L=>cpL k (i+1) (L.set i (q3p (L.getD i Nd.d)))
theorem qFj:∀ (k i:Nat) (L:List Nd),i+k=L.length->cpL k i L=L.take i++(L.drop i).map q3p
 | 0,i,L,h=>by rw[xq2 (by omega),xqw (by omega)];simp[cpL]
 | k+1,i,L,h=>by
  have hi:i<L.length:=by omega
  simp only[cpL]
  rw[qFj k (i+1) _ (by simp;omega),xqq hi]
  have e:L.getD i Nd.d=L[i]:=by simp[xqe,hi]
  rw[e]
  have h1:(L.set i (q3p L[i])).take (i+1)=L.take i++[q3p L[i]]:=by
   rw[xz7,List.take_set_of_le (xzo i)]
   simp[hi]
  rw[h1,List.drop_set_of_lt (by omega),xqm,List.append_assoc]
  rfl
def cpH (n:Nat) (nm mm oo:T) (L:List Nd):List (Nat×Aw) :=
 [(2,.bx [.t (.sl [] (some 0) (some true)),.t (.sl [] (some 0) (some true)),.t (.sl [] (some 0) (some true)),.t (.sl [] (some 0) (some true))]),(3,.bx [.ls 14007 0 n (some n),.t nm,.t mm,.t oo]),(14007,.sl 50 4 (Bo E3 L))]
theorem q9F {Q:AX->St->Prop} (n:Nat) (hn:n<=1000000) (nm mm oo:T) (R:List Nd)
  (h0:Q (.exit 0) ⟨[(2,.lp 2 0 0),(3,.lp 3 0 0),(22,.ls 14007 0 n (some n)),(23,.t (tI n)),(24,.t (tI n)),(25,.t (tB false))],cpH n nm mm oo R⟩) :
  ∀ (k i:Nat) (L:List Nd),k+i=n->L.length=n->(∀ j,i<=j->j<n->q7o (L.getD j Nd.d).inn)->cpL k i L=R ->
  run Tryz.prog Γ Lx Q ⟨[(2,.lp 2 0 0),(3,.lp 3 0 0),(22,.ls 14007 0 n (some n)),(23,.t (tI n)),(24,.t (tI i))],cpH n nm mm oo L⟩
 | 0,i,L,h,hl,hs,hR=>by
  refine U8 fun K hK=>?_
  have h3:i=n:=by omega
  subst h3
  simp only[cpL]at hR
  subst hR
  simp[cpH]
  simpa[cpH]using h0
 | k+1,i,L,h,hl,hs,hR=>by
  refine U8 fun K hK=>?_
  have h2:i<n:=by omega
  have hi:i<L.length:=by omega
  simp only[cpL]at hR
  have e:=gN hi
  have hx:q7o (L.getD i Nd.d).inn:=hs i (xzo i) h2
  have e1:=q0o (Γ:=Γ) _ hx
  have ih:=q9F n hn nm mm oo R h0 k (i+1) (L.set i (q3p (L.getD i Nd.d))) (by omega) (by simp[hl]) (fun j hj hjn=>by
   have:(L.set i (q3p (L.getD i Nd.d))).getD j Nd.d=L.getD j Nd.d:=by
    rw[xqe,xzb,if_neg (by omega),<- xqe]
   rw[this]
   exact hs j (by omega) hjn) hR
  generalize L.getD i Nd.d=x at *
  have e':∀ h:i<(Bo E3 L).length,(Bo E3 L)[i]=E3 x:=fun h=>by rw[<- e];simp[hi,Ab]
  have hset:(Bo E3 L).set i [tK x.k,B8 (cpS x.inn),tI x.mem,tI x.bit]=Bo E3 (L.set i (q3p x)):=qFi (f:=E3) (x:=q3p x)
  simp only[B8]at e1 hset
  simp(disch:=omega) [cpH,h2,Ab,Bj,e,e',hl,A6,E3,B8]
  refine Yc e1 rfl ?_
  simp(disch:=omega) [cpH,h2,hi,Ab,Bj,e,e',hl,A6,E3,B8,hset]
  rw[hK]
  simpa[cpH]using ih
def Xj (c:Bg):Bg:=⟨⟨c.nodes.l.map q3p,some c.nodes.l.length,none⟩,⟨c.names.l,some c.names.l.length,none⟩,⟨[],some 0,some true⟩,cpS c.outs⟩
structure qFk (c:Bg):Prop where
 n0:c.nodes.l≠[]
 n1:c.nodes.l.length<=1000000
 nn:c.nodes.nl≠some true
 m0:c.names.l≠[]
 m1:c.names.l.length<=1000000
 mn:c.names.nl≠some true
 mems:c.mems=⟨[],some 0,some true⟩
 inn:∀ x∈c.nodes.l,q7o x.inn
 outs:q7o c.outs
theorem qEO (c:Bg) (hc:qFk c):B9 Tryz.prog Γ 37 [.agg (tC c)] (.agg (tC (Xj c))):=by
 refine Cc q4d rfl ?_
 have e1:=q7p (Γ:=Γ) c.nodes.l c.nodes.cap c.nodes.nl hc.nn hc.n0 hc.n1
 have e2:=q4e (Γ:=Γ) c.names.l c.names.cap c.names.nl hc.mn hc.m0 hc.m1
 have e3:=q6O (Γ:=Γ)
 have e4:=q0o (Γ:=Γ) c.outs hc.outs
 have hcp:cpL c.nodes.l.length 0 c.nodes.l=c.nodes.l.map q3p:=by rw[qFj _ _ _ (by omega)];simp
 have hn1:=hc.n1
 have g1:=fun Q nm mm oo h0=>q9F (Γ:=Γ) (Q:=Q) c.nodes.l.length hc.n1 nm mm oo _ h0 c.nodes.l.length 0 c.nodes.l (by omega) rfl (fun j _ hj=>hc.inn _ (by rw[xqe,xqg hj];exact xqj hj)) hcp
 have hml:(Bo E3 (c.nodes.l.map q3p)).take c.nodes.l.length=Bo E3 (c.nodes.l.map q3p):=xqw (by simp[Bo])
 simp[Zs,tC,A9,Ah,Ap,B8,hc.mems]
 refine⟨_,_,e1,?_⟩
 simp
 refine Yc e2 rfl ?_
 simp
 refine Yc e3 rfl ?_
 simp
 simp[B8]at e4
 refine Yc e4 rfl ?_
 simp
 simp[cpH]at g1
 refine g1 _ _ _ _ ?_
 simp[St.freeze,Aw.closed,C6,frz1,frz0,Ej,del,Aj,hml]
 refine q29 fun K hK=>?_
 simp[Zt,Xj,Ab,Pn,show Bo tMm []=[] from rfl]
end Go.Lg
namespace Go.Lg
open Go Go.Proofs
structure NG (B:Bool) (ns:List Nd) (i:Nat) (x:Nd):Prop where
 k:0<=x.k/\x.k<=15
 f:(Um x.k).1<=x.inn.l.length/\(x.inn.l.length:Int)<=(Um x.k).2
 inn:∀ p∈x.inn.l,0<=p/\p<ns.length
 top:1<=x.k/\x.k<=13->∀ p∈x.inn.l,p<i
 bus:x.k=13->∀ p∈x.inn.l,(ns.getD p.toNat Nd.d).k=12
 mm:(x.k≠15->x.mem=0/\x.bit=0)/\(x.k=15->B=true/\x.mem=0/\0<=x.bit/\x.bit<=1)
theorem NG.mono {B:Bool} {ns ys:List Nd} {i:Nat} {x:Nd} (h:NG B ns i x):NG B (ns++ys) i x :=
 ⟨h.k,h.f,fun p hp=>by have:=h.inn p hp;simp;omega,h.top,fun hk p hp=>by
  have h1:=h.inn p hp
  rw[xqe,xzd (by omega),<- xqe]
  exact h.bus hk p hp,h.mm⟩
def GNs (B:Bool) (ns:List Nd):Prop:=∀ i (h:i<ns.length),NG B ns i ns[i]
theorem GNs.add {B:Bool} {ns:List Nd} {y:Nd} (h:GNs B ns) (hy:NG B (ns++[y]) ns.length y):GNs B (ns++[y]):=by
 intro i hi
 by_cases h1:i<ns.length
 ·rw[List.getElem_append_left h1];exact(h i h1).mono
 ·have:i=ns.length:=by simp at hi;omega
  subst this
  simpa using hy
theorem S0:Um 0=(0,0)/\Um 1=(0,0)/\Um 2=(0,0)/\Um 3=(1,1)/\Um 4=(1,1)/\Um 5=(2,16)/\Um 6=(2,16)/\Um 7=(2,16)/\Um 8=(2,16)/\Um 9=(2,16)/\Um 10=(2,16)/\Um 11=(3,3)/\Um 12=(2,2)/\Um 13=(1,16)/\Um 14=(1,1)/\Um 15=(0,0):=by decide
theorem qJT {B:Bool} {ns:List Nd} {i:Nat}:NG B ns i q6E:=⟨by decide,by decide,by simp[q6E],by simp[q6E],by simp[q6E],by simp[q6E]⟩
theorem qJU {B:Bool} {ns:List Nd} {i:Nat} {v:Int} (h:0<=v/\v<ns.length):NG B ns i (q5K v):=⟨by simp[q5K],by simp[q5K,S0],by simp[q5K];exact h,by simp[q5K],by simp[q5K],by simp[q5K]⟩
theorem qFl {ns:List Nd} {i:Nat} {b:Int} (h:b=0\/b=1):NG true ns i (q3e b):=⟨by simp[q3e],by simp[q3e,S0],by simp[q3e],by simp[q3e],by simp[q3e],by simp[q3e];omega⟩
theorem qJV {ns:List Nd}:∀ p∈q3d ns,0<=p/\p<ns.length/\(ns.getD p.toNat Nd.d).k=12:=by
 intro p hp
 obtain⟨h1,h2,h3⟩:=q4J [12] ns 0 p hp
 refine⟨by omega,by omega,?_⟩
 simpa using h3
theorem qDM {l:List Int} {q:Nat} (h:q<l.length):l.getD q 0∈l:=by
 rw[xqe,xqg h];exact xqj h
theorem qHP {B bus:Bool} {g:Gd} {ns:List Nd} (hg:q9j g) (h0:1<=ns.length):NG B (ns++[q1b bus g ns]) ns.length (q1b bus g ns):=by
 have a:=Db (n:=ns.length) hg.2.1.1 (by omega)
 have b:=Db (n:=ns.length) hg.2.2.1.1 (by omega)
 have d:=Db (n:=ns.length) hg.2.2.2.1 (by omega)
 have m13:0<=g.k.tmod 13/\g.k.tmod 13<13:=Db (n:=13) hg.1.1 (by omega)
 have m9:0<=g.k.tmod 9/\g.k.tmod 9<9:=Db (n:=9) hg.1.1 (by omega)
 have ma:0<=g.a.tmod 2/\g.a.tmod 2<2:=Db (n:=2) hg.2.1.1 (by omega)
 have hkk:0<=(if bus then g.k.tmod 13 else g.k.tmod 9)/\(if bus then g.k.tmod 13 else g.k.tmod 9)<13:=by cases bus<;>simp<;>omega
 have ht:=qJV (ns:=ns)
 obtain⟨y,hy⟩:∃ y,y=q1b bus g ns:=⟨_,rfl⟩
 rw[<- hy]
 have hlen:(ns++[y]).length=ns.length+1:=by simp
 have old:∀ p:Int,0<=p->p<ns.length->((ns++[y]).getD p.toNat Nd.d).k=(ns.getD p.toNat Nd.d).k:=fun p h1 h2=>by
  rw[xqe,xzd (by omega),<- xqe]
 -- what suffices of a plain gate
 have mk:∀ (k:Int) (l:List Int) (cap:Option Nat) (nl:Option Bool),0<=k->k<=15->k≠13->k≠15->(Um k).1<=l.length->(l.length:Int)<=(Um k).2->(∀ p∈l,0<=p/\p<ns.length)->NG B (ns++[y]) ns.length ⟨k,⟨l,cap,nl⟩,0,0⟩:=fun k l cap nl h1 h2 h3 h4 h5 h6 h7 =>
  ⟨⟨h1,h2⟩,⟨h5,h6⟩,fun p hp=>by have:=h7 p hp;omega,fun _ p hp=>(h7 p hp).2,fun e=>absurd e h3,fun _=>⟨rfl,rfl⟩,fun e=>absurd e h4⟩
 unfold q1b q92 at hy
 simp only at hy
 generalize g.a.tmod ns.length=a' at *
 generalize g.b.tmod ns.length=b' at *
 generalize g.d.tmod ns.length=d' at *
 generalize (if bus=true then g.k.tmod 13 else g.k.tmod 9)=kk at *
 have two:∀ p∈[a',b'],0<=p/\p<ns.length:=by intro p hp;simp at hp;rcases hp with rfl|rfl;exact a;exact b
 have three:∀ p∈[a',b',d'],0<=p/\p<ns.length:=by intro p hp;simp at hp;rcases hp with rfl|rfl|rfl;exact a;exact b;exact d
 have one:∀ p∈[a'],0<=p/\p<ns.length:=by intro p hp;simp at hp;rcases hp with rfl;exact a
 split at hy
 ·rename_i h6
  have hc:kk=0\/kk=1\/kk=2\/kk=3\/kk=4\/kk=5:=by omega
  split at hy
  ·rw[hy]
   have hf:(Um (5+kk)).1=2/\(Um (5+kk)).2=16:=by rcases hc with rfl|rfl|rfl|rfl|rfl|rfl<;>decide
   rw[<- hy]
   have:=mk (5+kk) [a',b',d'] none none (by omega) (by omega) (by omega) (by omega) (by rw[hf.1];simp) (by rw[hf.2];simp) three
   rw[<- hy]at this;exact this
  ·have hf:(Um (5+kk)).1=2/\(Um (5+kk)).2=16:=by rcases hc with rfl|rfl|rfl|rfl|rfl|rfl<;>decide
   have:=mk (5+kk) [a',b'] none none (by omega) (by omega) (by omega) (by omega) (by rw[hf.1];simp) (by rw[hf.2];simp) two
   rw[<- hy]at this;exact this
 split at hy
 ·have:=mk 4 [a'] none none (by omega) (by omega) (by omega) (by omega) (by simp[S0]) (by simp[S0]) one
  rw[<- hy]at this;exact this
 split at hy
 ·have:=mk 11 [a',b',d'] none none (by omega) (by omega) (by omega) (by omega) (by simp[S0]) (by simp[S0]) three
  rw[<- hy]at this;exact this
 split at hy
 ·have:=mk 12 [a',b'] none none (by omega) (by omega) (by omega) (by omega) (by simp[S0]) (by simp[S0]) two
  rw[<- hy]at this;exact this
 split at hy
 ·rename_i ht2
  generalize q3d ns=t at *
  have mt:=Db (n:=t.length) hg.2.1.1 ht2.2
  have mt2:=Db (a:=g.a.tmod t.length+1) (n:=t.length) (by omega) ht2.2
  have q1:=ht _ (qDM (l:=t) (q:=(g.a.tmod t.length).toNat) (by omega))
  have q2:=ht _ (qDM (l:=t) (q:=((g.a.tmod t.length+1).tmod t.length).toNat) (by omega))
  generalize t.getD (g.a.tmod t.length).toNat 0=u1 at *
  generalize t.getD ((g.a.tmod t.length+1).tmod t.length).toNat 0=u2 at *
  have mkb:∀ (l:List Int) (cap:Option Nat) (nl:Option Bool),1<=l.length->l.length<=16->(∀ p∈l,0<=p/\p<ns.length/\(ns.getD p.toNat Nd.d).k=12)->NG B (ns++[y]) ns.length ⟨13,⟨l,cap,nl⟩,0,0⟩:=fun l cap nl h5 h6 h7 =>
   ⟨by simp,⟨by simp[S0];omega,by simp[S0];omega⟩,fun p hp=>by have:=h7 p hp;omega,fun _ p hp=>(h7 p hp).2.1,fun _ p hp=>by rw[old p (h7 p hp).1 (h7 p hp).2.1];exact(h7 p hp).2.2,fun _=>⟨rfl,rfl⟩,fun e=>by simp at e⟩
  split at hy
  ·have:=mkb [u1,u2] none none (by simp) (by simp) (by intro p hp;simp at hp;rcases hp with rfl|rfl;exact q1;exact q2)
   rw[<- hy]at this;exact this
  ·have:=mkb [u1] none none (by simp) (by simp) (by intro p hp;simp at hp;rcases hp with rfl;exact q1)
   rw[<- hy]at this;exact this
 split at hy
 ·have hc:g.a.tmod 2=0\/g.a.tmod 2=1:=by omega
  have hf:(Um (1+g.a.tmod 2)).1=0/\(Um (1+g.a.tmod 2)).2=0:=by rcases hc with e|e<;>rw[e]<;>decide
  have:=mk (1+g.a.tmod 2) [] (some 0) (some true) (by omega) (by omega) (by omega) (by omega) (by rw[hf.1];simp) (by rw[hf.2];simp) (by simp)
  rw[<- hy]at this;exact this
 ·have:=mk 3 [a'] none none (by omega) (by omega) (by omega) (by omega) (by simp[S0]) (by simp[S0]) one
  rw[<- hy]at this;exact this
theorem q9G {B bus:Bool}:∀ {l:List Gd} {ns:List Nd},(∀ g∈l,q9j g)->1<=ns.length->GNs B ns->GNs B (Oa bus l ns)
 | [],ns,_,_,h=>h
 | g::l,ns,hg,h0,h=>by
  simp only[Oa]
  exact q9G (fun y hy=>hg y (xqf _ hy)) (by simp) (h.add (qHP (hg g xqh) h0))
theorem qHQ {B:Bool} {ns:List Nd} {j:Nat} {v:Int} (h:GNs B ns) (hj:j<ns.length) (hk:ns[j].k=14) (hv:0<=v/\v<ns.length):GNs B (V1 ns j v):=by
 have hm:=(h j hj).mm.1 (by rw[hk];decide)
 have hgd:ns.getD j Nd.d=ns[j]:=by simp[xqe,hj]
 have kinds:∀ q:Nat,((V1 ns j v).getD q Nd.d).k=(ns.getD q Nd.d).k:=fun q=>by
  unfold V1
  simp only[xqe,xzb]
  split
  ·rename_i e;subst e;simp[hj]
  ·rfl
 intro i hi
 have hi':i<ns.length:=by rw[Ox]at hi;exact hi
 by_cases hij:i=j
 ·subst hij
  have:(V1 ns i v)[i]=⟨14,⟨[v],some 1,some false⟩,0,0⟩:=by
   simp only[V1,hgd,hk,hm.1,hm.2,List.getElem_set_self]
  rw[this]
  exact⟨by simp,by simp[S0],by simp[Ox];exact hv,by simp,by simp,by simp⟩
 ·have:(V1 ns j v)[i]=ns[i]:=by
   simp only[V1]
   rw[List.getElem_set_ne (fun e=>hij e.symm)]
  rw[this]
  have hn:=h i hi'
  exact⟨hn.k,hn.f,fun p hp=>by rw[Ox];exact hn.inn p hp,hn.top,fun hk p hp=>by rw[kinds];exact hn.bus hk p hp,hn.mm⟩
theorem qCB {ns:List Nd} {j q:Nat} {v:Int}:((V1 ns j v).getD q Nd.d).k=(ns.getD q Nd.d).k:=by
 unfold V1
 simp only[xqe,xzb]
 split
 ·rename_i e;subst e
  split
  ·simp
  ·rename_i h;simp[List.getElem?_eq_none (Nat.le_of_not_lt h)]
 ·rfl
theorem qB2 {B:Bool} {x:CD} {first:Nat} (h0:Byt x.d0) (h1:Byt x.d1):∀ {k i:Nat} {ns:List Nd},GNs B ns->(∀ q,q<i+k->first+q<ns.length/\(ns.getD (first+q) Nd.d).k=14)->GNs B (Za x first k i ns)
 | 0,_,_,h,_=>h
 | k+1,i,ns,h,hq=>by
  simp only[Za]
  obtain⟨hl,hk⟩:=hq i (by omega)
  have hd:0<=ddN x i:=by unfold ddN;split;exact h0.1;exact h1.1
  have hv:=Db (n:=ns.length) hd (by omega)
  refine qB2 h0 h1 (qHQ h hl (by simpa[xqe,hl]using hk) hv) fun q hq'=>?_
  rw[Ox,qCB]
  exact hq q (by omega)
theorem q63 {bus:Bool}:∀ {l:List Gd} {ns:List Nd} {q:Nat},q<ns.length->((Oa bus l ns).getD q Nd.d)=(ns.getD q Nd.d)
 | [],_,_,_=>rfl
 | g::l,ns,q,h=>by
  simp only[Oa]
  rw[q63 (by simp;omega)]
  rw[xqe,xzd h,<- xqe]
theorem q9s {B:Bool} {x:Nd} (h:∀ ns:List Nd,1<=ns.length->∀ i,NG B ns i x):∀ (k:Nat) {ns:List Nd},GNs B ns->GNs B (ns++List.replicate k x)
 | 0,ns,hn=>by simpa using hn
 | k+1,ns,hn=>by
  rw[List.replicate_succ,List.append_cons]
  exact q9s h k (hn.add (h _ (by simp) _))
theorem q2A {x:CD} (hx:q2Z x):GNs x.mem (Ec x):=by
 have m4:0<=x.i.tmod 4/\x.i.tmod 4<4:=Db (n:=4) hx.i.1 (by omega)
 have m3:0<=x.f.tmod 3/\x.f.tmod 3<3:=Db (n:=3) hx.f.1 (by omega)
 have g0:GNs x.mem []:=fun i h=>by simp at h
 have g1:GNs x.mem (Ib x):=by
  have:=q9s (B:=x.mem) (x:=q6E) (fun ns _ i=>qJT) (x.i.tmod 4+1).toNat g0
  simpa[Ib]using this
 have l1:1<=(Ib x).length:=by simp[Ib];omega
 have g2:GNs x.mem (Fq x):=q9s (fun ns h i=>qJU ⟨by omega,by omega⟩) _ g1
 have l2:(Fq x).length=(Ib x).length+(x.f.tmod 3).toNat:=by simp[Fq]
 have g3:GNs x.mem (Ez x):=by
  unfold Ez
  split
  ·rename_i hm
   rw[hm]at g2 ⊢
   have a1:=g2.add (y:=q3e 0) (qFl (.inl rfl))
   have a2:=a1.add (y:=q3e 1) (qFl (.inr rfl))
   rw[List.append_assoc]at a2
   exact a2
  ·exact g2
 have l3:(Fq x).length<=(Ez x).length:=by unfold Ez;split<;>simp
 have g4:GNs x.mem (D8 x):=q9G (fun g hg=>hx.gates g (xz6 hg)) (by omega) g3
 have l4:(Ez x).length<=(D8 x).length:=by unfold D8;rw[q0P];omega
 refine qB2 hx.d0 hx.d1 g4 fun q hq=>⟨by omega,?_⟩
 unfold D8
 rw[q63 (by omega)]
 have e:(Ez x).getD ((Ib x).length+q) Nd.d=(Fq x).getD ((Ib x).length+q) Nd.d:=by
  unfold Ez
  split
  ·rw[xqe,xzd (by omega),<- xqe]
  ·rfl
 rw[e]
 unfold Fq
 rw[xqe,xze (by omega)]
 simp only[Nat.add_sub_cancel_left]
 rw[xz3,if_pos (by omega)]
 rfl
theorem q0a {α:Type} {f:α->Int}:∀ {l:List α},(∀ x∈l,f x=0)->Ds (l.map f)=0
 | [],_=>rfl
 | x::l,h=>by
  simp only[xqm,Ds,h x xqh,ne_eq,not_true_eq_false,if_false]
  exact q0a fun y hy=>h y (xqf _ hy)
theorem qCC:∀ n,n<=16->Jf [] ((List.range' 0 n).map Z9)=0:=by
 intro n hn
 have:n=0\/n=1\/n=2\/n=3\/n=4\/n=5\/n=6\/n=7\/n=8\/n=9\/n=10\/n=11\/n=12\/n=13\/n=14\/n=15\/n=16:=by omega
 rcases this with rfl|rfl|rfl|rfl|rfl|rfl|rfl|rfl|rfl|rfl|rfl|rfl|rfl|rfl|rfl|rfl|rfl<;>decide +kernel
theorem qEP {x:CD} (hx:q2Z x):E4 (Nz x)=0:=by
 have hl:=q0Q hx
 have h5:=q0R hx
 have hg:=q2A hx
 have hN:(Nz x).nodes.l=Ec x:=rfl
 have hmods:∀ b,Byt b->0<=b.tmod (D8 x).length/\b.tmod (D8 x).length<(Ec x).length:=fun b hb=>by
  have:=Db (n:=(D8 x).length) hb.1 (by omega);omega
 have hout:∀ n,0<=n/\n<((Ec x).length:Int)->Q2 (Nz x) n=false:=fun n h=>by simp[Q2,hN];omega
 have hnode:∀ y∈Ec x,E6 (Nz x) y=0:=by
  intro y hy
  obtain⟨i,hi,rfl⟩:=xqt hy
  have hn:=hg i hi
  unfold E6
  rw[if_neg (by have:=hn.k;omega),if_neg (by have:=hn.f;omega)]
  have h1:(Ec x)[i].inn.l.any (Q2 (Nz x))=false:=xz8.2 fun p hp=>by rw[hout p (hn.inn p hp)];simp
  rw[h1]
  have h2:¬ ((Ec x)[i].k=13/\(Ec x)[i].inn.l.any (q1V (Nz x))=true):=by
   rintro⟨hk,ha⟩
   obtain⟨p,hp,hq⟩:=xz1.1 ha
   have:=hn.bus hk p hp
   simp[q1V,hN]at hq
   rw[xqe]at this
   exact hq this
  rw[if_neg (by simp),if_neg h2]
  have h3:q0i (Nz x) (Ec x)[i]=true:=by
   unfold q0i
   by_cases hk:(Ec x)[i].k=15
   ·obtain⟨hm,e1,e2,e3⟩:=hn.mm.2 hk
    simp only[hk,ne_eq,not_true_eq_false,if_false,xqu]
    simp[Nz,q7T,hm,e1]
    omega
   ·have:=hn.mm.1 hk
    simp[hk,this]
  rw[h3];simp
 unfold E4
 have e1:¬ (16384<(Nz x).nodes.l.length\/16<(Nz x).mems.l.length\/16384<(Nz x).outs.l.length):=by
  have:(Nz x).mems.l.length<=1:=by simp only[Nz,q7T];split<;>simp
  have:(Nz x).outs.l.length<=4:=by simp[Nz];omega
  rw[hN];omega
 have e2:(Nz x).names.l.length=(Nz x).nodes.l.length:=by rw[hN];simp[Nz];omega
 rw[if_neg e1,if_neg (by simp[e2]),if_neg (by rw[hN,q0a hnode];simp),if_neg (by
  rw[show(Nz x).names.l=(List.range' 0 (D8 x).length).map Z9 from rfl,qCC _ hl.2];simp),if_neg (by
  rw[q0a]
  ·simp
  ·intro m hm
   simp only[Nz,q7T]at hm
   split at hm
   ·simp at hm;subst hm
    unfold O8
    have a0:=hout _ (hmods _ hx.p0)
    have a1:=hout _ (hmods _ hx.p1)
    have a2:=hout _ (hmods _ hx.p2)
    have a3:=hout _ (hmods _ hx.p3)
    simp[Un,a0,a1,a2,a3]
   ·cases hm)]
 have ho:(Nz x).outs.l.any (Q2 (Nz x))=false:=by
  refine xz8.2 fun p hp=>?_
  have:0<=p/\p<((Ec x).length:Int):=by
   simp only[Nz,xzg,xqy,xzh]at hp
   rcases hp with⟨b,hb,rfl⟩|rfl
   ·exact hmods b (hx.outs b (xz6 hb))
   ·omega
  rw[hout p this];simp
 rw[ho];rfl
theorem q9H {x:CD} (hx:q2Z x):D3 (Nz x)=0:=by
 have hs:=qEP hx
 have hg:=q2A hx
 have hN:(Nz x).nodes.l=Ec x:=rfl
 have hin:∀ y∈(Nz x).nodes.l,∀ p∈y.inn.l,0<=p/\p<(Nz x).nodes.l.length:=by
  intro y hy p hp
  rw[hN]at hy ⊢
  obtain⟨i,hi,rfl⟩:=xqt hy
  exact(hg i hi).inn p hp
 have hd:=qAn (Nz x) (Ig hs).2.1 hin (by
  intro i hi hc p hp
  rw[hN]at hi
  have e:(Nz x).nodes.l.getD i Nd.d=(Ec x)[i]:=by rw[hN];simp[xqe,hi]
  simp only[Ad,Bz,e]at hc hp
  exact(hg i hi).top (by simpa[By]using hc) p hp)
 unfold D3
 rw[if_neg (by simp[hs]),if_neg hd]
theorem qEQ {x:CD} (hx:q2Z x) (hm:x.mem=false):q7P (Nz x)=0:=by
 have hv:=q9H hx
 have hg:=q2A hx
 have h1:(Nz x).mems.l=[]:=by simp[Nz,q7T,hm]
 have h2:mems (Nz x)=[]:=by
  refine List.eq_nil_iff_forall_not_mem.2 fun n hn=>?_
  obtain⟨a,b,h3⟩:=q4J [15] (Nz x).nodes.l 0 n hn
  have hi:n.toNat<(Ec x).length:=by have:(Nz x).nodes.l=Ec x:=rfl;rw[this]at b;omega
  have hk:(Ec x)[n.toNat].k=15:=by
   have:(Nz x).nodes.l=Ec x:=rfl
   rw[this]at h3
   simpa[xqe,hi]using h3
  have:=((hg _ hi).mm.2 hk).1
  rw[hm]at this;cases this
 unfold q7P
 rw[if_neg (by simp[hv]),h1,h2];simp
end Go.Lg
namespace Go.Lg
open Go Go.Proofs
variable {Γ:Tables}
def qLS (l:List (Sl Int)):List Int:=(l.map fun s=>s.l).flatten
end Go.Lg
namespace Go.Lg
open Go Go.Proofs
def qFm (x:CD):CD:={ x with mem:=false }
theorem qFn {x:CD} (hx:q2Z x):q2Z (qFm x):=⟨hx.i,hx.f,hx.d0,hx.d1,hx.p0,hx.p1,hx.p2,hx.p3,hx.gates,hx.outs⟩
/-! The nodes are lists that tell whether they are nil. -/
def SNs (ns:List Nd):Prop:=∀ x∈ns,q7o x.inn
theorem Ly {l:List Int} (h:l≠[]) (h2:l.length<=1000000):q7o (⟨l,none,none⟩:Sl Int):=⟨(fun h=>nomatch h),(fun _=>h),h2⟩
theorem P8 {l:List Int} {c:Option Nat} (h2:l.length<=1000000):q7o (⟨l,c,some false⟩:Sl Int):=⟨(fun h=>nomatch h),(fun h=>nomatch h),h2⟩
theorem q7q {c:Option Nat}:q7o (⟨[],c,some true⟩:Sl Int):=⟨(fun _=>rfl),(fun h=>nomatch h),by simp⟩
theorem qFo {bus:Bool} {g:Gd} {ns:List Nd}:q7o (q1b bus g ns).inn:=by
 unfold q1b q92
 generalize (if bus=true then g.k.tmod 13 else g.k.tmod 9)=kk
 by_cases h1:kk<6
 ·simp only[h1,if_true]
  split
  ·exact Ly (by simp) (by simp)
  ·exact Ly (by simp) (by simp)
 ·simp only[h1,if_false]
  split
  ·exact Ly (by simp) (by simp)
  split
  ·exact Ly (by simp) (by simp)
  split
  ·exact Ly (by simp) (by simp)
  split
  ·by_cases h2:1<(q3d ns).length
   ·simp only[h2,if_true]
    exact Ly (by simp) (by simp)
   ·simp only[h2,if_false]
    exact Ly (by simp) (by simp)
  split
  ·exact q7q
  ·exact Ly (by simp) (by simp)
theorem q9I {bus:Bool}:∀ {l:List Gd} {ns:List Nd},SNs ns->SNs (Oa bus l ns)
 | [],ns,h=>h
 | g::l,ns,h=>by
  simp only[Oa]
  refine q9I fun x hx=>?_
  rcases xzg.1 hx with hx|hx
  ·exact h x hx
  ·simp at hx;subst hx;exact qFo
theorem qB3 {x:CD} {first:Nat}:∀ {k i:Nat} {ns:List Nd},SNs ns->SNs (Za x first k i ns)
 | 0,_,_,h=>h
 | k+1,i,ns,h=>by
  simp only[Za]
  refine qB3 fun y hy=>?_
  rcases xz9 hy with hy|rfl
  ·exact h y hy
  ·exact P8 (by simp)
theorem qER {x:CD} (hm:x.mem=false):SNs (Ec x):=by
 unfold Ec D8 Ez
 rw[hm]
 refine qB3 (q9I fun y hy=>?_)
 simp only[xqn,if_false,Fq,Ib,xzg,List.mem_replicate]at hy
 rcases hy with⟨_,rfl⟩|⟨_,rfl⟩
 ·exact q7q
 ·exact P8 (by simp)
def m0 (c:Bg) (ch:List (Sl Int)):Nat:=c.nodes.l.length+1+ch.length
end Go.Lg
namespace Go.Lg
open Go Go.Proofs
variable {Γ:Tables}
theorem q4f {f:FuncId} {as':List AV} {ts:List T} {res:T} {K:T->Prop} (h:A7 Tryz.prog Γ f ts res) (ht:Ag (as'.map toT)=some ts) (hk:K res):q9g Tryz.prog Γ f as' K ⟨⟩:=⟨ts,res,ht,.inr h,hk⟩
theorem q9J (q:PD) (hq:qEN q) (c:Bg) (hc:COk c):A7 Tryz.prog Γ 13 [.agg (tPD q),.agg (tC c)] (.agg (tP (M7 q c))):=by
 refine Ac q7h rfl ?_
 have h1:=qDI (Γ:=Γ) q.i (Be c).length (Nat.le_trans (Rw c) hc.nodes) 4 (by omega)
 have h2:=qDI (Γ:=Γ) q.s (Ba c).length (Nat.le_trans (Ld c) hc.nodes) 3 (by omega)
 have l1:(Up q.i.l (Be c).length 4).length=(Be c).length:=q0X
 have l2:(Up q.s.l (Ba c).length 3).length=(Ba c).length:=q0X
 have k1:=E5 (l:=Up q.i.l (Be c).length 4)
 have k2:=E5 (l:=Up q.s.l (Ba c).length 3)
 rw[l1]at k1
 rw[l2]at k2
 simp[q2x,tC,A9,Ah,Ap,B8,tPD,tV]
 refine q4f (q7k c hc 0) rfl ?_
 simp
 refine⟨_,_,h1,?_⟩
 simp
 refine q4f (q7k c hc 14) rfl ?_
 simp
 refine⟨_,_,h2,?_⟩
 simp[q2y,Ar,Aj,k1,k2,tP,tV,M7,qHM,qHN]
structure NOk (c:Bg):Prop where
 ok:COk c
 lev:D3 c=0
 mm:c.mems.l=[]
 m0:mems c=[]
 n1:1<=c.nodes.l.length
 n2:c.nodes.l.length<=16
 k:∀ i,i<c.nodes.l.length->0<=Ad c i/\Ad c i<=14
theorem qJW {x:CD} (hx:q2Z x) (hm:x.mem=false):NOk (Nz x):=by
 have hl:=q0Q hx
 have h5:=q0R hx
 have hN:(Nz x).nodes.l=Ec x:=rfl
 have hp:=qEQ hx hm
 have hv:=q9H hx
 have h1:(Nz x).mems.l=[]:=by simp[Nz,q7T,hm]
 have h2:mems (Nz x)=[]:=by
  unfold q7P at hp
  rw[if_neg (by simp[hv])]at hp
  split at hp
  ·cases hp
  ·rename_i h;exact xqo (by omega)
 refine⟨qFM hx,hv,h1,h2,by rw[hN];omega,by rw[hN];omega,fun i hi=>?_⟩
 have hs:=(Ii hv).1
 have hn:=(Ig hs).2.2.1 _ (xqj hi)
 have hk:Ad (Nz x) i=(Nz x).nodes.l[i].k:=by simp[Ad,hi]
 have hkk:=(qFM hx).kind _ (xqj hi)
 have h15:¬ Ad (Nz x) i=15:=fun e=>by
  have:(i:Int)∈mems (Nz x):=(q4Q hi).2 e
  rw[h2]at this;cases this
 have hle:¬ 15<(Nz x).nodes.l[i].k:=fun h=>by
  unfold E6 at hn
  rw[if_pos h]at hn;cases hn
 rw[hk]at h15 ⊢
 omega
theorem qDN {l:List Int} {n:Nat} {most:Int} (hl:∀ v∈l,0<=v) (hm:0<most/\most<=4):∀ v∈Up l n most,V4 v:=by
 intro v hv
 obtain⟨i,_,rfl⟩:=xqy.1 hv
 split
 ·simp[V4]
 ·rename_i h
  have hpos:0<l.length:=xza.2 h
  have h0:0<=l.getD (i % l.length) 0:=by
   rw[Bn (Nat.mod_lt _ hpos)];exact hl _ (xqj _)
  generalize l.getD (i % l.length) 0=u at *
  rw[Int.tmod_eq_emod_of_nonneg h0]
  have:=Int.emod_nonneg u (show most≠0 by omega)
  have:=Int.emod_lt_of_pos u hm.1
  unfold V4;omega
structure POk (c:Bg) (p:Pat):Prop where
 i:p.inn.l.length=(Be c).length
 s:p.st.l.length=(Ba c).length
 vi:∀ v∈p.inn.l,V4 v
 vs:∀ v∈p.st.l,V4 v
theorem qB4 {q:PD} (hq:qEN q) (c:Bg):POk c (M7 q c) :=
 ⟨q0X,q0X,qDN (fun v hv=>(hq.1 v hv).1) (by omega),qDN (fun v hv=>(hq.2 v hv).1) (by omega)⟩
theorem qES {c:Bg} (hc:NOk c) {p:Pat} (hp:POk c p):qCA c p=0:=by
 unfold qCA
 rw[if_neg (by simp[hc.lev])]
 unfold Ya
 have a1:∀ {l:List Int},(∀ v∈l,V4 v)->l.any Di=false:=fun h=>xz8.2 fun v hv=>by have:=(h v hv).2;simp[Di];omega
 rw[if_neg (by rw[hc.mm,hc.m0];simp),if_neg (by simp[hp.i,hp.s]),a1 hp.vi,a1 hp.vs]
 simp
theorem q4g {c:Bg} {a b:List Int}:(C9 c a b).length=c.nodes.l.length:=by unfold C9;rw[q4O,Ze]
end Go.Lg
namespace Go.Lg
open Go Go.Proofs
theorem qNQ {l:List Bool} {i j:Nat} {v:Bool} (h:i<l.length):(l.set i v).getD j false=if j=i then v else l.getD j false:=by
 rw[xqe,xqe,xzb]
 by_cases e:i=j
 ·subst e;simp[h]
 ·rw[if_neg e,if_neg (fun h=>e h.symm)]
end Go.Lg
namespace Go.Lg
open Go Go.Proofs
variable {Γ:Tables}
theorem gE' {α:Type} {f:α->T} {l:List α} {i:Nat} (d:α) (h0:i<l.length):∀ h:i<(An f l).length,(An f l)[i]=[f (l.getD i d)]:=fun h=>by
 have:=Cm (f:=f) d h0
 rw[xqg h]at this
 simpa[xqe]using this
theorem gE {α:Type} {f:α->T} {l:List α} {i:Nat} (d:α) (h0:i<l.length):(An f l)[i]?.getD []=[f (l.getD i d)]:=by
 rw[xqg (by rw[A5];exact h0)]
 exact gE' d h0 _
theorem Blw.below {a b:Int} (h:Blw a b):qFQ a b=true:=by
 unfold qFQ
 rcases h with rfl|rfl
 ·simp
 ·simp[Ft]
theorem q8M.map {α:Type} {f g:α->Int} {l:List α} (h:∀ x∈l,Blw (f x) (g x)):q8M (l.map f) (l.map g):=by
 refine⟨by simp,fun i=>?_⟩
 by_cases hi:i<l.length
 ·rw[Bn (by simpa using hi),Bn (by simpa using hi),List.getElem_map,List.getElem_map]
  exact h _ (xqj hi)
 ·rw[xqe,xqe,List.getElem?_eq_none (by simp;omega),List.getElem?_eq_none (by simp;omega)]
  exact .refl _
end Go.Lg
namespace Go.Lg
open Go Go.Proofs
structure T3 where
 a:Int
 b:Int
 d:Int
deriving DecidableEq
def qHR (c:Bg) (rd:List (List Int)):List Int:=(mems c).map fun n=>(rd.getD (nd c n).mem.toNat []).getD (nd c n).bit.toNat 0
def qLT (c:Bg) (pin pst:List Int) (rd:List (List Int)):List Int:=Ge (mems c) (qHR c rd) (Y3 c pin pst)
def qLU (c:Bg) (pin pst:List Int) (rd:List (List Int)):List Int:=q6F c (Rq c) (qLT c pin pst rd)
def qCD:Nat->List Int->Bool
 | i,[]=>decide (i=0)
 | i,v::l=>if v<=1/\v≠(i:Int) % 2 then false else qCD (i / 2) l
def qI7 (a b:Int):Int:=if a=b then a else 2
def qHS (w:List Int) (b:Nat):Int:=if b<w.length then X4 (w.getD b 0)else 2
def qI8 (w:List Int) (first:Bool):Nat->Nat->List Int->List Int
 | 0,_,out=>out
 | k+1,b,out=>qI8 w first k (b+1) (out.set b (if first then qHS w b else qI7 (out.getD b 0) (qHS w b)))
def qI9 (addr:List Int):Nat->List (List Int)->List Int×Bool->List Int×Bool
 | _,[],s=>s
 | i,w::ws,s=>qI9 addr (i+1) ws (if qCD i addr then(qI8 w s.2 s.1.length 0 s.1,false)else s)
def qIA (words:List (List Int)) (addr:List Int):List Int:=match words with
 | []=>[]
 | w::ws=>(qI9 addr 0 (w::ws) (List.replicate w.length 2,true)).1
def qLV (addr:List Int) (en:Int):Bool:=decide (en=1) && !addr.any fun v=>!q3g v
def qJX (i:Nat) (addr:List Int) (en old new:Int):Int:=if en=0\/qCD i addr=false then old else if qLV addr en=true then new else qI7 old new
def qFp (i:Nat) (addr data:List Int) (en:Int) (w:List Int):Nat->Nat->List Int
 | 0,_=>[]
 | k+1,b=>qJX i addr en (qHS w b) (qHS data b)::qFp i addr data en w k (b+1)
def qCE (addr data:List Int) (en:Int):Nat->List (List Int)->List (List Int)
 | _,[]=>[]
 | i,w::ws=>qFp i addr data en w w.length 0::qCE addr data en (i+1) ws
end Go.Lg
namespace Go.Lg
open Go
section
variable {P:Program} {Γ:Tables} {Q:AX->St->Prop} {s:St}
/- slices.Repeat[[]probecard/api.Value,probecard/api.Value] (function 56) -/
abbrev Lj:IC:=.gh (.seq (.seq (.reg [om 34 8,om 35 7,od 36 (le 0 35),od 37 (.bin .lss (tm 34) (tm 36))] [kp [7,8,37] [30]]) (.cond (tm 37) .skip (.exit 0))) (.block 1 (.reg [om 38 8,om 39 7,om 40 8,od 41 (.slice 1 (tm 39) (some (tm 40))
 none none),om 42 7,om 43 8,od 44 (.slice 1 (tm 42) none (some (tm 43)) none),od 45 (.cpy 1 (tm 41) (tm 44)),od 46 (.bin .add (tm 38) (tm 45)),om 8 46] [kp [7,8] [30]]))) [kp [7,8] [30]]
def Ed:IC:=.loop Lj
abbrev Ll:IC:=(.seq (.reg [od 4 (.mv kN)] [kp [0,1] []]) (.seq (.seq (.reg [om 9 1,od 10 (.bin .lss (tm 9) (ki 0))] [kp [0,1,10] []]) (.cond (tm 10) .dead .skip)) (.seq (.reg [om 13 0,od 14 (le 0 13),od 15 (.conv .u64 (tm 14)),om 16 1,od
 17 (.conv .u64 (tm 16)),od 18 (.call 111 [(tm 15),(tm 17)]),om 12 18,od 19 (ex 12 0),od 20 (ex 12 1),om 5 19,om 6 20] [kp [0,5,6] []]) (.seq (.seq (.reg [om 21 5,od 22 (.bin .gtr (tm 21) (.const (.int .u64 0))),om 23 22,
 oF 24 (.mv (tm 6)) 23,oF 25 (.bin .gtr (tm 24) (.const (.int .u64 9223372036854775807))) 23,od 26 (.pick (tm 23) kT (tm 25))] [kp [0,6,26] []]) (.cond (tm 26) .dead .skip)) (.seq (.reg [om 28 6,od 29 (.conv .i64 (tm 28)),od
 30 (.mk 65 1 [(.int .u8 0)] (tm 29) (tm 29)),om 7 30] [kp [0,7] [30]]) (.seq (.reg [om 31 7,om 32 0,od 33 (.cpy 1 (tm 31) (tm 32)),om 8 33] [kp [7,8] [30]]) (.seq (.block 0 Ed) (.seq (.reg [om 47 7,om
 4 47] [kp [4] [30]]) .ret))))))))
theorem Ep (h:∀ K:St->Prop,K=run P Γ Ed Q->run P Γ Lj (B0 K Q) s):run P Γ Ed Q s:=Am h
def Gk:List RV:=[.tmp 4]
/- probecard/sims.Blank (function 17) -/
abbrev q32:IC:=(.seq (.reg [od 1 (.box true (tm 0)),od 2 (.alloc false [(.slice none 0 0),(.slice none 0 0)])] [kp [1,2] [2]]) (.seq (.reg [od 3 (.mv (.func 55))] [kp [1,2,3] [2]]) (.seq (.reg [om 4 3,od 5 (.ldT 4 true (tm 1)),od 6 (.call
 38 [(tm 5)]),od 7 (le 0 6),od 8 (.callv (tm 4) [(tm 7)]),om 9 3,od 10 (.ldT 4 true (tm 1)),od 11 (.call 39 [(tm 10)]),od 12 (le 0 11),od 13 (.callv (tm 9) [(tm 12)]),od 14 (.build [(1,(tm 8)),(1,(tm 13))]),on (.stR 2 2
 (tm 2) (tm 14))] [kp [2] [2]]) .ret)))
def q33:List RV:=[.cell 2 2 true]
/- probecard/sims.Blank$1 (function 55) -/
abbrev q0p:IC:=(.seq (.reg [od 2 (.mv kN)] [kp [0] []]) (.seq (.reg [od 3 (.bsl true 65 1 [(ku 2)]),om 4 0,od 5 (.call 56 [(tm 3),(tm 4)]),om 2 5] [kp [2] []]) .ret))
def q0q:List RV:=[.tmp 2]
/- math/bits.Mul (function 111) -/
abbrev q64:IC:=(.seq (.reg [od 4 (.mv (.const (.int .u64 0))),od 5 (.mv (.const (.int .u64 0)))] [kp [0,1] []]) (.seq (.cond kF (.seq (.reg [om 11 0,od 12 (.conv .u32 (tm 11)),om 13 1,od 14 (.conv .u32 (tm 13)),od 15 (.call 177 [(tm 12),
 (tm 14)]),om 10 15,od 16 (ex 10 0),od 17 (ex 10 1),om 6 16,om 7 17] [kp [6,7] []]) (.seq (.reg [om 18 6,od 19 (.conv .u64 (tm 18)),om 20 7,od 21 (.conv .u64 (tm 20)),om 4 19,om 5 21] [kp [4,5] []]) .ret)) .skip) (.seq
 (.reg [om 23 0,om 24 1,od 25 (.call 178 [(tm 23),(tm 24)]),om 22 25,od 26 (ex 22 0),od 27 (ex 22 1),om 8 26,om 9 27] [kp [8,9] []]) (.seq (.reg [om 28 8,om 29 9,om 4 28,om 5 29] [kp [4,5] []]) .ret))))
def q65:List RV:=[.tmp 4,.tmp 5]
/- math/bits.Mul64 (function 178) -/
abbrev q34:IC:=(.seq (.reg [od 4 (.mv (.const (.int .u64 0))),od 5 (.mv (.const (.int .u64 0)))] [kp [0,1] []]) (.seq (.reg [om 14 0,od 15 (.bin .and (tm 14) (.const (.int .u64 4294967295))),om 6 15] [kp [0,1,6] []]) (.seq (.reg [om 16 0,
 od 17 (.bin .shr (tm 16) (.const (.int .u64 32))),om 7 17] [kp [0,1,6,7] []]) (.seq (.reg [om 18 1,od 19 (.bin .and (tm 18) (.const (.int .u64 4294967295))),om 8 19] [kp [0,1,6,7,8] []]) (.seq (.reg [om 20 1,od 21 (.bin
 .shr (tm 20) (.const (.int .u64 32))),om 9 21] [kp [0,1,6,7,8,9] []]) (.seq (.reg [om 22 6,om 23 8,od 24 (.bin .mul (tm 22) (tm 23)),om 10 24] [kp [0,1,6,7,8,9,10] []]) (.seq (.reg [om 25 7,om 26 8,od 27 (.bin .mul
 (tm 25) (tm 26)),om 28 10,od 29 (.bin .shr (tm 28) (.const (.int .u64 32))),od 30 (.bin .add (tm 27) (tm 29)),om 11 30] [kp [0,1,6,7,9,11] []]) (.seq (.reg [om 31 11,od 32 (.bin .and (tm 31) (.const (.int .u64
 4294967295))),om 12 32] [kp [0,1,6,7,9,11,12] []]) (.seq (.reg [om 33 11,od 34 (.bin .shr (tm 33) (.const (.int .u64 32))),om 13 34] [kp [0,1,6,7,9,12,13] []]) (.seq (.reg [om 35 12,om 36 6,om 37 9,od 38 (.bin
 .mul (tm 36) (tm 37)),od 39 (.bin .add (tm 35) (tm 38)),om 12 39] [kp [0,1,7,9,12,13] []]) (.seq (.reg [om 40 7,om 41 9,od 42 (.bin .mul (tm 40) (tm 41)),om 43 13,od 44 (.bin .add (tm 42) (tm 43)),om 45 12,od 46 (.bin
 .shr (tm 45) (.const (.int .u64 32))),od 47 (.bin .add (tm 44) (tm 46)),om 4 47] [kp [0,1,4] []]) (.seq (.reg [om 48 0,om 49 1,od 50 (.bin .mul (tm 48) (tm 49)),om 5 50] [kp [4,5] []]) .ret))))))))))))
def q35:List RV:=[.tmp 4,.tmp 5]
end
end Go.Lg
namespace Go.Lg
open Go Go.Proofs
theorem Vx:Bc Tryz.prog 56 Ll 48 2 Gk=true:=by kernel_rfl
theorem q7r:Bc Tryz.prog 17 q32 15 1 q33=true:=by kernel_rfl
theorem q5U:Bc Tryz.prog 55 q0p 6 1 q0q=true:=by kernel_rfl
theorem q9t:Bc Tryz.prog 111 q64 30 2 q65=true:=by kernel_rfl
theorem q7s:Bc Tryz.prog 178 q34 51 2 q35=true:=by kernel_rfl
end Go.Lg
namespace Go.Lg
open Go Go.Proofs
variable {Γ:Tables}
theorem qHT {c:Bg} (h:D3 c=0) {p:Pat} (hp:POk c p):∀ v∈C9 c p.inn.l p.st.l,V4 v:=by
 have hf:=q4P h p.inn.l p.st.l
 have key:=qD8 h (Q:=fun i=>V4 ((C9 c p.inn.l p.st.l).getD i 0)) fun i hi hcb=>by
  rw[hf.2 i hi]
  split
  ·rename_i h
   refine q9n fun v hv=>?_
   obtain⟨q,hq,rfl⟩:=xqy.1 hv
   exact(hcb h q hq).2
  ·rw[qDD hp.i hp.s hi]
   split
   ·exact q1e hp.vi _
   split
   ·exact q1e hp.vs _
   ·simp[V4]
 intro v hv
 obtain⟨i,hi,rfl⟩:=xqt hv
 have:=key i (by rw[q4g]at hi;exact hi)
 rwa [Bn hi]at this
theorem q7t {n:Int} (h1:0<=n) (h2:n<18446744073709551616):IntKind.u64.wrap n=n:=by
 simp[IntKind.wrap,IntKind.signed,IntKind.bits]
 omega
theorem qLW {n:Nat} (h:n<4294967296):IntKind.u64.wrap ((BitVec.ofInt 64 (n:Int) &&& BitVec.ofInt 64 4294967295).toNat:Int)=n:=by
 have e:(BitVec.ofInt 64 (n:Int) &&& BitVec.ofInt 64 4294967295).toNat=n:=by
  rw[BitVec.toNat_and]
  have h1:(BitVec.ofInt 64 (n:Int)).toNat=n:=by
   simp[BitVec.toNat_ofInt];omega
  have h2:(BitVec.ofInt 64 4294967295).toNat=2 ^ 32-1:=by decide
  rw[h1,h2,Nat.and_two_pow_sub_one_eq_mod]
  omega
 rw[e,q7t]<;>omega
theorem qCF {n:Nat} (h:n<4294967296):IntKind.u64.wrap ((BitVec.ofNat 64 n &&& 4294967295#64).toNat:Int)=n:=by
 have:=qLW h
 rwa [show BitVec.ofInt 64 (n:Int)=BitVec.ofNat 64 n from by simp,show BitVec.ofInt 64 4294967295=4294967295#64 from rfl]at this
abbrev tU (n:Int):T:=.v (.int .u64 n)
theorem qCG {n:Nat} (h:n<4294967296):(n:Int).fdiv 4294967296=0:=by
 rw[Int.fdiv_eq_ediv_of_nonneg _ (by omega)];omega
theorem qCH (a b:Nat) (ha:a<65536) (hb:b<65536):A7 Tryz.prog Γ 178 [tU a,tU b] (.tup [tU 0,tU (a*b:Nat)]):=by
 refine Ac q7s rfl ?_
 have hab:a*b<=65535*65535:=Nat.mul_le_mul (by omega) (by omega)
 have a1:=qCF (n:=a) (by omega)
 have b1:=qCF (n:=b) (by omega)
 have z1:=qCF (n:=0) (by omega)
 have a2:=qCG (n:=a) (by omega)
 have b2:=qCG (n:=b) (by omega)
 have c2:=qCG (n:=a*b) (by omega)
 have m32:min (32:Int).toNat 64=32:=by decide
 have c1:IntKind.u64.wrap ((a:Int)*b)=((a*b:Nat):Int):=by rw[<- Int.natCast_mul,q7t]<;>omega
 have z2:IntKind.u64.wrap 0=0:=by decide
 simp[q34,q35,IntKind.bits,a1,b1,a2,b2,c1,c2,z1,z2,m32,-Int.natCast_mul]
 erw [a1,b1,c1,c2,z2]
theorem qFq (a b:Nat) (ha:a<65536) (hb:b<65536):A7 Tryz.prog Γ 111 [tU a,tU b] (.tup [tU 0,tU (a*b:Nat)]):=by
 refine Ac q9t rfl ?_
 simp[q64]
 refine A4 (qCH a b ha hb) rfl ?_
 simp[q65]
theorem qFr {j n:Nat} (h1:0<j) (h2:j<n):(List.replicate j [tK 2]++List.replicate (n-j) [tK 0]).take j++((List.replicate j [tK 2]++List.replicate (n-j) [tK 0]).take j).take (min (n-j) j)++(List.replicate j [tK 2]++List.replicate (n-j) [tK 0]).drop (j+min (n-j) j)=List.replicate (j+min (n-j) j) [tK 2]++List.replicate (n-(j+min (n-j) j)) [tK 0]:=by
 have e1:(List.replicate j [tK 2]++List.replicate (n-j) [tK 0]).take j=List.replicate j [tK 2]:=by
  rw[List.take_append_of_le_length (by simp),xqw (by simp)]
 have e2:(List.replicate j [tK 2]).take (min (n-j) j)=List.replicate (min (n-j) j) [tK 2]:=by
  rw[List.take_replicate,Nat.min_eq_left (Nat.min_le_right _ _)]
 rw[e1,e2,<- List.replicate_append_replicate (n:=j),List.drop_append,xq2 (by simp),List.nil_append,List.drop_replicate]
 congr 2
 simp;omega
theorem qB5 {Q:AX->St->Prop} (n:Nat) (hn:n<=1000000)
  (h0:Q (.exit 0) ⟨[(7,.ls 30 0 n none),(8,.t (tI n)),(37,.t (tB false))],[(30,.sl 65 1 (List.replicate n [tK 2]))]⟩) :
  ∀ (f j:Nat),n-j<=f->0<j->j<=n ->
  run Tryz.prog Γ Ed Q ⟨[(7,.ls 30 0 n none),(8,.t (tI j))],[(30,.sl 65 1 (List.replicate j [tK 2]++List.replicate (n-j) [tK 0]))]⟩
 | 0,j,hf,h1,h2=>by
  refine Ep fun K hK=>?_
  have h3:j=n:=by omega
  subst h3
  simp
  simpa using h0
 | f+1,j,hf,h1,h2=>by
  refine Ep fun K hK=>?_
  by_cases h3:j=n
  ·subst h3
   simp
   simpa using h0
  ·have h4:j<n:=by omega
   have ih:=qB5 n hn h0 f (j+min (n-j) j) (by omega) (by omega) (by omega)
   rw[<- qFr h1 h4]at ih
   have hw:Es 1 (List.replicate j [tK 2]++List.replicate (n-j) [tK 0]):=by
    intro e he
    rcases xzg.1 he with he|he<;>rw[xqx he]<;>rfl
   have hl:(List.replicate j [tK 2]++List.replicate (n-j) [tK 0]).length=n:=by simp;omega
   generalize List.replicate j [tK 2]++List.replicate (n-j) [tK 0]=es at *
   have hwt:Es 1 (es.take j):=fun e he=>hw e (xz6 he)
   have hjn:min j n=j:=by omega
   have w1:IntKind.i64.wrap ((j:Int)+((min (n-j) j:Nat):Int))=((j+min (n-j) j:Nat):Int):=by rw[A6]<;>omega
   simp[h4,h2,hl,hwt,hjn,w1,-Int.natCast_add]
   rw[hK]
   simpa using ih
theorem qB6 (n:Nat) (hn:n<=60000):B9 Tryz.prog Γ 56 [.sl [[tK 2]] (some 1) (some false),tI n] (.sl (List.replicate n [tK 2]) none none):=by
 refine Cc Vx rfl ?_
 have em:A7 Tryz.prog Γ 111 [tU 1,tU n] (.tup [tU 0,tU n]):=by
  have:=qFq (Γ:=Γ) 1 n (by omega) (by omega)
  rwa [Nat.one_mul]at this
 have u1:IntKind.u64.wrap (n:Int)=n:=by rw[q7t]<;>omega
 have u2:IntKind.u64.wrap 1=1:=by decide
 have u3:IntKind.i64.wrap (n:Int)=n:=by rw[A6]<;>omega
 have u4:¬ (9223372036854775807:Int)<n:=by omega
 have u5:¬ (n:Int)<0:=by omega
 have hw2:Es 1 [[tK 2]]:=by intro e he;simp at he;subst he;rfl
 simp[Ll,u1,u2,u5]
 refine A4 em rfl ?_
 simp[u3,u4]
 refine⟨by omega,?_⟩
 by_cases h0:n=0
 ·subst h0
  simp
  refine Ep fun K hK=>?_
  simp[Gk,Aj]
 ·have hm1:min n 1=1:=by omega
  have hdr:(List.replicate n [tK 0]).drop 1=List.replicate (n-1) [tK 0]:=by rw[List.drop_replicate]
  have g:=fun Q h0=>qB5 (Γ:=Γ) (Q:=Q) n (by omega) h0 n 1 (by omega) (by omega) (by omega)
  simp at g
  simp[hm1]
  refine g _ ?_
  simp[Gk,Aj]
theorem q66 (n:Nat) (hn:n<=60000):B9 Tryz.prog Γ 55 [tI n] (.sl (List.replicate n [tK 2]) none none):=by
 refine Cc q5U rfl ?_
 simp[q0p]
 refine B6 (qB6 n hn) rfl ?_
 simp[q0q]
theorem qCI (c:Bg) (hc:COk c) (hi:(Be c).length<=60000) (hs:(Ba c).length<=60000):B9 Tryz.prog Γ 17 [.agg (tC c)] (.agg [.sl (B7 (List.replicate (Be c).length 2)) none none,.sl (B7 (List.replicate (Ba c).length 2)) none none]):=by
 refine Cc q7r rfl ?_
 have e1:=Y9 (Γ:=Γ) c hc
 have e2:=Tt (Γ:=Γ) c hc
 have b1:=q66 (Γ:=Γ) (Be c).length hi
 have b2:=q66 (Γ:=Γ) (Ba c).length hs
 have v1:∀ n,B7 (List.replicate n 2)=List.replicate n [tK 2]:=fun n=>by simp[An]
 simp[tC,A9,Ah,Ap,B8]at e1 e2
 simp[q32,tC,A9,Ah,Ap,B8]
 refine B6 e1 rfl ?_
 simp[A5]
 refine B6 b1 rfl ?_
 simp
 refine B6 e2 rfl ?_
 simp[A5]
 refine B6 b2 rfl ?_
 simp[q33,v1]
theorem Jm {i:Nat} (h:i<=1000000000):IntKind.i64.wrap ((i:Int)+1)=(i:Int)+1:=by rw[A6]<;>omega
def Sl.z:Sl Int:=⟨[],none,none⟩
def Sm (B:Nat) (t:T3):Prop:=(0<=t.a/\t.a<=B)/\(0<=t.b/\t.b<=B)/\(0<=t.d/\t.d<=B)
theorem Sm.mono {B C:Nat} (hBC:B<=C) {t:T3} (h:Sm B t):Sm C t:=by
 obtain⟨⟨a0,a1⟩,⟨b0,b1⟩,⟨d0,d1⟩⟩:=h
 exact⟨⟨a0,by omega⟩,⟨b0,by omega⟩,⟨d0,by omega⟩⟩
theorem q9u {c:Bg} {n:Int} (h0:0<=n) (h:n<c.nodes.l.length):∀ h':n.toNat<(Bo E3 c.nodes.l).length,(Bo E3 c.nodes.l)[n.toNat]'h'=E3 (nd c n):=fun h'=>by
 have:=q5Q h0 h
 rw[xqg h']at this
 simpa using this
structure Stt where
 dff:Sl Int
 words:Sl (Sl (Sl Int))
 read:Sl (Sl Int)
def Stt.rd (s:Stt):List (List Int):=s.read.l.map (·.l)
def Stt.ws (s:Stt):List (List (List Int)):=s.words.l.map fun w=>w.l.map (·.l)
def Sl.zz:Sl (Sl Int):=⟨[],none,none⟩
def F5 (nets:List Int) (l:List Int):List Int:=l.map fun k=>nets.getD k.toNat 0
def hW (D:C5) (n:Nat) (W:WS) (ν:Nat->Nat):List (Nat×Aw) :=
 (1000000,.bx [.lp 1000001 0 0,.lm 1000004,.ls 1000003 0 n none,.ls (ν 999) 0 W.ch.length none])::(1000001,.bx (Ax D 1000002 n W.ev))::(1000002,.sl 65 1 (B7 W.nets))::(1000003,.sl 4 1 (An tB W.q))::(1000004,.mr (Eo ν W.wl))::Ug ν W
def NuC (c:Nat) (ν:Nat->Nat):Prop:=∀ u,u<1000->ν u=1000005+u\/ν u=c+u
abbrev Nu9 (ν:Nat->Nat):Prop:=NuC 900000 ν
theorem NuC.ok {c:Nat} {ν:Nat->Nat} (h:NuC c ν) (hc:800000<=c:=by omega) (hc2:c<=900000:=by omega):q5R ν:=⟨fun u v hu hv e=>by have:=h u hu;have:=h v hv;omega,fun u hu=>by have:=h u hu;omega⟩
def Zw (D:C5) (k:Int):Nat:=(D.lev.l.getD k.toNat 0).toNat
def Ff (D:C5) (W:WS) (k:Int):WS:=if W.q.getD k.toNat true then W else{ W with q:=W.q.set k.toNat true,wl:=Rx (Zw D k) k W.wl }
structure q36 (D:C5) (n:Nat):Prop where
 ln:D.lev.l.length=n
 lv:∀ v∈D.lev.l,0<=v/\v<999
 rn:D.rdr.l.length=n
 rr:∀ r∈D.rdr.l,r.l.length<=1000000/\∀ k∈r.l,0<=k/\k<n
structure WOk (n:Nat) (W:WS):Prop where
 nl:W.nets.length=n
 ql:W.q.length=n
 wl:U7 W.wl
 wn:∀ p∈W.wl,p.2.length+W.q.count false<=n
theorem q5V {k:Nat}:∀ {q:List Bool},k<q.length->q.getD k true=false->(q.set k true).count false+1=q.count false
 | [],h,_=>by simp at h
 | b::q,h,hb=>by
  cases k with
  | zero=>simp at hb;subst hb;simp
  | succ k =>
   have ih:=q5V (k:=k) (q:=q) (by simpa using h) (by simpa using hb)
   cases b<;>simp[List.count_cons]<;>omega
theorem q5W {lv:Nat} {k:Int}:∀ {wl:List (Nat×List Int)} {p:Nat×List Int},p∈Rx lv k wl->p∈wl\/p=(lv,[k])\/∃ l,(lv,l)∈wl/\p=(lv,l++[k])
 | [],p,h=>by simp[Rx]at h;exact .inr (.inl h)
 | (m,l)::wl,p,h=>by
  simp only[Rx]at h
  split at h
  ·rename_i e
   subst e
   rcases xqv.1 h with rfl|h
   ·exact .inr (.inr ⟨l,xqh,rfl⟩)
   ·exact .inl (xqf _ h)
  ·rcases xqv.1 h with rfl|h
   ·exact .inl xqh
   ·rcases q5W h with h|h|⟨l',h,e⟩
    ·exact .inl (xqf _ h)
    ·exact .inr (.inl h)
    ·exact .inr (.inr ⟨l',xqf _ h,e⟩)
theorem WOk.enq {n:Nat} {W:WS} {k:Nat} {x:Int} {m:Nat} (hw:WOk n W) (hk:k<n) (hq:W.q.getD k true=false) (hm:m<999):WOk n { W with q:=W.q.set k true,wl:=Rx m x W.wl }:=by
 have hc:=q5V (k:=k) (q:=W.q) (by rw[hw.ql];exact hk) hq
 have hle:W.q.count false<=n:=by rw[<- hw.ql];exact List.count_le_length
 refine⟨hw.nl,by simpa using hw.ql,hw.wl.add hm,fun p hp=>?_⟩
 simp only at hp ⊢
 rcases q5W hp with hp|rfl|⟨l,hl,rfl⟩
 ·have:=hw.wn p hp;omega
 ·simp;omega
 ·have:=hw.wn _ hl
  simp at this ⊢;omega
theorem Ic {α:Type} {t:Nat} {x:α}:∀ {l:List (Nat×α)},A0 l t=some x->(t,x)∈l
 | [],h=>by simp[A0]at h
 | (k,v)::l,h=>by
  simp only[A0]at h
  split at h
  ·rename_i e;subst e;simp only[xqa]at h;subst h;exact xqh
  ·exact xqf _ (Ic h)
def G2 (ν:Nat->Nat) (m b:Nat) (u:Nat):Nat:=if u=m then b else ν u
theorem q9v {ν:Nat->Nat} {b m len:Nat} {k:Int} {F G:AV->AV} {X:AV}:∀ {wl:List (Nat×List Int)},(wl.map (·.1)).Nodup->len=((A0 wl m).getD []).length+1->(∀ p∈wl,p.1≠m->G (F (.ls (ν p.1) 0 p.2.length none))=.ls (ν p.1) 0 p.2.length none)->G X=.ls b 0 len none ->
  (q3F (.int .i64 (m:Int)) X ((Eo ν wl).map fun e=>(e.1,F e.2))).map (fun e=>(e.1,G e.2))=Eo (G2 ν m b) (Rx m k wl)
 | [],_,hl,_,hx=>by
  simp only[A0,Option.getD_none,xq9]at hl
  simp[Eo,q3F,Rx,hx,G2,hl]
 | (q,l)::wl,hn,hl,hf,hx=>by
  simp only[xqm,xzj]at hn
  simp only[Eo,xqm,q3F,q5S,Rx]
  by_cases hm:m=q
  ·subst hm
   simp only[A0,if_true,xzy]at hl
   simp only[decide_true,if_true,xqm,hx,G2]
   rw[List.cons.injEq]
   refine⟨by simp[hl],?_⟩
   simp only[xq5]
   refine xq1 fun p hp=>?_
   have hpm:p.1≠m:=fun e=>hn.1 (e ▸ xzk hp)
   simp only[Function.comp,if_neg hpm]
   rw[hf p (xqf _ hp) hpm]
  ·have hm2:¬ q=m:=fun e=>hm e.symm
   simp only[A0,if_neg hm2]at hl
   have ih:=q9v (k:=k) hn.2 hl (fun p hp=>hf p (xqf _ hp)) hx
   simp only[Eo]at ih
   simp only[hm,decide_false,xqn,if_false,if_neg hm2,xqm,ih,G2]
   rw[hf (q,l) xqh hm2]
theorem q9w {ν:Nat->Nat} {m:Nat} (h:Nu9 ν):Nu9 (G2 ν m (900000+m)):=fun u hu=>by
 unfold G2
 split
 ·rename_i e;subst e;exact .inr rfl
 ·exact h u hu
theorem Yd {K i a b:Nat} (h:¬ i=K):Ae K (.lp i a b)=.lp i a b:=by simp[Ae,kill1,h]
theorem Ye {K i:Nat} (h:¬ i=K):Ae K (.lm i)=.lm i:=by simp[Ae,kill1,h]
theorem Kq {K i a b:Nat} {c:Option Nat} (h:¬ i=K):Ae K (.ls i a b c)=.ls i a b c:=by simp[Ae,kill1,h]
theorem Xk {K a b:Nat} {c:Option Nat}:Ae K (.ls K a b c)=.dead:=by simp[Ae,kill1]
theorem q4h {K:Nat} {x:T}:Ae K (.t x)=.t x:=rfl
theorem q3q {K:Nat}:Ae K .dead=.dead:=rfl
theorem Vy {K:Nat} {cs:List AV}:Bd K (.bx cs)=.bx (cs.map (Ae K)):=rfl
theorem q0b {K t s:Nat} {es:List (List T)}:Bd K (.sl t s es)=.sl t s es:=rfl
theorem q6Z {K:Nat} {es:List (Value×AV)}:Bd K (.mr es)=.mr (es.map fun e=>(e.1,Ae K e.2)):=rfl
theorem q7u {E:List (Nat×AV)} {D:C5} {n m:Nat} {W W':WS} {ν:Nat->Nat} {es:List (Value×AV)} {LS:List (Nat×Aw)} {L:List Int} {c0:AV} {a:Nat} (ha:a<1000) (hν:Nu9 ν) (hm:m<1000) (hw':U7 W'.wl) (hE:E.map (fun p=>(p.1,A8 (Aq a (900000+m)) p.2))=E)
  (h1:∀ u,u<1000->u≠m->A0 LS (ν u)=(Ie W' u).map fun l=>.sl 3 1 (Av l)) (h2:∀ t,(∀ u,u<1000->u≠m->t≠ν u)->A0 LS t=none) (hc:Ie W' m=some L) (he:W'.ev=W.ev)
  (hes:es.map (fun e=>(e.1,A8 (Aq a (900000+m)) e.2))=Eo (G2 ν m (900000+m)) W'.wl) (hc0:A8 (Aq a (900000+m)) c0=.ls (G2 ν m (900000+m) 999) 0 W'.ch.length none) :
  Imp Γ ⟨E,(a,.sl 3 1 (Av L))::(1000000,.bx [.lp 1000001 0 0,.lm 1000004,.ls 1000003 0 n none,c0])::(1000001,.bx (Ax D 1000002 n W.ev))::(1000002,.sl 65 1 (B7 W'.nets))::(1000003,.sl 4 1 (An tB W'.q))::(1000004,.mr es)::LS⟩
   ⟨E,hW D n W' (G2 ν m (900000+m))⟩:=by
 have hν':=q9w (m:=m) hν
 have q0:¬ 1000000=a:=by omega
 have q1:¬ 1000001=a:=by omega
 have q2:¬ 1000002=a:=by omega
 have q3:¬ 1000003=a:=by omega
 have q4:¬ 1000004=a:=by omega
 have q0':¬ a=1000000:=by omega
 have q1':¬ a=1000001:=by omega
 have q2':¬ a=1000002:=by omega
 have q3':¬ a=1000003:=by omega
 have q4':¬ a=1000004:=by omega
 have hb:A0 LS (900000+m)=none:=h2 _ fun u hu hum e=>by have:=hν u hu;omega
 have h100:A0 LS a=none:=h2 _ fun u hu hum e=>by have:=hν u hu;omega
 have hbig:∀ j,j<5->A0 LS (1000000+j)=none:=fun j hj=>h2 _ fun u hu hum e=>by have:=hν u hu;omega
 refine Imp.trans (Imp.gh (.ren a (900000+m)) _) ?_
 have hr:Gh.run (.ren a (900000+m)) ⟨E,(a,.sl 3 1 (Av L))::(1000000,.bx [.lp 1000001 0 0,.lm 1000004,.ls 1000003 0 n none,c0])::(1000001,.bx (Ax D 1000002 n W.ev))::(1000002,.sl 65 1 (B7 W'.nets))::(1000003,.sl 4 1 (An tB W'.q))::(1000004,.mr es)::LS⟩ =
   ⟨E,Jd a (900000+m) ((a,.sl 3 1 (Av L))::(1000000,.bx [.lp 1000001 0 0,.lm 1000004,.ls 1000003 0 n none,c0])::(1000001,.bx (Ax D 1000002 n W.ev))::(1000002,.sl 65 1 (B7 W'.nets))::(1000003,.sl 4 1 (An tB W'.q))::(1000004,.mr es)::LS)⟩:=by
  simp only[Gh.run,Uw]
  rw[if_pos,hE]
  have e1:¬ a=900000+m:=by omega
  have e2:¬ 1000000=900000+m:=by omega
  have e3:¬ 1000001=900000+m:=by omega
  have e4:¬ 1000002=900000+m:=by omega
  have e5:¬ 1000003=900000+m:=by omega
  have e6:¬ 1000004=900000+m:=by omega
  have e7:900000+m<1000000:=by omega
  simp[A0,e1,e2,e3,e4,e5,e6,hb,e7];omega
 rw[hr]
 refine Imp.like (fun t a h=>h) fun t=>?_
 rw[q0G (by
  have e1:¬ a=900000+m:=by omega
  have e2:¬ 1000000=900000+m:=by omega
  have e3:¬ 1000001=900000+m:=by omega
  have e4:¬ 1000002=900000+m:=by omega
  have e5:¬ 1000003=900000+m:=by omega
  have e6:¬ 1000004=900000+m:=by omega
  simp[A0,e1,e2,e3,e4,e5,e6,hb]) (by omega)]
 have hlk:=fun u (hu:u<1000)=>Jl (ν:=G2 ν m (900000+m)) (W:=W') hν'.ok hw' hu
 have hlo:=fun t h=>Dj (ν:=G2 ν m (900000+m)) (W:=W') (t:=t) hw' h
 have hcell:∀ i,i≠a->Aq a (900000+m) i=some i:=fun i hi=>by unfold Aq;rw[if_neg hi]
 have hlsC:∀ t,(t<1000000\/1000005<=t)->A0 (hW D n W' (G2 ν m (900000+m))) t=A0 (Ug (G2 ν m (900000+m)) W') t:=fun t ht=>by
  simp only[hW,A0]
  rw[if_neg (by omega),if_neg (by omega),if_neg (by omega),if_neg (by omega),if_neg (by omega)]
 by_cases ht:t=900000+m
 ·subst ht
  rw[if_pos rfl,hlsC _ (by omega)]
  have:=hlk m hm
  rw[show G2 ν m (900000+m) m=900000+m by simp[G2],hc]at this
  rw[this]
  simp[A0,Au]
 rw[if_neg ht]
 by_cases ht1:t=a
 ·subst ht1
  rw[if_pos rfl,hlsC _ (by omega)]
  exact hlo _ fun u hu e=>by have:=hν' u hu;omega
 rw[if_neg ht1]
 by_cases ht2:1000000<=t/\t<1000005
 ·obtain⟨j,hj,rfl⟩:∃ j,j<5/\t=1000000+j:=⟨t-1000000,by omega,by omega⟩
  have:j=0\/j=1\/j=2\/j=3\/j=4:=by omega
  rcases this with rfl|rfl|rfl|rfl|rfl
  ·have r1:A8 (Aq a (900000+m)) (.lp 1000001 0 0)=.lp 1000001 0 0:=by simp[A8,ren1,ren0,Aq,q0,q1,q2,q3,q4,q0',q1',q2',q3',q4']
   have r2:A8 (Aq a (900000+m)) (.lm 1000004)=.lm 1000004:=by simp[A8,ren1,ren0,Aq,q0,q1,q2,q3,q4,q0',q1',q2',q3',q4']
   have r3:A8 (Aq a (900000+m)) (.ls 1000003 0 n none)=.ls 1000003 0 n none:=by simp[A8,ren1,ren0,Aq,q0,q1,q2,q3,q4,q0',q1',q2',q3',q4']
   simp only[hW,A0,xzp,if_true,<- hc0,q0',if_false,xql,Au,xqm,xq3,r1,r2,r3]
  ·simp[hW,A0,Au,q0',q1',q2',q3',q4',A8,ren1,ren0,Aq,q0,q1,q2,q3,q4,q0',q1',q2',q3',q4',Ax,he]
  ·simp[hW,A0,Au,q0',q1',q2',q3',q4']
  ·simp[hW,A0,Au,q0',q1',q2',q3',q4']
  ·simp[hW,A0,Au,<- hes,q0',q1',q2',q3',q4']
 ·rw[hlsC _ (by omega)]
  have hlook:A0 ((a,Aw.sl 3 1 (Av L))::(1000000,.bx [.lp 1000001 0 0,.lm 1000004,.ls 1000003 0 n none,c0])::(1000001,.bx (Ax D 1000002 n W.ev))::(1000002,.sl 65 1 (B7 W'.nets))::(1000003,.sl 4 1 (An tB W'.q))::(1000004,.mr es)::LS) t=A0 LS t:=by
   simp only[A0]
   rw[if_neg (by omega),if_neg (by omega),if_neg (by omega),if_neg (by omega),if_neg (by omega),if_neg (by omega)]
  rw[hlook]
  by_cases hu:∃ u,u<1000/\u≠m/\t=ν u
  ·obtain⟨u,hu,hum,rfl⟩:=hu
   rw[h1 u hu hum]
   have:=hlk u hu
   rw[show G2 ν m (900000+m) u=ν u by simp[G2,hum]]at this
   rw[this]
   cases Ie W' u<;>rfl
  ·rw[h2 t fun u hu' hum e=>hu ⟨u,hu',hum,e⟩]
   simp only[xzx]
   refine hlo _ fun u hu' e=>?_
   unfold G2 at e
   split at e
   ·exact ht e
   ·rename_i hum;exact hu ⟨u,hu',hum,e⟩
def Kp (ν:Nat->Nat) (W:WS) (ν':Nat->Nat) (W':WS):Prop:=∀ u,u<1000->ν' u=1000005+u->ν u=1000005+u/\Ie W' u=Ie W u
theorem Kp.refl (ν:Nat->Nat) (W:WS):Kp ν W ν W:=fun u _ h=>⟨h,rfl⟩
theorem Kp.upd {ν0 ν:Nat->Nat} {W0 W W':WS} {m:Nat} (h:Kp ν0 W0 ν W) (hc:∀ u,u≠m->Ie W' u=Ie W u):Kp ν0 W0 (G2 ν m (900000+m)) W':=fun u hu e=>by
 unfold G2 at e
 split at e
 ·omega
 ·rename_i hum;rw[hc u hum];exact h u hu e
def q7v (row:Sl Int) (i:Nat):List (Nat×AV):=[(0,.lp 1000000 0 0),(49,.t (B8 row)),(50,.t (tI row.l.length)),(51,.t (tI i))]
theorem q9x {Q:AX->St->Prop} (D:C5) (n:Nat) (hD:q36 D n) (hn:n<=1000000) (row:Sl Int) (hr:row.l.length<=1000000) (hin:∀ k∈row.l,0<=k/\k<n) (R:WS)
  (ν0:Nat->Nat) (W0:WS) (h0:∀ ν,Nu9 ν->Kp ν0 W0 ν R->Q (.exit 0) ⟨q7v row row.l.length++[(52,.t (tB false))],hW D n R ν⟩) :
  ∀ (j i:Nat) (W:WS) (ν:Nat->Nat),j+i=row.l.length->Nu9 ν->Kp ν0 W0 ν W->WOk n W->(row.l.drop i).foldl (Ff D) W=R ->
  run Tryz.prog Γ J5 Q ⟨q7v row i,hW D n W ν⟩
 | 0,i,W,ν,h,hν,hkp,hW',hR=>by
  refine Qd fun K hK=>?_
  have h2:i=row.l.length:=by omega
  subst h2
  rw[xzs]at hR
  subst hR
  have:=h0 ν hν hkp
  simp[q7v,hW,B8]at this
  simp[q7v,hW,B8]
  simpa using this
 | j+1,i,W,ν,h,hν,hkp,hw,hR=>by
  refine Qd fun K hK=>?_
  have h2:i<row.l.length:=by omega
  rw[xqq h2]at hR
  have e:=gE (f:=tI) 0 h2
  have e':=gE' (f:=tI) 0 h2
  have hq:=hin _ (xqj h2)
  rw[Bn h2]at e e'
  generalize row.l[i]=k at *
  simp only[xz4]at hR
  have hkn:k.toNat<n:=by omega
  have hkq:k.toNat<W.q.length:=by rw[hw.ql];exact hkn
  have hkl:k.toNat<D.lev.l.length:=by rw[hD.ln];exact hkn
  have eq:=gE (f:=tB) true hkq
  have eq':=gE' (f:=tB) true hkq
  have el:=gE (f:=tI) 0 hkl
  have el':=gE' (f:=tI) 0 hkl
  have hlv:=hD.lv _ (xqj hkl)
  have hlw:Zw D k=(D.lev.l.getD k.toNat 0).toNat:=rfl
  rw[Bn hkl]at el el' hlw
  have w1:=Jm (i:=i) (by omega)
  by_cases hb:W.q.getD k.toNat true=true
  ·have hen:Ff D W k=W:=by unfold Ff;rw[hb];rfl
   rw[hb]at eq eq'
   rw[hen]at hR
   have ih:=q9x D n hD hn row hr hin R ν0 W0 h0 j (i+1) W ν (by omega) hν hkp hw hR
   simp[q7v,hW,B8,Ax]at ih
   simp[q7v,hW,B8,Ax,h2,A5,Aa,e,e',eq,eq',hq,hw.ql,hkn,hb,w1]
   rw[hK]
   simpa using ih
  ·have hen:Ff D W k={ W with q:=W.q.set k.toNat true,wl:=Rx (Zw D k) k W.wl }:=by unfold Ff;rw[if_neg hb]
   rw[hen]at hR
   simp only[xzm]at hb
   rw[hb]at eq eq'
   generalize D.lev.l[k.toNat]=lv at *
   have hlt:Zw D k<999:=by omega
   have hlc:lv=((Zw D k:Nat):Int):=by omega
   generalize Zw D k=m at *
   subst hlc
   have hx:=hν m (by omega)
   have hx9:=hν 999 (by omega)
   have hne:¬ ν 999=ν m:=by omega
   have bs:(An tB W.q).set k.toNat [tB true]=An tB (W.q.set k.toNat true):=I8
   have hfind:=q7m (ν:=ν) (lv:=m) (wl:=W.wl)
   have hfit:=q7n (ν:=ν) (wl:=W.wl)
   have ih:=q9x D n hD hn row hr hin R ν0 W0 h0 j (i+1) { W with q:=W.q.set k.toNat true,wl:=Rx m k W.wl }
   have ho9:A0 (Ug ν W) 100=none:=Dj hw.wl fun u hu e=>by have:=hν u hu;omega
   have hk9:=Jl hν.ok hw.wl (u:=m) (by omega)
   simp only[Ie,if_neg (show ¬ m=999 by omega)]at hk9
   cases hl:A0 W.wl m with
   | none =>
    rw[hl]at hfind hk9
    simp only[xzx]at hfind hk9
    simp[q7v,hW,B8,Ax]at ih
    simp[q7v,hW,B8,Ax,h2,A5,Aa,e,e',eq,eq',el,el',hq,hw.ql,hkn,hb,w1,hD.ln,bs,hfind,hfit,ho9]
    refine⟨rfl,_,q7u (D:=D) (n:=n) (m:=m) (W:=W) (W':={ W with q:=W.q.set k.toNat true,wl:=Rx m k W.wl }) (L:=[k]) (a:=100) (by omega) hν (by omega) (hw.wl.add hlt) (by simp[A8,ren1,ren0,Aq]) (fun u hu hum=>?_) (fun t ht=>?_) ?_ rfl ?_ ?_,?_⟩
    ·rw[Jl hν.ok hw.wl hu]
     simp only[Ie,P5,if_neg hum]
    ·by_cases htm:t=ν m
     ·rw[htm];exact hk9
     ·refine Dj hw.wl fun u hu e=>?_
      by_cases hum:u=m
      ·subst hum;exact htm e
      ·exact ht u hu hum e
    ·simp only[Ie,if_neg (show ¬ m=999 by omega),P5,if_true,hl,Option.getD_none,List.nil_append]
    ·have:=q9v (ν:=ν) (b:=900000+m) (m:=m) (len:=1) (k:=k) (F:=fun a=>a) (G:=A8 (Aq 100 (900000+m))) (X:=.ls 100 0 1 none) hw.wl.nd (by rw[hl];rfl) (fun p hp hpm=>by
      have h9:=hν p.1 (by have:=hw.wl.lt p hp;omega)
      have:¬ ν p.1=100:=by omega
      simp[A8,ren1,ren0,Aq,this]) (by simp[A8,ren1,ren0,Aq])
     simpa using this
    ·have:¬ ν 999=100:=by omega
     have h8:¬ 999=m:=by omega
     simp[A8,ren1,ren0,Aq,this,G2,h8]
    ·simp[w1]
     rw[hK]
     have:=ih (G2 ν m (900000+m)) (by omega) (q9w hν) (hkp.upd fun u hum=>by simp only[Ie,P5,if_neg hum]) (hw.enq hkn hb hlt) hR
     simpa[hW,Ax,B8]using this
   | some l =>
    rw[hl]at hfind hk9
    simp only[xql]at hfind hk9
    have hll:=hw.wn (m,l) (by
     have:=Ic hl
     exact this)
    simp only at hll
    simp[q7v,hW,B8,Ax]at ih
    have f0:¬ 1000000=ν m:=by omega
    have f1:¬ 1000001=ν m:=by omega
    have f2:¬ 1000002=ν m:=by omega
    have f3:¬ 1000003=ν m:=by omega
    have f4:¬ 1000004=ν m:=by omega
    have hkl:∀ t,A0 (List.map (fun p:Nat×Aw=>(p.1,Bd (ν m) p.2)) (List.filter (fun p=>p.1 != ν m) (Ug ν W))) t=if t=ν m then none else A0 (Ug ν W) t:=fun t=>by
     have:=Lp (st:=⟨[],Ug ν W⟩) (ν m) t
     refine Eq.trans this ?_
     split
     ·rfl
     ·have key:∀ r,A0 (Ug ν W) t=some r->Bd (ν m) r=r:=fun r hr=>by
       by_cases hu:∃ u,u<1000/\t=ν u
       ·obtain⟨u,hu,rfl⟩:=hu
        rw[Jl hν.ok hw.wl hu]at hr
        cases hcu:Ie W u with
        | none=>rw[hcu]at hr;cases hr
        | some x=>rw[hcu]at hr;cases hr;rfl
       ·rw[Dj hw.wl fun u hu' e=>hu ⟨u,hu',e⟩]at hr;cases hr
      show(A0 (Ug ν W) t).map (Bd (ν m))=A0 (Ug ν W) t
      cases hr:A0 (Ug ν W) t with
      | none=>rfl
      | some r=>simp only[xql,key r hr]
    have hk100:=hkl 100
    rw[if_neg (by omega),ho9]at hk100
    have e9:Av l++[[tI k]]=Av (l++[k]):=Gy
    simp[-Bd,-Ae,-kill1,Yd,Ye,Kq,Xk,q4h,q3q,Vy,q0b,q6Z,q7v,hW,B8,Ax,h2,A5,Aa,e,e',eq,eq',el,el',hq,hw.ql,hkn,hb,w1,hD.ln,bs,hfind,hfit,ho9,hk9,f0,f1,f2,f3,f4,hne,hk100,e9]
    refine⟨rfl,by omega,⟨rfl,fun p hp=>?_⟩,_,q7u (D:=D) (n:=n) (m:=m) (W:=W) (W':={ W with q:=W.q.set k.toNat true,wl:=Rx m k W.wl }) (L:=l++[k]) (a:=100) (by omega) hν (by omega) (hw.wl.add hlt) (by simp[A8,ren1,ren0,Aq]) (fun u hu hum=>?_) (fun t ht=>?_) ?_ rfl ?_ ?_,?_⟩
    ·obtain⟨q,hq',rfl⟩:=xqy.1 hp
     exact hfit q hq'
    ·rw[hkl,if_neg (fun e=>hum (hν.ok.inj u m hu (by omega) e)),Jl hν.ok hw.wl hu]
     simp only[Ie,P5,if_neg hum]
    ·rw[hkl]
     by_cases htm:t=ν m
     ·rw[if_pos htm]
     ·rw[if_neg htm]
      refine Dj hw.wl fun u hu e=>?_
      by_cases hum:u=m
      ·subst hum;exact htm e
      ·exact ht u hu hum e
    ·simp only[Ie,if_neg (show ¬ m=999 by omega),P5,if_true,hl,xzy]
    ·exact q9v (ν:=ν) (b:=900000+m) (m:=m) (len:=l.length+1) (k:=k) (F:=Ae (ν m)) (G:=A8 (Aq 100 (900000+m))) (X:=.ls 100 0 (l.length+1) none) hw.wl.nd (by rw[hl];rfl) (fun p hp hpm=>by
      have h8:=hw.wl.lt p hp
      have h9:=hν p.1 (by omega)
      have h7:¬ ν p.1=ν m:=fun e=>hpm (hν.ok.inj _ _ (by omega) (by omega) e)
      have:¬ ν p.1=100:=by omega
      rw[Kq h7]
      simp[A8,ren1,ren0,Aq,this]) (by simp[A8,ren1,ren0,Aq])
    ·have:¬ ν 999=100:=by omega
     have h8:¬ 999=m:=by omega
     simp[A8,ren1,ren0,Aq,this,G2,h8]
    ·simp[w1]
     rw[hK]
     have:=ih (G2 ν m (900000+m)) (by omega) (q9w hν) (hkp.upd fun u hum=>by simp only[Ie,P5,if_neg hum]) (hw.enq hkn hb hlt) hR
     simpa[hW,Ax,B8]using this
def Gv (D:C5) (W:WS) (n:Int) (v:Int):WS:=if W.nets.getD n.toNat 0=v then W else(D.rdr.l.getD n.toNat Sl.z).l.foldl (Ff D) { W with nets:=W.nets.set n.toNat v,ch:=W.ch++[n] }
def D2 (u:Nat):Nat:=1000005+u
theorem q0c:Nu9 D2:=fun u _=>.inl rfl
theorem qFs {ν:Nat->Nat} {W:WS} (hν:q5R ν) (hw:U7 W.wl) (K t:Nat):A0 (List.map (fun p:Nat×Aw=>(p.1,Bd K p.2)) (List.filter (fun p=>p.1 != K) (Ug ν W))) t=if t=K then none else A0 (Ug ν W) t:=by
 have:=Lp (st:=⟨[],Ug ν W⟩) K t
 refine Eq.trans this ?_
 split
 ·rfl
 ·have key:∀ r,A0 (Ug ν W) t=some r->Bd K r=r:=fun r hr=>by
   by_cases hu:∃ u,u<1000/\t=ν u
   ·obtain⟨u,hu,rfl⟩:=hu
    rw[Jl hν hw hu]at hr
    cases hcu:Ie W u with
    | none=>rw[hcu]at hr;cases hr
    | some x=>rw[hcu]at hr;cases hr;rfl
   ·rw[Dj hw fun u hu' e=>hu ⟨u,hu',e⟩]at hr;cases hr
  show(A0 (Ug ν W) t).map (Bd K)=A0 (Ug ν W) t
  cases hr:A0 (Ug ν W) t with
  | none=>rfl
  | some r=>simp only[xql,key r hr]
def hWX:=hW
theorem qCJ (D:C5) (n:Nat) (hD:q36 D n) (hn:n<=1000000) (W:WS) (hw:WOk n W) (hc:W.ch.length<=1000000) (x v:Int) (hx:0<=x/\x<n) (ν:Nat->Nat) (hν:Nu9 ν) :
  ∃ ν',Nu9 ν'/\Kp ν W ν' (Gv D W x v)/\Bf Tryz.prog Γ 44 (hW D n W ν) [.lp 1000000 0 0,.t (tI x),.t (tK v)] (.t (.tup [])) (hW D n (Gv D W x v) ν'):=by
 have key:∃ res hp',Bf Tryz.prog Γ 44 (hW D n W ν) [.lp 1000000 0 0,.t (tI x),.t (tK v)] res hp'/\(res=.t (.tup [])/\∃ ν',Nu9 ν'/\Kp ν W ν' (Gv D W x v)/\hp'=hWX D n (Gv D W x v) ν'):=by
  refine q47 q2d rfl ?_
  have hxn:x.toNat<n:=by omega
  have hxl:x.toNat<W.nets.length:=by rw[hw.nl];exact hxn
  have hxr:x.toNat<D.rdr.l.length:=by rw[hD.rn];exact hxn
  have e:=gE (f:=tK) 0 hxl
  have e':=gE' (f:=tK) 0 hxl
  have er:=gE (f:=B8) Sl.z hxr
  have er':=gE' (f:=B8) Sl.z hxr
  have hrow:D.rdr.l.getD x.toNat Sl.z∈D.rdr.l:=by
   have:D.rdr.l.getD x.toNat Sl.z=D.rdr.l[x.toNat]:=by simp[xqe,hxr]
   rw[this];exact xqj hxr
  obtain⟨hr1,hr2⟩:=hD.rr _ hrow
  have hset:Gv D W x v=if W.nets.getD x.toNat 0=v then W else(D.rdr.l.getD x.toNat Sl.z).l.foldl (Ff D) { W with nets:=W.nets.set x.toNat v,ch:=W.ch++[x] }:=rfl
  rw[hset]
  generalize D.rdr.l.getD x.toNat Sl.z=row at *
  generalize hnv:W.nets.getD x.toNat 0=u at *
  by_cases huv:u=v
  ·rw[if_pos huv]
   subst huv
   simp[Oc,J6,hW,Ax,B8,A5,Aa,hx,hxn,hw.nl,e,e']
   exact⟨ν,hν,Kp.refl _ _,rfl⟩
  ·rw[if_neg huv]
   have vs:(B7 W.nets).set x.toNat [tK v]=B7 (W.nets.set x.toNat v):=I8
   have hx9:=hν 999 (by omega)
   have hk9:=Jl hν.ok hw.wl (u:=999) (by omega)
   simp only[Ie,if_true,xql]at hk9
   have f0:¬ 1000000=ν 999:=by omega
   have f1:¬ 1000001=ν 999:=by omega
   have f2:¬ 1000002=ν 999:=by omega
   have f3:¬ 1000003=ν 999:=by omega
   have f4:¬ 1000004=ν 999:=by omega
   have f5:¬ 37=ν 999:=by omega
   have hkl:=qFs hν.ok hw.wl (ν 999)
   have ho9:A0 (Ug ν W) 37=none:=Dj hw.wl fun u hu e=>by have:=hν u hu;omega
   have hk37:=hkl 37
   rw[if_neg f5,ho9]at hk37
   have e9:Av W.ch++[[tI x]]=Av (W.ch++[x]):=Gy
   have hrd:row.l=[]\/True:=.inr trivial
   simp[-Bd,-Ae,-kill1,Yd,Ye,Kq,Xk,q4h,q3q,Vy,q0b,q6Z,Oc,J6,hW,Ax,B8,A5,Aa,hx,hxn,hw.nl,e,e',huv,vs,hk9,f0,f1,f2,f3,f4,hk37,e9]
   refine⟨by omega,_,q7u (D:=D) (n:=n) (m:=999) (W:=W) (W':={ W with nets:=W.nets.set x.toNat v,ch:=W.ch++[x] }) (L:=W.ch++[x]) (a:=37) (by omega) hν (by omega) hw.wl (by simp[A8,ren1,ren0,Aq]) (fun u hu hum=>?_) (fun t ht=>?_) ?_ rfl ?_ ?_,?_⟩
   ·rw[hkl,if_neg (fun e=>hum (hν.ok.inj u 999 hu (by omega) e)),Jl hν.ok hw.wl hu]
    simp only[Ie,if_neg hum]
   ·rw[hkl]
    by_cases htm:t=ν 999
    ·rw[if_pos htm]
    ·rw[if_neg htm]
     refine Dj hw.wl fun u hu e=>?_
     by_cases hum:u=999
     ·subst hum;exact htm e
     ·exact ht u hu hum e
   ·simp only[Ie,if_true]
   ·simp only[Eo,xq5]
    refine xq1 fun p hp=>?_
    have h8:=hw.wl.lt p hp
    have h9:=hν p.1 (by omega)
    have h7:¬ ν p.1=ν 999:=by omega
    have h6:¬ ν p.1=37:=by omega
    have h5:¬ p.1=999:=by omega
    simp only[Function.comp,Kq h7]
    simp[A8,ren1,ren0,Aq,h6,G2,h5]
   ·simp[A8,ren1,ren0,Aq,G2]
   ·have hw2:WOk n { W with nets:=W.nets.set x.toNat v,ch:=W.ch++[x] }:=⟨by simpa using hw.nl,hw.ql,hw.wl,hw.wn⟩
    have hl:=fun Q h0=>q9x (Γ:=Γ) (Q:=Q) D n hD hn row hr1 hr2 (row.l.foldl (Ff D) { W with nets:=W.nets.set x.toNat v,ch:=W.ch++[x] }) ν W h0 row.l.length 0 { W with nets:=W.nets.set x.toNat v,ch:=W.ch++[x] } (G2 ν 999 (900000+999)) (by omega) (q9w hν) ((Kp.refl ν W).upd fun u hum=>by simp only[Ie,if_neg hum]) hw2 rfl
    generalize (row.l.foldl (Ff D) { W with nets:=W.nets.set x.toNat v,ch:=W.ch++[x] })=RW at *
    simp[hW,Ax,B8,q7v]at hl
    simp[hW,Ax,B8,qFg,er,er',A5,Aa,hx,hxn,hD.rn]
    refine hl _ fun ν' hν' hk'=>?_
    simp[J6]
    exact⟨ν',hν',hk',rfl⟩
 obtain⟨res,hp',h,rfl,ν',hν',hk',rfl⟩:=key
 exact⟨ν',hν',hk',h⟩
def hG (J:Nat->Nat) (D:C5) (n:Nat) (W:WS) (ν:Nat->Nat):List (Nat×Aw) :=
 (J 0,.bx [.lp (J 1) 0 0,.lm (J 4),.ls (J 3) 0 n none,.ls (ν 999) 0 W.ch.length none])::(J 1,.bx (Ax D (J 2) n W.ev))::(J 2,.sl 65 1 (B7 W.nets))::(J 3,.sl 4 1 (An tB W.q))::(J 4,.mr (Eo ν W.wl))::Ug ν W
structure JOk (J ν:Nat->Nat):Prop where
 ji:∀ i j,i<5->j<5->J i=J j->i=j
 ni:∀ u v,u<1000->v<1000->ν u=ν v->u=v
 jn:∀ i u,i<5->u<1000->J i≠ν u
def O1 (J ν:Nat->Nat):List Nat:=(List.range 5).map J++(List.range 1000).map ν
theorem q9y {J ν:Nat->Nat}:(O1 J ν).length=1005:=by simp[O1]
theorem qIB {J ν:Nat->Nat} {i:Nat} (h:i<5):(O1 J ν)[i]? = some (J i):=by
 unfold O1
 rw[xzd (by simpa using h)]
 simp[h]
theorem qFt {J ν:Nat->Nat} {u:Nat} (h:u<1000):(O1 J ν)[5+u]? = some (ν u):=by
 unfold O1
 rw[xze (by simp)]
 simp[h]
theorem Eu {J ν:Nat->Nat} {t:Nat}:t∈O1 J ν↔(∃ i,i<5/\t=J i)\/∃ u,u<1000/\t=ν u:=by
 unfold O1
 simp only[xzg,xqy,List.mem_range]
 constructor
 ·rintro(⟨i,hi,rfl⟩|⟨u,hu,rfl⟩)
  ·exact .inl ⟨i,hi,rfl⟩
  ·exact .inr ⟨u,hu,rfl⟩
 ·rintro(⟨i,hi,rfl⟩|⟨u,hu,rfl⟩)
  ·exact .inl ⟨i,hi,rfl⟩
  ·exact .inr ⟨u,hu,rfl⟩
theorem q37 {f:Nat->Nat} {l:List Nat} (hl:l.Nodup) (hf:∀ a∈l,∀ b∈l,f a=f b->a=b):(l.map f).Nodup:=by
 rw[List.Nodup,List.pairwise_map]
 exact List.Pairwise.imp_of_mem (fun ha hb hne e=>hne (hf _ ha _ hb e)) hl
theorem qCK {J ν:Nat->Nat} (h:JOk J ν):(O1 J ν).Nodup:=by
 unfold O1
 rw[List.nodup_append]
 refine⟨?_,?_,?_⟩
 ·refine q37 List.nodup_range fun a ha b hb e=>?_
  exact h.ji a b (List.mem_range.1 ha) (List.mem_range.1 hb) e
 ·refine q37 List.nodup_range fun a ha b hb e=>?_
  exact h.ni a b (List.mem_range.1 ha) (List.mem_range.1 hb) e
 ·intro a ha b hb
  obtain⟨i,hi,rfl⟩:=xqy.1 ha
  obtain⟨u,hu,rfl⟩:=xqy.1 hb
  exact h.jn i u (List.mem_range.1 hi) (List.mem_range.1 hu)
theorem q7w {l:List Nat} (hn:l.Nodup) {k t:Nat} (h:l[k]? = some t):l.idxOf t=k:=by
 obtain⟨hk,rfl⟩:=xqi.1 h
 exact hn.idxOf_getElem k hk
theorem qDO {J ν:Nat->Nat} (h:JOk J ν) {i:Nat} (hi:i<5):(O1 J ν).idxOf (J i)=i:=q7w (qCK h) (qIB hi)
theorem qFu {J ν:Nat->Nat} (h:JOk J ν) {u:Nat} (hu:u<1000):(O1 J ν).idxOf (ν u)=5+u:=q7w (qCK h) (qFt hu)
theorem q9K {J ν:Nat->Nat} (h:JOk J ν) {i:Nat} (hi:i<5):Qh (O1 J ν) (J i)=some (1000000+i):=by
 unfold Qh
 rw[if_pos (by simpa using Eu.2 (.inl ⟨i,hi,rfl⟩)),qDO h hi]
theorem qIC {J ν:Nat->Nat} (h:JOk J ν) {u:Nat} (hu:u<1000):Qh (O1 J ν) (ν u)=some (1000005+u):=by
 unfold Qh
 rw[if_pos (by simpa using Eu.2 (.inr ⟨u,hu,rfl⟩)),qFu h hu]
 congr 1;omega
theorem S1 {J ν:Nat->Nat} {D:C5} {n:Nat} {W:WS} (h:JOk J ν):A0 (hG J D n W ν) (J 0)=some (.bx [.lp (J 1) 0 0,.lm (J 4),.ls (J 3) 0 n none,.ls (ν 999) 0 W.ch.length none])/\A0 (hG J D n W ν) (J 1)=some (.bx (Ax D (J 2) n W.ev)) /\
  A0 (hG J D n W ν) (J 2)=some (.sl 65 1 (B7 W.nets))/\A0 (hG J D n W ν) (J 3)=some (.sl 4 1 (An tB W.q))/\A0 (hG J D n W ν) (J 4)=some (.mr (Eo ν W.wl)):=by
 have hne:∀ i j,i<5->j<5->i≠j->¬ J i=J j:=fun i j hi hj hij e=>hij (h.ji i j hi hj e)
 refine⟨?_,?_,?_,?_,?_⟩<;>simp[hG,A0,hne]
theorem S3 {J ν:Nat->Nat} {D:C5} {n:Nat} {W:WS} (h:JOk J ν) (hν:q5R ν) (hw:U7 W.wl) {u:Nat} (hu:u<1000):A0 (hG J D n W ν) (ν u)=(Ie W u).map fun l=>.sl 3 1 (Av l):=by
 have hne:∀ i,i<5->¬ J i=ν u:=fun i hi=>h.jn i u hi hu
 rw[<- Jl hν hw hu]
 simp[hG,A0,hne]
theorem Df {J ν:Nat->Nat} {D:C5} {n:Nat} {W:WS} (hw:U7 W.wl) {t:Nat} (h1:∀ i,i<5->t≠J i) (h2:∀ u,u<1000->t≠ν u):A0 (hG J D n W ν) t=none:=by
 have hne:∀ i,i<5->¬ J i=t:=fun i hi e=>h1 i hi e.symm
 rw[<- Dj hw h2]
 simp[hG,A0,hne]
theorem q7x {D:C5} {n:Nat} {W:WS} {ν:Nat->Nat}:hW D n W ν=hG (fun i=>1000000+i) D n W ν:=rfl
theorem kJ {c:Nat} {ν:Nat->Nat} (hν:NuC c ν) (hc:800000<=c:=by omega) (hc2:c<=900000:=by omega):JOk (fun i=>1000000+i) ν:=⟨fun i j hi hj e=>by omega,hν.ok.inj,fun i u hi hu e=>by have:=hν u hu;omega⟩
theorem qET {J ν:Nat->Nat} {D:C5} {n:Nat} {W:WS} {hp:List (Nat×Aw)} (h:JOk J ν) (hν:q5R ν) (hw:U7 W.wl) (hl:∀ t,t∈O1 J ν->A0 hp t=A0 (hG J D n W ν) t) (t:Nat):A0 (Bv (O1 J ν) hp) t=A0 (hW D n W D2) t:=by
 obtain⟨g0,g1,g2,g3,g4⟩:=S1 (D:=D) (n:=n) (W:=W) h
 obtain⟨k0,k1,k2,k3,k4⟩:=S1 (D:=D) (n:=n) (W:=W) (kJ q0c)
 have hJ:∀ i,i<5->J i∈O1 J ν:=fun i hi=>Eu.2 (.inl ⟨i,hi,rfl⟩)
 have hN:∀ u,u<1000->ν u∈O1 J ν:=fun u hu=>Eu.2 (.inr ⟨u,hu,rfl⟩)
 have hat:∀ i r,i<5->A0 (hG J D n W ν) (J i)=some r->A0 (Bv (O1 J ν) hp) (1000000+i)=some (Au (Qh (O1 J ν)) r):=fun i r hi hr=>by
  have:=q09 (hJ i hi) ((hl _ (hJ i hi)).trans hr)
  rwa [qDO h hi]at this
 rw[q7x]
 by_cases ht:1000000<=t/\t<1000005
 ·obtain⟨j,hj,rfl⟩:∃ j,j<5/\t=1000000+j:=⟨t-1000000,by omega,by omega⟩
  have fJ:=fun i hi=>q9K h (i:=i) hi
  have f9:=qIC h (u:=999) (by omega)
  have:j=0\/j=1\/j=2\/j=3\/j=4:=by omega
  rcases this with rfl|rfl|rfl|rfl|rfl
  ·rw[hat 0 _ (by omega) g0,k0]
   simp[-Qh,Au,A8,ren1,ren0,fJ,f9,D2]
  ·rw[hat 1 _ (by omega) g1,k1]
   simp[-Qh,Au,A8,ren1,ren0,fJ,f9,Ax]
  ·rw[hat 2 _ (by omega) g2,k2];rfl
  ·rw[hat 3 _ (by omega) g3,k3];rfl
  ·rw[hat 4 _ (by omega) g4,k4]
   simp only[Au,Eo,xq5]
   congr 2
   refine xq1 fun p hp=>?_
   have h8:=hw.lt p hp
   simp[-Qh,Function.comp,A8,ren1,ren0,qIC h (u:=p.1) (by omega),D2]
 ·by_cases hu:∃ u,u<1000/\t=1000005+u
  ·obtain⟨u,hu,rfl⟩:=hu
   have e:=S3 (D:=D) (n:=n) h hν hw hu
   have e2:=S3 (D:=D) (n:=n) (kJ q0c) q0c.ok hw hu
   rw[show D2 u=1000005+u from rfl]at e2
   rw[e2]
   cases hc:Ie W u with
   | none =>
    rw[hc]at e
    cases hh:A0 (Bv (O1 J ν) hp) (1000005+u) with
    | none=>rfl
    | some r =>
     obtain⟨i,q,h1,h2,h3,h4⟩:=q2J hh
     have hi:i=ν u:=by
      have h5:=(xqi.1 (qFt (J:=J) (ν:=ν) hu))
      have h6:=List.getElem_idxOf (List.idxOf_lt_length_of_mem h1)
      rw[<- h6]
      have:(O1 J ν).idxOf i=5+u:=by omega
      simp only[this]
      exact h5.2
     rw[hi,hl _ (hN u hu),e]at h2
     cases h2
   | some l =>
    rw[hc]at e
    have:=q09 (hN u hu) ((hl _ (hN u hu)).trans e)
    rw[qFu h hu,show 1000000+(5+u)=1000005+u by omega]at this
    rw[this];rfl
  ·rw[Df (ν:=D2) hw (fun i hi e=>ht ⟨by omega,by omega⟩) (fun u hu' e=>hu ⟨u,hu',e⟩)]
   cases hh:A0 (Bv (O1 J ν) hp) t with
   | none=>rfl
   | some r =>
    obtain⟨i,q,h1,h2,h3,h4⟩:=q2J hh
    have:=List.idxOf_lt_length_of_mem h1
    rw[q9y]at this
    exfalso
    by_cases h5:(O1 J ν).idxOf i<5
    ·exact ht ⟨by omega,by omega⟩
    ·exact hu ⟨(O1 J ν).idxOf i-5,by omega,by omega⟩
def D6 (ν ν':Nat->Nat) (base u:Nat):Nat:=if ν' u=1000005+u then ν u else base+ν' u
theorem qID {J ν:Nat->Nat} {base i:Nat} (hi:i<5):Us (O1 J ν) base (1000000+i)=J i:=by
 unfold Us
 rw[if_neg (by omega),show 1000000+i-1000000=i by omega,xqe,qIB hi];rfl
theorem qFv {c:Nat} (hc2:c<=900000) {J ν ν':Nat->Nat} {base u:Nat} (hν':NuC c ν') (hu:u<1000):Us (O1 J ν) base (ν' u)=D6 ν ν' base u:=by
 unfold Us D6
 rcases hν' u hu with e|e
 ·rw[e,if_neg (by omega),if_pos rfl,show 1000005+u-1000000=5+u by omega,xqe,qFt hu];rfl
 ·rw[e,if_pos (by omega),if_neg (by omega)]
theorem qDP {rs:List Nat} {base:Nat} {hp:List (Nat×Aw)}:∀ {l:List (Nat×Aw)},(∀ p∈l,if p.1<1000000 then A0 hp (base+p.1)=none/\base+p.1<1000000 else p.1-1000000<rs.length/\(A0 hp (rs.getD (p.1-1000000) 0)).map Aw.sh=some p.2.sh)->Uk rs base hp l
 | [],_=>trivial
 | (j,r)::l,h=>⟨h (j,r) xqh,qDP fun p hp=>h p (xqf _ hp)⟩
theorem q6a {ν:Nat->Nat} {W:WS} (hw:U7 W.wl) {p:Nat×Aw} (h:p∈Ug ν W):∃ u l,u<1000/\Ie W u=some l/\p=(ν u,.sl 3 1 (Av l)):=by
 rcases xqv.1 h with rfl|h
 ·exact⟨999,W.ch,by omega,by simp[Ie],rfl⟩
 ·obtain⟨q,hq,rfl⟩:=xqy.1 h
  have hlt:=hw.lt q hq
  refine⟨q.1,q.2,by omega,?_,rfl⟩
  simp only[Ie,if_neg (show ¬ q.1=999 by omega)]
  have key:∀ wl:List (Nat×List Int),(wl.map (·.1)).Nodup->q∈wl->A0 wl q.1=some q.2:=by
   intro wl
   induction wl with
   | nil=>intro _ h;cases h
   | cons a wl ih =>
    intro hn hm
    simp only[xqm,xzj]at hn
    simp only[A0]
    rcases xqv.1 hm with rfl|hm
    ·simp
    ·have:¬ a.1=q.1:=fun e=>hn.1 (e ▸ xzk hm)
     rw[if_neg this]
     exact ih hn.2 hm
  exact key W.wl hw.nd hq
theorem qFw {c:Nat} (hc1:800000<=c) (hc2:c<=900000) {J ν ν':Nat->Nat} {D:C5} {n base:Nat} {W W':WS} {hp:List (Nat×Aw)} (h:JOk J ν) (hν:q5R ν) (hw:WOk n W) (hw':WOk n W') (hν':NuC c ν') (hk:Kp D2 W ν' W') (hl:∀ t,t∈O1 J ν->A0 hp t=A0 (hG J D n W ν) t)
  (hf:∀ u,u<1000->A0 hp (base+(c+u))=none) (hb:base+c<=999000):Uk (O1 J ν) base hp (hW D n W' ν'):=by
 obtain⟨g0,g1,g2,g3,g4⟩:=S1 (D:=D) (n:=n) (W:=W) h
 have hJ:∀ i r,i<5->A0 (hG J D n W ν) (J i)=some r->∀ q:Aw,q.sh=r.sh->(if(1000000+i,q).1<1000000 then A0 hp (base+(1000000+i,q).1)=none/\base+(1000000+i,q).1<1000000 else(1000000+i,q).1-1000000<(O1 J ν).length/\(A0 hp ((O1 J ν).getD ((1000000+i,q).1-1000000) 0)).map Aw.sh=some (1000000+i,q).2.sh):=fun i r hi hr q hq=>by
  simp only
  rw[if_neg (by omega),q9y]
  refine⟨by omega,?_⟩
  have:=qID (J:=J) (ν:=ν) (base:=base) hi
  unfold Us at this
  rw[if_neg (by omega)]at this
  rw[this,hl _ (Eu.2 (.inl ⟨i,hi,rfl⟩)),hr,hq];rfl
 have vl:(B7 W'.nets).length=(B7 W.nets).length:=by rw[A5,A5,hw.nl,hw'.nl]
 have ql:(An tB W'.q).length=(An tB W.q).length:=by rw[A5,A5,hw.ql,hw'.ql]
 refine qDP fun p hp'=>?_
 unfold hW at hp'
 rcases xqv.1 hp' with rfl|hp'
 ·exact hJ 0 _ (by omega) g0 _ rfl
 rcases xqv.1 hp' with rfl|hp'
 ·exact hJ 1 _ (by omega) g1 _ rfl
 rcases xqv.1 hp' with rfl|hp'
 ·exact hJ 2 _ (by omega) g2 _ (by simp[Aw.sh,vl])
 rcases xqv.1 hp' with rfl|hp'
 ·exact hJ 3 _ (by omega) g3 _ (by simp[Aw.sh,ql])
 rcases xqv.1 hp' with rfl|hp'
 ·exact hJ 4 _ (by omega) g4 _ rfl
 obtain⟨u,l,hu,hc,rfl⟩:=q6a hw'.wl hp'
 simp only
 rcases hν' u hu with e|e
 ·rw[e,if_neg (by omega),q9y]
  refine⟨by omega,?_⟩
  have:=qFv hc2 (J:=J) (ν:=ν) (base:=base) hν' hu
  unfold Us D6 at this
  rw[e,if_neg (by omega),if_pos rfl]at this
  rw[this,hl _ (Eu.2 (.inr ⟨u,hu,rfl⟩)),S3 h hν hw.wl hu,<- (hk u hu e).2,hc];rfl
 ·rw[e,if_pos (by omega)]
  exact⟨hf u hu,by omega⟩
theorem qEU {c:Nat} (hc1:800000<=c) (hc2:c<=900000) {J ν ν':Nat->Nat} {D:C5} {n base:Nat} {W W':WS} {hp:List (Nat×Aw)} {E:List (Nat×AV)} (h:JOk J ν) (hν:q5R ν) (hw:WOk n W) (hw':WOk n W') (hν':NuC c ν') (hk:Kp D2 W ν' W') (hl:∀ t,t∈O1 J ν->A0 hp t=A0 (hG J D n W ν) t)
  (hf:∀ u,u<1000->A0 hp (base+(c+u))=none) (hnb:∀ u v,u<1000->v<1000->ν u≠base+(c+v)) (hJb:∀ i v,i<5->v<1000->J i≠base+(c+v)) (t:Nat) :
  ((t∈O1 J ν\/(∃ u,u<1000/\t=base+(c+u)))->A0 (Ea (O1 J ν) base (hW D n W' ν') ⟨E,hp⟩).hp t=A0 (hG J D n W' (D6 ν ν' base)) t) /\
  (¬ (t∈O1 J ν\/(∃ u,u<1000/\t=base+(c+u)))->A0 (Ea (O1 J ν) base (hW D n W' ν') ⟨E,hp⟩).hp t=(A0 hp t).map (Au (N3 (O1 J ν) (hW D n W' ν')))):=by
 obtain⟨g0,g1,g2,g3,g4⟩:=S1 (D:=D) (n:=n) (W:=W) h
 obtain⟨k0,k1,k2,k3,k4⟩:=S1 (D:=D) (n:=n) (W:=W') (kJ hν')
 rw[<- q7x]at k0 k1 k2 k3 k4
 have hJ'':JOk J (D6 ν ν' base):=by
  refine⟨h.ji,fun u v hu hv e=>?_,fun i u hi hu e=>?_⟩
  ·unfold D6 at e
   split at e<;>split at e
   ·exact h.ni u v hu hv e
   ·rename_i h1 h2
    have:=hν' v hv
    exact absurd (e.trans (by omega:base+ν' v=base+(c+v))) (hnb u v hu hv)
   ·rename_i h1 h2
    have:=hν' u hu
    exact absurd (e.symm.trans (by omega:base+ν' u=base+(c+u))) (hnb v u hv hu)
   ·rename_i h1 h2
    have:=hν' u hu
    have:=hν' v hv
    omega
  ·unfold D6 at e
   split at e
   ·exact h.jn i u hi hu e
   ·have:=hν' u hu
    exact hJb i u hi hu (e.trans (by omega))
 have hν'':∀ u,u<1000->A0 (hG J D n W' (D6 ν ν' base)) (D6 ν ν' base u)=(Ie W' u).map fun l=>.sl 3 1 (Av l):=by
  intro u hu
  have hne:∀ i,i<5->¬ J i=D6 ν ν' base u:=fun i hi=>hJ''.jn i u hi hu
  have key:∀ wl:List (Nat×List Int),(∀ p∈wl,p.1<999)->A0 (wl.map fun p=>(D6 ν ν' base p.1,Aw.sl 3 1 (Av p.2))) (D6 ν ν' base u)=(A0 wl u).map fun l=>.sl 3 1 (Av l):=by
   intro wl
   induction wl with
   | nil=>intro _;rfl
   | cons q wl ih =>
    obtain⟨m,l⟩:=q
    intro hlt
    simp only[xqm,A0]
    by_cases hm:m=u
    ·subst hm;simp
    ·have h2:¬ D6 ν ν' base m=D6 ν ν' base u:=fun e=>hm (hJ''.ni m u (by have:=hlt (m,l) xqh;simp at this;omega) hu e)
     rw[if_neg h2,if_neg hm]
     exact ih fun p hp=>hlt p (xqf _ hp)
  have:A0 (Ug (D6 ν ν' base) W') (D6 ν ν' base u)=(Ie W' u).map fun l=>.sl 3 1 (Av l):=by
   simp only[Ug,A0,Ie]
   by_cases hm:u=999
   ·subst hm;simp
   ·have h2:¬ D6 ν ν' base 999=D6 ν ν' base u:=fun e=>hm (hJ''.ni 999 u (by omega) hu e).symm
    rw[if_neg h2,if_neg hm]
    exact key W'.wl hw'.wl.lt
  rw[<- this]
  simp[hG,A0,hne]
 have hout:∀ t,(∀ i,i<5->t≠J i)->(∀ u,u<1000->t≠D6 ν ν' base u)->A0 (hG J D n W' (D6 ν ν' base)) t=none:=fun t h1 h2=>Df hw'.wl h1 h2
 have hsmall:∀ q,q<1000000->(∀ u,u<1000->q≠c+u)->A0 (hW D n W' ν') q=none:=fun q hq h1=>by
  rw[q7x]
  exact Df hw'.wl (fun i hi e=>by omega) fun u hu e=>by
   rcases hν' u hu with e2|e2
   ·omega
   ·exact h1 u hu (by omega)
 have hcu:∀ u,u<1000->A0 (hW D n W' ν') (ν' u)=(Ie W' u).map fun l=>.sl 3 1 (Av l):=fun u hu=>by rw[q7x];exact S3 (kJ hν') hν'.ok hw'.wl hu
 have hnews:(∀ u,u<1000->t≠base+(c+u))->A0 (Jp (O1 J ν) base (hW D n W' ν')) t=none:=fun h1=>by
  rw[Z2]
  split
  ·rename_i h2
   rw[hsmall (t-base) h2.2 fun u hu e=>h1 u hu (by omega)];rfl
  ·rfl
 have hbk:A0 (Ea (O1 J ν) base (hW D n W' ν') ⟨E,hp⟩).hp t=(A0 (Jp (O1 J ν) base (hW D n W' ν')) t).or (A0 (q2g (O1 J ν) base (hW D n W' ν') hp) t):=Cb
 rw[hbk]
 by_cases hb:∃ u,u<1000/\t=base+(c+u)
 ·refine⟨fun _=>?_,fun hn=>absurd (Or.inr hb) hn⟩
  obtain⟨u,hu,rfl⟩:=hb
  have hnr:base+(c+u)∉O1 J ν:=fun hm=>by
   rcases Eu.1 hm with⟨i,hi,e⟩|⟨v,hv,e⟩
   ·exact hJb i u hi hu e.symm
   ·exact hnb v u hv hu e.symm
  have hol:A0 (q2g (O1 J ν) base (hW D n W' ν') hp) (base+(c+u))=none:=by
   rw[Jn,if_neg (by simpa using hnr),hf u hu];rfl
  rw[hol,Option.or_none,Z2]
  by_cases hb2:c+u<1000000
  ·rw[if_pos ⟨by omega,by omega⟩,show base+(c+u)-base=c+u by omega]
   rcases hν' u hu with e|e
   ·have h1:A0 (hW D n W' ν') (c+u)=none:=by
     rw[q7x]
     exact Df hw'.wl (fun i hi e=>by omega) fun v hv e2=>by
      rcases hν' v hv with e3|e3
      ·omega
      ·have:v=u:=by omega
       subst this;omega
    rw[h1]
    refine(hout _ (fun i hi e2=>hJb i u hi hu e2.symm) fun v hv e2=>?_).symm
    unfold D6 at e2
    split at e2
    ·exact hnb v u hv hu e2.symm
    ·rename_i h3
     have:=hν' v hv
     have:v=u:=by omega
     subst this;exact h3 e
   ·have:=hν'' u hu
    rw[show D6 ν ν' base u=base+(c+u)by unfold D6;rw[if_neg (by omega),e]]at this
    rw[this,<- e,hcu u hu]
    cases Ie W' u<;>rfl
  ·omega
 ·have hb':∀ u,u<1000->t≠base+(c+u):=fun u hu e=>hb ⟨u,hu,e⟩
  rw[hnews hb',Option.none_or,Jn]
  by_cases hm:t∈O1 J ν
  ·refine⟨fun _=>?_,fun hn=>absurd (Or.inl hm) hn⟩
   rw[if_pos (by simpa using hm)]
   rcases Eu.1 hm with⟨i,hi,rfl⟩|⟨u,hu,rfl⟩
   ·rw[qDO h hi,hl _ hm]
    have b9:=qFv hc2 (J:=J) (ν:=ν) (base:=base) hν' (show 999<1000 by omega)
    have bJ:=fun i hi=>qID (J:=J) (ν:=ν) (base:=base) (i:=i) hi
    have b1:=bJ 1 (by omega)
    have b2:=bJ 2 (by omega)
    have b3:=bJ 3 (by omega)
    have b4:=bJ 4 (by omega)
    simp only[Nat.reduceAdd]at b1 b2 b3 b4
    obtain⟨p0,p1,p2,p3,p4⟩:=S1 (D:=D) (n:=n) (W:=W') hJ''
    have:i=0\/i=1\/i=2\/i=3\/i=4:=by omega
    rcases this with rfl|rfl|rfl|rfl|rfl
    ·rw[g0,k0,p0]
     simp[-Us,Au,A8,ren1,ren0,b1,b3,b4,b9]
    ·rw[g1,k1,p1]
     simp[-Us,Au,A8,ren1,ren0,b2,Ax]
    ·rw[g2,k2,p2];rfl
    ·rw[g3,k3,p3];rfl
    ·rw[g4,k4,p4]
     simp only[xqs,xql,Au,Eo,xq5]
     congr 2
     refine xq1 fun p hp=>?_
     have h8:=hw'.wl.lt p hp
     have b8:=qFv hc2 (J:=J) (ν:=ν) (base:=base) hν' (show p.1<1000 by omega)
     simp[-Us,Function.comp,A8,ren1,ren0,b8]
   ·rw[qFu h hu,hl _ hm,S3 h hν hw.wl hu,show 1000000+(5+u)=1000005+u by omega]
    rcases hν' u hu with e|e
    ·have hc':=(hk u hu e).2
     have:=hν'' u hu
     rw[show D6 ν ν' base u=ν u by unfold D6;rw[if_pos e]]at this
     have h2:=hcu u hu
     rw[e]at h2
     rw[this,h2,<- hc']
     cases Ie W' u<;>rfl
    ·have h1:A0 (hW D n W' ν') (1000005+u)=none:=by
      rw[q7x]
      exact Df hw'.wl (fun i hi e=>by omega) fun v hv e2=>by
       rcases hν' v hv with e3|e3
       ·have:v=u:=by omega
        subst this;omega
       ·omega
     rw[h1]
     have h3:A0 (hG J D n W' (D6 ν ν' base)) (ν u)=none:=hout _ (fun i hi e2=>h.jn i u hi hu e2.symm) fun v hv e2=>by
      unfold D6 at e2
      split at e2
      ·rename_i e3
       have:=h.ni u v hu hv e2
       subst this;omega
      ·have:=hν' v hv
       exact hnb u v hu hv (by omega)
     rw[h3]
     cases Ie W u<;>rfl
  ·refine⟨fun hn=>(hn.elim hm hb).elim,fun _=>?_⟩
   rw[if_neg (by simpa using hm)]
end Go.Lg
