/- The abstract code of some functions, as the program gen.py prints it. Conditions: none. -/
import Derived.Test.YtafhjckfgmcphaaGreatDoorPkC
import Derived.Test.YtafhjckfgmcphaaGreatDoorProg
import Derived.KernelRfl
import Derived.Test.YtafhjckfgmcphaaGreatDoorPkD
set_option linter.unusedVariables false
namespace Go.Lg
open Go
section
variable {P:Program} {Γ:Tables} {Q:AX->St->Prop} {s:St}
/- probecard/logic.Clean (function 109) -/
abbrev q3j:IC:=(.seq (.reg [od 2 (.mv (ku 0))] [kp [0] []]) (.seq (.seq (.reg [om 3 0,od 4 (.bin .gtr (tm 3) (ku 3))] [kp [0,4] []]) (.cond (tm 4) (.seq (.reg [od 2 (.mv (ku 2))] [kp [2] []]) .ret) .skip)) (.seq (.reg [om 5 0,om 2 5] [kp [2]
 []]) .ret)))
def q3k:List RV:=[.tmp 2]
/- probecard/logic.Read (function 120) -/
abbrev q55:IC:=(.seq (.reg [od 2 (.mv (ku 0))] [kp [0] []]) (.seq (.reg [om 3 0,od 4 (.mmx false [(tm 3),(ku 2)]),om 2 4] [kp [2] []]) .ret))
def q56:List RV:=[.tmp 2]
/- probecard/logic.Known (function 130) -/
abbrev q3l:IC:=(.seq (.reg [od 2 (.mv kF)] [kp [0] []]) (.seq (.reg [om 3 0,od 4 (.bin .leq (tm 3) (ku 1)),om 2 4] [kp [2] []]) .ret))
def q3m:List RV:=[.tmp 2]
/- probecard/logic.Not (function 121) -/
abbrev q6n:IC:=(.seq (.reg [od 2 (.mv (ku 0))] [kp [0] []]) (.seq (.seq (.reg [om 3 0,od 4 (.call 130 [(tm 3)])] [kp [0,4] []]) (.cond (tm 4) (.seq (.reg [om 5 0,od 6 (.bin .sub (ku 1) (tm 5)),om 2 6] [kp [2] []]) .ret) .skip)) (.seq (.reg
 [od 2 (.mv (ku 2))] [kp [2] []]) .ret)))
def q2D:List RV:=[.tmp 2]
/- probecard/logic.decided (function 184) -/
abbrev q1D:IC:=.gh (.seq (.reg [od 14 (.bin .lss (tm 13) (tm 12))] [kp [1,2,7,11,12,13,14] []]) (.seq (.cond (tm 14) .skip (.exit 0)) (.seq (.block 1 (.seq (.reg [od 15 (ia 1 11 13),od 16 (ld 1 15),om 9 16] [kp [1,2,7,9,11,12,13]
 []]) (.block 2 (.seq (.reg [om 18 9,om 19 1,od 20 (.bin .eql (tm 18) (tm 19)),om 17 20] [kp [1,2,7,9,11,12,13,17] []]) (.cond (tm 17) (.seq (.reg [om 21 1,om 6 21] [kp [6] []]) .ret) (.seq (.reg [om 23 9,om 24 2,od 25
 (.bin .neq (tm 23) (tm 24)),om 22 25] [kp [1,2,7,11,12,13,22] []]) (.cond (tm 22) (.reg [od 7 (.mv (ku 2))] [kp [1,2,7,11,12,13] []]) .skip))))))) (.reg [od 26 (.bin .add (tm 13) (ki 1)),om 13 26] [kp [1,2,7,11,12,
 13] []])))) [kp [1,2,7,11,12,13] []]
def O0:IC:=.loop q1D
abbrev q1E:IC:=(.seq (.reg [od 6 (.mv (ku 0))] [kp [0,1,2] []]) (.seq (.reg [om 10 2,om 7 10] [kp [0,1,2,7] []]) (.seq (.seq (.reg [om 11 0,od 12 (le 0 11),od 13 (.mv (ki 0))] [kp [1,2,7,11,12,13] []]) (.block 0 O0))
 (.seq (.reg [om 27 7,om 6 27] [kp [6] []]) .ret))))
theorem Vy (h:∀ K:St->Prop,K=run P Γ O0 Q->run P Γ q1D (Aw K Q) s):run P Γ O0 Q s:=Ah h
def Uo:List RV:=[.tmp 6]
/- probecard/logic.And (function 122) -/
abbrev q6o:IC:=(.seq (.reg [od 2 (.mv (ku 0))] [kp [0] []]) (.seq (.reg [om 3 0,od 4 (.call 184 [(tm 3),(ku 0),(ku 1)]),om 2 4] [kp [2] []]) .ret))
def q6p:List RV:=[.tmp 2]
/- probecard/logic.Or (function 123) -/
abbrev q8j:IC:=(.seq (.reg [od 2 (.mv (ku 0))] [kp [0] []]) (.seq (.reg [om 3 0,od 4 (.call 184 [(tm 3),(ku 1),(ku 0)]),om 2 4] [kp [2] []]) .ret))
def q8k:List RV:=[.tmp 2]
/- probecard/logic.Xor (function 124) -/
abbrev q6q:IC:=.gh (.seq (.reg [od 9 (.bin .lss (tm 8) (tm 7))] [kp [3,6,7,8,9] []]) (.seq (.cond (tm 9) .skip (.exit 0)) (.seq (.block 1 (.seq (.reg [od 10 (ia 1 6 8),od 11 (ld 1 10),om 5 11] [kp [3,5,6,7,8] []]) (.seq (.seq (.reg [om
 12 5,od 13 (.call 130 [(tm 12)]),od 14 (.un .not (tm 13))] [kp [3,5,6,7,8,14] []]) (.cond (tm 14) (.seq (.reg [od 2 (.mv (ku 2))] [kp [2] []]) .ret) .skip)) (.reg [om 15 3,om 16 5,od 17 (.bin .xor (tm 15) (tm 16)),om 3
 17] [kp [3,6,7,8] []])))) (.reg [od 18 (.bin .add (tm 8) (ki 1)),om 8 18] [kp [3,6,7,8] []])))) [kp [3,6,7,8] []]
def Y4:IC:=.loop q6q
abbrev q6r:IC:=(.seq (.reg [od 2 (.mv (ku 0))] [kp [0] []]) (.seq (.reg [od 3 (.mv (ku 0))] [kp [0,3] []]) (.seq (.seq (.reg [om 6 0,od 7 (le 0 6),od 8 (.mv (ki 0))] [kp [3,6,7,8] []]) (.block 0 Y4)) (.seq (.reg [om 19 3,om 2 19]
 [kp [2] []]) .ret))))
theorem q1F (h:∀ K:St->Prop,K=run P Γ Y4 Q->run P Γ q6q (Aw K Q) s):run P Γ Y4 Q s:=Ah h
def q2E:List RV:=[.tmp 2]
/- probecard/logic.Mux (function 125) -/
abbrev S9:IC:=(.seq (.reg [od 6 (.mv (ku 0))] [kp [0,1,2] []]) (.seq (.block 0 (.seq (.reg [om 8 0,od 9 (.bin .eql (tm 8) (ku 0)),om 7 9] [kp [0,1,2,7] []]) (.cond (tm 7) (.seq (.reg [om 10 1,od 11 (.call 120 [(tm 10)]),om 6 11] [kp [6]
 []]) .ret) (.seq (.reg [om 13 0,od 14 (.bin .eql (tm 13) (ku 1)),om 12 14] [kp [1,2,12] []]) (.cond (tm 12) (.seq (.reg [om 15 2,od 16 (.call 120 [(tm 15)]),om 6 16] [kp [6] []]) .ret) (.seq (.reg [om 18 1,om 19 2,od 20
 (.bin .eql (tm 18) (tm 19)),om 17 20] [kp [1,17] []]) (.cond (tm 17) (.seq (.reg [om 21 1,od 22 (.call 120 [(tm 21)]),om 6 22] [kp [6] []]) .ret) .skip))))))) (.seq (.reg [od 6 (.mv (ku 2))] [kp [6] []]) .ret)))
def Si:List RV:=[.tmp 6]
/- probecard/logic.Tri (function 126) -/
abbrev Y5:IC:=(.seq (.reg [od 4 (.mv (ku 0))] [kp [0,1] []]) (.seq (.seq (.reg [om 5 0] [kp [1,5] []]) (.block 0 (.seq (.reg [od 7 (.bin .eql (tm 5) (ku 0)),om 6 7] [kp [1,5,6] []]) (.cond (tm 6) (.seq (.reg [od 4 (.mv (ku 3))] [kp [4] []])
 .ret) (.seq (.reg [od 9 (.bin .eql (tm 5) (ku 1)),om 8 9] [kp [1,8] []]) (.cond (tm 8) (.seq (.reg [om 10 1,od 11 (.call 120 [(tm 10)]),om 4 11] [kp [4] []]) .ret) .skip)))))) (.seq (.reg [od 4 (.mv (ku 2))] [kp [4] []])
 .ret)))
def Y6:List RV:=[.tmp 4]
/- probecard/logic.Bus (function 127) -/
abbrev q6s:IC:=(.seq (.reg [od 2 (.mv (ku 0))] [kp [0] []]) (.seq (.reg [od 3 (.mv (.func 185))] [kp [0,3] []]) (.seq (.reg [od 4 (.mv (.func 186))] [kp [0,3,4] []]) (.seq (.reg [om 6 0,om 7 4,od 8 (.call 106 [(tm 6),(tm 7)]),om 5 8] [kp
 [0,3,5] []]) (.seq (.block 0 (.seq (.reg [om 10 5,od 11 (.bin .lss (tm 10) (ki 0)),om 9 11] [kp [0,3,5,9] []]) (.cond (tm 9) (.seq (.reg [od 2 (.mv (ku 3))] [kp [2] []]) .ret) (.seq (.reg [om 13 0,od 14 (.call 187 [(tm
 13)]),om 15 14,oF 16 (.mv (tm 0)) 15,oF 17 (.mv (tm 3)) 15,oF 18 (.call 43 [(tm 16),(tm 17)]) 15,od 19 (.pick (tm 15) kT (tm 18)),om 12 19] [kp [0,5,12] []]) (.cond (tm 12) (.seq (.reg [od 2 (.mv (ku 2))] [kp [2] []])
 .ret) .skip))))) (.seq (.reg [om 20 0,om 21 5,od 22 (ia 1 20 21),od 23 (ld 1 22),om 2 23] [kp [2] []]) .ret))))))
def Sj:List RV:=[.tmp 2]
/- probecard/logic.Bus$1 (function 185) -/
abbrev q3n:IC:=(.seq (.reg [od 2 (.mv kF)] [kp [0] []]) (.seq (.reg [om 3 0,od 4 (.call 109 [(tm 3)]),od 5 (.bin .eql (tm 4) (ku 2)),om 2 5] [kp [2] []]) .ret))
def q3o:List RV:=[.tmp 2]
/- probecard/logic.Bus$2 (function 186) -/
abbrev q3p:IC:=(.seq (.reg [od 2 (.mv kF)] [kp [0] []]) (.seq (.reg [om 3 0,od 4 (.bin .neq (tm 3) (ku 3)),om 2 4] [kp [2] []]) .ret))
def q3q:List RV:=[.tmp 2]
/- probecard/logic.Conflict (function 187) -/
abbrev q0E:IC:=(.seq (.reg [od 2 (.mv kF)] [kp [0] []]) (.seq (.reg [om 3 0,od 4 (.call 207 [(tm 3),(ku 0)]),om 5 4,oT 6 (.mv (tm 0)) 5,oT 7 (.call 207 [(tm 6),(ku 1)]) 5,od 8 (.pick (tm 5) (tm 7) kF),om 2 8] [kp [2] []]) .ret))
def Sr:List RV:=[.tmp 2]
/- slices.Contains[[]probecard/api.Value,probecard/api.Value] (function 207) -/
abbrev Kr:IC:=(.seq (.reg [od 4 (.mv kF)] [kp [0,1] []]) (.seq (.reg [om 5 0,om 6 1,od 7 (.call 216 [(tm 5),(tm 6)]),od 8 (.bin .geq (tm 7) (ki 0)),om 4 8] [kp [4] []]) .ret))
def Ks:List RV:=[.tmp 4]
/- slices.Index[[]probecard/api.Value,probecard/api.Value] (function 216) -/
abbrev Oh:IC:=.gh (.seq (.reg [od 9 (.bin .lss (tm 8) (tm 7))] [kp [0,1,7,8,9] []]) (.seq (.cond (tm 9) .skip (.exit 0)) (.seq (.block 1 (.seq (.reg [om 10 8,om 5 10] [kp [0,1,5,7,8] []]) (.seq (.reg [om 11 1,om 12 0,om 13 5,od 14
 (ia 1 12 13),od 15 (ld 1 14),od 16 (.bin .eql (tm 11) (tm 15))] [kp [0,1,5,7,8,16] []]) (.cond (tm 16) (.seq (.reg [om 17 5,om 4 17] [kp [4] []]) .ret) .skip)))) (.reg [od 18 (.bin .add (tm 8) (ki 1)),om 8 18] [kp [0,1,
 7,8] []])))) [kp [0,1,7,8] []]
def F5:IC:=.loop Oh
def Hi:List RO:=[od 4 (.mv (.const (.int .i64 (-1))))]
abbrev Oi:IC:=(.seq (.reg [od 4 (.mv (ki 0))] [kp [0,1] []]) (.seq (.seq (.reg [om 6 0,od 7 (le 0 6),od 8 (.mv (ki 0))] [kp [0,1,7,8] []]) (.block 0 F5)) (.seq (.reg Hi [kp [4] []]) .ret)))
theorem J9 (h:∀ K:St->Prop,K=run P Γ F5 Q->run P Γ Oh (Aw K Q) s):run P Γ F5 Q s:=Ah h
attribute [simp] Hi
def Du:List RV:=[.tmp 4]
/- slices.ContainsFunc[[]probecard/api.Value,probecard/api.Value] (function 43) -/
abbrev Hw:IC:=(.seq (.reg [od 4 (.mv kF)] [kp [0,1] []]) (.seq (.reg [om 5 0,om 6 1,od 7 (.call 106 [(tm 5),(tm 6)]),od 8 (.bin .geq (tm 7) (ki 0)),om 4 8] [kp [4] []]) .ret))
def Hy:List RV:=[.tmp 4]
/- slices.IndexFunc[[]probecard/api.Value,probecard/api.Value] (function 106) -/
abbrev Ja:IC:=.gh (.seq (.reg [od 9 (.bin .lss (tm 8) (tm 7))] [kp [0,1,7,8,9] []]) (.seq (.cond (tm 9) .skip (.exit 0)) (.seq (.block 1 (.seq (.reg [om 10 8,om 5 10] [kp [0,1,5,7,8] []]) (.seq (.reg [om 11 1,om 12 0,om 13 5,od 14
 (ia 1 12 13),od 15 (ld 1 14),od 16 (.callv (tm 11) [(tm 15)])] [kp [0,1,5,7,8,16] []]) (.cond (tm 16) (.seq (.reg [om 17 5,om 4 17] [kp [4] []]) .ret) .skip)))) (.reg [od 18 (.bin .add (tm 8) (ki 1)),om 8 18] [kp [0,1,7,
 8] []])))) [kp [0,1,7,8] []]
def Dy:IC:=.loop Ja
abbrev Jb:IC:=(.seq (.reg [od 4 (.mv (ki 0))] [kp [0,1] []]) (.seq (.seq (.reg [om 6 0,od 7 (le 0 6),od 8 (.mv (ki 0))] [kp [0,1,7,8] []]) (.block 0 Dy)) (.seq (.reg [od 4 (.mv (.const (.int .i64 (-1))))] [kp [4]
 []]) .ret)))
theorem Hg (h:∀ K:St->Prop,K=run P Γ Dy Q->run P Γ Ja (Aw K Q) s):run P Γ Dy Q s:=Ah h
def Fq:List RV:=[.tmp 4]
/- probecard/logic.Eval (function 64) -/
abbrev Cc:IC:=(.seq (.reg [od 4 (.mv (ku 0))] [kp [0,1] []]) (.seq (.seq (.reg [om 8 0,od 9 (.call 119 [(tm 8)]),om 7 9,od 10 (ex 7 0),od 11 (ex 7 1),om 5 10,om 6 11] [kp [0,1,5,6] []]) (.seq (.reg [om 12 1,od 13 (le 0 12),om 14 5,
 od 15 (.bin .lss (tm 13) (tm 14)),om 16 15,oF 17 (.mv (tm 1)) 16,oF 18 (le 0 17) 16,oF 19 (.mv (tm 6)) 16,oF 20 (.bin .gtr (tm 18) (tm 19)) 16,od 21 (.pick (tm 16) kT (tm 20))] [kp [0,1,21] []]) (.cond (tm 21) (.seq (.reg
 [od 4 (.mv (ku 2))] [kp [4] []]) .ret) .skip))) (.seq (.seq (.reg [om 22 0] [kp [1,22] []]) (.block 0 (.seq (.reg [od 24 (.bin .eql (tm 22) (ku 1)),om 23 24] [kp [1,22,23] []]) (.cond (tm 23) (.seq (.reg [od 4 (.mv (ku 0))] [kp
 [4] []]) .ret) (.seq (.reg [od 26 (.bin .eql (tm 22) (ku 2)),om 25 26] [kp [1,22,25] []]) (.cond (tm 25) (.seq (.reg [od 4 (.mv (ku 1))] [kp [4] []]) .ret) (.seq (.reg [od 28 (.bin .eql (tm 22) (ku 3)),om 27 28] [kp [1,22,27]
 []]) (.cond (tm 27) (.seq (.reg [om 29 1,od 30 (.iadr 1 (tm 29) (ki 0)),od 31 (ld 1 30),od 32 (.call 120 [(tm 31)]),om 4 32] [kp [4] []]) .ret) (.seq (.reg [od 34 (.bin .eql (tm 22) (ku 4)),om 33 34] [kp [1,22,33] []])
 (.cond (tm 33) (.seq (.reg [om 35 1,od 36 (.iadr 1 (tm 35) (ki 0)),od 37 (ld 1 36),od 38 (.call 121 [(tm 37)]),om 4 38] [kp [4] []]) .ret) (.seq (.reg [od 40 (.bin .eql (tm 22) (ku 5)),om 39 40] [kp [1,22,39] []]) (.cond (tm
 39) (.seq (.reg [om 41 1,od 42 (.call 122 [(tm 41)]),om 4 42] [kp [4] []]) .ret) (.seq (.reg [od 44 (.bin .eql (tm 22) (ku 6)),om 43 44] [kp [1,22,43] []]) (.cond (tm 43) (.seq (.reg [om 45 1,od 46 (.call 122 [(tm 45)]),od
 47 (.call 121 [(tm 46)]),om 4 47] [kp [4] []]) .ret) (.seq (.reg [od 49 (.bin .eql (tm 22) (ku 7)),om 48 49] [kp [1,22,48] []]) (.cond (tm 48) (.seq (.reg [om 50 1,od 51 (.call 123 [(tm 50)]),om 4 51] [kp [4] []]) .ret) (.seq
 (.reg [od 53 (.bin .eql (tm 22) (ku 8)),om 52 53] [kp [1,22,52] []]) (.cond (tm 52) (.seq (.reg [om 54 1,od 55 (.call 123 [(tm 54)]),od 56 (.call 121 [(tm 55)]),om 4 56] [kp [4] []]) .ret) (.seq (.reg [od 58 (.bin .eql (tm
 22) (ku 9)),om 57 58] [kp [1,22,57] []]) (.cond (tm 57) (.seq (.reg [om 59 1,od 60 (.call 124 [(tm 59)]),om 4 60] [kp [4] []]) .ret) (.seq (.reg [od 62 (.bin .eql (tm 22) (ku 10)),om 61 62] [kp [1,22,61] []]) (.cond (tm 61)
 (.seq (.reg [om 63 1,od 64 (.call 124 [(tm 63)]),od 65 (.call 121 [(tm 64)]),om 4 65] [kp [4] []]) .ret) (.seq (.reg [od 67 (.bin .eql (tm 22) (ku 11)),om 66 67] [kp [1,22,66] []]) (.cond (tm 66) (.seq (.reg [om 68 1,od 69
 (.iadr 1 (tm 68) (ki 0)),od 70 (ld 1 69),om 71 1,od 72 (.iadr 1 (tm 71) (ki 1)),od 73 (ld 1 72),om 74 1,od 75 (.iadr 1 (tm 74) (ki 2)),od 76 (ld 1 75),od 77 (.call 125 [(tm 70),(tm 73),(tm 76)]),om 4 77] [kp [4] []])
 .ret) (.seq (.reg [od 79 (.bin .eql (tm 22) (ku 12)),om 78 79] [kp [1,22,78] []]) (.cond (tm 78) (.seq (.reg [om 80 1,od 81 (.iadr 1 (tm 80) (ki 0)),od 82 (ld 1 81),om 83 1,od 84 (.iadr 1 (tm 83) (ki 1)),od 85 (ld 1 84),od
 86 (.call 126 [(tm 82),(tm 85)]),om 4 86] [kp [4] []]) .ret) (.seq (.reg [od 88 (.bin .eql (tm 22) (ku 13)),om 87 88] [kp [1,87] []]) (.cond (tm 87) (.seq (.reg [om 89 1,od 90 (.call 127 [(tm 89)]),om 4 90] [kp [4] []]) .ret)
 .skip)))))))))))))))))))))))))))) (.seq (.reg [od 4 (.mv (ku 2))] [kp [4] []]) .ret))))
def C3:List RV:=[.tmp 4]
end
end Go.Lg
namespace Go.Lg
open Go Go.Proofs
theorem q93:Ba Tryz.prog 109 q3j 6 1 q3k=true:=by kernel_rfl
theorem qAJ:Ba Tryz.prog 120 q55 5 1 q56=true:=by kernel_rfl
theorem q94:Ba Tryz.prog 130 q3l 5 1 q3m=true:=by kernel_rfl
theorem qBL:Ba Tryz.prog 121 q6n 7 1 q2D=true:=by kernel_rfl
theorem q6t:Ba Tryz.prog 184 q1E 28 3 Uo=true:=by kernel_rfl
theorem qBM:Ba Tryz.prog 122 q6o 5 1 q6p=true:=by kernel_rfl
theorem qCs:Ba Tryz.prog 123 q8j 5 1 q8k=true:=by kernel_rfl
theorem qBN:Ba Tryz.prog 124 q6r 20 1 q2E=true:=by kernel_rfl
theorem qBO:Ba Tryz.prog 125 S9 23 3 Si=true:=by kernel_rfl
theorem qBP:Ba Tryz.prog 126 Y5 12 2 Y6=true:=by kernel_rfl
theorem qBQ:Ba Tryz.prog 127 q6s 24 1 Sj=true:=by kernel_rfl
theorem q95:Ba Tryz.prog 185 q3n 6 1 q3o=true:=by kernel_rfl
theorem q96:Ba Tryz.prog 186 q3p 5 1 q3q=true:=by kernel_rfl
theorem q62:Ba Tryz.prog 187 q0E 9 1 Sr=true:=by kernel_rfl
theorem Vz:Ba Tryz.prog 207 Kr 9 2 Ks=true:=by kernel_rfl
theorem Zc:Ba Tryz.prog 216 Oi 19 2 Du=true:=by kernel_rfl
theorem Rm:Ba Tryz.prog 43 Hw 9 2 Hy=true:=by kernel_rfl
theorem Up:Ba Tryz.prog 106 Jb 19 2 Fq=true:=by kernel_rfl
theorem qAK:Ba Tryz.prog 64 Cc 91 2 C3=true:=by kernel_rfl
end Go.Lg
set_option linter.unusedSimpArgs false
set_option maxRecDepth 100000
namespace Go.Lg
open Go Go.Proofs
variable {Γ:Tables}
theorem q63 (v:Int):A8 Tryz.prog Γ 109 [tK v] (tK (F4 v)):=by
 refine Ae q93 rfl ?_
 by_cases h:3<v<;>simp[q3j,q3k,Ax,F4,h]
theorem Yk (v:Int):A8 Tryz.prog Γ 120 [tK v] (tK (Za v)):=by
 refine Ae qAJ rfl ?_
 by_cases h:v<2<;>simp[q55,q56,Ax,Za,h,q0q,Ix]<;>omega
theorem q64 (v:Int):A8 Tryz.prog Γ 130 [tK v] (tB (q61 v)):=by
 refine Ae q94 rfl ?_
 simp[q3l,q3m,Ax,q61]
theorem q6u (v:Int) (h0:0<=v):A8 Tryz.prog Γ 121 [tK v] (tK (P8 v)):=by
 refine Ae qBL rfl ?_
 simp[q6n]
 refine A4 (q64 v) rfl ?_
 by_cases h:v<=1
 ·simp(disch:=omega) [q2D,Ax,q61,P8,h,C7]
 ·simp(disch:=omega) [q2D,Ax,q61,P8,h,C7]
theorem qJ0 (s a b:Int):A8 Tryz.prog Γ 125 [tK s,tK a,tK b] (tK (qBJ s a b)):=by
 refine Ae qBO rfl ?_
 by_cases h:s=0
 ·simp[S9,h]
  refine A4 (Yk a) rfl ?_
  simp[Si,Ax,qBJ,h]
 by_cases h1:s=1
 ·simp[S9,h1]
  refine A4 (Yk b) rfl ?_
  simp[Si,Ax,qBJ,h1]
 by_cases h2:a=b
 ·simp[S9,h,h1,h2]
  refine A4 (Yk b) rfl ?_
  simp[Si,Ax,qBJ,h,h1,h2]
 ·simp[S9,h,h1,h2,Si,Ax,qBJ]
theorem qJ1 (e d:Int):A8 Tryz.prog Γ 126 [tK e,tK d] (tK (qCo e d)):=by
 refine Ae qBP rfl ?_
 by_cases h:e=0
 ·simp[Y5,h,Y6,Ax,qCo]
 by_cases h1:e=1
 ·simp[Y5,h1]
  refine A4 (Yk d) rfl ?_
  simp[Y6,Ax,qCo,h1]
 ·simp[Y5,h,h1,Y6,Ax,qCo]
abbrev Ar (l:List Int):List (List T):=Au tK l
def tV (s:Sl Int):T:=.sl (Ar s.l) s.cap s.nl
theorem q2F {Q:AX->St->Prop} (l:List Int) (c:Option Nat) (nl:Option Bool) (low high:Int) (hl:l.length<=1000000000) (R:Int)
  (h0:Q (.exit 0) ⟨[(1,.t (tK low)),(2,.t (tK high)),(7,.t (tK R)),(11,.t (.sl (Ar l) c nl)),(12,.t (tI l.length)),(13,.t (tI l.length)),(14,.t (tB false))],[]⟩)
  (h1:R=low->Q .ret ⟨[(6,.t (tK low))],[]⟩):∀ (k i:Nat) (out:Int),k+i=l.length->M6 low high out (l.drop i)=R ->
  run Tryz.prog Γ O0 Q ⟨[(1,.t (tK low)),(2,.t (tK high)),(7,.t (tK out)),(11,.t (.sl (Ar l) c nl)),(12,.t (tI l.length)),(13,.t (tI i))],[]⟩
 | 0,i,out,h,hR=>by
  refine Vy fun K hK=>?_
  have h2:¬ i<l.length:=by omega
  rw[xq2 (by omega)]at hR
  simp only[M6]at hR
  subst hR
  have h3:i=l.length:=by omega
  simp[h2]
  subst h3
  exact h0
 | k+1,i,out,h,hR=>by
  refine Vy fun K hK=>?_
  have h2:i<l.length:=by omega
  rw[xqq h2]at hR
  simp only[M6]at hR
  have hget:=D8 (f:=tK) 0 h2
  simp only[xqg h2,xzy]at hget
  generalize l[i]=v at *
  by_cases a1:v=low
  ·rw[if_pos a1]at hR
   simp(disch:=omega) [h2,A6,hget,A9,A7,a1]
   exact h1 hR.symm
  ·by_cases a2:v=high
   ·rw[if_neg a1,if_neg (by simp[a2])]at hR
    have ih:=q2F l c nl low high hl R h0 h1 k (i+1) out (by omega) hR
    have a1':¬ high=low:=by rw[<- a2];exact a1
    simp(disch:=omega) [h2,A6,hget,A9,A7,a1',a2]
    rw[hK]
    exact_mod_cast ih
   ·rw[if_neg a1,if_pos a2]at hR
    have ih:=q2F l c nl low high hl R h0 h1 k (i+1) 2 (by omega) hR
    simp(disch:=omega) [h2,A6,hget,A9,A7,a1,a2]
    rw[hK]
    exact_mod_cast ih
theorem q6v (l:List Int) (c:Option Nat) (nl:Option Bool) (low high:Int) (hl:l.length<=1000000000):A8 Tryz.prog Γ 184 [.sl (Ar l) c nl,tK low,tK high] (tK (M6 low high high l)):=by
 refine Ae q6t rfl ?_
 simp(disch:=omega) [q1E,A6,A7]
 refine q2F l c nl low high hl (M6 low high high l) ?_ (fun h=>?_) l.length 0 high (by omega) (by simp)
 ·simp[Uo,Ax]
 ·simp[Uo,Ax,h]
theorem qE4 (l:List Int) (c:Option Nat) (nl:Option Bool) (hl:l.length<=1000000000):A8 Tryz.prog Γ 122 [.sl (Ar l) c nl] (tK (M6 0 1 1 l)):=by
 refine Ae qBM rfl ?_
 simp[q6o]
 refine A4 (q6v l c nl 0 1 hl) rfl ?_
 simp[q6p,Ax]
theorem qGd (l:List Int) (c:Option Nat) (nl:Option Bool) (hl:l.length<=1000000000):A8 Tryz.prog Γ 123 [.sl (Ar l) c nl] (tK (M6 1 0 0 l)):=by
 refine Ae qCs rfl ?_
 simp[q8j]
 refine A4 (q6v l c nl 1 0 hl) rfl ?_
 simp[q8k,Ax]
theorem qL2 {a b:Int} (ha:a=0\/a=1) (hb:b=0\/b=1):IntKind.u8.wrap ((BitVec.ofInt IntKind.u8.bits a ^^^ BitVec.ofInt IntKind.u8.bits b).toNat:Int)=qFT a b:=by
 rcases ha with rfl|rfl<;>rcases hb with rfl|rfl<;>decide
theorem qE5 {Q:AX->St->Prop} (l:List Int) (c:Option Nat) (nl:Option Bool) (hl:l.length<=1000000000) (hv:∀ v∈l,0<=v) (R:Int)
  (h0:Q (.exit 0) ⟨[(3,.t (tK R)),(6,.t (.sl (Ar l) c nl)),(7,.t (tI l.length)),(8,.t (tI l.length)),(9,.t (tB false))],[]⟩)
  (h1:R=2->Q .ret ⟨[(2,.t (tK 2))],[]⟩):∀ (k i:Nat) (out:Int),k+i=l.length->(out=0\/out=1)->Y3 out (l.drop i)=R ->
  run Tryz.prog Γ Y4 Q ⟨[(3,.t (tK out)),(6,.t (.sl (Ar l) c nl)),(7,.t (tI l.length)),(8,.t (tI i))],[]⟩
 | 0,i,out,h,ho,hR=>by
  refine q1F fun K hK=>?_
  have h2:¬ i<l.length:=by omega
  rw[xq2 (by omega)]at hR
  simp only[Y3]at hR
  subst hR
  have h3:i=l.length:=by omega
  simp[h2]
  subst h3
  exact h0
 | k+1,i,out,h,ho,hR=>by
  refine q1F fun K hK=>?_
  have h2:i<l.length:=by omega
  rw[xqq h2]at hR
  simp only[Y3]at hR
  have hget:=D8 (f:=tK) 0 h2
  simp only[xqg h2,xzy]at hget
  have hv0:=hv _ (xqj h2)
  generalize l[i]=v at *
  by_cases a1:v<=1
  ·rw[if_pos a1]at hR
   have ih:=qE5 l c nl hl hv R h0 h1 k (i+1) (qFT out v) (by omega) (by unfold qFT;split<;>simp) hR
   simp(disch:=omega) [h2,A6,hget,A9,A7]
   refine A4 (q64 v) rfl ?_
   have hx:=qL2 ho (show v=0\/v=1 by omega)
   simp(disch:=omega) [q61,a1,↓hx,A7]
   rw[hK]
   exact_mod_cast ih
  ·rw[if_neg a1]at hR
   simp(disch:=omega) [h2,A6,hget,A9,A7]
   refine A4 (q64 v) rfl ?_
   simp(disch:=omega) [q61,a1]
   exact h1 hR.symm
theorem qE6 (l:List Int) (c:Option Nat) (nl:Option Bool) (hl:l.length<=1000000000) (hv:∀ v∈l,0<=v):A8 Tryz.prog Γ 124 [.sl (Ar l) c nl] (tK (Y3 0 l)):=by
 refine Ae qBN rfl ?_
 simp(disch:=omega) [q6r,A6,A7]
 refine qE5 l c nl hl hv (Y3 0 l) ?_ (fun h=>?_) l.length 0 0 (by omega) (.inl rfl) (by simp)
 ·simp[q2E,Ax]
 ·simp[q2E,Ax,h]
theorem q3r (l:List Int) (c:Option Nat) (nl:Option Bool) (x:Int) (hl:l.length<=1000000000):∀ (k i:Nat),k+i=l.length->(∀ j,j<i->∀ y,l[j]? = some y->(y==x)=false) ->
  run Tryz.prog Γ F5 (Me 0 (Aw (run Tryz.prog Γ (.seq (.reg Hi [.keep [4] []]) .ret) (ret true Du fun r=>r=tI (q0e (· == x) l))) (ret true Du fun r=>r=tI (q0e (· == x) l)))) ⟨[(0,.t (.sl (Au tK l) c nl)),(1,.t (tK x)),(7,.t (tI l.length)),(8,.t (tI i))],[]⟩
 | 0,i,h,hp=>by
  refine J9 fun K hK=>?_
  have h2:¬ i<l.length:=by omega
  simp(disch:=omega) [A6,D8 (0:Int),A9,A7,h2,ret,Du,Dv,Ge,Fo,Ax]
  have:l.findIdx? (· == x)=none:=by
   rw[List.findIdx?_eq_none_iff]
   intro y hy
   obtain⟨j,hj,rfl⟩:=xqt hy
   exact hp j (by omega) _ (xqg hj)
  have e:l.findIdx? (fun y=>decide (y=x))=_:=this
  simp[q0e,e]
 | k+1,i,h,hp=>by
  refine J9 fun K hK=>?_
  have h2:i<l.length:=by omega
  simp(disch:=omega) [A6,D8 (0:Int),A9,A7,h2]
  refine⟨fun hc=>?_,fun hc=>?_⟩
  ·simp[By,ret,Du,Dv,Ge,Fo,Ax]
   have:=q24 (p:=(· == x)) hp l[i] (xqg h2) (by simp[hc])
   have e:l.findIdx? (fun y=>decide (y=x))=_:=this
   simp[q0e,e]
  ·simp(disch:=omega) [By,A7]
   rw[hK]
   exact_mod_cast q3r l c nl x hl k (i+1) (by omega) (fun j hj y hy=>by
    rcases Nat.lt_succ_iff_lt_or_eq.1 hj with hj|rfl
    ·exact hp j hj y hy
    ·rw[xqg h2]at hy;simp at hy;subst hy
     simp;exact fun e=>hc e.symm)
theorem qHq (l:List Int) (c:Option Nat) (nl:Option Bool) (x:Int) (hl:l.length<=1000000000):A8 Tryz.prog Γ 216 [.sl (Au tK l) c nl,tK x] (tI (q0e (· == x) l)):=by
 refine Ae Zc rfl ?_
 simp(disch:=omega) [Oi,A6,A7]
 exact_mod_cast q3r l c nl x hl l.length 0 (by omega) (by simp)
theorem q6w (l:List Int) (c:Option Nat) (nl:Option Bool) (x:Int) (hl:l.length<=1000000000):A8 Tryz.prog Γ 207 [.sl (Au tK l) c nl,tK x] (tB (l.contains x)):=by
 refine Ae Vz rfl ?_
 simp(disch:=omega) [Kr,A6,A7]
 refine A4 (qHq l c nl x hl) rfl ?_
 simp[ret,Ks,Dv,Ge,Fo,Ax]
 unfold q0e
 cases h:l.findIdx? (· == x) with
 | none =>
  rw[List.findIdx?_eq_none_iff]at h
  have:¬ x∈l:=fun hx=>by simpa using h x hx
  simp[this]
 | some i =>
  rw[List.findIdx?_eq_some_iff_getElem]at h
  obtain⟨hi,h1,_⟩:=h
  have:x∈l:=by rw[<- (show l[i]=x by simpa using h1)];exact xqj hi
  simp[this]
theorem Zd {Q:AX->St->Prop} (l:List Int) (c:Option Nat) (nl:Option Bool) (f:FuncId) (cs:List T) (p:Int->Bool) (hp:∀ x∈l,A8 Tryz.prog Γ f (tK x::cs) (tB (p x))) (hl:l.length<=1000000000)
  (h0:(∀ x∈l,p x=false)->Q (.exit 0) ⟨[(0,.t (.sl (Au tK l) c nl)),(1,.t (.fn f cs)),(7,.t (tI l.length)),(8,.t (tI l.length)),(9,.t (tB false))],[]⟩)
  (h1:∀ i:Nat,l.findIdx? p=some i->Q .ret ⟨[(4,.t (tI i))],[]⟩):∀ (k i:Nat),k+i=l.length->(∀ j,j<i->∀ y,l[j]? = some y->p y=false) ->
  run Tryz.prog Γ Dy Q ⟨[(0,.t (.sl (Au tK l) c nl)),(1,.t (.fn f cs)),(7,.t (tI l.length)),(8,.t (tI i))],[]⟩
 | 0,i,h,hq=>by
  refine Hg fun K hK=>?_
  have h2:¬ i<l.length:=by omega
  simp(disch:=omega) [A6,D8 (0:Int),A9,A7,h2]
  have h3:i=l.length:=by omega
  subst h3
  refine h0 fun y hy=>?_
  obtain⟨j,hj,rfl⟩:=xqt hy
  exact hq j (by omega) _ (xqg hj)
 | k+1,i,h,hq=>by
  refine Hg fun K hK=>?_
  have h2:i<l.length:=by omega
  simp(disch:=omega) [A6,D8 (0:Int),A9,A7,h2]
  refine q25 (hp l[i] (xqj h2)) ?_
  simp
  refine⟨fun hc=>?_,fun hc=>?_⟩
  ·simp[By]
   exact h1 i (q24 hq l[i] (xqg h2) hc)
  ·simp(disch:=omega) [By,A7]
   rw[hK]
   exact_mod_cast Zd l c nl f cs p hp hl h0 h1 k (i+1) (by omega) (fun j hj y hy=>by
    rcases Nat.lt_succ_iff_lt_or_eq.1 hj with hj|rfl
    ·exact hq j hj y hy
    ·rw[xqg h2]at hy;simp at hy;subst hy;exact hc)
theorem q57 (l:List Int) (c:Option Nat) (nl:Option Bool) (f:FuncId) (cs:List T) (p:Int->Bool) (hp:∀ x∈l,A8 Tryz.prog Γ f (tK x::cs) (tB (p x))) (hl:l.length<=1000000000):A8 Tryz.prog Γ 106 [.sl (Au tK l) c nl,.fn f cs] (tI (q0e p l)):=by
 refine Ae Up rfl ?_
 simp(disch:=omega) [Jb,A6,A7]
 refine Zd l c nl f cs p hp hl (fun h=>?_) (fun i h=>?_) l.length 0 (by omega) (by simp)
 ·have:l.findIdx? p=none:=List.findIdx?_eq_none_iff.2 h
  simp[ret,Fq,Dv,Ge,Fo,Ax,q0e,this]
 ·simp[ret,Fq,Dv,Ge,Fo,Ax,q0e,h]
theorem F8 (l:List Int) (c:Option Nat) (nl:Option Bool) (f:FuncId) (cs:List T) (p:Int->Bool) (hp:∀ x∈l,A8 Tryz.prog Γ f (tK x::cs) (tB (p x))) (hl:l.length<=1000000000):A8 Tryz.prog Γ 43 [.sl (Au tK l) c nl,.fn f cs] (tB (l.any p)):=by
 refine Ae Rm rfl ?_
 simp(disch:=omega) [Hw,A6,A7]
 refine A4 (q57 l c nl f cs p hp hl) rfl ?_
 simp[ret,Hy,Dv,Ge,Fo,Ax]
 unfold q0e
 cases h:l.findIdx? p with
 | none =>
  rw[List.findIdx?_eq_none_iff]at h
  have:l.any p=false:=by rw[xz8];intro x hx;simp[h x hx]
  simp[this]
 | some i =>
  rw[List.findIdx?_eq_some_iff_getElem]at h
  obtain⟨hi,h1,_⟩:=h
  have:l.any p=true:=xz1.2 ⟨_,xqj hi,h1⟩
  simp[this]
theorem qBR (l:List Int) (c:Option Nat) (nl:Option Bool) (hl:l.length<=1000000000):A8 Tryz.prog Γ 187 [.sl (Ar l) c nl] (tB (q3d l)):=by
 refine Ae q62 rfl ?_
 simp[q0E]
 refine A4 (q6w l c nl 0 hl) rfl ?_
 simp
 by_cases h:(0:Int)∈l
 ·simp[h]
  refine A4 (q6w l c nl 1 hl) rfl ?_
  simp[Sr,Ax,q3d,h]
 ·simp[h,Sr,Ax,q3d]
theorem qJ2 (v:Int):A8 Tryz.prog Γ 185 [tK v] (tB (qE1 v)):=by
 refine Ae q95 rfl ?_
 simp[q3n]
 refine A4 (q63 v) rfl ?_
 simp[q3o,Ax,qE1]
theorem qJ3 (v:Int):A8 Tryz.prog Γ 186 [tK v] (tB (qE2 v)):=by
 refine Ae q96 rfl ?_
 simp[q3p,q3q,Ax,qE2]
theorem qJ4 (l:List Int) (c:Option Nat) (nl:Option Bool) (hl:l.length<=1000000000):A8 Tryz.prog Γ 127 [.sl (Ar l) c nl] (tK (q82 l)):=by
 refine Ae qBQ rfl ?_
 simp[q6s]
 refine A4 (q57 l c nl _ [] qE2 (fun x _=>qJ3 x) hl) rfl ?_
 unfold q0e
 cases h:l.findIdx? qE2 with
 | none =>
  have hR:q82 l=3:=by unfold q82;rw[h]
  simp[Sj,Ax,hR]
 | some i =>
  have hb:q82 l=if q3d l=true\/l.any qE1=true then 2 else l.getD i 0:=by unfold q82;rw[h]
  have hi:i<l.length:=by
   rw[List.findIdx?_eq_some_iff_getElem]at h
   exact h.1
  have hget:=D8 (f:=tK) 0 hi
  have hgg:l[i]?.getD 0=l.getD i 0:=by simp[xqe]
  rw[hgg]at hget
  have hneg:¬ (i:Int)<0:=by omega
  simp only
  simp[hneg]
  refine A4 (qBR l c nl hl) rfl ?_
  by_cases h1:q3d l=true
  ·rw[if_pos (.inl h1)]at hb
   simp[h1,Sj,Ax,hb]
  ·simp[h1]
   refine A4 (F8 l c nl _ [] qE1 (fun x _=>qJ2 x) hl) rfl ?_
   by_cases h2:l.any qE1=true
   ·rw[if_pos (.inr h2)]at hb
    simp only[h2]
    simp[Sj,Ax,hb]
   ·rw[if_neg (by rintro(h|h);exact h1 h;exact h2 h)]at hb
    simp only[xzm]at h2
    generalize q82 l=r at *
    subst hb
    simp only[h2]
    simp(disch:=omega) [Sj,Ax,A6,A9,hget,hi]
theorem qC7 (hΓ:GOk Γ) (k:Int) (hk:0<=k/\k<=255) (l:List Int) (c:Option Nat) (nl:Option Bool) (hl:l.length<=1000000000) (hv:∀ v∈l,V4 v):A8 Tryz.prog Γ 64 [tK k,.sl (Ar l) c nl] (tK (Gs k l)):=by
 refine Ae qAK rfl ?_
 unfold Gs
 by_cases hw:I8 k l.length=true
 ·rw[if_pos hw]
  simp only[I8,xqu]at hw
  simp[Cc]
  refine A4 (Dw hΓ k hk.1 hk.2) rfl ?_
  by_cases hw1:(l.length:Int)<(Oy k).1
  ·simp[A6,hw1,C3,Ax]
  ·have hw2:(Oy k).2<(l.length:Int):=by omega
   simp[A6,hw1,hw2,C3,Ax]
 rw[if_neg hw]
 simp only[I8,xqu]at hw
 have hw1:¬ (l.length:Int)<(Oy k).1:=by omega
 have hw2:¬ (Oy k).2<(l.length:Int):=by omega
 have hv0:∀ v∈l,0<=v:=fun v h=>(hv v h).1
 have ge:∀ i,i<l.length->(Au tK l)[i]?.getD []=[tK (l.getD i 0)]:=fun i hi=>by
  have hget:=D8 (f:=tK) 0 hi
  have hgg:l[i]?.getD 0=l.getD i 0:=by simp[xqe]
  rw[hgg]at hget
  exact hget
 have dA:=Vx (low:=0) (l:=l) (out:=1) (high:=1) (.inr rfl)
 have dO:=Vx (low:=1) (l:=l) (out:=0) (high:=0) (.inr rfl)
 have n1:0<=M6 0 1 1 l:=by rw[dA];split;omega;split<;>omega
 have n2:0<=M6 1 0 0 l:=by rw[dO];split;omega;split<;>omega
 have n3:0<=Y3 0 l:=(qFU (by simp[V4]) hv).1
 have g0:=q2B hv 0
 by_cases e1:k=1
 ·subst e1
  have hR:E8 1 l=0:=rfl
  generalize E8 1 l=r at *
  subst hR
  simp[Cc]
  refine A4 (Dw hΓ 1 hk.1 hk.2) rfl ?_
  simp[A6,hw1,hw2,By,C3,Ax]
 by_cases e2:k=2
 ·subst e2
  have hR:E8 2 l=1:=rfl
  generalize E8 2 l=r at *
  subst hR
  simp[Cc]
  refine A4 (Dw hΓ 2 hk.1 hk.2) rfl ?_
  simp[A6,hw1,hw2,By,C3,Ax]
 by_cases e3:k=3
 ·subst e3
  have f1:(Oy 3).1=1:=rfl
  have q0:0<l.length:=by omega
  have u0:=ge 0 q0
  have hR:E8 3 l=Za (l.getD 0 0):=rfl
  generalize l.getD 0 0=x0 at *
  generalize E8 3 l=r at *
  subst hR
  simp[Cc]
  refine A4 (Dw hΓ 3 hk.1 hk.2) rfl ?_
  simp[A6,hw1,hw2,By]
  simp(disch:=omega) [A6,A9,q0,u0]
  refine A4 (Yk x0) rfl ?_
  simp[C3,Ax]
 by_cases e4:k=4
 ·subst e4
  have f1:(Oy 4).1=1:=rfl
  have q0:0<l.length:=by omega
  have u0:=ge 0 q0
  have p0:=g0.1
  have hR:E8 4 l=P8 (l.getD 0 0):=rfl
  generalize l.getD 0 0=x0 at *
  generalize E8 4 l=r at *
  subst hR
  simp[Cc]
  refine A4 (Dw hΓ 4 hk.1 hk.2) rfl ?_
  simp[A6,hw1,hw2,By]
  simp(disch:=omega) [A6,A9,q0,u0]
  refine A4 (q6u x0 p0) rfl ?_
  simp[C3,Ax]
 by_cases e5:k=5
 ·subst e5
  have hR:E8 5 l=M6 0 1 1 l:=rfl
  generalize E8 5 l=r at *
  subst hR
  simp[Cc]
  refine A4 (Dw hΓ 5 hk.1 hk.2) rfl ?_
  simp[A6,hw1,hw2,By]
  refine A4 (qE4 l c nl hl) rfl ?_
  simp[C3,Ax]
 by_cases e6:k=6
 ·subst e6
  have hR:E8 6 l=P8 (M6 0 1 1 l):=rfl
  generalize E8 6 l=r at *
  subst hR
  simp[Cc]
  refine A4 (Dw hΓ 6 hk.1 hk.2) rfl ?_
  simp[A6,hw1,hw2,By]
  refine A4 (qE4 l c nl hl) rfl ?_
  simp
  refine A4 (q6u _ n1) rfl ?_
  simp[C3,Ax]
 by_cases e7:k=7
 ·subst e7
  have hR:E8 7 l=M6 1 0 0 l:=rfl
  generalize E8 7 l=r at *
  subst hR
  simp[Cc]
  refine A4 (Dw hΓ 7 hk.1 hk.2) rfl ?_
  simp[A6,hw1,hw2,By]
  refine A4 (qGd l c nl hl) rfl ?_
  simp[C3,Ax]
 by_cases e8:k=8
 ·subst e8
  have hR:E8 8 l=P8 (M6 1 0 0 l):=rfl
  generalize E8 8 l=r at *
  subst hR
  simp[Cc]
  refine A4 (Dw hΓ 8 hk.1 hk.2) rfl ?_
  simp[A6,hw1,hw2,By]
  refine A4 (qGd l c nl hl) rfl ?_
  simp
  refine A4 (q6u _ n2) rfl ?_
  simp[C3,Ax]
 by_cases e9:k=9
 ·subst e9
  have hR:E8 9 l=Y3 0 l:=rfl
  generalize E8 9 l=r at *
  subst hR
  simp[Cc]
  refine A4 (Dw hΓ 9 hk.1 hk.2) rfl ?_
  simp[A6,hw1,hw2,By]
  refine A4 (qE6 l c nl hl hv0) rfl ?_
  simp[C3,Ax]
 by_cases e10:k=10
 ·subst e10
  have hR:E8 10 l=P8 (Y3 0 l):=rfl
  generalize E8 10 l=r at *
  subst hR
  simp[Cc]
  refine A4 (Dw hΓ 10 hk.1 hk.2) rfl ?_
  simp[A6,hw1,hw2,By]
  refine A4 (qE6 l c nl hl hv0) rfl ?_
  simp
  refine A4 (q6u _ n3) rfl ?_
  simp[C3,Ax]
 by_cases e11:k=11
 ·subst e11
  have f1:(Oy 11).1=3:=rfl
  have q0:0<l.length:=by omega
  have u0:=ge 0 q0
  have q1:1<l.length:=by omega
  have u1:=ge 1 q1
  have q2:2<l.length:=by omega
  have u2:=ge 2 q2
  have hR:E8 11 l=qBJ (l.getD 0 0) (l.getD 1 0) (l.getD 2 0):=rfl
  generalize l.getD 0 0=x0 at *
  generalize l.getD 1 0=x1 at *
  generalize l.getD 2 0=x2 at *
  generalize E8 11 l=r at *
  subst hR
  simp[Cc]
  refine A4 (Dw hΓ 11 hk.1 hk.2) rfl ?_
  simp[A6,hw1,hw2,By]
  simp(disch:=omega) [A6,A9,q0,u0,q1,u1,q2,u2]
  refine⟨by omega,by omega,?_⟩
  refine A4 (qJ0 x0 x1 x2) rfl ?_
  simp[C3,Ax]
 by_cases e12:k=12
 ·subst e12
  have f1:(Oy 12).1=2:=rfl
  have q0:0<l.length:=by omega
  have u0:=ge 0 q0
  have q1:1<l.length:=by omega
  have u1:=ge 1 q1
  have hR:E8 12 l=qCo (l.getD 0 0) (l.getD 1 0):=rfl
  generalize l.getD 0 0=x0 at *
  generalize l.getD 1 0=x1 at *
  generalize E8 12 l=r at *
  subst hR
  simp[Cc]
  refine A4 (Dw hΓ 12 hk.1 hk.2) rfl ?_
  simp[A6,hw1,hw2,By]
  simp(disch:=omega) [A6,A9,q0,u0,q1,u1]
  refine⟨by omega,?_⟩
  refine A4 (qJ1 x0 x1) rfl ?_
  simp[C3,Ax]
 by_cases e13:k=13
 ·subst e13
  have hR:E8 13 l=q82 l:=rfl
  generalize E8 13 l=r at *
  subst hR
  simp[Cc]
  refine A4 (Dw hΓ 13 hk.1 hk.2) rfl ?_
  simp[A6,hw1,hw2,By]
  refine A4 (qJ4 l c nl hl) rfl ?_
  simp[C3,Ax]
 have ek:E8 k l=2:=by
  unfold E8
  rw[if_neg e1,if_neg e2,if_neg e3,if_neg e4,if_neg e5,if_neg e6,if_neg e7,if_neg e8,if_neg e9,if_neg e10,if_neg e11,if_neg e12,if_neg e13]
 rw[ek]
 simp[Cc]
 refine A4 (Dw hΓ k hk.1 hk.2) rfl ?_
 simp[A6,hw1,hw2,C3,Ax,e1,e2,e3,e4,e5,e6,e7,e8,e9,e10,e11,e12,e13]
end Go.Lg
namespace Go.Lg
open Go
section
variable {P:Program} {Γ:Tables} {Q:AX->St->Prop} {s:St}
/- slices.SortStableFunc[[]int,int] (function 115) -/
abbrev Kt:IC:=(.reg [om 4 0,om 5 0,od 6 (le 0 5),om 7 1,od 8 (.hcall 182 [(tm 4),(tm 6),(tm 7)] [1000000] 8000)] [kp [] [1000000]])
def Ku:List RV:=[]
/- slices.stableCmpFunc[int] (function 182) -/
abbrev Ln:IC:=.gh (.seq (.seq (.reg [om 11 8,om 12 1,od 13 (.bin .leq (tm 11) (tm 12))] [kp [0,1,2,6,7,8,13] [1000000]]) (.cond (tm 13) .skip (.exit 0))) (.block 1 (.seq (.reg [om 14 0,om 15 7,om 16 8,om 17 2,od 18 (.hcall 205 [(tm
 14),(tm 15),(tm 16),(tm 17)] [1000000] 18000)] [kp [0,1,2,6,8] [1000000]]) (.seq (.reg [om 19 8,om 7 19] [kp [0,1,2,6,7,8] [1000000]]) (.reg [om 20 8,om 21 6,od 22 (.bin .add (tm 20) (tm 21)),om 8 22] [kp [0,1,2,
 6,7,8] [1000000]]))))) [kp [0,1,2,6,7,8] [1000000]]
def Gm:IC:=.loop Ln
abbrev Y7:IC:=.gh (.seq (.seq (.reg [om 33 8,om 34 1,od 35 (.bin .leq (tm 33) (tm 34))] [kp [0,1,2,6,7,8,35] [1000000]]) (.cond (tm 35) .skip (.exit 4))) (.block 5 (.seq (.reg [om 36 0,om 37 7,om 38 7,om 39 6,od 40 (.bin .add (tm 38)
 (tm 39)),om 41 8,om 42 2,od 43 (.hcall 206 [(tm 36),(tm 37),(tm 40),(tm 41),(tm 42)] [1000000] 43000)] [kp [0,1,2,6,8] [1000000]]) (.seq (.reg [om 44 8,om 7 44] [kp [0,1,2,6,7,8] [1000000]]) (.reg [om 45 8,om 46
 6,od 47 (.bin .mul (ki 2) (tm 46)),od 48 (.bin .add (tm 45) (tm 47)),om 8 48] [kp [0,1,2,6,7,8] [1000000]]))))) [kp [0,1,2,6,7,8] [1000000]]
def Y8:IC:=.loop Y7
abbrev Lo:IC:=.gh (.seq (.seq (.reg [om 28 6,om 29 1,od 30 (.bin .lss (tm 28) (tm 29))] [kp [0,1,2,6,30] [1000000]]) (.cond (tm 30) .skip (.exit 2))) (.block 3 (.seq (.reg [om 31 6,od 32 (.bin .mul (ki 2) (tm 31)),od 7 (.mv (ki 0)),om 8
 32] [kp [0,1,2,6,7,8] [1000000]]) (.seq (.block 4 Y8) (.seq (.seq (.reg [om 49 7,om 50 6,od 51 (.bin .add (tm 49) (tm 50)),om 9 51] [kp [0,1,2,6,7,9] [1000000]]) (.seq (.reg [om 52 9,om 53 1,
 od 54 (.bin .lss (tm 52) (tm 53))] [kp [0,1,2,6,7,9,54] [1000000]]) (.cond (tm 54) (.reg [om 55 0,om 56 7,om 57 9,om 58 1,om 59 2,od 60 (.hcall 206 [(tm 55),(tm 56),(tm 57),(tm 58),(tm 59)] [1000000] 60000)] [kp [0,
 1,2,6] [1000000]]) .skip))) (.reg [om 61 6,od 62 (.bin .mul (tm 61) (ki 2)),om 6 62] [kp [0,1,2,6] [1000000]])))))) [kp [0,1,2,6] [1000000]]
def Gn:IC:=.loop Lo
abbrev Lp:IC:=(.seq (.reg [od 6 (.mv (ki 20))] [kp [0,1,2,6] [1000000]]) (.seq (.reg [om 10 6,od 7 (.mv (ki 0)),om 8 10] [kp [0,1,2,6,7,8] [1000000]]) (.seq (.block 0 Gm) (.seq (.reg [om 23 0,om 24 7,om 25 1,
 om 26 2,od 27 (.hcall 205 [(tm 23),(tm 24),(tm 25),(tm 26)] [1000000] 27000)] [kp [0,1,2,6] [1000000]]) (.block 2 Gn)))))
theorem Tt (h:∀ K:St->Prop,K=run P Γ Gm Q->run P Γ Ln (Aw K Q) s):run P Γ Gm Q s:=Ah h
theorem Tu (h:∀ K:St->Prop,K=run P Γ Gn Q->run P Γ Lo (Aw K Q) s):run P Γ Gn Q s:=Ah h
def Lq:List RV:=[]
/- slices.insertionSortCmpFunc[int] (function 205) -/
abbrev H2:IC:=.gh (.seq (.seq (.reg [om 18 9,om 19 1,od 20 (.bin .gtr (tm 18) (tm 19)),om 21 20,oT 22 (.mv (tm 3)) 21,oT 23 (.mv (tm 0)) 21,oT 24 (.mv (tm 9)) 21,oT 25 (ia 1 23 24) 21,oT 26 (ld 1 25) 21,oT 27 (.mv (tm 0)) 21,oT 28 (.mv
 (tm 9)) 21,oT 29 (.bin .sub (tm 28) (ki 1)) 21,oT 30 (ia 1 27 29) 21,oT 31 (ld 1 30) 21,oT 32 (.callv (tm 22) [(tm 26),(tm 31)]) 21,oT 33 (.bin .lss (tm 32) (ki 0)) 21,od 34 (.pick (tm 21) (tm 33) kF)] [kp [0,1,2,3,8,9,
 34] [1000000]]) (.cond (tm 34) .skip (.exit 2))) (.seq (.block 3 (.reg [om 37 0,om 38 9,om 39 0,om 40 9,od 41 (.bin .sub (tm 40) (ki 1)),om 42 0,om 43 9,od 44 (.bin .sub (tm 43) (ki 1)),od 45 (ia 1 42 44),od 46 (.ldR
 1000000 1 false (tm 45)),om 47 0,om 48 9,od 49 (ia 1 47 48),od 50 (.ldR 1000000 1 false (tm 49)),od 51 (ia 1 37 38),on (.stR 1000000 1 (tm 51) (tm 46)),od 52 (ia 1 39 41),on (.stR 1000000 1 (tm 52) (tm 50))] [kp [0,1,2,
 3,8,9] [1000000]])) (.reg [om 35 9,od 36 (.bin .sub (tm 35) (ki 1)),om 9 36] [kp [0,1,2,3,8,9] [1000000]]))) [kp [0,1,2,3,8,9] [1000000]]
def D2:IC:=.loop H2
abbrev H3:IC:=.gh (.seq (.seq (.reg [om 12 8,om 13 2,od 14 (.bin .lss (tm 12) (tm 13))] [kp [0,1,2,3,8,14] [1000000]]) (.cond (tm 14) .skip (.exit 0))) (.seq (.block 1 (.seq (.reg [om 17 8,om 9 17] [kp [0,1,2,3,8,9] [1000000]])
 (.block 2 D2))) (.reg [om 15 8,od 16 (.bin .add (tm 15) (ki 1)),om 8 16] [kp [0,1,2,3,8] [1000000]]))) [kp [0,1,2,3,8] [1000000]]
def D3:IC:=.loop H3
abbrev H4:IC:=(.seq (.reg [om 10 1,od 11 (.bin .add (tm 10) (ki 1)),om 8 11] [kp [0,1,2,3,8] [1000000]]) (.block 0 D3))
theorem Ft (h:∀ K:St->Prop,K=run P Γ D2 Q->run P Γ H2 (Aw K Q) s):run P Γ D2 Q s:=Ah h
theorem Fv (h:∀ K:St->Prop,K=run P Γ D3 Q->run P Γ H3 (Aw K Q) s):run P Γ D3 Q s:=Ah h
def H5:List RV:=[]
/- probecard/netlists.Order (function 61) -/
abbrev q0F:IC:=.gh (.seq (.reg [od 23 (.bin .lss (tm 22) (tm 21))] [kp [4,6,21,22,23] [19]]) (.seq (.cond (tm 23) .skip (.exit 0)) (.seq (.block 1 (.seq (.reg [om 24 22,om 7 24] [kp [4,6,7,21,22] [19]]) (.reg [om 25 6,om 26 7,om 27 7,
 od 28 (ia 1 25 26),on (.store 1 (tm 28) (tm 27))] [kp [4,6,21,22] [19]]))) (.reg [od 29 (.bin .add (tm 22) (ki 1)),om 22 29] [kp [4,6,21,22] [19]])))) [kp [4,6,21,22] [19]]
def Lr:IC:=.loop q0F
abbrev q0G:IC:=(.seq (.reg [od 1 (.box true (tm 0)),od 2 (.mv kN),od 3 (.mv (ki 0))] [kp [1] []]) (.seq (.reg [od 9 (lG 4 1),od 10 (.call 40 [(tm 9)]),om 8 10,od 11 (ex 8 0),od 12 (ex 8 1),od 4 (.alloc false [(.slice none 0 0)]),on
 (.store 1 (tm 4) (tm 11)),om 5 12] [.frz 4,kp [1,4,5] []]) (.seq (.seq (.reg [om 13 5,od 14 (.bin .neq (tm 13) (ki 0))] [kp [1,4,5,14] []]) (.cond (tm 14) (.seq (.reg [om 15 5,od 2 (.mv kN),om 3 15] [kp [2,3] [19]])
 .ret) .skip)) (.seq (.reg [od 16 (fa 0 1),od 17 (ld 1 16),od 18 (le 0 17),od 19 (.mk 3 1 [(.int .i64 0)] (tm 18) (tm 18)),om 6 19] [kp [4,6] [19]]) (.seq (.seq (.reg [om 20 6,od 21 (le 0 20),od 22 (.mv (ki 0))] [kp [4,6,
 21,22] [19]]) (.block 0 Lr)) (.seq (.reg [om 30 6,od 31 (.mkf 116 [(tm 4)]),od 32 (.hcall 115 [(tm 30),(tm 31)] [19] 32000)] [kp [6] [19]]) (.seq (.reg [om 33 6,om 2 33,od 3 (.mv (ki 0))] [kp [2,3] [19]])
 .ret)))))))
theorem U5 (h:∀ K:St->Prop,K=run P Γ Lr Q->run P Γ q0F (Aw K Q) s):run P Γ Lr Q s:=Ah h
def Ss:List RV:=[.tmp 2,.tmp 3]
/- probecard/netlists.Order$1 (function 116) -/
abbrev Xe:IC:=(.seq (.reg [od 5 (.mv (ki 0))] [kp [0,1,2] []]) (.seq (.reg [od 6 (ld 1 2),om 7 0,od 8 (ia 1 6 7),od 9 (ld 1 8),od 10 (ld 1 2),om 11 1,od 12 (ia 1 10 11),od 13 (ld 1 12),od 14 (.call 117 [(tm 9),(tm 13)]),om 5 14] [kp
 [5] []]) .ret))
def Xf:List RV:=[.tmp 5]
/- cmp.Compare[int] (function 117) -/
abbrev Ze:IC:=(.seq (.reg [od 4 (.mv (ki 0))] [kp [0,1] []]) (.seq (.reg [om 7 0,od 8 (.call 183 [(tm 7)]),om 5 8] [kp [0,1,5] []]) (.seq (.reg [om 9 1,od 10 (.call 183 [(tm 9)]),om 6 10] [kp [0,1,5,6] []]) (.seq (.seq (.reg [om 11 5]
 [kp [0,1,6,11] []]) (.cond (tm 11) (.seq (.seq (.reg [om 12 6] [kp [12] []]) (.cond (tm 12) (.seq (.reg [od 4 (.mv (ki 0))] [kp [4] []]) .ret) .skip)) (.seq (.reg [od 4 (.mv (.const (.int .i64 (-1))))] [kp [4] []]) .ret))
 .skip)) (.seq (.seq (.reg [om 13 6] [kp [0,1,13] []]) (.cond (tm 13) (.seq (.reg [od 4 (.mv (ki 1))] [kp [4] []]) .ret) .skip)) (.seq (.seq (.reg [om 14 0,om 15 1,od 16 (.bin .lss (tm 14) (tm 15))] [kp [0,1,16] []]) (.cond
 (tm 16) (.seq (.reg [od 4 (.mv (.const (.int .i64 (-1))))] [kp [4] []]) .ret) .skip)) (.seq (.seq (.reg [om 17 0,om 18 1,od 19 (.bin .gtr (tm 17) (tm 18))] [kp [19] []]) (.cond (tm 19) (.seq (.reg [od 4 (.mv (ki 1))] [kp [4] []])
 .ret) .skip)) (.seq (.reg [od 4 (.mv (ki 0))] [kp [4] []]) .ret))))))))
def Qb:List RV:=[.tmp 4]
/- cmp.isNaN[int] (function 183) -/
abbrev q1G:IC:=(.seq (.reg [od 2 (.mv kF)] [kp [0] []]) (.seq (.reg [om 3 0,om 4 0,od 5 (.bin .neq (tm 3) (tm 4)),om 2 5] [kp [2] []]) .ret))
def q1H:List RV:=[.tmp 2]
end
end Go.Lg
namespace Go.Lg
open Go Go.Proofs
theorem W1:Ba Tryz.prog 115 Kt 9 2 Ku=true:=by kernel_rfl
theorem Wx:Ba Tryz.prog 182 Lp 63 3 Lq=true:=by kernel_rfl
theorem P9:Ba Tryz.prog 205 H4 53 4 H5=true:=by kernel_rfl
theorem q65:Ba Tryz.prog 61 q0G 34 1 Ss=true:=by kernel_rfl
theorem q3s:Ba Tryz.prog 116 Xe 15 3 Xf=true:=by kernel_rfl
theorem q4n:Ba Tryz.prog 117 Ze 20 2 Qb=true:=by kernel_rfl
theorem q6x:Ba Tryz.prog 183 q1G 6 1 q1H=true:=by kernel_rfl
end Go.Lg
namespace Go.Lg
open Go Go.Proofs
variable {Γ:Tables}
theorem qE7 {hp:List (Nat×B9)} {f:FuncId} {K:T->Prop} {cs:List T} {t u res:T} (h:A8 Tryz.prog Γ f (t::u::cs) res) (hk:K res):q8Y Tryz.prog Γ hp f (.t t::.t u::cs.map .t) K ⟨⟩ :=
 A4 h (by simp only[xqm,xq5,Function.comp_def,Ak,Ai];rw[q3T];rfl) hk
theorem qJ5 {l:List Int} {a b:Nat}:Af (q08 l a b)=((Af l).set a [tI (l.getD b 0)]).set b [tI (l.getD a 0)]:=by
 show Au tI _=((Au tI l).set a _).set b _
 rw[Gf,Gf];rfl
theorem ge1 {f:Int->T} {l:List Int} {i:Nat} (hi:i<l.length):(Au f l)[i]?.getD []=[f (l.getD i 0)]:=by
 have hget:=D8 (f:=f) 0 hi
 have hgg:l[i]?.getD 0=l.getD i 0:=by simp[xqe]
 rw[hgg]at hget
 exact hget
theorem qC8 {Q:AX->St->Prop} (ty n:Nat) (cap:Option Nat) (hn:n<=1000000000) (f:FuncId) (cs:List T) (cmp:Int->Int->Int) (i:Nat) (hi:i<n) (R:List Int)
  (h0:∀ j:Int,Q (.exit 2) ⟨[(0,.ls 1000000 0 n cap),(1,.t (tI 0)),(2,.t (tI n)),(3,.t (.fn f cs)),(8,.t (tI i)),(9,.t (tI j)),(34,.t (tB false))],[(1000000,.sl ty 1 (Af R))]⟩) :
  ∀ (j:Nat) (l:List Int),j<=i->l.length=n->(∀ x∈l,∀ y∈l,A8 Tryz.prog Γ f (tI x::tI y::cs) (tI (cmp x y)))->qAH (fun a b=>decide (cmp a b<0)) j l=R ->
  run Tryz.prog Γ D2 Q ⟨[(0,.ls 1000000 0 n cap),(1,.t (tI 0)),(2,.t (tI n)),(3,.t (.fn f cs)),(8,.t (tI i)),(9,.t (tI j))],[(1000000,.sl ty 1 (Af l))]⟩
 | 0,l,hj,hl,hc,hR=>by
  refine Ft fun K hK=>?_
  simp only[qAH]at hR
  subst hR
  simp
  exact h0 0
 | j+1,l,hj,hl,hc,hR=>by
  refine Ft fun K hK=>?_
  simp only[qAH]at hR
  have la:j<l.length:=by omega
  have lb:j+1<l.length:=by omega
  have e1:=ge1 (f:=tI) la
  have e2:=ge1 (f:=tI) lb
  have m1:l.getD j 0∈l:=by rw[Be la];exact xqj la
  have m2:l.getD (j+1) 0∈l:=by rw[Be lb];exact xqj lb
  have hcc:=hc _ m2 _ m1
  have hs:=qJ5 (l:=l) (a:=j+1) (b:=j)
  have hperm:(q08 l (j+1) j).Perm l:=qAD lb la
  have hpl:=q7y (l:=l) (a:=j+1) (b:=j)
  have hcs:∀ x∈q08 l (j+1) j,∀ y∈q08 l (j+1) j,A8 Tryz.prog Γ f (tI x::tI y::cs) (tI (cmp x y)):=fun x hx y hy=>hc x (hperm.mem_iff.1 hx) y (hperm.mem_iff.1 hy)
  have ih:=qC8 ty n cap hn f cs cmp i hi R h0 j (q08 l (j+1) j) (by omega) (by rw[hpl];exact hl) hcs
  generalize q08 l (j+1) j=l' at *
  generalize l.getD j 0=va at *
  generalize l.getD (j+1) 0=vb at *
  have hj1:(0:Int)<(j:Int)+1:=by omega
  have hj2:((j:Int)+1).toNat=j+1:=by omega
  have hj3:(j:Int)+1<n:=by omega
  have hj4:(j:Int)<n:=by omega
  have hj5:(j:Int)+1-1=j:=by omega
  have lan:j<n:=by omega
  have lbn:j+1<n:=by omega
  simp(disch:=omega) [hj1,hj2,hj3,hj4,hj5,lan,lbn,A6,A9,hl,e1,e2,A7]
  refine⟨by omega,qE7 hcc ?_⟩
  by_cases h:cmp vb va<0
  ·rw[if_pos (by simpa using h)]at hR
   have ih:=ih hR
   rw[hs]at ih
   simp(disch:=omega) [h,hj1,hj2,hj3,hj4,hj5,lan,lbn,A6,A9,hl,e1,e2,A7]
   refine⟨by omega,?_⟩
   rw[hK]
   exact_mod_cast ih
  ·rw[if_neg (by simpa using h)]at hR
   subst hR
   simp(disch:=omega) [h]
   exact_mod_cast h0 (j+1)
theorem qE8 {Q:AX->St->Prop} (ty n:Nat) (cap:Option Nat) (hn:n<=1000000000) (f:FuncId) (cs:List T) (cmp:Int->Int->Int) (R:List Int)
  (h0:∀ i:Int,Q (.exit 0) ⟨[(0,.ls 1000000 0 n cap),(1,.t (tI 0)),(2,.t (tI n)),(3,.t (.fn f cs)),(8,.t (tI i)),(14,.t (tB false))],[(1000000,.sl ty 1 (Af R))]⟩) :
  ∀ (k i:Nat) (l:List Int),1<=i->i+k=max 1 n->l.length=n->(∀ x∈l,∀ y∈l,A8 Tryz.prog Γ f (tI x::tI y::cs) (tI (cmp x y)))->q3h (fun a b=>decide (cmp a b<0)) k i l=R ->
  run Tryz.prog Γ D3 Q ⟨[(0,.ls 1000000 0 n cap),(1,.t (tI 0)),(2,.t (tI n)),(3,.t (.fn f cs)),(8,.t (tI i))],[(1000000,.sl ty 1 (Af l))]⟩
 | 0,i,l,h1,h,hl,hc,hR=>by
  refine Fv fun K hK=>?_
  simp only[q3h]at hR
  subst hR
  have h2:¬ (i:Int)<n:=by omega
  have h2':¬ i<n:=by omega
  simp[h2,h2']
  exact h0 _
 | k+1,i,l,h1,h,hl,hc,hR=>by
  refine Fv fun K hK=>?_
  simp only[q3h]at hR
  have h2:(i:Int)<n:=by omega
  have h2':i<n:=by omega
  have hperm:=q4a (lt:=fun a b=>decide (cmp a b<0)) (j:=i) (l:=l) (by omega)
  have ih:=qE8 ty n cap hn f cs cmp R h0 k (i+1) (qAH (fun a b=>decide (cmp a b<0)) i l) (by omega) (by omega) (by rw[hperm.length_eq];exact hl) (fun x hx y hy=>hc x (hperm.mem_iff.1 hx) y (hperm.mem_iff.1 hy)) hR
  have hlp:=fun Q h0=>qC8 (Γ:=Γ) (Q:=Q) ty n cap hn f cs cmp i h2' _ h0 i l (xzo _) hl hc rfl
  simp(disch:=omega) [h2,h2',A7]
  refine hlp _ fun j=>?_
  simp(disch:=omega) [A7]
  rw[hK]
  exact_mod_cast ih
theorem qE9 (ty n:Nat) (cap:Option Nat) (hn:n<=1000000000) (f:FuncId) (cs:List T) (cmp:Int->Int->Int) (l:List Int) (hl:l.length=n) (hc:∀ x∈l,∀ y∈l,A8 Tryz.prog Γ f (tI x::tI y::cs) (tI (cmp x y))) :
  Bm Tryz.prog Γ 205 [(1000000,.sl ty 1 (Af l))] [.ls 1000000 0 n cap,.t (tI 0),.t (tI n),.t (.fn f cs)] (.t (.tup [])) [(1000000,.sl ty 1 (Af (q3h (fun a b=>decide (cmp a b<0)) (n-1) 1 l)))]:=by
 refine Ee P9 rfl ?_
 have hlp:=fun Q h0=>qE8 (Γ:=Γ) (Q:=Q) ty n cap hn f cs cmp _ h0 (n-1) 1 l (by omega) (by omega) hl hc rfl
 simp(disch:=omega) [H4,A7]
 refine hlp _ fun i=>?_
 simp[H5]
theorem qC9 {lt:Int->Int->Bool}:∀ {f i:Nat} {l:List Int},i+f<=l.length\/f=0->(q3h lt f i l).Perm l
 | 0,i,l,_=>List.Perm.refl l
 | f+1,i,l,h=>by
  simp only[q3h]
  have hp:=q4a (lt:=lt) (j:=i) (l:=l) (by omega)
  exact(qC9 (by rw[hp.length_eq];omega)).trans hp
theorem qEA {lt:Int->Int->Bool} {l:List Int} {n:Nat} (h:l.length=n):(q3h lt (n-1) 1 l).length=l.length:=(qC9 (by omega)).length_eq
theorem qJ6 (ty n:Nat) (cap:Option Nat) (hn:n<=19) (f:FuncId) (cs:List T) (cmp:Int->Int->Int) (l:List Int) (hl:l.length=n) (hc:∀ x∈l,∀ y∈l,A8 Tryz.prog Γ f (tI x::tI y::cs) (tI (cmp x y))) :
  Bm Tryz.prog Γ 182 [(1000000,.sl ty 1 (Af l))] [.ls 1000000 0 n cap,.t (tI n),.t (.fn f cs)] (.t (.tup [])) [(1000000,.sl ty 1 (Af (q3h (fun a b=>decide (cmp a b<0)) (n-1) 1 l)))]:=by
 refine Ee Wx rfl ?_
 have hi:=qE9 (Γ:=Γ) ty n cap (by omega) f cs cmp l hl hc
 simp(disch:=omega) [Lp,A7]
 have hR:=qEA (lt:=fun a b=>decide (cmp a b<0)) hl
 generalize q3h (fun a b=>decide (cmp a b<0)) (n-1) 1 l=R at *
 refine Tt fun K hK=>?_
 have h1:¬ (20:Int)<=n:=by omega
 have h2:¬ 20<=n:=by omega
 have h3:¬ (20:Int)<n:=by omega
 have h4:¬ 20<n:=by omega
 simp[h1,h2]
 refine⟨_,_,hi,?_⟩
 simp[A6,hR]
 refine Tu fun K hK=>?_
 simp[h3,h4,Lq]
theorem qNR (ty n:Nat) (cap:Option Nat) (hn:n<=19) (f:FuncId) (cs:List T) (cmp:Int->Int->Int) (l:List Int) (hl:l.length=n) (hc:∀ x∈l,∀ y∈l,A8 Tryz.prog Γ f (tI x::tI y::cs) (tI (cmp x y))) :
  Bm Tryz.prog Γ 115 [(1000000,.sl ty 1 (Af l))] [.ls 1000000 0 n cap,.t (.fn f cs)] (.t (.tup [])) [(1000000,.sl ty 1 (Af (q3h (fun a b=>decide (cmp a b<0)) (n-1) 1 l)))]:=by
 refine Ee W1 rfl ?_
 have hi:=qJ6 (Γ:=Γ) ty n cap hn f cs cmp l hl hc
 have hR:=qEA (lt:=fun a b=>decide (cmp a b<0)) hl
 generalize q3h (fun a b=>decide (cmp a b<0)) (n-1) 1 l=R at *
 simp(disch:=omega) [Kt,A7]
 refine⟨_,_,hi,?_⟩
 simp[Ku,A6,hR]
theorem qEB (n:Int):A8 Tryz.prog Γ 183 [tI n] (tB false):=by
 refine Ae q6x rfl ?_
 simp[q1G,q1H,Ax]
def qFX (a b:Int):Int:=if a<b then -1 else if b<a then 1 else 0
theorem qJ7 (a b:Int):A8 Tryz.prog Γ 117 [tI a,tI b] (tI (qFX a b)):=by
 refine Ae q4n rfl ?_
 simp[Ze]
 refine A4 (qEB a) rfl ?_
 simp
 refine A4 (qEB b) rfl ?_
 by_cases h:a<b
 ·simp[h,Qb,Ax,qFX]
 ·by_cases h1:b<a<;>simp[h,h1,Qb,Ax,qFX]
def qL3 (c:Bi):T:=.sl (Af (Hu c).2.out) none none
theorem qEC (c:Bi) (h:Cf c=0) (a b:Int) (ha:0<=a/\a<c.nodes.l.length) (hb:0<=b/\b<c.nodes.l.length):A8 Tryz.prog Γ 116 [tI a,tI b,.ip [qL3 c] 0] (tI (qFX (Gz c a.toNat) (Gz c b.toNat))):=by
 refine Ae q3s rfl ?_
 have hl:=(q2C h).1
 have e1:=ge1 (f:=tI) (l:=(Hu c).2.out) (i:=a.toNat) (by omega)
 have e2:=ge1 (f:=tI) (l:=(Hu c).2.out) (i:=b.toNat) (by omega)
 unfold Gz qL3
 generalize (Hu c).2.out.getD a.toNat 0=va at *
 generalize (Hu c).2.out.getD b.toNat 0=vb at *
 simp(disch:=omega) [Xe,A6,A9,hl,e1,e2,ha,hb]
 refine A4 (qJ7 _ _) rfl ?_
 simp[Xf,Ax]
theorem qAL {Q:AX->St->Prop} (n:Nat) (hn:n<=1000000000) (a4:T)
  (h0:Q (.exit 0) ⟨[(4,.t a4),(6,.ls 19 0 n none),(21,.t (tI n)),(22,.t (tI n)),(23,.t (tB false))],[(19,.sl 3 1 (Af (rng n)))]⟩):∀ (k i:Nat),k+i=n ->
  run Tryz.prog Γ Lr Q ⟨[(4,.t a4),(6,.ls 19 0 n none),(21,.t (tI n)),(22,.t (tI i))],[(19,.sl 3 1 (Af (rng i++List.replicate (n-i) 0)))]⟩
 | 0,i,h=>by
  refine U5 fun K hK=>?_
  have h2:i=n:=by omega
  subst h2
  simp
  simpa using h0
 | k+1,i,h=>by
  refine U5 fun K hK=>?_
  have ih:=qAL n hn a4 h0 k (i+1) (by omega)
  have h2:i<n:=by omega
  have hs:(Af (rng i++List.replicate (n-i) 0)).set i [tI i]=Af (rng (i+1)++List.replicate (n-(i+1)) 0):=by
   show(Au tI _).set i [tI i]=Au tI _
   rw[Gf]
   congr 1
   have e:n-i=(n-(i+1))+1:=by omega
   rw[e,List.replicate_succ,List.set_append,if_neg (by rw[Hv];omega),Hv,xjb]
   simp[rng,List.range_succ]
  have hlen:(Af (rng i++List.replicate (n-i) 0)).length=n:=by rw[A6];simp[Hv];omega
  generalize Af (rng i++List.replicate (n-i) 0)=E at *
  simp(disch:=omega) [h2,hlen,hs,A7]
  rw[hK]
  exact_mod_cast ih
theorem qAM (hΓ:GOk Γ) (c:Bi) (hc:COk c) (hn:c.nodes.l.length<=19) :
  A8 Tryz.prog Γ 61 [.agg (tC c)] (.tup [if Cf c=0 then .sl (Af (I9 c)) none none else .sl [] (some 0) (some true),tI (Cf c)]):=by
 refine Ae q65 rfl ?_
 have e1:=q8g hΓ c hc.toCirOk hc.asc
 simp[q0G,tC,Aa,Ad,Ag,As]
 refine A4 e1 rfl ?_
 by_cases h:Cf c=0
 case neg=>simp[h,Ss,St.freeze,B9.closed,Cb,frz1,frz0,Ei,del,Ai]
 have hlp:=fun Q h0=>qAL (Γ:=Γ) (Q:=Q) c.nodes.l.length (by omega) (.ip [qL3 c] 0) h0 c.nodes.l.length 0 (by omega)
 have hz:List.replicate c.nodes.l.length [T.v (Value.int .i64 0)]=Af (rng 0++List.replicate (c.nodes.l.length-0) 0):=by simp[Au,rng]
 have hsort:=qNR (Γ:=Γ) 3 c.nodes.l.length none hn 116 [.ip [qL3 c] 0] (fun a b=>qFX (Gz c a.toNat) (Gz c b.toNat)) (rng c.nodes.l.length) Hv (fun x hx y hy=>qEC c h x y (Lm.1 hx) (Lm.1 hy))
 have hlt:(fun a b=>decide (qFX (Gz c a.toNat) (Gz c b.toNat)<0))=qGa c:=by
  funext a b
  simp only[qGa,qFX]
  by_cases h1:Gz c a.toNat<Gz c b.toNat
  ·simp[h1]
  ·by_cases h2:Gz c b.toNat<Gz c a.toNat<;>simp[h1,h2]
 rw[hlt]at hsort
 have ho:q3h (qGa c) (c.nodes.l.length-1) 1 (rng c.nodes.l.length)=I9 c:=rfl
 rw[ho]at hsort
 have holen:(I9 c).length=c.nodes.l.length:=by rw[(Qs c).1.length_eq,Hv]
 simp[h,Ab,A7,St.freeze,B9.closed,Cb,frz1,frz0,Ei,del,Ai]
 refine⟨by omega,?_⟩
 rw[hz]
 refine hlp _ ?_
 simp
 refine⟨_,_,hsort,?_⟩
 have htk:(Af (I9 c)).take c.nodes.l.length=Af (I9 c):=xqw (by rw[A6,holen];exact xzo _)
 simp[A6,Hv,holen,Ss,Ai,htk,h]
end Go.Lg
namespace Go.Lg
open Go
section
variable {P:Program} {Γ:Tables} {Q:AX->St->Prop} {s:St}
/- probecard/sims.fits (function 62) -/
abbrev q2G:IC:=(.seq (.reg [od 2 (.box true (tm 0)),od 3 (.box true (tm 1)),od 4 (.mv (ki 0))] [kp [2,3] []]) (.seq (.block 0 (.seq (.reg [od 6 (fa 2 2),od 7 (ld 1 6),od 8 (le 0 7),od 9 (.bin .gtr (tm 8) (ki 0)),om 10 9,oF 11 (lG 4 2) 10,
 oF 12 (.bsl true 48 1 [(ku 15)]) 10,oF 13 (.call 102 [(tm 11),(tm 12)]) 10,oF 14 (le 0 13) 10,oF 15 (.bin .gtr (tm 14) (ki 0)) 10,od 16 (.pick (tm 10) kT (tm 15)),om 5 16] [kp [2,3,5] []]) (.cond (tm 5) (.seq (.reg [od 4
 (.mv (ki 7))] [kp [4] []]) .ret) (.seq (.reg [od 18 (fa 0 3),od 19 (ld 1 18),od 20 (le 0 19),od 21 (lG 4 2),od 22 (.call 38 [(tm 21)]),od 23 (le 0 22),od 24 (.bin .neq (tm 20) (tm 23)),om 25 24,oF 26 (fa 1 3) 25,oF 27 (ld
 1 26) 25,oF 28 (le 0 27) 25,oF 29 (lG 4 2) 25,oF 30 (.call 39 [(tm 29)]) 25,oF 31 (le 0 30) 25,oF 32 (.bin .neq (tm 28) (tm 31)) 25,od 33 (.pick (tm 25) kT (tm 32)),om 17 33] [kp [3,17] []]) (.cond (tm 17) (.seq (.reg [od 4
 (.mv (ki 8))] [kp [4] []]) .ret) (.seq (.reg [od 35 (fa 0 3),od 36 (ld 1 35),od 37 (.call 43 [(tm 36),(.func 118)]),om 38 37,oF 39 (fa 1 3) 38,oF 40 (ld 1 39) 38,oF 41 (.call 43 [(tm 40),(.func 118)]) 38,od 42 (.pick (tm
 38) kT (tm 41)),om 34 42] [kp [34] []]) (.cond (tm 34) (.seq (.reg [od 4 (.mv (ki 1))] [kp [4] []]) .ret) .skip))))))) (.seq (.reg [od 4 (.mv (ki 0))] [kp [4] []]) .ret)))
def Hz:List RV:=[.tmp 4]
/- probecard/sims.above (function 118) -/
abbrev q58:IC:=(.seq (.reg [od 2 (.mv kF)] [kp [0] []]) (.seq (.reg [om 3 0,od 4 (.bin .gtr (tm 3) (ku 3)),om 2 4] [kp [2] []]) .ret))
def q59:List RV:=[.tmp 2]
/- (probecard/sims.run).load (function 63) -/
abbrev q1I:IC:=.gh (.seq (.reg [od 13 (.bin .lss (tm 12) (tm 11))] [kp [2,3,10,11,12,13] [2,1000000]]) (.seq (.cond (tm 13) .skip (.exit 0)) (.seq (.block 1 (.seq (.reg [om 14 12,od 15 (ia 1 10 12),od 16 (ld 1 15),om 4 14,om 5 16] [kp
 [2,3,4,5,10,11,12] [2,1000000]]) (.reg [od 17 (fa 4 2),od 18 (.ldR 2 1 false (tm 17)),om 19 5,od 20 (fa 0 3),od 21 (.ldT 1 false (tm 20)),om 22 4,od 23 (ia 1 21 22),od 24 (.ldT 1 false (tm 23)),od 25 (ia 1 18 19),on
 (.stR 1000000 1 (tm 25) (tm 24))] [kp [2,3,10,11,12] [2,1000000]]))) (.reg [od 26 (.bin .add (tm 12) (ki 1)),om 12 26] [kp [2,3,10,11,12] [2,1000000]])))) [kp [2,3,10,11,12] [2,1000000]]
def O1:IC:=.loop q1I
abbrev q1J:IC:=.gh (.seq (.reg [od 32 (.bin .lss (tm 31) (tm 30))] [kp [2,3,29,30,31,32] [2,1000000]]) (.seq (.cond (tm 32) .skip (.exit 2)) (.seq (.block 3 (.seq (.reg [om 33 31,od 34 (ia 1 29 31),od 35 (ld 1 34),om 6 33,om 7 35] [kp
 [2,3,6,7,29,30,31] [2,1000000]]) (.reg [od 36 (fa 4 2),od 37 (.ldR 2 1 false (tm 36)),om 38 7,od 39 (fa 1 3),od 40 (.ldT 1 false (tm 39)),om 41 6,od 42 (ia 1 40 41),od 43 (.ldT 1 false (tm 42)),od 44 (ia 1 37 38),on
 (.stR 1000000 1 (tm 44) (tm 43))] [kp [2,3,29,30,31] [2,1000000]]))) (.reg [od 45 (.bin .add (tm 31) (ki 1)),om 31 45] [kp [2,3,29,30,31] [2,1000000]])))) [kp [2,3,29,30,31] [2,1000000]]
def O2:IC:=.loop q1J
abbrev q1K:IC:=(.seq (.reg [od 2 (.box false (tm 0)),od 3 (.box true (tm 1))] [kp [2,3] [2,1000000]]) (.seq (.seq (.reg [od 8 (fa 0 2),od 9 (lG 4 8),od 10 (.call 38 [(tm 9)]),od 11 (le 0 10),od 12 (.mv (ki 0))] [kp [2,3,10,11,12] [2,
 1000000]]) (.block 0 O1)) (.seq (.reg [od 27 (fa 0 2),od 28 (lG 4 27),od 29 (.call 39 [(tm 28)]),od 30 (le 0 29),od 31 (.mv (ki 0))] [kp [2,3,29,30,31] [2,1000000]]) (.gh (.block 2 O2) [.keep []
 [1000000]]))))
theorem W2 (h:∀ K:St->Prop,K=run P Γ O1 Q->run P Γ q1I (Aw K Q) s):run P Γ O1 Q s:=Ah h
theorem W3 (h:∀ K:St->Prop,K=run P Γ O2 Q->run P Γ q1J (Aw K Q) s):run P Γ O2 Q s:=Ah h
def q1L:List RV:=[]
/- probecard/sims.Run (function 22) -/
abbrev q8l:IC:=.gh (.seq (.reg [od 62 (.bin .lss (tm 61) (tm 60))] [kp [4,9,10,12,13,40,41,42,59,60,61,62] [4,9,13,34,39]]) (.seq (.cond (tm 62) .skip (.exit 2)) (.seq (.block 3 (.seq (.reg [od 63 (ia 1 59 61),od 64 (ld 1 63),om
 15 64] [kp [4,9,10,12,13,15,40,41,42,59,60,61] [4,9,13,34,39]]) (.reg [om 65 10,od 66 (fa 4 9),od 67 (ld 1 66),om 68 15,od 69 (ia 1 67 68),od 70 (ld 1 69),od 71 (.bsl true 65 1 [(tm 70)]),oz 72 (.app false 65
 1 (tm 65) (tm 71)) 39,om 10 72] [kp [4,9,10,12,13,40,41,42,59,60,61] [4,9,13,34,39]]))) (.reg [od 73 (.bin .add (tm 61) (ki 1)),om 61 73] [kp [4,9,10,12,13,40,41,42,59,60,61] [4,9,13,34,39]])))) [kp
 [4,9,10,12,13,40,41,42,59,60,61] [4,9,13,34,39]]
def q0H:IC:=.loop q8l
abbrev q8m:IC:=.gh (.seq (.reg [od 43 (.bin .lss (tm 42) (tm 41))] [kp [4,9,10,40,41,42,43] [4,9,34,39]]) (.seq (.cond (tm 43) .skip (.exit 0)) (.seq (.block 1 (.seq (.reg [od 44 (ia 1 40 42),od 45 (ld 1 44),om 12 45] [kp [4,9,10,
 12,40,41,42] [4,9,34,39]]) (.seq (.reg [od 46 (fa 0 9),od 47 (fa 0 46),od 48 (ld 1 47),om 49 12,od 50 (ia 4 48 49),od 51 (lG 4 50),od 13 (.alloc false [(.int .u8 0),(.slice none 0 0),(.int .i64 0),(.int .i64 0)]),on
 (.store 4 (tm 13) (tm 51))] [kp [4,9,10,12,13,40,41,42] [4,9,13,34,39]]) (.seq (.seq (.reg [od 52 (fa 0 13),od 53 (ld 1 52),od 54 (.call 14 [(tm 53)]),od 55 (.un .not (tm 54))] [kp [4,9,10,12,13,40,41,42,55]
 [4,9,13,34,39]]) (.cond (tm 55) (.exit 1) .skip)) (.seq (.reg [om 56 10,od 57 (.slice 1 (tm 56) none (some (ki 0)) none),om 10 57] [kp [4,9,10,12,13,40,41,42] [4,9,13,34,39]]) (.seq (.seq (.reg [od 58 (fa 1 13),od
 59 (ld 1 58),od 60 (le 0 59),od 61 (.mv (ki 0))] [kp [4,9,10,12,13,40,41,42,59,60,61] [4,9,13,34,39]]) (.block 2 q0H)) (.reg [od 74 (fa 4 9),od 75 (.ldR 9 1 false (tm 74)),om 76 12,od 77 (fa 0 13),od 78
 (.ldR 13 1 false (tm 77)),om 79 10,od 80 (.call 64 [(tm 78),(tm 79)]),od 81 (ia 1 75 76),on (.stR 34 1 (tm 81) (tm 80))] [kp [4,9,10,40,41,42] [4,9,34,39]]))))))) (.reg [od 82 (.bin .add (tm 42) (ki 1)),om 42 82] [kp
 [4,9,10,40,41,42] [4,9,34,39]])))) [kp [4,9,10,40,41,42] [4,9,34,39]]
def q0I:IC:=.loop q8m
abbrev q3t:IC:=(.seq (.reg [od 2 (.box true (tm 0)),od 3 (.box true (tm 1)),od 4 (.alloc false [(.slice none 0 0),(.slice none 0 0)]),od 5 (.mv kN),od 6 (.mv (ki 0))] [kp [2,3,4] [4]]) (.seq (.reg [od 17 (lG 4 2),od 18 (.call 61 [(tm
 17)]),om 16 18,od 19 (ex 16 0),od 20 (ex 16 1),om 7 19,om 8 20] [kp [2,3,4,7,8] [4]]) (.seq (.seq (.reg [om 21 8,od 22 (.bin .eql (tm 21) (ki 0))] [kp [2,3,4,7,8,22] [4]]) (.cond (tm 22) (.reg [od 23 (lG 4 2),od 24
 (lG 2 3),od 25 (.call 62 [(tm 23),(tm 24)]),om 8 25] [kp [2,3,4,7,8] [4]]) .skip)) (.seq (.seq (.reg [om 26 8,od 27 (.bin .neq (tm 26) (ki 0))] [kp [2,3,4,7,8,27] [4]]) (.cond (tm 27) (.seq (.reg [od 28 (.build [(1,
 kN),(1,kN)]),om 29 8,on (.store 2 (tm 4) (tm 28)),od 5 (.mv kN),om 6 29] [kp [4,5,6] [4,34]]) .ret) .skip)) (.seq (.reg [od 30 (.ldT 4 true (tm 2)),od 31 (fa 0 2),od 32 (.ldT 1 false (tm 31)),od 33 (le 0 32),od 34
 (.mkE 65 1 [(.int .u8 0)] (tm 33) (tm 33)),od 35 (.build [(4,(tm 30)),(1,(tm 34))]),od 9 (.alloc false [(.slice none 0 0),(.slice none 0 0),(.slice none 0 0),(.slice none 0 0),(.slice none 0 0)]),on (.stR 9 5 (tm 9) (tm
 35))] [kp [3,4,7,9] [4,9,34]]) (.seq (.reg [od 36 (lG 5 9),od 37 (lG 2 3),od 38 (.hcall 63 [(tm 36),(tm 37)] [34] 38000)] [kp [4,7,9] [4,9,34]]) (.seq (.reg [od 39 (.mk 65 1 [(.int .u8 0)] (ki 0) (ki 16)),om 10 39] [kp
 [4,7,9,10] [4,9,34,39]]) (.seq (.seq (.reg [om 40 7,od 41 (le 0 40),od 42 (.mv (ki 0))] [kp [4,9,10,40,41,42] [4,9,34,39]]) (.block 0 q0I)) (.seq (.reg [od 83 (.ldR 9 5 true (tm 9)),od 84 (.call 65 [(tm
 83)]),od 85 (fa 4 9),od 86 (.ldR 9 1 false (tm 85)),on (.stR 4 2 (tm 4) (tm 84)),om 5 86,od 6 (.mv (ki 0))] [kp [4,5,6] [4,34]]) .ret)))))))))
theorem q2e (h:∀ K:St->Prop,K=run P Γ q0H Q->run P Γ q8l (Aw K Q) s):run P Γ q0H Q s:=Ah h
theorem q2f (h:∀ K:St->Prop,K=run P Γ q0I Q->run P Γ q8m (Aw K Q) s):run P Γ q0I Q s:=Ah h
def W4:List RV:=[.cell 4 2 true,.tmp 5,.tmp 6]
/- (probecard/sims.run).value (function 128) -/
abbrev Ls:IC:=(.seq (.reg [od 2 (.box true (tm 0)),od 4 (.mv (ku 0))] [kp [1,2] []]) (.seq (.seq (.reg [om 5 1,od 6 (.bin .lss (tm 5) (ki 0)),om 7 6,oF 8 (.mv (tm 1)) 7,oF 9 (fa 4 2) 7,oF 10 (ld 1 9) 7,oF 11 (le 0 10) 7,oF 12 (.bin .geq
 (tm 8) (tm 11)) 7,od 13 (.pick (tm 7) kT (tm 12))] [kp [1,2,13] []]) (.cond (tm 13) (.seq (.reg [od 4 (.mv (ku 2))] [kp [4] []]) .ret) .skip)) (.seq (.reg [od 14 (fa 4 2),od 15 (ld 1 14),om 16 1,od 17 (ia 1 15 16),od 18 (ld
 1 17),od 19 (.call 109 [(tm 18)]),om 4 19] [kp [4] []]) .ret)))
def Lt:List RV:=[.tmp 4]
/- (probecard/sims.run).observe (function 65) -/
abbrev Xg:IC:=.gh (.seq (.reg [od 15 (.bin .lss (tm 14) (tm 13))] [kp [1,2,3,12,13,14,15] [2,3,24,55]]) (.seq (.cond (tm 15) .skip (.exit 0)) (.seq (.block 1 (.seq (.reg [od 16 (ia 1 12 14),od 17 (ld 1 16),om 5 17] [kp [1,2,3,5,
 12,13,14] [2,3,24,55]]) (.reg [od 18 (fa 0 3),od 19 (.ldR 3 1 false (tm 18)),od 20 (.ldT 5 true (tm 1)),om 21 5,od 22 (.call 128 [(tm 20),(tm 21)]),od 23 (.bsl true 65 1 [(tm 22)]),od 24 (.app false 65 1 (tm 19) (tm
 23)),od 25 (fa 0 3),on (.stR 3 1 (tm 25) (tm 24))] [kp [1,2,3,12,13,14] [2,3,24,55]]))) (.reg [od 26 (.bin .add (tm 14) (ki 1)),om 14 26] [kp [1,2,3,12,13,14] [2,3,24,55]])))) [kp [1,2,3,12,13,14] [2,3,24,
 55]]
def Ip:IC:=.loop Xg
abbrev Xh:IC:=.gh (.seq (.reg [od 32 (.bin .lss (tm 31) (tm 30))] [kp [1,2,3,29,30,31,32] [2,3,24,55]]) (.seq (.cond (tm 32) .skip (.exit 2)) (.seq (.block 3 (.seq (.reg [od 33 (ia 1 29 31),od 34 (ld 1 33),om 7 34] [kp [1,2,3,7,
 29,30,31] [2,3,24,55]]) (.seq (.reg [od 8 (.mv (ku 2))] [kp [1,2,3,7,8,29,30,31] [2,3,24,55]]) (.seq (.seq (.reg [od 35 (fa 0 1),od 36 (fa 0 35),od 37 (ld 1 36),om 38 7,od 39 (ia 4 37 38),od 40 (fa 1 39),od 41
 (ld 1 40),om 9 41] [kp [1,2,3,8,9,29,30,31] [2,3,24,55]]) (.seq (.reg [om 42 9,od 43 (le 0 42),od 44 (.bin .eql (tm 43) (ki 1))] [kp [1,2,3,8,9,29,30,31,44] [2,3,24,55]]) (.cond (tm 44) (.reg [od 45 (lG 5
 1),om 46 9,od 47 (.iadr 1 (tm 46) (ki 0)),od 48 (ld 1 47),od 49 (.call 128 [(tm 45),(tm 48)]),od 50 (.call 120 [(tm 49)]),om 8 50] [kp [1,2,3,8,29,30,31] [2,3,24,55]]) .skip))) (.reg [od 51 (fa 1 3),od 52 (ld 1
 51),om 53 8,od 54 (.bsl true 65 1 [(tm 53)]),od 55 (.app false 65 1 (tm 52) (tm 54)),od 56 (fa 1 3),on (.store 1 (tm 56) (tm 55))] [kp [1,2,3,29,30,31] [2,3,24,55]]))))) (.reg [od 57 (.bin .add (tm 31) (ki 1)),om 31
 57] [kp [1,2,3,29,30,31] [2,3,24,55]])))) [kp [1,2,3,29,30,31] [2,3,24,55]]
def Iq:IC:=.loop Xh
abbrev Oz:IC:=(.seq (.reg [od 1 (.box true (tm 0)),od 2 (.alloc false [(.slice none 0 0),(.slice none 0 0)])] [kp [1,2] [2,24,55]]) (.seq (.reg [od 3 (.alloc false [(.slice none 0 0),(.slice none 0 0)])] [.nlb 3 0 24 65 1,.nlb 3 1 55 65
 1,kp [1,2,3] [2,3,24,55]]) (.seq (.seq (.reg [od 10 (fa 0 1),od 11 (fa 3 10),od 12 (ld 1 11),od 13 (le 0 12),od 14 (.mv (ki 0))] [kp [1,2,3,12,13,14] [2,3,24,55]]) (.block 0 Ip)) (.seq (.seq (.reg
 [od 27 (fa 0 1),od 28 (lG 4 27),od 29 (.call 39 [(tm 28)]),od 30 (le 0 29),od 31 (.mv (ki 0))] [kp [1,2,3,29,30,31] [2,3,24,55]]) (.block 2 Iq)) (.seq (.reg [od 58 (fa 0 3),od 59 (.ldR 3 1 false (tm
 58)),od 60 (.rcall 57 [(tm 59)] [24]),od 61 (fa 1 3),od 62 (.ldR 3 1 false (tm 61)),od 63 (.rcall 57 [(tm 62)] [55]),od 64 (.build [(1,(tm 60)),(1,(tm 63))]),on (.stR 2 2 (tm 2) (tm 64))] [kp [2] [2,24,55]]) .ret)))))
theorem Qx (h:∀ K:St->Prop,K=run P Γ Ip Q->run P Γ Xg (Aw K Q) s):run P Γ Ip Q s:=Ah h
theorem Qy (h:∀ K:St->Prop,K=run P Γ Iq Q->run P Γ Xh (Aw K Q) s):run P Γ Iq Q s:=Ah h
def P0:List RV:=[.cell 2 2 true]
/- probecard/sims.Observe (function 66) -/
abbrev Zf:IC:=(.seq (.reg [od 1 (.box true (tm 0)),od 2 (.mv kN)] [kp [1] []]) (.seq (.reg [od 3 (lG 4 1),od 4 (.bsl true 48 1 [(ku 0)]),od 5 (.call 102 [(tm 3),(tm 4)]),om 2 5] [kp [2] []]) .ret))
def Zg:List RV:=[.tmp 2]
/- slices.Clip[[]probecard/api.Value,probecard/api.Value] (function 57) -/
abbrev Ia:IC:=(.seq (.reg [od 2 (.mv kN)] [kp [0] [1000000]]) (.seq (.reg [om 3 0,om 4 0,od 5 (le 0 4),om 6 0,od 7 (le 0 6),od 8 (.slice 1 (tm 3) none (some (tm 5)) (some (tm 7))),om 2 8] [kp [2] [1000000]]) .ret))
def Ib:List RV:=[.tmp 2]
end
end Go.Lg
namespace Go.Lg
open Go Go.Proofs
theorem qBS:Ba Tryz.prog 62 q2G 43 2 Hz=true:=by kernel_rfl
theorem qAN:Ba Tryz.prog 118 q58 5 1 q59=true:=by kernel_rfl
theorem q6y:Ba Tryz.prog 63 q1K 46 2 q1L=true:=by kernel_rfl
theorem q6z:Ba Tryz.prog 22 q3t 87 2 W4=true:=by kernel_rfl
theorem q66:Ba Tryz.prog 128 Ls 20 2 Lt=true:=by kernel_rfl
theorem W5:Ba Tryz.prog 65 Oz 65 1 P0=true:=by kernel_rfl
theorem q4o:Ba Tryz.prog 38 Zf 6 1 Zg=true:=by kernel_rfl
theorem Oj:Ba Tryz.prog 57 Ia 9 1 Ib=true:=by kernel_rfl
end Go.Lg
namespace Go.Lg
open Go Go.Proofs
variable {Γ:Tables}
theorem q0J (c:Bi) (hc:COk c):Az Tryz.prog Γ 38 [.agg (tC c)] (.sl (Af (Bd c)) (some (Bd c).length) none):=by
 refine Bz q4o rfl ?_
 simp[Zf,tC,Aa,Ad,Ag,As]
 refine A4 (qFS c hc 0) rfl ?_
 simp[Zg,Bd]
theorem qJ8 (es:List (List T)) (cap:Option Nat) (nl:Option Bool) (hw:Em 1 es):Az Tryz.prog Γ 57 [.sl es cap nl] (.sl es (some es.length) nl):=by
 refine Bz Oj rfl ?_
 simp[Ia,Ib,ret,hw]
def Cm (v:Int):Bool:=decide (3<v)
theorem qAO (v:Int):A8 Tryz.prog Γ 118 [tK v] (tB (Cm v)):=by
 refine Ae qAN rfl ?_
 simp[q58,q59,Ax,Cm]
structure Pat where
 inn:Sl Int
 st:Sl Int
def tP (p:Pat):List T:=[tV p.inn,tV p.st]
theorem Js (c:Bi):(Bd c).length<=c.nodes.l.length:=q06 _ _ _
theorem F3 (c:Bi):(B8 c).length<=c.nodes.l.length:=q06 _ _ _
def Su (c:Bi) (p:Pat):Int :=
 if 0<c.mems.l.length\/0<(mems c).length then 7 else
 if p.inn.l.length≠(Bd c).length\/p.st.l.length≠(B8 c).length then 8 else
 if p.inn.l.any Cm=true\/p.st.l.any Cm=true then 1 else 0
theorem qCA (c:Bi) (hc:COk c) (p:Pat) (hp:p.inn.l.length<=1000000000/\p.st.l.length<=1000000000):A8 Tryz.prog Γ 62 [.agg (tC c),.agg (tP p)] (tI (Su c p)):=by
 refine Ae qBS rfl ?_
 have e1:=qFS (Γ:=Γ) c hc 15
 have e2:=q0J (Γ:=Γ) c hc
 have e3:=Qq (Γ:=Γ) c hc
 have e4:=F8 (Γ:=Γ) p.inn.l p.inn.cap p.inn.nl 118 [] Cm (fun x _=>qAO x) hp.1
 have e5:=F8 (Γ:=Γ) p.st.l p.st.cap p.st.nl 118 [] Cm (fun x _=>qAO x) hp.2
 have hm:N8 [15] c.nodes.l 0=mems c:=rfl
 rw[hm]at e1
 generalize hR:Su c p=R
 unfold Su at hR
 by_cases h1:0<c.mems.l.length
 ·rw[if_pos (.inl h1)]at hR
  subst hR
  have h1':¬ c.mems.l=[]:=fun e=>by rw[e]at h1;simp at h1
  simp[q2G,tC,Aa,Ad,Ag,As,tP,tV,Ab,h1,h1',Hz,Ax]
 have h1':c.mems.l=[]:=xqo (by omega)
 simp[q2G,tC,Aa,Ad,Ag,As,tP,tV,Ab,h1,h1']
 refine A4 e1 (by simp[Ai,Ak,Au,tC,Aa,Ad,Ag,As,h1']) ?_
 by_cases h2:0<(mems c).length
 ·rw[if_pos (.inr h2)]at hR
  subst hR
  have h2':¬ mems c=[]:=fun e=>by rw[e]at h2;simp at h2
  simp[A6,h2,h2',Hz,Ax]
 rw[if_neg (by omega)]at hR
 have h2':mems c=[]:=xqo (by omega)
 simp[A6,h2']
 have tt:∀ {x:T},x=T.agg (tC c)->Ak [some x]=some [T.agg (tC c)]:=fun h=>by rw[h];rfl
 have tc:T.agg (tC c)=T.agg [T.sl (Bc Dl c.nodes.l) c.nodes.cap c.nodes.nl,T.sl (Au tS c.names.l) c.names.cap c.names.nl,T.sl (Bc tMm []) c.mems.cap c.mems.nl,T.sl (Af c.outs.l) c.outs.cap c.outs.nl]:=by rw[<- h1'];rfl
 refine Aq e2 (by rw[tc];rfl) ?_
 simp[A6]
 by_cases h3:p.inn.l.length=(Bd c).length
 case neg =>
  have h3':¬ (p.inn.l.length:Int)=(Bd c).length:=by omega
  rw[if_pos (.inl h3)]at hR
  subst hR
  simp[h3,h3',Hz,Ax,By]
 simp[h3]
 refine Aq e3 (by rw[tc];rfl) ?_
 simp[A6]
 by_cases h4:p.st.l.length=(B8 c).length
 case neg =>
  have h4':¬ (p.st.l.length:Int)=(B8 c).length:=by omega
  rw[if_pos (.inr h4)]at hR
  subst hR
  simp[h4,h4',Hz,Ax,By]
 rw[if_neg (by omega)]at hR
 simp[h4,By]
 refine A4 e4 rfl ?_
 by_cases h5:p.inn.l.any Cm=true
 ·rw[if_pos (.inl h5)]at hR
  subst hR
  simp only[h5]
  simp[Hz,Ax]
 simp only[xzm]at h5
 simp only[h5]
 simp
 refine A4 e5 rfl ?_
 by_cases h6:p.st.l.any Cm=true
 ·rw[if_pos (.inr h6)]at hR
  subst hR
  simp only[h6]
  simp[Hz,Ax]
 rw[if_neg (by simp only[h5];simp only[xzm]at h6;simp[h6])]at hR
 subst hR
 simp only[xzm]at h6
 simp only[h6]
 simp[Hz,Ax]
def Wy (c:Bi) (id n:Nat) (cap:Option Nat):List AV:=[.t (Aa c.nodes),.t (Ad c.names),.t (Ag c.mems),.t (As c.outs),.ls id 0 n cap]
theorem q2H {ns vs l:List Int} {i:Nat} (h:i<ns.length) (hv:i<vs.length):Ek (ns.drop i) (vs.drop i) l=Ek (ns.drop (i+1)) (vs.drop (i+1)) (l.set (ns.getD i 0).toNat (vs.getD i 0)):=by
 rw[xqq h,xqq hv]
 simp only[Ek]
 rw[Be h,Be hv]
theorem qGe {Q:AX->St->Prop} (c:Bi) (p:Pat) (ns:List Int) (cap:Option Nat) (n:Nat) (hn:n<=1000000000) (hns:ns.length<=n) (hin:∀ x∈ns,0<=x/\x<n) (hp:p.inn.l.length=ns.length) (R:List Int)
  (h0:Q (.exit 0) ⟨[(2,.lp 2 0 0),(3,.t (.ip (tP p) 0)),(10,.t (.sl (Af ns) (some ns.length) none)),(11,.t (tI ns.length)),(12,.t (tI ns.length)),(13,.t (tB false))],[(2,.bx (Wy c 1000000 n cap)),(1000000,.sl 65 1 (Ar R))]⟩) :
  ∀ (k i:Nat) (l:List Int),k+i=ns.length->l.length=n->Ek (ns.drop i) (p.inn.l.drop i) l=R ->
  run Tryz.prog Γ O1 Q ⟨[(2,.lp 2 0 0),(3,.t (.ip (tP p) 0)),(10,.t (.sl (Af ns) (some ns.length) none)),(11,.t (tI ns.length)),(12,.t (tI i))],[(2,.bx (Wy c 1000000 n cap)),(1000000,.sl 65 1 (Ar l))]⟩
 | 0,i,l,h,hl,hR=>by
  refine W2 fun K hK=>?_
  have h2:i=ns.length:=by omega
  subst h2
  rw[xzs]at hR
  simp only[Ek]at hR
  subst hR
  simp
  exact h0
 | k+1,i,l,h,hl,hR=>by
  refine W2 fun K hK=>?_
  have h2:i<ns.length:=by omega
  have h3:i<p.inn.l.length:=by omega
  rw[q2H h2 h3]at hR
  have ih:=qGe c p ns cap n hn hns hin hp R h0 k (i+1) _ (by omega) (by simp[hl]) hR
  have e1:=ge1 (f:=tI) h2
  have e2:=ge1 (f:=tK) h3
  have hx:=hin (ns.getD i 0) (by rw[Be h2];exact xqj h2)
  have hs:∀ (j:Nat) (v:Int),(Ar l).set j [tK v]=Ar (l.set j v):=fun j v=>Gf
  generalize ns.getD i 0=x at *
  generalize p.inn.l.getD i 0=v at *
  have hx2:x.toNat<n:=by omega
  simp(disch:=omega) [h2,h3,A6,A9,e1,e2,A7,hx,hx2,hl,Wy,tP,tV,hs,hp]
  rw[hK]
  simpa[Wy,tP,tV]using ih
theorem qGf {Q:AX->St->Prop} (c:Bi) (p:Pat) (ns:List Int) (cap:Option Nat) (n:Nat) (hn:n<=1000000000) (hns:ns.length<=n) (hin:∀ x∈ns,0<=x/\x<n) (hp:p.st.l.length=ns.length) (R:List Int)
  (h0:Q (.exit 2) ⟨[(2,.lp 2 0 0),(3,.t (.ip (tP p) 0)),(29,.t (.sl (Af ns) (some ns.length) none)),(30,.t (tI ns.length)),(31,.t (tI ns.length)),(32,.t (tB false))],[(2,.bx (Wy c 1000000 n cap)),(1000000,.sl 65 1 (Ar R))]⟩) :
  ∀ (k i:Nat) (l:List Int),k+i=ns.length->l.length=n->Ek (ns.drop i) (p.st.l.drop i) l=R ->
  run Tryz.prog Γ O2 Q ⟨[(2,.lp 2 0 0),(3,.t (.ip (tP p) 0)),(29,.t (.sl (Af ns) (some ns.length) none)),(30,.t (tI ns.length)),(31,.t (tI i))],[(2,.bx (Wy c 1000000 n cap)),(1000000,.sl 65 1 (Ar l))]⟩
 | 0,i,l,h,hl,hR=>by
  refine W3 fun K hK=>?_
  have h2:i=ns.length:=by omega
  subst h2
  rw[xzs]at hR
  simp only[Ek]at hR
  subst hR
  simp
  exact h0
 | k+1,i,l,h,hl,hR=>by
  refine W3 fun K hK=>?_
  have h2:i<ns.length:=by omega
  have h3:i<p.st.l.length:=by omega
  rw[q2H h2 h3]at hR
  have ih:=qGf c p ns cap n hn hns hin hp R h0 k (i+1) _ (by omega) (by simp[hl]) hR
  have e1:=ge1 (f:=tI) h2
  have e2:=ge1 (f:=tK) h3
  have hx:=hin (ns.getD i 0) (by rw[Be h2];exact xqj h2)
  have hs:∀ (j:Nat) (v:Int),(Ar l).set j [tK v]=Ar (l.set j v):=fun j v=>Gf
  generalize ns.getD i 0=x at *
  generalize p.st.l.getD i 0=v at *
  have hx2:x.toNat<n:=by omega
  simp(disch:=omega) [h2,h3,A6,A9,e1,e2,A7,hx,hx2,hl,Wy,tP,tV,hs,hp]
  rw[hK]
  simpa[Wy,tP,tV]using ih
theorem qJ9 (c:Bi) (hc:COk c) (p:Pat) (cap:Option Nat) (l:List Int) (hl:l.length=c.nodes.l.length) (h1:p.inn.l.length=(Bd c).length) (h2:p.st.l.length=(B8 c).length) :
  Bm Tryz.prog Γ 63 [(1000000,.sl 65 1 (Ar l))] [.ag (Wy c 1000000 c.nodes.l.length cap),.t (.agg (tP p))] (.t (.tup [])) [(1000000,.sl 65 1 (Ar (Ek (B8 c) p.st.l (Ek (Bd c) p.inn.l l))))]:=by
 refine Ee q6y rfl ?_
 have hn:=hc.nodes
 have g1:=fun Q h0=>qGe (Γ:=Γ) (Q:=Q) c p (Bd c) cap c.nodes.l.length hn (Js c) (fun x hx=>⟨(F7 x hx).1,(F7 x hx).2.1⟩) h1 _ h0 (Bd c).length 0 l (by omega) hl rfl
 have g2:=fun Q h0=>qGf (Γ:=Γ) (Q:=Q) c p (B8 c) cap c.nodes.l.length hn (F3 c) (fun x hx=>⟨(F7 x hx).1,(F7 x hx).2.1⟩) h2 _ h0 (B8 c).length 0 (Ek (Bd c) p.inn.l l) (by omega) (by rw[Qu];exact hl) rfl
 simp only[xzt]at g1 g2
 simp[q1K,Wy,tP,tV,Aa,Ad,Ag,As]
 refine Aq (q0J c hc) rfl ?_
 simp[A6]
 refine g1 _ ?_
 simp[Wy,Aa,Ad,Ag,As]
 refine Aq (Qq c hc) rfl ?_
 simp[A6]
 refine g2 _ ?_
 simp[q1L]
@[simp] theorem qPU {s:Nat} {e:List T}:Em s [e]=(e.length=s):=propext ⟨fun h=>h e xqh,fun h x hx=>by simp at hx;subst hx;exact h⟩
def Zh (c:Bi) (nets:Sl Int):List T:=[Aa c.nodes,Ad c.names,Ag c.mems,As c.outs,tV nets]
def q2I (nets:List Int) (n:Int):Int:=if n<0\/(nets.length:Int)<=n then 2 else F4 (nets.getD n.toNat 0)
theorem qAP (c:Bi) (nets:Sl Int) (n:Int) (hl:nets.l.length<=1000000000):A8 Tryz.prog Γ 128 [.agg (Zh c nets),tI n] (tK (q2I nets.l n)):=by
 refine Ae q66 rfl ?_
 generalize hR:q2I nets.l n=R
 unfold q2I at hR
 by_cases h1:n<0
 ·rw[if_pos (.inl h1)]at hR
  subst hR
  simp[Ls,Zh,Aa,Ad,Ag,As,tV,h1,Lt,Ax]
 by_cases h2:(nets.l.length:Int)<=n
 ·rw[if_pos (.inr h2)]at hR
  subst hR
  simp[Ls,Zh,Aa,Ad,Ag,As,tV,h1,h2,A6,Lt,Ax]
 rw[if_neg (by omega)]at hR
 have h3:n.toNat<nets.l.length:=by omega
 have e:=ge1 (f:=tK) h3
 generalize nets.l.getD n.toNat 0=v at *
 have h4:n<nets.l.length:=by omega
 simp(disch:=omega) [Ls,Zh,Aa,Ad,Ag,As,tV,h1,h2,h4,A6,A9,e]
 refine⟨by omega,A4 (q63 v) rfl ?_⟩
 simp[Lt,Ax,hR]
def qAQ (c:Bi) (nets:List Int) (n:Int):Int:=if(D4 c n.toNat).length=1 then Za (q2I nets ((D4 c n.toNat).getD 0 0))else 2
def O3 (c:Bi) (nets:List Int):List Int:=c.outs.l.map (q2I nets)
def Do (c:Bi) (nets:List Int):List Int:=(B8 c).map (qAQ c nets)
def q67 (o s:Nat):List AV:=[.ls 24 0 o none,.ls 55 0 s none]
def q36 (o s:List Int):List (Nat×B9):=[(2,.bx [.t (.sl [] (some 0) (some true)),.t (.sl [] (some 0) (some true))]),(3,.bx (q67 o.length s.length)),(24,.sl 65 1 (Ar o)),(55,.sl 65 1 (Ar s))]
theorem Ur {l:List Int} {v:Int}:Ar l++[[tK v]]=Ar (l++[v]):=E0
theorem C4 {l:List Int}:(Ar l).take l.length=Ar l:=Dq
theorem qAR {Q:AX->St->Prop} (c:Bi) (nets:Sl Int) (hl:nets.l.length<=1000000000) (ho:c.outs.l.length<=1000000000) (R:List Int)
  (h0:Q (.exit 0) ⟨[(1,.t (.ip (Zh c nets) 0)),(2,.lp 2 0 0),(3,.lp 3 0 0),(12,.t (As c.outs)),(13,.t (tI c.outs.l.length)),(14,.t (tI c.outs.l.length)),(15,.t (tB false))],q36 R []⟩) :
  ∀ (k i:Nat) (out:List Int),k+i=c.outs.l.length->out.length=i->out++(c.outs.l.drop i).map (q2I nets.l)=R ->
  run Tryz.prog Γ Ip Q ⟨[(1,.t (.ip (Zh c nets) 0)),(2,.lp 2 0 0),(3,.lp 3 0 0),(12,.t (As c.outs)),(13,.t (tI c.outs.l.length)),(14,.t (tI i))],q36 out []⟩
 | 0,i,out,h,hi,hR=>by
  refine Qx fun K hK=>?_
  have h2:i=c.outs.l.length:=by omega
  rw[xq2 (by omega),xq3,List.append_nil]at hR
  subst hR
  simp[q36,q67,h2]
  simpa[q36,q67]using h0
 | k+1,i,out,h,hi,hR=>by
  refine Qx fun K hK=>?_
  have h2:i<c.outs.l.length:=by omega
  rw[xqq h2,xqm]at hR
  have e:=ge1 (f:=tI) h2
  rw[Be h2]at e
  generalize c.outs.l[i]=n at *
  have ih:=qAR c nets hl ho R h0 k (i+1) (out++[q2I nets.l n]) (by omega) (by simp[hi]) (by rw[<- hR];simp)
  have vs:=Ur (l:=out) (v:=q2I nets.l n)
  have vt:(Ar out).take i=Ar out:=by rw[<- hi];exact C4
  have hv:=qAP (Γ:=Γ) c nets n hl
  simp(disch:=omega) [q36,q67,h2,As,A6,A9,e,hi,A7,Zh,Aa,Ad,Ag,tV]
  refine A4 hv rfl ?_
  simp(disch:=omega) [vt,vs,A6,A9,hi,A7]
  refine⟨by omega,?_⟩
  rw[hK]
  simpa[q36,q67,hi,Zh,Aa,Ad,Ag,As,tV]using ih
theorem q84 {Q:AX->St->Prop} (c:Bi) (hc:COk c) (nets:Sl Int) (hl:nets.l.length<=1000000000) (ns:List Int) (hns:ns.length<=1000000000) (hin:∀ n∈ns,0<=n/\n<c.nodes.l.length) (o R:List Int)
  (h0:Q (.exit 2) ⟨[(1,.t (.ip (Zh c nets) 0)),(2,.lp 2 0 0),(3,.lp 3 0 0),(29,.t (.sl (Af ns) (some ns.length) none)),(30,.t (tI ns.length)),(31,.t (tI ns.length)),(32,.t (tB false))],q36 o R⟩) :
  ∀ (k i:Nat) (out:List Int),k+i=ns.length->out.length=i->out++(ns.drop i).map (qAQ c nets.l)=R ->
  run Tryz.prog Γ Iq Q ⟨[(1,.t (.ip (Zh c nets) 0)),(2,.lp 2 0 0),(3,.lp 3 0 0),(29,.t (.sl (Af ns) (some ns.length) none)),(30,.t (tI ns.length)),(31,.t (tI i))],q36 o out⟩
 | 0,i,out,h,hi,hR=>by
  refine Qy fun K hK=>?_
  have h2:i=ns.length:=by omega
  rw[xq2 (by omega),xq3,List.append_nil]at hR
  subst hR
  simp[q36,q67,h2]
  simpa[q36,q67]using h0
 | k+1,i,out,h,hi,hR=>by
  refine Qy fun K hK=>?_
  have h2:i<ns.length:=by omega
  rw[xqq h2,xqm]at hR
  have e:=ge1 (f:=tI) h2
  have hn:=hin ns[i] (xqj h2)
  rw[Be h2]at e
  generalize ns[i]=n at *
  have ih:=q84 c hc nets hl ns hns hin o R h0 k (i+1) (out++[qAQ c nets.l n]) (by omega) (by simp[hi]) (by rw[<- hR];simp)
  have vs:=Ur (l:=out) (v:=qAQ c nets.l n)
  have vt:(Ar out).take i=Ar out:=by rw[<- hi];exact C4
  have hnn:n.toNat<c.nodes.l.length:=by omega
  have hget:(Bc Dl c.nodes.l)[n.toNat]?.getD []=Dl (c.nodes.l.getD n.toNat Nd.d):=by
   rw[Es Nd.d hnn];simp[xqe]
  have hxi:=hc.inn _ (xqj hnn)
  have hgd:c.nodes.l.getD n.toNat Nd.d=c.nodes.l[n.toNat]:=by simp[xqe,hnn]
  have hia:D4 c n.toNat=(c.nodes.l.getD n.toNat Nd.d).inn.l:=rfl
  have hnl:qAQ c nets.l n=if(D4 c n.toNat).length=1 then Za (q2I nets.l ((D4 c n.toNat).getD 0 0))else 2:=rfl
  rw[<- hgd]at hxi
  rw[hia]at hnl
  generalize c.nodes.l.getD n.toNat Nd.d=x at *
  generalize qAQ c nets.l n=v at *
  obtain⟨h3,h4⟩:=hn
  by_cases h1:x.inn.l.length=1
  ·rw[if_pos h1]at hnl
   have h10:0<x.inn.l.length:=by omega
   have e0:=ge1 (f:=tI) h10
   have hv:=qAP (Γ:=Γ) c nets (x.inn.l.getD 0 0) hl
   generalize x.inn.l.getD 0 0=m at *
   simp(disch:=omega) [q36,q67,h2,As,A6,A9,e,hi,A7,Zh,Aa,Ad,Ag,tV,h3,h4,Ab,Bq,hget,Dl,h1,e0,h10]
   refine A4 hv rfl ?_
   simp
   refine A4 (Yk _) rfl ?_
   rw[<- hnl]
   simp(disch:=omega) [vt,vs,A6,A9,hi,A7]
   refine⟨by omega,?_⟩
   rw[hK]
   simpa[q36,q67,hi,Zh,Aa,Ad,Ag,As,tV]using ih
  ·rw[if_neg h1]at hnl
   subst hnl
   have h1i:¬ (x.inn.l.length:Int)=1:=by omega
   simp(disch:=omega) [q36,q67,h2,As,A6,A9,e,hi,A7,Zh,Aa,Ad,Ag,tV,h3,h4,Ab,Bq,hget,Dl,h1,h1i,By,vt,vs]
   refine⟨by omega,?_⟩
   rw[hK]
   simpa[q36,q67,hi,Zh,Aa,Ad,Ag,As,tV]using ih
theorem q2J (ty:Nat) (es:List (List T)) (cap:Option Nat) (hw:Em 1 es):Bm Tryz.prog Γ 57 [(1000000,.sl ty 1 es)] [.ls 1000000 0 es.length cap] (.ls 1000000 0 es.length (some es.length)) [(1000000,.sl ty 1 es)]:=by
 refine Ee Oj rfl ?_
 simp[Ia,Ib,qHa,hw]
def tVs (l:List Int):T:=.sl (Ar l) (some l.length) none
theorem q70 (c:Bi) (hc:COk c) (nets:Sl Int) (hl:nets.l.length<=1000000000):A8 Tryz.prog Γ 65 [.agg (Zh c nets)] (.agg [tVs (O3 c nets.l),tVs (Do c nets.l)]):=by
 refine Ae W5 rfl ?_
 have hn:=hc.nodes
 have ho:=hc.outs
 have hs:=F3 c
 have g1:=fun Q h0=>qAR (Γ:=Γ) (Q:=Q) c nets hl ho (O3 c nets.l) h0 c.outs.l.length 0 [] (by omega) rfl (by simp[O3])
 have g2:=fun Q h0=>q84 (Γ:=Γ) (Q:=Q) c hc nets hl (B8 c) (by omega) (fun x hx=>⟨(F7 x hx).1,(F7 x hx).2.1⟩) (O3 c nets.l) (Do c nets.l) h0 (B8 c).length 0 [] (by omega) rfl (by simp[Do])
 have l1:(O3 c nets.l).length=c.outs.l.length:=by simp[O3]
 have l2:(Do c nets.l).length=(B8 c).length:=by simp[Do]
 have t1:=C4 (l:=O3 c nets.l)
 have t2:=C4 (l:=Do c nets.l)
 generalize O3 c nets.l=O at *
 generalize Do c nets.l=S at *
 simp[Oz,Zh,Aa,Ad,Ag,As,tV,A6]
 refine g1 _ ?_
 simp[q36,q67,Zh,Aa,Ad,Ag,As,tV]
 refine Aq (Qq c hc) rfl ?_
 simp[A6]
 refine g2 _ ?_
 have hc1:=q2J (Γ:=Γ) 65 (Ar O) none A9
 have hc2:=q2J (Γ:=Γ) 65 (Ar S) none A9
 simp only[A6]at hc1 hc2
 simp[q36,q67]
 refine⟨_,hc1,?_⟩
 simp
 refine⟨_,hc2,?_⟩
 simp[P0,tVs,A6,Ax,Ai,t1,t2]
def nd (c:Bi) (n:Int):Nd:=c.nodes.l.getD n.toNat Nd.d
theorem q3u {c:Bi} {n:Int} (h0:0<=n) (h:n<c.nodes.l.length):(Bc Dl c.nodes.l)[n.toNat]?.getD []=Dl (nd c n):=by
 rw[Es Nd.d (by omega)];simp[nd,xqe]
theorem qCt {c:Bi} {n:Int} (h0:0<=n) (h:n<c.nodes.l.length):nd c n∈c.nodes.l:=by
 have hi:n.toNat<c.nodes.l.length:=by omega
 have:nd c n=c.nodes.l[n.toNat]:=by simp[nd,xqe,hi]
 rw[this];exact xqj hi
def q4p:AV:=.t (.sl [] (some 0) (some true))
def qCu (c:Bi) (n:Nat) (nets inb:List Int):List (Nat×B9):=[(4,.bx [q4p,q4p]),(9,.bx (Wy c 34 n (some n))),(34,.sl 65 1 (Ar nets)),(39,.sl 65 1 (Ar inb))]
def qAS (c:Bi) (n:Nat) (x:Nd) (nets inb:List Int):List (Nat×B9):=[(4,.bx [q4p,q4p]),(9,.bx (Wy c 34 n (some n))),(13,.bx ((Dl x).map .t)),(34,.sl 65 1 (Ar nets)),(39,.sl 65 1 (Ar inb))]
theorem qED {Q:AX->St->Prop} (c:Bi) (n:Nat) (hn:n<=1000000000) (x:Nd) (hx:x.inn.l.length<=1000000) (hin:∀ k∈x.inn.l,0<=k/\k<n) (nets:List Int) (hl:nets.length=n) (nn:Int) (t40 t41 t42:T) (R:List Int)
  (h0:∀ X:List Int,X.take x.inn.l.length=R->R.length=x.inn.l.length->Q (.exit 2) ⟨[(4,.lp 4 0 0),(9,.lp 9 0 0),(10,.ls 39 0 x.inn.l.length none),(12,.t (tI nn)),(13,.lp 13 0 0),(40,.t t40),(41,.t t41),(42,.t t42),(59,.t (As x.inn)),(60,.t (tI x.inn.l.length)),(61,.t (tI x.inn.l.length)),(62,.t (tB false))],qAS c n x nets X⟩) :
  ∀ (k i:Nat) (X:List Int),k+i=x.inn.l.length->i<=X.length->X.take i++(x.inn.l.drop i).map (fun k=>nets.getD k.toNat 0)=R ->
  run Tryz.prog Γ q0H Q ⟨[(4,.lp 4 0 0),(9,.lp 9 0 0),(10,.ls 39 0 i none),(12,.t (tI nn)),(13,.lp 13 0 0),(40,.t t40),(41,.t t41),(42,.t t42),(59,.t (As x.inn)),(60,.t (tI x.inn.l.length)),(61,.t (tI i))],qAS c n x nets X⟩
 | 0,i,X,h,hi,hR=>by
  refine q2e fun K hK=>?_
  have h2:i=x.inn.l.length:=by omega
  subst h2
  rw[xzs,xq3,List.append_nil]at hR
  have:=h0 X hR (by rw[<- hR,xzf];omega)
  simp[qAS,Wy,Dl,q4p,Aa,Ad,Ag,As]
  simpa[qAS,Wy,Dl,q4p,Aa,Ad,Ag,As]using this
 | k+1,i,X,h,hi,hR=>by
  refine q2e fun K hK=>?_
  have h2:i<x.inn.l.length:=by omega
  rw[xqq h2,xqm]at hR
  have e:=ge1 (f:=tI) h2
  have hq:=hin _ (xqj h2)
  rw[Be h2]at e
  generalize x.inn.l[i]=q at *
  have hq2:q.toNat<nets.length:=by omega
  have e2:=ge1 (f:=tK) hq2
  have hti:(X.take i).length=i:=by rw[xzf];omega
  generalize nets.getD q.toNat 0=v at *
  have ih:=qED c n hn x hx hin nets hl nn t40 t41 t42 R h0 k (i+1) (X.take i++[v]) (by omega) (by simp[hti]) (by rw[xqw (by simp[hti]),<- hR];simp)
  have vs:Ar (X.take i)++[[tK v]]=Ar (X.take i++[v]):=Ur
  have vt:(Ar X).take i=Ar (X.take i):=qBu
  have hxl:(Ar (X.take i)).length=i:=by rw[A6];exact hti
  simp(disch:=omega) [qAS,Wy,Dl,q4p,Aa,Ad,Ag,As,h2,A6,A9,e,e2,hq,hl,A7,vt,vs,hti,hxl]
  refine⟨by omega,?_⟩
  rw[hK]
  simpa[qAS,Wy,Dl,q4p,Aa,Ad,Ag,As]using ih
structure ROk (c:Bi):Prop where
 ok:COk c
 inn:∀ x∈c.nodes.l,x.inn.l.length<=16/\∀ k∈x.inn.l,0<=k/\k<c.nodes.l.length
theorem qGg {c:Bi} {nets:List Int} {n:Int} (h:∀ v∈nets,V4 v):∀ v∈S8 c nets n,V4 v:=by
 intro v hv
 unfold S8 at hv
 split at hv
 ·rcases xz9 hv with hv|rfl
  ·exact h v hv
  ·refine qCq fun u hu=>?_
   obtain⟨q,_,rfl⟩:=xqy.1 hu
   exact q2B h _
 ·exact h v hv
theorem qCv {Q:AX->St->Prop} (hΓ:GOk Γ) (c:Bi) (H:ROk c) (ord:List Int) (ho:ord.length<=1000000000) (hin:∀ n∈ord,0<=n/\n<c.nodes.l.length) (R:List Int)
  (h0:∀ (m:Nat) (inb:List Int),Q (.exit 0) ⟨[(4,.lp 4 0 0),(9,.lp 9 0 0),(10,.ls 39 0 m none),(40,.t (.sl (Af ord) none none)),(41,.t (tI ord.length)),(42,.t (tI ord.length)),(43,.t (tB false))],qCu c c.nodes.l.length R inb⟩) :
  ∀ (k i:Nat) (nets:List Int) (m:Nat) (inb:List Int),k+i=ord.length->nets.length=c.nodes.l.length->(∀ v∈nets,V4 v)->q4m c (ord.drop i) nets=R ->
  run Tryz.prog Γ q0I Q ⟨[(4,.lp 4 0 0),(9,.lp 9 0 0),(10,.ls 39 0 m none),(40,.t (.sl (Af ord) none none)),(41,.t (tI ord.length)),(42,.t (tI i))],qCu c c.nodes.l.length nets inb⟩
 | 0,i,nets,m,inb,h,hl,hv,hR=>by
  refine q2f fun K hK=>?_
  have h2:i=ord.length:=by omega
  subst h2
  rw[xzs]at hR
  have hR':nets=R:=hR
  subst hR'
  have:=h0 m inb
  simp[qCu,Wy,q4p,Aa,Ad,Ag,As]
  simpa[qCu,Wy,q4p,Aa,Ad,Ag,As]using this
 | k+1,i,nets,m,inb,h,hl,hv,hR=>by
  refine q2f fun K hK=>?_
  have h2:i<ord.length:=by omega
  rw[xqq h2]at hR
  have hR:q4m c (ord.drop (i+1)) (S8 c nets ord[i])=R:=hR
  have e:=ge1 (f:=tI) h2
  have hn:=hin _ (xqj h2)
  rw[Be h2]at e
  generalize ord[i]=n at *
  have ih:=fun m inb=>qCv hΓ c H ord ho hin R h0 k (i+1) (S8 c nets n) m inb (by omega) (by rw[q4b];exact hl) (qGg hv) hR
  have hcn:=H.ok.nodes
  have hget:=q3u hn.1 hn.2
  have hmem:=qCt hn.1 hn.2
  have hk:(nd c n).k=Aj c n.toNat:=rfl
  have hxi:=H.inn _ hmem
  have hkk:=H.ok.kind _ hmem
  have hinv:Dx c nets n.toNat=(nd c n).inn.l.map fun k=>nets.getD k.toNat 0:=rfl
  have hlR:(Dx c nets n.toNat).length=(nd c n).inn.l.length:=by rw[hinv];simp
  have hvR:∀ v∈Dx c nets n.toNat,V4 v:=fun v hv'=>by
   rw[hinv]at hv'
   obtain⟨q,hq,rfl⟩:=xqy.1 hv'
   exact q2B hv _
  have hev:=fun cap nl=>qC7 hΓ (nd c n).k hkk (Dx c nets n.toNat) cap nl (by rw[hlR];omega) hvR
  have hcb:=q4W (Γ:=Γ) (nd c n).k
  have hst:S8 c nets n=if C2 (nd c n).k then nets.set n.toNat (Gs (nd c n).k (Dx c nets n.toNat))else nets:=by rw[hk];rfl
  have hlp:=fun Q h0=>qED (Γ:=Γ) (Q:=Q) c c.nodes.l.length hcn (nd c n) (by omega) hxi.2 nets hl n (.sl (Af ord) none none) (tI ord.length) (tI i) (Dx c nets n.toNat) h0 (nd c n).inn.l.length 0 inb (by omega) (by omega) (by rw[hinv];simp)
  have hcd:decide (1<=(nd c n).k/\(nd c n).k<=13)=C2 (nd c n).k:=rfl
  rw[hcd]at hcb
  rw[hst]at ih
  generalize Dx c nets n.toNat=RV at *
  generalize nd c n=x at *
  obtain⟨hn0,hn1⟩:=hn
  have hn2:n.toNat<c.nodes.l.length:=by omega
  have hn3:n.toNat<nets.length:=by omega
  simp(disch:=omega) [qCu,Wy,q4p,Aa,Ad,Ag,As,h2,A6,A9,e,hn0,hn1,Ab,Bq,hget,Dl]
  refine A4 hcb rfl ?_
  by_cases hc:C2 x.k=true
  ·rw[if_pos hc]at ih
   simp[hc,A6]
   simp only[qAS,Wy,Dl,q4p,Aa,Ad,Ag,As,xqm,xq3]at hlp
   refine hlp _ fun X hX hXl=>?_
   have hXR:(Ar X).take x.inn.l.length=Ar RV:=by rw[qBu,hX]
   simp(disch:=omega)
   refine A4 (hev none none) (by simp[Ai,hXR]) ?_
   have hs:(Ar nets).set n.toNat [tK (Gs x.k RV)]=Ar (nets.set n.toNat (Gs x.k RV)):=Gf
   generalize Gs x.k RV=v at *
   simp(disch:=omega) [hn0,hn1,hn2,hn3,A6,hl,hs,A7]
   rw[hK]
   simpa[qCu,Wy,q4p,Aa,Ad,Ag,As]using ih _ X
  ·rw[if_neg hc]at ih
   simp only[xzm]at hc
   simp only[hc]
   simp(disch:=omega) [A7]
   rw[hK]
   simpa[qCu,Wy,q4p,Aa,Ad,Ag,As]using ih m inb
def q2K (c:Bi) (p:Pat):Int:=if Cf c≠0 then Cf c else Su c p
theorem q3v {c:Bi} (hc:COk c) (h:Cf c=0):ROk c:=by
 have hs:=(J8 h).1
 exact⟨hc,fun x hx=>⟨(J7 hs).2.1 x hx,q3g hs x hx⟩⟩
theorem q2L:∀ {ns vs nets:List Int},(∀ v∈vs,V4 v)->(∀ v∈nets,V4 v)->∀ v∈Ek ns vs nets,V4 v
 | [],vs,nets,_,h=>by cases vs<;>exact h
 | _::_,[],nets,_,h=>h
 | n::ns,v::vs,nets,hv,h=>by
  simp only[Ek]
  refine q2L (fun u hu=>hv u (xqf _ hu)) fun u hu=>?_
  rcases xz9 hu with hu|rfl
  ·exact h u hu
  ·exact hv _ xqh
def qCw (c:Bi) (p:Pat):T:=if q2K c p=0 then .tup [.agg [tVs (O3 c (Br c p.inn.l p.st.l)),tVs (Do c (Br c p.inn.l p.st.l))],.sl (Ar (Br c p.inn.l p.st.l)) (some c.nodes.l.length) none,tI 0]else .tup [.agg [.sl [] (some 0) (some true),.sl [] (some 0) (some true)],.sl [] (some 0) (some true),tI (q2K c p)]
theorem qJA (hΓ:GOk Γ) (c:Bi) (hc:COk c) (hn:c.nodes.l.length<=19) (p:Pat) (hp:p.inn.l.length<=1000000000/\p.st.l.length<=1000000000) (hv:(∀ v∈p.inn.l,0<=v)/\∀ v∈p.st.l,0<=v) :
  Az Tryz.prog Γ 22 [.agg (tC c),.agg (tP p)] (qCw c p):=by
 refine Bz q6z rfl ?_
 generalize hR:qCw c p=RR
 unfold qCw at hR
 simp[q3t,tC,Aa,Ad,Ag,As,tP,tV]
 refine A4 (qAM hΓ c hc hn) rfl ?_
 by_cases h1:Cf c=0
 case neg =>
  have he:q2K c p=Cf c:=by unfold q2K;rw[if_pos h1]
  rw[he,if_neg h1]at hR
  subst hR
  simp[h1,W4,Ai,Ax]
 have he:q2K c p=Su c p:=by unfold q2K;rw[if_neg (by simp[h1])]
 rw[he]at hR
 simp[h1]
 refine A4 (qCA c hc p hp) rfl ?_
 by_cases h2:Su c p=0
 case neg =>
  rw[if_neg h2]at hR
  subst hR
  simp[h2,W4,Ai,Ax]
 rw[if_pos h2]at hR
 obtain⟨l1,l2,v1,v2⟩:p.inn.l.length=(Bd c).length/\p.st.l.length=(B8 c).length/\(∀ v∈p.inn.l,V4 v)/\∀ v∈p.st.l,V4 v:=by
  unfold Su at h2
  split at h2
  ·cases h2
  split at h2
  ·cases h2
  split at h2
  ·cases h2
  rename_i a b d
  refine⟨by omega,by omega,fun v hvm=>⟨hv.1 v hvm,?_⟩,fun v hvm=>⟨hv.2 v hvm,?_⟩⟩
  ·have:¬ p.inn.l.any Cm=true:=fun h=>d (.inl h)
   rw[xz1]at this
   have h3:¬ Cm v=true:=fun h=>this ⟨v,hvm,h⟩
   simp[Cm]at h3;omega
  ·have:¬ p.st.l.any Cm=true:=fun h=>d (.inr h)
   rw[xz1]at this
   have h3:¬ Cm v=true:=fun h=>this ⟨v,hvm,h⟩
   simp[Cm]at h3;omega
 have H:=q3v hc h1
 have hzl:(List.replicate c.nodes.l.length (0:Int)).length=c.nodes.l.length:=by simp
 have hload:=qJ9 (Γ:=Γ) c hc p (some c.nodes.l.length) (List.replicate c.nodes.l.length 0) hzl l1 l2
 have hz:List.replicate c.nodes.l.length [T.v (Value.int .u8 0)]=Ar (List.replicate c.nodes.l.length 0):=by simp[Au]
 have hL:Ek (B8 c) p.st.l (Ek (Bd c) p.inn.l (List.replicate c.nodes.l.length 0))=Kq c p.inn.l p.st.l:=rfl
 rw[hL]at hload
 have hol:(I9 c).length=c.nodes.l.length:=by rw[(Qs c).1.length_eq,Hv]
 have ho:=fun Q h0=>qCv (Γ:=Γ) (Q:=Q) hΓ c H (I9 c) (by omega) (fun n hn=>by rw[(Qs c).1.mem_iff,Lm]at hn;exact hn) (Br c p.inn.l p.st.l) h0 (I9 c).length 0 (Kq c p.inn.l p.st.l) 0 [] (by omega) Ky (q2L v2 (q2L v1 (fun v hv=>by rw[(List.mem_replicate.1 hv).2];simp[V4]))) rfl
 have hnl:(Br c p.inn.l p.st.l).length=c.nodes.l.length:=by unfold Br;rw[q1B,Ky]
 have hll:(Kq c p.inn.l p.st.l).length=c.nodes.l.length:=Ky
 have hobs:=q70 (Γ:=Γ) c hc ⟨Br c p.inn.l p.st.l,some c.nodes.l.length,none⟩ (by simp only[hnl];omega)
 have htk:(Ar (Br c p.inn.l p.st.l)).take c.nodes.l.length=Ar (Br c p.inn.l p.st.l):=by rw[<- hnl];exact C4
 simp only at hobs
 generalize Br c p.inn.l p.st.l=NL at *
 generalize Kq c p.inn.l p.st.l=LL at *
 simp[h2,Ab]
 refine⟨by omega,?_⟩
 rw[hz]
 refine⟨_,_,hload,?_⟩
 simp[A6,hll,hol]
 simp only[hol]at ho
 refine ho _ fun m inb=>?_
 simp[qCu,Wy,q4p,Aa,Ad,Ag,As]
 refine A4 hobs (by simp[Ai,htk,Zh,Aa,Ad,Ag,As,tV]) ?_
 subst hR
 simp[W4,Ai,htk,tVs]
end Go.Lg
namespace Go.Lg
open Go
section
variable {P:Program} {Γ:Tables} {Q:AX->St->Prop} {s:St}
/- probecard/probecardlaw06.taken (function 50) -/
abbrev q3w:IC:=.gh (.seq (.seq (.reg [om 9 8,om 10 1,od 11 (.bin .lss (tm 9) (tm 10))] [kp [0,1,2,7,8,11] [19]]) (.cond (tm 11) .skip (.exit 0))) (.seq (.block 1 (.seq (.reg [om 14 0,od 15 (le 0 14),od 16 (.bin .eql (tm 15) (ki 0))] [kp
 [0,1,2,7,8,16] [19]]) (.cond (tm 16) (.reg [om 17 7,od 18 (.bsl true 65 1 [(ku 2)]),od 19 (.app false 65 1 (tm 17) (tm 18)),om 7 19] [kp [0,1,2,7,8] [19]]) (.reg [om 20 7,om 21 0,om 22 8,om 23 0,od 24 (le 0 23),od
 25 (.bin .rem (tm 22) (tm 24)),od 26 (ia 1 21 25),od 27 (ld 1 26),om 28 2,od 29 (.bin .rem (tm 27) (tm 28)),od 30 (.bsl true 65 1 [(tm 29)]),oz 31 (.app false 65 1 (tm 20) (tm 30)) 19,om 7 31] [kp [0,1,2,7,8] [19]]))))
 (.reg [om 12 8,od 13 (.bin .add (tm 12) (ki 1)),om 8 13] [kp [0,1,2,7,8] [19]]))) [kp [0,1,2,7,8] [19]]
def Sv:IC:=.loop q3w
abbrev q3x:IC:=(.seq (.reg [od 6 (.mv kN)] [kp [0,1,2] []]) (.seq (.reg [od 7 (.mv kN)] [.nl 7 19 65 1,kp [0,1,2,7] [19]]) (.seq (.seq (.reg [od 8 (.mv (ki 0))] [kp [0,1,2,7,8] [19]]) (.block 0 Sv)) (.seq (.reg [om 32 7,om
 6 32] [kp [6] [19]]) .ret))))
theorem Zi (h:∀ K:St->Prop,K=run P Γ Sv Q->run P Γ q3w (Aw K Q) s):run P Γ Sv Q s:=Ah h
def q3y:List RV:=[.tmp 6]
/- probecard/probecardlaw06.count (function 51) -/
abbrev q3z:IC:=.gh (.seq (.seq (.reg [om 7 6,od 8 (fa 0 2),od 9 (ld 1 8),od 10 (le 0 9),od 11 (.bin .lss (tm 7) (tm 10))] [kp [1,2,5,6,11] []]) (.cond (tm 11) .skip (.exit 0))) (.seq (.block 1 (.seq (.reg [od 14 (fa 0 2),od 15 (ld 1 14),
 om 16 6,od 17 (ia 4 15 16),od 18 (fa 0 17),od 19 (ld 1 18),om 20 1,od 21 (.bin .eql (tm 19) (tm 20))] [kp [1,2,5,6,21] []]) (.cond (tm 21) (.reg [om 22 5,od 23 (.bin .add (tm 22) (ki 1)),om 5 23] [kp [1,2,5,6] []])
 .skip))) (.reg [om 12 6,od 13 (.bin .add (tm 12) (ki 1)),om 6 13] [kp [1,2,5,6] []]))) [kp [1,2,5,6] []]
def Sz:IC:=.loop q3z
abbrev q40:IC:=(.seq (.reg [od 2 (.box true (tm 0)),od 4 (.mv (ki 0))] [kp [1,2] []]) (.seq (.reg [od 5 (.mv (ki 0))] [kp [1,2,5] []]) (.seq (.seq (.reg [od 6 (.mv (ki 0))] [kp [1,2,5,6] []]) (.block 0 Sz)) (.seq (.reg [om 24
 5,om 4 24] [kp [4] []]) .ret))))
theorem Zj (h:∀ K:St->Prop,K=run P Γ Sz Q->run P Γ q3z (Aw K Q) s):run P Γ Sz Q s:=Ah h
def q41:List RV:=[.tmp 4]
/- (probecard/probecardlaw06.P).Of (function 13) -/
abbrev q5A:IC:=(.seq (.reg [od 2 (.box true (tm 0)),od 3 (.box true (tm 1)),od 4 (.alloc false [(.slice none 0 0),(.slice none 0 0)])] [kp [2,3,4] [4,9019,14019]]) (.seq (.reg [od 5 (fa 0 2),od 6 (.ldT 1 false (tm 5)),od 7 (.ldT 4 true
 (tm 3)),od 8 (.callT 51 [(tm 7),(ku 0)]),od 9 (.ncall 50 [(tm 6),(tm 8),(ku 4)] 9000),od 10 (fa 1 2),od 11 (.ldT 1 false (tm 10)),od 12 (.ldT 4 true (tm 3)),od 13 (.callT 51 [(tm 12),(ku 14)]),od 14 (.ncall 50 [(tm 11),
 (tm 13),(ku 3)] 14000),od 15 (.build [(1,(tm 9)),(1,(tm 14))]),on (.stR 4 2 (tm 4) (tm 15))] [kp [4] [4,9019,14019]]) .ret))
def q5B:List RV:=[.cell 4 2 true]
/- probecard/probecardlaw06.Same (function 19) -/
abbrev q5C:IC:=.gh (.seq (.seq (.reg [om 11 5,om 12 0,od 13 (le 0 12),od 14 (.bin .lss (tm 11) (tm 13))] [kp [0,1,5,14] []]) (.cond (tm 14) .skip (.exit 0))) (.seq (.block 1 (.seq (.reg [om 17 0,om 18 5,od 19 (ia 1 17 18),od 20 (ld 1
 19),om 21 1,om 22 5,od 23 (ia 1 21 22),od 24 (ld 1 23),od 25 (.bin .neq (tm 20) (tm 24))] [kp [0,1,5,25] []]) (.cond (tm 25) (.seq (.reg [od 4 (.mv (ki 1))] [kp [4] []]) .ret) .skip))) (.reg [om 15 5,od 16 (.bin .add (tm
 15) (ki 1)),om 5 16] [kp [0,1,5] []]))) [kp [0,1,5] []]
def Vd:IC:=.loop q5C
abbrev q0h:IC:=(.seq (.reg [od 4 (.mv (ki 0))] [kp [0,1] []]) (.seq (.seq (.reg [om 6 0,od 7 (le 0 6),om 8 1,od 9 (le 0 8),od 10 (.bin .neq (tm 7) (tm 9))] [kp [0,1,10] []]) (.cond (tm 10) (.seq (.reg [od 4 (.mv (ki 1))] [kp [4] []]) .ret)
 .skip)) (.seq (.seq (.reg [od 5 (.mv (ki 0))] [kp [0,1,5] []]) (.block 0 Vd)) (.seq (.reg [od 4 (.mv (ki 0))] [kp [4] []]) .ret))))
theorem q0K (h:∀ K:St->Prop,K=run P Γ Vd Q->run P Γ q5C (Aw K Q) s):run P Γ Vd Q s:=Ah h
def Ve:List RV:=[.tmp 4]
/- probecard/logic.Text (function 53) -/
abbrev q5D:IC:=.gh (.seq (.reg [od 12 (.bin .lss (tm 11) (tm 10))] [kp [3,9,10,11,12] [8]]) (.seq (.cond (tm 12) .skip (.exit 0)) (.seq (.block 1 (.seq (.reg [om 13 11,od 14 (ia 1 9 11),od 15 (ld 1 14),om 4 13,om 5 15] [kp [3,4,5,9,
 10,11] [8]]) (.reg [om 16 3,om 17 4,om 18 5,od 19 (.call 109 [(tm 18)]),od 20 (.idxS (.const (sV [48,49,88,90])) (tm 19)),od 21 (ia 1 16 17),on (.store 1 (tm 21) (tm 20))] [kp [3,9,10,11] [8]]))) (.reg [od 22 (.bin
 .add (tm 11) (ki 1)),om 11 22] [kp [3,9,10,11] [8]])))) [kp [3,9,10,11] [8]]
def Vf:IC:=.loop q5D
abbrev q5E:IC:=(.seq (.reg [od 2 (.mv (.const (sV [])))] [kp [0] []]) (.seq (.reg [om 6 0,od 7 (le 0 6),od 8 (.mk 5 1 [(.int .u8 0)] (tm 7) (tm 7)),om 3 8] [kp [0,3] [8]]) (.seq (.seq (.reg [om 9 0,od 10 (le 0 9),od 11 (.mv (ki 0))] [kp [3,
 9,10,11] [8]]) (.block 0 Vf)) (.seq (.reg [om 23 3,od 24 (.bytesStr (tm 23)),om 2 24] [kp [2] []]) .ret))))
theorem q0L (h:∀ K:St->Prop,K=run P Γ Vf Q->run P Γ q5D (Aw K Q) s):run P Γ Vf Q s:=Ah h
def q5F:List RV:=[.tmp 2]
/- probecard/logic.Parse (function 54) -/
abbrev q42:IC:=.gh (.seq (.reg [od 13 (.bin .lss (tm 12) (tm 11))] [kp [0,4,11,12,13] [9]]) (.seq (.cond (tm 13) .skip (.exit 0)) (.seq (.block 1 (.seq (.reg [om 14 12,om 5 14] [kp [0,4,5,11,12] [9]]) (.seq (.reg [om 15 0,om 16 5,od 17
 (.idxS (tm 15) (tm 16)),od 18 (.call 110 [(.const (sV [48,49,88,90])),(tm 17)]),om 6 18] [kp [0,4,5,6,11,12] [9]]) (.seq (.seq (.reg [om 19 6,od 20 (.bin .lss (tm 19) (ki 0))] [kp [0,4,5,6,11,12,20] [9]]) (.cond
 (tm 20) (.seq (.reg [od 2 (.mv kN),od 3 (.mv (ki 4))] [kp [2,3] [9]]) .ret) .skip)) (.reg [om 21 4,om 22 5,om 23 6,od 24 (.conv .u8 (tm 23)),od 25 (ia 1 21 22),on (.store 1 (tm 25) (tm 24))] [kp [0,4,11,12] [9]])))))
 (.reg [od 26 (.bin .add (tm 12) (ki 1)),om 12 26] [kp [0,4,11,12] [9]])))) [kp [0,4,11,12] [9]]
def T0:IC:=.loop q42
abbrev q43:IC:=(.seq (.reg [od 2 (.mv kN),od 3 (.mv (ki 0))] [kp [0] []]) (.seq (.reg [om 7 0,od 8 (le 1 7),od 9 (.mk 65 1 [(.int .u8 0)] (tm 8) (tm 8)),om 4 9] [kp [0,4] [9]]) (.seq (.seq (.reg [om 10 0,od 11 (le 1 10),od 12 (.mv (ki 0))]
 [kp [0,4,11,12] [9]]) (.block 0 T0)) (.seq (.reg [om 27 4,om 2 27,od 3 (.mv (ki 0))] [kp [2,3] [9]]) .ret))))
theorem Zk (h:∀ K:St->Prop,K=run P Γ T0 Q->run P Γ q42 (Aw K Q) s):run P Γ T0 Q s:=Ah h
def q44:List RV:=[.tmp 2,.tmp 3]
end
end Go.Lg
namespace Go.Lg
open Go Go.Proofs
theorem q97:Ba Tryz.prog 50 q3x 33 3 q3y=true:=by kernel_rfl
theorem q98:Ba Tryz.prog 51 q40 25 2 q41=true:=by kernel_rfl
theorem qAT:Ba Tryz.prog 13 q5A 16 2 q5B=true:=by kernel_rfl
theorem qAU:Ba Tryz.prog 19 q0h 26 2 Ve=true:=by kernel_rfl
theorem qAV:Ba Tryz.prog 53 q5E 25 1 q5F=true:=by kernel_rfl
theorem q99:Ba Tryz.prog 54 q43 28 1 q44=true:=by kernel_rfl
end Go.Lg
namespace Go.Lg
open Go Go.Proofs
variable {Γ:Tables}
theorem qEE {ks:List Int} {c:Bi} {i:Nat} (hi:i<c.nodes.l.length):N8 ks (c.nodes.l.take (i+1)) 0=N8 ks (c.nodes.l.take i) 0++if ks.contains (Aj c i) then[(i:Int)] else[]:=by
 have hk:Aj c i=c.nodes.l[i].k:=by simp[Aj,hi]
 rw[xz7,xqg hi,q6b,hk]
 have:(c.nodes.l.take i).length=i:=by rw[xzf];omega
 rw[this]
 simp[N8]
theorem qAW {Q:AX->St->Prop} (c:Bi) (hc:COk c) (k:Int)
  (h0:Q (.exit 0) ⟨[(1,.t (tK k)),(2,.t (.ip (tC c) 0)),(5,.t (tI (N8 [k] c.nodes.l 0).length)),(6,.t (tI c.nodes.l.length)),(11,.t (tB false))],[]⟩):∀ (f i:Nat),f+i=c.nodes.l.length ->
  run Tryz.prog Γ Sz Q ⟨[(1,.t (tK k)),(2,.t (.ip (tC c) 0)),(5,.t (tI (N8 [k] (c.nodes.l.take i) 0).length)),(6,.t (tI i))],[]⟩
 | 0,i,h=>by
  refine Zj fun K hK=>?_
  have h2:i=c.nodes.l.length:=by omega
  subst h2
  rw[xzn]
  simp[tC,Aa,Ad,Ag,As,Ab]
  simpa[tC,Aa,Ad,Ag,As]using h0
 | f+1,i,h=>by
  refine Zj fun K hK=>?_
  have h2:i<c.nodes.l.length:=by omega
  have hn:=hc.nodes
  have ih:=qAW c hc k h0 f (i+1) (by omega)
  rw[qEE h2]at ih
  have hget:=q3u (c:=c) (n:=(i:Int)) (by omega) (by omega)
  have hk:(nd c i).k=Aj c i:=by simp[nd,Aj]
  simp only[xzl]at hget
  have hle:=q06 [k] (c.nodes.l.take i) 0
  rw[xzf]at hle
  generalize nd c i=x at *
  by_cases h1:x.k=k
  ·have hkk:[k].contains (Aj c i)=true:=by rw[<- hk,h1];simp
   rw[hkk,if_pos rfl,xq6]at ih
   simp(disch:=omega) [tC,Aa,Ad,Ag,As,Ab,h2,Bq,hget,Dl,h1,A7]
   rw[hK]
   simpa[tC,Aa,Ad,Ag,As]using ih
  ·have hkk:[k].contains (Aj c i)=false:=by rw[<- hk];simp;exact h1
   rw[hkk,if_neg (by simp),List.append_nil]at ih
   simp(disch:=omega) [tC,Aa,Ad,Ag,As,Ab,h2,Bq,hget,Dl,h1,A7]
   rw[hK]
   simpa[tC,Aa,Ad,Ag,As]using ih
theorem qAX (c:Bi) (hc:COk c) (k:Int):A8 Tryz.prog Γ 51 [.agg (tC c),tK k] (tI (N8 [k] c.nodes.l 0).length):=by
 refine Ae q98 rfl ?_
 have g:=fun Q h0=>qAW (Γ:=Γ) (Q:=Q) c hc k h0 c.nodes.l.length 0 (by omega)
 simp[q40,tC,Aa,Ad,Ag,As]
 refine g _ ?_
 simp[q41,Ax]
def Wz (l:List Int) (n:Nat) (most:Int):List Int:=(List.range' 0 n).map fun i=>if l=[]then 2 else(l.getD (i % l.length) 0).tmod most
theorem q2M {l:List Int} {n:Nat} {most:Int}:(Wz l n most).length=n:=by simp[Wz]
theorem q68 {Q:AX->St->Prop} (l:Sl Int) (n:Nat) (hn:n<=1000000000) (most:Int) (hm:0<most) (R:List Int)
  (h0:Q (.exit 0) ⟨[(0,.t (tV l)),(1,.t (tI n)),(2,.t (tK most)),(7,.ls 19 0 n none),(8,.t (tI n)),(11,.t (tB false))],[(19,.sl 65 1 (Ar R))]⟩):∀ (k i:Nat) (out:List Int),k+i=n->out.length=i->out++(List.range' i k).map (fun i=>if l.l=[]then 2 else(l.l.getD (i % l.l.length) 0).tmod most)=R ->
  run Tryz.prog Γ Sv Q ⟨[(0,.t (tV l)),(1,.t (tI n)),(2,.t (tK most)),(7,.ls 19 0 i none),(8,.t (tI i))],[(19,.sl 65 1 (Ar out))]⟩
 | 0,i,out,h,hi,hR=>by
  refine Zi fun K hK=>?_
  have h2:i=n:=by omega
  subst h2
  simp only[List.range'_zero,xq3,List.append_nil]at hR
  subst hR
  simp
  exact h0
 | k+1,i,out,h,hi,hR=>by
  refine Zi fun K hK=>?_
  have h2:i<n:=by omega
  rw[List.range'_succ,xqm]at hR
  have vt:(Ar out).take i=Ar out:=by rw[<- hi];exact C4
  by_cases h1:l.l=[]
  ·have ih:=q68 l n hn most hm R h0 k (i+1) (out++[2]) (by omega) (by simp[hi]) (by rw[<- hR];simp[h1])
   have vs:=Ur (l:=out) (v:=2)
   simp(disch:=omega) [h2,tV,A6,h1,A7,vt,vs,hi]
   refine⟨by omega,?_⟩
   rw[hK]
   simpa[tV,h1]using ih
  ·have hpos:0<l.l.length:=xza.2 h1
   have hlt:i % l.l.length<l.l.length:=Nat.mod_lt _ hpos
   have hmod:(i:Int).tmod (l.l.length:Int)=((i % l.l.length:Nat):Int):=by rw[Int.natCast_emod];exact Int.tmod_eq_emod_of_nonneg (by omega)
   rw[if_neg h1]at hR
   have e:=ge1 (f:=tK) hlt
   generalize hj:i % l.l.length=j at *
   generalize l.l.getD j 0=v at *
   have ih:=q68 l n hn most hm R h0 k (i+1) (out++[v.tmod most]) (by omega) (by simp[hi]) (by rw[<- hR];simp)
   have vs:=Ur (l:=out) (v:=v.tmod most)
   have hne:¬ (l.l.length:Int)=0:=by omega
   have hm0:¬ most=0:=by omega
   simp(disch:=omega) [h2,tV,A6,A9,h1,hne,hm0,hmod,hlt,e,A7,vt,vs,hi,-Int.natCast_emod]
   refine⟨by omega,?_⟩
   rw[hK]
   simpa[tV]using ih
theorem qGh (l:Sl Int) (n:Nat) (hn:n<=1000000000) (most:Int) (hm:0<most):Bm Tryz.prog Γ 50 [] [.t (tV l),.t (tI n),.t (tK most)] (.ls 19 0 n none) [(19,.sl 65 1 (Ar (Wz l.l n most)))]:=by
 refine Ee q97 rfl ?_
 have g:=fun Q h0=>q68 (Γ:=Γ) (Q:=Q) l n hn most hm (Wz l.l n most) h0 n 0 [] (by omega) rfl (by simp[Wz])
 simp[q3x]
 refine g _ ?_
 simp[q3y]
def q8n (a b:List Int):Int:=if a=b then 0 else 1
theorem qJB {a b:List Int} (hl:a.length=b.length) (h:∀ j,j<a.length->a.getD j 0=b.getD j 0):a=b:=by
 refine List.ext_getElem hl fun i h1 h2=>?_
 have:=h i h1
 rwa [Be h1,Be h2]at this
theorem qCB {Q:AX->St->Prop} (a b:Sl Int) (hl:a.l.length<=1000000000) (he:a.l.length=b.l.length)
  (h0:a.l=b.l->Q (.exit 0) ⟨[(0,.t (tV a)),(1,.t (tV b)),(5,.t (tI a.l.length)),(14,.t (tB false))],[]⟩)
  (h1:a.l≠b.l->Q .ret ⟨[(4,.t (tI 1))],[]⟩):∀ (k i:Nat),k+i=a.l.length->(∀ j,j<i->a.l.getD j 0=b.l.getD j 0) ->
  run Tryz.prog Γ Vd Q ⟨[(0,.t (tV a)),(1,.t (tV b)),(5,.t (tI i))],[]⟩
 | 0,i,h,hp=>by
  refine q0K fun K hK=>?_
  have h2:i=a.l.length:=by omega
  subst h2
  simp[tV,A6]
  exact h0 (qJB he hp)
 | k+1,i,h,hp=>by
  refine q0K fun K hK=>?_
  have h2:i<a.l.length:=by omega
  have h3:i<b.l.length:=by omega
  have e1:=ge1 (f:=tK) h2
  have e2:=ge1 (f:=tK) h3
  by_cases hv:a.l.getD i 0=b.l.getD i 0
  ·have ih:=qCB a b hl he h0 h1 k (i+1) (by omega) (fun j hj=>by
    rcases Nat.lt_succ_iff_lt_or_eq.1 hj with hj|rfl
    ·exact hp j hj
    ·exact hv)
   rw[hv]at e1
   generalize b.l.getD i 0=v at *
   simp(disch:=omega) [h2,h3,tV,A6,A9,e1,e2,A7]
   rw[hK]
   simpa[tV]using ih
  ·have hne:a.l≠b.l:=fun e=>hv (by rw[e])
   generalize b.l.getD i 0=v at *
   generalize a.l.getD i 0=u at *
   simp(disch:=omega) [h2,h3,tV,A6,A9,e1,e2,A7,hv]
   exact h1 hne
theorem qCC (a b:Sl Int) (hl:a.l.length<=1000000000):A8 Tryz.prog Γ 19 [tV a,tV b] (tI (q8n a.l b.l)):=by
 refine Ae qAU rfl ?_
 by_cases he:a.l.length=b.l.length
 ·have g:=fun Q h0 h1=>qCB (Γ:=Γ) (Q:=Q) a b hl he h0 h1 a.l.length 0 (by omega) (by simp)
  simp[q0h,tV,A6,he]
  simp only[tV]at g
  refine g _ (fun h=>?_) (fun h=>?_)
  ·simp[Ve,Ax,q8n,h]
  ·simp[Ve,Ax,q8n,h]
 ·have hne:¬ a.l=b.l:=fun e=>he (by rw[e])
  have he':¬ (a.l.length:Int)=b.l.length:=by omega
  simp[q0h,tV,A6,he,he',Ve,Ax,q8n,hne]
def chV (v:Int):Int:=if v=0 then 48 else if v=1 then 49 else if v=2 then 88 else 90
def qGi (l:List Int):List UInt8:=l.map fun v=>UInt8.ofNat (chV (F4 v)).toNat
theorem qCD {Q:AX->St->Prop} (l:Sl Int) (hl:l.l.length<=1000000000) (hv:∀ v∈l.l,0<=v) (R:List Int)
  (h0:Q (.exit 0) ⟨[(3,.ls 8 0 l.l.length none),(9,.t (tV l)),(10,.t (tI l.l.length)),(11,.t (tI l.l.length)),(12,.t (tB false))],[(8,.sl 5 1 (Ar R))]⟩):∀ (k i:Nat),k+i=l.l.length->R=l.l.map (fun v=>chV (F4 v)) ->
  run Tryz.prog Γ Vf Q ⟨[(3,.ls 8 0 l.l.length none),(9,.t (tV l)),(10,.t (tI l.l.length)),(11,.t (tI i))],[(8,.sl 5 1 (Ar (R.take i++List.replicate (l.l.length-i) 0)))]⟩
 | 0,i,h,hR=>by
  refine q0L fun K hK=>?_
  have h2:i=l.l.length:=by omega
  have h3:R.length=l.l.length:=by rw[hR];simp
  subst h2
  rw[<- h3,xzn,h3,xjb,List.replicate_zero,List.append_nil]
  simp
  exact h0
 | k+1,i,h,hR=>by
  refine q0L fun K hK=>?_
  have h2:i<l.l.length:=by omega
  have h3:R.length=l.l.length:=by rw[hR];simp
  have ih:=qCD l hl hv R h0 k (i+1) (by omega) hR
  have e1:=ge1 (f:=tK) h2
  have hv0:=hv (l.l.getD i 0) (by rw[Be h2];exact xqj h2)
  have hRi:R.getD i 0=chV (F4 (l.l.getD i 0)):=by rw[hR,Be h2];simp[xqe,h2]
  have hset:∀ v,v=R.getD i 0->(Ar (R.take i++List.replicate (l.l.length-i) 0)).set i [tK v]=Ar (R.take (i+1)++List.replicate (l.l.length-(i+1)) 0):=by
   rintro v rfl
   show(Au tK _).set i [tK _]=Au tK _
   rw[Gf]
   congr 1
   have e:l.l.length-i=(l.l.length-(i+1))+1:=by omega
   have ht:(R.take i).length=i:=by rw[xzf];omega
   have hri:i<R.length:=by omega
   have hta:R.take (i+1)=R.take i++[R.getD i 0]:=by rw[xz7,xqg hri,Be hri];rfl
   rw[e,List.replicate_succ,List.set_append,if_neg (by rw[ht];omega),ht,xjb,hta]
   simp
  have hlen:(Ar (R.take i++List.replicate (l.l.length-i) 0)).length=l.l.length:=by rw[A6];simp;omega
  generalize Ar (R.take i++List.replicate (l.l.length-i) 0)=E at *
  generalize l.l.getD i 0=v at *
  have hc4:F4 v=0\/F4 v=1\/F4 v=2\/F4 v=3:=by unfold F4;split<;>omega
  simp(disch:=omega) [h2,tV,A6,A9,e1,A7]
  refine A4 (q63 v) rfl ?_
  have hch:(ByteArray.mk #[48,49,88,90]).size=4:=rfl
  have hb:∀ q:Int,F4 v=q->(0<=q/\q<4):=fun q hq=>by omega
  generalize F4 v=w at *
  have hval:((([48,49,88,90]:List UInt8)[w.toNat]?.getD 0).toNat:Int)=chV w:=by
   rcases hc4 with rfl|rfl|rfl|rfl<;>rfl
  have hw:=hb w rfl
  have hs:=hset _ (hval.trans hRi.symm)
  simp(disch:=omega) [h2,hlen,hs,A7,sV,hch,hw]
  rw[hK]
  simpa[tV]using ih
theorem qAY:∀ (l:List Int),(∀ v∈l,0<=v/\v<256)->Pi (Ar l)=some (l.map fun v=>UInt8.ofNat v.toNat)
 | [],_=>rfl
 | v::l,h=>by
  have ih:=qAY l fun u hu=>h u (xqf _ hu)
  have hv:=h v xqh
  show(Pi (Ar l)).map _=_
  rw[ih];rfl
theorem qHr (l:Sl Int) (hl:l.l.length<=1000000000) (hv:∀ v∈l.l,0<=v):A8 Tryz.prog Γ 53 [tV l] (tS (qGi l.l)):=by
 refine Ae qAV rfl ?_
 have g:=fun Q h0=>qCD (Γ:=Γ) (Q:=Q) l hl hv (l.l.map fun v=>chV (F4 v)) h0 l.l.length 0 (by omega) rfl
 have hz:List.replicate l.l.length [T.v (Value.int .u8 0)]=Ar (([]:List Int)++List.replicate (l.l.length-0) 0):=by simp[Au]
 have hlen:(l.l.map fun v=>chV (F4 v)).length=l.l.length:=by simp
 have hR:Pi (Ar (l.l.map fun v=>chV (F4 v)))=some (qGi l.l):=by
  rw[qAY]
  ·simp[qGi]
  ·intro v hv'
   obtain⟨u,_,rfl⟩:=xqy.1 hv'
   unfold chV;split;omega;split;omega;split<;>omega
 have htk:(Ar (l.l.map fun v=>chV (F4 v))).take l.l.length=Ar (l.l.map fun v=>chV (F4 v)):=by rw[<- hlen];exact C4
 rw[List.take_zero]at g
 generalize Ar (l.l.map fun v=>chV (F4 v))=E at *
 simp(disch:=omega) [q5E,tV,A6,A7]
 refine⟨by omega,?_⟩
 rw[hz]
 refine g _ ?_
 simp[q5F,Ax,htk,hR,tS,sV]
theorem E5 {s:Nat} {e:List T} {l:List (List T)}:Em s (e::l)=(e.length=s/\Em s l):=propext ⟨fun h=>⟨h e xqh,fun x hx=>h x (xqf _ hx)⟩,fun⟨h1,h2⟩ x hx=>by rcases xqv.1 hx with rfl|hx;exact h1;exact h2 x hx⟩
structure PD where
 i:Sl Int
 s:Sl Int
def tPD (q:PD):List T:=[tV q.i,tV q.s]
def qEF (q:PD):Prop:=(∀ v∈q.i.l,Byt v)/\∀ v∈q.s.l,Byt v
def qL4 (q:PD) (c:Bi):List Int:=Wz q.i.l (Bd c).length 4
def qL5 (q:PD) (c:Bi):List Int:=Wz q.s.l (B8 c).length 3
def H6 (q:PD) (c:Bi):Pat:=⟨⟨qL4 q c,none,none⟩,⟨qL5 q c,none,none⟩⟩
def W6 (b:UInt8):Int:=if b=48 then 0 else if b=49 then 1 else if b=88 then 2 else 3
def Wp:Bi:=⟨⟨[⟨0,⟨[],some 0,some true⟩,0,0⟩,⟨14,⟨[3],some 1,some false⟩,0,0⟩,⟨4,⟨[0],some 1,some false⟩,0,0⟩,⟨5,⟨[1,2],some 2,some false⟩,0,0⟩,⟨12,⟨[0,2],some 2,some false⟩,0,0⟩,⟨13,⟨[4],some 1,some false⟩,0,0⟩],some 6,some false⟩,
 ⟨[[97],[113],[110],[103],[116],[98]],some 6,some false⟩,⟨[],some 0,some true⟩,⟨[3,5],some 2,some false⟩⟩
theorem qQW:COk Wp:=by
 refine⟨⟨by decide,by decide,by decide,by decide,?_,?_,?_⟩,?_⟩
 ·intro x hx;simp[Wp]at hx;rcases hx with rfl|rfl|rfl|rfl|rfl|rfl<;>simp
 ·intro x hx;simp[Wp]at hx;rcases hx with rfl|rfl|rfl|rfl|rfl|rfl<;>simp
 ·intro m hm;simp[Wp]at hm
 ·intro s hs b hb;simp[Wp]at hs;rcases hs with rfl|rfl|rfl|rfl|rfl|rfl<;>simp at hb<;>subst hb<;>decide
theorem qPV:Cf Wp=0:=by decide +kernel
def v1 (v:Int):Sl Int:=⟨[v],none,none⟩
end Go.Lg
namespace Go.Lg
open Go Go.Proofs Go.Proofs.YtafhjckfgmcphaaGreatDoor
theorem qGj:Tryz.prog.cellsOf 29=2:=by kernel_rfl
theorem qGk:Rd Tryz.prog 25 fun ts=>∃ s:Sl Int,ts=[tV s]/\∀ b∈s.l,Byt b:=by
 refine(q6V Tryz.underlying25 q3c (by decide) qE0).mono fun ts ⟨es,cap,nl,h,_,hes⟩=>?_
 obtain⟨l,rfl,hl⟩:=q6h (f:=fun n:Int=>[tK n]) (Q:=Byt) fun x hx=>(hes x hx).1
 exact⟨⟨l,cap,nl⟩,h,hl⟩
theorem qQX:Rd Tryz.prog 29 fun ts=>∃ q,ts=tPD q/\qEF q:=by
 refine(q7t (l:=[(1,fun ts=>∃ s:Sl Int,ts=[tV s]/\∀ b∈s.l,Byt b),(1,fun ts=>∃ s:Sl Int,ts=[tV s]/\∀ b∈s.l,Byt b)]) Tryz.underlying29 qGj
  (.cons rfl qCn qGk (.cons rfl qCn qGk (.nil _)))).mono fun ts h=>?_
 obtain⟨_,_,rfl,⟨a,rfl,ha⟩,_,_,rfl,⟨b,rfl,hb⟩,rfl⟩:=h
 exact⟨⟨a,b⟩,rfl,ha,hb⟩
end Go.Lg
namespace Go.Proofs.YtafhjckfgmcphaaGreatDoor
open Go Go.Lg Go.ChangeShapes Go.WideShapes Go.ChangeAt Go.RowKit
end Go.Proofs.YtafhjckfgmcphaaGreatDoor
namespace Go.Lg
open Go Go.Proofs Go.Proofs.YtafhjckfgmcphaaGreatDoor
theorem qPW:Rd Tryz.prog 55 fun ts=>∃ s:Sl PD,ts=[.sl (Bc tPD s.l) s.cap s.nl]/\∀ q∈s.l,qEF q:=by
 refine(q6V Tryz.underlying55 qGj (by decide) qQX).mono fun ts ⟨es,cap,nl,h,_,hes⟩=>?_
 obtain⟨l,rfl,hl⟩:=q6h (f:=tPD) (Q:=qEF) fun x hx=>(hes x hx).1
 exact⟨⟨l,cap,nl⟩,h,hl⟩
end Go.Lg
namespace Go.Proofs.YtafhjckfgmcphaaGreatDoor
open Go Go.Lg Go.ChangeShapes Go.WideShapes Go.ChangeAt Go.RowKit
theorem qPX {H:Type} {enc:TypeId×Value->H} {W:World} {base:Nat} {v:Value} {d:DataW H} {p:List MemPlace} (hval:Value.okWide Tryz.prog W .any base 55 v) (h:DataW.Trod enc Tryz.prog W 0 (fun _=>true) true 55 v d p):∃ s:Sl PD,(∀ q∈s.l,qEF q)/\TR W (Old W) (.sl (Bc tPD s.l) s.cap s.nl) v:=by
 obtain⟨a,len,cap,rfl⟩:=okWide_slice Tryz.underlying55 hval
 obtain⟨fuel,hf⟩:=h
 obtain⟨ts,⟨s,rfl,hs⟩,htr,_⟩:=qPW H enc W true fuel _ _ hf
 obtain⟨y,ys,he,hy,_⟩:=htr.cons_inv
 simp[Value.cells]at he
 exact⟨s,hs,by rw[he.1];exact hy⟩
end Go.Proofs.YtafhjckfgmcphaaGreatDoor
namespace Go.Lg
open Go
section
variable {P:Program} {Γ:Tables} {Q:AX->St->Prop} {s:St}
/- (*probecard/events.wave).set (function 44) -/
abbrev Zl:IC:=.gh (.seq (.reg [od 52 (.bin .lss (tm 51) (tm 50))] [.keepE [0,49,50,51,52]]) (.seq (.cond (tm 52) .skip (.exit 0)) (.seq (.block 1 (.seq (.reg [od 53 (ia 1 49 51),od 54 (ld 1 53),om 7 54] [.keepE [0,7,49,50,51]]) (.seq
 (.reg [om 55 0,od 56 (.nck (tm 55)),od 57 (fa 2 56),od 58 (ld 1 57),om 59 7,od 60 (ia 1 58 59),od 61 (ld 1 60),od 62 (.un .not (tm 61))] [.keepE [0,7,49,50,51,62]]) (.cond (tm 62) (.seq (.reg [om 63 0,od 64 (.nck (tm
 63)),od 65 (fa 2 64),od 66 (ld 1 65),om 67 7,od 68 (ia 1 66 67),on (.store 1 (tm 68) kT)] [.keepE [0,7,49,50,51]]) (.ghW (.reg [od 69 (.mvP (tm 0)),od 70 (.nckP (tm 69)),od 71 (.fadP 1 (tm 70)),od 72 (.ldP 1 (tm 71)),
 od 73 (.mvP (tm 0)),od 74 (.nckP (tm 73)),od 75 (.fadP 0 (tm 74)),od 76 (.ldP 1 (tm 75)),od 77 (.nckP (tm 76)),od 78 (.fadP 6 (tm 77)),od 79 (.ldP 1 (tm 78)),od 80 (.mvP (tm 7)),od 81 (.iadT 1 (tm 79) (tm 80)),od 82 (.ldT
 1 false (tm 81)),om 83 0,od 84 (.nck (tm 83)),od 85 (fa 1 84),od 86 (ld 1 85),om 87 0,od 88 (.nck (tm 87)),od 89 (fa 0 88),od 90 (ld 1 89),od 91 (.nck (tm 90)),od 92 (fa 6 91),od 93 (ld 1 92),om 94 7,od 95 (ia 1 93
 94),od 96 (ld 1 95),od 97 (.lkupA (.int .i64) (.slice none 0 0) (tm 86) (tm 96)),om 98 7,od 99 (.bsl true 3 1 [(tm 98)]),od 100 (.app false 3 1 (tm 97) (tm 99)),on (.mupA (.int .i64) (tm 72) (tm 82) (tm 100))] [.keepE [0,49,
 50,51]]))) .skip)))) (.reg [od 101 (.bin .add (tm 51) (ki 1)),om 51 101] [.keepE [0,49,50,51]])))) [.keepE [0,49,50,51]]
def Jt:IC:=.loop Zl
abbrev Qc:IC:=(.seq (.seq (.reg [om 8 0,od 9 (.nck (tm 8)),od 10 (fa 0 9),od 11 (ld 1 10),od 12 (.nck (tm 11)),od 13 (fa 8 12),od 14 (ld 1 13),om 15 1,od 16 (ia 1 14 15),od 17 (ld 1 16),om 18 2,od 19 (.bin .eql (tm 17) (tm 18))]
 [.keepE [0,1,2,19]]) (.cond (tm 19) .ret .skip)) (.seq (.reg [om 20 0,od 21 (.nck (tm 20)),od 22 (fa 0 21),od 23 (ld 1 22),od 24 (.nck (tm 23)),od 25 (fa 8 24),od 26 (ld 1 25),om 27 1,om 28 2,od 29 (ia 1 26 27),on
 (.store 1 (tm 29) (tm 28))] [.keepE [0,1]]) (.seq (.ghW (.reg [om 30 0,om 31 0,od 32 (.nck (tm 31)),od 33 (fa 3 32),od 34 (ld 1 33),om 35 1,od 36 (.bsl true 3 1 [(tm 35)]),od 37 (.app false 3 1 (tm 34) (tm 36)),od 38 (.nck
 (tm 30)),od 39 (fa 3 38),on (.store 1 (tm 39) (tm 37))] [.keepE [0,1]])) (.seq (.reg [om 40 0,od 41 (.nck (tm 40)),od 42 (fa 0 41),od 43 (ld 1 42),od 44 (.nck (tm 43)),od 45 (fa 7 44),od 46 (ld 1 45),om 47 1,od 48 (ia 1
 46 47),od 49 (ld 1 48),od 50 (le 0 49),od 51 (.mv (ki 0))] [.keepE [0,49,50,51]]) (.block 0 Jt)))))
theorem T8 (h:∀ K:St->Prop,K=run P Γ Jt Q->run P Γ Zl (Aw K Q) s):run P Γ Jt Q s:=Ah h
def Ju:List RV:=[]
/- (*probecard/events.wave).eval (function 47) -/
abbrev Xi:IC:=.gh (.seq (.reg [od 31 (.bin .lss (tm 30) (tm 29))] [.keepE [0,1,4,28,29,30,31]]) (.seq (.cond (tm 31) .skip (.exit 0)) (.seq (.block 1 (.seq (.reg [od 32 (ia 1 28 30),od 33 (ld 1 32),om 6 33] [.keepE [0,1,4,6,28,29,
 30]]) (.reg [om 34 4,om 35 0,od 36 (.nck (tm 35)),od 37 (fa 0 36),od 38 (ld 1 37),od 39 (.nck (tm 38)),od 40 (fa 8 39),od 41 (ld 1 40),om 42 6,od 43 (ia 1 41 42),od 44 (ld 1 43),od 45 (.bsl true 65 1 [(tm 44)]),od 46
 (.app false 65 1 (tm 34) (tm 45)),om 4 46] [.keepE [0,1,4,28,29,30]]))) (.reg [od 47 (.bin .add (tm 30) (ki 1)),om 30 47] [.keepE [0,1,4,28,29,30]])))) [.keepE [0,1,4,28,29,30]]
def Ir:IC:=.loop Xi
abbrev Xj:IC:=(.seq (.reg [om 7 0,od 8 (.nck (tm 7)),od 9 (fa 0 8),od 10 (ld 1 9),od 11 (.nck (tm 10)),od 12 (fa 9 11),od 13 (ld 1 12),od 14 (.bin .add (tm 13) (ki 1)),od 15 (.nck (tm 10)),od 16 (fa 9 15),on (.store 1 (tm 16) (tm 14))]
 [.keepE [0,1]]) (.seq (.reg [od 4 (.mv kN)] [.nl 4 46 65 1,.keepE [0,1,4]]) (.seq (.seq (.reg [om 17 0,od 18 (.nck (tm 17)),od 19 (fa 0 18),od 20 (ld 1 19),od 21 (.nck (tm 20)),od 22 (fa 0 21),od 23 (fa 0 22),od 24 (ld 1
 23),om 25 1,od 26 (ia 4 24 25),od 27 (fa 1 26),od 28 (ld 1 27),od 29 (le 0 28),od 30 (.mv (ki 0))] [.keepE [0,1,4,28,29,30]]) (.block 0 Ir)) (.ghW (.reg [om 48 0,om 49 1,om 50 0,od 51 (.nck (tm 50)),
 od 52 (fa 0 51),od 53 (ld 1 52),od 54 (.nck (tm 53)),od 55 (fa 0 54),od 56 (fa 0 55),od 57 (ld 1 56),om 58 1,od 59 (ia 4 57 58),od 60 (fa 0 59),od 61 (ld 1 60),om 62 4,od 63 (.call 64 [(tm 61),(tm 62)]),od 64 (.hcallW
 44 [(tm 48),(tm 49),(tm 63)] 0)] [.keepE []])))))
theorem Qz (h:∀ K:St->Prop,K=run P Γ Ir Q->run P Γ Xi (Aw K Q) s):run P Γ Ir Q s:=Ah h
def Xk:List RV:=[]
/- probecard/events.each (function 46) -/
abbrev q45:IC:=.gh (.seq (.reg [od 9 (.bin .lss (tm 8) (tm 7))] [.keepE [1,6,7,8,9]]) (.seq (.cond (tm 9) .skip (.exit 0)) (.seq (.block 1 (.seq (.reg [od 10 (ia 1 6 8),od 11 (ld 1 10),om 5 11] [.keepE [1,5,6,7,8]]) (.ghW (.reg [om 12
 1,om 13 5,od 14 (.hcallB (tm 12) [(tm 13)] 0)] [.keepE [1,6,7,8]])))) (.reg [od 15 (.bin .add (tm 8) (ki 1)),om 8 15] [.keepE [1,6,7,8]])))) [.keepE [1,6,7,8]]
def T9:IC:=.loop q45
abbrev q46:IC:=(.seq (.reg [om 6 0,od 7 (le 0 6),od 8 (.mv (ki 0))] [.keepE [1,6,7,8]]) (.block 0 T9))
theorem Zm (h:∀ K:St->Prop,K=run P Γ T9 Q->run P Γ q45 (Aw K Q) s):run P Γ T9 Q s:=Ah h
def q47:List RV:=[]
/- (*probecard/events.Sim).Apply (function 12) -/
abbrev Xl:IC:=.gh (.seq (.reg [od 70 (.bin .lss (tm 69) (tm 68))] [.keepE [0,3,7,67,68,69,70]]) (.seq (.cond (tm 70) .skip (.exit 1)) (.seq (.block 2 (.seq (.reg [om 71 69,od 72 (ia 1 67 69),od 73 (ld 1 72),om 8 71,om 9 73] [.keepE [0,
 3,7,8,9,67,68,69]]) (.ghW (.reg [om 74 7,om 75 9,od 76 (fa 0 3),od 77 (ld 1 76),om 78 8,od 79 (ia 1 77 78),od 80 (ld 1 79),od 81 (.hcallW 44 [(tm 74),(tm 75),(tm 80)] 0)] [.keepE [0,3,7,67,68,69]])))) (.reg [od
 82 (.bin .add (tm 69) (ki 1)),om 69 82] [.keepE [0,3,7,67,68,69]])))) [.keepE [0,3,7,67,68,69]]
def Is:IC:=.loop Xl
abbrev Xm:IC:=.gh (.seq (.reg [od 89 (.bin .lss (tm 88) (tm 87))] [.keepE [3,7,86,87,88,89]]) (.seq (.cond (tm 89) .skip (.exit 3)) (.seq (.block 4 (.seq (.reg [om 90 88,od 91 (ia 1 86 88),od 92 (ld 1 91),om 10 90,om 11 92] [.keepE [3,
 7,10,11,86,87,88]]) (.ghW (.reg [om 93 7,om 94 11,od 95 (fa 1 3),od 96 (ld 1 95),om 97 10,od 98 (ia 1 96 97),od 99 (ld 1 98),od 100 (.hcallW 44 [(tm 93),(tm 94),(tm 99)] 0)] [.keepE [3,7,86,87,88]])))) (.reg [od
 101 (.bin .add (tm 88) (ki 1)),om 88 101] [.keepE [3,7,86,87,88]])))) [.keepE [3,7,86,87,88]]
def It:IC:=.loop Xm
abbrev Xn:IC:=.gh (.seq (.seq (.reg [om 102 7,od 103 (.nck (tm 102)),od 104 (fa 1 103),od 105 (ld 1 104),od 106 (le 2 105),od 107 (.bin .gtr (tm 106) (ki 0))] [.keepE [7,107]]) (.cond (tm 107) .skip (.exit 5))) (.block 6 (.seq (.ghW (.reg
 [om 108 7,od 109 (.hcallW 45 [(tm 108)] 0),om 12 109] [.keepE [7,12]])) (.seq (.reg [om 110 7,od 111 (.nck (tm 110)),od 112 (fa 1 111),od 113 (ld 1 112),om 114 12,od 115 (.lkupA (.int .i64) (.slice none 0 0) (tm 113) (tm
 114)),om 13 115] [.keepE [7,12,13]]) (.seq (.ghW (.reg [om 116 7,od 117 (.nck (tm 116)),od 118 (fa 1 117),od 119 (ld 1 118),om 120 12,on (.mdel (.int .i64) (tm 119) (tm 120))] [.keepE [7,13]])) (.ghW (.reg [om 121 13,om
 122 7,od 123 (.mkfB 47 [(tm 122)]),od 124 (.hcallW 46 [(tm 121),(tm 123)] 100000)] [.keepE [7]]))))))) [.keepE [7]]
def Iu:IC:=.loop Xn
abbrev Gi:IC:=(.seq (.reg [od 3 (.box true (tm 1)),od 4 (.mv kN),od 5 (.mv (ki 0))] [.keepE [0,3]]) (.seq (.seq (.reg [om 14 0,od 15 (.isNilP true (tm 14))] [.keepE [0,3,15]]) (.cond (tm 15) (.reg [od 16 (.build [(4,(.const (.agg
 #[(.slice none 0 0),(.slice none 0 0),(.slice none 0 0),(.slice none 0 0)]))),(1,kN),(1,kN),(1,kN),(1,kN),(1,kN),(1,(ki 0))]),od 17 (.box false (tm 16)),om 0 17] [.keepE [0,3]]) .skip)) (.seq (.reg [od 6 (.mv
 (.func 42))] [.keepE [0,3,6]]) (.seq (.block 0 (.seq (.reg [od 19 (fa 0 3),od 20 (ld 1 19),od 21 (le 0 20),om 22 0,od 23 (.nck (tm 22)),od 24 (fa 4 23),od 25 (ld 1 24),od 26 (le 0 25),od 27 (.bin .neq (tm 21) (tm 26)),om
 28 27,oF 29 (fa 1 3) 28,oF 30 (ld 1 29) 28,oF 31 (le 0 30) 28,oF 32 (.mv (tm 0)) 28,oF 33 (.nck (tm 32)) 28,oF 34 (fa 5 33) 28,oF 35 (ld 1 34) 28,oF 36 (le 0 35) 28,oF 37 (.bin .neq (tm 31) (tm 36)) 28,od 38 (.pick (tm
 28) kT (tm 37)),om 18 38] [.keepE [0,3,6,18]]) (.cond (tm 18) (.seq (.reg [od 4 (.mv kN),od 5 (.mv (ki 8))] [.keepE [4,5]]) .ret) (.seq (.reg [od 40 (fa 0 3),od 41 (ld 1 40),om 42 6,od 43 (.call 43 [(tm 41),(tm 42)]),om
 44 43,oF 45 (fa 1 3) 44,oF 46 (ld 1 45) 44,oF 47 (.mv (tm 6)) 44,oF 48 (.call 43 [(tm 46),(tm 47)]) 44,od 49 (.pick (tm 44) kT (tm 48)),om 39 49] [.keepE [0,3,39]]) (.cond (tm 39) (.seq (.reg [od 4 (.mv kN),od 5 (.mv (ki
 1))] [.keepE [4,5]]) .ret) .skip))))) (.seq (.ghW (.reg [om 50 0,od 51 (.mkmap),om 52 0,od 53 (.nck (tm 52)),od 54 (fa 0 53),od 55 (fa 0 54),od 56 (ld 1 55),od 57 (le 0 56),od 58 (.mk 4 1 [(.bool false)] (tm 57) (tm 57)),
 od 59 (.build [(1,(tm 50)),(1,(tm 51)),(1,(tm 58)),(1,kN)]),od 60 (.box false (tm 59)),om 7 60] [.toM 51,.nlb 60 3 800999 3 1,.keepE [0,3,7]])) (.seq (.reg [om 61 0,od 62 (.nck (tm 61)),od 63 (fa 9 62),on (.store 1
 (tm 63) (ki 0))] [.keepE [0,3,7]]) (.seq (.seq (.reg [om 64 0,od 65 (.nck (tm 64)),od 66 (fa 4 65),od 67 (ld 1 66),od 68 (le 0 67),od 69 (.mv (ki 0))] [.keepE [0,3,7,67,68,69]]) (.block 1 Is)) (.seq
 (.seq (.reg [om 83 0,od 84 (.nck (tm 83)),od 85 (fa 5 84),od 86 (ld 1 85),od 87 (le 0 86),od 88 (.mv (ki 0))] [.keepE [3,7,86,87,88]]) (.block 3 It)) (.seq (.block 5 Iu) (.seq (.reg [om
 125 7,od 126 (.nck (tm 125)),od 127 (fa 3 126),od 128 (ld 1 127),od 129 (.hcallW 48 [(tm 128)] 0)] [.keepE [7]]) (.seq (.reg [om 130 7,od 131 (.nck (tm 130)),od 132 (fa 3 131),od 133 (ld 1 132),od 134 (.hcallW 49 [(tm 133)]
 0),om 4 134,od 5 (.mv (ki 0))] [.frz 800999,.drop [60,58,51],.keepE [4,5]]) .ret)))))))))))
theorem R7 (h:∀ K:St->Prop,K=run P Γ Is Q->run P Γ Xl (Aw K Q) s):run P Γ Is Q s:=Ah h
theorem R9 (h:∀ K:St->Prop,K=run P Γ It Q->run P Γ Xm (Aw K Q) s):run P Γ It Q s:=Ah h
theorem Rb (h:∀ K:St->Prop,K=run P Γ Iu Q->run P Γ Xn (Aw K Q) s):run P Γ Iu Q s:=Ah h
def Ey:List RV:=[.tmp 4,.tmp 5]
/- (*probecard/events.Sim).Apply$1 (function 42) -/
abbrev U6:IC:=(.seq (.reg [od 2 (.mv kF)] [kp [0] []]) (.seq (.reg [om 3 0,od 4 (.bin .gtr (tm 3) (ku 3)),om 2 4] [kp [2] []]) .ret))
def U7:List RV:=[.tmp 2]
/- (*probecard/events.Sim).Values (function 18) -/
abbrev W7:IC:=(.seq (.reg [od 2 (.mv kN)] [kp [0] [1000000,1000001]]) (.seq (.seq (.reg [om 3 0,od 4 (.isNilP true (tm 3))] [kp [0,4] [1000000,1000001]]) (.cond (tm 4) (.seq (.reg [od 2 (.mv kN)] [kp [2] [1000000,1000001]]) .ret) .skip))
 (.seq (.reg [om 5 0,od 6 (.nck (tm 5)),od 7 (fa 8 6),od 8 (ld 1 7),od 9 (.call 58 [(tm 8)]),od 10 (.call 57 [(tm 9)]),om 2 10] [kp [2] [1000000,1000001]]) .ret)))
def W8:List RV:=[.tmp 2]
/- (*probecard/events.Sim).Response (function 23) -/
abbrev Ta:IC:=(.seq (.reg [od 2 (.alloc false [(.slice none 0 0),(.slice none 0 0)])] [kp [0,2] [2,1000000,1000001]]) (.seq (.seq (.reg [om 3 0,od 4 (.isNilP true (tm 3))] [kp [0,2,4] [2,1000000,1000001]]) (.cond (tm 4) (.seq (.reg [od
 5 (.build [(1,kN),(1,kN)]),on (.store 2 (tm 2) (tm 5))] [kp [2] [2,1000000,1000001]]) .ret) .skip)) (.seq (.reg [om 6 0,od 7 (.nck (tm 6)),od 8 (fa 0 7),od 9 (.ldR 1000000 4 true (tm 8)),om 10 0,od 11 (.nck (tm 10)),od
 12 (fa 8 11),od 13 (.ldR 1000000 1 false (tm 12)),od 14 (.call 66 [(tm 9),(tm 13)]),on (.stR 2 2 (tm 2) (tm 14))] [kp [2] [2,1000000,1000001]]) .ret)))
def Tc:List RV:=[.cell 2 2 true]
/- (*probecard/events.Sim).Evals (function 15) -/
abbrev Xo:IC:=(.seq (.reg [od 2 (.mv (ki 0))] [kp [0] [1000000,1000001]]) (.seq (.seq (.reg [om 3 0,od 4 (.isNilP true (tm 3))] [kp [0,4] [1000000,1000001]]) (.cond (tm 4) (.seq (.reg [od 2 (.mv (ki 0))] [kp [2] [1000000,1000001]]) .ret)
 .skip)) (.seq (.reg [om 5 0,od 6 (.nck (tm 5)),od 7 (fa 9 6),od 8 (ld 1 7),om 2 8] [kp [2] [1000000,1000001]]) .ret)))
def Xp:List RV:=[.tmp 2]
end
end Go.Lg
namespace Go.Lg
open Go Go.Proofs
theorem q4q:Ba Tryz.prog 44 Qc 102 3 Ju=true:=by kernel_rfl
theorem q48:Ba Tryz.prog 47 Xj 65 2 Xk=true:=by kernel_rfl
theorem q9A:Ba Tryz.prog 46 q46 16 2 q47=true:=by kernel_rfl
theorem W9:Ba Tryz.prog 12 Gi 135 2 Ey=true:=by kernel_rfl
theorem q2N:Ba Tryz.prog 42 U6 5 1 U7=true:=by kernel_rfl
theorem q37:Ba Tryz.prog 18 W7 11 1 W8=true:=by kernel_rfl
theorem q1M:Ba Tryz.prog 23 Ta 15 1 Tc=true:=by kernel_rfl
theorem q49:Ba Tryz.prog 15 Xo 9 1 Xp=true:=by kernel_rfl
end Go.Lg
namespace Go.Lg
open Go Go.Proofs
variable {Γ:Tables}
structure Ci where
 c:Bi
 inp:Sl Int
 sts:Sl Int
 lev:Sl Int
 rdr:Sl (Sl Int)
def qJC (s:Sl (Sl Int)):T:=.sl (Au As s.l) s.cap s.nl
structure WS where
 nets:List Int
 q:List Bool
 ch:List Int
 wl:List (Nat×List Int)
 ev:Int
def Bg (D:Ci) (nid n:Nat) (ev:Int):List AV :=
 [.t (Aa D.c.nodes),.t (Ad D.c.names),.t (Ag D.c.mems),.t (As D.c.outs),.t (As D.inp),.t (As D.sts),.t (As D.lev),.t (qJC D.rdr),.ls nid 0 n (some n),.t (tI ev)]
def F9 (ν:Nat->Nat) (wl:List (Nat×List Int)):List (Value×AV):=wl.map fun p=>(.int .i64 p.1,.ls (ν p.1) 0 p.2.length none)
def Us (lv:Nat) (k:Int):List (Nat×List Int)->List (Nat×List Int)
 | []=>[(lv,[k])]
 | (m,l)::w=>if m=lv then(m,l++[k])::w else(m,l)::Us lv k w
def M7 (lv:Nat):List (Nat×List Int)->List (Nat×List Int)
 | []=>[]
 | (m,l)::w=>if m=lv then w else(m,l)::M7 lv w
def Wq (ν:Nat->Nat) (W:WS):List (Nat×B9):=(ν 999,.sl 3 1 (Af W.ch))::W.wl.map fun p=>(ν p.1,.sl 3 1 (Af p.2))
structure q85 (ν:Nat->Nat):Prop where
 inj:∀ u v,u<1000->v<1000->ν u=ν v->u=v
 rg:∀ u,u<1000->(800000<=ν u/\ν u<1000000)\/(1000005<=ν u/\ν u<1001005)
structure Wa (wl:List (Nat×List Int)):Prop where
 lt:∀ p∈wl,p.1<999
 nd:(wl.map (·.1)).Nodup
theorem q86 (a b:Nat):M9 (.int .i64 (a:Int)) (.int .i64 (b:Int))=decide (a=b):=by
 simp[M9];omega
theorem qAZ {ν:Nat->Nat} {lv:Nat}:∀ {wl:List (Nat×List Int)},Rn (.int .i64 (lv:Int)) (F9 ν wl)=(A5 wl lv).map fun l=>.ls (ν lv) 0 l.length none
 | []=>rfl
 | (m,l)::wl=>by
  have ih:=qAZ (ν:=ν) (lv:=lv) (wl:=wl)
  simp only[F9,xqm,Rn,q86,A5]at ih ⊢
  by_cases h:lv=m
  ·subst h;simp
  ·have h2:¬ m=lv:=fun e=>h e.symm
   simp only[h,h2,decide_false,xqn,if_false]
   exact ih
theorem qAa {ν:Nat->Nat} {wl:List (Nat×List Int)}:Jz (.int .i64) (F9 ν wl):=fun e he=>by
 obtain⟨p,_,rfl⟩:=xqy.1 he
 rfl
theorem Pe {wl:List (Nat×List Int)} {lv:Nat} (h:A5 wl lv=none):∀ p∈wl,p.1≠lv:=by
 induction wl with
 | nil=>intro p hp;cases hp
 | cons q wl ih =>
  obtain⟨m,l⟩:=q
  simp only[A5]at h
  split at h
  ·cases h
  ·rename_i hne
   intro p hp
   rcases xqv.1 hp with rfl|hp
   ·exact hne
   ·exact ih h p hp
theorem qEG {lv:Nat} {k:Int}:∀ {wl:List (Nat×List Int)} {p:Nat×List Int},p∈Us lv k wl->p.1=lv\/p∈wl
 | [],p,h=>by simp[Us]at h;exact .inl (by rw[h])
 | (m,l)::wl,p,h=>by
  simp only[Us]at h
  split at h
  ·rename_i e
   rcases xqv.1 h with rfl|h
   ·exact .inl e
   ·exact .inr (xqf _ h)
  ·rcases xqv.1 h with rfl|h
   ·exact .inr xqh
   ·exact(qEG h).imp id (xqf _)
theorem q87 {lv:Nat} {k:Int}:∀ {wl:List (Nat×List Int)},(Us lv k wl).map (·.1)=if A5 wl lv=none then wl.map (·.1)++[lv]else wl.map (·.1)
 | []=>rfl
 | (m,l)::wl=>by
  have ih:=q87 (lv:=lv) (k:=k) (wl:=wl)
  simp only[Us,A5]
  split
  ·simp
  ·simp only[xqm,ih]
   split<;>simp
theorem Wa.add {lv:Nat} {k:Int} {wl:List (Nat×List Int)} (h:Wa wl) (hl:lv<999):Wa (Us lv k wl):=by
 refine⟨fun p hp=>?_,?_⟩
 ·rcases qEG hp with e|hp
  ·rw[e];exact hl
  ·exact h.lt p hp
 ·rw[q87]
  split
  ·rename_i hn
   rw[List.nodup_append]
   refine⟨h.nd,by simp,fun a ha b hb=>?_⟩
   simp at hb;subst hb
   obtain⟨p,hp,rfl⟩:=xqy.1 ha
   exact Pe hn p hp
  ·exact h.nd
theorem Re {lv t:Nat} {k:Int}:∀ {wl:List (Nat×List Int)},A5 (Us lv k wl) t=if t=lv then some ((A5 wl lv).getD []++[k])else A5 wl t
 | []=>by
  simp only[Us,A5,Option.getD_none,List.nil_append]
  by_cases h:t=lv
  ·subst h;simp
  ·have h2:¬ lv=t:=fun e=>h e.symm
   simp[h,h2]
 | (m,l)::wl=>by
  have ih:=Re (lv:=lv) (t:=t) (k:=k) (wl:=wl)
  simp only[Us]
  by_cases hm:m=lv
  ·subst hm
   simp only[if_true,A5]
   by_cases ht:t=m
   ·subst ht;simp
   ·have h2:¬ m=t:=fun e=>ht e.symm
    simp[ht,h2]
  ·simp only[if_neg hm,A5,ih]
   by_cases ht:t=lv
   ·subst ht;simp[hm]
   ·simp[ht]
theorem q1N {lv t:Nat}:∀ {wl:List (Nat×List Int)},(wl.map (·.1)).Nodup->A5 (M7 lv wl) t=if t=lv then none else A5 wl t
 | [],_=>by simp[M7,A5]
 | (m,l)::wl,h=>by
  simp only[xqm,xzj]at h
  have ih:=q1N (lv:=lv) (t:=t) h.2
  simp only[M7]
  by_cases hm:m=lv
  ·subst hm
   simp only[if_true,A5]
   by_cases ht:t=m
   ·subst ht
    rw[if_pos rfl]
    cases hl:A5 wl t with
    | none=>rfl
    | some x =>
     exfalso
     have hne:A5 wl t≠none:=by rw[hl];simp
     exact h.1 (q6S hne)
   ·have h2:¬ m=t:=fun e=>ht e.symm
    simp[ht,h2]
  ·simp only[if_neg hm,A5,ih]
   by_cases ht:t=lv
   ·subst ht;simp[hm]
   ·simp[ht]
theorem q1O {lv:Nat}:∀ {wl:List (Nat×List Int)} {p:Nat×List Int},p∈M7 lv wl->p∈wl
 | [],p,h=>h
 | (m,l)::wl,p,h=>by
  simp only[M7]at h
  split at h
  ·exact xqf _ h
  ·rcases xqv.1 h with rfl|h
   ·exact xqh
   ·exact xqf _ (q1O h)
theorem Wa.del {lv:Nat} {wl:List (Nat×List Int)} (h:Wa wl):Wa (M7 lv wl):=by
 refine⟨fun p hp=>h.lt p (q1O hp),?_⟩
 have key:∀ wl:List (Nat×List Int),List.Sublist ((M7 lv wl).map (·.1)) (wl.map (·.1)):=by
  intro wl
  induction wl with
  | nil=>exact .slnil
  | cons q wl ih =>
   obtain⟨m,l⟩:=q
   simp only[M7]
   split
   ·exact List.sublist_cons_self _ _
   ·exact ih.cons_cons _
 exact(key wl).nodup h.nd
theorem qGl {ν:Nat->Nat} {lv:Nat}:∀ {wl:List (Nat×List Int)},q6I (.int .i64 (lv:Int)) (F9 ν wl)=F9 ν (M7 lv wl)
 | []=>rfl
 | (m,l)::wl=>by
  have ih:=qGl (ν:=ν) (lv:=lv) (wl:=wl)
  simp only[F9,xqm,q6I,q86,M7]at ih ⊢
  by_cases h:lv=m
  ·subst h;simp[F9]
  ·have h2:¬ m=lv:=fun e=>h e.symm
   simp only[h,h2,decide_false,xqn,if_false,xqm,ih]
def J5 (W:WS) (u:Nat):Option (List Int):=if u=999 then some W.ch else A5 W.wl u
theorem Kv {ν:Nat->Nat} {W:WS} (hν:q85 ν) (hw:Wa W.wl) {u:Nat} (hu:u<1000):A5 (Wq ν W) (ν u)=(J5 W u).map fun l=>.sl 3 1 (Af l):=by
 have key:∀ wl:List (Nat×List Int),(∀ p∈wl,p.1<999)->A5 (wl.map fun p=>(ν p.1,B9.sl 3 1 (Af p.2))) (ν u)=(A5 wl u).map fun l=>.sl 3 1 (Af l):=by
  intro wl
  induction wl with
  | nil=>intro _;rfl
  | cons q wl ih =>
   obtain⟨m,l⟩:=q
   intro h
   simp only[xqm,A5]
   by_cases hm:m=u
   ·subst hm;simp
   ·have h2:¬ ν m=ν u:=fun e=>hm (hν.inj m u (by have:=h (m,l) xqh;simp at this;omega) hu e)
    rw[if_neg h2,if_neg hm]
    exact ih fun p hp=>h p (xqf _ hp)
 simp only[Wq,A5,J5]
 by_cases hm:u=999
 ·subst hm;simp
 ·have h2:¬ ν 999=ν u:=fun e=>hm (hν.inj 999 u (by omega) hu e).symm
  rw[if_neg h2,if_neg hm]
  exact key W.wl hw.lt
theorem Dt {ν:Nat->Nat} {W:WS} (hw:Wa W.wl) {t:Nat} (ht:∀ u,u<1000->t≠ν u):A5 (Wq ν W) t=none:=by
 have key:∀ wl:List (Nat×List Int),(∀ p∈wl,p.1<999)->A5 (wl.map fun p=>(ν p.1,B9.sl 3 1 (Af p.2))) t=none:=by
  intro wl
  induction wl with
  | nil=>intro _;rfl
  | cons q wl ih =>
   intro h
   simp only[xqm,A5]
   rw[if_neg (fun e=>ht q.1 (by have:=h q xqh;omega) e.symm)]
   exact ih fun p hp=>h p (xqf _ hp)
 simp only[Wq,A5]
 rw[if_neg (fun e=>ht 999 (by omega) e.symm)]
 exact key W.wl hw.lt
end Go.Lg
namespace Go.Lg
open Go
section
variable {P:Program} {Γ:Tables} {Q:AX->St->Prop} {s:St}
/- probecard/netlists.Copy (function 37) -/
abbrev q1P:IC:=.gh (.seq (.reg [od 25 (.bin .lss (tm 24) (tm 23))] [kp [2,3,22,23,24,25] [2,3,14007]]) (.seq (.cond (tm 25) .skip (.exit 0)) (.seq (.block 1 (.seq (.reg [om 26 24,od 27 (ia 4 22 24),od 28 (lG 4 27),od 5 (.alloc false
 [(.int .u8 0),(.slice none 0 0),(.int .i64 0),(.int .i64 0)]),om 4 26,on (.store 4 (tm 5) (tm 28))] [kp [2,3,4,5,22,23,24] [2,3,5,14007]]) (.reg [od 29 (fa 0 3),od 30 (.ldR 3 1 false (tm 29)),om 31 4,od 32 (fa 1
 5),od 33 (.ldR 5 1 false (tm 32)),od 34 (.callT 101 [(tm 33)]),od 35 (ia 4 30 31),od 36 (fa 1 35),on (.stR 14007 1 (tm 36) (tm 34))] [kp [2,3,22,23,24] [2,3,14007]]))) (.reg [od 37 (.bin .add (tm 24) (ki 1)),om 24 37]
 [kp [2,3,22,23,24] [2,3,14007]])))) [kp [2,3,22,23,24] [2,3,14007]]
def O4:IC:=.loop q1P
abbrev q1Q:IC:=.gh (.seq (.reg [od 42 (.bin .lss (tm 41) (tm 40))] [kp [2,3,39,40,41,42] [2,3,14007]]) (.seq (.cond (tm 42) .skip (.exit 2)) (.seq (.block 3 (.seq (.reg [om 43 41,od 44 (ia 3 39 41),od 45 (lG 3 44),od 7 (.alloc false
 [(.slice none 0 0),(.slice none 0 0),(.int .i64 0)]),om 6 43,on (.store 3 (tm 7) (tm 45))] [kp [2,3,6,7,39,40,41] [2,3,7,14007]]) (.reg [od 46 (fa 2 3),od 47 (.ldR 3 1 false (tm 46)),om 48 6,od 49 (fa 2 3),od 50
 (.ldR 3 1 false (tm 49)),om 51 6,od 52 (fa 0 7),od 53 (.ldR 7 1 false (tm 52)),od 54 (.callT 101 [(tm 53)]),od 55 (fa 1 7),od 56 (.ldR 7 1 false (tm 55)),od 57 (.callT 101 [(tm 56)]),od 58 (ia 3 47 48),od 59 (fa 0 58),on
 (.stR 14007 1 (tm 59) (tm 54)),od 60 (ia 3 50 51),od 61 (fa 1 60),on (.stR 14007 1 (tm 61) (tm 57))] [kp [2,3,39,40,41] [2,3,14007]]))) (.reg [od 62 (.bin .add (tm 41) (ki 1)),om 41 62] [kp [2,3,39,40,41] [2,3,
 14007]])))) [kp [2,3,39,40,41] [2,3,14007]]
def Ut:IC:=.loop q1Q
abbrev q1R:IC:=(.seq (.reg [od 1 (.box true (tm 0)),od 2 (.alloc false [(.slice none 0 0),(.slice none 0 0),(.slice none 0 0),(.slice none 0 0)])] [kp [1,2] [2,14007]]) (.seq (.reg [od 8 (fa 0 1),od 9 (.ldT 1 false (tm 8)),od 10 (.ncall
 98 [(tm 9)] 10000),od 11 (fa 1 1),od 12 (.ldT 1 false (tm 11)),od 13 (.callT 99 [(tm 12)]),od 14 (fa 2 1),od 15 (.ldT 1 false (tm 14)),od 16 (.callT 100 [(tm 15)]),od 17 (fa 3 1),od 18 (.ldT 1 false (tm 17)),od 19 (.callT
 101 [(tm 18)]),od 20 (.build [(1,(tm 10)),(1,(tm 13)),(1,(tm 16)),(1,(tm 19))]),od 3 (.alloc false [(.slice none 0 0),(.slice none 0 0),(.slice none 0 0),(.slice none 0 0)]),on (.stR 3 4 (tm 3) (tm 20))] [kp [2,3] [2,
 3,14007]]) (.seq (.seq (.reg [od 21 (fa 0 3),od 22 (ld 1 21),od 23 (le 0 22),od 24 (.mv (ki 0))] [kp [2,3,22,23,24] [2,3,14007]]) (.gh (.block 0 O4) [.frz 14007])) (.seq (.seq (.reg [od 38 (fa 2 3),od 39
 (ld 1 38),od 40 (le 0 39),od 41 (.mv (ki 0))] [kp [2,3,39,40,41] [2,3,14007]]) (.block 2 Ut)) (.seq (.reg [od 63 (lG 4 3),on (.store 4 (tm 2) (tm 63))] [kp [2] [2,14007]]) .ret)))))
theorem Wb (h:∀ K:St->Prop,K=run P Γ O4 Q->run P Γ q1P (Aw K Q) s):run P Γ O4 Q s:=Ah h
theorem q4A (h:∀ K:St->Prop,K=run P Γ Ut Q->run P Γ q1Q (Aw K Q) s):run P Γ Ut Q s:=Ah h
def q1S:List RV:=[.cell 2 4 true]
/- probecard/netlists.copied[probecard/api.Node] (function 98) -/
abbrev Lu:IC:=(.seq (.reg [od 2 (.mv kN)] [kp [0] []]) (.seq (.reg [om 3 0,od 4 (.hcall 154 [(tm 3)] [] 4000),od 5 (.hcall 90 [(tm 4)] [4007] 5000),om 2 5] [kp [2] [4007]]) .ret))
def Lx:List RV:=[.tmp 2]
/- probecard/netlists.copied[string] (function 99) -/
abbrev Ol:IC:=(.seq (.reg [od 2 (.mv kN)] [kp [0] []]) (.seq (.reg [om 3 0,od 4 (.call 155 [(tm 3)]),od 5 (.call 91 [(tm 4)]),om 2 5] [kp [2] []]) .ret))
def Om:List RV:=[.tmp 2]
/- probecard/netlists.copied[probecard/api.Memory] (function 100) -/
abbrev Jc:IC:=(.seq (.reg [od 2 (.mv kN)] [kp [0] []]) (.seq (.reg [om 3 0,od 4 (.call 157 [(tm 3)]),od 5 (.call 156 [(tm 4)]),om 2 5] [kp [2] []]) .ret))
def Jd:List RV:=[.tmp 2]
/- probecard/netlists.copied[int] (function 101) -/
abbrev Td:IC:=(.seq (.reg [od 2 (.mv kN)] [kp [0] []]) (.seq (.reg [om 3 0,od 4 (.call 158 [(tm 3)]),od 5 (.call 49 [(tm 4)]),om 2 5] [kp [2] []]) .ret))
def Gp:List RV:=[.tmp 2]
/- slices.Clone[[]probecard/api.Node,probecard/api.Node] (function 154) -/
abbrev Ic:IC:=(.seq (.reg [od 2 (.mv kN)] [kp [0] []]) (.seq (.seq (.reg [om 3 0,od 4 (.isNil true (tm 3))] [kp [0,4] []]) (.cond (tm 4) (.seq (.reg [od 2 (.mv kN)] [kp [2] [7]]) .ret) .skip)) (.seq (.reg [od 5 (.bsl true 50 4 []),om 6 0,od
 7 (.app false 50 4 (tm 5) (tm 6)),om 2 7] [kp [2] [7]]) .ret)))
def Ie:List RV:=[.tmp 2]
/- slices.Clone[[]string,string] (function 155) -/
abbrev Jv:IC:=(.seq (.reg [od 2 (.mv kN)] [kp [0] []]) (.seq (.seq (.reg [om 3 0,od 4 (.isNil true (tm 3))] [kp [0,4] []]) (.cond (tm 4) (.seq (.reg [od 2 (.mv kN)] [kp [2] []]) .ret) .skip)) (.seq (.reg [od 5 (.bsl true 9 1 []),om 6 0,od 7
 (.appT 9 1 (tm 5) (tm 6)),om 2 7] [kp [2] []]) .ret)))
def Jw:List RV:=[.tmp 2]
/- slices.Clone[[]probecard/api.Memory,probecard/api.Memory] (function 157) -/
abbrev Nc:IC:=(.seq (.reg [od 2 (.mv kN)] [kp [0] []]) (.seq (.seq (.reg [om 3 0,od 4 (.isNil true (tm 3))] [kp [0,4] []]) (.cond (tm 4) (.seq (.reg [od 2 (.mv kN)] [kp [2] []]) .ret) .skip)) (.seq (.reg [od 5 (.bsl true 102 3 []),om 6 0,od
 7 (.appT 102 3 (tm 5) (tm 6)),om 2 7] [kp [2] []]) .ret)))
def Nh:List RV:=[.tmp 2]
/- slices.Clip[[]probecard/api.Node,probecard/api.Node] (function 90) -/
abbrev Rf:IC:=(.seq (.reg [od 2 (.mv kN)] [kp [0] [1000000]]) (.seq (.reg [om 3 0,om 4 0,od 5 (le 0 4),om 6 0,od 7 (le 0 6),od 8 (.slice 4 (tm 3) none (some (tm 5)) (some (tm 7))),om 2 8] [kp [2] [1000000]]) .ret))
def Rh:List RV:=[.tmp 2]
/- slices.Clip[[]string,string] (function 91) -/
abbrev U8:IC:=(.seq (.reg [od 2 (.mv kN)] [kp [0] []]) (.seq (.reg [om 3 0,om 4 0,od 5 (le 0 4),om 6 0,od 7 (le 0 6),od 8 (.slice 1 (tm 3) none (some (tm 5)) (some (tm 7))),om 2 8] [kp [2] []]) .ret))
def U9:List RV:=[.tmp 2]
/- slices.Clip[[]probecard/api.Memory,probecard/api.Memory] (function 156) -/
abbrev On:IC:=(.seq (.reg [od 2 (.mv kN)] [kp [0] []]) (.seq (.reg [om 3 0,om 4 0,od 5 (le 0 4),om 6 0,od 7 (le 0 6),od 8 (.slice 3 (tm 3) none (some (tm 5)) (some (tm 7))),om 2 8] [kp [2] []]) .ret))
def Oo:List RV:=[.tmp 2]
/- strconv.Itoa (function 152) -/
end
end Go.Lg
namespace Go.Lg
open Go Go.Proofs
theorem q71:Ba Tryz.prog 37 q1R 64 1 q1S=true:=by kernel_rfl
theorem X1:Ba Tryz.prog 98 Lu 6 1 Lx=true:=by kernel_rfl
theorem Zn:Ba Tryz.prog 99 Ol 6 1 Om=true:=by kernel_rfl
theorem Uu:Ba Tryz.prog 100 Jc 6 1 Jd=true:=by kernel_rfl
theorem q1T:Ba Tryz.prog 101 Td 6 1 Gp=true:=by kernel_rfl
theorem Zy:Ba Tryz.prog 154 Ic 8 1 Ie=true:=by kernel_rfl
theorem q1U:Ba Tryz.prog 155 Jv 8 1 Jw=true:=by kernel_rfl
theorem Y9:Ba Tryz.prog 157 Nc 8 1 Nh=true:=by kernel_rfl
theorem q0i:Ba Tryz.prog 90 Rf 9 1 Rh=true:=by kernel_rfl
theorem q2O:Ba Tryz.prog 91 U8 9 1 U9=true:=by kernel_rfl
theorem Zo:Ba Tryz.prog 156 On 9 1 Oo=true:=by kernel_rfl
end Go.Lg
namespace Go.Lg
open Go Go.Proofs
variable {Γ:Tables}
abbrev Pnt:=Int×Int
def qJD (l:List (Int×Pnt)) (n:Int):Pnt:=match l.find? (fun p=>p.1==n) with|some p=>p.2|none=>(0,0)
def qLt (l:List (Int×Pnt)):Prop:=∀ p∈l,-1000000<=p.2.1/\p.2.1<=1000000 /\ -1000000<=p.2.2/\p.2.2<=1000000
theorem qLt.at {l:List (Int×Pnt)} (h:qLt l) (n:Int) : -1000000<=(qJD l n).1/\(qJD l n).1<=1000000 /\ -1000000<=(qJD l n).2/\(qJD l n).2<=1000000:=by
 unfold qJD
 split
 ·rename_i p hp
  exact h p (List.mem_of_find?_eq_some hp)
 ·simp
def qAb {α:Type} (s:Sl α):Prop:=(s.nl=some true->s.l=[])/\(s.nl=none->s.l≠[])/\s.l.length<=1000000
def cpS (s:Sl Int):Sl Int:=⟨s.l,some s.l.length,if s.nl=some true then some true else none⟩
theorem qEH (s:Sl Int) (hs:qAb s):A8 Tryz.prog Γ 158 [As s] (if s.nl=some true then .sl [] (some 0) (some true)else .sl (Af s.l) none none):=by
 refine Ae q3S rfl ?_
 obtain⟨l,cap,nl⟩:=s
 obtain⟨h1,h2,h3⟩:=hs
 simp only at h1 h2 h3
 rcases nl with _|_|_
 ·have h4:Af l≠[]:=by simpa[Au]using h2 rfl
  simp(disch:=omega) [Il,Im,A9,A6,h4,By,As]
  omega
 ·simp(disch:=omega) [Il,Im,A9,A6,By,As]
  omega
 ·have:=h1 rfl
  subst this
  simp[Il,Im,As]
theorem q2g (s:Sl Int) (hs:qAb s):Az Tryz.prog Γ 101 [As s] (As (cpS s)):=by
 refine Bz q1T rfl ?_
 have e1:=qEH (Γ:=Γ) s hs
 obtain⟨l,cap,nl⟩:=s
 obtain⟨h1,h2,h3⟩:=hs
 simp only at h1 h2 h3
 simp only at e1
 simp[Td,As]
 refine A4 e1 rfl ?_
 rcases nl with _|_|_
 ·simp
  refine Aq (qA1 (Af l) none none A9) rfl ?_
  simp[Gp,cpS,A6]
 ·simp
  refine Aq (qA1 (Af l) none none A9) rfl ?_
  simp[Gp,cpS,A6]
 ·have:=h1 rfl
  subst this
  simp
  refine Aq (qA1 [] (some 0) (some true) (by simp)) rfl ?_
  simp[Gp,cpS,A6,Gy]
theorem q72 (l:List (List UInt8)) (cap:Option Nat) (nl:Option Bool) (hq:nl≠some true) (h:l≠[]) (hl:l.length<=1000000):Az Tryz.prog Γ 99 [.sl (Au tS l) cap nl] (.sl (Au tS l) (some l.length) none):=by
 refine Bz Zn rfl ?_
 have h4:Au tS l≠[]:=by simpa[Au]using h
 have e1:Az Tryz.prog Γ 155 [.sl (Au tS l) cap nl] (.sl (Au tS l) none none):=by
  refine Bz q1U rfl ?_
  rcases nl with _|_|_
  ·simp(disch:=omega) [Jv,Jw,A9,A6,h4,By]
   omega
  ·simp(disch:=omega) [Jv,Jw,A9,A6,h4,By]
   omega
  ·exact absurd rfl hq
 have e2:Az Tryz.prog Γ 91 [.sl (Au tS l) none none] (.sl (Au tS l) (some l.length) none):=by
  refine Bz q2O rfl ?_
  simp[U8,U9,A9,A6]
 simp[Ol]
 refine Aq e1 rfl ?_
 simp
 refine Aq e2 rfl ?_
 simp[Om]
theorem q9B:Az Tryz.prog Γ 100 [.sl [] (some 0) (some true)] (.sl [] (some 0) (some true)):=by
 refine Bz Uu rfl ?_
 have e1:Az Tryz.prog Γ 157 [.sl [] (some 0) (some true)] (.sl [] (some 0) (some true)):=by
  refine Bz Y9 rfl ?_
  simp[Nc,Nh]
 have e2:Az Tryz.prog Γ 156 [.sl [] (some 0) (some true)] (.sl [] (some 0) (some true)):=by
  refine Bz Zo rfl ?_
  simp[On,Oo]
 simp[Jc]
 refine Aq e1 rfl ?_
 simp
 refine Aq e2 rfl ?_
 simp[Jd]
theorem qAc (l:List Nd) (cap:Option Nat) (nl:Option Bool) (hq:nl≠some true) (h:l≠[]) (hl:l.length<=1000000):Bm Tryz.prog Γ 98 [] [.t (.sl (Bc Dl l) cap nl)] (.ls 4007 0 l.length (some l.length)) [(4007,.sl 50 4 (Bc Dl l))]:=by
 refine Ee X1 rfl ?_
 have h4:Bc Dl l≠[]:=by simpa[Bc]using h
 have e1:Bm Tryz.prog Γ 154 [] [.t (.sl (Bc Dl l) cap nl)] (.ls 7 0 l.length none) [(7,.sl 50 4 (Bc Dl l))]:=by
  refine Ee Zy rfl ?_
  rcases nl with _|_|_
  ·simp(disch:=omega) [Ic,Ie,Bq,Ab,h4,By]
   omega
  ·simp(disch:=omega) [Ic,Ie,Bq,Ab,h4,By]
   omega
  ·exact absurd rfl hq
 have e2:Bm Tryz.prog Γ 90 [(1000000,.sl 50 4 (Bc Dl l))] [.ls 1000000 0 l.length none] (.ls 1000000 0 l.length (some l.length)) [(1000000,.sl 50 4 (Bc Dl l))]:=by
  refine Ee q0i rfl ?_
  simp[Rf,Rh,Bq,Ab]
 simp[Lu]
 refine⟨_,_,e1,?_⟩
 simp
 refine⟨_,_,e2,?_⟩
 simp[Lx]
theorem q0M {f:FuncId} {as':List AV} {ts:List T} {res:T} {K:T->Prop} (h:Az Tryz.prog Γ f ts res) (ht:Ak (as'.map toT)=some ts) (hk:K res):qCi Tryz.prog Γ f as' K ⟨⟩:=⟨ts,res,ht,.inl h,hk⟩
theorem qJE {α:Type} {f:α->List T} {l:List α} {n:Nat} {x:α}:(Bc f l).set n (f x)=Bc f (l.set n x):=by simp[Bc,List.map_set]
theorem gN {l:List Nd} {i:Nat} (h:i<l.length):(Bc Dl l)[i]?.getD []=Dl (l.getD i Nd.d):=by
 rw[Es Nd.d h];rfl
def q2P (x:Nd):Nd:=⟨x.k,cpS x.inn,x.mem,x.bit⟩
def cpL:Nat->Nat->List Nd->List Nd
 | 0,_,L=>L
 | k+1,i,L=>cpL k (i+1) (L.set i (q2P (L.getD i Nd.d)))
theorem qJF:∀ (k i:Nat) (L:List Nd),i+k=L.length->cpL k i L=L.take i++(L.drop i).map q2P
 | 0,i,L,h=>by rw[xq2 (by omega),xqw (by omega)];simp[cpL]
 | k+1,i,L,h=>by
  have hi:i<L.length:=by omega
  simp only[cpL]
  rw[qJF k (i+1) _ (by simp;omega),xqq hi]
  have e:L.getD i Nd.d=L[i]:=by simp[xqe,hi]
  rw[e]
  have h1:(L.set i (q2P L[i])).take (i+1)=L.take i++[q2P L[i]]:=by
   rw[xz7,List.take_set_of_le (xzo i)]
   simp[hi]
  rw[h1,List.drop_set_of_lt (by omega),xqm,List.append_assoc]
  rfl
def cpH (n:Nat) (nm mm oo:T) (L:List Nd):List (Nat×B9) :=
 [(2,.bx [.t (.sl [] (some 0) (some true)),.t (.sl [] (some 0) (some true)),.t (.sl [] (some 0) (some true)),.t (.sl [] (some 0) (some true))]),(3,.bx [.ls 14007 0 n (some n),.t nm,.t mm,.t oo]),(14007,.sl 50 4 (Bc Dl L))]
theorem qCE {Q:AX->St->Prop} (n:Nat) (hn:n<=1000000) (nm mm oo:T) (R:List Nd)
  (h0:Q (.exit 0) ⟨[(2,.lp 2 0 0),(3,.lp 3 0 0),(22,.ls 14007 0 n (some n)),(23,.t (tI n)),(24,.t (tI n)),(25,.t (tB false))],cpH n nm mm oo R⟩) :
  ∀ (k i:Nat) (L:List Nd),k+i=n->L.length=n->(∀ j,i<=j->j<n->qAb (L.getD j Nd.d).inn)->cpL k i L=R ->
  run Tryz.prog Γ O4 Q ⟨[(2,.lp 2 0 0),(3,.lp 3 0 0),(22,.ls 14007 0 n (some n)),(23,.t (tI n)),(24,.t (tI i))],cpH n nm mm oo L⟩
 | 0,i,L,h,hl,hs,hR=>by
  refine Wb fun K hK=>?_
  have h3:i=n:=by omega
  subst h3
  simp only[cpL]at hR
  subst hR
  simp[cpH]
  simpa[cpH]using h0
 | k+1,i,L,h,hl,hs,hR=>by
  refine Wb fun K hK=>?_
  have h2:i<n:=by omega
  have hi:i<L.length:=by omega
  simp only[cpL]at hR
  have e:=gN hi
  have hx:qAb (L.getD i Nd.d).inn:=hs i (xzo i) h2
  have e1:=q2g (Γ:=Γ) _ hx
  have ih:=qCE n hn nm mm oo R h0 k (i+1) (L.set i (q2P (L.getD i Nd.d))) (by omega) (by simp[hl]) (fun j hj hjn=>by
   have:(L.set i (q2P (L.getD i Nd.d))).getD j Nd.d=L.getD j Nd.d:=by
    rw[xqe,xzb,if_neg (by omega),<- xqe]
   rw[this]
   exact hs j (by omega) hjn) hR
  generalize L.getD i Nd.d=x at *
  have e':∀ h:i<(Bc Dl L).length,(Bc Dl L)[i]=Dl x:=fun h=>by rw[<- e];simp[hi,Ab]
  have hset:(Bc Dl L).set i [tK x.k,As (cpS x.inn),tI x.mem,tI x.bit]=Bc Dl (L.set i (q2P x)):=qJE (f:=Dl) (x:=q2P x)
  simp only[As]at e1 hset
  simp(disch:=omega) [cpH,h2,Ab,Bq,e,e',hl,A7,Dl,As]
  refine q0M e1 rfl ?_
  simp(disch:=omega) [cpH,h2,hi,Ab,Bq,e,e',hl,A7,Dl,As,hset]
  rw[hK]
  simpa[cpH]using ih
def Ri (c:Bi):Bi:=⟨⟨c.nodes.l.map q2P,some c.nodes.l.length,none⟩,⟨c.names.l,some c.names.l.length,none⟩,⟨[],some 0,some true⟩,cpS c.outs⟩
structure qHs (c:Bi):Prop where
 n0:c.nodes.l≠[]
 n1:c.nodes.l.length<=1000000
 nn:c.nodes.nl≠some true
 m0:c.names.l≠[]
 m1:c.names.l.length<=1000000
 mn:c.names.nl≠some true
 mems:c.mems=⟨[],some 0,some true⟩
 inn:∀ x∈c.nodes.l,qAb x.inn
 outs:qAb c.outs
theorem qHt (c:Bi) (hc:qHs c):Az Tryz.prog Γ 37 [.agg (tC c)] (.agg (tC (Ri c))):=by
 refine Bz q71 rfl ?_
 have e1:=qAc (Γ:=Γ) c.nodes.l c.nodes.cap c.nodes.nl hc.nn hc.n0 hc.n1
 have e2:=q72 (Γ:=Γ) c.names.l c.names.cap c.names.nl hc.mn hc.m0 hc.m1
 have e3:=q9B (Γ:=Γ)
 have e4:=q2g (Γ:=Γ) c.outs hc.outs
 have hcp:cpL c.nodes.l.length 0 c.nodes.l=c.nodes.l.map q2P:=by rw[qJF _ _ _ (by omega)];simp
 have hn1:=hc.n1
 have g1:=fun Q nm mm oo h0=>qCE (Γ:=Γ) (Q:=Q) c.nodes.l.length hc.n1 nm mm oo _ h0 c.nodes.l.length 0 c.nodes.l (by omega) rfl (fun j _ hj=>hc.inn _ (by rw[xqe,xqg hj];exact xqj hj)) hcp
 have hml:(Bc Dl (c.nodes.l.map q2P)).take c.nodes.l.length=Bc Dl (c.nodes.l.map q2P):=xqw (by simp[Bc])
 simp[q1R,tC,Aa,Ad,Ag,As,hc.mems]
 refine⟨_,_,e1,?_⟩
 simp
 refine q0M e2 rfl ?_
 simp
 refine q0M e3 rfl ?_
 simp
 simp[As]at e4
 refine q0M e4 rfl ?_
 simp
 simp[cpH]at g1
 refine g1 _ _ _ _ ?_
 simp[St.freeze,B9.closed,Cb,frz1,frz0,Ei,del,Ai,hml]
 refine q4A fun K hK=>?_
 simp[q1S,Ri,Ab,Gy,show Bc tMm []=[] from rfl]
end Go.Lg
namespace Go.Lg
open Go Go.Proofs
structure NG (B:Bool) (ns:List Nd) (i:Nat) (x:Nd):Prop where
 k:0<=x.k/\x.k<=15
 f:(Oy x.k).1<=x.inn.l.length/\(x.inn.l.length:Int)<=(Oy x.k).2
 inn:∀ p∈x.inn.l,0<=p/\p<ns.length
 top:1<=x.k/\x.k<=13->∀ p∈x.inn.l,p<i
 bus:x.k=13->∀ p∈x.inn.l,(ns.getD p.toNat Nd.d).k=12
 mm:(x.k≠15->x.mem=0/\x.bit=0)/\(x.k=15->B=true/\x.mem=0/\0<=x.bit/\x.bit<=1)
theorem NG.mono {B:Bool} {ns ys:List Nd} {i:Nat} {x:Nd} (h:NG B ns i x):NG B (ns++ys) i x :=
 ⟨h.k,h.f,fun p hp=>by have:=h.inn p hp;simp;omega,h.top,fun hk p hp=>by
  have h1:=h.inn p hp
  rw[xqe,xzd (by omega),<- xqe]
  exact h.bus hk p hp,h.mm⟩
def GNs (B:Bool) (ns:List Nd):Prop:=∀ i (h:i<ns.length),NG B ns i ns[i]
theorem GNs.add {B:Bool} {ns:List Nd} {y:Nd} (h:GNs B ns) (hy:NG B (ns++[y]) ns.length y):GNs B (ns++[y]):=by
 intro i hi
 by_cases h1:i<ns.length
 ·rw[List.getElem_append_left h1];exact(h i h1).mono
 ·have:i=ns.length:=by simp at hi;omega
  subst this
  simpa using hy
theorem Uw:Oy 0=(0,0)/\Oy 1=(0,0)/\Oy 2=(0,0)/\Oy 3=(1,1)/\Oy 4=(1,1)/\Oy 5=(2,16)/\Oy 6=(2,16)/\Oy 7=(2,16)/\Oy 8=(2,16)/\Oy 9=(2,16)/\Oy 10=(2,16)/\Oy 11=(3,3)/\Oy 12=(2,2)/\Oy 13=(1,16)/\Oy 14=(1,1)/\Oy 15=(0,0):=by decide
theorem qNS {B:Bool} {ns:List Nd} {i:Nat}:NG B ns i q92:=⟨by decide,by decide,by simp[q92],by simp[q92],by simp[q92],by simp[q92]⟩
theorem qNT {B:Bool} {ns:List Nd} {i:Nat} {v:Int} (h:0<=v/\v<ns.length):NG B ns i (q80 v):=⟨by simp[q80],by simp[q80,Uw],by simp[q80];exact h,by simp[q80],by simp[q80],by simp[q80]⟩
theorem qJG {ns:List Nd} {i:Nat} {b:Int} (h:b=0\/b=1):NG true ns i (q5z b):=⟨by simp[q5z],by simp[q5z,Uw],by simp[q5z],by simp[q5z],by simp[q5z],by simp[q5z];omega⟩
theorem qNU {ns:List Nd}:∀ p∈q5y ns,0<=p/\p<ns.length/\(ns.getD p.toNat Nd.d).k=12:=by
 intro p hp
 obtain⟨h1,h2,h3⟩:=q6g [12] ns 0 p hp
 refine⟨by omega,by omega,?_⟩
 simpa using h3
theorem qGm {l:List Int} {q:Nat} (h:q<l.length):l.getD q 0∈l:=by
 rw[xqe,xqg h];exact xqj h
theorem qL6 {B bus:Bool} {g:Gd} {ns:List Nd} (hg:qCm g) (h0:1<=ns.length):NG B (ns++[q3b bus g ns]) ns.length (q3b bus g ns):=by
 have a:=Dm (n:=ns.length) hg.2.1.1 (by omega)
 have b:=Dm (n:=ns.length) hg.2.2.1.1 (by omega)
 have d:=Dm (n:=ns.length) hg.2.2.2.1 (by omega)
 have m13:0<=g.k.tmod 13/\g.k.tmod 13<13:=Dm (n:=13) hg.1.1 (by omega)
 have m9:0<=g.k.tmod 9/\g.k.tmod 9<9:=Dm (n:=9) hg.1.1 (by omega)
 have ma:0<=g.a.tmod 2/\g.a.tmod 2<2:=Dm (n:=2) hg.2.1.1 (by omega)
 have hkk:0<=(if bus then g.k.tmod 13 else g.k.tmod 9)/\(if bus then g.k.tmod 13 else g.k.tmod 9)<13:=by cases bus<;>simp<;>omega
 have ht:=qNU (ns:=ns)
 obtain⟨y,hy⟩:∃ y,y=q3b bus g ns:=⟨_,rfl⟩
 rw[<- hy]
 have hlen:(ns++[y]).length=ns.length+1:=by simp
 have old:∀ p:Int,0<=p->p<ns.length->((ns++[y]).getD p.toNat Nd.d).k=(ns.getD p.toNat Nd.d).k:=fun p h1 h2=>by
  rw[xqe,xzd (by omega),<- xqe]
 -- what suffices of a plain gate
 have mk:∀ (k:Int) (l:List Int) (cap:Option Nat) (nl:Option Bool),0<=k->k<=15->k≠13->k≠15->(Oy k).1<=l.length->(l.length:Int)<=(Oy k).2->(∀ p∈l,0<=p/\p<ns.length)->NG B (ns++[y]) ns.length ⟨k,⟨l,cap,nl⟩,0,0⟩:=fun k l cap nl h1 h2 h3 h4 h5 h6 h7 =>
  ⟨⟨h1,h2⟩,⟨h5,h6⟩,fun p hp=>by have:=h7 p hp;omega,fun _ p hp=>(h7 p hp).2,fun e=>absurd e h3,fun _=>⟨rfl,rfl⟩,fun e=>absurd e h4⟩
 unfold q3b qC1 at hy
 simp only at hy
 generalize g.a.tmod ns.length=a' at *
 generalize g.b.tmod ns.length=b' at *
 generalize g.d.tmod ns.length=d' at *
 generalize (if bus=true then g.k.tmod 13 else g.k.tmod 9)=kk at *
 have two:∀ p∈[a',b'],0<=p/\p<ns.length:=by intro p hp;simp at hp;rcases hp with rfl|rfl;exact a;exact b
 have three:∀ p∈[a',b',d'],0<=p/\p<ns.length:=by intro p hp;simp at hp;rcases hp with rfl|rfl|rfl;exact a;exact b;exact d
 have one:∀ p∈[a'],0<=p/\p<ns.length:=by intro p hp;simp at hp;rcases hp with rfl;exact a
 split at hy
 ·rename_i h6
  have hc:kk=0\/kk=1\/kk=2\/kk=3\/kk=4\/kk=5:=by omega
  split at hy
  ·rw[hy]
   have hf:(Oy (5+kk)).1=2/\(Oy (5+kk)).2=16:=by rcases hc with rfl|rfl|rfl|rfl|rfl|rfl<;>decide
   rw[<- hy]
   have:=mk (5+kk) [a',b',d'] none none (by omega) (by omega) (by omega) (by omega) (by rw[hf.1];simp) (by rw[hf.2];simp) three
   rw[<- hy]at this;exact this
  ·have hf:(Oy (5+kk)).1=2/\(Oy (5+kk)).2=16:=by rcases hc with rfl|rfl|rfl|rfl|rfl|rfl<;>decide
   have:=mk (5+kk) [a',b'] none none (by omega) (by omega) (by omega) (by omega) (by rw[hf.1];simp) (by rw[hf.2];simp) two
   rw[<- hy]at this;exact this
 split at hy
 ·have:=mk 4 [a'] none none (by omega) (by omega) (by omega) (by omega) (by simp[Uw]) (by simp[Uw]) one
  rw[<- hy]at this;exact this
 split at hy
 ·have:=mk 11 [a',b',d'] none none (by omega) (by omega) (by omega) (by omega) (by simp[Uw]) (by simp[Uw]) three
  rw[<- hy]at this;exact this
 split at hy
 ·have:=mk 12 [a',b'] none none (by omega) (by omega) (by omega) (by omega) (by simp[Uw]) (by simp[Uw]) two
  rw[<- hy]at this;exact this
 split at hy
 ·rename_i ht2
  generalize q5y ns=t at *
  have mt:=Dm (n:=t.length) hg.2.1.1 ht2.2
  have mt2:=Dm (a:=g.a.tmod t.length+1) (n:=t.length) (by omega) ht2.2
  have q1:=ht _ (qGm (l:=t) (q:=(g.a.tmod t.length).toNat) (by omega))
  have q2:=ht _ (qGm (l:=t) (q:=((g.a.tmod t.length+1).tmod t.length).toNat) (by omega))
  generalize t.getD (g.a.tmod t.length).toNat 0=u1 at *
  generalize t.getD ((g.a.tmod t.length+1).tmod t.length).toNat 0=u2 at *
  have mkb:∀ (l:List Int) (cap:Option Nat) (nl:Option Bool),1<=l.length->l.length<=16->(∀ p∈l,0<=p/\p<ns.length/\(ns.getD p.toNat Nd.d).k=12)->NG B (ns++[y]) ns.length ⟨13,⟨l,cap,nl⟩,0,0⟩:=fun l cap nl h5 h6 h7 =>
   ⟨by simp,⟨by simp[Uw];omega,by simp[Uw];omega⟩,fun p hp=>by have:=h7 p hp;omega,fun _ p hp=>(h7 p hp).2.1,fun _ p hp=>by rw[old p (h7 p hp).1 (h7 p hp).2.1];exact(h7 p hp).2.2,fun _=>⟨rfl,rfl⟩,fun e=>by simp at e⟩
  split at hy
  ·have:=mkb [u1,u2] none none (by simp) (by simp) (by intro p hp;simp at hp;rcases hp with rfl|rfl;exact q1;exact q2)
   rw[<- hy]at this;exact this
  ·have:=mkb [u1] none none (by simp) (by simp) (by intro p hp;simp at hp;rcases hp with rfl;exact q1)
   rw[<- hy]at this;exact this
 split at hy
 ·have hc:g.a.tmod 2=0\/g.a.tmod 2=1:=by omega
  have hf:(Oy (1+g.a.tmod 2)).1=0/\(Oy (1+g.a.tmod 2)).2=0:=by rcases hc with e|e<;>rw[e]<;>decide
  have:=mk (1+g.a.tmod 2) [] (some 0) (some true) (by omega) (by omega) (by omega) (by omega) (by rw[hf.1];simp) (by rw[hf.2];simp) (by simp)
  rw[<- hy]at this;exact this
 ·have:=mk 3 [a'] none none (by omega) (by omega) (by omega) (by omega) (by simp[Uw]) (by simp[Uw]) one
  rw[<- hy]at this;exact this
theorem qCF {B bus:Bool}:∀ {l:List Gd} {ns:List Nd},(∀ g∈l,qCm g)->1<=ns.length->GNs B ns->GNs B (Qa bus l ns)
 | [],ns,_,_,h=>h
 | g::l,ns,hg,h0,h=>by
  simp only[Qa]
  exact qCF (fun y hy=>hg y (xqf _ hy)) (by simp) (h.add (qL6 (hg g xqh) h0))
theorem qL7 {B:Bool} {ns:List Nd} {j:Nat} {v:Int} (h:GNs B ns) (hj:j<ns.length) (hk:ns[j].k=14) (hv:0<=v/\v<ns.length):GNs B (Xd ns j v):=by
 have hm:=(h j hj).mm.1 (by rw[hk];decide)
 have hgd:ns.getD j Nd.d=ns[j]:=by simp[xqe,hj]
 have kinds:∀ q:Nat,((Xd ns j v).getD q Nd.d).k=(ns.getD q Nd.d).k:=fun q=>by
  unfold Xd
  simp only[xqe,xzb]
  split
  ·rename_i e;subst e;simp[hj]
  ·rfl
 intro i hi
 have hi':i<ns.length:=by rw[Qr]at hi;exact hi
 by_cases hij:i=j
 ·subst hij
  have:(Xd ns i v)[i]=⟨14,⟨[v],some 1,some false⟩,0,0⟩:=by
   simp only[Xd,hgd,hk,hm.1,hm.2,List.getElem_set_self]
  rw[this]
  exact⟨by simp,by simp[Uw],by simp[Qr];exact hv,by simp,by simp,by simp⟩
 ·have:(Xd ns j v)[i]=ns[i]:=by
   simp only[Xd]
   rw[List.getElem_set_ne (fun e=>hij e.symm)]
  rw[this]
  have hn:=h i hi'
  exact⟨hn.k,hn.f,fun p hp=>by rw[Qr];exact hn.inn p hp,hn.top,fun hk p hp=>by rw[kinds];exact hn.bus hk p hp,hn.mm⟩
theorem qFY {ns:List Nd} {j q:Nat} {v:Int}:((Xd ns j v).getD q Nd.d).k=(ns.getD q Nd.d).k:=by
 unfold Xd
 simp only[xqe,xzb]
 split
 ·rename_i e;subst e
  split
  ·simp
  ·rename_i h;simp[List.getElem?_eq_none (Nat.le_of_not_lt h)]
 ·rfl
theorem qEI {B:Bool} {x:CD} {first:Nat} (h0:Byt x.d0) (h1:Byt x.d1):∀ {k i:Nat} {ns:List Nd},GNs B ns->(∀ q,q<i+k->first+q<ns.length/\(ns.getD (first+q) Nd.d).k=14)->GNs B (q17 x first k i ns)
 | 0,_,_,h,_=>h
 | k+1,i,ns,h,hq=>by
  simp only[q17]
  obtain⟨hl,hk⟩:=hq i (by omega)
  have hd:0<=ddN x i:=by unfold ddN;split;exact h0.1;exact h1.1
  have hv:=Dm (n:=ns.length) hd (by omega)
  refine qEI h0 h1 (qL7 h hl (by simpa[xqe,hl]using hk) hv) fun q hq'=>?_
  rw[Qr,qFY]
  exact hq q (by omega)
theorem q8o {bus:Bool}:∀ {l:List Gd} {ns:List Nd} {q:Nat},q<ns.length->((Qa bus l ns).getD q Nd.d)=(ns.getD q Nd.d)
 | [],_,_,_=>rfl
 | g::l,ns,q,h=>by
  simp only[Qa]
  rw[q8o (by simp;omega)]
  rw[xqe,xzd h,<- xqe]
theorem qCx {B:Bool} {x:Nd} (h:∀ ns:List Nd,1<=ns.length->∀ i,NG B ns i x):∀ (k:Nat) {ns:List Nd},GNs B ns->GNs B (ns++List.replicate k x)
 | 0,ns,hn=>by simpa using hn
 | k+1,ns,hn=>by
  rw[List.replicate_succ,List.append_cons]
  exact qCx h k (hn.add (h _ (by simp) _))
theorem q4B {x:CD} (hx:q4l x):GNs x.mem (Et x):=by
 have m4:0<=x.i.tmod 4/\x.i.tmod 4<4:=Dm (n:=4) hx.i.1 (by omega)
 have m3:0<=x.f.tmod 3/\x.f.tmod 3<3:=Dm (n:=3) hx.f.1 (by omega)
 have g0:GNs x.mem []:=fun i h=>by simp at h
 have g1:GNs x.mem (J3 x):=by
  have:=qCx (B:=x.mem) (x:=q92) (fun ns _ i=>qNS) (x.i.tmod 4+1).toNat g0
  simpa[J3]using this
 have l1:1<=(J3 x).length:=by simp[J3];omega
 have g2:GNs x.mem (Gk x):=qCx (fun ns h i=>qNT ⟨by omega,by omega⟩) _ g1
 have l2:(Gk x).length=(J3 x).length+(x.f.tmod 3).toNat:=by simp[Gk]
 have g3:GNs x.mem (Fp x):=by
  unfold Fp
  split
  ·rename_i hm
   rw[hm]at g2 ⊢
   have a1:=g2.add (y:=q5z 0) (qJG (.inl rfl))
   have a2:=a1.add (y:=q5z 1) (qJG (.inr rfl))
   rw[List.append_assoc]at a2
   exact a2
  ·exact g2
 have l3:(Gk x).length<=(Fp x).length:=by unfold Fp;split<;>simp
 have g4:GNs x.mem (Dh x):=qCF (fun g hg=>hx.gates g (xz6 hg)) (by omega) g3
 have l4:(Fp x).length<=(Dh x).length:=by unfold Dh;rw[q28];omega
 refine qEI hx.d0 hx.d1 g4 fun q hq=>⟨by omega,?_⟩
 unfold Dh
 rw[q8o (by omega)]
 have e:(Fp x).getD ((J3 x).length+q) Nd.d=(Gk x).getD ((J3 x).length+q) Nd.d:=by
  unfold Fp
  split
  ·rw[xqe,xzd (by omega),<- xqe]
  ·rfl
 rw[e]
 unfold Gk
 rw[xqe,xze (by omega)]
 simp only[Nat.add_sub_cancel_left]
 rw[xz3,if_pos (by omega)]
 rfl
theorem q2Q {α:Type} {f:α->Int}:∀ {l:List α},(∀ x∈l,f x=0)->E3 (l.map f)=0
 | [],_=>rfl
 | x::l,h=>by
  simp only[xqm,E3,h x xqh,ne_eq,not_true_eq_false,if_false]
  exact q2Q fun y hy=>h y (xqf _ hy)
theorem qFZ:∀ n,n<=16->K8 [] ((List.range' 0 n).map q16)=0:=by
 intro n hn
 have:n=0\/n=1\/n=2\/n=3\/n=4\/n=5\/n=6\/n=7\/n=8\/n=9\/n=10\/n=11\/n=12\/n=13\/n=14\/n=15\/n=16:=by omega
 rcases this with rfl|rfl|rfl|rfl|rfl|rfl|rfl|rfl|rfl|rfl|rfl|rfl|rfl|rfl|rfl|rfl|rfl<;>decide +kernel
theorem qHu {x:CD} (hx:q4l x):Eg (Po x)=0:=by
 have hl:=q29 hx
 have h5:=q2A hx
 have hg:=q4B hx
 have hN:(Po x).nodes.l=Et x:=rfl
 have hmods:∀ b,Byt b->0<=b.tmod (Dh x).length/\b.tmod (Dh x).length<(Et x).length:=fun b hb=>by
  have:=Dm (n:=(Dh x).length) hb.1 (by omega);omega
 have hout:∀ n,0<=n/\n<((Et x).length:Int)->S5 (Po x) n=false:=fun n h=>by simp[S5,hN];omega
 have hnode:∀ y∈Et x,Eh (Po x) y=0:=by
  intro y hy
  obtain⟨i,hi,rfl⟩:=xqt hy
  have hn:=hg i hi
  unfold Eh
  rw[if_neg (by have:=hn.k;omega),if_neg (by have:=hn.f;omega)]
  have h1:(Et x)[i].inn.l.any (S5 (Po x))=false:=xz8.2 fun p hp=>by rw[hout p (hn.inn p hp)];simp
  rw[h1]
  have h2:¬ ((Et x)[i].k=13/\(Et x)[i].inn.l.any (q3V (Po x))=true):=by
   rintro⟨hk,ha⟩
   obtain⟨p,hp,hq⟩:=xz1.1 ha
   have:=hn.bus hk p hp
   simp[q3V,hN]at hq
   rw[xqe]at this
   exact hq this
  rw[if_neg (by simp),if_neg h2]
  have h3:q2a (Po x) (Et x)[i]=true:=by
   unfold q2a
   by_cases hk:(Et x)[i].k=15
   ·obtain⟨hm,e1,e2,e3⟩:=hn.mm.2 hk
    simp only[hk,ne_eq,not_true_eq_false,if_false,xqu]
    simp[Po,qAG,hm,e1]
    omega
   ·have:=hn.mm.1 hk
    simp[hk,this]
  rw[h3];simp
 unfold Eg
 have e1:¬ (16384<(Po x).nodes.l.length\/16<(Po x).mems.l.length\/16384<(Po x).outs.l.length):=by
  have:(Po x).mems.l.length<=1:=by simp only[Po,qAG];split<;>simp
  have:(Po x).outs.l.length<=4:=by simp[Po];omega
  rw[hN];omega
 have e2:(Po x).names.l.length=(Po x).nodes.l.length:=by rw[hN];simp[Po];omega
 rw[if_neg e1,if_neg (by simp[e2]),if_neg (by rw[hN,q2Q hnode];simp),if_neg (by
  rw[show(Po x).names.l=(List.range' 0 (Dh x).length).map q16 from rfl,qFZ _ hl.2];simp),if_neg (by
  rw[q2Q]
  ·simp
  ·intro m hm
   simp only[Po,qAG]at hm
   split at hm
   ·simp at hm;subst hm
    unfold Q8
    have a0:=hout _ (hmods _ hx.p0)
    have a1:=hout _ (hmods _ hx.p1)
    have a2:=hout _ (hmods _ hx.p2)
    have a3:=hout _ (hmods _ hx.p3)
    simp[Ww,a0,a1,a2,a3]
   ·cases hm)]
 have ho:(Po x).outs.l.any (S5 (Po x))=false:=by
  refine xz8.2 fun p hp=>?_
  have:0<=p/\p<((Et x).length:Int):=by
   simp only[Po,xzg,xqy,xzh]at hp
   rcases hp with⟨b,hb,rfl⟩|rfl
   ·exact hmods b (hx.outs b (xz6 hb))
   ·omega
  rw[hout p this];simp
 rw[ho];rfl
theorem qCG {x:CD} (hx:q4l x):Cf (Po x)=0:=by
 have hs:=qHu hx
 have hg:=q4B hx
 have hN:(Po x).nodes.l=Et x:=rfl
 have hin:∀ y∈(Po x).nodes.l,∀ p∈y.inn.l,0<=p/\p<(Po x).nodes.l.length:=by
  intro y hy p hp
  rw[hN]at hy ⊢
  obtain⟨i,hi,rfl⟩:=xqt hy
  exact(hg i hi).inn p hp
 have hd:=qE3 (Po x) (J7 hs).2.1 hin (by
  intro i hi hc p hp
  rw[hN]at hi
  have e:(Po x).nodes.l.getD i Nd.d=(Et x)[i]:=by rw[hN];simp[xqe,hi]
  simp only[Aj,D4,e]at hc hp
  exact(hg i hi).top (by simpa[C2]using hc) p hp)
 unfold Cf
 rw[if_neg (by simp[hs]),if_neg hd]
theorem qHv {x:CD} (hx:q4l x) (hm:x.mem=false):qAC (Po x)=0:=by
 have hv:=qCG hx
 have hg:=q4B hx
 have h1:(Po x).mems.l=[]:=by simp[Po,qAG,hm]
 have h2:mems (Po x)=[]:=by
  refine List.eq_nil_iff_forall_not_mem.2 fun n hn=>?_
  obtain⟨a,b,h3⟩:=q6g [15] (Po x).nodes.l 0 n hn
  have hi:n.toNat<(Et x).length:=by have:(Po x).nodes.l=Et x:=rfl;rw[this]at b;omega
  have hk:(Et x)[n.toNat].k=15:=by
   have:(Po x).nodes.l=Et x:=rfl
   rw[this]at h3
   simpa[xqe,hi]using h3
  have:=((hg _ hi).mm.2 hk).1
  rw[hm]at this;cases this
 unfold qAC
 rw[if_neg (by simp[hv]),h1,h2];simp
end Go.Lg
namespace Go.Lg
open Go Go.Proofs
variable {Γ:Tables}
def qPY (l:List (Sl Int)):List Int:=(l.map fun s=>s.l).flatten
end Go.Lg
namespace Go.Lg
open Go Go.Proofs
def qJH (x:CD):CD:={ x with mem:=false }
theorem qJI {x:CD} (hx:q4l x):q4l (qJH x):=⟨hx.i,hx.f,hx.d0,hx.d1,hx.p0,hx.p1,hx.p2,hx.p3,hx.gates,hx.outs⟩
/-! The nodes are lists that tell whether they are nil. -/
def SNs (ns:List Nd):Prop:=∀ x∈ns,qAb x.inn
theorem O5 {l:List Int} (h:l≠[]) (h2:l.length<=1000000):qAb (⟨l,none,none⟩:Sl Int):=⟨(fun h=>nomatch h),(fun _=>h),h2⟩
theorem Rj {l:List Int} {c:Option Nat} (h2:l.length<=1000000):qAb (⟨l,c,some false⟩:Sl Int):=⟨(fun h=>nomatch h),(fun h=>nomatch h),h2⟩
theorem qAd {c:Option Nat}:qAb (⟨[],c,some true⟩:Sl Int):=⟨(fun _=>rfl),(fun h=>nomatch h),by simp⟩
theorem qJJ {bus:Bool} {g:Gd} {ns:List Nd}:qAb (q3b bus g ns).inn:=by
 unfold q3b qC1
 generalize (if bus=true then g.k.tmod 13 else g.k.tmod 9)=kk
 by_cases h1:kk<6
 ·simp only[h1,if_true]
  split
  ·exact O5 (by simp) (by simp)
  ·exact O5 (by simp) (by simp)
 ·simp only[h1,if_false]
  split
  ·exact O5 (by simp) (by simp)
  split
  ·exact O5 (by simp) (by simp)
  split
  ·exact O5 (by simp) (by simp)
  split
  ·by_cases h2:1<(q5y ns).length
   ·simp only[h2,if_true]
    exact O5 (by simp) (by simp)
   ·simp only[h2,if_false]
    exact O5 (by simp) (by simp)
  split
  ·exact qAd
  ·exact O5 (by simp) (by simp)
theorem qCH {bus:Bool}:∀ {l:List Gd} {ns:List Nd},SNs ns->SNs (Qa bus l ns)
 | [],ns,h=>h
 | g::l,ns,h=>by
  simp only[Qa]
  refine qCH fun x hx=>?_
  rcases xzg.1 hx with hx|hx
  ·exact h x hx
  ·simp at hx;subst hx;exact qJJ
theorem qEJ {x:CD} {first:Nat}:∀ {k i:Nat} {ns:List Nd},SNs ns->SNs (q17 x first k i ns)
 | 0,_,_,h=>h
 | k+1,i,ns,h=>by
  simp only[q17]
  refine qEJ fun y hy=>?_
  rcases xz9 hy with hy|rfl
  ·exact h y hy
  ·exact Rj (by simp)
theorem qHw {x:CD} (hm:x.mem=false):SNs (Et x):=by
 unfold Et Dh Fp
 rw[hm]
 refine qEJ (qCH fun y hy=>?_)
 simp only[xqn,if_false,Gk,J3,xzg,List.mem_replicate]at hy
 rcases hy with⟨_,rfl⟩|⟨_,rfl⟩
 ·exact qAd
 ·exact Rj (by simp)
def m0 (c:Bi) (ch:List (Sl Int)):Nat:=c.nodes.l.length+1+ch.length
end Go.Lg
namespace Go.Lg
open Go Go.Proofs
variable {Γ:Tables}
theorem q73 {f:FuncId} {as':List AV} {ts:List T} {res:T} {K:T->Prop} (h:A8 Tryz.prog Γ f ts res) (ht:Ak (as'.map toT)=some ts) (hk:K res):qCi Tryz.prog Γ f as' K ⟨⟩:=⟨ts,res,ht,.inr h,hk⟩
theorem qHx (q:PD) (hq:qEF q) (c:Bi) (hc:COk c):A8 Tryz.prog Γ 13 [.agg (tPD q),.agg (tC c)] (.agg (tP (H6 q c))):=by
 refine Ae qAT rfl ?_
 have h1:=qGh (Γ:=Γ) q.i (Bd c).length (Nat.le_trans (Js c) hc.nodes) 4 (by omega)
 have h2:=qGh (Γ:=Γ) q.s (B8 c).length (Nat.le_trans (F3 c) hc.nodes) 3 (by omega)
 have l1:(Wz q.i.l (Bd c).length 4).length=(Bd c).length:=q2M
 have l2:(Wz q.s.l (B8 c).length 3).length=(B8 c).length:=q2M
 have k1:=C4 (l:=Wz q.i.l (Bd c).length 4)
 have k2:=C4 (l:=Wz q.s.l (B8 c).length 3)
 rw[l1]at k1
 rw[l2]at k2
 simp[q5A,tC,Aa,Ad,Ag,As,tPD,tV]
 refine q73 (qAX c hc 0) rfl ?_
 simp
 refine⟨_,_,h1,?_⟩
 simp
 refine q73 (qAX c hc 14) rfl ?_
 simp
 refine⟨_,_,h2,?_⟩
 simp[q5B,Ax,Ai,k1,k2,tP,tV,H6,qL4,qL5]
structure NOk (c:Bi):Prop where
 ok:COk c
 lev:Cf c=0
 mm:c.mems.l=[]
 m0:mems c=[]
 n1:1<=c.nodes.l.length
 n2:c.nodes.l.length<=16
 k:∀ i,i<c.nodes.l.length->0<=Aj c i/\Aj c i<=14
theorem qNV {x:CD} (hx:q4l x) (hm:x.mem=false):NOk (Po x):=by
 have hl:=q29 hx
 have h5:=q2A hx
 have hN:(Po x).nodes.l=Et x:=rfl
 have hp:=qHv hx hm
 have hv:=qCG hx
 have h1:(Po x).mems.l=[]:=by simp[Po,qAG,hm]
 have h2:mems (Po x)=[]:=by
  unfold qAC at hp
  rw[if_neg (by simp[hv])]at hp
  split at hp
  ·cases hp
  ·rename_i h;exact xqo (by omega)
 refine⟨qIt hx,hv,h1,h2,by rw[hN];omega,by rw[hN];omega,fun i hi=>?_⟩
 have hs:=(J8 hv).1
 have hn:=(J7 hs).2.2.1 _ (xqj hi)
 have hk:Aj (Po x) i=(Po x).nodes.l[i].k:=by simp[Aj,hi]
 have hkk:=(qIt hx).kind _ (xqj hi)
 have h15:¬ Aj (Po x) i=15:=fun e=>by
  have:(i:Int)∈mems (Po x):=(q6m hi).2 e
  rw[h2]at this;cases this
 have hle:¬ 15<(Po x).nodes.l[i].k:=fun h=>by
  unfold Eh at hn
  rw[if_pos h]at hn;cases hn
 rw[hk]at h15 ⊢
 omega
theorem qGn {l:List Int} {n:Nat} {most:Int} (hl:∀ v∈l,0<=v) (hm:0<most/\most<=4):∀ v∈Wz l n most,V4 v:=by
 intro v hv
 obtain⟨i,_,rfl⟩:=xqy.1 hv
 split
 ·simp[V4]
 ·rename_i h
  have hpos:0<l.length:=xza.2 h
  have h0:0<=l.getD (i % l.length) 0:=by
   rw[Be (Nat.mod_lt _ hpos)];exact hl _ (xqj _)
  generalize l.getD (i % l.length) 0=u at *
  rw[Int.tmod_eq_emod_of_nonneg h0]
  have:=Int.emod_nonneg u (show most≠0 by omega)
  have:=Int.emod_lt_of_pos u hm.1
  unfold V4;omega
structure POk (c:Bi) (p:Pat):Prop where
 i:p.inn.l.length=(Bd c).length
 s:p.st.l.length=(B8 c).length
 vi:∀ v∈p.inn.l,V4 v
 vs:∀ v∈p.st.l,V4 v
theorem qJK {q:PD} (hq:qEF q) (c:Bi):POk c (H6 q c) :=
 ⟨q2M,q2M,qGn (fun v hv=>(hq.1 v hv).1) (by omega),qGn (fun v hv=>(hq.2 v hv).1) (by omega)⟩
theorem qCI {c:Bi} (hc:NOk c) {p:Pat} (hp:POk c p):q2K c p=0:=by
 unfold q2K
 rw[if_neg (by simp[hc.lev])]
 unfold Su
 have a1:∀ {l:List Int},(∀ v∈l,V4 v)->l.any Cm=false:=fun h=>xz8.2 fun v hv=>by have:=(h v hv).2;simp[Cm];omega
 rw[if_neg (by rw[hc.mm,hc.m0];simp),if_neg (by simp[hp.i,hp.s]),a1 hp.vi,a1 hp.vs]
 simp
theorem qNW (hΓ:GOk Γ) {c:Bi} (hc:NOk c) {p:Pat} (hp:POk c p) :
  Az Tryz.prog Γ 22 [.agg (tC c),.agg (tP p)] (.tup [.agg [tVs (O3 c (Br c p.inn.l p.st.l)),tVs (Do c (Br c p.inn.l p.st.l))],.sl (Ar (Br c p.inn.l p.st.l)) (some c.nodes.l.length) none,tI 0]):=by
 have hcn:=hc.n2
 have h:=qJA hΓ c hc.ok (by omega) p ⟨by rw[hp.i];have:=Js c;omega,by rw[hp.s];have:=F3 c;omega⟩ ⟨fun v hv=>(hp.vi v hv).1,fun v hv=>(hp.vs v hv).1⟩
 unfold qCw at h
 rwa [if_pos (qCI hc hp)]at h
theorem q74 {c:Bi} {a b:List Int}:(Br c a b).length=c.nodes.l.length:=by unfold Br;rw[q1B,Ky]
theorem gE' {α:Type} {f:α->T} {l:List α} {i:Nat} (d:α) (h0:i<l.length):∀ h:i<(Au f l).length,(Au f l)[i]=[f (l.getD i d)]:=fun h=>by
 have:=D8 (f:=f) d h0
 rw[xqg h]at this
 simpa[xqe]using this
theorem gE {α:Type} {f:α->T} {l:List α} {i:Nat} (d:α) (h0:i<l.length):(Au f l)[i]?.getD []=[f (l.getD i d)]:=by
 rw[xqg (by rw[A6];exact h0)]
 exact gE' d h0 _
theorem Blw.below {a b:Int} (h:Blw a b):qIx a b=true:=by
 unfold qIx
 rcases h with rfl|rfl
 ·simp
 ·simp[F4]
theorem qBK.map {α:Type} {f g:α->Int} {l:List α} (h:∀ x∈l,Blw (f x) (g x)):qBK (l.map f) (l.map g):=by
 refine⟨by simp,fun i=>?_⟩
 by_cases hi:i<l.length
 ·rw[Be (by simpa using hi),Be (by simpa using hi),List.getElem_map,List.getElem_map]
  exact h _ (xqj hi)
 ·rw[xqe,xqe,List.getElem?_eq_none (by simp;omega),List.getElem?_eq_none (by simp;omega)]
  exact .refl _
end Go.Lg
namespace Go.Lg
open Go Go.Proofs
def J6 (v:Int) (bus:Bool):List Int:=if v=0 then[0]else if v=1 then[1]else if bus=true/\v=3 then[2]else if bus=true then[0,1,2] else[0,1]
def Bo (l:List Int) (v:Int):Nat:=l.countP (fun x=>decide (x=v))
def Kz (b:Bool):Int:=if b then 1 else 0
def Kw (k:Int) (l:List Int):Int :=
 if k=1\/k=2 then Kz (decide (k=2))else if k=3\/k=4 then Kz (decide ((l.getD 0 0=1)↔k=3)) else
 if k=5\/k=6 then Kz (decide ((Bo l 0=0)↔k=5))else if k=7\/k=8 then Kz (decide ((0<Bo l 1)↔k=7)) else
 if k=9\/k=10 then Kz (decide ((Bo l 1 % 2=1)↔k=9))else if k=11/\l.getD 0 0=0 then l.getD 1 0 else if k=11 then l.getD 2 0 else
 if k=12/\l.getD 0 0=0\/k=13/\Bo l 1+Bo l 0=0 then 2 else if k=12 then l.getD 1 0 else if k=13/\0<Bo l 1/\0<Bo l 0 then 3 else Kz (decide (0<Bo l 1))
def q69 (l:List Int):Int:=if l.all (fun x=>decide (x=l.getD 0 0)) then[0,1,3,2].getD (l.getD 0 0).toNat 0 else 2
structure T3 where
 a:Int
 b:Int
 d:Int
deriving DecidableEq
def q75 (t:T3) (v:Int):T3:=if v=0 then⟨t.a+1,t.b,t.d⟩else if v=1 then⟨t.a,t.b+1,t.d⟩ else⟨t.a,t.b,t.d+1⟩
def q76 (L:List T3) (t:T3):List T3:=if t∈L then L else L++[t]
def Xq (t:T3):List Int->List T3->List T3
 | [],L=>L
 | v::l,L=>Xq t l (q76 L (q75 t v))
def Xr (cs:List Int):List T3->List T3->List T3
 | [],L=>L
 | t::S,L=>Xr cs S (Xq t cs L)
def Zp (bus:Bool):List Int->List T3->List T3
 | [],S=>S
 | v::l,S=>Zp bus l (Xr (J6 v bus) S [])
def Ya (t:T3):List Int:=List.replicate t.a.toNat 0++(List.replicate t.b.toNat 1++List.replicate t.d.toNat 2)
def Ni (k:Int) (l:List Int):List Int:=(Zp (decide (k=13)) l [⟨0,0,0⟩]).map fun t=>Kw k (Ya t)
theorem qEK {L:List T3} {t x:T3}:x∈q76 L t↔x∈L\/x=t:=by
 unfold q76
 split
 ·rename_i h
  exact⟨.inl,fun h'=>h'.elim id fun e=>e ▸ h⟩
 ·simp
theorem q88 {t x:T3}:∀ {cs:List Int} {L:List T3},x∈Xq t cs L↔x∈L\/∃ v∈cs,x=q75 t v
 | [],L=>by simp[Xq]
 | v::l,L=>by
  simp only[Xq]
  rw[q88,qEK]
  simp[or_assoc]
theorem q4c {cs:List Int} {x:T3}:∀ {S L:List T3},x∈Xr cs S L↔x∈L\/∃ t∈S,∃ v∈cs,x=q75 t v
 | [],L=>by simp[Xr]
 | t::S,L=>by
  simp only[Xr]
  rw[q4c,q88]
  simp[or_assoc]
inductive Chs (bus:Bool):List Int->List Int->Prop
 | nil:Chs bus [] []
 | cons {y v:Int} {ys vs:List Int}:y∈J6 v bus->Chs bus ys vs->Chs bus (y::ys) (v::vs)
def qCJ:List Int->T3->T3
 | [],t=>t
 | y::ys,t=>qCJ ys (q75 t y)
theorem q89 {bus:Bool} {x:T3}:∀ {l:List Int} {S:List T3},x∈Zp bus l S↔∃ t∈S,∃ ys,Chs bus ys l/\x=qCJ ys t
 | [],S=>by
  simp only[Zp]
  constructor
  ·intro h;exact⟨x,h,[],.nil,rfl⟩
  ·rintro⟨t,ht,ys,hc,rfl⟩
   cases hc;exact ht
 | v::l,S=>by
  simp only[Zp]
  rw[q89]
  constructor
  ·rintro⟨t,ht,ys,hc,rfl⟩
   rw[q4c]at ht
   rcases ht with ht|⟨t0,ht0,y,hy,rfl⟩
   ·simp at ht
   ·exact⟨t0,ht0,y::ys,.cons hy hc,rfl⟩
  ·rintro⟨t,ht,ys,hc,rfl⟩
   cases hc with
   | cons hy hc=>exact⟨_,q4c.2 (.inr ⟨t,ht,_,hy,rfl⟩),_,hc,rfl⟩
theorem qCy {v y:Int} {bus:Bool} (h:y∈J6 v bus):y=0\/y=1\/y=2:=by
 unfold J6 at h
 split at h
 ·simp at h;omega
 split at h
 ·simp at h;omega
 split at h
 ·simp at h;omega
 split at h<;>simp at h<;>omega
theorem qJL {bus:Bool}:∀ {ys l:List Int},Chs bus ys l->∀ y∈ys,y=0\/y=1\/y=2
 | _,_,.nil,_,h=>by simp at h
 | _,_,.cons h1 h2,y,h=>by
  rcases xqv.1 h with rfl|h
  ·exact qCy h1
  ·exact qJL h2 y h
theorem q8A:∀ {ys:List Int} {t:T3},(∀ y∈ys,y=0\/y=1\/y=2)->qCJ ys t=⟨t.a+Bo ys 0,t.b+Bo ys 1,t.d+Bo ys 2⟩
 | [],t,_=>by simp[qCJ,Bo]
 | y::ys,t,h=>by
  simp only[qCJ]
  rw[q8A fun z hz=>h z (xqf _ hz)]
  rcases h y xqh with rfl|rfl|rfl<;>simp[q75,Bo]<;>omega
theorem qJM {n:Nat} {a v:Int}:Bo (List.replicate n a) v=if a=v then n else 0:=by
 unfold Bo
 rw[List.countP_replicate]
 simp
theorem q77 {a b:List Int} {v:Int}:Bo (a++b) v=Bo a v+Bo b v:=List.countP_append
theorem qEL {t:T3} (ha:0<=t.a) (hb:0<=t.b):Bo (Ya t) 0=t.a.toNat/\Bo (Ya t) 1=t.b.toNat:=by
 simp[Ya,q77,qJM]
def q0j (k:Int) (z o:Nat):Int :=
 if k=5\/k=6 then Kz (decide ((z=0)↔k=5))else if k=7\/k=8 then Kz (decide ((0<o)↔k=7)) else
 if k=9\/k=10 then Kz (decide ((o % 2=1)↔k=9))else if o+z=0 then 2 else if 0<o/\0<z then 3 else Kz (decide (0<o))
theorem qJN {k:Int} (hk:5<=k/\k<=10\/k=13) {l:List Int}:Kw k l=q0j k (Bo l 0) (Bo l 1):=by
 have hc:k=5\/k=6\/k=7\/k=8\/k=9\/k=10\/k=13:=by omega
 rcases hc with rfl|rfl|rfl|rfl|rfl|rfl|rfl<;>simp[Kw,q0j]
theorem Fz {k:Int} (hk:5<=k/\k<=10\/k=13) {l:List Int} {x:Int}:x∈Ni k l↔∃ ys,Chs (decide (k=13)) ys l/\x=q0j k (Bo ys 0) (Bo ys 1):=by
 unfold Ni
 rw[xqy]
 constructor
 ·rintro⟨t,ht,rfl⟩
  obtain⟨t0,h0,ys,hc,rfl⟩:=q89.1 ht
  simp at h0
  subst h0
  refine⟨ys,hc,?_⟩
  rw[q8A (qJL hc),qJN hk]
  have:=qEL (t:=⟨0+(Bo ys 0:Int),0+(Bo ys 1:Int),0+(Bo ys 2:Int)⟩) (by simp) (by simp)
  rw[this.1,this.2]
  simp
 ·rintro⟨ys,hc,rfl⟩
  refine⟨qCJ ys ⟨0,0,0⟩,q89.2 ⟨_,by simp,ys,hc,rfl⟩,?_⟩
  rw[q8A (qJL hc),qJN hk]
  have:=qEL (t:=⟨0+(Bo ys 0:Int),0+(Bo ys 1:Int),0+(Bo ys 2:Int)⟩) (by simp) (by simp)
  rw[this.1,this.2]
  simp
theorem Tf {l:List Int} {a:Int} (hne:l≠[]) (h:∀ x∈l,x=a):q69 l=[0,1,3,2].getD a.toNat 0:=by
 cases l with
 | nil=>exact absurd rfl hne
 | cons y l =>
  have hy:y=a:=h y xqh
  unfold q69
  rw[if_pos (by
   rw[xqz]
   intro x hx
   simp[h x hx,hy])]
  simp[hy]
theorem q78 {l:List Int} {a b:Int} (ha:a∈l) (hb:b∈l) (h:a≠b):q69 l=2:=by
 unfold q69
 rw[if_neg]
 intro hh
 rw[xqz]at hh
 have h1:=hh a ha
 have h2:=hh b hb
 simp at h1 h2
 exact h (h1.trans h2.symm)
theorem Vg {bus:Bool} {g:Int->Int}:∀ {l:List Int},(∀ v∈l,g v∈J6 v bus)->Chs bus (l.map g) l
 | [],_=>.nil
 | v::l,h=>.cons (h v xqh) (Vg fun u hu=>h u (xqf _ hu))
theorem qGo {bus:Bool}:∀ {ys l zs m:List Int},Chs bus ys l->Chs bus zs m->Chs bus (ys++zs) (l++m)
 | _,_,_,_,.nil,h=>h
 | _,_,_,_,.cons h1 h2,h=>.cons h1 (qGo h2 h)
theorem Yb {k:Int} (hk:5<=k/\k<=10\/k=13) {l:List Int}:Ni k l≠[]:=by
 have hm:∀ v∈l,(fun v=>if v=0 then 0 else if v=1 then 1 else if v=3/\k=13 then 2 else 1:Int->Int) v∈J6 v (decide (k=13)):=by
  intro v _
  unfold J6
  by_cases h0:v=0
  ·simp[h0]
  by_cases h1:v=1
  ·simp[h1]
  by_cases h3:v=3<;>by_cases h13:k=13<;>simp[h0,h1,h3,h13]
 exact List.ne_nil_of_mem ((Fz hk).2 ⟨_,Vg hm,rfl⟩)
def to0 (v:Int):Int:=if v=1 then 1 else if v=3 then 2 else 0
def to1 (v:Int):Int:=if v=0 then 0 else if v=3 then 2 else 1
def go0 (v:Int):Int:=if v=1 then 1 else 0
def go1 (v:Int):Int:=if v=0 then 0 else 1
theorem qCz {v:Int}:go0 v∈J6 v false:=by unfold go0 J6;repeat' split<;>simp_all
theorem qJO {v:Int}:go1 v∈J6 v false:=by unfold go1 J6;repeat' split<;>simp_all
theorem qNX {v:Int}:to0 v∈J6 v true:=by
 unfold to0 J6
 by_cases h0:v=0
 ·simp[h0]
 by_cases h1:v=1
 ·simp[h1]
 by_cases h3:v=3<;>simp[h0,h1,h3]
theorem qNY {v:Int}:to1 v∈J6 v true:=by
 unfold to1 J6
 by_cases h0:v=0
 ·simp[h0]
 by_cases h1:v=1
 ·simp[h1]
 by_cases h3:v=3<;>simp[h0,h1,h3]
theorem Ti {l:List Int} {v:Int}:Bo l v=0↔v∉l:=by
 unfold Bo
 rw[List.countP_eq_zero]
 constructor
 ·intro h hm;simpa using h v hm
 ·intro h x hx;simp;intro e;exact h (e ▸ hx)
theorem Pq {l:List Int} {v:Int}:0<Bo l v↔v∈l:=by
 rw[Nat.pos_iff_ne_zero,Ne,Ti,Classical.not_not]
theorem q2R {bus:Bool} {a:Int}:∀ {ys l:List Int},Chs bus ys l->(∀ y,y∈J6 a bus->y=a)->a∈l->a∈ys
 | _,_,.nil,_,h=>h
 | _,_,.cons h1 h2,ha,h=>by
  rcases xqv.1 h with rfl|h
  ·have:=ha _ h1
   exact this ▸ xqh
  ·exact xqf _ (q2R h2 ha h)
theorem q79 {bus:Bool} {y:Int}:∀ {ys l:List Int},Chs bus ys l->y∈ys->∃ v∈l,y∈J6 v bus
 | _,_,.nil,h=>by simp at h
 | _,_,.cons h1 h2,h=>by
  rcases xqv.1 h with rfl|h
  ·exact⟨_,xqh,h1⟩
  ·obtain⟨v,hv,hy⟩:=q79 h2 h
   exact⟨v,xqf _ hv,hy⟩
theorem ch0 {bus:Bool}:∀ y,y∈J6 0 bus->y=0:=by intro y h;simpa[J6]using h
theorem ch1 {bus:Bool}:∀ y,y∈J6 1 bus->y=1:=by intro y h;simpa[J6]using h
theorem qGp {k:Int} (hk:k=5\/k=6) {l:List Int} (h4:∀ v∈l,V4 v):q69 (Ni k l)=if k=5 then M6 0 1 1 l else P8 (M6 0 1 1 l):=by
 have hk':5<=k/\k<=10\/k=13:=by omega
 have hb:decide (k=13)=false:=by simp;omega
 have hf:∀ z o,q0j k z o=Kz (decide ((z=0)↔k=5)):=fun z o=>by unfold q0j;rw[if_pos hk]
 rw[Vx (.inr rfl)]
 by_cases h0:(0:Int)∈l
 ·rw[if_pos h0,Tf (a:=Kz (decide (False↔k=5))) (Yb hk') fun x hx=>by
   obtain⟨ys,hc,rfl⟩:=(Fz hk').1 hx
   have:=q2R hc ch0 h0
   rw[hf]
   congr 1
   have h1:¬ Bo ys 0=0:=by rw[Ti];exact fun h=>h this
   simp[h1]]
  rcases hk with rfl|rfl<;>simp[Kz,P8]
 rw[if_neg h0]
 by_cases h1:∀ v∈l,v=1
 ·rw[if_pos (show(1:Int)=1/\∀ v∈l,v=1 from⟨rfl,h1⟩),Tf (a:=Kz (decide (True↔k=5))) (Yb hk') fun x hx=>by
   obtain⟨ys,hc,rfl⟩:=(Fz hk').1 hx
   rw[hf]
   congr 1
   have h1:Bo ys 0=0:=by
    rw[Ti]
    intro hm
    obtain⟨v,hv,hy⟩:=q79 hc hm
    rw[h1 v hv]at hy
    have:=ch1 _ hy
    omega
   simp[h1]]
  rcases hk with rfl|rfl<;>simp[Kz,P8]
 rw[if_neg (show ¬ ((1:Int)=1/\∀ v∈l,v=1) from fun h=>h1 h.2)]
 have e:∃ v,v∈l/\v≠1:=by
  refine Classical.byContradiction fun hn=>h1 fun v hv=>Classical.byContradiction fun hv1=>hn ⟨v,hv,hv1⟩
 obtain⟨v,hv,hv1⟩:=e
 have m0:q0j k (Bo (l.map go0) 0) (Bo (l.map go0) 1)∈Ni k l:=(Fz hk').2 ⟨_,by rw[hb];exact Vg fun v _=>qCz,rfl⟩
 have m1:q0j k (Bo (l.map go1) 0) (Bo (l.map go1) 1)∈Ni k l:=(Fz hk').2 ⟨_,by rw[hb];exact Vg fun v _=>qJO,rfl⟩
 have z0:¬ Bo (l.map go0) 0=0:=by
  rw[Ti]
  exact fun h=>h (xqy.2 ⟨v,hv,by simp[go0,hv1]⟩)
 have z1:Bo (l.map go1) 0=0:=by
  rw[Ti]
  intro h
  obtain⟨u,hu,e⟩:=xqy.1 h
  unfold go1 at e
  split at e
  ·rename_i h;exact h0 (h ▸ hu)
  ·omega
 rw[q78 m0 m1]
 ·rcases hk with rfl|rfl<;>simp[P8]
 ·rw[hf,hf]
  rcases hk with rfl|rfl<;>simp[Kz,z0,z1]
theorem qJP {k:Int} (hk:k=7\/k=8) {l:List Int} (h4:∀ v∈l,V4 v):q69 (Ni k l)=if k=7 then M6 1 0 0 l else P8 (M6 1 0 0 l):=by
 have hk':5<=k/\k<=10\/k=13:=by omega
 have hb:decide (k=13)=false:=by simp;omega
 have hf:∀ z o,q0j k z o=Kz (decide ((0<o)↔k=7)):=fun z o=>by unfold q0j;rw[if_neg (by omega),if_pos hk]
 rw[Vx (.inr rfl)]
 by_cases h0:(1:Int)∈l
 ·rw[if_pos h0,Tf (a:=Kz (decide (True↔k=7))) (Yb hk') fun x hx=>by
   obtain⟨ys,hc,rfl⟩:=(Fz hk').1 hx
   have:=Pq.2 (q2R hc ch1 h0)
   rw[hf]
   congr 1
   simp[this]]
  rcases hk with rfl|rfl<;>simp[Kz,P8]
 rw[if_neg h0]
 by_cases h1:∀ v∈l,v=0
 ·rw[if_pos (show(0:Int)=0/\∀ v∈l,v=0 from⟨rfl,h1⟩),Tf (a:=Kz (decide (False↔k=7))) (Yb hk') fun x hx=>by
   obtain⟨ys,hc,rfl⟩:=(Fz hk').1 hx
   rw[hf]
   congr 1
   have h1:¬ 0<Bo ys 1:=by
    rw[Pq]
    intro hm
    obtain⟨v,hv,hy⟩:=q79 hc hm
    rw[h1 v hv]at hy
    have:=ch0 _ hy
    omega
   simp[h1]]
  rcases hk with rfl|rfl<;>simp[Kz,P8]
 rw[if_neg (show ¬ ((0:Int)=0/\∀ v∈l,v=0) from fun h=>h1 h.2)]
 have e:∃ v,v∈l/\v≠0:=by
  refine Classical.byContradiction fun hn=>h1 fun v hv=>Classical.byContradiction fun hv1=>hn ⟨v,hv,hv1⟩
 obtain⟨v,hv,hv1⟩:=e
 have m0:q0j k (Bo (l.map go0) 0) (Bo (l.map go0) 1)∈Ni k l:=(Fz hk').2 ⟨_,by rw[hb];exact Vg fun v _=>qCz,rfl⟩
 have m1:q0j k (Bo (l.map go1) 0) (Bo (l.map go1) 1)∈Ni k l:=(Fz hk').2 ⟨_,by rw[hb];exact Vg fun v _=>qJO,rfl⟩
 have z1:0<Bo (l.map go1) 1:=by
  rw[Pq]
  exact xqy.2 ⟨v,hv,by simp[go1,hv1]⟩
 have z0:¬ 0<Bo (l.map go0) 1:=by
  rw[Pq]
  intro h
  obtain⟨u,hu,e⟩:=xqy.1 h
  unfold go0 at e
  split at e
  ·rename_i h;exact h0 (h ▸ hu)
  ·omega
 rw[q78 m0 m1]
 ·rcases hk with rfl|rfl<;>simp[P8]
 ·rw[hf,hf]
  rcases hk with rfl|rfl<;>simp[Kz,z0,z1]
theorem qAe:∀ {l:List Int} {out:Int},(out=0\/out=1)->(∀ v∈l,v=0\/v=1)->Y3 out l=if(Bo l 1+out.toNat) % 2=1 then 1 else 0
 | [],out,h,_=>by rcases h with rfl|rfl<;>simp[Y3,Bo]
 | v::l,out,h,hl=>by
  have hv:=hl v xqh
  simp only[Y3]
  rw[if_pos (by omega),qAe (by unfold qFT;split<;>simp) fun u hu=>hl u (xqf _ hu)]
  have e:Bo (v::l) 1=Bo l 1+if v=1 then 1 else 0:=by
   unfold Bo
   rw[List.countP_cons]
   simp
  rw[e]
  rcases hv with rfl|rfl<;>rcases h with rfl|rfl<;>simp[qFT]
  all_goals (try omega)
  all_goals (congr 1;simp;omega)
theorem qEM:∀ {l:List Int} {out:Int},(∃ v∈l,¬ v<=1)->Y3 out l=2
 | [],out,⟨_,h,_⟩=>by simp at h
 | v::l,out,⟨u,hu,h1⟩=>by
  simp only[Y3]
  split
  ·rename_i hv
   rcases xqv.1 hu with rfl|hu
   ·exact absurd hv h1
   ·exact qEM ⟨u,hu,h1⟩
  ·rfl
theorem qJQ {bus:Bool}:∀ {ys l:List Int},Chs bus ys l->(∀ v∈l,v=0\/v=1)->ys=l
 | _,_,.nil,_=>rfl
 | _,_,.cons (v:=v) h1 h2,h=>by
  rw[qJQ h2 fun u hu=>h u (xqf _ hu)]
  rcases h v xqh with rfl|rfl
  ·rw[ch0 _ h1]
  ·rw[ch1 _ h1]
theorem qGq {k:Int} (hk:k=9\/k=10) {l:List Int} (h4:∀ v∈l,V4 v):q69 (Ni k l)=if k=9 then Y3 0 l else P8 (Y3 0 l):=by
 have hk':5<=k/\k<=10\/k=13:=by omega
 have hb:decide (k=13)=false:=by simp;omega
 have hf:∀ z o,q0j k z o=Kz (decide ((o % 2=1)↔k=9)):=fun z o=>by unfold q0j;rw[if_neg (by omega),if_neg (by omega),if_pos hk]
 by_cases h1:∀ v∈l,v=0\/v=1
 ·rw[Tf (a:=Kz (decide ((Bo l 1 % 2=1)↔k=9))) (Yb hk') fun x hx=>by
   obtain⟨ys,hc,rfl⟩:=(Fz hk').1 hx
   rw[hf,qJQ hc h1],qAe (.inl rfl) h1]
  rcases hk with rfl|rfl<;>by_cases h2:Bo l 1 % 2=1<;>simp[Kz,P8,h2]
 ·have e:∃ v,v∈l/\¬ (v=0\/v=1):=by
   refine Classical.byContradiction fun hn=>h1 fun v hv=>Classical.byContradiction fun hv1=>hn ⟨v,hv,hv1⟩
  obtain⟨v,hv,hv1⟩:=e
  have hv4:=h4 v hv
  unfold V4 at hv4
  rw[qEM ⟨v,hv,by omega⟩]
  obtain⟨a,b,rfl⟩:=List.append_of_mem hv
  have hvc:∀ y,y=0\/y=1->y∈J6 v false:=by
   intro y hy
   unfold J6
   rw[if_neg (by omega),if_neg (by omega)]
   simpa using hy
  have mk:∀ y,y=0\/y=1->q0j k (Bo (a.map go0++y::b.map go0) 0) (Bo (a.map go0++y::b.map go0) 1)∈Ni k (a++v::b):=fun y hy =>
   (Fz hk').2 ⟨_,by rw[hb];exact qGo (Vg fun v _=>qCz) (.cons (hvc y hy) (Vg fun v _=>qCz)),rfl⟩
  rw[q78 (mk 0 (.inl rfl)) (mk 1 (.inr rfl))]
  ·rcases hk with rfl|rfl<;>simp[P8]
  ·rw[hf,hf]
   have c0:Bo (a.map go0++0::b.map go0) 1=Bo (a.map go0) 1+Bo (b.map go0) 1:=by
    rw[q77];unfold Bo;rw[List.countP_cons];simp
   have c1:Bo (a.map go0++1::b.map go0) 1=Bo (a.map go0) 1+Bo (b.map go0) 1+1:=by
    rw[q77];unfold Bo;rw[List.countP_cons];simp;omega
   rw[c0,c1]
   generalize Bo (a.map go0) 1+Bo (b.map go0) 1=n
   rcases Nat.mod_two_eq_zero_or_one n with h|h
   ·have h':(n+1) % 2=1:=by omega
    rcases hk with rfl|rfl<;>simp[Kz,h,h']
   ·have h':(n+1) % 2=0:=by omega
    rcases hk with rfl|rfl<;>simp[Kz,h,h']
def qL8 (c:Bi) (rd:List (List Int)):List Int:=(mems c).map fun n=>(rd.getD (nd c n).mem.toNat []).getD (nd c n).bit.toNat 0
def qPZ (c:Bi) (pin pst:List Int) (rd:List (List Int)):List Int:=Ek (mems c) (qL8 c rd) (Kq c pin pst)
def qPa (c:Bi) (pin pst:List Int) (rd:List (List Int)):List Int:=q4m c (I9 c) (qPZ c pin pst rd)
def qFa:Nat->List Int->Bool
 | i,[]=>decide (i=0)
 | i,v::l=>if v<=1/\v≠(i:Int) % 2 then false else qFa (i / 2) l
def qLu (a b:Int):Int:=if a=b then a else 2
def qL9 (w:List Int) (b:Nat):Int:=if b<w.length then Za (w.getD b 0)else 2
def qLv (w:List Int) (first:Bool):Nat->Nat->List Int->List Int
 | 0,_,out=>out
 | k+1,b,out=>qLv w first k (b+1) (out.set b (if first then qL9 w b else qLu (out.getD b 0) (qL9 w b)))
def qLw (addr:List Int):Nat->List (List Int)->List Int×Bool->List Int×Bool
 | _,[],s=>s
 | i,w::ws,s=>qLw addr (i+1) ws (if qFa i addr then(qLv w s.2 s.1.length 0 s.1,false)else s)
def qLx (words:List (List Int)) (addr:List Int):List Int:=match words with
 | []=>[]
 | w::ws=>(qLw addr 0 (w::ws) (List.replicate w.length 2,true)).1
def qPb (addr:List Int) (en:Int):Bool:=decide (en=1) && !addr.any fun v=>!q61 v
def qNZ (i:Nat) (addr:List Int) (en old new:Int):Int:=if en=0\/qFa i addr=false then old else if qPb addr en=true then new else qLu old new
def qJR (i:Nat) (addr data:List Int) (en:Int) (w:List Int):Nat->Nat->List Int
 | 0,_=>[]
 | k+1,b=>qNZ i addr en (qL9 w b) (qL9 data b)::qJR i addr data en w k (b+1)
def qFb (addr data:List Int) (en:Int):Nat->List (List Int)->List (List Int)
 | _,[]=>[]
 | i,w::ws=>qJR i addr data en w w.length 0::qFb addr data en (i+1) ws
end Go.Lg
namespace Go.Lg
open Go
section
variable {P:Program} {Γ:Tables} {Q:AX->St->Prop} {s:St}
/- slices.Repeat[[]probecard/api.Value,probecard/api.Value] (function 56) -/
abbrev Nj:IC:=.gh (.seq (.seq (.reg [om 34 8,om 35 7,od 36 (le 0 35),od 37 (.bin .lss (tm 34) (tm 36))] [kp [7,8,37] [30]]) (.cond (tm 37) .skip (.exit 0))) (.block 1 (.reg [om 38 8,om 39 7,om 40 8,od 41 (.slice 1 (tm 39) (some (tm 40))
 none none),om 42 7,om 43 8,od 44 (.slice 1 (tm 42) none (some (tm 43)) none),od 45 (.cpy 1 (tm 41) (tm 44)),od 46 (.bin .add (tm 38) (tm 45)),om 8 46] [kp [7,8] [30]]))) [kp [7,8] [30]]
def Eu:IC:=.loop Nj
abbrev Nk:IC:=(.seq (.reg [od 4 (.mv kN)] [kp [0,1] []]) (.seq (.seq (.reg [om 9 1,od 10 (.bin .lss (tm 9) (ki 0))] [kp [0,1,10] []]) (.cond (tm 10) .dead .skip)) (.seq (.reg [om 13 0,od 14 (le 0 13),od 15 (.conv .u64 (tm 14)),om 16 1,od
 17 (.conv .u64 (tm 16)),od 18 (.call 111 [(tm 15),(tm 17)]),om 12 18,od 19 (ex 12 0),od 20 (ex 12 1),om 5 19,om 6 20] [kp [0,5,6] []]) (.seq (.seq (.reg [om 21 5,od 22 (.bin .gtr (tm 21) (.const (.int .u64 0))),om 23 22,
 oF 24 (.mv (tm 6)) 23,oF 25 (.bin .gtr (tm 24) (.const (.int .u64 9223372036854775807))) 23,od 26 (.pick (tm 23) kT (tm 25))] [kp [0,6,26] []]) (.cond (tm 26) .dead .skip)) (.seq (.reg [om 28 6,od 29 (.conv .i64 (tm 28)),od
 30 (.mk 65 1 [(.int .u8 0)] (tm 29) (tm 29)),om 7 30] [kp [0,7] [30]]) (.seq (.reg [om 31 7,om 32 0,od 33 (.cpy 1 (tm 31) (tm 32)),om 8 33] [kp [7,8] [30]]) (.seq (.block 0 Eu) (.seq (.reg [om 47 7,om
 4 47] [kp [4] [30]]) .ret))))))))
theorem Fa (h:∀ K:St->Prop,K=run P Γ Eu Q->run P Γ Nj (Aw K Q) s):run P Γ Eu Q s:=Ah h
def H7:List RV:=[.tmp 4]
/- probecard/sims.Blank (function 17) -/
abbrev q5G:IC:=(.seq (.reg [od 1 (.box true (tm 0)),od 2 (.alloc false [(.slice none 0 0),(.slice none 0 0)])] [kp [1,2] [2]]) (.seq (.reg [od 3 (.mv (.func 55))] [kp [1,2,3] [2]]) (.seq (.reg [om 4 3,od 5 (.ldT 4 true (tm 1)),od 6 (.call
 38 [(tm 5)]),od 7 (le 0 6),od 8 (.callv (tm 4) [(tm 7)]),om 9 3,od 10 (.ldT 4 true (tm 1)),od 11 (.call 39 [(tm 10)]),od 12 (le 0 11),od 13 (.callv (tm 9) [(tm 12)]),od 14 (.build [(1,(tm 8)),(1,(tm 13))]),on (.stR 2 2
 (tm 2) (tm 14))] [kp [2] [2]]) .ret)))
def q5H:List RV:=[.cell 2 2 true]
/- probecard/sims.Blank$1 (function 55) -/
abbrev q2h:IC:=(.seq (.reg [od 2 (.mv kN)] [kp [0] []]) (.seq (.reg [od 3 (.bsl true 65 1 [(ku 2)]),om 4 0,od 5 (.call 56 [(tm 3),(tm 4)]),om 2 5] [kp [2] []]) .ret))
def q2i:List RV:=[.tmp 2]
/- math/bits.Mul (function 111) -/
abbrev q8p:IC:=(.seq (.reg [od 4 (.mv (.const (.int .u64 0))),od 5 (.mv (.const (.int .u64 0)))] [kp [0,1] []]) (.seq (.cond kF (.seq (.reg [om 11 0,od 12 (.conv .u32 (tm 11)),om 13 1,od 14 (.conv .u32 (tm 13)),od 15 (.call 177 [(tm 12),
 (tm 14)]),om 10 15,od 16 (ex 10 0),od 17 (ex 10 1),om 6 16,om 7 17] [kp [6,7] []]) (.seq (.reg [om 18 6,od 19 (.conv .u64 (tm 18)),om 20 7,od 21 (.conv .u64 (tm 20)),om 4 19,om 5 21] [kp [4,5] []]) .ret)) .skip) (.seq
 (.reg [om 23 0,om 24 1,od 25 (.call 178 [(tm 23),(tm 24)]),om 22 25,od 26 (ex 22 0),od 27 (ex 22 1),om 8 26,om 9 27] [kp [8,9] []]) (.seq (.reg [om 28 8,om 29 9,om 4 28,om 5 29] [kp [4,5] []]) .ret))))
def q8q:List RV:=[.tmp 4,.tmp 5]
/- math/bits.Mul64 (function 178) -/
abbrev q5I:IC:=(.seq (.reg [od 4 (.mv (.const (.int .u64 0))),od 5 (.mv (.const (.int .u64 0)))] [kp [0,1] []]) (.seq (.reg [om 14 0,od 15 (.bin .and (tm 14) (.const (.int .u64 4294967295))),om 6 15] [kp [0,1,6] []]) (.seq (.reg [om 16 0,
 od 17 (.bin .shr (tm 16) (.const (.int .u64 32))),om 7 17] [kp [0,1,6,7] []]) (.seq (.reg [om 18 1,od 19 (.bin .and (tm 18) (.const (.int .u64 4294967295))),om 8 19] [kp [0,1,6,7,8] []]) (.seq (.reg [om 20 1,od 21 (.bin
 .shr (tm 20) (.const (.int .u64 32))),om 9 21] [kp [0,1,6,7,8,9] []]) (.seq (.reg [om 22 6,om 23 8,od 24 (.bin .mul (tm 22) (tm 23)),om 10 24] [kp [0,1,6,7,8,9,10] []]) (.seq (.reg [om 25 7,om 26 8,od 27 (.bin .mul
 (tm 25) (tm 26)),om 28 10,od 29 (.bin .shr (tm 28) (.const (.int .u64 32))),od 30 (.bin .add (tm 27) (tm 29)),om 11 30] [kp [0,1,6,7,9,11] []]) (.seq (.reg [om 31 11,od 32 (.bin .and (tm 31) (.const (.int .u64
 4294967295))),om 12 32] [kp [0,1,6,7,9,11,12] []]) (.seq (.reg [om 33 11,od 34 (.bin .shr (tm 33) (.const (.int .u64 32))),om 13 34] [kp [0,1,6,7,9,12,13] []]) (.seq (.reg [om 35 12,om 36 6,om 37 9,od 38 (.bin
 .mul (tm 36) (tm 37)),od 39 (.bin .add (tm 35) (tm 38)),om 12 39] [kp [0,1,7,9,12,13] []]) (.seq (.reg [om 40 7,om 41 9,od 42 (.bin .mul (tm 40) (tm 41)),om 43 13,od 44 (.bin .add (tm 42) (tm 43)),om 45 12,od 46 (.bin
 .shr (tm 45) (.const (.int .u64 32))),od 47 (.bin .add (tm 44) (tm 46)),om 4 47] [kp [0,1,4] []]) (.seq (.reg [om 48 0,om 49 1,od 50 (.bin .mul (tm 48) (tm 49)),om 5 50] [kp [4,5] []]) .ret))))))))))))
def q5J:List RV:=[.tmp 4,.tmp 5]
end
end Go.Lg
namespace Go.Lg
open Go Go.Proofs
theorem Yc:Ba Tryz.prog 56 Nk 48 2 H7=true:=by kernel_rfl
theorem qAf:Ba Tryz.prog 17 q5G 15 1 q5H=true:=by kernel_rfl
theorem q8B:Ba Tryz.prog 55 q2h 6 1 q2i=true:=by kernel_rfl
theorem qD0:Ba Tryz.prog 111 q8p 30 2 q8q=true:=by kernel_rfl
theorem qAg:Ba Tryz.prog 178 q5I 51 2 q5J=true:=by kernel_rfl
end Go.Lg
namespace Go.Lg
open Go Go.Proofs
variable {Γ:Tables}
theorem qLA {c:Bi} (h:Cf c=0) {p:Pat} (hp:POk c p):∀ v∈Br c p.inn.l p.st.l,V4 v:=by
 have hf:=q1C h p.inn.l p.st.l
 have key:=qGY h (Q:=fun i=>V4 ((Br c p.inn.l p.st.l).getD i 0)) fun i hi hcb=>by
  rw[hf.2 i hi]
  split
  ·rename_i h
   refine qCq fun v hv=>?_
   obtain⟨q,hq,rfl⟩:=xqy.1 hv
   exact(hcb h q hq).2
  ·rw[qGc hp.i hp.s hi]
   split
   ·exact q2B hp.vi _
   split
   ·exact q2B hp.vs _
   ·simp[V4]
 intro v hv
 obtain⟨i,hi,rfl⟩:=xqt hv
 have:=key i (by rw[q74]at hi;exact hi)
 rwa [Be hi]at this
theorem qAh {n:Int} (h1:0<=n) (h2:n<18446744073709551616):IntKind.u64.wrap n=n:=by
 simp[IntKind.wrap,IntKind.signed,IntKind.bits]
 omega
theorem qPc {n:Nat} (h:n<4294967296):IntKind.u64.wrap ((BitVec.ofInt 64 (n:Int) &&& BitVec.ofInt 64 4294967295).toNat:Int)=n:=by
 have e:(BitVec.ofInt 64 (n:Int) &&& BitVec.ofInt 64 4294967295).toNat=n:=by
  rw[BitVec.toNat_and]
  have h1:(BitVec.ofInt 64 (n:Int)).toNat=n:=by
   simp[BitVec.toNat_ofInt];omega
  have h2:(BitVec.ofInt 64 4294967295).toNat=2 ^ 32-1:=by decide
  rw[h1,h2,Nat.and_two_pow_sub_one_eq_mod]
  omega
 rw[e,qAh]<;>omega
theorem qFc {n:Nat} (h:n<4294967296):IntKind.u64.wrap ((BitVec.ofNat 64 n &&& 4294967295#64).toNat:Int)=n:=by
 have:=qPc h
 rwa [show BitVec.ofInt 64 (n:Int)=BitVec.ofNat 64 n from by simp,show BitVec.ofInt 64 4294967295=4294967295#64 from rfl]at this
abbrev tU (n:Int):T:=.v (.int .u64 n)
theorem qFd {n:Nat} (h:n<4294967296):(n:Int).fdiv 4294967296=0:=by
 rw[Int.fdiv_eq_ediv_of_nonneg _ (by omega)];omega
theorem qFe (a b:Nat) (ha:a<65536) (hb:b<65536):A8 Tryz.prog Γ 178 [tU a,tU b] (.tup [tU 0,tU (a*b:Nat)]):=by
 refine Ae qAg rfl ?_
 have hab:a*b<=65535*65535:=Nat.mul_le_mul (by omega) (by omega)
 have a1:=qFc (n:=a) (by omega)
 have b1:=qFc (n:=b) (by omega)
 have z1:=qFc (n:=0) (by omega)
 have a2:=qFd (n:=a) (by omega)
 have b2:=qFd (n:=b) (by omega)
 have c2:=qFd (n:=a*b) (by omega)
 have m32:min (32:Int).toNat 64=32:=by decide
 have c1:IntKind.u64.wrap ((a:Int)*b)=((a*b:Nat):Int):=by rw[<- Int.natCast_mul,qAh]<;>omega
 have z2:IntKind.u64.wrap 0=0:=by decide
 simp[q5I,q5J,IntKind.bits,a1,b1,a2,b2,c1,c2,z1,z2,m32,-Int.natCast_mul]
 erw [a1,b1,c1,c2,z2]
theorem qJS (a b:Nat) (ha:a<65536) (hb:b<65536):A8 Tryz.prog Γ 111 [tU a,tU b] (.tup [tU 0,tU (a*b:Nat)]):=by
 refine Ae qD0 rfl ?_
 simp[q8p]
 refine A4 (qFe a b ha hb) rfl ?_
 simp[q8q]
theorem qJT {j n:Nat} (h1:0<j) (h2:j<n):(List.replicate j [tK 2]++List.replicate (n-j) [tK 0]).take j++((List.replicate j [tK 2]++List.replicate (n-j) [tK 0]).take j).take (min (n-j) j)++(List.replicate j [tK 2]++List.replicate (n-j) [tK 0]).drop (j+min (n-j) j)=List.replicate (j+min (n-j) j) [tK 2]++List.replicate (n-(j+min (n-j) j)) [tK 0]:=by
 have e1:(List.replicate j [tK 2]++List.replicate (n-j) [tK 0]).take j=List.replicate j [tK 2]:=by
  rw[List.take_append_of_le_length (by simp),xqw (by simp)]
 have e2:(List.replicate j [tK 2]).take (min (n-j) j)=List.replicate (min (n-j) j) [tK 2]:=by
  rw[List.take_replicate,Nat.min_eq_left (Nat.min_le_right _ _)]
 rw[e1,e2,<- List.replicate_append_replicate (n:=j),List.drop_append,xq2 (by simp),List.nil_append,List.drop_replicate]
 congr 2
 simp;omega
theorem qEN {Q:AX->St->Prop} (n:Nat) (hn:n<=1000000)
  (h0:Q (.exit 0) ⟨[(7,.ls 30 0 n none),(8,.t (tI n)),(37,.t (tB false))],[(30,.sl 65 1 (List.replicate n [tK 2]))]⟩) :
  ∀ (f j:Nat),n-j<=f->0<j->j<=n ->
  run Tryz.prog Γ Eu Q ⟨[(7,.ls 30 0 n none),(8,.t (tI j))],[(30,.sl 65 1 (List.replicate j [tK 2]++List.replicate (n-j) [tK 0]))]⟩
 | 0,j,hf,h1,h2=>by
  refine Fa fun K hK=>?_
  have h3:j=n:=by omega
  subst h3
  simp
  simpa using h0
 | f+1,j,hf,h1,h2=>by
  refine Fa fun K hK=>?_
  by_cases h3:j=n
  ·subst h3
   simp
   simpa using h0
  ·have h4:j<n:=by omega
   have ih:=qEN n hn h0 f (j+min (n-j) j) (by omega) (by omega) (by omega)
   rw[<- qJT h1 h4]at ih
   have hw:Em 1 (List.replicate j [tK 2]++List.replicate (n-j) [tK 0]):=by
    intro e he
    rcases xzg.1 he with he|he<;>rw[xqx he]<;>rfl
   have hl:(List.replicate j [tK 2]++List.replicate (n-j) [tK 0]).length=n:=by simp;omega
   generalize List.replicate j [tK 2]++List.replicate (n-j) [tK 0]=es at *
   have hwt:Em 1 (es.take j):=fun e he=>hw e (xz6 he)
   have hjn:min j n=j:=by omega
   have w1:IntKind.i64.wrap ((j:Int)+((min (n-j) j:Nat):Int))=((j+min (n-j) j:Nat):Int):=by rw[A7]<;>omega
   simp[h4,h2,hl,hwt,hjn,w1,-Int.natCast_add]
   rw[hK]
   simpa using ih
theorem qEO (n:Nat) (hn:n<=60000):Az Tryz.prog Γ 56 [.sl [[tK 2]] (some 1) (some false),tI n] (.sl (List.replicate n [tK 2]) none none):=by
 refine Bz Yc rfl ?_
 have em:A8 Tryz.prog Γ 111 [tU 1,tU n] (.tup [tU 0,tU n]):=by
  have:=qJS (Γ:=Γ) 1 n (by omega) (by omega)
  rwa [Nat.one_mul]at this
 have u1:IntKind.u64.wrap (n:Int)=n:=by rw[qAh]<;>omega
 have u2:IntKind.u64.wrap 1=1:=by decide
 have u3:IntKind.i64.wrap (n:Int)=n:=by rw[A7]<;>omega
 have u4:¬ (9223372036854775807:Int)<n:=by omega
 have u5:¬ (n:Int)<0:=by omega
 have hw2:Em 1 [[tK 2]]:=by intro e he;simp at he;subst he;rfl
 simp[Nk,u1,u2,u5]
 refine A4 em rfl ?_
 simp[u3,u4]
 refine⟨by omega,?_⟩
 by_cases h0:n=0
 ·subst h0
  simp
  refine Fa fun K hK=>?_
  simp[H7,Ai]
 ·have hm1:min n 1=1:=by omega
  have hdr:(List.replicate n [tK 0]).drop 1=List.replicate (n-1) [tK 0]:=by rw[List.drop_replicate]
  have g:=fun Q h0=>qEN (Γ:=Γ) (Q:=Q) n (by omega) h0 n 1 (by omega) (by omega) (by omega)
  simp at g
  simp[hm1]
  refine g _ ?_
  simp[H7,Ai]
theorem q8r (n:Nat) (hn:n<=60000):Az Tryz.prog Γ 55 [tI n] (.sl (List.replicate n [tK 2]) none none):=by
 refine Bz q8B rfl ?_
 simp[q2h]
 refine Aq (qEO n hn) rfl ?_
 simp[q2i]
theorem qAi (c:Bi) (hc:COk c) (hi:(Bd c).length<=60000) (hs:(B8 c).length<=60000):Az Tryz.prog Γ 17 [.agg (tC c)] (.agg [.sl (Ar (List.replicate (Bd c).length 2)) none none,.sl (Ar (List.replicate (B8 c).length 2)) none none]):=by
 refine Bz qAf rfl ?_
 have e1:=q0J (Γ:=Γ) c hc
 have e2:=Qq (Γ:=Γ) c hc
 have b1:=q8r (Γ:=Γ) (Bd c).length hi
 have b2:=q8r (Γ:=Γ) (B8 c).length hs
 have v1:∀ n,Ar (List.replicate n 2)=List.replicate n [tK 2]:=fun n=>by simp[Au]
 simp[tC,Aa,Ad,Ag,As]at e1 e2
 simp[q5G,tC,Aa,Ad,Ag,As]
 refine Aq e1 rfl ?_
 simp[A6]
 refine Aq b1 rfl ?_
 simp
 refine Aq e2 rfl ?_
 simp[A6]
 refine Aq b2 rfl ?_
 simp[q5H,v1]
theorem Nl {i:Nat} (h:i<=1000000000):IntKind.i64.wrap ((i:Int)+1)=(i:Int)+1:=by rw[A7]<;>omega
def Sl.z:Sl Int:=⟨[],none,none⟩
end Go.Lg
