/- The abstract code of some functions, as the program gen.py prints it. Conditions: none. -/
import Derived.Test.YtnhgdofpomioeaaGreatDoorPkC
import Derived.Test.YtnhgdofpomioeaaGreatDoorProg
import Derived.KernelRfl
import Derived.Test.YtnhgdofpomioeaaGreatDoorPkD
set_option linter.unusedVariables false
namespace Go.Lg
open Go
section
variable {P:Program} {Γ:Tables} {Q:AX→St→Prop} {s:St}
/- probecard/logic.Clean (function 140) -/
abbrev q2u:IC:=(.seq (.reg [od 2 (.mv (ku 0))] [kp [0] []]) (.seq (.seq (.reg [om 3 0,od 4 (.bin .gtr (tm 3) (ku 3))] [kp [0,4] []]) (.cond (tm 4) (.seq (.reg [od 2 (.mv (ku 2))] [kp [2] []]) .ret) .skip)) (.seq (.reg [om 5 0,om 2 5] [kp [2]
 []]) .ret)))
def q2v:List RV:=[.tmp 2]
/- probecard/logic.Read (function 154) -/
abbrev q4A:IC:=(.seq (.reg [od 2 (.mv (ku 0))] [kp [0] []]) (.seq (.reg [om 3 0,od 4 (.mmx false [(tm 3),(ku 2)]),om 2 4] [kp [2] []]) .ret))
def q4B:List RV:=[.tmp 2]
/- probecard/logic.Known (function 31) -/
abbrev q2w:IC:=(.seq (.reg [od 2 (.mv kF)] [kp [0] []]) (.seq (.reg [om 3 0,od 4 (.bin .leq (tm 3) (ku 1)),om 2 4] [kp [2] []]) .ret))
def q2x:List RV:=[.tmp 2]
/- probecard/logic.Not (function 155) -/
abbrev q5w:IC:=(.seq (.reg [od 2 (.mv (ku 0))] [kp [0] []]) (.seq (.seq (.reg [om 3 0,od 4 (.call 31 [(tm 3)])] [kp [0,4] []]) (.cond (tm 4) (.seq (.reg [om 5 0,od 6 (.bin .sub (ku 1) (tm 5)),om 2 6] [kp [2] []]) .ret) .skip)) (.seq (.reg [od
 2 (.mv (ku 2))] [kp [2] []]) .ret)))
def q1c:List RV:=[.tmp 2]
/- probecard/logic.decided (function 213) -/
abbrev q0l:IC:=.gh (.seq (.reg [od 14 (.bin .lss (tm 13) (tm 12))] [kp [1,2,7,11,12,13,14] []]) (.seq (.cond (tm 14) .skip (.exit 0)) (.seq (.block 1 (.seq (.reg [od 15 (ia 1 11 13),od 16 (ld 1 15),om 9 16] [kp [1,2,7,9,11,12,13]
 []]) (.block 2 (.seq (.reg [om 18 9,om 19 1,od 20 (.bin .eql (tm 18) (tm 19)),om 17 20] [kp [1,2,7,9,11,12,13,17] []]) (.cond (tm 17) (.seq (.reg [om 21 1,om 6 21] [kp [6] []]) .ret) (.seq (.reg [om 23 9,om 24 2,od 25
 (.bin .neq (tm 23) (tm 24)),om 22 25] [kp [1,2,7,11,12,13,22] []]) (.cond (tm 22) (.reg [od 7 (.mv (ku 2))] [kp [1,2,7,11,12,13] []]) .skip))))))) (.reg [od 26 (.bin .add (tm 13) (ki 1)),om 13 26] [kp [1,2,7,11,12,
 13] []])))) [kp [1,2,7,11,12,13] []]
def La:IC:=.loop q0l
abbrev q0m:IC:=(.seq (.reg [od 6 (.mv (ku 0))] [kp [0,1,2] []]) (.seq (.reg [om 10 2,om 7 10] [kp [0,1,2,7] []]) (.seq (.seq (.reg [om 11 0,od 12 (le 0 11),od 13 (.mv (ki 0))] [kp [1,2,7,11,12,13] []]) (.block 0 La))
 (.seq (.reg [om 27 7,om 6 27] [kp [6] []]) .ret))))
theorem Uc (h:∀ K:St→Prop,K=run P Γ La Q→run P Γ q0l (As K Q) s):run P Γ La Q s:=Ah h
def Sr:List RV:=[.tmp 6]
/- probecard/logic.And (function 156) -/
abbrev q5x:IC:=(.seq (.reg [od 2 (.mv (ku 0))] [kp [0] []]) (.seq (.reg [om 3 0,od 4 (.call 213 [(tm 3),(ku 0),(ku 1)]),om 2 4] [kp [2] []]) .ret))
def q5y:List RV:=[.tmp 2]
/- probecard/logic.Or (function 157) -/
abbrev q7S:IC:=(.seq (.reg [od 2 (.mv (ku 0))] [kp [0] []]) (.seq (.reg [om 3 0,od 4 (.call 213 [(tm 3),(ku 1),(ku 0)]),om 2 4] [kp [2] []]) .ret))
def q7T:List RV:=[.tmp 2]
/- probecard/logic.Xor (function 158) -/
abbrev q5z:IC:=.gh (.seq (.reg [od 9 (.bin .lss (tm 8) (tm 7))] [kp [3,6,7,8,9] []]) (.seq (.cond (tm 9) .skip (.exit 0)) (.seq (.block 1 (.seq (.reg [od 10 (ia 1 6 8),od 11 (ld 1 10),om 5 11] [kp [3,5,6,7,8] []]) (.seq (.seq (.reg [om
 12 5,od 13 (.call 31 [(tm 12)]),od 14 (.un .not (tm 13))] [kp [3,5,6,7,8,14] []]) (.cond (tm 14) (.seq (.reg [od 2 (.mv (ku 2))] [kp [2] []]) .ret) .skip)) (.reg [om 15 3,om 16 5,od 17 (.bin .xor (tm 15) (tm 16)),om 3 17]
 [kp [3,6,7,8] []])))) (.reg [od 18 (.bin .add (tm 8) (ki 1)),om 8 18] [kp [3,6,7,8] []])))) [kp [3,6,7,8] []]
def Wl:IC:=.loop q5z
abbrev q60:IC:=(.seq (.reg [od 2 (.mv (ku 0))] [kp [0] []]) (.seq (.reg [od 3 (.mv (ku 0))] [kp [0,3] []]) (.seq (.seq (.reg [om 6 0,od 7 (le 0 6),od 8 (.mv (ki 0))] [kp [3,6,7,8] []]) (.block 0 Wl)) (.seq (.reg [om 19 3,om 2 19]
 [kp [2] []]) .ret))))
theorem q0n (h:∀ K:St→Prop,K=run P Γ Wl Q→run P Γ q5z (As K Q) s):run P Γ Wl Q s:=Ah h
def q1d:List RV:=[.tmp 2]
/- probecard/logic.Mux (function 159) -/
abbrev Q8:IC:=(.seq (.reg [od 6 (.mv (ku 0))] [kp [0,1,2] []]) (.seq (.block 0 (.seq (.reg [om 8 0,od 9 (.bin .eql (tm 8) (ku 0)),om 7 9] [kp [0,1,2,7] []]) (.cond (tm 7) (.seq (.reg [om 10 1,od 11 (.call 154 [(tm 10)]),om 6 11] [kp [6]
 []]) .ret) (.seq (.reg [om 13 0,od 14 (.bin .eql (tm 13) (ku 1)),om 12 14] [kp [1,2,12] []]) (.cond (tm 12) (.seq (.reg [om 15 2,od 16 (.call 154 [(tm 15)]),om 6 16] [kp [6] []]) .ret) (.seq (.reg [om 18 1,om 19 2,od 20
 (.bin .eql (tm 18) (tm 19)),om 17 20] [kp [1,17] []]) (.cond (tm 17) (.seq (.reg [om 21 1,od 22 (.call 154 [(tm 21)]),om 6 22] [kp [6] []]) .ret) .skip))))))) (.seq (.reg [od 6 (.mv (ku 2))] [kp [6] []]) .ret)))
def Q9:List RV:=[.tmp 6]
/- probecard/logic.Tri (function 160) -/
abbrev Wm:IC:=(.seq (.reg [od 4 (.mv (ku 0))] [kp [0,1] []]) (.seq (.seq (.reg [om 5 0] [kp [1,5] []]) (.block 0 (.seq (.reg [od 7 (.bin .eql (tm 5) (ku 0)),om 6 7] [kp [1,5,6] []]) (.cond (tm 6) (.seq (.reg [od 4 (.mv (ku 3))] [kp [4] []])
 .ret) (.seq (.reg [od 9 (.bin .eql (tm 5) (ku 1)),om 8 9] [kp [1,8] []]) (.cond (tm 8) (.seq (.reg [om 10 1,od 11 (.call 154 [(tm 10)]),om 4 11] [kp [4] []]) .ret) .skip)))))) (.seq (.reg [od 4 (.mv (ku 2))] [kp [4] []])
 .ret)))
def Wn:List RV:=[.tmp 4]
/- probecard/logic.Bus (function 161) -/
abbrev q61:IC:=(.seq (.reg [od 2 (.mv (ku 0))] [kp [0] []]) (.seq (.reg [od 3 (.mv (.func 214))] [kp [0,3] []]) (.seq (.reg [od 4 (.mv (.func 215))] [kp [0,3,4] []]) (.seq (.reg [om 6 0,om 7 4,od 8 (.call 171 [(tm 6),(tm 7)]),om 5 8] [kp
 [0,3,5] []]) (.seq (.block 0 (.seq (.reg [om 10 5,od 11 (.bin .lss (tm 10) (ki 0)),om 9 11] [kp [0,3,5,9] []]) (.cond (tm 9) (.seq (.reg [od 2 (.mv (ku 3))] [kp [2] []]) .ret) (.seq (.reg [om 13 0,od 14 (.call 216 [(tm
 13)]),om 15 14,oF 16 (.mv (tm 0)) 15,oF 17 (.mv (tm 3)) 15,oF 18 (.call 101 [(tm 16),(tm 17)]) 15,od 19 (.pick (tm 15) kT (tm 18)),om 12 19] [kp [0,5,12] []]) (.cond (tm 12) (.seq (.reg [od 2 (.mv (ku 2))] [kp [2] []])
 .ret) .skip))))) (.seq (.reg [om 20 0,om 21 5,od 22 (ia 1 20 21),od 23 (ld 1 22),om 2 23] [kp [2] []]) .ret))))))
def Qa:List RV:=[.tmp 2]
/- probecard/logic.Bus$1 (function 214) -/
abbrev q2y:IC:=(.seq (.reg [od 2 (.mv kF)] [kp [0] []]) (.seq (.reg [om 3 0,od 4 (.call 140 [(tm 3)]),od 5 (.bin .eql (tm 4) (ku 2)),om 2 5] [kp [2] []]) .ret))
def q2z:List RV:=[.tmp 2]
/- probecard/logic.Bus$2 (function 215) -/
abbrev q30:IC:=(.seq (.reg [od 2 (.mv kF)] [kp [0] []]) (.seq (.reg [om 3 0,od 4 (.bin .neq (tm 3) (ku 3)),om 2 4] [kp [2] []]) .ret))
def q31:List RV:=[.tmp 2]
/- probecard/logic.Conflict (function 216) -/
abbrev Zc:IC:=(.seq (.reg [od 2 (.mv kF)] [kp [0] []]) (.seq (.reg [om 3 0,od 4 (.call 255 [(tm 3),(ku 0)]),om 5 4,oT 6 (.mv (tm 0)) 5,oT 7 (.call 255 [(tm 6),(ku 1)]) 5,od 8 (.pick (tm 5) (tm 7) kF),om 2 8] [kp [2] []]) .ret))
def Qb:List RV:=[.tmp 2]
/- slices.Contains[[]probecard/api.Value,probecard/api.Value] (function 255) -/
abbrev It:IC:=(.seq (.reg [od 4 (.mv kF)] [kp [0,1] []]) (.seq (.reg [om 5 0,om 6 1,od 7 (.call 274 [(tm 5),(tm 6)]),od 8 (.bin .geq (tm 7) (ki 0)),om 4 8] [kp [4] []]) .ret))
def Iu:List RV:=[.tmp 4]
/- slices.Index[[]probecard/api.Value,probecard/api.Value] (function 274) -/
abbrev Lx:IC:=.gh (.seq (.reg [od 9 (.bin .lss (tm 8) (tm 7))] [kp [0,1,7,8,9] []]) (.seq (.cond (tm 9) .skip (.exit 0)) (.seq (.block 1 (.seq (.reg [om 10 8,om 5 10] [kp [0,1,5,7,8] []]) (.seq (.reg [om 11 1,om 12 0,om 13 5,od 14
 (ia 1 12 13),od 15 (ld 1 14),od 16 (.bin .eql (tm 11) (tm 15))] [kp [0,1,5,7,8,16] []]) (.cond (tm 16) (.seq (.reg [om 17 5,om 4 17] [kp [4] []]) .ret) .skip)))) (.reg [od 18 (.bin .add (tm 8) (ki 1)),om 8 18] [kp [0,1,
 7,8] []])))) [kp [0,1,7,8] []]
def E6:IC:=.loop Lx
def Gq:List RO:=[od 4 (.mv (.const (.int .i64 (-1))))]
abbrev Ly:IC:=(.seq (.reg [od 4 (.mv (ki 0))] [kp [0,1] []]) (.seq (.seq (.reg [om 6 0,od 7 (le 0 6),od 8 (.mv (ki 0))] [kp [0,1,7,8] []]) (.block 0 E6)) (.seq (.reg Gq [kp [4] []]) .ret)))
theorem I4 (h:∀ K:St→Prop,K=run P Γ E6 Q→run P Γ Lx (As K Q) s):run P Γ E6 Q s:=Ah h
attribute [simp] Gq
def Di:List RV:=[.tmp 4]
/- slices.ContainsFunc[[]probecard/api.Value,probecard/api.Value] (function 101) -/
abbrev Gz:IC:=(.seq (.reg [od 4 (.mv kF)] [kp [0,1] []]) (.seq (.reg [om 5 0,om 6 1,od 7 (.call 171 [(tm 5),(tm 6)]),od 8 (.bin .geq (tm 7) (ki 0)),om 4 8] [kp [4] []]) .ret))
def H2:List RV:=[.tmp 4]
/- slices.IndexFunc[[]probecard/api.Value,probecard/api.Value] (function 171) -/
abbrev I5:IC:=.gh (.seq (.reg [od 9 (.bin .lss (tm 8) (tm 7))] [kp [0,1,7,8,9] []]) (.seq (.cond (tm 9) .skip (.exit 0)) (.seq (.block 1 (.seq (.reg [om 10 8,om 5 10] [kp [0,1,5,7,8] []]) (.seq (.reg [om 11 1,om 12 0,om 13 5,od 14
 (ia 1 12 13),od 15 (ld 1 14),od 16 (.callv (tm 11) [(tm 15)])] [kp [0,1,5,7,8,16] []]) (.cond (tm 16) (.seq (.reg [om 17 5,om 4 17] [kp [4] []]) .ret) .skip)))) (.reg [od 18 (.bin .add (tm 8) (ki 1)),om 8 18] [kp [0,1,7,
 8] []])))) [kp [0,1,7,8] []]
def Dk:IC:=.loop I5
abbrev I6:IC:=(.seq (.reg [od 4 (.mv (ki 0))] [kp [0,1] []]) (.seq (.seq (.reg [om 6 0,od 7 (le 0 6),od 8 (.mv (ki 0))] [kp [0,1,7,8] []]) (.block 0 Dk)) (.seq (.reg [od 4 (.mv (.const (.int .i64 (-1))))] [kp [4]
 []]) .ret)))
theorem Gk (h:∀ K:St→Prop,K=run P Γ Dk Q→run P Γ I5 (As K Q) s):run P Γ Dk Q s:=Ah h
def Em:List RV:=[.tmp 4]
/- probecard/logic.Eval (function 86) -/
abbrev Bm:IC:=(.seq (.reg [od 4 (.mv (ku 0))] [kp [0,1] []]) (.seq (.seq (.reg [om 8 0,od 9 (.call 153 [(tm 8)]),om 7 9,od 10 (ex 7 0),od 11 (ex 7 1),om 5 10,om 6 11] [kp [0,1,5,6] []]) (.seq (.reg [om 12 1,od 13 (le 0 12),om 14 5,
 od 15 (.bin .lss (tm 13) (tm 14)),om 16 15,oF 17 (.mv (tm 1)) 16,oF 18 (le 0 17) 16,oF 19 (.mv (tm 6)) 16,oF 20 (.bin .gtr (tm 18) (tm 19)) 16,od 21 (.pick (tm 16) kT (tm 20))] [kp [0,1,21] []]) (.cond (tm 21) (.seq (.reg
 [od 4 (.mv (ku 2))] [kp [4] []]) .ret) .skip))) (.seq (.seq (.reg [om 22 0] [kp [1,22] []]) (.block 0 (.seq (.reg [od 24 (.bin .eql (tm 22) (ku 1)),om 23 24] [kp [1,22,23] []]) (.cond (tm 23) (.seq (.reg [od 4 (.mv (ku 0))] [kp
 [4] []]) .ret) (.seq (.reg [od 26 (.bin .eql (tm 22) (ku 2)),om 25 26] [kp [1,22,25] []]) (.cond (tm 25) (.seq (.reg [od 4 (.mv (ku 1))] [kp [4] []]) .ret) (.seq (.reg [od 28 (.bin .eql (tm 22) (ku 3)),om 27 28] [kp [1,22,27]
 []]) (.cond (tm 27) (.seq (.reg [om 29 1,od 30 (.iadr 1 (tm 29) (ki 0)),od 31 (ld 1 30),od 32 (.call 154 [(tm 31)]),om 4 32] [kp [4] []]) .ret) (.seq (.reg [od 34 (.bin .eql (tm 22) (ku 4)),om 33 34] [kp [1,22,33] []])
 (.cond (tm 33) (.seq (.reg [om 35 1,od 36 (.iadr 1 (tm 35) (ki 0)),od 37 (ld 1 36),od 38 (.call 155 [(tm 37)]),om 4 38] [kp [4] []]) .ret) (.seq (.reg [od 40 (.bin .eql (tm 22) (ku 5)),om 39 40] [kp [1,22,39] []]) (.cond (tm
 39) (.seq (.reg [om 41 1,od 42 (.call 156 [(tm 41)]),om 4 42] [kp [4] []]) .ret) (.seq (.reg [od 44 (.bin .eql (tm 22) (ku 6)),om 43 44] [kp [1,22,43] []]) (.cond (tm 43) (.seq (.reg [om 45 1,od 46 (.call 156 [(tm 45)]),od
 47 (.call 155 [(tm 46)]),om 4 47] [kp [4] []]) .ret) (.seq (.reg [od 49 (.bin .eql (tm 22) (ku 7)),om 48 49] [kp [1,22,48] []]) (.cond (tm 48) (.seq (.reg [om 50 1,od 51 (.call 157 [(tm 50)]),om 4 51] [kp [4] []]) .ret) (.seq
 (.reg [od 53 (.bin .eql (tm 22) (ku 8)),om 52 53] [kp [1,22,52] []]) (.cond (tm 52) (.seq (.reg [om 54 1,od 55 (.call 157 [(tm 54)]),od 56 (.call 155 [(tm 55)]),om 4 56] [kp [4] []]) .ret) (.seq (.reg [od 58 (.bin .eql (tm
 22) (ku 9)),om 57 58] [kp [1,22,57] []]) (.cond (tm 57) (.seq (.reg [om 59 1,od 60 (.call 158 [(tm 59)]),om 4 60] [kp [4] []]) .ret) (.seq (.reg [od 62 (.bin .eql (tm 22) (ku 10)),om 61 62] [kp [1,22,61] []]) (.cond (tm 61)
 (.seq (.reg [om 63 1,od 64 (.call 158 [(tm 63)]),od 65 (.call 155 [(tm 64)]),om 4 65] [kp [4] []]) .ret) (.seq (.reg [od 67 (.bin .eql (tm 22) (ku 11)),om 66 67] [kp [1,22,66] []]) (.cond (tm 66) (.seq (.reg [om 68 1,od 69
 (.iadr 1 (tm 68) (ki 0)),od 70 (ld 1 69),om 71 1,od 72 (.iadr 1 (tm 71) (ki 1)),od 73 (ld 1 72),om 74 1,od 75 (.iadr 1 (tm 74) (ki 2)),od 76 (ld 1 75),od 77 (.call 159 [(tm 70),(tm 73),(tm 76)]),om 4 77] [kp [4] []])
 .ret) (.seq (.reg [od 79 (.bin .eql (tm 22) (ku 12)),om 78 79] [kp [1,22,78] []]) (.cond (tm 78) (.seq (.reg [om 80 1,od 81 (.iadr 1 (tm 80) (ki 0)),od 82 (ld 1 81),om 83 1,od 84 (.iadr 1 (tm 83) (ki 1)),od 85 (ld 1 84),od
 86 (.call 160 [(tm 82),(tm 85)]),om 4 86] [kp [4] []]) .ret) (.seq (.reg [od 88 (.bin .eql (tm 22) (ku 13)),om 87 88] [kp [1,87] []]) (.cond (tm 87) (.seq (.reg [om 89 1,od 90 (.call 161 [(tm 89)]),om 4 90] [kp [4] []]) .ret)
 .skip)))))))))))))))))))))))))))) (.seq (.reg [od 4 (.mv (ku 2))] [kp [4] []]) .ret))))
def Bf:List RV:=[.tmp 4]
end
end Go.Lg
namespace Go.Lg
open Go Go.Proofs
theorem q7o:Aw Tryz.prog 140 q2u 6 1 q2v=true:=by kernel_rfl
theorem q8v:Aw Tryz.prog 154 q4A 5 1 q4B=true:=by kernel_rfl
theorem q7p:Aw Tryz.prog 31 q2w 5 1 q2x=true:=by kernel_rfl
theorem q9e:Aw Tryz.prog 155 q5w 7 1 q1c=true:=by kernel_rfl
theorem q62:Aw Tryz.prog 213 q0m 28 3 Sr=true:=by kernel_rfl
theorem q9f:Aw Tryz.prog 156 q5x 5 1 q5y=true:=by kernel_rfl
theorem qB5:Aw Tryz.prog 157 q7S 5 1 q7T=true:=by kernel_rfl
theorem q9g:Aw Tryz.prog 158 q60 20 1 q1d=true:=by kernel_rfl
theorem q9h:Aw Tryz.prog 159 Q8 23 3 Q9=true:=by kernel_rfl
theorem q9i:Aw Tryz.prog 160 Wm 12 2 Wn=true:=by kernel_rfl
theorem q9j:Aw Tryz.prog 161 q61 24 1 Qa=true:=by kernel_rfl
theorem q7q:Aw Tryz.prog 214 q2y 6 1 q2z=true:=by kernel_rfl
theorem q7r:Aw Tryz.prog 215 q30 5 1 q31=true:=by kernel_rfl
theorem q51:Aw Tryz.prog 216 Zc 9 1 Qb=true:=by kernel_rfl
theorem Ud:Aw Tryz.prog 255 It 9 2 Iu=true:=by kernel_rfl
theorem Xv:Aw Tryz.prog 274 Ly 19 2 Di=true:=by kernel_rfl
theorem Pl:Aw Tryz.prog 101 Gz 9 2 H2=true:=by kernel_rfl
theorem Ss:Aw Tryz.prog 171 I6 19 2 Em=true:=by kernel_rfl
theorem q8w:Aw Tryz.prog 86 Bm 91 2 Bf=true:=by kernel_rfl
end Go.Lg
set_option linter.unusedSimpArgs false
set_option maxRecDepth 100000
namespace Go.Lg
open Go Go.Proofs
variable {Γ:Tables}
theorem q52 (v:Int):A6 Tryz.prog Γ 140 [tK v] (tK (F4 v)):=by
 refine Ab q7o rfl ?_
 by_cases h:3<v <;> simp [q2u,q2v,Av,F4,h]
theorem Su (v:Int):A6 Tryz.prog Γ 154 [tK v] (tK (P6 v)):=by
 refine Ab q8v rfl ?_
 by_cases h:v<2 <;> simp [q4A,q4B,Av,P6,h,q0R,Hn] <;> omega
theorem Sv (v:Int):A6 Tryz.prog Γ 31 [tK v] (tB (N2 v)):=by
 refine Ab q7p rfl ?_
 simp [q2w,q2x,Av,N2]
theorem q63 (v:Int) (h0:0≤v):A6 Tryz.prog Γ 155 [tK v] (tK (q0J v)):=by
 refine Ab q9e rfl ?_
 simp [q5w]
 refine A3 (Sv v) rfl ?_
 by_cases h:v≤1
 ·simp (disch:=omega) [q1c,Av,N2,q0J,h,Bj]
 ·simp (disch:=omega) [q1c,Av,N2,q0J,h,Bj]
theorem qGs (s a b:Int):A6 Tryz.prog Γ 159 [tK s,tK a,tK b] (tK (q9d s a b)):=by
 refine Ab q9h rfl ?_
 by_cases h:s=0
 ·simp [Q8,h]
  refine A3 (Su a) rfl ?_
  simp [Q9,Av,q9d,h]
 by_cases h1:s=1
 ·simp [Q8,h1]
  refine A3 (Su b) rfl ?_
  simp [Q9,Av,q9d,h1]
 by_cases h2:a=b
 ·simp [Q8,h,h1,h2]
  refine A3 (Su b) rfl ?_
  simp [Q9,Av,q9d,h,h1,h2]
 ·simp [Q8,h,h1,h2,Q9,Av,q9d]
theorem qGt (e d:Int):A6 Tryz.prog Γ 160 [tK e,tK d] (tK (qB2 e d)):=by
 refine Ab q9i rfl ?_
 by_cases h:e=0
 ·simp [Wm,h,Wn,Av,qB2]
 by_cases h1:e=1
 ·simp [Wm,h1]
  refine A3 (Su d) rfl ?_
  simp [Wn,Av,qB2,h1]
 ·simp [Wm,h,h1,Wn,Av,qB2]
abbrev Az (l:List Int):List (List T):=Af tK l
def tV (s:Sl Int):T:=.sl (Az s.l) s.cap s.nl
theorem q1e {Q:AX→St→Prop} (l:List Int) (c:Option Nat) (nl:Option Bool) (low high:Int) (hl:l.length≤1000000000) (R:Int)
  (h0:Q (.exit 0) ⟨[(1,.t (tK low)),(2,.t (tK high)),(7,.t (tK R)),(11,.t (.sl (Az l) c nl)),(12,.t (tI l.length)),(13,.t (tI l.length)),(14,.t (tB false))],[]⟩)
  (h1:R=low→Q .ret ⟨[(6,.t (tK low))],[]⟩):∀ (k i:Nat) (out:Int),k+i=l.length→Nj low high out (l.drop i)=R →
  run Tryz.prog Γ La Q ⟨[(1,.t (tK low)),(2,.t (tK high)),(7,.t (tK out)),(11,.t (.sl (Az l) c nl)),(12,.t (tI l.length)),(13,.t (tI i))],[]⟩
 | 0,i,out,h,hR=>by
  refine Uc fun K hK=>?_
  have h2:¬ i<l.length:=by omega
  rw [List.drop_of_length_le (by omega)] at hR
  simp only [Nj] at hR
  subst hR
  have h3:i=l.length:=by omega
  simp [h2]
  subst h3
  exact h0
 | k+1,i,out,h,hR=>by
  refine Uc fun K hK=>?_
  have h2:i<l.length:=by omega
  rw [List.drop_eq_getElem_cons h2] at hR
  simp only [Nj] at hR
  have hget:=Bw (f:=tK) 0 h2
  simp only [List.getElem?_eq_getElem h2,Option.getD_some] at hget
  generalize l[i]=v at *
  by_cases a1:v=low
  ·rw [if_pos a1] at hR
   simp (disch:=omega) [h2,A0,hget,A8,A5,a1]
   exact h1 hR.symm
  ·by_cases a2:v=high
   ·rw [if_neg a1,if_neg (by simp [a2])] at hR
    have ih:=q1e l c nl low high hl R h0 h1 k (i+1) out (by omega) hR
    have a1':¬ high=low:=by rw [← a2]; exact a1
    simp (disch:=omega) [h2,A0,hget,A8,A5,a1',a2]
    rw [hK]
    exact_mod_cast ih
   ·rw [if_neg a1,if_pos a2] at hR
    have ih:=q1e l c nl low high hl R h0 h1 k (i+1) 2 (by omega) hR
    simp (disch:=omega) [h2,A0,hget,A8,A5,a1,a2]
    rw [hK]
    exact_mod_cast ih
theorem q64 (l:List Int) (c:Option Nat) (nl:Option Bool) (low high:Int) (hl:l.length≤1000000000):A6 Tryz.prog Γ 213 [.sl (Az l) c nl,tK low,tK high] (tK (Nj low high high l)):=by
 refine Ab q62 rfl ?_
 simp (disch:=omega) [q0m,A0,A5]
 refine q1e l c nl low high hl (Nj low high high l) ?_ (fun h=>?_) l.length 0 high (by omega) (by simp)
 ·simp [Sr,Av]
 ·simp [Sr,Av,h]
theorem qCC (l:List Int) (c:Option Nat) (nl:Option Bool) (hl:l.length≤1000000000):A6 Tryz.prog Γ 156 [.sl (Az l) c nl] (tK (Nj 0 1 1 l)):=by
 refine Ab q9f rfl ?_
 simp [q5x]
 refine A3 (q64 l c nl 0 1 hl) rfl ?_
 simp [q5y,Av]
theorem qEY (l:List Int) (c:Option Nat) (nl:Option Bool) (hl:l.length≤1000000000):A6 Tryz.prog Γ 157 [.sl (Az l) c nl] (tK (Nj 1 0 0 l)):=by
 refine Ab qB5 rfl ?_
 simp [q7S]
 refine A3 (q64 l c nl 1 0 hl) rfl ?_
 simp [q7T,Av]
theorem qIV {a b:Int} (ha:a=0∨a=1) (hb:b=0∨b=1):IntKind.u8.wrap ((BitVec.ofInt IntKind.u8.bits a ^^^ BitVec.ofInt IntKind.u8.bits b).toNat:Int)=qGo a b:=by
 rcases ha with rfl | rfl <;> rcases hb with rfl | rfl <;> decide
theorem qCD {Q:AX→St→Prop} (l:List Int) (c:Option Nat) (nl:Option Bool) (hl:l.length≤1000000000) (hv:∀ v ∈ l,0≤v) (R:Int)
  (h0:Q (.exit 0) ⟨[(3,.t (tK R)),(6,.t (.sl (Az l) c nl)),(7,.t (tI l.length)),(8,.t (tI l.length)),(9,.t (tB false))],[]⟩)
  (h1:R=2→Q .ret ⟨[(2,.t (tK 2))],[]⟩):∀ (k i:Nat) (out:Int),k+i=l.length→(out=0∨out=1)→q2q out (l.drop i)=R →
  run Tryz.prog Γ Wl Q ⟨[(3,.t (tK out)),(6,.t (.sl (Az l) c nl)),(7,.t (tI l.length)),(8,.t (tI i))],[]⟩
 | 0,i,out,h,ho,hR=>by
  refine q0n fun K hK=>?_
  have h2:¬ i<l.length:=by omega
  rw [List.drop_of_length_le (by omega)] at hR
  simp only [q2q] at hR
  subst hR
  have h3:i=l.length:=by omega
  simp [h2]
  subst h3
  exact h0
 | k+1,i,out,h,ho,hR=>by
  refine q0n fun K hK=>?_
  have h2:i<l.length:=by omega
  rw [List.drop_eq_getElem_cons h2] at hR
  simp only [q2q] at hR
  have hget:=Bw (f:=tK) 0 h2
  simp only [List.getElem?_eq_getElem h2,Option.getD_some] at hget
  have hv0:=hv _ (List.getElem_mem h2)
  generalize l[i]=v at *
  by_cases a1:v≤1
  ·rw [if_pos a1] at hR
   have ih:=qCD l c nl hl hv R h0 h1 k (i+1) (qGo out v) (by omega) (by unfold qGo; split <;> simp) hR
   simp (disch:=omega) [h2,A0,hget,A8,A5]
   refine A3 (Sv v) rfl ?_
   have hx:=qIV ho (show v=0∨v=1 by omega)
   simp (disch:=omega) [N2,a1,↓hx,A5]
   rw [hK]
   exact_mod_cast ih
  ·rw [if_neg a1] at hR
   simp (disch:=omega) [h2,A0,hget,A8,A5]
   refine A3 (Sv v) rfl ?_
   simp (disch:=omega) [N2,a1]
   exact h1 hR.symm
theorem qCE (l:List Int) (c:Option Nat) (nl:Option Bool) (hl:l.length≤1000000000) (hv:∀ v ∈ l,0≤v):A6 Tryz.prog Γ 158 [.sl (Az l) c nl] (tK (q2q 0 l)):=by
 refine Ab q9g rfl ?_
 simp (disch:=omega) [q60,A0,A5]
 refine qCD l c nl hl hv (q2q 0 l) ?_ (fun h=>?_) l.length 0 0 (by omega) (.inl rfl) (by simp)
 ·simp [q1d,Av]
 ·simp [q1d,Av,h]
theorem q32 (l:List Int) (c:Option Nat) (nl:Option Bool) (x:Int) (hl:l.length≤1000000000):∀ (k i:Nat),k+i=l.length→(∀ j,j<i→∀ y,l[j]? = some y→(y == x)=false) →
  run Tryz.prog Γ E6 (M9 0 (As (run Tryz.prog Γ (.seq (.reg Gq [.keep [4] []]) .ret) (ret true Di fun r=>r=tI (q0E (· == x) l))) (ret true Di fun r=>r=tI (q0E (· == x) l)))) ⟨[(0,.t (.sl (Af tK l) c nl)),(1,.t (tK x)),(7,.t (tI l.length)),(8,.t (tI i))],[]⟩
 | 0,i,h,hp=>by
  refine I4 fun K hK=>?_
  have h2:¬ i<l.length:=by omega
  simp (disch:=omega) [A0,Bw (0:Int),A8,A5,h2,ret,Di,Dm,Fo,Fj,Av]
  have:l.findIdx? (· == x)=none:=by
   rw [List.findIdx?_eq_none_iff]
   intro y hy
   obtain ⟨j,hj,rfl⟩:=List.getElem_of_mem hy
   exact hp j (by omega) _ (List.getElem?_eq_getElem hj)
  have e:l.findIdx? (fun y=>decide (y=x))=_:=this
  simp [q0E,e]
 | k+1,i,h,hp=>by
  refine I4 fun K hK=>?_
  have h2:i<l.length:=by omega
  simp (disch:=omega) [A0,Bw (0:Int),A8,A5,h2]
  refine ⟨fun hc=>?_,fun hc=>?_⟩
  ·simp [Bh,ret,Di,Dm,Fo,Fj,Av]
   have:=q1U (p:=(· == x)) hp l[i] (List.getElem?_eq_getElem h2) (by simp [hc])
   have e:l.findIdx? (fun y=>decide (y=x))=_:=this
   simp [q0E,e]
  ·simp (disch:=omega) [Bh,A5]
   rw [hK]
   exact_mod_cast q32 l c nl x hl k (i+1) (by omega) (fun j hj y hy=>by
    rcases Nat.lt_succ_iff_lt_or_eq.1 hj with hj | rfl
    ·exact hp j hj y hy
    ·rw [List.getElem?_eq_getElem h2] at hy; simp at hy; subst hy
     simp; exact fun e=>hc e.symm)
theorem qFZ (l:List Int) (c:Option Nat) (nl:Option Bool) (x:Int) (hl:l.length≤1000000000):A6 Tryz.prog Γ 274 [.sl (Af tK l) c nl,tK x] (tI (q0E (· == x) l)):=by
 refine Ab Xv rfl ?_
 simp (disch:=omega) [Ly,A0,A5]
 exact_mod_cast q32 l c nl x hl l.length 0 (by omega) (by simp)
theorem q65 (l:List Int) (c:Option Nat) (nl:Option Bool) (x:Int) (hl:l.length≤1000000000):A6 Tryz.prog Γ 255 [.sl (Af tK l) c nl,tK x] (tB (l.contains x)):=by
 refine Ab Ud rfl ?_
 simp (disch:=omega) [It,A0,A5]
 refine A3 (qFZ l c nl x hl) rfl ?_
 simp [ret,Iu,Dm,Fo,Fj,Av]
 unfold q0E
 cases h:l.findIdx? (· == x) with
 | none =>
  rw [List.findIdx?_eq_none_iff] at h
  have:¬ x ∈ l:=fun hx=>by simpa using h x hx
  simp [this]
 | some i =>
  rw [List.findIdx?_eq_some_iff_getElem] at h
  obtain ⟨hi,h1,_⟩:=h
  have:x ∈ l:=by rw [← (show l[i]=x by simpa using h1)]; exact List.getElem_mem hi
  simp [this]
theorem Xw {Q:AX→St→Prop} (l:List Int) (c:Option Nat) (nl:Option Bool) (f:FuncId) (cs:List T) (p:Int→Bool) (hp:∀ x ∈ l,A6 Tryz.prog Γ f (tK x::cs) (tB (p x))) (hl:l.length≤1000000000)
  (h0:(∀ x ∈ l,p x=false)→Q (.exit 0) ⟨[(0,.t (.sl (Af tK l) c nl)),(1,.t (.fn f cs)),(7,.t (tI l.length)),(8,.t (tI l.length)),(9,.t (tB false))],[]⟩)
  (h1:∀ i:Nat,l.findIdx? p=some i→Q .ret ⟨[(4,.t (tI i))],[]⟩):∀ (k i:Nat),k+i=l.length→(∀ j,j<i→∀ y,l[j]? = some y→p y=false) →
  run Tryz.prog Γ Dk Q ⟨[(0,.t (.sl (Af tK l) c nl)),(1,.t (.fn f cs)),(7,.t (tI l.length)),(8,.t (tI i))],[]⟩
 | 0,i,h,hq=>by
  refine Gk fun K hK=>?_
  have h2:¬ i<l.length:=by omega
  simp (disch:=omega) [A0,Bw (0:Int),A8,A5,h2]
  have h3:i=l.length:=by omega
  subst h3
  refine h0 fun y hy=>?_
  obtain ⟨j,hj,rfl⟩:=List.getElem_of_mem hy
  exact hq j (by omega) _ (List.getElem?_eq_getElem hj)
 | k+1,i,h,hq=>by
  refine Gk fun K hK=>?_
  have h2:i<l.length:=by omega
  simp (disch:=omega) [A0,Bw (0:Int),A8,A5,h2]
  refine Xq (hp l[i] (List.getElem_mem h2)) ?_
  simp
  refine ⟨fun hc=>?_,fun hc=>?_⟩
  ·simp [Bh]
   exact h1 i (q1U hq l[i] (List.getElem?_eq_getElem h2) hc)
  ·simp (disch:=omega) [Bh,A5]
   rw [hK]
   exact_mod_cast Xw l c nl f cs p hp hl h0 h1 k (i+1) (by omega) (fun j hj y hy=>by
    rcases Nat.lt_succ_iff_lt_or_eq.1 hj with hj | rfl
    ·exact hq j hj y hy
    ·rw [List.getElem?_eq_getElem h2] at hy; simp at hy; subst hy; exact hc)
theorem q4C (l:List Int) (c:Option Nat) (nl:Option Bool) (f:FuncId) (cs:List T) (p:Int→Bool) (hp:∀ x ∈ l,A6 Tryz.prog Γ f (tK x::cs) (tB (p x))) (hl:l.length≤1000000000):A6 Tryz.prog Γ 171 [.sl (Af tK l) c nl,.fn f cs] (tI (q0E p l)):=by
 refine Ab Ss rfl ?_
 simp (disch:=omega) [I6,A0,A5]
 refine Xw l c nl f cs p hp hl (fun h=>?_) (fun i h=>?_) l.length 0 (by omega) (by simp)
 ·have:l.findIdx? p=none:=List.findIdx?_eq_none_iff.2 h
  simp [ret,Em,Dm,Fo,Fj,Av,q0E,this]
 ·simp [ret,Em,Dm,Fo,Fj,Av,q0E,h]
theorem Dx (l:List Int) (c:Option Nat) (nl:Option Bool) (f:FuncId) (cs:List T) (p:Int→Bool) (hp:∀ x ∈ l,A6 Tryz.prog Γ f (tK x::cs) (tB (p x))) (hl:l.length≤1000000000):A6 Tryz.prog Γ 101 [.sl (Af tK l) c nl,.fn f cs] (tB (l.any p)):=by
 refine Ab Pl rfl ?_
 simp (disch:=omega) [Gz,A0,A5]
 refine A3 (q4C l c nl f cs p hp hl) rfl ?_
 simp [ret,H2,Dm,Fo,Fj,Av]
 unfold q0E
 cases h:l.findIdx? p with
 | none =>
  rw [List.findIdx?_eq_none_iff] at h
  have:l.any p=false:=by rw [List.any_eq_false]; intro x hx; simp [h x hx]
  simp [this]
 | some i =>
  rw [List.findIdx?_eq_some_iff_getElem] at h
  obtain ⟨hi,h1,_⟩:=h
  have:l.any p=true:=List.any_eq_true.2 ⟨_,List.getElem_mem hi,h1⟩
  simp [this]
theorem q9k (l:List Int) (c:Option Nat) (nl:Option Bool) (hl:l.length≤1000000000):A6 Tryz.prog Γ 216 [.sl (Az l) c nl] (tB (q6p l)):=by
 refine Ab q51 rfl ?_
 simp [Zc]
 refine A3 (q65 l c nl 0 hl) rfl ?_
 simp
 by_cases h:(0:Int) ∈ l
 ·simp [h]
  refine A3 (q65 l c nl 1 hl) rfl ?_
  simp [Qb,Av,q6p,h]
 ·simp [h,Qb,Av,q6p]
theorem qGu (v:Int):A6 Tryz.prog Γ 214 [tK v] (tB (qFU v)):=by
 refine Ab q7q rfl ?_
 simp [q2y]
 refine A3 (q52 v) rfl ?_
 simp [q2z,Av,qFU]
theorem qGv (v:Int):A6 Tryz.prog Γ 215 [tK v] (tB (qGp v)):=by
 refine Ab q7r rfl ?_
 simp [q30,q31,Av,qGp]
theorem qGw (l:List Int) (c:Option Nat) (nl:Option Bool) (hl:l.length≤1000000000):A6 Tryz.prog Γ 161 [.sl (Az l) c nl] (tK (q8q l)):=by
 refine Ab q9j rfl ?_
 simp [q61]
 refine A3 (q4C l c nl _ [] qGp (fun x _=>qGv x) hl) rfl ?_
 unfold q0E
 cases h:l.findIdx? qGp with
 | none =>
  have hR:q8q l=3:=by unfold q8q; rw [h]
  simp [Qa,Av,hR]
 | some i =>
  have hb:q8q l=if q6p l=true∨l.any qFU=true then 2 else l.getD i 0:=by unfold q8q; rw [h]
  have hi:i<l.length:=by
   rw [List.findIdx?_eq_some_iff_getElem] at h
   exact h.1
  have hget:=Bw (f:=tK) 0 hi
  have hgg:l[i]?.getD 0=l.getD i 0:=by simp [List.getD_eq_getElem?_getD]
  rw [hgg] at hget
  have hneg:¬ (i:Int)<0:=by omega
  simp only
  simp [hneg]
  refine A3 (q9k l c nl hl) rfl ?_
  by_cases h1:q6p l=true
  ·rw [if_pos (.inl h1)] at hb
   simp [h1,Qa,Av,hb]
  ·simp [h1]
   refine A3 (Dx l c nl _ [] qFU (fun x _=>qGu x) hl) rfl ?_
   by_cases h2:l.any qFU=true
   ·rw [if_pos (.inr h2)] at hb
    simp only [h2]
    simp [Qa,Av,hb]
   ·rw [if_neg (by rintro (h | h); exact h1 h; exact h2 h)] at hb
    simp only [Bool.not_eq_true] at h2
    generalize q8q l=r at *
    subst hb
    simp only [h2]
    simp (disch:=omega) [Qa,Av,A0,A8,hget,hi]
theorem qFa (hΓ:GOk Γ) (k:Int) (hk:0≤k∧k≤255) (l:List Int) (c:Option Nat) (nl:Option Bool) (hl:l.length≤1000000000) (hv:∀ v ∈ l,V4 v):A6 Tryz.prog Γ 86 [tK k,.sl (Az l) c nl] (tK (q5r k l)):=by
 refine Ab q8w rfl ?_
 unfold q5r
 by_cases hw:q8r k l.length=true
 ·rw [if_pos hw]
  simp only [q8r,decide_eq_true_eq] at hw
  simp [Bm]
  refine A3 (Dj hΓ k hk.1 hk.2) rfl ?_
  by_cases hw1:(l.length:Int)<(S5 k).1
  ·simp [A0,hw1,Bf,Av]
  ·have hw2:(S5 k).2<(l.length:Int):=by omega
   simp [A0,hw1,hw2,Bf,Av]
 rw [if_neg hw]
 simp only [q8r,decide_eq_true_eq] at hw
 have hw1:¬ (l.length:Int)<(S5 k).1:=by omega
 have hw2:¬ (S5 k).2<(l.length:Int):=by omega
 have hv0:∀ v ∈ l,0≤v:=fun v h=>(hv v h).1
 have ge:∀ i,i<l.length→(Af tK l)[i]?.getD []=[tK (l.getD i 0)]:=fun i hi=>by
  have hget:=Bw (f:=tK) 0 hi
  have hgg:l[i]?.getD 0=l.getD i 0:=by simp [List.getD_eq_getElem?_getD]
  rw [hgg] at hget
  exact hget
 have dA:=q0k (low:=0) (l:=l) (out:=1) (high:=1) (.inr rfl)
 have dO:=q0k (low:=1) (l:=l) (out:=0) (high:=0) (.inr rfl)
 have n1:0≤Nj 0 1 1 l:=by rw [dA]; split; omega; split <;> omega
 have n2:0≤Nj 1 0 0 l:=by rw [dO]; split; omega; split <;> omega
 have n3:0≤q2q 0 l:=(qDX (by simp [V4]) hv).1
 have g0:=q1b hv 0
 by_cases e1:k=1
 ·subst e1
  have hR:Fp 1 l=0:=rfl
  generalize Fp 1 l=r at *
  subst hR
  simp [Bm]
  refine A3 (Dj hΓ 1 hk.1 hk.2) rfl ?_
  simp [A0,hw1,hw2,Bh,Bf,Av]
 by_cases e2:k=2
 ·subst e2
  have hR:Fp 2 l=1:=rfl
  generalize Fp 2 l=r at *
  subst hR
  simp [Bm]
  refine A3 (Dj hΓ 2 hk.1 hk.2) rfl ?_
  simp [A0,hw1,hw2,Bh,Bf,Av]
 by_cases e3:k=3
 ·subst e3
  have f1:(S5 3).1=1:=rfl
  have q0:0<l.length:=by omega
  have u0:=ge 0 q0
  have hR:Fp 3 l=P6 (l.getD 0 0):=rfl
  generalize l.getD 0 0=x0 at *
  generalize Fp 3 l=r at *
  subst hR
  simp [Bm]
  refine A3 (Dj hΓ 3 hk.1 hk.2) rfl ?_
  simp [A0,hw1,hw2,Bh]
  simp (disch:=omega) [A0,A8,q0,u0]
  refine A3 (Su x0) rfl ?_
  simp [Bf,Av]
 by_cases e4:k=4
 ·subst e4
  have f1:(S5 4).1=1:=rfl
  have q0:0<l.length:=by omega
  have u0:=ge 0 q0
  have p0:=g0.1
  have hR:Fp 4 l=q0J (l.getD 0 0):=rfl
  generalize l.getD 0 0=x0 at *
  generalize Fp 4 l=r at *
  subst hR
  simp [Bm]
  refine A3 (Dj hΓ 4 hk.1 hk.2) rfl ?_
  simp [A0,hw1,hw2,Bh]
  simp (disch:=omega) [A0,A8,q0,u0]
  refine A3 (q63 x0 p0) rfl ?_
  simp [Bf,Av]
 by_cases e5:k=5
 ·subst e5
  have hR:Fp 5 l=Nj 0 1 1 l:=rfl
  generalize Fp 5 l=r at *
  subst hR
  simp [Bm]
  refine A3 (Dj hΓ 5 hk.1 hk.2) rfl ?_
  simp [A0,hw1,hw2,Bh]
  refine A3 (qCC l c nl hl) rfl ?_
  simp [Bf,Av]
 by_cases e6:k=6
 ·subst e6
  have hR:Fp 6 l=q0J (Nj 0 1 1 l):=rfl
  generalize Fp 6 l=r at *
  subst hR
  simp [Bm]
  refine A3 (Dj hΓ 6 hk.1 hk.2) rfl ?_
  simp [A0,hw1,hw2,Bh]
  refine A3 (qCC l c nl hl) rfl ?_
  simp
  refine A3 (q63 _ n1) rfl ?_
  simp [Bf,Av]
 by_cases e7:k=7
 ·subst e7
  have hR:Fp 7 l=Nj 1 0 0 l:=rfl
  generalize Fp 7 l=r at *
  subst hR
  simp [Bm]
  refine A3 (Dj hΓ 7 hk.1 hk.2) rfl ?_
  simp [A0,hw1,hw2,Bh]
  refine A3 (qEY l c nl hl) rfl ?_
  simp [Bf,Av]
 by_cases e8:k=8
 ·subst e8
  have hR:Fp 8 l=q0J (Nj 1 0 0 l):=rfl
  generalize Fp 8 l=r at *
  subst hR
  simp [Bm]
  refine A3 (Dj hΓ 8 hk.1 hk.2) rfl ?_
  simp [A0,hw1,hw2,Bh]
  refine A3 (qEY l c nl hl) rfl ?_
  simp
  refine A3 (q63 _ n2) rfl ?_
  simp [Bf,Av]
 by_cases e9:k=9
 ·subst e9
  have hR:Fp 9 l=q2q 0 l:=rfl
  generalize Fp 9 l=r at *
  subst hR
  simp [Bm]
  refine A3 (Dj hΓ 9 hk.1 hk.2) rfl ?_
  simp [A0,hw1,hw2,Bh]
  refine A3 (qCE l c nl hl hv0) rfl ?_
  simp [Bf,Av]
 by_cases e10:k=10
 ·subst e10
  have hR:Fp 10 l=q0J (q2q 0 l):=rfl
  generalize Fp 10 l=r at *
  subst hR
  simp [Bm]
  refine A3 (Dj hΓ 10 hk.1 hk.2) rfl ?_
  simp [A0,hw1,hw2,Bh]
  refine A3 (qCE l c nl hl hv0) rfl ?_
  simp
  refine A3 (q63 _ n3) rfl ?_
  simp [Bf,Av]
 by_cases e11:k=11
 ·subst e11
  have f1:(S5 11).1=3:=rfl
  have q0:0<l.length:=by omega
  have u0:=ge 0 q0
  have q1:1<l.length:=by omega
  have u1:=ge 1 q1
  have q2:2<l.length:=by omega
  have u2:=ge 2 q2
  have hR:Fp 11 l=q9d (l.getD 0 0) (l.getD 1 0) (l.getD 2 0):=rfl
  generalize l.getD 0 0=x0 at *
  generalize l.getD 1 0=x1 at *
  generalize l.getD 2 0=x2 at *
  generalize Fp 11 l=r at *
  subst hR
  simp [Bm]
  refine A3 (Dj hΓ 11 hk.1 hk.2) rfl ?_
  simp [A0,hw1,hw2,Bh]
  simp (disch:=omega) [A0,A8,q0,u0,q1,u1,q2,u2]
  refine ⟨by omega,by omega,?_⟩
  refine A3 (qGs x0 x1 x2) rfl ?_
  simp [Bf,Av]
 by_cases e12:k=12
 ·subst e12
  have f1:(S5 12).1=2:=rfl
  have q0:0<l.length:=by omega
  have u0:=ge 0 q0
  have q1:1<l.length:=by omega
  have u1:=ge 1 q1
  have hR:Fp 12 l=qB2 (l.getD 0 0) (l.getD 1 0):=rfl
  generalize l.getD 0 0=x0 at *
  generalize l.getD 1 0=x1 at *
  generalize Fp 12 l=r at *
  subst hR
  simp [Bm]
  refine A3 (Dj hΓ 12 hk.1 hk.2) rfl ?_
  simp [A0,hw1,hw2,Bh]
  simp (disch:=omega) [A0,A8,q0,u0,q1,u1]
  refine ⟨by omega,?_⟩
  refine A3 (qGt x0 x1) rfl ?_
  simp [Bf,Av]
 by_cases e13:k=13
 ·subst e13
  have hR:Fp 13 l=q8q l:=rfl
  generalize Fp 13 l=r at *
  subst hR
  simp [Bm]
  refine A3 (Dj hΓ 13 hk.1 hk.2) rfl ?_
  simp [A0,hw1,hw2,Bh]
  refine A3 (qGw l c nl hl) rfl ?_
  simp [Bf,Av]
 have ek:Fp k l=2:=by
  unfold Fp
  rw [if_neg e1,if_neg e2,if_neg e3,if_neg e4,if_neg e5,if_neg e6,if_neg e7,if_neg e8,if_neg e9,if_neg e10,if_neg e11,if_neg e12,if_neg e13]
 rw [ek]
 simp [Bm]
 refine A3 (Dj hΓ k hk.1 hk.2) rfl ?_
 simp [A0,hw1,hw2,Bf,Av,e1,e2,e3,e4,e5,e6,e7,e8,e9,e10,e11,e12,e13]
end Go.Lg
namespace Go.Lg
open Go
section
variable {P:Program} {Γ:Tables} {Q:AX→St→Prop} {s:St}
/- slices.SortStableFunc[[]int,int] (function 150) -/
abbrev Iw:IC:=(.reg [om 4 0,om 5 0,od 6 (le 0 5),om 7 1,od 8 (.hcall 211 [(tm 4),(tm 6),(tm 7)] [1000000] 8000)] [kp [] [1000000]])
def Ix:List RV:=[]
/- slices.stableCmpFunc[int] (function 211) -/
abbrev Jf:IC:=.gh (.seq (.seq (.reg [om 11 8,om 12 1,od 13 (.bin .leq (tm 11) (tm 12))] [kp [0,1,2,6,7,8,13] [1000000]]) (.cond (tm 13) .skip (.exit 0))) (.block 1 (.seq (.reg [om 14 0,om 15 7,om 16 8,om 17 2,od 18 (.hcall 253 [(tm
 14),(tm 15),(tm 16),(tm 17)] [1000000] 18000)] [kp [0,1,2,6,8] [1000000]]) (.seq (.reg [om 19 8,om 7 19] [kp [0,1,2,6,7,8] [1000000]]) (.reg [om 20 8,om 21 6,od 22 (.bin .add (tm 20) (tm 21)),om 8 22] [kp [0,1,2,
 6,7,8] [1000000]]))))) [kp [0,1,2,6,7,8] [1000000]]
def Fa:IC:=.loop Jf
abbrev Wp:IC:=.gh (.seq (.seq (.reg [om 33 8,om 34 1,od 35 (.bin .leq (tm 33) (tm 34))] [kp [0,1,2,6,7,8,35] [1000000]]) (.cond (tm 35) .skip (.exit 4))) (.block 5 (.seq (.reg [om 36 0,om 37 7,om 38 7,om 39 6,od 40 (.bin .add (tm 38)
 (tm 39)),om 41 8,om 42 2,od 43 (.hcall 254 [(tm 36),(tm 37),(tm 40),(tm 41),(tm 42)] [1000000] 43000)] [kp [0,1,2,6,8] [1000000]]) (.seq (.reg [om 44 8,om 7 44] [kp [0,1,2,6,7,8] [1000000]]) (.reg [om 45 8,om 46
 6,od 47 (.bin .mul (ki 2) (tm 46)),od 48 (.bin .add (tm 45) (tm 47)),om 8 48] [kp [0,1,2,6,7,8] [1000000]]))))) [kp [0,1,2,6,7,8] [1000000]]
def Wq:IC:=.loop Wp
abbrev Jg:IC:=.gh (.seq (.seq (.reg [om 28 6,om 29 1,od 30 (.bin .lss (tm 28) (tm 29))] [kp [0,1,2,6,30] [1000000]]) (.cond (tm 30) .skip (.exit 2))) (.block 3 (.seq (.reg [om 31 6,od 32 (.bin .mul (ki 2) (tm 31)),od 7 (.mv (ki 0)),om 8
 32] [kp [0,1,2,6,7,8] [1000000]]) (.seq (.block 4 Wq) (.seq (.seq (.reg [om 49 7,om 50 6,od 51 (.bin .add (tm 49) (tm 50)),om 9 51] [kp [0,1,2,6,7,9] [1000000]]) (.seq (.reg [om 52 9,om 53 1,
 od 54 (.bin .lss (tm 52) (tm 53))] [kp [0,1,2,6,7,9,54] [1000000]]) (.cond (tm 54) (.reg [om 55 0,om 56 7,om 57 9,om 58 1,om 59 2,od 60 (.hcall 254 [(tm 55),(tm 56),(tm 57),(tm 58),(tm 59)] [1000000] 60000)] [kp [0,
 1,2,6] [1000000]]) .skip))) (.reg [om 61 6,od 62 (.bin .mul (tm 61) (ki 2)),om 6 62] [kp [0,1,2,6] [1000000]])))))) [kp [0,1,2,6] [1000000]]
def Fb:IC:=.loop Jg
abbrev Jh:IC:=(.seq (.reg [od 6 (.mv (ki 20))] [kp [0,1,2,6] [1000000]]) (.seq (.reg [om 10 6,od 7 (.mv (ki 0)),om 8 10] [kp [0,1,2,6,7,8] [1000000]]) (.seq (.block 0 Fa) (.seq (.reg [om 23 0,om 24 7,om 25 1,
 om 26 2,od 27 (.hcall 253 [(tm 23),(tm 24),(tm 25),(tm 26)] [1000000] 27000)] [kp [0,1,2,6] [1000000]]) (.block 2 Fb)))))
theorem Qm (h:∀ K:St→Prop,K=run P Γ Fa Q→run P Γ Jf (As K Q) s):run P Γ Fa Q s:=Ah h
theorem Qn (h:∀ K:St→Prop,K=run P Γ Fb Q→run P Γ Jg (As K Q) s):run P Γ Fb Q s:=Ah h
def Ji:List RV:=[]
/- slices.insertionSortCmpFunc[int] (function 253) -/
abbrev G5:IC:=.gh (.seq (.seq (.reg [om 18 9,om 19 1,od 20 (.bin .gtr (tm 18) (tm 19)),om 21 20,oT 22 (.mv (tm 3)) 21,oT 23 (.mv (tm 0)) 21,oT 24 (.mv (tm 9)) 21,oT 25 (ia 1 23 24) 21,oT 26 (ld 1 25) 21,oT 27 (.mv (tm 0)) 21,oT 28 (.mv
 (tm 9)) 21,oT 29 (.bin .sub (tm 28) (ki 1)) 21,oT 30 (ia 1 27 29) 21,oT 31 (ld 1 30) 21,oT 32 (.callv (tm 22) [(tm 26),(tm 31)]) 21,oT 33 (.bin .lss (tm 32) (ki 0)) 21,od 34 (.pick (tm 21) (tm 33) kF)] [kp [0,1,2,3,8,9,
 34] [1000000]]) (.cond (tm 34) .skip (.exit 2))) (.seq (.block 3 (.reg [om 37 0,om 38 9,om 39 0,om 40 9,od 41 (.bin .sub (tm 40) (ki 1)),om 42 0,om 43 9,od 44 (.bin .sub (tm 43) (ki 1)),od 45 (ia 1 42 44),od 46 (.ldR
 1000000 1 false (tm 45)),om 47 0,om 48 9,od 49 (ia 1 47 48),od 50 (.ldR 1000000 1 false (tm 49)),od 51 (ia 1 37 38),on (.stR 1000000 1 (tm 51) (tm 46)),od 52 (ia 1 39 41),on (.stR 1000000 1 (tm 52) (tm 50))] [kp [0,1,2,
 3,8,9] [1000000]])) (.reg [om 35 9,od 36 (.bin .sub (tm 35) (ki 1)),om 9 36] [kp [0,1,2,3,8,9] [1000000]]))) [kp [0,1,2,3,8,9] [1000000]]
def C6:IC:=.loop G5
abbrev G6:IC:=.gh (.seq (.seq (.reg [om 12 8,om 13 2,od 14 (.bin .lss (tm 12) (tm 13))] [kp [0,1,2,3,8,14] [1000000]]) (.cond (tm 14) .skip (.exit 0))) (.seq (.block 1 (.seq (.reg [om 17 8,om 9 17] [kp [0,1,2,3,8,9] [1000000]])
 (.block 2 C6))) (.reg [om 15 8,od 16 (.bin .add (tm 15) (ki 1)),om 8 16] [kp [0,1,2,3,8] [1000000]]))) [kp [0,1,2,3,8] [1000000]]
def C7:IC:=.loop G6
abbrev G7:IC:=(.seq (.reg [om 10 1,od 11 (.bin .add (tm 10) (ki 1)),om 8 11] [kp [0,1,2,3,8] [1000000]]) (.block 0 C7))
theorem En (h:∀ K:St→Prop,K=run P Γ C6 Q→run P Γ G5 (As K Q) s):run P Γ C6 Q s:=Ah h
theorem Eo (h:∀ K:St→Prop,K=run P Γ C7 Q→run P Γ G6 (As K Q) s):run P Γ C7 Q s:=Ah h
def G8:List RV:=[]
/- probecard/netlists.Order (function 85) -/
abbrev Zd:IC:=.gh (.seq (.reg [od 23 (.bin .lss (tm 22) (tm 21))] [kp [4,6,21,22,23] [19]]) (.seq (.cond (tm 23) .skip (.exit 0)) (.seq (.block 1 (.seq (.reg [om 24 22,om 7 24] [kp [4,6,7,21,22] [19]]) (.reg [om 25 6,om 26 7,om 27 7,
 od 28 (ia 1 25 26),on (.store 1 (tm 28) (tm 27))] [kp [4,6,21,22] [19]]))) (.reg [od 29 (.bin .add (tm 22) (ki 1)),om 22 29] [kp [4,6,21,22] [19]])))) [kp [4,6,21,22] [19]]
def Jj:IC:=.loop Zd
abbrev Ze:IC:=(.seq (.reg [od 1 (.box true (tm 0)),od 2 (.mv kN),od 3 (.mv (ki 0))] [kp [1] []]) (.seq (.reg [od 9 (lG 4 1),od 10 (.call 75 [(tm 9)]),om 8 10,od 11 (ex 8 0),od 12 (ex 8 1),od 4 (.alloc false [(.slice none 0 0)]),on
 (.store 1 (tm 4) (tm 11)),om 5 12] [.frz 4,kp [1,4,5] []]) (.seq (.seq (.reg [om 13 5,od 14 (.bin .neq (tm 13) (ki 0))] [kp [1,4,5,14] []]) (.cond (tm 14) (.seq (.reg [om 15 5,od 2 (.mv kN),om 3 15] [kp [2,3] [19]])
 .ret) .skip)) (.seq (.reg [od 16 (fa 0 1),od 17 (ld 1 16),od 18 (le 0 17),od 19 (.mk 3 1 [(.int .i64 0)] (tm 18) (tm 18)),om 6 19] [kp [4,6] [19]]) (.seq (.seq (.reg [om 20 6,od 21 (le 0 20),od 22 (.mv (ki 0))] [kp [4,6,
 21,22] [19]]) (.block 0 Jj)) (.seq (.reg [om 30 6,od 31 (.mkf 151 [(tm 4)]),od 32 (.hcall 150 [(tm 30),(tm 31)] [19] 32000)] [kp [6] [19]]) (.seq (.reg [om 33 6,om 2 33,od 3 (.mv (ki 0))] [kp [2,3] [19]])
 .ret)))))))
theorem R7 (h:∀ K:St→Prop,K=run P Γ Jj Q→run P Γ Zd (As K Q) s):run P Γ Jj Q s:=Ah h
def Qc:List RV:=[.tmp 2,.tmp 3]
/- probecard/netlists.Order$1 (function 151) -/
abbrev Vr:IC:=(.seq (.reg [od 5 (.mv (ki 0))] [kp [0,1,2] []]) (.seq (.reg [od 6 (ld 1 2),om 7 0,od 8 (ia 1 6 7),od 9 (ld 1 8),od 10 (ld 1 2),om 11 1,od 12 (ia 1 10 11),od 13 (ld 1 12),od 14 (.call 152 [(tm 9),(tm 13)]),om 5 14] [kp
 [5] []]) .ret))
def Vs:List RV:=[.tmp 5]
/- cmp.Compare[int] (function 152) -/
abbrev Xx:IC:=(.seq (.reg [od 4 (.mv (ki 0))] [kp [0,1] []]) (.seq (.reg [om 7 0,od 8 (.call 212 [(tm 7)]),om 5 8] [kp [0,1,5] []]) (.seq (.reg [om 9 1,od 10 (.call 212 [(tm 9)]),om 6 10] [kp [0,1,5,6] []]) (.seq (.seq (.reg [om 11 5]
 [kp [0,1,6,11] []]) (.cond (tm 11) (.seq (.seq (.reg [om 12 6] [kp [12] []]) (.cond (tm 12) (.seq (.reg [od 4 (.mv (ki 0))] [kp [4] []]) .ret) .skip)) (.seq (.reg [od 4 (.mv (.const (.int .i64 (-1))))] [kp [4] []]) .ret))
 .skip)) (.seq (.seq (.reg [om 13 6] [kp [0,1,13] []]) (.cond (tm 13) (.seq (.reg [od 4 (.mv (ki 1))] [kp [4] []]) .ret) .skip)) (.seq (.seq (.reg [om 14 0,om 15 1,od 16 (.bin .lss (tm 14) (tm 15))] [kp [0,1,16] []]) (.cond
 (tm 16) (.seq (.reg [od 4 (.mv (.const (.int .i64 (-1))))] [kp [4] []]) .ret) .skip)) (.seq (.seq (.reg [om 17 0,om 18 1,od 19 (.bin .gtr (tm 17) (tm 18))] [kp [19] []]) (.cond (tm 19) (.seq (.reg [od 4 (.mv (ki 1))] [kp [4] []])
 .ret) .skip)) (.seq (.reg [od 4 (.mv (ki 0))] [kp [4] []]) .ret))))))))
def Og:List RV:=[.tmp 4]
/- cmp.isNaN[int] (function 212) -/
abbrev q0o:IC:=(.seq (.reg [od 2 (.mv kF)] [kp [0] []]) (.seq (.reg [om 3 0,om 4 0,od 5 (.bin .neq (tm 3) (tm 4)),om 2 5] [kp [2] []]) .ret))
def q0p:List RV:=[.tmp 2]
end
end Go.Lg
namespace Go.Lg
open Go Go.Proofs
theorem Ue:Aw Tryz.prog 150 Iw 9 2 Ix=true:=by kernel_rfl
theorem Vd:Aw Tryz.prog 211 Jh 63 3 Ji=true:=by kernel_rfl
theorem Nk:Aw Tryz.prog 253 G7 53 4 G8=true:=by kernel_rfl
theorem q53:Aw Tryz.prog 85 Ze 34 1 Qc=true:=by kernel_rfl
theorem q33:Aw Tryz.prog 151 Vr 15 3 Vs=true:=by kernel_rfl
theorem q3n:Aw Tryz.prog 152 Xx 20 2 Og=true:=by kernel_rfl
theorem q66:Aw Tryz.prog 212 q0o 6 1 q0p=true:=by kernel_rfl
end Go.Lg
namespace Go.Lg
open Go Go.Proofs
variable {Γ:Tables}
theorem qCF {hp:List (Nat × Bc)} {f:FuncId} {K:T→Prop} {cs:List T} {t u res:T} (h:A6 Tryz.prog Γ f (t::u::cs) res) (hk:K res):q5d Tryz.prog Γ hp f (.t t::.t u::cs.map .t) K ⟨⟩ :=
 A3 h (by simp only [List.map_cons,List.map_map,Function.comp_def,Ai,Aj]; rw [Z1]; rfl) hk
theorem qGx {l:List Int} {a b:Nat}:Ax (Z6 l a b)=((Ax l).set a [tI (l.getD b 0)]).set b [tI (l.getD a 0)]:=by
 show Af tI _=((Af tI l).set a _).set b _
 rw [Ir,Ir]; rfl
theorem ge1 {f:Int→T} {l:List Int} {i:Nat} (hi:i<l.length):(Af f l)[i]?.getD []=[f (l.getD i 0)]:=by
 have hget:=Bw (f:=f) 0 hi
 have hgg:l[i]?.getD 0=l.getD i 0:=by simp [List.getD_eq_getElem?_getD]
 rw [hgg] at hget
 exact hget
theorem qAL {Q:AX→St→Prop} (ty n:Nat) (cap:Option Nat) (hn:n≤1000000000) (f:FuncId) (cs:List T) (cmp:Int→Int→Int) (i:Nat) (hi:i<n) (R:List Int)
  (h0:∀ j:Int,Q (.exit 2) ⟨[(0,.ls 1000000 0 n cap),(1,.t (tI 0)),(2,.t (tI n)),(3,.t (.fn f cs)),(8,.t (tI i)),(9,.t (tI j)),(34,.t (tB false))],[(1000000,.sl ty 1 (Ax R))]⟩) :
  ∀ (j:Nat) (l:List Int),j≤i→l.length=n→(∀ x ∈ l,∀ y ∈ l,A6 Tryz.prog Γ f (tI x::tI y::cs) (tI (cmp x y)))→q8u (fun a b=>decide (cmp a b<0)) j l=R →
  run Tryz.prog Γ C6 Q ⟨[(0,.ls 1000000 0 n cap),(1,.t (tI 0)),(2,.t (tI n)),(3,.t (.fn f cs)),(8,.t (tI i)),(9,.t (tI j))],[(1000000,.sl ty 1 (Ax l))]⟩
 | 0,l,hj,hl,hc,hR=>by
  refine En fun K hK=>?_
  simp only [q8u] at hR
  subst hR
  simp
  exact h0 0
 | j+1,l,hj,hl,hc,hR=>by
  refine En fun K hK=>?_
  simp only [q8u] at hR
  have la:j<l.length:=by omega
  have lb:j+1<l.length:=by omega
  have e1:=ge1 (f:=tI) la
  have e2:=ge1 (f:=tI) lb
  have m1:l.getD j 0 ∈ l:=by rw [D8 la]; exact List.getElem_mem la
  have m2:l.getD (j+1) 0 ∈ l:=by rw [D8 lb]; exact List.getElem_mem lb
  have hcc:=hc _ m2 _ m1
  have hs:=qGx (l:=l) (a:=j+1) (b:=j)
  have hperm:(Z6 l (j+1) j).Perm l:=q8n lb la
  have hpl:=q6l (l:=l) (a:=j+1) (b:=j)
  have hcs:∀ x ∈ Z6 l (j+1) j,∀ y ∈ Z6 l (j+1) j,A6 Tryz.prog Γ f (tI x::tI y::cs) (tI (cmp x y)):=fun x hx y hy=>hc x (hperm.mem_iff.1 hx) y (hperm.mem_iff.1 hy)
  have ih:=qAL ty n cap hn f cs cmp i hi R h0 j (Z6 l (j+1) j) (by omega) (by rw [hpl]; exact hl) hcs
  generalize Z6 l (j+1) j=l' at *
  generalize l.getD j 0=va at *
  generalize l.getD (j+1) 0=vb at *
  have hj1:(0:Int)<(j:Int)+1:=by omega
  have hj2:((j:Int)+1).toNat=j+1:=by omega
  have hj3:(j:Int)+1<n:=by omega
  have hj4:(j:Int)<n:=by omega
  have hj5:(j:Int)+1 - 1=j:=by omega
  have lan:j<n:=by omega
  have lbn:j+1<n:=by omega
  simp (disch:=omega) [hj1,hj2,hj3,hj4,hj5,lan,lbn,A0,A8,hl,e1,e2,A5]
  refine ⟨by omega,qCF hcc ?_⟩
  by_cases h:cmp vb va<0
  ·rw [if_pos (by simpa using h)] at hR
   have ih:=ih hR
   rw [hs] at ih
   simp (disch:=omega) [h,hj1,hj2,hj3,hj4,hj5,lan,lbn,A0,A8,hl,e1,e2,A5]
   refine ⟨by omega,?_⟩
   rw [hK]
   exact_mod_cast ih
  ·rw [if_neg (by simpa using h)] at hR
   subst hR
   simp (disch:=omega) [h]
   exact_mod_cast h0 (j+1)
theorem qCG {Q:AX→St→Prop} (ty n:Nat) (cap:Option Nat) (hn:n≤1000000000) (f:FuncId) (cs:List T) (cmp:Int→Int→Int) (R:List Int)
  (h0:∀ i:Int,Q (.exit 0) ⟨[(0,.ls 1000000 0 n cap),(1,.t (tI 0)),(2,.t (tI n)),(3,.t (.fn f cs)),(8,.t (tI i)),(14,.t (tB false))],[(1000000,.sl ty 1 (Ax R))]⟩) :
  ∀ (k i:Nat) (l:List Int),1≤i→i+k=max 1 n→l.length=n→(∀ x ∈ l,∀ y ∈ l,A6 Tryz.prog Γ f (tI x::tI y::cs) (tI (cmp x y)))→q2t (fun a b=>decide (cmp a b<0)) k i l=R →
  run Tryz.prog Γ C7 Q ⟨[(0,.ls 1000000 0 n cap),(1,.t (tI 0)),(2,.t (tI n)),(3,.t (.fn f cs)),(8,.t (tI i))],[(1000000,.sl ty 1 (Ax l))]⟩
 | 0,i,l,h1,h,hl,hc,hR=>by
  refine Eo fun K hK=>?_
  simp only [q2t] at hR
  subst hR
  have h2:¬ (i:Int)<n:=by omega
  have h2':¬ i<n:=by omega
  simp [h2,h2']
  exact h0 _
 | k+1,i,l,h1,h,hl,hc,hR=>by
  refine Eo fun K hK=>?_
  simp only [q2t] at hR
  have h2:(i:Int)<n:=by omega
  have h2':i<n:=by omega
  have hperm:=q3Y (lt:=fun a b=>decide (cmp a b<0)) (j:=i) (l:=l) (by omega)
  have ih:=qCG ty n cap hn f cs cmp R h0 k (i+1) (q8u (fun a b=>decide (cmp a b<0)) i l) (by omega) (by omega) (by rw [hperm.length_eq]; exact hl) (fun x hx y hy=>hc x (hperm.mem_iff.1 hx) y (hperm.mem_iff.1 hy)) hR
  have hlp:=fun Q h0=>qAL (Γ:=Γ) (Q:=Q) ty n cap hn f cs cmp i h2' _ h0 i l (Nat.le_refl _) hl hc rfl
  simp (disch:=omega) [h2,h2',A5]
  refine hlp _ fun j=>?_
  simp (disch:=omega) [A5]
  rw [hK]
  exact_mod_cast ih
theorem qCH (ty n:Nat) (cap:Option Nat) (hn:n≤1000000000) (f:FuncId) (cs:List T) (cmp:Int→Int→Int) (l:List Int) (hl:l.length=n) (hc:∀ x ∈ l,∀ y ∈ l,A6 Tryz.prog Γ f (tI x::tI y::cs) (tI (cmp x y))) :
  F9 Tryz.prog Γ 253 [(1000000,.sl ty 1 (Ax l))] [.ls 1000000 0 n cap,.t (tI 0),.t (tI n),.t (.fn f cs)] (.t (.tup [])) [(1000000,.sl ty 1 (Ax (q2t (fun a b=>decide (cmp a b<0)) (n - 1) 1 l)))]:=by
 refine Ht Nk rfl ?_
 have hlp:=fun Q h0=>qCG (Γ:=Γ) (Q:=Q) ty n cap hn f cs cmp _ h0 (n - 1) 1 l (by omega) (by omega) hl hc rfl
 simp (disch:=omega) [G7,A5]
 refine hlp _ fun i=>?_
 simp [G8]
theorem qAM {lt:Int→Int→Bool}:∀ {f i:Nat} {l:List Int},i+f≤l.length∨f=0→(q2t lt f i l).Perm l
 | 0,i,l,_=>List.Perm.refl l
 | f+1,i,l,h=>by
  simp only [q2t]
  have hp:=q3Y (lt:=lt) (j:=i) (l:=l) (by omega)
  exact (qAM (by rw [hp.length_eq]; omega)).trans hp
theorem qCI {lt:Int→Int→Bool} {l:List Int} {n:Nat} (h:l.length=n):(q2t lt (n - 1) 1 l).length=l.length:=(qAM (by omega)).length_eq
theorem qGy (ty n:Nat) (cap:Option Nat) (hn:n≤19) (f:FuncId) (cs:List T) (cmp:Int→Int→Int) (l:List Int) (hl:l.length=n) (hc:∀ x ∈ l,∀ y ∈ l,A6 Tryz.prog Γ f (tI x::tI y::cs) (tI (cmp x y))) :
  F9 Tryz.prog Γ 211 [(1000000,.sl ty 1 (Ax l))] [.ls 1000000 0 n cap,.t (tI n),.t (.fn f cs)] (.t (.tup [])) [(1000000,.sl ty 1 (Ax (q2t (fun a b=>decide (cmp a b<0)) (n - 1) 1 l)))]:=by
 refine Ht Vd rfl ?_
 have hi:=qCH (Γ:=Γ) ty n cap (by omega) f cs cmp l hl hc
 simp (disch:=omega) [Jh,A5]
 have hR:=qCI (lt:=fun a b=>decide (cmp a b<0)) hl
 generalize q2t (fun a b=>decide (cmp a b<0)) (n - 1) 1 l=R at *
 refine Qm fun K hK=>?_
 have h1:¬ (20:Int)≤n:=by omega
 have h2:¬ 20≤n:=by omega
 have h3:¬ (20:Int)<n:=by omega
 have h4:¬ 20<n:=by omega
 simp [h1,h2]
 refine ⟨_,_,hi,?_⟩
 simp [A0,hR]
 refine Qn fun K hK=>?_
 simp [h3,h4,Ji]
theorem qKV (ty n:Nat) (cap:Option Nat) (hn:n≤19) (f:FuncId) (cs:List T) (cmp:Int→Int→Int) (l:List Int) (hl:l.length=n) (hc:∀ x ∈ l,∀ y ∈ l,A6 Tryz.prog Γ f (tI x::tI y::cs) (tI (cmp x y))) :
  F9 Tryz.prog Γ 150 [(1000000,.sl ty 1 (Ax l))] [.ls 1000000 0 n cap,.t (.fn f cs)] (.t (.tup [])) [(1000000,.sl ty 1 (Ax (q2t (fun a b=>decide (cmp a b<0)) (n - 1) 1 l)))]:=by
 refine Ht Ue rfl ?_
 have hi:=qGy (Γ:=Γ) ty n cap hn f cs cmp l hl hc
 have hR:=qCI (lt:=fun a b=>decide (cmp a b<0)) hl
 generalize q2t (fun a b=>decide (cmp a b<0)) (n - 1) 1 l=R at *
 simp (disch:=omega) [Iw,A5]
 refine ⟨_,_,hi,?_⟩
 simp [Ix,A0,hR]
theorem qCJ (n:Int):A6 Tryz.prog Γ 212 [tI n] (tB false):=by
 refine Ab q66 rfl ?_
 simp [q0o,q0p,Av]
def qDa (a b:Int):Int:=if a<b then -1 else if b<a then 1 else 0
theorem qGz (a b:Int):A6 Tryz.prog Γ 152 [tI a,tI b] (tI (qDa a b)):=by
 refine Ab q3n rfl ?_
 simp [Xx]
 refine A3 (qCJ a) rfl ?_
 simp
 refine A3 (qCJ b) rfl ?_
 by_cases h:a<b
 ·simp [h,Og,Av,qDa]
 ·by_cases h1:b<a <;> simp [h,h1,Og,Av,qDa]
def qIW (c:B7):T:=.sl (Ax (Oe c).2.out) none none
theorem qCK (c:B7) (h:Eb c=0) (a b:Int) (ha:0≤a∧a<c.nodes.l.length) (hb:0≤b∧b<c.nodes.l.length):A6 Tryz.prog Γ 151 [tI a,tI b,.ip [qIW c] 0] (tI (qDa (Qz c a.toNat) (Qz c b.toNat))):=by
 refine Ab q33 rfl ?_
 have hl:=(qKU h).1
 have e1:=ge1 (f:=tI) (l:=(Oe c).2.out) (i:=a.toNat) (by omega)
 have e2:=ge1 (f:=tI) (l:=(Oe c).2.out) (i:=b.toNat) (by omega)
 unfold Qz qIW
 generalize (Oe c).2.out.getD a.toNat 0=va at *
 generalize (Oe c).2.out.getD b.toNat 0=vb at *
 simp (disch:=omega) [Vr,A0,A8,hl,e1,e2,ha,hb]
 refine A3 (qGz _ _) rfl ?_
 simp [Vs,Av]
theorem q8x {Q:AX→St→Prop} (n:Nat) (hn:n≤1000000000) (a4:T)
  (h0:Q (.exit 0) ⟨[(4,.t a4),(6,.ls 19 0 n none),(21,.t (tI n)),(22,.t (tI n)),(23,.t (tB false))],[(19,.sl 3 1 (Ax (rng n)))]⟩):∀ (k i:Nat),k+i=n →
  run Tryz.prog Γ Jj Q ⟨[(4,.t a4),(6,.ls 19 0 n none),(21,.t (tI n)),(22,.t (tI i))],[(19,.sl 3 1 (Ax (rng i++List.replicate (n - i) 0)))]⟩
 | 0,i,h=>by
  refine R7 fun K hK=>?_
  have h2:i=n:=by omega
  subst h2
  simp
  simpa using h0
 | k+1,i,h=>by
  refine R7 fun K hK=>?_
  have ih:=q8x n hn a4 h0 k (i+1) (by omega)
  have h2:i<n:=by omega
  have hs:(Ax (rng i++List.replicate (n - i) 0)).set i [tI i]=Ax (rng (i+1)++List.replicate (n - (i+1)) 0):=by
   show (Af tI _).set i [tI i]=Af tI _
   rw [Ir]
   congr 1
   have e:n - i=(n - (i+1))+1:=by omega
   rw [e,List.replicate_succ,List.set_append,if_neg (by rw [Wj]; omega),Wj,Nat.sub_self]
   simp [rng,List.range_succ]
  have hlen:(Ax (rng i++List.replicate (n - i) 0)).length=n:=by rw [A0]; simp [Wj]; omega
  generalize Ax (rng i++List.replicate (n - i) 0)=E at *
  simp (disch:=omega) [h2,hlen,hs,A5]
  rw [hK]
  exact_mod_cast ih
theorem qDb (hΓ:GOk Γ) (c:B7) (hc:COk c) (hn:c.nodes.l.length≤19) :
  A6 Tryz.prog Γ 85 [.agg (tC c)] (.tup [if Eb c=0 then .sl (Ax (Vb c)) none none else .sl [] (some 0) (some true),tI (Eb c)]):=by
 refine Ab q53 rfl ?_
 have e1:=q7O hΓ c hc.toCirOk hc.asc
 simp [Ze,tC,A7,A9,Ac,B5]
 refine A3 e1 rfl ?_
 by_cases h:Eb c=0
 case neg=>simp [h,Qc,St.freeze,Bc.closed,Bi,frz1,frz0,Dq,del,Aj]
 have hlp:=fun Q h0=>q8x (Γ:=Γ) (Q:=Q) c.nodes.l.length (by omega) (.ip [qIW c] 0) h0 c.nodes.l.length 0 (by omega)
 have hz:List.replicate c.nodes.l.length [T.v (Value.int .i64 0)]=Ax (rng 0++List.replicate (c.nodes.l.length - 0) 0):=by simp [Af,rng]
 have hsort:=qKV (Γ:=Γ) 3 c.nodes.l.length none hn 151 [.ip [qIW c] 0] (fun a b=>qDa (Qz c a.toNat) (Qz c b.toNat)) (rng c.nodes.l.length) Wj (fun x hx y hy=>qCK c h x y (qB4.1 hx) (qB4.1 hy))
 have hlt:(fun a b=>decide (qDa (Qz c a.toNat) (Qz c b.toNat)<0))=qEW c:=by
  funext a b
  simp only [qEW,qDa]
  by_cases h1:Qz c a.toNat<Qz c b.toNat
  ·simp [h1]
  ·by_cases h2:Qz c b.toNat<Qz c a.toNat <;> simp [h1,h2]
 rw [hlt] at hsort
 have ho:q2t (qEW c) (c.nodes.l.length - 1) 1 (rng c.nodes.l.length)=Vb c:=rfl
 rw [ho] at hsort
 have holen:(Vb c).length=c.nodes.l.length:=by rw [(q6s c).1.length_eq,Wj]
 simp [h,Aa,A5,St.freeze,Bc.closed,Bi,frz1,frz0,Dq,del,Aj]
 refine ⟨by omega,?_⟩
 rw [hz]
 refine hlp _ ?_
 simp
 refine ⟨_,_,hsort,?_⟩
 have htk:(Ax (Vb c)).take c.nodes.l.length=Ax (Vb c):=List.take_of_length_le (by rw [A0,holen]; exact Nat.le_refl _)
 simp [A0,Wj,holen,Qc,Aj,htk,h]
end Go.Lg
namespace Go.Lg
open Go
section
variable {P:Program} {Γ:Tables} {Q:AX→St→Prop} {s:St}
/- probecard/sims.fits (function 105) -/
abbrev q1f:IC:=(.seq (.reg [od 2 (.box true (tm 0)),od 3 (.box true (tm 1)),od 4 (.mv (ki 0))] [kp [2,3] []]) (.seq (.block 0 (.seq (.reg [od 6 (fa 2 2),od 7 (ld 1 6),od 8 (le 0 7),od 9 (.bin .gtr (tm 8) (ki 0)),om 10 9,oF 11 (lG 4 2) 10,
 oF 12 (.bsl true 43 1 [(ku 15)]) 10,oF 13 (.call 74 [(tm 11),(tm 12)]) 10,oF 14 (le 0 13) 10,oF 15 (.bin .gtr (tm 14) (ki 0)) 10,od 16 (.pick (tm 10) kT (tm 15)),om 5 16] [kp [2,3,5] []]) (.cond (tm 5) (.seq (.reg [od 4
 (.mv (ki 7))] [kp [4] []]) .ret) (.seq (.reg [od 18 (fa 0 3),od 19 (ld 1 18),od 20 (le 0 19),od 21 (lG 4 2),od 22 (.call 56 [(tm 21)]),od 23 (le 0 22),od 24 (.bin .neq (tm 20) (tm 23)),om 25 24,oF 26 (fa 1 3) 25,oF 27 (ld
 1 26) 25,oF 28 (le 0 27) 25,oF 29 (lG 4 2) 25,oF 30 (.call 18 [(tm 29)]) 25,oF 31 (le 0 30) 25,oF 32 (.bin .neq (tm 28) (tm 31)) 25,od 33 (.pick (tm 25) kT (tm 32)),om 17 33] [kp [3,17] []]) (.cond (tm 17) (.seq (.reg [od 4
 (.mv (ki 8))] [kp [4] []]) .ret) (.seq (.reg [od 35 (fa 0 3),od 36 (ld 1 35),od 37 (.call 101 [(tm 36),(.func 173)]),om 38 37,oF 39 (fa 1 3) 38,oF 40 (ld 1 39) 38,oF 41 (.call 101 [(tm 40),(.func 173)]) 38,od 42 (.pick (tm
 38) kT (tm 41)),om 34 42] [kp [34] []]) (.cond (tm 34) (.seq (.reg [od 4 (.mv (ki 1))] [kp [4] []]) .ret) .skip))))))) (.seq (.reg [od 4 (.mv (ki 0))] [kp [4] []]) .ret)))
def H3:List RV:=[.tmp 4]
/- probecard/sims.above (function 173) -/
abbrev q4D:IC:=(.seq (.reg [od 2 (.mv kF)] [kp [0] []]) (.seq (.reg [om 3 0,od 4 (.bin .gtr (tm 3) (ku 3)),om 2 4] [kp [2] []]) .ret))
def q4E:List RV:=[.tmp 2]
/- (probecard/sims.run).load (function 106) -/
abbrev Jk:IC:=(.seq (.reg [od 2 (.box true (tm 0)),od 4 (.mv (ku 0))] [kp [1,2] []]) (.seq (.seq (.reg [om 5 1,od 6 (.bin .lss (tm 5) (ki 0)),om 7 6,oF 8 (.mv (tm 1)) 7,oF 9 (fa 4 2) 7,oF 10 (ld 1 9) 7,oF 11 (le 0 10) 7,oF 12 (.bin .geq
 (tm 8) (tm 11)) 7,od 13 (.pick (tm 7) kT (tm 12))] [kp [1,2,13] []]) (.cond (tm 13) (.seq (.reg [od 4 (.mv (ku 2))] [kp [4] []]) .ret) .skip)) (.seq (.reg [od 14 (fa 4 2),od 15 (ld 1 14),om 16 1,od 17 (ia 1 15 16),od 18 (ld
 1 17),od 19 (.call 140 [(tm 18)]),om 4 19] [kp [4] []]) .ret)))
def Jl:List RV:=[.tmp 4]
/- (probecard/sims.run).observe (function 107) -/
abbrev Vt:IC:=.gh (.seq (.reg [od 15 (.bin .lss (tm 14) (tm 13))] [kp [1,2,3,12,13,14,15] [2,3,24,55]]) (.seq (.cond (tm 15) .skip (.exit 0)) (.seq (.block 1 (.seq (.reg [od 16 (ia 1 12 14),od 17 (ld 1 16),om 5 17] [kp [1,2,3,5,
 12,13,14] [2,3,24,55]]) (.reg [od 18 (fa 0 3),od 19 (.ldR 3 1 false (tm 18)),od 20 (.ldT 5 true (tm 1)),om 21 5,od 22 (.call 174 [(tm 20),(tm 21)]),od 23 (.bsl true 71 1 [(tm 22)]),od 24 (.app false 71 1 (tm 19) (tm
 23)),od 25 (fa 0 3),on (.stR 3 1 (tm 25) (tm 24))] [kp [1,2,3,12,13,14] [2,3,24,55]]))) (.reg [od 26 (.bin .add (tm 14) (ki 1)),om 14 26] [kp [1,2,3,12,13,14] [2,3,24,55]])))) [kp [1,2,3,12,13,14] [2,3,24,
 55]]
def Hj:IC:=.loop Vt
abbrev Vu:IC:=.gh (.seq (.reg [od 32 (.bin .lss (tm 31) (tm 30))] [kp [1,2,3,29,30,31,32] [2,3,24,55]]) (.seq (.cond (tm 32) .skip (.exit 2)) (.seq (.block 3 (.seq (.reg [od 33 (ia 1 29 31),od 34 (ld 1 33),om 7 34] [kp [1,2,3,7,
 29,30,31] [2,3,24,55]]) (.seq (.reg [od 8 (.mv (ku 2))] [kp [1,2,3,7,8,29,30,31] [2,3,24,55]]) (.seq (.seq (.reg [od 35 (fa 0 1),od 36 (fa 0 35),od 37 (ld 1 36),om 38 7,od 39 (ia 4 37 38),od 40 (fa 1 39),od 41
 (ld 1 40),om 9 41] [kp [1,2,3,8,9,29,30,31] [2,3,24,55]]) (.seq (.reg [om 42 9,od 43 (le 0 42),od 44 (.bin .eql (tm 43) (ki 1))] [kp [1,2,3,8,9,29,30,31,44] [2,3,24,55]]) (.cond (tm 44) (.reg [od 45 (lG 5
 1),om 46 9,od 47 (.iadr 1 (tm 46) (ki 0)),od 48 (ld 1 47),od 49 (.call 174 [(tm 45),(tm 48)]),od 50 (.call 154 [(tm 49)]),om 8 50] [kp [1,2,3,8,29,30,31] [2,3,24,55]]) .skip))) (.reg [od 51 (fa 1 3),od 52 (ld 1
 51),om 53 8,od 54 (.bsl true 71 1 [(tm 53)]),od 55 (.app false 71 1 (tm 52) (tm 54)),od 56 (fa 1 3),on (.store 1 (tm 56) (tm 55))] [kp [1,2,3,29,30,31] [2,3,24,55]]))))) (.reg [od 57 (.bin .add (tm 31) (ki 1)),om 31
 57] [kp [1,2,3,29,30,31] [2,3,24,55]])))) [kp [1,2,3,29,30,31] [2,3,24,55]]
def Hk:IC:=.loop Vu
abbrev Vv:IC:=(.seq (.reg [od 1 (.box true (tm 0)),od 2 (.alloc false [(.slice none 0 0),(.slice none 0 0)])] [kp [1,2] [2,24,55]]) (.seq (.reg [od 3 (.alloc false [(.slice none 0 0),(.slice none 0 0)])] [.nlb 3 0 24 71 1,.nlb 3 1 55 71
 1,kp [1,2,3] [2,3,24,55]]) (.seq (.seq (.reg [od 10 (fa 0 1),od 11 (fa 3 10),od 12 (ld 1 11),od 13 (le 0 12),od 14 (.mv (ki 0))] [kp [1,2,3,12,13,14] [2,3,24,55]]) (.block 0 Hj)) (.seq (.seq (.reg
 [od 27 (fa 0 1),od 28 (lG 4 27),od 29 (.call 18 [(tm 28)]),od 30 (le 0 29),od 31 (.mv (ki 0))] [kp [1,2,3,29,30,31] [2,3,24,55]]) (.block 2 Hk)) (.seq (.reg [od 58 (fa 0 3),od 59 (.ldR 3 1 false (tm
 58)),od 60 (.rcall 89 [(tm 59)] [24]),od 61 (fa 1 3),od 62 (.ldR 3 1 false (tm 61)),od 63 (.rcall 89 [(tm 62)] [55]),od 64 (.build [(1,(tm 60)),(1,(tm 63))]),on (.stR 2 2 (tm 2) (tm 64))] [kp [2] [2,24,55]]) .ret)))))
theorem P7 (h:∀ K:St→Prop,K=run P Γ Hj Q→run P Γ Vt (As K Q) s):run P Γ Hj Q s:=Ah h
theorem P8 (h:∀ K:St→Prop,K=run P Γ Hk Q→run P Γ Vu (As K Q) s):run P Γ Hk Q s:=Ah h
def Vw:List RV:=[.cell 2 2 true]
/- probecard/sims.Observe (function 88) -/
abbrev q1w:IC:=(.seq (.reg [od 2 (.box true (tm 0)),od 4 (.alloc false [(.slice none 0 0),(.slice none 0 0)])] [kp [1,2,4] [4]]) (.seq (.reg [od 5 (lG 4 2),om 6 1,od 7 (.build [(4,(tm 5)),(1,(tm 6))]),od 8 (.call 107 [(tm 7)]),on
 (.store 2 (tm 4) (tm 8))] [kp [4] [4]]) .ret))
def q1x:List RV:=[.cell 4 2 true]
/- probecard/netlists.Inputs (function 56) -/
abbrev Xy:IC:=(.seq (.reg [od 1 (.box true (tm 0)),od 2 (.mv kN)] [kp [1] []]) (.seq (.reg [od 3 (lG 4 1),od 4 (.bsl true 43 1 [(ku 0)]),od 5 (.call 74 [(tm 3),(tm 4)]),om 2 5] [kp [2] []]) .ret))
def Xz:List RV:=[.tmp 2]
/- slices.Clip[[]probecard/api.Value,probecard/api.Value] (function 89) -/
abbrev Ha:IC:=(.seq (.reg [od 2 (.mv kN)] [kp [0] [1000000]]) (.seq (.reg [om 3 0,om 4 0,od 5 (le 0 4),om 6 0,od 7 (le 0 6),od 8 (.slice 1 (tm 3) none (some (tm 5)) (some (tm 7))),om 2 8] [kp [2] [1000000]]) .ret))
def He:List RV:=[.tmp 2]
end
end Go.Lg
namespace Go.Lg
open Go Go.Proofs
theorem q9l:Aw Tryz.prog 105 q1f 43 2 H3=true:=by kernel_rfl
theorem q8y:Aw Tryz.prog 173 q4D 5 1 q4E=true:=by kernel_rfl
theorem q54:Aw Tryz.prog 174 Jk 20 2 Jl=true:=by kernel_rfl
theorem q34:Aw Tryz.prog 107 Vv 65 1 Vw=true:=by kernel_rfl
theorem q6t:Aw Tryz.prog 88 q1w 9 2 q1x=true:=by kernel_rfl
theorem q3o:Aw Tryz.prog 56 Xy 6 1 Xz=true:=by kernel_rfl
theorem M1:Aw Tryz.prog 89 Ha 9 1 He=true:=by kernel_rfl
end Go.Lg
namespace Go.Lg
open Go Go.Proofs
variable {Γ:Tables}
theorem Uf (c:B7) (hc:COk c):Ae Tryz.prog Γ 56 [.agg (tC c)] (.sl (Ax (Da c)) (some (Da c).length) none):=by
 refine B1 q3o rfl ?_
 simp [Xy,tC,A7,A9,Ac,B5]
 refine A3 (qAz c hc 0) rfl ?_
 simp [Xz,Da]
theorem q8z (es:List (List T)) (cap:Option Nat) (nl:Option Bool) (hw:D5 1 es):Ae Tryz.prog Γ 89 [.sl es cap nl] (.sl es (some es.length) nl):=by
 refine B1 M1 rfl ?_
 simp [Ha,He,ret,hw]
def q0L (v:Int):Bool:=decide (3<v)
theorem q90 (v:Int):A6 Tryz.prog Γ 173 [tK v] (tB (q0L v)):=by
 refine Ab q8y rfl ?_
 simp [q4D,q4E,Av,q0L]
structure Pat where
 inn:Sl Int
 st:Sl Int
def tP (p:Pat):List T:=[tV p.inn,tV p.st]
theorem Sz (c:B7):(Da c).length≤c.nodes.l.length:=q1W _ _ _
theorem C5 (c:B7):(Ag c).length≤c.nodes.l.length:=q1W _ _ _
def q67 (c:B7) (p:Pat):Int :=
 if 0<c.mems.l.length∨0<(mems c).length then 7 else
 if p.inn.l.length ≠ (Da c).length∨p.st.l.length ≠ (Ag c).length then 8 else
 if p.inn.l.any q0L=true∨p.st.l.any q0L=true then 1 else 0
theorem qFb (c:B7) (hc:COk c) (p:Pat) (hp:p.inn.l.length≤1000000000∧p.st.l.length≤1000000000):A6 Tryz.prog Γ 105 [.agg (tC c),.agg (tP p)] (tI (q67 c p)):=by
 refine Ab q9l rfl ?_
 have e1:=qAz (Γ:=Γ) c hc 15
 have e2:=Uf (Γ:=Γ) c hc
 have e3:=Ek (Γ:=Γ) c hc
 have e4:=Dx (Γ:=Γ) p.inn.l p.inn.cap p.inn.nl 173 [] q0L (fun x _=>q90 x) hp.1
 have e5:=Dx (Γ:=Γ) p.st.l p.st.cap p.st.nl 173 [] q0L (fun x _=>q90 x) hp.2
 have hm:ofL [15] c.nodes.l 0=mems c:=rfl
 rw [hm] at e1
 generalize hR:q67 c p=R
 unfold q67 at hR
 by_cases h1:0<c.mems.l.length
 ·rw [if_pos (.inl h1)] at hR
  subst hR
  have h1':¬ c.mems.l=[]:=fun e=>by rw [e] at h1; simp at h1
  simp [q1f,tC,A7,A9,Ac,B5,tP,tV,Aa,h1,h1',H3,Av]
 have h1':c.mems.l=[]:=List.eq_nil_of_length_eq_zero (by omega)
 simp [q1f,tC,A7,A9,Ac,B5,tP,tV,Aa,h1,h1']
 refine A3 e1 (by simp [Aj,Ai,Af,tC,A7,A9,Ac,B5,h1']) ?_
 by_cases h2:0<(mems c).length
 ·rw [if_pos (.inr h2)] at hR
  subst hR
  have h2':¬ mems c=[]:=fun e=>by rw [e] at h2; simp at h2
  simp [A0,h2,h2',H3,Av]
 rw [if_neg (by omega)] at hR
 have h2':mems c=[]:=List.eq_nil_of_length_eq_zero (by omega)
 simp [A0,h2']
 have tt:∀ {x:T},x=T.agg (tC c)→Ai [some x]=some [T.agg (tC c)]:=fun h=>by rw [h]; rfl
 have tc:T.agg (tC c)=T.agg [T.sl (Ao Bt c.nodes.l) c.nodes.cap c.nodes.nl,T.sl (Af tS c.names.l) c.names.cap c.names.nl,T.sl (Ao tMm []) c.mems.cap c.mems.nl,T.sl (Ax c.outs.l) c.outs.cap c.outs.nl]:=by rw [← h1']; rfl
 refine Ad e2 (by rw [tc]; rfl) ?_
 simp [A0]
 by_cases h3:p.inn.l.length=(Da c).length
 case neg =>
  have h3':¬ (p.inn.l.length:Int)=(Da c).length:=by omega
  rw [if_pos (.inl h3)] at hR
  subst hR
  simp [h3,h3',H3,Av,Bh]
 simp [h3]
 refine Ad e3 (by rw [tc]; rfl) ?_
 simp [A0]
 by_cases h4:p.st.l.length=(Ag c).length
 case neg =>
  have h4':¬ (p.st.l.length:Int)=(Ag c).length:=by omega
  rw [if_pos (.inr h4)] at hR
  subst hR
  simp [h4,h4',H3,Av,Bh]
 rw [if_neg (by omega)] at hR
 simp [h4,Bh]
 refine A3 e4 rfl ?_
 by_cases h5:p.inn.l.any q0L=true
 ·rw [if_pos (.inl h5)] at hR
  subst hR
  simp only [h5]
  simp [H3,Av]
 simp only [Bool.not_eq_true] at h5
 simp only [h5]
 simp
 refine A3 e5 rfl ?_
 by_cases h6:p.st.l.any q0L=true
 ·rw [if_pos (.inr h6)] at hR
  subst hR
  simp only [h6]
  simp [H3,Av]
 rw [if_neg (by simp only [h5]; simp only [Bool.not_eq_true] at h6; simp [h6])] at hR
 subst hR
 simp only [Bool.not_eq_true] at h6
 simp only [h6]
 simp [H3,Av]
def Yo (c:B7) (id n:Nat) (cap:Option Nat):List AV:=[.t (A7 c.nodes),.t (A9 c.names),.t (Ac c.mems),.t (B5 c.outs),.ls id 0 n cap]
theorem q91 {ns vs l:List Int} {i:Nat} (h:i<ns.length) (hv:i<vs.length):Hy (ns.drop i) (vs.drop i) l=Hy (ns.drop (i+1)) (vs.drop (i+1)) (l.set (ns.getD i 0).toNat (vs.getD i 0)):=by
 rw [List.drop_eq_getElem_cons h,List.drop_eq_getElem_cons hv]
 simp only [Hy]
 rw [D8 h,D8 hv]
@[simp] theorem qMF {s:Nat} {e:List T}:D5 s [e]=(e.length=s):=propext ⟨fun h=>h e List.mem_cons_self,fun h x hx=>by simp at hx; subst hx; exact h⟩
def N3 (c:B7) (nets:Sl Int):List T:=[A7 c.nodes,A9 c.names,Ac c.mems,B5 c.outs,tV nets]
def q0M (nets:List Int) (n:Int):Int:=if n<0∨(nets.length:Int)≤n then 2 else F4 (nets.getD n.toNat 0)
theorem q92 (c:B7) (nets:Sl Int) (n:Int) (hl:nets.l.length≤1000000000):A6 Tryz.prog Γ 174 [.agg (N3 c nets),tI n] (tK (q0M nets.l n)):=by
 refine Ab q54 rfl ?_
 generalize hR:q0M nets.l n=R
 unfold q0M at hR
 by_cases h1:n<0
 ·rw [if_pos (.inl h1)] at hR
  subst hR
  simp [Jk,N3,A7,A9,Ac,B5,tV,h1,Jl,Av]
 by_cases h2:(nets.l.length:Int)≤n
 ·rw [if_pos (.inr h2)] at hR
  subst hR
  simp [Jk,N3,A7,A9,Ac,B5,tV,h1,h2,A0,Jl,Av]
 rw [if_neg (by omega)] at hR
 have h3:n.toNat<nets.l.length:=by omega
 have e:=ge1 (f:=tK) h3
 generalize nets.l.getD n.toNat 0=v at *
 have h4:n<nets.l.length:=by omega
 simp (disch:=omega) [Jk,N3,A7,A9,Ac,B5,tV,h1,h2,h4,A0,A8,e]
 refine ⟨by omega,A3 (q52 v) rfl ?_⟩
 simp [Jl,Av,hR]
def q93 (c:B7) (nets:List Int) (n:Int):Int:=if (Ks c n.toNat).length=1 then P6 (q0M nets ((Ks c n.toNat).getD 0 0)) else 2
def q0q (c:B7) (nets:List Int):List Int:=c.outs.l.map (q0M nets)
def Dt (c:B7) (nets:List Int):List Int:=(Ag c).map (q93 c nets)
def q6u (o s:Nat):List AV:=[.ls 24 0 o none,.ls 55 0 s none]
def q3p (o s:List Int):List (Nat × Bc):=[(2,.bx [.t (.sl [] (some 0) (some true)),.t (.sl [] (some 0) (some true))]),(3,.bx (q6u o.length s.length)),(24,.sl 71 1 (Az o)),(55,.sl 71 1 (Az s))]
theorem q0r {l:List Int} {v:Int}:Az l++[[tK v]]=Az (l++[v]):=Bz
theorem E5 {l:List Int}:(Az l).take l.length=Az l:=An
theorem qCL {Q:AX→St→Prop} (c:B7) (nets:Sl Int) (hl:nets.l.length≤1000000000) (ho:c.outs.l.length≤1000000000) (R:List Int)
  (h0:Q (.exit 0) ⟨[(1,.t (.ip (N3 c nets) 0)),(2,.lp 2 0 0),(3,.lp 3 0 0),(12,.t (B5 c.outs)),(13,.t (tI c.outs.l.length)),(14,.t (tI c.outs.l.length)),(15,.t (tB false))],q3p R []⟩) :
  ∀ (k i:Nat) (out:List Int),k+i=c.outs.l.length→out.length=i→out++(c.outs.l.drop i).map (q0M nets.l)=R →
  run Tryz.prog Γ Hj Q ⟨[(1,.t (.ip (N3 c nets) 0)),(2,.lp 2 0 0),(3,.lp 3 0 0),(12,.t (B5 c.outs)),(13,.t (tI c.outs.l.length)),(14,.t (tI i))],q3p out []⟩
 | 0,i,out,h,hi,hR=>by
  refine P7 fun K hK=>?_
  have h2:i=c.outs.l.length:=by omega
  rw [List.drop_of_length_le (by omega),List.map_nil,List.append_nil] at hR
  subst hR
  simp [q3p,q6u,h2]
  simpa [q3p,q6u] using h0
 | k+1,i,out,h,hi,hR=>by
  refine P7 fun K hK=>?_
  have h2:i<c.outs.l.length:=by omega
  rw [List.drop_eq_getElem_cons h2,List.map_cons] at hR
  have e:=ge1 (f:=tI) h2
  rw [D8 h2] at e
  generalize c.outs.l[i]=n at *
  have ih:=qCL c nets hl ho R h0 k (i+1) (out++[q0M nets.l n]) (by omega) (by simp [hi]) (by rw [← hR]; simp)
  have vs:=q0r (l:=out) (v:=q0M nets.l n)
  have vt:(Az out).take i=Az out:=by rw [← hi]; exact E5
  have hv:=q92 (Γ:=Γ) c nets n hl
  simp (disch:=omega) [q3p,q6u,h2,B5,A0,A8,e,hi,A5,N3,A7,A9,Ac,tV]
  refine A3 hv rfl ?_
  simp (disch:=omega) [vt,vs,A0,A8,hi,A5]
  refine ⟨by omega,?_⟩
  rw [hK]
  simpa [q3p,q6u,hi,N3,A7,A9,Ac,B5,tV] using ih
theorem qAN {Q:AX→St→Prop} (c:B7) (hc:COk c) (nets:Sl Int) (hl:nets.l.length≤1000000000) (ns:List Int) (hns:ns.length≤1000000000) (hin:∀ n ∈ ns,0≤n∧n<c.nodes.l.length) (o R:List Int)
  (h0:Q (.exit 2) ⟨[(1,.t (.ip (N3 c nets) 0)),(2,.lp 2 0 0),(3,.lp 3 0 0),(29,.t (.sl (Ax ns) (some ns.length) none)),(30,.t (tI ns.length)),(31,.t (tI ns.length)),(32,.t (tB false))],q3p o R⟩) :
  ∀ (k i:Nat) (out:List Int),k+i=ns.length→out.length=i→out++(ns.drop i).map (q93 c nets.l)=R →
  run Tryz.prog Γ Hk Q ⟨[(1,.t (.ip (N3 c nets) 0)),(2,.lp 2 0 0),(3,.lp 3 0 0),(29,.t (.sl (Ax ns) (some ns.length) none)),(30,.t (tI ns.length)),(31,.t (tI i))],q3p o out⟩
 | 0,i,out,h,hi,hR=>by
  refine P8 fun K hK=>?_
  have h2:i=ns.length:=by omega
  rw [List.drop_of_length_le (by omega),List.map_nil,List.append_nil] at hR
  subst hR
  simp [q3p,q6u,h2]
  simpa [q3p,q6u] using h0
 | k+1,i,out,h,hi,hR=>by
  refine P8 fun K hK=>?_
  have h2:i<ns.length:=by omega
  rw [List.drop_eq_getElem_cons h2,List.map_cons] at hR
  have e:=ge1 (f:=tI) h2
  have hn:=hin ns[i] (List.getElem_mem h2)
  rw [D8 h2] at e
  generalize ns[i]=n at *
  have ih:=qAN c hc nets hl ns hns hin o R h0 k (i+1) (out++[q93 c nets.l n]) (by omega) (by simp [hi]) (by rw [← hR]; simp)
  have vs:=q0r (l:=out) (v:=q93 c nets.l n)
  have vt:(Az out).take i=Az out:=by rw [← hi]; exact E5
  have hnn:n.toNat<c.nodes.l.length:=by omega
  have hget:(Ao Bt c.nodes.l)[n.toNat]?.getD []=Bt (c.nodes.l.getD n.toNat Nd.d):=by
   rw [Dv Nd.d hnn]; simp [List.getD_eq_getElem?_getD]
  have hxi:=hc.inn _ (List.getElem_mem hnn)
  have hgd:c.nodes.l.getD n.toNat Nd.d=c.nodes.l[n.toNat]:=by simp [List.getD_eq_getElem?_getD,hnn]
  have hia:Ks c n.toNat=(c.nodes.l.getD n.toNat Nd.d).inn.l:=rfl
  have hnl:q93 c nets.l n=if (Ks c n.toNat).length=1 then P6 (q0M nets.l ((Ks c n.toNat).getD 0 0)) else 2:=rfl
  rw [← hgd] at hxi
  rw [hia] at hnl
  generalize c.nodes.l.getD n.toNat Nd.d=x at *
  generalize q93 c nets.l n=v at *
  obtain ⟨h3,h4⟩:=hn
  by_cases h1:x.inn.l.length=1
  ·rw [if_pos h1] at hnl
   have h10:0<x.inn.l.length:=by omega
   have e0:=ge1 (f:=tI) h10
   have hv:=q92 (Γ:=Γ) c nets (x.inn.l.getD 0 0) hl
   generalize x.inn.l.getD 0 0=m at *
   simp (disch:=omega) [q3p,q6u,h2,B5,A0,A8,e,hi,A5,N3,A7,A9,Ac,tV,h3,h4,Aa,Aq,hget,Bt,h1,e0,h10]
   refine A3 hv rfl ?_
   simp
   refine A3 (Su _) rfl ?_
   rw [← hnl]
   simp (disch:=omega) [vt,vs,A0,A8,hi,A5]
   refine ⟨by omega,?_⟩
   rw [hK]
   simpa [q3p,q6u,hi,N3,A7,A9,Ac,B5,tV] using ih
  ·rw [if_neg h1] at hnl
   subst hnl
   have h1i:¬ (x.inn.l.length:Int)=1:=by omega
   simp (disch:=omega) [q3p,q6u,h2,B5,A0,A8,e,hi,A5,N3,A7,A9,Ac,tV,h3,h4,Aa,Aq,hget,Bt,h1,h1i,Bh,vt,vs]
   refine ⟨by omega,?_⟩
   rw [hK]
   simpa [q3p,q6u,hi,N3,A7,A9,Ac,B5,tV] using ih
theorem q94 (ty:Nat) (es:List (List T)) (cap:Option Nat) (hw:D5 1 es):F9 Tryz.prog Γ 89 [(1000000,.sl ty 1 es)] [.ls 1000000 0 es.length cap] (.ls 1000000 0 es.length (some es.length)) [(1000000,.sl ty 1 es)]:=by
 refine Ht M1 rfl ?_
 simp [Ha,He,qFG,hw]
def tVs (l:List Int):T:=.sl (Az l) (some l.length) none
theorem qB6 (c:B7) (hc:COk c) (nets:Sl Int) (hl:nets.l.length≤1000000000):A6 Tryz.prog Γ 107 [.agg (N3 c nets)] (.agg [tVs (q0q c nets.l),tVs (Dt c nets.l)]):=by
 refine Ab q34 rfl ?_
 have hn:=hc.nodes
 have ho:=hc.outs
 have hs:=C5 c
 have g1:=fun Q h0=>qCL (Γ:=Γ) (Q:=Q) c nets hl ho (q0q c nets.l) h0 c.outs.l.length 0 [] (by omega) rfl (by simp [q0q])
 have g2:=fun Q h0=>qAN (Γ:=Γ) (Q:=Q) c hc nets hl (Ag c) (by omega) (fun x hx=>⟨(q0K x hx).1,(q0K x hx).2.1⟩) (q0q c nets.l) (Dt c nets.l) h0 (Ag c).length 0 [] (by omega) rfl (by simp [Dt])
 have l1:(q0q c nets.l).length=c.outs.l.length:=by simp [q0q]
 have l2:(Dt c nets.l).length=(Ag c).length:=by simp [Dt]
 have t1:=E5 (l:=q0q c nets.l)
 have t2:=E5 (l:=Dt c nets.l)
 generalize q0q c nets.l=O at *
 generalize Dt c nets.l=S at *
 simp [Vv,N3,A7,A9,Ac,B5,tV,A0]
 refine g1 _ ?_
 simp [q3p,q6u,N3,A7,A9,Ac,B5,tV]
 refine Ad (Ek c hc) rfl ?_
 simp [A0]
 refine g2 _ ?_
 have hc1:=q94 (Γ:=Γ) 71 (Az O) none A8
 have hc2:=q94 (Γ:=Γ) 71 (Az S) none A8
 simp only [A0] at hc1 hc2
 simp [q3p,q6u]
 refine ⟨_,hc1,?_⟩
 simp
 refine ⟨_,hc2,?_⟩
 simp [Vw,tVs,A0,Av,Aj,t1,t2]
def nd (c:B7) (n:Int):Nd:=c.nodes.l.getD n.toNat Nd.d
theorem qDc {c:B7} {n:Int} (h0:0≤n) (h:n<c.nodes.l.length):(Ao Bt c.nodes.l)[n.toNat]?.getD []=Bt (nd c n):=by
 rw [Dv Nd.d (by omega)]; simp [nd,List.getD_eq_getElem?_getD]
theorem qH0 {c:B7} {n:Int} (h0:0≤n) (h:n<c.nodes.l.length):nd c n ∈ c.nodes.l:=by
 have hi:n.toNat<c.nodes.l.length:=by omega
 have:nd c n=c.nodes.l[n.toNat]:=by simp [nd,List.getD_eq_getElem?_getD,hi]
 rw [this]; exact List.getElem_mem hi
def Iy:AV:=.t (.sl [] (some 0) (some true))
structure ROk (c:B7):Prop where
 ok:COk c
 inn:∀ x ∈ c.nodes.l,x.inn.l.length≤16∧∀ k ∈ x.inn.l,0≤k∧k<c.nodes.l.length
theorem qEZ {c:B7} {nets:List Int} {n:Int} (h:∀ v ∈ nets,V4 v):∀ v ∈ q49 c nets n,V4 v:=by
 intro v hv
 unfold q49 at hv
 split at hv
 ·rcases List.mem_or_eq_of_mem_set hv with hv | rfl
  ·exact h v hv
  ·refine qIS fun u hu=>?_
   obtain ⟨q,_,rfl⟩:=List.mem_map.1 hu
   exact q1b h _
 ·exact h v hv
def qDd (c:B7) (p:Pat):Int:=if Eb c ≠ 0 then Eb c else q67 c p
theorem qKW {c:B7} (hc:COk c) (h:Eb c=0):ROk c:=by
 have hs:=(Kt h).1
 exact ⟨hc,fun x hx=>⟨(Gy hs).2.1 x hx,q8t hs x hx⟩⟩
theorem q84:∀ {ns vs nets:List Int},(∀ v ∈ vs,V4 v)→(∀ v ∈ nets,V4 v)→∀ v ∈ Hy ns vs nets,V4 v
 | [],vs,nets,_,h=>by cases vs <;> exact h
 | _::_,[],nets,_,h=>h
 | n::ns,v::vs,nets,hv,h=>by
  simp only [Hy]
  refine q84 (fun u hu=>hv u (List.mem_cons_of_mem _ hu)) fun u hu=>?_
  rcases List.mem_or_eq_of_mem_set hu with hu | rfl
  ·exact h u hu
  ·exact hv _ List.mem_cons_self
end Go.Lg
namespace Go.Lg
open Go
section
variable {P:Program} {Γ:Tables} {Q:AX→St→Prop} {s:St}
/- probecard/probecardlaw06.taken (function 109) -/
abbrev q4F:IC:=.gh (.seq (.reg [od 12 (.bin .lss (tm 11) (tm 10))] [kp [3,9,10,11,12] [8]]) (.seq (.cond (tm 12) .skip (.exit 0)) (.seq (.block 1 (.seq (.reg [om 13 11,od 14 (ia 1 9 11),od 15 (ld 1 14),om 4 13,om 5 15] [kp [3,4,5,9,
 10,11] [8]]) (.reg [om 16 3,om 17 4,om 18 5,od 19 (.call 140 [(tm 18)]),od 20 (.idxS (.const (sV [48,49,88,90])) (tm 19)),od 21 (ia 1 16 17),on (.store 1 (tm 21) (tm 20))] [kp [3,9,10,11] [8]]))) (.reg [od 22 (.bin
 .add (tm 11) (ki 1)),om 11 22] [kp [3,9,10,11] [8]])))) [kp [3,9,10,11] [8]]
def Tt:IC:=.loop q4F
abbrev q4G:IC:=(.seq (.reg [od 2 (.mv (.const (sV [])))] [kp [0] []]) (.seq (.reg [om 6 0,od 7 (le 0 6),od 8 (.mk 5 1 [(.int .u8 0)] (tm 7) (tm 7)),om 3 8] [kp [0,3] [8]]) (.seq (.seq (.reg [om 9 0,od 10 (le 0 9),od 11 (.mv (ki 0))] [kp [3,
 9,10,11] [8]]) (.block 0 Tt)) (.seq (.reg [om 23 3,od 24 (.bytesStr (tm 23)),om 2 24] [kp [2] []]) .ret))))
theorem Zf (h:∀ K:St→Prop,K=run P Γ Tt Q→run P Γ q4F (As K Q) s):run P Γ Tt Q s:=Ah h
def q4H:List RV:=[.tmp 2]
end
end Go.Lg
namespace Go.Lg
open Go Go.Proofs
theorem q95:Aw Tryz.prog 78 q4G 25 1 q4H=true:=by kernel_rfl
end Go.Lg
namespace Go.Lg
open Go Go.Proofs
variable {Γ:Tables}
def chV (v:Int):Int:=if v=0 then 48 else if v=1 then 49 else if v=2 then 88 else 90
def qAO (l:List Int):List UInt8:=l.map fun v=>UInt8.ofNat (chV (F4 v)).toNat
theorem qAP {Q:AX→St→Prop} (l:Sl Int) (hl:l.l.length≤1000000000) (hv:∀ v ∈ l.l,0≤v) (R:List Int)
  (h0:Q (.exit 0) ⟨[(3,.ls 8 0 l.l.length none),(9,.t (tV l)),(10,.t (tI l.l.length)),(11,.t (tI l.l.length)),(12,.t (tB false))],[(8,.sl 5 1 (Az R))]⟩):∀ (k i:Nat),k+i=l.l.length→R=l.l.map (fun v=>chV (F4 v)) →
  run Tryz.prog Γ Tt Q ⟨[(3,.ls 8 0 l.l.length none),(9,.t (tV l)),(10,.t (tI l.l.length)),(11,.t (tI i))],[(8,.sl 5 1 (Az (R.take i++List.replicate (l.l.length - i) 0)))]⟩
 | 0,i,h,hR=>by
  refine Zf fun K hK=>?_
  have h2:i=l.l.length:=by omega
  have h3:R.length=l.l.length:=by rw [hR]; simp
  subst h2
  rw [← h3,List.take_length,h3,Nat.sub_self,List.replicate_zero,List.append_nil]
  simp
  exact h0
 | k+1,i,h,hR=>by
  refine Zf fun K hK=>?_
  have h2:i<l.l.length:=by omega
  have h3:R.length=l.l.length:=by rw [hR]; simp
  have ih:=qAP l hl hv R h0 k (i+1) (by omega) hR
  have e1:=ge1 (f:=tK) h2
  have hv0:=hv (l.l.getD i 0) (by rw [D8 h2]; exact List.getElem_mem h2)
  have hRi:R.getD i 0=chV (F4 (l.l.getD i 0)):=by rw [hR,D8 h2]; simp [List.getD_eq_getElem?_getD,h2]
  have hset:∀ v,v=R.getD i 0→(Az (R.take i++List.replicate (l.l.length - i) 0)).set i [tK v]=Az (R.take (i+1)++List.replicate (l.l.length - (i+1)) 0):=by
   rintro v rfl
   show (Af tK _).set i [tK _]=Af tK _
   rw [Ir]
   congr 1
   have e:l.l.length - i=(l.l.length - (i+1))+1:=by omega
   have ht:(R.take i).length=i:=by rw [List.length_take]; omega
   have hri:i<R.length:=by omega
   have hta:R.take (i+1)=R.take i++[R.getD i 0]:=by rw [List.take_add_one,List.getElem?_eq_getElem hri,D8 hri]; rfl
   rw [e,List.replicate_succ,List.set_append,if_neg (by rw [ht]; omega),ht,Nat.sub_self,hta]
   simp
  have hlen:(Az (R.take i++List.replicate (l.l.length - i) 0)).length=l.l.length:=by rw [A0]; simp; omega
  generalize Az (R.take i++List.replicate (l.l.length - i) 0)=E at *
  generalize l.l.getD i 0=v at *
  have hc4:F4 v=0∨F4 v=1∨F4 v=2∨F4 v=3:=by unfold F4; split <;> omega
  simp (disch:=omega) [h2,tV,A0,A8,e1,A5]
  refine A3 (q52 v) rfl ?_
  have hch:(ByteArray.mk #[48,49,88,90]).size=4:=rfl
  have hb:∀ q:Int,F4 v=q→(0≤q∧q<4):=fun q hq=>by omega
  generalize F4 v=w at *
  have hval:((([48,49,88,90]:List UInt8)[w.toNat]?.getD 0).toNat:Int)=chV w:=by
   rcases hc4 with rfl | rfl | rfl | rfl <;> rfl
  have hw:=hb w rfl
  have hs:=hset _ (hval.trans hRi.symm)
  simp (disch:=omega) [h2,hlen,hs,A5,sV,hch,hw]
  rw [hK]
  simpa [tV] using ih
theorem q96:∀ (l:List Int),(∀ v ∈ l,0≤v∧v<256)→Nz (Az l)=some (l.map fun v=>UInt8.ofNat v.toNat)
 | [],_=>rfl
 | v::l,h=>by
  have ih:=q96 l fun u hu=>h u (List.mem_cons_of_mem _ hu)
  have hv:=h v List.mem_cons_self
  show (Nz (Az l)).map _=_
  rw [ih]; rfl
theorem q3Z (l:Sl Int) (hl:l.l.length≤1000000000) (hv:∀ v ∈ l.l,0≤v):A6 Tryz.prog Γ 78 [tV l] (tS (qAO l.l)):=by
 refine Ab q95 rfl ?_
 have g:=fun Q h0=>qAP (Γ:=Γ) (Q:=Q) l hl hv (l.l.map fun v=>chV (F4 v)) h0 l.l.length 0 (by omega) rfl
 have hz:List.replicate l.l.length [T.v (Value.int .u8 0)]=Az (([]:List Int)++List.replicate (l.l.length - 0) 0):=by simp [Af]
 have hlen:(l.l.map fun v=>chV (F4 v)).length=l.l.length:=by simp
 have hR:Nz (Az (l.l.map fun v=>chV (F4 v)))=some (qAO l.l):=by
  rw [q96]
  ·simp [qAO]
  ·intro v hv'
   obtain ⟨u,_,rfl⟩:=List.mem_map.1 hv'
   unfold chV; split; omega; split; omega; split <;> omega
 have htk:(Az (l.l.map fun v=>chV (F4 v))).take l.l.length=Az (l.l.map fun v=>chV (F4 v)):=by rw [← hlen]; exact E5
 rw [List.take_zero] at g
 generalize Az (l.l.map fun v=>chV (F4 v))=E at *
 simp (disch:=omega) [q4G,tV,A0,A5]
 refine ⟨by omega,?_⟩
 rw [hz]
 refine g _ ?_
 simp [q4H,Av,htk,hR,tS,sV]
def v1 (v:Int):Sl Int:=⟨[v],none,none⟩
end Go.Lg
namespace Go.Lg
open Go
section
variable {P:Program} {Γ:Tables} {Q:AX→St→Prop} {s:St}
/- probecard/memories.matches (function 162) -/
abbrev Vx:IC:=.gh (.seq (.reg [od 10 (.bin .lss (tm 9) (tm 8))] [kp [0,7,8,9,10] []]) (.seq (.cond (tm 10) .skip (.exit 0)) (.seq (.block 1 (.seq (.reg [od 11 (ia 1 7 9),od 12 (ld 1 11),om 6 12] [kp [0,6,7,8,9] []]) (.seq (.seq (.reg
 [om 13 6,od 14 (.call 31 [(tm 13)]),om 15 14,oT 16 (.mv (tm 6)) 15,oT 17 (.conv .i64 (tm 16)) 15,oT 18 (.mv (tm 0)) 15,oT 19 (.bin .and (tm 18) (ki 1)) 15,oT 20 (.bin .neq (tm 17) (tm 19)) 15,od 21 (.pick (tm 15) (tm 20)
 kF)] [kp [0,7,8,9,21] []]) (.cond (tm 21) (.seq (.reg [od 4 (.mv kF)] [kp [4] []]) .ret) .skip)) (.reg [om 22 0,od 23 (.bin .shr (tm 22) (.const (.int .u64 1))),om 0 23] [kp [0,7,8,9] []])))) (.reg [od 24 (.bin .add (tm 9)
 (ki 1)),om 9 24] [kp [0,7,8,9] []])))) [kp [0,7,8,9] []]
def Hl:IC:=.loop Vx
abbrev Vy:IC:=(.seq (.reg [od 4 (.mv kF)] [kp [0,1] []]) (.seq (.seq (.reg [om 7 1,od 8 (le 0 7),od 9 (.mv (ki 0))] [kp [0,7,8,9] []]) (.block 0 Hl)) (.seq (.reg [om 25 0,od 26 (.bin .eql (tm 25) (ki 0)),om 4 26] [kp [4]
 []]) .ret)))
theorem P9 (h:∀ K:St→Prop,K=run P Γ Hl Q→run P Γ Vx (As K Q) s):run P Γ Hl Q s:=Ah h
def N5:List RV:=[.tmp 4]
/- probecard/memories.bit (function 163) -/
abbrev Ve:IC:=(.seq (.reg [od 4 (.mv (ku 0))] [kp [0,1] []]) (.seq (.seq (.reg [om 5 1,om 6 0,od 7 (le 0 6),od 8 (.bin .geq (tm 5) (tm 7))] [kp [0,1,8] []]) (.cond (tm 8) (.seq (.reg [od 4 (.mv (ku 2))] [kp [4] []]) .ret) .skip)) (.seq
 (.reg [om 9 0,om 10 1,od 11 (ia 1 9 10),od 12 (ld 1 11),od 13 (.call 154 [(tm 12)]),om 4 13] [kp [4] []]) .ret)))
def Vf:List RV:=[.tmp 4]
/- probecard/memories.common (function 164) -/
abbrev Oh:IC:=(.seq (.reg [od 4 (.mv (ku 0))] [kp [0,1] []]) (.seq (.seq (.reg [om 5 0,om 6 1,od 7 (.bin .neq (tm 5) (tm 6))] [kp [0,7] []]) (.cond (tm 7) (.seq (.reg [od 4 (.mv (ku 2))] [kp [4] []]) .ret) .skip)) (.seq (.reg [om 8 0,om 4
 8] [kp [4] []]) .ret)))
def Oi:List RV:=[.tmp 4]
/- probecard/memories.Look (function 91) -/
abbrev q0s:IC:=.gh (.seq (.reg [od 32 (.bin .lss (tm 31) (tm 30))] [kp [1,5,6,8,18,19,20,30,31,32] [22030]]) (.seq (.cond (tm 32) .skip (.exit 2)) (.seq (.block 3 (.seq (.reg [om 33 31,om 9 33] [kp [1,5,6,8,9,18,19,20,30,31]
 [22030]]) (.seq (.reg [om 34 6] [kp [1,5,6,8,9,18,19,20,30,31,34] [22030]]) (.cond (tm 34) (.reg [om 35 5,om 36 9,om 37 8,om 38 9,od 39 (.call 163 [(tm 37),(tm 38)]),od 40 (ia 1 35 36),on (.store 1 (tm 40) (tm
 39))] [kp [1,5,6,8,18,19,20,30,31] [22030]]) (.reg [om 41 5,om 42 9,om 43 5,om 44 9,od 45 (ia 1 43 44),od 46 (.ldR 22030 1 false (tm 45)),om 47 8,om 48 9,od 49 (.call 163 [(tm 47),(tm 48)]),od 50 (.call 164 [(tm
 46),(tm 49)]),od 51 (ia 1 41 42),on (.stR 22030 1 (tm 51) (tm 50))] [kp [1,5,6,8,18,19,20,30,31] [22030]]))))) (.reg [od 52 (.bin .add (tm 31) (ki 1)),om 31 52] [kp [1,5,6,8,18,19,20,30,31] [22030]])))) [kp [1,
 5,6,8,18,19,20,30,31] [22030]]
def Lc:IC:=.loop q0s
abbrev q0t:IC:=.gh (.seq (.reg [od 21 (.bin .lss (tm 20) (tm 19))] [kp [1,5,6,18,19,20,21] [22030]]) (.seq (.cond (tm 21) .skip (.exit 0)) (.seq (.block 1 (.seq (.reg [om 22 20,od 23 (ia 1 18 20),od 24 (ld 1 23),om 7 22,om 8 24] [kp [1,
 5,6,7,8,18,19,20] [22030]]) (.seq (.seq (.reg [om 25 7,om 26 1,od 27 (.call 162 [(tm 25),(tm 26)]),od 28 (.un .not (tm 27))] [kp [1,5,6,8,18,19,20,28] [22030]]) (.cond (tm 28) (.exit 1) .skip)) (.seq (.seq (.reg
 [om 29 5,od 30 (le 0 29),od 31 (.mv (ki 0))] [kp [1,5,6,8,18,19,20,30,31] [22030]]) (.block 2 Lc)) (.reg [od 6 (.mv kF)] [kp [1,5,6,18,19,20] [22030]]))))) (.reg [od 53 (.bin .add (tm 20) (ki 1)),om 20
 53] [kp [1,5,6,18,19,20] [22030]])))) [kp [1,5,6,18,19,20] [22030]]
def Ld:IC:=.loop q0t
abbrev T0:IC:=(.seq (.reg [od 4 (.mv kN)] [kp [0,1] []]) (.seq (.seq (.reg [om 10 0,od 11 (le 0 10),od 12 (.bin .eql (tm 11) (ki 0))] [kp [0,1,12] []]) (.cond (tm 12) (.seq (.reg [od 4 (.mv kN)] [kp [4] [22030]]) .ret) .skip)) (.seq (.reg
 [om 13 0,od 14 (.iadr 1 (tm 13) (ki 0)),od 15 (ld 1 14),od 16 (le 0 15),od 17 (.ncall 97 [(tm 16)] 17000),om 5 17] [kp [0,1,5] [22030]]) (.seq (.reg [od 6 (.mv kT)] [kp [0,1,5,6] [22030]]) (.seq (.seq (.reg [om 18 0,od
 19 (le 0 18),od 20 (.mv (ki 0))] [kp [1,5,6,18,19,20] [22030]]) (.block 0 Ld)) (.seq (.reg [om 54 5,om 4 54] [kp [4] [22030]]) .ret))))))
theorem Ug (h:∀ K:St→Prop,K=run P Γ Lc Q→run P Γ q0s (As K Q) s):run P Γ Lc Q s:=Ah h
theorem Uh (h:∀ K:St→Prop,K=run P Γ Ld Q→run P Γ q0t (As K Q) s):run P Γ Ld Q s:=Ah h
def T8:List RV:=[.tmp 4]
/- probecard/memories.Store (function 92) -/
abbrev Zg:IC:=.gh (.seq (.reg [od 51 (.bin .lss (tm 50) (tm 49))] [kp [1,2,3,9,10,11,12,26,27,28,49,50,51] [25,37]]) (.seq (.cond (tm 51) .skip (.exit 2)) (.seq (.block 3 (.seq (.reg [om 52 50,om 13 52] [kp [1,2,3,9,10,11,12,
 13,26,27,28,49,50] [25,37]]) (.seq (.reg [om 53 12,om 54 13,od 55 (.call 163 [(tm 53),(tm 54)]),om 56 2,om 57 13,od 58 (.call 163 [(tm 56),(tm 57)]),om 14 55,om 15 58] [kp [1,2,3,9,10,11,12,13,14,15,26,27,
 28,49,50] [25,37]]) (.block 4 (.seq (.reg [om 69 3,od 70 (.bin .eql (tm 69) (ku 0)),om 71 70,oF 72 (.mv (tm 11)) 71,oF 73 (.mv (tm 1)) 71,oF 74 (.call 162 [(tm 72),(tm 73)]) 71,oF 75 (.un .not (tm 74)) 71,od 76 (.pick
 (tm 71) kT (tm 75)),om 68 76] [kp [1,2,3,9,10,11,12,13,14,15,26,27,28,49,50,68] [25,37]]) (.cond (tm 68) (.reg [om 77 10,om 78 11,od 79 (ia 1 77 78),od 80 (ld 1 79),om 81 13,om 82 14,od 83 (ia 1 80 81),on
 (.store 1 (tm 83) (tm 82))] [kp [1,2,3,9,10,11,12,26,27,28,49,50] [25,37]]) (.seq (.reg [om 85 9,om 84 85] [kp [1,2,3,9,10,11,12,13,14,15,26,27,28,49,50,84] [25,37]]) (.cond (tm 84) (.reg [om 86 10,om
 87 11,od 88 (ia 1 86 87),od 89 (ld 1 88),om 90 13,om 91 15,od 92 (ia 1 89 90),on (.store 1 (tm 92) (tm 91))] [kp [1,2,3,9,10,11,12,26,27,28,49,50] [25,37]]) (.reg [om 59 10,om 60 11,od 61 (ia 1 59 60),od 62
 (.ldR 25 1 false (tm 61)),om 63 13,om 64 14,om 65 15,od 66 (.call 164 [(tm 64),(tm 65)]),od 67 (ia 1 62 63),on (.stR 37 1 (tm 67) (tm 66))] [kp [1,2,3,9,10,11,12,26,27,28,49,50] [25,37]]))))))))) (.reg [od 93
 (.bin .add (tm 50) (ki 1)),om 50 93] [kp [1,2,3,9,10,11,12,26,27,28,49,50] [25,37]])))) [kp [1,2,3,9,10,11,12,26,27,28,49,50] [25,37]]
def Jm:IC:=.loop Zg
abbrev Zh:IC:=.gh (.seq (.reg [od 29 (.bin .lss (tm 28) (tm 27))] [kp [1,2,3,9,10,26,27,28,29] [25,37]]) (.seq (.cond (tm 29) .skip (.exit 0)) (.seq (.block 1 (.seq (.reg [om 30 28,od 31 (ia 1 26 28),od 32 (ld 1 31),om 11 30,om 12
 32] [kp [1,2,3,9,10,11,12,26,27,28] [25,37]]) (.seq (.reg [om 33 10,om 34 11,om 35 12,od 36 (le 0 35),od 37 (.mk 71 1 [(.int .u8 0)] (tm 36) (tm 36)),od 38 (ia 1 33 34),on (.store 1 (tm 38) (tm 37))] [kp [1,2,3,
 9,10,11,12,26,27,28] [25,37]]) (.seq (.reg [om 39 10,om 40 11,od 41 (ia 1 39 40),od 42 (ld 1 41),om 43 12,od 44 (.cpy 1 (tm 42) (tm 43))] [kp [1,2,3,9,10,11,12,26,27,28] [25,37]]) (.seq (.reg [om 45 10,om 46
 11,od 47 (ia 1 45 46),od 48 (ld 1 47),od 49 (le 0 48),od 50 (.mv (ki 0))] [kp [1,2,3,9,10,11,12,26,27,28,49,50] [25,37]]) (.block 2 Jm)))))) (.reg [od 94 (.bin .add (tm 28) (ki 1)),om 28 94] [.frz
 37,kp [1,2,3,9,10,26,27,28] [25,37]])))) [kp [1,2,3,9,10,26,27,28] [25,37]]
def Jn:IC:=.loop Zh
abbrev Qd:IC:=(.seq (.reg [od 8 (.mv kN)] [kp [0,1,2,3] []]) (.seq (.reg [om 16 3,od 17 (.bin .eql (tm 16) (ku 1)),om 18 17,oT 19 (.mv (tm 1)) 18,oT 20 (.call 101 [(tm 19),(.func 165)]) 18,oT 21 (.un .not (tm 20)) 18,od 22 (.pick (tm
 18) (tm 21) kF),om 9 22] [kp [0,1,2,3,9] []]) (.seq (.reg [om 23 0,od 24 (le 0 23),od 25 (.mkB 55 [(.slice none 0 0)] (tm 24) (tm 24)),om 10 25] [kp [0,1,2,3,9,10] [25,37]]) (.seq (.seq (.reg [om 26 0,od 27 (le 0
 26),od 28 (.mv (ki 0))] [kp [1,2,3,9,10,26,27,28] [25,37]]) (.block 0 Jn)) (.seq (.reg [om 95 10,om 8 95] [kp [8] [25,37]]) .ret)))))
theorem R9 (h:∀ K:St→Prop,K=run P Γ Jm Q→run P Γ Zg (As K Q) s):run P Γ Jm Q s:=Ah h
theorem Rb (h:∀ K:St→Prop,K=run P Γ Jn Q→run P Γ Zh (As K Q) s):run P Γ Jn Q s:=Ah h
def Qe:List RV:=[.tmp 8]
/- probecard/memories.Store$1 (function 165) -/
abbrev Vz:IC:=(.seq (.reg [od 2 (.mv kF)] [kp [0] []]) (.seq (.reg [om 3 0,od 4 (.call 31 [(tm 3)]),od 5 (.un .not (tm 4)),om 2 5] [kp [2] []]) .ret))
def W0:List RV:=[.tmp 2]
/- probecard/memories.unknown (function 97) -/
abbrev W1:IC:=(.seq (.reg [od 2 (.mv kN)] [kp [0] []]) (.seq (.reg [od 3 (.bsl true 71 1 [(ku 2)]),om 4 0,od 5 (.call 144 [(tm 3),(tm 4)]),om 2 5] [kp [2] []]) .ret))
def W2:List RV:=[.tmp 2]
/- (probecard/memories.machine).values (function 87) -/
abbrev Ku:IC:=.gh (.seq (.reg [od 14 (.bin .lss (tm 13) (tm 12))] [kp [2,5,11,12,13,14] [10]]) (.seq (.cond (tm 14) .skip (.exit 0)) (.seq (.block 1 (.seq (.reg [od 15 (ia 1 11 13),od 16 (ld 1 15),om 7 16] [kp [2,5,7,11,12,13] [10]])
 (.reg [om 17 5,od 18 (fa 4 2),od 19 (ld 1 18),om 20 7,od 21 (ia 1 19 20),od 22 (ld 1 21),od 23 (.bsl true 71 1 [(tm 22)]),oz 24 (.app false 71 1 (tm 17) (tm 23)) 10,om 5 24] [kp [2,5,11,12,13] [10]]))) (.reg [od 25
 (.bin .add (tm 13) (ki 1)),om 13 25] [kp [2,5,11,12,13] [10]])))) [kp [2,5,11,12,13] [10]]
def E2:IC:=.loop Ku
abbrev Kv:IC:=(.seq (.reg [od 2 (.box true (tm 0)),od 4 (.mv kN)] [kp [1,2] []]) (.seq (.reg [om 8 1,od 9 (le 0 8),od 10 (.mk 71 1 [(.int .u8 0)] (ki 0) (tm 9)),om 5 10] [kp [1,2,5] [10]]) (.seq (.seq (.reg [om 11 1,od 12 (le 0 11),od
 13 (.mv (ki 0))] [kp [2,5,11,12,13] [10]]) (.block 0 E2)) (.seq (.reg [om 26 5,om 4 26] [kp [4] [10]]) .ret))))
theorem Hz (h:∀ K:St→Prop,K=run P Γ E2 Q→run P Γ Ku (As K Q) s):run P Γ E2 Q s:=Ah h
def Kw:List RV:=[.tmp 4]
/- (probecard/memories.machine).load (function 84) -/
abbrev Nl:IC:=.gh (.seq (.reg [od 17 (.bin .lss (tm 16) (tm 15))] [kp [2,3,4,14,15,16,17] [3,1000000]]) (.seq (.cond (tm 17) .skip (.exit 0)) (.seq (.block 1 (.seq (.reg [om 18 16,od 19 (ia 1 14 16),od 20 (ld 1 19),om 6 18,om 7 20]
 [kp [2,3,4,6,7,14,15,16] [3,1000000]]) (.reg [od 21 (fa 4 3),od 22 (.ldR 3 1 false (tm 21)),om 23 7,om 24 2,om 25 6,od 26 (ia 1 24 25),od 27 (.ldT 1 false (tm 26)),od 28 (ia 1 22 23),on (.stR 1000000 1 (tm 28) (tm
 27))] [kp [2,3,4,14,15,16] [3,1000000]]))) (.reg [od 29 (.bin .add (tm 16) (ki 1)),om 16 29] [kp [2,3,4,14,15,16] [3,1000000]])))) [kp [2,3,4,14,15,16] [3,1000000]]
def Ee:IC:=.loop Nl
abbrev Nn:IC:=.gh (.seq (.reg [od 35 (.bin .lss (tm 34) (tm 33))] [kp [3,4,32,33,34,35] [3,1000000]]) (.seq (.cond (tm 35) .skip (.exit 2)) (.seq (.block 3 (.seq (.reg [om 36 34,od 37 (ia 1 32 34),od 38 (ld 1 37),om 8 36,om 9 38] [kp
 [3,4,8,9,32,33,34] [3,1000000]]) (.reg [od 39 (fa 4 3),od 40 (.ldR 3 1 false (tm 39)),om 41 9,od 42 (fa 0 4),od 43 (.ldT 1 false (tm 42)),om 44 8,od 45 (ia 1 43 44),od 46 (.ldT 1 false (tm 45)),od 47 (ia 1 40 41),on
 (.stR 1000000 1 (tm 47) (tm 46))] [kp [3,4,32,33,34] [3,1000000]]))) (.reg [od 48 (.bin .add (tm 34) (ki 1)),om 34 48] [kp [3,4,32,33,34] [3,1000000]])))) [kp [3,4,32,33,34] [3,1000000]]
def Ef:IC:=.loop Nn
abbrev Np:IC:=.gh (.seq (.reg [od 55 (.bin .lss (tm 54) (tm 53))] [kp [3,4,52,53,54,55] [3,1000000]]) (.seq (.cond (tm 55) .skip (.exit 4)) (.seq (.block 5 (.seq (.reg [od 56 (ia 1 52 54),od 57 (ld 1 56),om 11 57] [kp [3,4,11,52,53,
 54] [3,1000000]]) (.reg [od 58 (fa 4 3),od 59 (.ldR 3 1 false (tm 58)),om 60 11,od 61 (fa 2 4),od 62 (.ldT 1 false (tm 61)),od 63 (fa 0 3),od 64 (fa 0 63),od 65 (.ldR 3 1 false (tm 64)),om 66 11,od 67 (ia 4 65 66),od 68
 (fa 2 67),od 69 (.ldT 1 false (tm 68)),od 70 (ia 1 62 69),od 71 (.ldT 1 false (tm 70)),od 72 (fa 0 3),od 73 (fa 0 72),od 74 (.ldR 3 1 false (tm 73)),om 75 11,od 76 (ia 4 74 75),od 77 (fa 3 76),od 78 (.ldT 1 false (tm
 77)),od 79 (ia 1 71 78),od 80 (.ldT 1 false (tm 79)),od 81 (ia 1 59 60),on (.stR 1000000 1 (tm 81) (tm 80))] [kp [3,4,52,53,54] [3,1000000]]))) (.reg [od 82 (.bin .add (tm 54) (ki 1)),om 54 82] [kp [3,4,52,53,54] [3,
 1000000]])))) [kp [3,4,52,53,54] [3,1000000]]
def Eg:IC:=.loop Np
abbrev Nq:IC:=(.seq (.reg [od 3 (.box false (tm 0)),od 4 (.box true (tm 1))] [kp [2,3,4] [3,1000000]]) (.seq (.seq (.reg [od 12 (fa 0 3),od 13 (lG 4 12),od 14 (.call 56 [(tm 13)]),od 15 (le 0 14),od 16 (.mv (ki 0))] [kp [2,3,4,14,15,
 16] [3,1000000]]) (.block 0 Ee)) (.seq (.seq (.reg [od 30 (fa 0 3),od 31 (lG 4 30),od 32 (.call 18 [(tm 31)]),od 33 (le 0 32),od 34 (.mv (ki 0))] [kp [3,4,32,33,34] [3,1000000]]) (.block 2
 Ef)) (.seq (.reg [od 49 (fa 0 3),od 50 (lG 4 49),od 51 (.bsl true 43 1 [(ku 15)]),od 52 (.call 74 [(tm 50),(tm 51)]),od 53 (le 0 52),od 54 (.mv (ki 0))] [kp [3,4,52,53,54] [3,1000000]]) (.gh (.block
 4 Eg) [.keep [] [1000000]])))))
theorem Iz (h:∀ K:St→Prop,K=run P Γ Ee Q→run P Γ Nl (As K Q) s):run P Γ Ee Q s:=Ah h
theorem J0 (h:∀ K:St→Prop,K=run P Γ Ef Q→run P Γ Nn (As K Q) s):run P Γ Ef Q s:=Ah h
theorem J1 (h:∀ K:St→Prop,K=run P Γ Eg Q→run P Γ Np (As K Q) s):run P Γ Eg Q s:=Ah h
def Nr:List RV:=[]
/- probecard/memories.lists (function 149) -/
abbrev Zi:IC:=.gh (.seq (.reg [od 16 (.bin .lss (tm 15) (tm 14))] [kp [3,13,14,15,16] [11]]) (.seq (.cond (tm 16) .skip (.exit 0)) (.seq (.block 1 (.seq (.reg [od 17 (ia 1 13 15),od 18 (ld 1 17),om 5 18] [kp [3,5,13,14,15] [11]]) (.reg
 [om 19 3,om 20 5,oz 21 (.app false 55 1 (tm 19) (tm 20)) 11,om 3 21] [kp [3,13,14,15] [11]]))) (.reg [od 22 (.bin .add (tm 15) (ki 1)),om 15 22] [kp [3,13,14,15] [11]])))) [kp [3,13,14,15] [11]]
def Jo:IC:=.loop Zi
abbrev Zj:IC:=(.seq (.reg [od 1 (.box true (tm 0)),od 2 (.mv kN)] [kp [1] []]) (.seq (.reg [od 6 (fa 0 1),od 7 (ld 1 6),od 8 (.bsl true 55 1 [(tm 7)]),od 9 (fa 2 1),od 10 (ld 1 9),od 11 (.app false 55 1 (tm 8) (tm 10)),om 3 11] [kp [1,3]
 [11]]) (.seq (.seq (.reg [od 12 (fa 1 1),od 13 (ld 1 12),od 14 (le 0 13),od 15 (.mv (ki 0))] [kp [3,13,14,15] [11]]) (.block 0 Jo)) (.seq (.reg [om 23 3,om 2 23] [kp [2] [11]]) .ret))))
theorem Re (h:∀ K:St→Prop,K=run P Γ Jo Q→run P Γ Zi (As K Q) s):run P Γ Jo Q s:=Ah h
def Zk:List RV:=[.tmp 2]
/- probecard/memories.lists (function 149) -/
abbrev Y0:IC:=.gh (.seq (.reg [od 16 (.bin .lss (tm 15) (tm 14))] [kp [3,13,14,15,16] [21]]) (.seq (.cond (tm 16) .skip (.exit 0)) (.seq (.block 1 (.seq (.reg [od 17 (ia 1 13 15),od 18 (ld 1 17),om 5 18] [kp [3,5,13,14,15] [21]]) (.reg
 [om 19 3,om 20 5,od 21 (.app false 55 1 (tm 19) (tm 20)),om 3 21] [kp [3,13,14,15] [21]]))) (.reg [od 22 (.bin .add (tm 15) (ki 1)),om 15 22] [kp [3,13,14,15] [21]])))) [kp [3,13,14,15] [21]]
def Oj:IC:=.loop Y0
abbrev Y1:IC:=(.seq (.reg [od 1 (.box true (tm 0)),od 2 (.mv kN)] [kp [1] []]) (.seq (.reg [od 6 (fa 0 1),od 7 (ld 1 6),od 8 (.bsl true 55 1 [(tm 7)]),od 9 (fa 2 1),od 10 (ld 1 9),od 11 (.appT 55 1 (tm 8) (tm 10)),om 3 11] [kp [1,3]
 [21]]) (.seq (.seq (.reg [od 12 (fa 1 1),od 13 (ld 1 12),od 14 (le 0 13),od 15 (.mv (ki 0))] [kp [3,13,14,15] [21]]) (.block 0 Oj)) (.seq (.reg [om 23 3,om 2 23] [kp [2] [21]]) .ret))))
theorem q1g (h:∀ K:St→Prop,K=run P Γ Oj Q→run P Γ Y0 (As K Q) s):run P Γ Oj Q s:=Ah h
def Y2:List RV:=[.tmp 2]
/- probecard/memories.unknown (function 97) -/
abbrev Ui:IC:=(.seq (.reg [od 2 (.mv kN)] [kp [0] []]) (.seq (.reg [od 3 (.bsl true 71 1 [(ku 2)]),om 4 0,od 5 (.ncall 144 [(tm 3),(tm 4)] 5000),om 2 5] [kp [2] [5030]]) .ret))
def Uj:List RV:=[.tmp 2]
/- probecard/memories.fits (function 148) -/
abbrev q0u:IC:=.gh (.seq (.reg [od 37 (.bin .lss (tm 36) (tm 35))] [kp [3,34,35,36,37] []]) (.seq (.cond (tm 37) .skip (.exit 0)) (.seq (.block 1 (.seq (.reg [om 38 36,od 39 (ia 3 34 36),od 40 (lG 3 39),od 6 (.alloc false [(.slice none 0
 0),(.slice none 0 0),(.int .i64 0)]),om 5 38,on (.store 3 (tm 6) (tm 40))] [kp [3,5,6,34,35,36] [6]]) (.seq (.reg [od 41 (.mkf 210 [(tm 6)]),om 7 41] [kp [3,5,6,7,34,35,36] [6]]) (.seq (.reg [od 42 (fa 1 3),od 43
 (ld 1 42),om 44 5,od 45 (ia 1 43 44),od 46 (ld 1 45),od 47 (le 0 46),od 48 (fa 0 6),od 49 (ld 1 48),od 50 (le 0 49),od 51 (.bin .shl (ki 1) (tm 50)),od 52 (.bin .neq (tm 47) (tm 51)),om 53 52,oF 54 (.mv (tm 7)) 53,oF 55
 (fa 2 3) 53,oF 56 (ld 1 55) 53,oF 57 (.mv (tm 5)) 53,oF 58 (ia 1 56 57) 53,oF 59 (ld 1 58) 53,oF 60 (.callv (tm 54) [(tm 59)]) 53,od 61 (.pick (tm 53) kT (tm 60)),om 62 61,oF 63 (fa 1 3) 62,oF 64 (ld 1 63) 62,oF 65 (.mv
 (tm 5)) 62,oF 66 (ia 1 64 65) 62,oF 67 (ld 1 66) 62,oF 68 (.mv (tm 7)) 62,oF 69 (.call 103 [(tm 67),(tm 68)]) 62,od 70 (.pick (tm 62) kT (tm 69))] [kp [3,34,35,36,70] []]) (.cond (tm 70) (.seq (.reg [od 4 (.mv kF)] [kp
 [4] []]) .ret) .skip))))) (.reg [od 71 (.bin .add (tm 36) (ki 1)),om 36 71] [kp [3,34,35,36] []])))) [kp [3,34,35,36] []]
def Le:IC:=.loop q0u
abbrev q0v:IC:=(.seq (.reg [od 2 (.box true (tm 0)),od 3 (.box true (tm 1)),od 4 (.mv kF)] [kp [2,3] []]) (.seq (.seq (.reg [od 8 (fa 0 3),od 9 (ld 1 8),od 10 (le 0 9),od 11 (lG 4 2),od 12 (.call 18 [(tm 11)]),od 13 (le 0 12),od 14 (.bin
 .neq (tm 10) (tm 13)),om 15 14,oF 16 (fa 1 3) 15,oF 17 (ld 1 16) 15,oF 18 (le 0 17) 15,oF 19 (fa 2 2) 15,oF 20 (ld 1 19) 15,oF 21 (le 0 20) 15,oF 22 (.bin .neq (tm 18) (tm 21)) 15,od 23 (.pick (tm 15) kT (tm 22)),om 24
 23,oF 25 (fa 2 3) 24,oF 26 (ld 1 25) 24,oF 27 (le 0 26) 24,oF 28 (fa 2 2) 24,oF 29 (ld 1 28) 24,oF 30 (le 0 29) 24,oF 31 (.bin .neq (tm 27) (tm 30)) 24,od 32 (.pick (tm 24) kT (tm 31))] [kp [2,3,32] []]) (.cond (tm 32)
 (.seq (.reg [od 4 (.mv kF)] [kp [4] []]) .ret) .skip)) (.seq (.seq (.reg [od 33 (fa 2 2),od 34 (ld 1 33),od 35 (le 0 34),od 36 (.mv (ki 0))] [kp [3,34,35,36] []]) (.block 0 Le)) (.seq (.reg [od 4 (.mv kT)] [kp
 [4] []]) .ret))))
theorem Uk (h:∀ K:St→Prop,K=run P Γ Le Q→run P Γ q0u (As K Q) s):run P Γ Le Q s:=Ah h
def q0w:List RV:=[.tmp 4]
/- probecard/memories.fits$1 (function 210) -/
abbrev Y3:IC:=(.seq (.reg [od 3 (.mv kF)] [kp [0,1] []]) (.seq (.reg [om 4 0,od 5 (le 0 4),od 6 (fa 1 1),od 7 (ld 1 6),od 8 (le 0 7),od 9 (.bin .neq (tm 5) (tm 8)),om 3 9] [kp [3] []]) .ret))
def Y4:List RV:=[.tmp 3]
/- probecard/memories.Check (function 82) -/
abbrev Zl:IC:=(.seq (.reg [od 3 (.box true (tm 0)),od 4 (.box true (tm 1)),od 6 (.mv (ki 0))] [kp [2,3,4] []]) (.seq (.seq (.reg [od 10 (lG 4 3),od 11 (.call 19 [(tm 10)]),om 7 11] [kp [2,3,4,7] []]) (.seq (.reg [om 12 7,od 13 (.bin
 .neq (tm 12) (ki 0))] [kp [2,3,4,7,13] []]) (.cond (tm 13) (.seq (.reg [om 14 7,om 6 14] [kp [6] []]) .ret) .skip))) (.seq (.reg [od 8 (.alloc false [.nilFunc]),on (.store 1 (tm 8) (.func 145))] [kp [2,3,4,8] [8]]) (.seq
 (.reg [od 15 (.mkf 147 [(tm 8)]),om 9 15] [kp [2,3,4,8,9] [8]]) (.seq (.block 0 (.seq (.reg [om 17 2,od 18 (le 0 17),od 19 (lG 4 3),od 20 (.call 56 [(tm 19)]),od 21 (le 0 20),od 22 (.bin .neq (tm 18) (tm 21)),om 23 22,
 oF 24 (lG 4 3) 23,oF 25 (lG 3 4) 23,oF 26 (.call 148 [(tm 24),(tm 25)]) 23,oF 27 (.un .not (tm 26)) 23,od 28 (.pick (tm 23) kT (tm 27)),om 16 28] [kp [2,4,8,9,16] [8]]) (.cond (tm 16) (.seq (.reg [od 6 (.mv (ki 8))] [kp
 [6] []]) .ret) (.seq (.reg [om 30 2,od 31 (ld 1 8),od 32 (.callv (tm 31) [(ku 3)]),od 33 (.call 101 [(tm 30),(tm 32)]),om 34 33,oF 35 (lG 3 4) 34,oF 36 (.call 149 [(tm 35)]) 34,oF 37 (.mv (tm 9)) 34,oF 38 (.call 103 [(tm
 36),(tm 37)]) 34,od 39 (.pick (tm 34) kT (tm 38)),om 29 39] [kp [29] []]) (.cond (tm 29) (.seq (.reg [od 6 (.mv (ki 1))] [kp [6] []]) .ret) .skip))))) (.seq (.reg [od 6 (.mv (ki 0))] [kp [6] []]) .ret))))))
def Zm:List RV:=[.tmp 6]
/- probecard/memories.Check$1 (function 145) -/
abbrev W3:IC:=(.seq (.reg [od 1 (.box true (tm 0)),od 2 (.mv (.const .nilFunc))] [kp [1] []]) (.seq (.reg [od 3 (.mkf 146 [(tm 1)]),om 2 3] [kp [2] []]) .ret))
def W4:List RV:=[.tmp 2]
/- probecard/memories.Check$1$1 (function 146) -/
abbrev Rf:IC:=(.seq (.reg [od 3 (.mv kF)] [kp [0,1] []]) (.seq (.reg [om 4 0,od 5 (ld 1 1),od 6 (.bin .gtr (tm 4) (tm 5)),om 3 6] [kp [3] []]) .ret))
def Rh:List RV:=[.tmp 3]
/- probecard/memories.Check$2 (function 147) -/
abbrev W5:IC:=(.seq (.reg [od 3 (.mv kF)] [kp [0,1] []]) (.seq (.reg [om 4 0,od 5 (ld 1 1),od 6 (.callv (tm 5) [(ku 2)]),od 7 (.call 101 [(tm 4),(tm 6)]),om 3 7] [kp [3] []]) .ret))
def W6:List RV:=[.tmp 3]
/- probecard/memories.Cycle (function 25) -/
abbrev Zn:IC:=.gh (.seq (.reg [od 49 (.bin .lss (tm 48) (tm 47))] [kp [3,4,6,7,11,46,47,48,49] [6,7,11,35,105,127]]) (.seq (.cond (tm 49) .skip (.exit 0)) (.seq (.block 1 (.seq (.reg [od 50 (ia 1 46 48),od 51 (ld 1 50),om 15 51]
 [kp [3,4,6,7,11,15,46,47,48] [6,7,11,35,105,127]]) (.seq (.reg [od 52 (fa 0 11),od 53 (fa 0 52),od 54 (ld 1 53),om 55 15,od 56 (ia 4 54 55),od 57 (lG 4 56),od 16 (.alloc false [(.int .u8 0),(.slice none 0 0),
 (.int .i64 0),(.int .i64 0)]),on (.store 4 (tm 16) (tm 57))] [kp [3,4,6,7,11,15,16,46,47,48] [6,7,11,16,35,105,127]]) (.seq (.reg [od 58 (fa 0 16),od 59 (ld 1 58),od 60 (.call 47 [(tm 59)])] [kp [3,4,6,7,11,
 15,16,46,47,48,60] [6,7,11,16,35,105,127]]) (.cond (tm 60) (.reg [od 61 (fa 4 11),od 62 (.ldR 11 1 false (tm 61)),om 63 15,od 64 (fa 0 16),od 65 (.ldR 16 1 false (tm 64)),od 66 (.ldR 11 5 true (tm 11)),od 67 (fa 1
 16),od 68 (.ldR 16 1 false (tm 67)),od 69 (.call 87 [(tm 66),(tm 68)]),od 70 (.call 86 [(tm 65),(tm 69)]),od 71 (ia 1 62 63),on (.stR 35 1 (tm 71) (tm 70))] [kp [3,4,6,7,11,46,47,48] [6,7,11,35,105,127]])
 .skip))))) (.reg [od 72 (.bin .add (tm 48) (ki 1)),om 48 72] [kp [3,4,6,7,11,46,47,48] [6,7,11,35,105,127]])))) [kp [3,4,6,7,11,46,47,48] [6,7,11,35,105,127]]
def Jp:IC:=.loop Zn
abbrev Zo:IC:=.gh (.seq (.reg [od 87 (.bin .lss (tm 86) (tm 85))] [kp [4,6,7,11,17,18,84,85,86,87] [6,7,11,17,18,35,105,127]]) (.seq (.cond (tm 87) .skip (.exit 2)) (.seq (.block 3 (.seq (.reg [om 88 86,od 89 (ia 3 84 86),od 90
 (lG 3 89),od 20 (.alloc false [(.slice none 0 0),(.slice none 0 0),(.int .i64 0)]),om 19 88,on (.store 3 (tm 20) (tm 90))] [kp [4,6,7,11,17,18,19,20,84,85,86] [6,7,11,17,18,20,35,105,127]]) (.seq (.reg [od 91
 (lG 5 11),od 92 (fa 0 20),od 93 (ld 1 92),od 94 (.call 87 [(tm 91),(tm 93)]),om 21 94] [kp [4,6,7,11,17,18,19,20,21,84,85,86] [6,7,11,17,18,20,35,105,127]]) (.seq (.reg [od 95 (fa 2 18),od 96 (.ldR 18 1
 false (tm 95)),od 97 (fa 1 4),od 98 (.ldT 1 false (tm 97)),om 99 19,od 100 (ia 1 98 99),od 101 (.ldT 1 false (tm 100)),om 102 21,od 103 (.call 91 [(tm 101),(tm 102)]),od 104 (.bsl true 55 1 [(tm 103)]),od 105 (.app false
 55 1 (tm 96) (tm 104)),od 106 (fa 2 18),on (.stR 18 1 (tm 106) (tm 105))] [kp [4,6,7,11,17,18,19,20,21,84,85,86] [6,7,11,17,18,20,35,105,127]]) (.reg [od 107 (fa 1 18),od 108 (.ldR 18 1 false (tm 107)),od 109
 (fa 1 4),od 110 (.ldT 1 false (tm 109)),om 111 19,od 112 (ia 1 110 111),od 113 (.ldT 1 false (tm 112)),om 114 21,od 115 (.ldR 11 5 true (tm 11)),od 116 (fa 1 20),od 117 (.ldR 20 1 false (tm 116)),od 118 (.call 87 [(tm
 115),(tm 117)]),od 119 (fa 4 11),od 120 (.ldR 11 1 false (tm 119)),od 121 (fa 2 20),od 122 (.ldR 20 1 false (tm 121)),od 123 (ia 1 120 122),od 124 (.ldT 1 false (tm 123)),od 125 (.call 92 [(tm 113),(tm 114),(tm 118),(tm
 124)]),od 126 (.bsl true 57 1 [(tm 125)]),od 127 (.app false 57 1 (tm 108) (tm 126)),od 128 (fa 1 18),on (.stR 18 1 (tm 128) (tm 127))] [kp [4,6,7,11,17,18,84,85,86] [6,7,11,17,18,35,105,127]]))))) (.reg [od 129
 (.bin .add (tm 86) (ki 1)),om 86 129] [kp [4,6,7,11,17,18,84,85,86] [6,7,11,17,18,35,105,127]])))) [kp [4,6,7,11,17,18,84,85,86] [6,7,11,17,18,35,105,127]]
def Jq:IC:=.loop Zo
abbrev Zp:IC:=(.seq (.reg [od 3 (.box true (tm 0)),od 4 (.box true (tm 1)),od 6 (.alloc false [(.slice none 0 0),(.slice none 0 0),(.slice none 0 0)]),od 7 (.alloc false [(.slice none 0 0),(.slice none 0 0)]),od 8 (.mv kN),od 9 (.mv (ki
 0))] [kp [2,3,4,6,7] [6,7,105,127]]) (.seq (.seq (.reg [od 22 (lG 4 3),od 23 (lG 3 4),om 24 2,od 25 (.call 82 [(tm 22),(tm 23),(tm 24)]),om 10 25] [kp [2,3,4,6,7,10] [6,7,105,127]]) (.seq (.reg [om 26 10,od 27
 (.bin .neq (tm 26) (ki 0))] [kp [2,3,4,6,7,10,27] [6,7,105,127]]) (.cond (tm 27) (.seq (.reg [od 28 (.build [(1,kN),(1,kN),(1,kN)]),od 29 (.build [(1,kN),(1,kN)]),om 30 10,on (.store 3 (tm 6) (tm 28)),on
 (.store 2 (tm 7) (tm 29)),od 8 (.mv kN),om 9 30] [kp [6,7,8,9] [6,7,35,105,127]]) .ret) .skip))) (.seq (.reg [od 31 (.ldT 4 true (tm 3)),od 32 (fa 0 3),od 33 (.ldT 1 false (tm 32)),od 34 (le 0 33),od 35 (.mkE 71 1
 [(.int .u8 0)] (tm 34) (tm 34)),od 36 (.build [(4,(tm 31)),(1,(tm 35))]),od 11 (.alloc false [(.slice none 0 0),(.slice none 0 0),(.slice none 0 0),(.slice none 0 0),(.slice none 0 0)]),on (.stR 11 5 (tm 11) (tm 36))] [kp
 [2,3,4,6,7,11] [6,7,11,35,105,127]]) (.seq (.reg [od 37 (lG 5 11),od 38 (lG 3 4),om 39 2,od 40 (.hcall 84 [(tm 37),(tm 38),(tm 39)] [35] 40000)] [kp [3,4,6,7,11] [6,7,11,35,105,127]]) (.seq (.reg [od 42 (lG
 4 3),od 43 (.call 85 [(tm 42)]),om 41 43,od 44 (ex 41 0),od 45 (ex 41 1),om 12 44,om 13 45] [kp [3,4,6,7,11,12] [6,7,11,35,105,127]]) (.seq (.seq (.reg [om 46 12,od 47 (le 0 46),od 48 (.mv (ki 0))] [kp [3,4,6,
 7,11,46,47,48] [6,7,11,35,105,127]]) (.gh (.block 0 Jp) [.frz 35])) (.seq (.reg [od 73 (lG 4 3),od 74 (fa 4 11),od 75 (ld 1 74),od 76 (.call 88 [(tm 73),(tm 75)]),od 17 (.alloc false [(.slice none 0 0),
 (.slice none 0 0)]),on (.store 2 (tm 17) (tm 76))] [kp [4,6,7,11,17] [6,7,11,17,35,105,127]]) (.seq (.reg [od 77 (fa 1 17),od 78 (ld 1 77),od 79 (.call 90 [(tm 78)]),od 80 (.call 89 [(tm 79)]),od 81 (.build [(1,(tm
 80)),(1,kN),(1,kN)]),od 18 (.alloc false [(.slice none 0 0),(.slice none 0 0),(.slice none 0 0)]),on (.store 3 (tm 18) (tm 81))] [.nlb 18 1 127 57 1,.nlb 18 2 105 55 1,kp [4,6,7,11,17,18] [6,7,11,17,18,35,105,
 127]]) (.seq (.seq (.reg [od 82 (fa 0 11),od 83 (fa 2 82),od 84 (ld 1 83),od 85 (le 0 84),od 86 (.mv (ki 0))] [kp [4,6,7,11,17,18,84,85,86] [6,7,11,17,18,35,105,127]]) (.gh (.block 2 Jq) [.frz 127,
 .frz 105])) (.seq (.reg [od 130 (fa 1 18),od 131 (.ldR 18 1 false (tm 130)),od 132 (.call 93 [(tm 131)]),od 133 (fa 2 18),od 134 (.ldR 18 1 false (tm 133)),od 135 (.call 94 [(tm 134)]),od 136 (fa 1 18),on (.stR 18 1 (tm 136)
 (tm 132)),od 137 (fa 2 18),on (.stR 18 1 (tm 137) (tm 135))] [kp [6,7,11,17,18] [6,7,11,17,18,35,105,127]]) (.seq (.reg [od 138 (.ldR 18 3 true (tm 18)),od 139 (.ldR 17 2 true (tm 17)),od 140 (fa 4 11),od 141 (.ldR
 11 1 false (tm 140)),on (.stR 6 3 (tm 6) (tm 138)),on (.stR 7 2 (tm 7) (tm 139)),om 8 141,od 9 (.mv (ki 0))] [kp [6,7,8,9] [6,7,35,105,127]]) .ret)))))))))))
theorem Ri (h:∀ K:St→Prop,K=run P Γ Jp Q→run P Γ Zn (As K Q) s):run P Γ Jp Q s:=Ah h
theorem Rj (h:∀ K:St→Prop,K=run P Γ Jq Q→run P Γ Zo (As K Q) s):run P Γ Jq Q s:=Ah h
def Zq:List RV:=[.cell 6 3 true,.cell 7 2 true,.tmp 8,.tmp 9]
/- probecard/memories.Blank (function 29) -/
abbrev Zr:IC:=.gh (.seq (.reg [od 32 (.bin .lss (tm 31) (tm 30))] [kp [2,3,5,6,18,19,20,30,31,32] [2,3,5,28,46,55]]) (.seq (.cond (tm 32) .skip (.exit 2)) (.seq (.block 3 (.seq (.reg [om 33 31,om 7 33] [kp [2,3,5,6,7,18,19,
 20,30,31] [2,3,5,28,46,55]]) (.reg [om 34 6,om 35 7,od 36 (fa 1 5),od 37 (ld 1 36),od 38 (le 0 37),od 39 (.call 97 [(tm 38)]),od 40 (ia 1 34 35),on (.store 1 (tm 40) (tm 39))] [kp [2,3,5,6,18,19,20,30,31] [2,
 3,5,28,46,55]]))) (.reg [od 41 (.bin .add (tm 31) (ki 1)),om 31 41] [kp [2,3,5,6,18,19,20,30,31] [2,3,5,28,46,55]])))) [kp [2,3,5,6,18,19,20,30,31] [2,3,5,28,46,55]]
def Jr:IC:=.loop Zr
abbrev Zs:IC:=.gh (.seq (.reg [od 21 (.bin .lss (tm 20) (tm 19))] [kp [2,3,18,19,20,21] [2,3,46,55]]) (.seq (.cond (tm 21) .skip (.exit 0)) (.seq (.block 1 (.seq (.reg [od 22 (ia 3 18 20),od 23 (lG 3 22),od 5 (.alloc false [(.slice
 none 0 0),(.slice none 0 0),(.int .i64 0)]),on (.store 3 (tm 5) (tm 23))] [kp [2,3,5,18,19,20] [2,3,5,46,55]]) (.seq (.reg [od 24 (fa 0 5),od 25 (ld 1 24),od 26 (le 0 25),od 27 (.bin .shl (ki 1) (tm 26)),od 28 (.mk
 55 1 [(.slice none 0 0)] (tm 27) (tm 27)),om 6 28] [kp [2,3,5,6,18,19,20] [2,3,5,28,46,55]]) (.seq (.seq (.reg [om 29 6,od 30 (le 0 29),od 31 (.mv (ki 0))] [kp [2,3,5,6,18,19,20,30,31] [2,3,5,28,46,55]])
 (.gh (.block 2 Jr) [.frz 28])) (.seq (.reg [od 42 (fa 1 3),od 43 (ld 1 42),om 44 6,od 45 (.bsl true 57 1 [(tm 44)]),od 46 (.app false 57 1 (tm 43) (tm 45)),od 47 (fa 1 3),on (.store 1 (tm 47) (tm 46))] [kp [2,
 3,5,18,19,20] [2,3,5,46,55]]) (.reg [od 48 (fa 2 3),od 49 (.ldR 3 1 false (tm 48)),od 50 (fa 1 5),od 51 (.ldR 5 1 false (tm 50)),od 52 (le 0 51),od 53 (.call 97 [(tm 52)]),od 54 (.bsl true 55 1 [(tm 53)]),od 55 (.app
 false 55 1 (tm 49) (tm 54)),od 56 (fa 2 3),on (.stR 3 1 (tm 56) (tm 55))] [kp [2,3,18,19,20] [2,3,46,55]])))))) (.reg [od 57 (.bin .add (tm 20) (ki 1)),om 20 57] [kp [2,3,18,19,20] [2,3,46,55]])))) [kp [2,3,18,
 19,20] [2,3,46,55]]
def Js:IC:=.loop Zs
abbrev Zt:IC:=(.seq (.reg [od 1 (.box true (tm 0)),od 2 (.alloc false [(.slice none 0 0),(.slice none 0 0),(.slice none 0 0)])] [kp [1,2] [2,46,55]]) (.seq (.seq (.reg [od 8 (lG 4 1),od 9 (.call 19 [(tm 8)]),od 10 (.bin .neq (tm 9) (ki
 0))] [kp [1,2,10] [2,46,55]]) (.cond (tm 10) (.seq (.reg [od 11 (.build [(1,kN),(1,kN),(1,kN)]),on (.store 3 (tm 2) (tm 11))] [kp [2] [2,46,55]]) .ret) .skip)) (.seq (.reg [od 12 (lG 4 1),od 13 (.call 18 [(tm 12)]),od
 14 (le 0 13),od 15 (.call 97 [(tm 14)]),od 16 (.build [(1,(tm 15)),(1,kN),(1,kN)]),od 3 (.alloc false [(.slice none 0 0),(.slice none 0 0),(.slice none 0 0)]),on (.store 3 (tm 3) (tm 16))] [.nlb 3 1 46 57 1,.nlb 3 2 55
 55 1,kp [1,2,3] [2,3,46,55]]) (.seq (.seq (.reg [od 17 (fa 2 1),od 18 (ld 1 17),od 19 (le 0 18),od 20 (.mv (ki 0))] [kp [2,3,18,19,20] [2,3,46,55]]) (.gh (.block 0 Js) [.frz 46,.frz 55])) (.seq (.reg
 [od 58 (fa 1 3),od 59 (.ldR 3 1 false (tm 58)),od 60 (.call 93 [(tm 59)]),od 61 (fa 2 3),od 62 (.ldR 3 1 false (tm 61)),od 63 (.call 94 [(tm 62)]),od 64 (fa 1 3),on (.stR 3 1 (tm 64) (tm 60)),od 65 (fa 2 3),on (.stR 3 1
 (tm 65) (tm 63))] [kp [2,3] [2,3,46,55]]) (.seq (.reg [od 66 (lG 3 3),on (.store 3 (tm 2) (tm 66))] [kp [2] [2,46,55]]) .ret))))))
theorem Rk (h:∀ K:St→Prop,K=run P Γ Jr Q→run P Γ Zr (As K Q) s):run P Γ Jr Q s:=Ah h
theorem Rl (h:∀ K:St→Prop,K=run P Γ Js Q→run P Γ Zs (As K Q) s):run P Γ Js Q s:=Ah h
def Zu:List RV:=[.cell 2 3 true]
/- slices.Clip[[][][]probecard/api.Value,[][]probecard/api.Value] (function 93) -/
abbrev Kx:IC:=(.seq (.reg [od 2 (.mv kN)] [kp [0] []]) (.seq (.reg [om 3 0,om 4 0,od 5 (le 0 4),om 6 0,od 7 (le 0 6),od 8 (.slice 1 (tm 3) none (some (tm 5)) (some (tm 7))),om 2 8] [kp [2] []]) .ret))
def Ky:List RV:=[.tmp 2]
/- slices.Grow[[][]probecard/api.Value,[]probecard/api.Value] (function 142) -/
abbrev M3:IC:=(.seq (.reg [od 4 (.mv kN)] [kp [0,1] [22]]) (.seq (.seq (.reg [om 5 1,od 6 (.bin .lss (tm 5) (ki 0))] [kp [0,1,6] [22]]) (.cond (tm 6) .dead .skip)) (.seq (.seq (.reg [om 8 1,om 9 0,od 10 (.cap (tm 9)),om 11 0,od 12 (le 0
 11),od 13 (.bin .sub (tm 10) (tm 12)),od 14 (.bin .sub (tm 8) (tm 13)),om 1 14] [kp [0,1] [22]]) (.seq (.reg [om 15 1,od 16 (.bin .gtr (tm 15) (ki 0))] [kp [0,1,16] [22]]) (.cond (tm 16) (.reg [om 17 0,om 18 0,od 19 (.cap
 (tm 18)),od 20 (.slice 1 (tm 17) none (some (tm 19)) none),om 21 1,od 22 (.appZ 55 1 [(.slice none 0 0)] (tm 20) (tm 21)),om 23 0,od 24 (le 0 23),od 25 (.slice 1 (tm 22) none (some (tm 24)) none),om 0 25] [kp [0] [22]])
 .skip))) (.seq (.reg [om 26 0,om 4 26] [kp [4] [22]]) .ret))))
def M4:List RV:=[.tmp 4]
/- slices.Concat[[][]probecard/api.Value,[]probecard/api.Value] (function 80) -/
abbrev Jt:IC:=.gh (.seq (.reg [od 12 (.bin .lss (tm 11) (tm 10))] [kp [0,3,9,10,11,12] []]) (.seq (.cond (tm 12) .skip (.exit 0)) (.seq (.block 1 (.seq (.reg [od 13 (ia 1 9 11),od 14 (ld 1 13),om 5 14] [kp [0,3,5,9,10,11] []]) (.seq
 (.reg [om 15 3,om 16 5,od 17 (le 0 16),od 18 (.bin .add (tm 15) (tm 17)),om 3 18] [kp [0,3,9,10,11] []]) (.seq (.reg [om 19 3,od 20 (.bin .lss (tm 19) (ki 0))] [kp [0,3,9,10,11,20] []]) (.cond (tm 20) .dead .skip)))))
 (.reg [od 22 (.bin .add (tm 11) (ki 1)),om 11 22] [kp [0,3,9,10,11] []])))) [kp [0,3,9,10,11] []]
def Dy:IC:=.loop Jt
abbrev Ju:IC:=.gh (.seq (.reg [od 28 (.bin .lss (tm 27) (tm 26))] [kp [6,25,26,27,28] [24022]]) (.seq (.cond (tm 28) .skip (.exit 2)) (.seq (.block 3 (.seq (.reg [od 29 (ia 1 25 27),od 30 (ld 1 29),om 8 30] [kp [6,8,25,26,27] [24022]])
 (.reg [om 31 6,om 32 8,oz 33 (.app false 55 1 (tm 31) (tm 32)) 24022,om 6 33] [kp [6,25,26,27] [24022]]))) (.reg [od 34 (.bin .add (tm 27) (ki 1)),om 27 34] [kp [6,25,26,27] [24022]])))) [kp [6,25,26,27] [24022]]
def Dz:IC:=.loop Ju
abbrev Jv:IC:=(.seq (.reg [od 2 (.mv kN)] [kp [0] []]) (.seq (.reg [od 3 (.mv (ki 0))] [kp [0,3] []]) (.seq (.seq (.reg [om 9 0,od 10 (le 0 9),od 11 (.mv (ki 0))] [kp [0,3,9,10,11] []]) (.block 0 Dy)) (.seq (.reg
 [om 23 3,od 24 (.hcall 142 [kN,(tm 23)] [] 24000),om 6 24] [kp [0,6] [24022]]) (.seq (.seq (.reg [om 25 0,od 26 (le 0 25),od 27 (.mv (ki 0))] [kp [6,25,26,27] [24022]]) (.block 2 Dz)) (.seq (.reg
 [om 35 6,om 2 35] [kp [2] [24022]]) .ret))))))
theorem Hg (h:∀ K:St→Prop,K=run P Γ Dy Q→run P Γ Jt (As K Q) s):run P Γ Dy Q s:=Ah h
theorem Hh (h:∀ K:St→Prop,K=run P Γ Dz Q→run P Γ Ju (As K Q) s):run P Γ Dz Q s:=Ah h
def Jw:List RV:=[.tmp 2]
/- slices.ContainsFunc[[][]probecard/api.Value,[]probecard/api.Value] (function 103) -/
abbrev Gm:IC:=(.seq (.reg [od 4 (.mv kF)] [kp [0,1] []]) (.seq (.reg [om 5 0,om 6 1,od 7 (.call 172 [(tm 5),(tm 6)]),od 8 (.bin .geq (tm 7) (ki 0)),om 4 8] [kp [4] []]) .ret))
def Gn:List RV:=[.tmp 4]
/- slices.IndexFunc[[][]probecard/api.Value,[]probecard/api.Value] (function 172) -/
abbrev I0:IC:=.gh (.seq (.reg [od 9 (.bin .lss (tm 8) (tm 7))] [kp [0,1,7,8,9] []]) (.seq (.cond (tm 9) .skip (.exit 0)) (.seq (.block 1 (.seq (.reg [om 10 8,om 5 10] [kp [0,1,5,7,8] []]) (.seq (.reg [om 11 1,om 12 0,om 13 5,od 14
 (ia 1 12 13),od 15 (ld 1 14),od 16 (.callv (tm 11) [(tm 15)])] [kp [0,1,5,7,8,16] []]) (.cond (tm 16) (.seq (.reg [om 17 5,om 4 17] [kp [4] []]) .ret) .skip)))) (.reg [od 18 (.bin .add (tm 8) (ki 1)),om 8 18] [kp [0,1,7,
 8] []])))) [kp [0,1,7,8] []]
def Db:IC:=.loop I0
abbrev I1:IC:=(.seq (.reg [od 4 (.mv (ki 0))] [kp [0,1] []]) (.seq (.seq (.reg [om 6 0,od 7 (le 0 6),od 8 (.mv (ki 0))] [kp [0,1,7,8] []]) (.block 0 Db)) (.seq (.reg [od 4 (.mv (.const (.int .i64 (-1))))] [kp
 [4] []]) .ret)))
theorem G9 (h:∀ K:St→Prop,K=run P Γ Db Q→run P Γ I0 (As K Q) s):run P Γ Db Q s:=Ah h
def I2:List RV:=[.tmp 4]
end
end Go.Lg
namespace Go.Lg
open Go Go.Proofs
theorem q35:Aw Tryz.prog 162 Vy 27 2 N5=true:=by kernel_rfl
theorem q6v:Aw Tryz.prog 163 Ve 14 2 Vf=true:=by kernel_rfl
theorem q3q:Aw Tryz.prog 164 Oh 9 2 Oi=true:=by kernel_rfl
theorem q68:Aw Tryz.prog 91 T0 55 2 T8=true:=by kernel_rfl
theorem q55:Aw Tryz.prog 92 Qd 96 4 Qe=true:=by kernel_rfl
theorem q36:Aw Tryz.prog 165 Vz 6 1 W0=true:=by kernel_rfl
theorem q37:Aw Tryz.prog 97 W1 6 1 W2=true:=by kernel_rfl
theorem Ws:Aw Tryz.prog 87 Kv 27 2 Kw=true:=by kernel_rfl
theorem Yp:Aw Tryz.prog 84 Nq 83 3 Nr=true:=by kernel_rfl
theorem q56:Aw Tryz.prog 149 Zj 24 1 Zk=true:=by kernel_rfl
theorem q3r:Aw Tryz.prog 149 Y1 24 1 Y2=true:=by kernel_rfl
theorem q2O:Aw Tryz.prog 97 Ui 6 1 Uj=true:=by kernel_rfl
theorem q69:Aw Tryz.prog 148 q0v 72 2 q0w=true:=by kernel_rfl
theorem q3s:Aw Tryz.prog 210 Y3 10 2 Y4=true:=by kernel_rfl
theorem q57:Aw Tryz.prog 82 Zl 40 3 Zm=true:=by kernel_rfl
theorem q38:Aw Tryz.prog 145 W3 4 1 W4=true:=by kernel_rfl
theorem q1h:Aw Tryz.prog 146 Rf 7 2 Rh=true:=by kernel_rfl
theorem q39:Aw Tryz.prog 147 W5 8 2 W6=true:=by kernel_rfl
theorem q58:Aw Tryz.prog 25 Zp 142 3 Zq=true:=by kernel_rfl
theorem q59:Aw Tryz.prog 29 Zt 67 1 Zu=true:=by kernel_rfl
theorem Wt:Aw Tryz.prog 93 Kx 9 1 Ky=true:=by kernel_rfl
theorem Y5:Aw Tryz.prog 142 M3 27 2 M4=true:=by kernel_rfl
theorem Vg:Aw Tryz.prog 80 Jv 36 1 Jw=true:=by kernel_rfl
theorem Ol:Aw Tryz.prog 103 Gm 9 2 Gn=true:=by kernel_rfl
theorem Qo:Aw Tryz.prog 172 I1 19 2 I2=true:=by kernel_rfl
structure NG (B:Bool) (ns:List Nd) (i:Nat) (x:Nd):Prop where
 k:0≤x.k∧x.k≤15
 f:(S5 x.k).1≤x.inn.l.length∧(x.inn.l.length:Int)≤(S5 x.k).2
 inn:∀ p ∈ x.inn.l,0≤p∧p<ns.length
 top:1≤x.k∧x.k≤13→∀ p ∈ x.inn.l,p<i
 bus:x.k=13→∀ p ∈ x.inn.l,(ns.getD p.toNat Nd.d).k=12
 mm:(x.k ≠ 15→x.mem=0∧x.bit=0)∧(x.k=15→B=true∧x.mem=0∧0≤x.bit∧x.bit≤1)
theorem NG.mono {B:Bool} {ns ys:List Nd} {i:Nat} {x:Nd} (h:NG B ns i x):NG B (ns++ys) i x :=
 ⟨h.k,h.f,fun p hp=>by have:=h.inn p hp; simp; omega,h.top,fun hk p hp=>by
  have h1:=h.inn p hp
  rw [List.getD_eq_getElem?_getD,List.getElem?_append_left (by omega),← List.getD_eq_getElem?_getD]
  exact h.bus hk p hp,h.mm⟩
def GNs (B:Bool) (ns:List Nd):Prop:=∀ i (h:i<ns.length),NG B ns i ns[i]
theorem GNs.add {B:Bool} {ns:List Nd} {y:Nd} (h:GNs B ns) (hy:NG B (ns++[y]) ns.length y):GNs B (ns++[y]):=by
 intro i hi
 by_cases h1:i<ns.length
 ·rw [List.getElem_append_left h1]; exact (h i h1).mono
 ·have:i=ns.length:=by simp at hi; omega
  subst this
  simpa using hy
theorem T9:S5 0=(0,0)∧S5 1=(0,0)∧S5 2=(0,0)∧S5 3=(1,1)∧S5 4=(1,1)∧S5 5=(2,16)∧S5 6=(2,16)∧S5 7=(2,16)∧S5 8=(2,16)∧S5 9=(2,16)∧S5 10=(2,16)∧S5 11=(3,3)∧S5 12=(2,2)∧S5 13=(1,16)∧S5 14=(1,1)∧S5 15=(0,0):=by decide
theorem qKX {B:Bool} {ns:List Nd} {i:Nat}:NG B ns i q7n:=⟨by decide,by decide,by simp [q7n],by simp [q7n],by simp [q7n],by simp [q7n]⟩
theorem qKY {B:Bool} {ns:List Nd} {i:Nat} {v:Int} (h:0≤v∧v<ns.length):NG B ns i (q6n v):=⟨by simp [q6n],by simp [q6n,T9],by simp [q6n]; exact h,by simp [q6n],by simp [q6n],by simp [q6n]⟩
theorem qH1 {ns:List Nd} {i:Nat} {b:Int} (h:b=0∨b=1):NG true ns i (q4u b):=⟨by simp [q4u],by simp [q4u,T9],by simp [q4u],by simp [q4u],by simp [q4u],by simp [q4u]; omega⟩
theorem qKZ {ns:List Nd}:∀ p ∈ q5p ns,0≤p∧p<ns.length∧(ns.getD p.toNat Nd.d).k=12:=by
 intro p hp
 obtain ⟨h1,h2,h3⟩:=q0i [12] ns 0 p hp
 refine ⟨by omega,by omega,?_⟩
 simpa using h3
theorem qEa {l:List Int} {q:Nat} (h:q<l.length):l.getD q 0 ∈ l:=by
 rw [List.getD_eq_getElem?_getD,List.getElem?_eq_getElem h]; exact List.getElem_mem h
theorem qIX {B bus:Bool} {g:Gd} {ns:List Nd} (hg:qB0 g) (h0:1≤ns.length):NG B (ns++[q5q bus g ns]) ns.length (q5q bus g ns):=by
 have a:=D1 (n:=ns.length) hg.2.1.1 (by omega)
 have b:=D1 (n:=ns.length) hg.2.2.1.1 (by omega)
 have d:=D1 (n:=ns.length) hg.2.2.2.1 (by omega)
 have m13:0≤g.k.tmod 13∧g.k.tmod 13<13:=D1 (n:=13) hg.1.1 (by omega)
 have m9:0≤g.k.tmod 9∧g.k.tmod 9<9:=D1 (n:=9) hg.1.1 (by omega)
 have ma:0≤g.a.tmod 2∧g.a.tmod 2<2:=D1 (n:=2) hg.2.1.1 (by omega)
 have hkk:0≤(if bus then g.k.tmod 13 else g.k.tmod 9)∧(if bus then g.k.tmod 13 else g.k.tmod 9)<13:=by cases bus <;> simp <;> omega
 have ht:=qKZ (ns:=ns)
 obtain ⟨y,hy⟩:∃ y,y=q5q bus g ns:=⟨_,rfl⟩
 rw [← hy]
 have hlen:(ns++[y]).length=ns.length+1:=by simp
 have old:∀ p:Int,0≤p→p<ns.length→((ns++[y]).getD p.toNat Nd.d).k=(ns.getD p.toNat Nd.d).k:=fun p h1 h2=>by
  rw [List.getD_eq_getElem?_getD,List.getElem?_append_left (by omega),← List.getD_eq_getElem?_getD]
 -- what suffices of a plain gate
 have mk:∀ (k:Int) (l:List Int) (cap:Option Nat) (nl:Option Bool),0≤k→k≤15→k ≠ 13→k ≠ 15→(S5 k).1≤l.length→(l.length:Int)≤(S5 k).2→(∀ p ∈ l,0≤p∧p<ns.length)→NG B (ns++[y]) ns.length ⟨k,⟨l,cap,nl⟩,0,0⟩:=fun k l cap nl h1 h2 h3 h4 h5 h6 h7 =>
  ⟨⟨h1,h2⟩,⟨h5,h6⟩,fun p hp=>by have:=h7 p hp; omega,fun _ p hp=>(h7 p hp).2,fun e=>absurd e h3,fun _=>⟨rfl,rfl⟩,fun e=>absurd e h4⟩
 unfold q5q qC5 at hy
 simp only at hy
 generalize g.a.tmod ns.length=a' at *
 generalize g.b.tmod ns.length=b' at *
 generalize g.d.tmod ns.length=d' at *
 generalize (if bus=true then g.k.tmod 13 else g.k.tmod 9)=kk at *
 have two:∀ p ∈ [a',b'],0≤p∧p<ns.length:=by intro p hp; simp at hp; rcases hp with rfl | rfl; exact a; exact b
 have three:∀ p ∈ [a',b',d'],0≤p∧p<ns.length:=by intro p hp; simp at hp; rcases hp with rfl | rfl | rfl; exact a; exact b; exact d
 have one:∀ p ∈ [a'],0≤p∧p<ns.length:=by intro p hp; simp at hp; rcases hp with rfl; exact a
 split at hy
 ·rename_i h6
  have hc:kk=0∨kk=1∨kk=2∨kk=3∨kk=4∨kk=5:=by omega
  split at hy
  ·rw [hy]
   have hf:(S5 (5+kk)).1=2∧(S5 (5+kk)).2=16:=by rcases hc with rfl | rfl | rfl | rfl | rfl | rfl <;> decide
   rw [← hy]
   have:=mk (5+kk) [a',b',d'] none none (by omega) (by omega) (by omega) (by omega) (by rw [hf.1]; simp) (by rw [hf.2]; simp) three
   rw [← hy] at this; exact this
  ·have hf:(S5 (5+kk)).1=2∧(S5 (5+kk)).2=16:=by rcases hc with rfl | rfl | rfl | rfl | rfl | rfl <;> decide
   have:=mk (5+kk) [a',b'] none none (by omega) (by omega) (by omega) (by omega) (by rw [hf.1]; simp) (by rw [hf.2]; simp) two
   rw [← hy] at this; exact this
 split at hy
 ·have:=mk 4 [a'] none none (by omega) (by omega) (by omega) (by omega) (by simp [T9]) (by simp [T9]) one
  rw [← hy] at this; exact this
 split at hy
 ·have:=mk 11 [a',b',d'] none none (by omega) (by omega) (by omega) (by omega) (by simp [T9]) (by simp [T9]) three
  rw [← hy] at this; exact this
 split at hy
 ·have:=mk 12 [a',b'] none none (by omega) (by omega) (by omega) (by omega) (by simp [T9]) (by simp [T9]) two
  rw [← hy] at this; exact this
 split at hy
 ·rename_i ht2
  generalize q5p ns=t at *
  have mt:=D1 (n:=t.length) hg.2.1.1 ht2.2
  have mt2:=D1 (a:=g.a.tmod t.length+1) (n:=t.length) (by omega) ht2.2
  have q1:=ht _ (qEa (l:=t) (q:=(g.a.tmod t.length).toNat) (by omega))
  have q2:=ht _ (qEa (l:=t) (q:=((g.a.tmod t.length+1).tmod t.length).toNat) (by omega))
  generalize t.getD (g.a.tmod t.length).toNat 0=u1 at *
  generalize t.getD ((g.a.tmod t.length+1).tmod t.length).toNat 0=u2 at *
  have mkb:∀ (l:List Int) (cap:Option Nat) (nl:Option Bool),1≤l.length→l.length≤16→(∀ p ∈ l,0≤p∧p<ns.length∧(ns.getD p.toNat Nd.d).k=12)→NG B (ns++[y]) ns.length ⟨13,⟨l,cap,nl⟩,0,0⟩:=fun l cap nl h5 h6 h7 =>
   ⟨by simp,⟨by simp [T9]; omega,by simp [T9]; omega⟩,fun p hp=>by have:=h7 p hp; omega,fun _ p hp=>(h7 p hp).2.1,fun _ p hp=>by rw [old p (h7 p hp).1 (h7 p hp).2.1]; exact (h7 p hp).2.2,fun _=>⟨rfl,rfl⟩,fun e=>by simp at e⟩
  split at hy
  ·have:=mkb [u1,u2] none none (by simp) (by simp) (by intro p hp; simp at hp; rcases hp with rfl | rfl; exact q1; exact q2)
   rw [← hy] at this; exact this
  ·have:=mkb [u1] none none (by simp) (by simp) (by intro p hp; simp at hp; rcases hp with rfl; exact q1)
   rw [← hy] at this; exact this
 split at hy
 ·have hc:g.a.tmod 2=0∨g.a.tmod 2=1:=by omega
  have hf:(S5 (1+g.a.tmod 2)).1=0∧(S5 (1+g.a.tmod 2)).2=0:=by rcases hc with e | e <;> rw [e] <;> decide
  have:=mk (1+g.a.tmod 2) [] (some 0) (some true) (by omega) (by omega) (by omega) (by omega) (by rw [hf.1]; simp) (by rw [hf.2]; simp) (by simp)
  rw [← hy] at this; exact this
 ·have:=mk 3 [a'] none none (by omega) (by omega) (by omega) (by omega) (by simp [T9]) (by simp [T9]) one
  rw [← hy] at this; exact this
theorem qAQ {B bus:Bool}:∀ {l:List Gd} {ns:List Nd},(∀ g ∈ l,qB0 g)→1≤ns.length→GNs B ns→GNs B (S9 bus l ns)
 | [],ns,_,_,h=>h
 | g::l,ns,hg,h0,h=>by
  simp only [S9]
  exact qAQ (fun y hy=>hg y (List.mem_cons_of_mem _ hy)) (by simp) (h.add (qIX (hg g List.mem_cons_self) h0))
theorem qIY {B:Bool} {ns:List Nd} {j:Nat} {v:Int} (h:GNs B ns) (hj:j<ns.length) (hk:ns[j].k=14) (hv:0≤v∧v<ns.length):GNs B (Vq ns j v):=by
 have hm:=(h j hj).mm.1 (by rw [hk]; decide)
 have hgd:ns.getD j Nd.d=ns[j]:=by simp [List.getD_eq_getElem?_getD,hj]
 have kinds:∀ q:Nat,((Vq ns j v).getD q Nd.d).k=(ns.getD q Nd.d).k:=fun q=>by
  unfold Vq
  simp only [List.getD_eq_getElem?_getD,List.getElem?_set]
  split
  ·rename_i e; subst e; simp [hj]
  ·rfl
 intro i hi
 have hi':i<ns.length:=by rw [P5] at hi; exact hi
 by_cases hij:i=j
 ·subst hij
  have:(Vq ns i v)[i]=⟨14,⟨[v],some 1,some false⟩,0,0⟩:=by
   simp only [Vq,hgd,hk,hm.1,hm.2,List.getElem_set_self]
  rw [this]
  exact ⟨by simp,by simp [T9],by simp [P5]; exact hv,by simp,by simp,by simp⟩
 ·have:(Vq ns j v)[i]=ns[i]:=by
   simp only [Vq]
   rw [List.getElem_set_ne (fun e=>hij e.symm)]
  rw [this]
  have hn:=h i hi'
  exact ⟨hn.k,hn.f,fun p hp=>by rw [P5]; exact hn.inn p hp,hn.top,fun hk p hp=>by rw [kinds]; exact hn.bus hk p hp,hn.mm⟩
theorem qDe {ns:List Nd} {j q:Nat} {v:Int}:((Vq ns j v).getD q Nd.d).k=(ns.getD q Nd.d).k:=by
 unfold Vq
 simp only [List.getD_eq_getElem?_getD,List.getElem?_set]
 split
 ·rename_i e; subst e
  split
  ·simp
  ·rename_i h; simp [List.getElem?_eq_none (Nat.le_of_not_lt h)]
 ·rfl
theorem qCM {B:Bool} {x:CD} {first:Nat} (h0:Byt x.d0) (h1:Byt x.d1):∀ {k i:Nat} {ns:List Nd},GNs B ns→(∀ q,q<i+k→first+q<ns.length∧(ns.getD (first+q) Nd.d).k=14)→GNs B (q2p x first k i ns)
 | 0,_,_,h,_=>h
 | k+1,i,ns,h,hq=>by
  simp only [q2p]
  obtain ⟨hl,hk⟩:=hq i (by omega)
  have hd:0≤ddN x i:=by unfold ddN; split; exact h0.1; exact h1.1
  have hv:=D1 (n:=ns.length) hd (by omega)
  refine qCM h0 h1 (qIY h hl (by simpa [List.getD_eq_getElem?_getD,hl] using hk) hv) fun q hq'=>?_
  rw [P5,qDe]
  exact hq q (by omega)
theorem q7U {bus:Bool}:∀ {l:List Gd} {ns:List Nd} {q:Nat},q<ns.length→((S9 bus l ns).getD q Nd.d)=(ns.getD q Nd.d)
 | [],_,_,_=>rfl
 | g::l,ns,q,h=>by
  simp only [S9]
  rw [q7U (by simp; omega)]
  rw [List.getD_eq_getElem?_getD,List.getElem?_append_left h,← List.getD_eq_getElem?_getD]
theorem qB7 {B:Bool} {x:Nd} (h:∀ ns:List Nd,1≤ns.length→∀ i,NG B ns i x):∀ (k:Nat) {ns:List Nd},GNs B ns→GNs B (ns++List.replicate k x)
 | 0,ns,hn=>by simpa using hn
 | k+1,ns,hn=>by
  rw [List.replicate_succ,List.append_cons]
  exact qB7 h k (hn.add (h _ (by simp) _))
theorem Zv {x:CD} (hx:q4v x):GNs x.mem (F3 x):=by
 have m4:0≤x.i.tmod 4∧x.i.tmod 4<4:=D1 (n:=4) hx.i.1 (by omega)
 have m3:0≤x.f.tmod 3∧x.f.tmod 3<3:=D1 (n:=3) hx.f.1 (by omega)
 have g0:GNs x.mem []:=fun i h=>by simp at h
 have g1:GNs x.mem (Il x):=by
  have:=qB7 (B:=x.mem) (x:=q7n) (fun ns _ i=>qKX) (x.i.tmod 4+1).toNat g0
  simpa [Il] using this
 have l1:1≤(Il x).length:=by simp [Il]; omega
 have g2:GNs x.mem (G4 x):=qB7 (fun ns h i=>qKY ⟨by omega,by omega⟩) _ g1
 have l2:(G4 x).length=(Il x).length+(x.f.tmod 3).toNat:=by simp [G4]
 have g3:GNs x.mem (F2 x):=by
  unfold F2
  split
  ·rename_i hm
   rw [hm] at g2 ⊢
   have a1:=g2.add (y:=q4u 0) (qH1 (.inl rfl))
   have a2:=a1.add (y:=q4u 1) (qH1 (.inr rfl))
   rw [List.append_assoc] at a2
   exact a2
  ·exact g2
 have l3:(G4 x).length≤(F2 x).length:=by unfold F2; split <;> simp
 have g4:GNs x.mem (D9 x):=qAQ (fun g hg=>hx.gates g (List.mem_of_mem_take hg)) (by omega) g3
 have l4:(F2 x).length≤(D9 x).length:=by unfold D9; rw [q1Z]; omega
 refine qCM hx.d0 hx.d1 g4 fun q hq=>⟨by omega,?_⟩
 unfold D9
 rw [q7U (by omega)]
 have e:(F2 x).getD ((Il x).length+q) Nd.d=(G4 x).getD ((Il x).length+q) Nd.d:=by
  unfold F2
  split
  ·rw [List.getD_eq_getElem?_getD,List.getElem?_append_left (by omega),← List.getD_eq_getElem?_getD]
  ·rfl
 rw [e]
 unfold G4
 rw [List.getD_eq_getElem?_getD,List.getElem?_append_right (by omega)]
 simp only [Nat.add_sub_cancel_left]
 rw [List.getElem?_replicate,if_pos (by omega)]
 rfl
theorem Wu {α:Type} {f:α→Int}:∀ {l:List α},(∀ x ∈ l,f x=0)→Dh (l.map f)=0
 | [],_=>rfl
 | x::l,h=>by
  simp only [List.map_cons,Dh,h x List.mem_cons_self,ne_eq,not_true_eq_false,if_false]
  exact Wu fun y hy=>h y (List.mem_cons_of_mem _ hy)
theorem qDf:∀ n,n≤16→G2 [] ((List.range' 0 n).map q0j)=0:=by
 intro n hn
 have:n=0∨n=1∨n=2∨n=3∨n=4∨n=5∨n=6∨n=7∨n=8∨n=9∨n=10∨n=11∨n=12∨n=13∨n=14∨n=15∨n=16:=by omega
 rcases this with rfl | rfl | rfl | rfl | rfl | rfl | rfl | rfl | rfl | rfl | rfl | rfl | rfl | rfl | rfl | rfl | rfl <;> decide +kernel
theorem qFc {x:CD} (hx:q4v x):Ci (Q7 x)=0:=by
 have hl:=q4x hx
 have h5:=q4y hx
 have hg:=Zv hx
 have hN:(Q7 x).nodes.l=F3 x:=rfl
 have hmods:∀ b,Byt b→0≤b.tmod (D9 x).length∧b.tmod (D9 x).length<(F3 x).length:=fun b hb=>by
  have:=D1 (n:=(D9 x).length) hb.1 (by omega); omega
 have hout:∀ n,0≤n∧n<((F3 x).length:Int)→N1 (Q7 x) n=false:=fun n h=>by simp [N1,hN]; omega
 have hnode:∀ y ∈ F3 x,D7 (Q7 x) y=0:=by
  intro y hy
  obtain ⟨i,hi,rfl⟩:=List.getElem_of_mem hy
  have hn:=hg i hi
  unfold D7
  rw [if_neg (by have:=hn.k; omega),if_neg (by have:=hn.f; omega)]
  have h1:(F3 x)[i].inn.l.any (N1 (Q7 x))=false:=List.any_eq_false.2 fun p hp=>by rw [hout p (hn.inn p hp)]; simp
  rw [h1]
  have h2:¬ ((F3 x)[i].k=13∧(F3 x)[i].inn.l.any (q0G (Q7 x))=true):=by
   rintro ⟨hk,ha⟩
   obtain ⟨p,hp,hq⟩:=List.any_eq_true.1 ha
   have:=hn.bus hk p hp
   simp [q0G,hN] at hq
   rw [List.getD_eq_getElem?_getD] at this
   exact hq this
  rw [if_neg (by simp),if_neg h2]
  have h3:Xr (Q7 x) (F3 x)[i]=true:=by
   unfold Xr
   by_cases hk:(F3 x)[i].k=15
   ·obtain ⟨hm,e1,e2,e3⟩:=hn.mm.2 hk
    simp only [hk,ne_eq,not_true_eq_false,if_false,decide_eq_true_eq]
    simp [Q7,q9c,hm,e1]
    omega
   ·have:=hn.mm.1 hk
    simp [hk,this]
  rw [h3]; simp
 unfold Ci
 have e1:¬ (16384<(Q7 x).nodes.l.length∨16<(Q7 x).mems.l.length∨16384<(Q7 x).outs.l.length):=by
  have:(Q7 x).mems.l.length≤1:=by simp only [Q7,q9c]; split <;> simp
  have:(Q7 x).outs.l.length≤4:=by simp [Q7]; omega
  rw [hN]; omega
 have e2:(Q7 x).names.l.length=(Q7 x).nodes.l.length:=by rw [hN]; simp [Q7]; omega
 rw [if_neg e1,if_neg (by simp [e2]),if_neg (by rw [hN,Wu hnode]; simp),if_neg (by
  rw [show (Q7 x).names.l=(List.range' 0 (D9 x).length).map q0j from rfl,qDf _ hl.2]; simp),if_neg (by
  rw [Wu]
  ·simp
  ·intro m hm
   simp only [Q7,q9c] at hm
   split at hm
   ·simp at hm; subst hm
    unfold Ob
    have a0:=hout _ (hmods _ hx.p0)
    have a1:=hout _ (hmods _ hx.p1)
    have a2:=hout _ (hmods _ hx.p2)
    have a3:=hout _ (hmods _ hx.p3)
    simp [Va,a0,a1,a2,a3]
   ·cases hm)]
 have ho:(Q7 x).outs.l.any (N1 (Q7 x))=false:=by
  refine List.any_eq_false.2 fun p hp=>?_
  have:0≤p∧p<((F3 x).length:Int):=by
   simp only [Q7,List.mem_append,List.mem_map,List.mem_singleton] at hp
   rcases hp with ⟨b,hb,rfl⟩ | rfl
   ·exact hmods b (hx.outs b (List.mem_of_mem_take hb))
   ·omega
  rw [hout p this]; simp
 rw [ho]; rfl
theorem qAR {x:CD} (hx:q4v x):Eb (Q7 x)=0:=by
 have hs:=qFc hx
 have hg:=Zv hx
 have hN:(Q7 x).nodes.l=F3 x:=rfl
 have hin:∀ y ∈ (Q7 x).nodes.l,∀ p ∈ y.inn.l,0≤p∧p<(Q7 x).nodes.l.length:=by
  intro y hy p hp
  rw [hN] at hy ⊢
  obtain ⟨i,hi,rfl⟩:=List.getElem_of_mem hy
  exact (hg i hi).inn p hp
 have hd:=q7Q (Q7 x) (Gy hs).2.1 hin (by
  intro i hi hc p hp
  rw [hN] at hi
  have e:(Q7 x).nodes.l.getD i Nd.d=(F3 x)[i]:=by rw [hN]; simp [List.getD_eq_getElem?_getD,hi]
  simp only [C2,Ks,e] at hc hp
  exact (hg i hi).top (by simpa [G3] using hc) p hp)
 unfold Eb
 rw [if_neg (by simp [hs]),if_neg hd]
theorem qFd {x:CD} (hx:q4v x) (hm:x.mem=false):q8m (Q7 x)=0:=by
 have hv:=qAR hx
 have hg:=Zv hx
 have h1:(Q7 x).mems.l=[]:=by simp [Q7,q9c,hm]
 have h2:mems (Q7 x)=[]:=by
  refine List.eq_nil_iff_forall_not_mem.2 fun n hn=>?_
  obtain ⟨a,b,h3⟩:=q0i [15] (Q7 x).nodes.l 0 n hn
  have hi:n.toNat<(F3 x).length:=by have:(Q7 x).nodes.l=F3 x:=rfl; rw [this] at b; omega
  have hk:(F3 x)[n.toNat].k=15:=by
   have:(Q7 x).nodes.l=F3 x:=rfl
   rw [this] at h3
   simpa [List.getD_eq_getElem?_getD,hi] using h3
  have:=((hg _ hi).mm.2 hk).1
  rw [hm] at this; cases this
 unfold q8m
 rw [if_neg (by simp [hv]),h1,h2]; simp
def qCN (x:CD):CD:={ x with mem:=false }
theorem qH2 {x:CD} (hx:q4v x):q4v (qCN x):=⟨hx.i,hx.f,hx.d0,hx.d1,hx.p0,hx.p1,hx.p2,hx.p3,hx.gates,hx.outs⟩
end Go.Lg
namespace Go.Lg
open Go Go.Proofs
variable {Γ:Tables}
theorem q1i {f:FuncId} {as':List AV} {ts:List T} {res:T} {K:T→Prop} (h:A6 Tryz.prog Γ f ts res) (ht:Ai (as'.map toT)=some ts) (hk:K res):qAv Tryz.prog Γ f as' K ⟨⟩:=⟨ts,res,ht,.inr h,hk⟩
structure NOk (c:B7):Prop where
 ok:COk c
 lev:Eb c=0
 mm:c.mems.l=[]
 m0:mems c=[]
 n1:1≤c.nodes.l.length
 n2:c.nodes.l.length≤16
 k:∀ i,i<c.nodes.l.length→0≤C2 c i∧C2 c i≤14
theorem qKa {x:CD} (hx:q4v x) (hm:x.mem=false):NOk (Q7 x):=by
 have hl:=q4x hx
 have h5:=q4y hx
 have hN:(Q7 x).nodes.l=F3 x:=rfl
 have hp:=qFd hx hm
 have hv:=qAR hx
 have h1:(Q7 x).mems.l=[]:=by simp [Q7,q9c,hm]
 have h2:mems (Q7 x)=[]:=by
  unfold q8m at hp
  rw [if_neg (by simp [hv])] at hp
  split at hp
  ·cases hp
  ·rename_i h; exact List.eq_nil_of_length_eq_zero (by omega)
 refine ⟨qGj hx,hv,h1,h2,by rw [hN]; omega,by rw [hN]; omega,fun i hi=>?_⟩
 have hs:=(Kt hv).1
 have hn:=(Gy hs).2.2.1 _ (List.getElem_mem hi)
 have hk:C2 (Q7 x) i=(Q7 x).nodes.l[i].k:=by simp [C2,hi]
 have hkk:=(qGj hx).kind _ (List.getElem_mem hi)
 have h15:¬ C2 (Q7 x) i=15:=fun e=>by
  have:(i:Int) ∈ mems (Q7 x):=(qIU hi).2 e
  rw [h2] at this; cases this
 have hle:¬ 15<(Q7 x).nodes.l[i].k:=fun h=>by
  unfold D7 at hn
  rw [if_pos h] at hn; cases hn
 rw [hk] at h15 ⊢
 omega
structure POk (c:B7) (p:Pat):Prop where
 i:p.inn.l.length=(Da c).length
 s:p.st.l.length=(Ag c).length
 vi:∀ v ∈ p.inn.l,V4 v
 vs:∀ v ∈ p.st.l,V4 v
theorem qFe {c:B7} (hc:NOk c) {p:Pat} (hp:POk c p):qDd c p=0:=by
 unfold qDd
 rw [if_neg (by simp [hc.lev])]
 unfold q67
 have a1:∀ {l:List Int},(∀ v ∈ l,V4 v)→l.any q0L=false:=fun h=>List.any_eq_false.2 fun v hv=>by have:=(h v hv).2; simp [q0L]; omega
 rw [if_neg (by rw [hc.mm,hc.m0]; simp),if_neg (by simp [hp.i,hp.s]),a1 hp.vi,a1 hp.vs]
 simp
theorem Blw.below {a b:Int} (h:Blw a b):qGn a b=true:=by
 unfold qGn
 rcases h with rfl | rfl
 ·simp
 ·simp [F4]
theorem qDY.map {α:Type} {f g:α→Int} {l:List α} (h:∀ x ∈ l,Blw (f x) (g x)):qDY (l.map f) (l.map g):=by
 refine ⟨by simp,fun i=>?_⟩
 by_cases hi:i<l.length
 ·rw [D8 (by simpa using hi),D8 (by simpa using hi),List.getElem_map,List.getElem_map]
  exact h _ (List.getElem_mem hi)
 ·rw [List.getD_eq_getElem?_getD,List.getD_eq_getElem?_getD,List.getElem?_eq_none (by simp; omega),List.getElem?_eq_none (by simp; omega)]
  exact .refl _
end Go.Lg
namespace Go.Lg
open Go Go.Proofs
structure T3 where
 a:Int
 b:Int
 d:Int
deriving DecidableEq
def qB8 (c:B7) (rd:List (List Int)):List Int:=(mems c).map fun n=>(rd.getD (nd c n).mem.toNat []).getD (nd c n).bit.toNat 0
def q0x (c:B7) (pin pst:List Int) (rd:List (List Int)):List Int:=Hy (mems c) (qB8 c rd) (qEX c pin pst)
def qH3 (c:B7) (pin pst:List Int) (rd:List (List Int)):List Int:=qFW c (Vb c) (q0x c pin pst rd)
theorem q6w {c:B7} {pin pst:List Int} {rd:List (List Int)}:(q0x c pin pst rd).length=c.nodes.l.length:=by unfold q0x; rw [Sj,qFX]
theorem qFf {c:B7} {pin pst:List Int} {rd:List (List Int)}:(qH3 c pin pst rd).length=c.nodes.l.length:=by unfold qH3; rw [qCB,q6w]
def q0N:Nat→List Int→Bool
 | i,[]=>decide (i=0)
 | i,v::l=>if v≤1∧v ≠ (i:Int) % 2 then false else q0N (i / 2) l
def qAS (a b:Int):Int:=if a=b then a else 2
def q3A (w:List Int) (b:Nat):Int:=if b<w.length then P6 (w.getD b 0) else 2
def q0y (w:List Int) (first:Bool):Nat→Nat→List Int→List Int
 | 0,_,out=>out
 | k+1,b,out=>q0y w first k (b+1) (out.set b (if first then q3A w b else qAS (out.getD b 0) (q3A w b)))
def q4I (addr:List Int):Nat→List (List Int)→List Int × Bool→List Int × Bool
 | _,[],s=>s
 | i,w::ws,s=>q4I addr (i+1) ws (if q0N i addr then (q0y w s.2 s.1.length 0 s.1,false) else s)
def q3B (words:List (List Int)) (addr:List Int):List Int:=match words with
 | []=>[]
 | w::ws=>(q4I addr 0 (w::ws) (List.replicate w.length 2,true)).1
def q7V (addr:List Int) (en:Int):Bool:=decide (en=1) && !addr.any fun v=>!N2 v
def q97 (i:Nat) (addr:List Int) (en old new:Int):Int:=if en=0∨q0N i addr=false then old else if q7V addr en=true then new else qAS old new
def Vh (i:Nat) (addr data:List Int) (en:Int) (w:List Int):Nat→Nat→List Int
 | 0,_=>[]
 | k+1,b=>q97 i addr en (q3A w b) (q3A data b)::Vh i addr data en w k (b+1)
def Gs (addr data:List Int) (en:Int):Nat→List (List Int)→List (List Int)
 | _,[]=>[]
 | i,w::ws=>Vh i addr data en w w.length 0::Gs addr data en (i+1) ws
end Go.Lg
namespace Go.Lg
open Go
section
variable {P:Program} {Γ:Tables} {Q:AX→St→Prop} {s:St}
/- slices.Repeat[[]probecard/api.Value,probecard/api.Value] (function 144) -/
abbrev Kz:IC:=.gh (.seq (.seq (.reg [om 34 8,om 35 7,od 36 (le 0 35),od 37 (.bin .lss (tm 34) (tm 36))] [kp [7,8,37] [30]]) (.cond (tm 37) .skip (.exit 0))) (.block 1 (.reg [om 38 8,om 39 7,om 40 8,od 41 (.slice 1 (tm 39) (some (tm 40))
 none none),om 42 7,om 43 8,od 44 (.slice 1 (tm 42) none (some (tm 43)) none),od 45 (.cpy 1 (tm 41) (tm 44)),od 46 (.bin .add (tm 38) (tm 45)),om 8 46] [kp [7,8] [30]]))) [kp [7,8] [30]]
def E3:IC:=.loop Kz
abbrev Ge:IC:=(.seq (.reg [od 4 (.mv kN)] [kp [0,1] []]) (.seq (.seq (.reg [om 9 1,od 10 (.bin .lss (tm 9) (ki 0))] [kp [0,1,10] []]) (.cond (tm 10) .dead .skip)) (.seq (.reg [om 13 0,od 14 (le 0 13),od 15 (.conv .u64 (tm 14)),om 16 1,od
 17 (.conv .u64 (tm 16)),od 18 (.call 209 [(tm 15),(tm 17)]),om 12 18,od 19 (ex 12 0),od 20 (ex 12 1),om 5 19,om 6 20] [kp [0,5,6] []]) (.seq (.seq (.reg [om 21 5,od 22 (.bin .gtr (tm 21) (.const (.int .u64 0))),om 23 22,
 oF 24 (.mv (tm 6)) 23,oF 25 (.bin .gtr (tm 24) (.const (.int .u64 9223372036854775807))) 23,od 26 (.pick (tm 23) kT (tm 25))] [kp [0,6,26] []]) (.cond (tm 26) .dead .skip)) (.seq (.reg [om 28 6,od 29 (.conv .i64 (tm 28)),od
 30 (.mk 71 1 [(.int .u8 0)] (tm 29) (tm 29)),om 7 30] [kp [0,7] [30]]) (.seq (.reg [om 31 7,om 32 0,od 33 (.cpy 1 (tm 31) (tm 32)),om 8 33] [kp [7,8] [30]]) (.seq (.block 0 E3) (.seq (.reg [om 47 7,om
 4 47] [kp [4] [30]]) .ret))))))))
theorem Dc (h:∀ K:St→Prop,K=run P Γ E3 Q→run P Γ Kz (As K Q) s):run P Γ E3 Q s:=Ah h
def D4:List RV:=[.tmp 4]
/- probecard/sims.Blank (function 81) -/
abbrev q4J:IC:=(.seq (.reg [od 1 (.box true (tm 0)),od 2 (.alloc false [(.slice none 0 0),(.slice none 0 0)])] [kp [1,2] [2]]) (.seq (.reg [od 3 (.mv (.func 143))] [kp [1,2,3] [2]]) (.seq (.reg [om 4 3,od 5 (.ldT 4 true (tm 1)),od 6 (.call
 56 [(tm 5)]),od 7 (le 0 6),od 8 (.callv (tm 4) [(tm 7)]),om 9 3,od 10 (.ldT 4 true (tm 1)),od 11 (.call 18 [(tm 10)]),od 12 (le 0 11),od 13 (.callv (tm 9) [(tm 12)]),od 14 (.build [(1,(tm 8)),(1,(tm 13))]),on (.stR 2 2
 (tm 2) (tm 14))] [kp [2] [2]]) .ret)))
def q4K:List RV:=[.cell 2 2 true]
/- probecard/sims.Blank$1 (function 143) -/
abbrev q1y:IC:=(.seq (.reg [od 2 (.mv kN)] [kp [0] []]) (.seq (.reg [od 3 (.bsl true 71 1 [(ku 2)]),om 4 0,od 5 (.call 144 [(tm 3),(tm 4)]),om 2 5] [kp [2] []]) .ret))
def q1z:List RV:=[.tmp 2]
/- math/bits.Mul (function 209) -/
abbrev q7W:IC:=(.seq (.reg [od 4 (.mv (.const (.int .u64 0))),od 5 (.mv (.const (.int .u64 0)))] [kp [0,1] []]) (.seq (.cond kF (.seq (.reg [om 11 0,od 12 (.conv .u32 (tm 11)),om 13 1,od 14 (.conv .u32 (tm 13)),od 15 (.call 251 [(tm 12),
 (tm 14)]),om 10 15,od 16 (ex 10 0),od 17 (ex 10 1),om 6 16,om 7 17] [kp [6,7] []]) (.seq (.reg [om 18 6,od 19 (.conv .u64 (tm 18)),om 20 7,od 21 (.conv .u64 (tm 20)),om 4 19,om 5 21] [kp [4,5] []]) .ret)) .skip) (.seq
 (.reg [om 23 0,om 24 1,od 25 (.call 252 [(tm 23),(tm 24)]),om 22 25,od 26 (ex 22 0),od 27 (ex 22 1),om 8 26,om 9 27] [kp [8,9] []]) (.seq (.reg [om 28 8,om 29 9,om 4 28,om 5 29] [kp [4,5] []]) .ret))))
def q7X:List RV:=[.tmp 4,.tmp 5]
/- math/bits.Mul64 (function 252) -/
abbrev q4L:IC:=(.seq (.reg [od 4 (.mv (.const (.int .u64 0))),od 5 (.mv (.const (.int .u64 0)))] [kp [0,1] []]) (.seq (.reg [om 14 0,od 15 (.bin .and (tm 14) (.const (.int .u64 4294967295))),om 6 15] [kp [0,1,6] []]) (.seq (.reg [om 16 0,
 od 17 (.bin .shr (tm 16) (.const (.int .u64 32))),om 7 17] [kp [0,1,6,7] []]) (.seq (.reg [om 18 1,od 19 (.bin .and (tm 18) (.const (.int .u64 4294967295))),om 8 19] [kp [0,1,6,7,8] []]) (.seq (.reg [om 20 1,od 21 (.bin
 .shr (tm 20) (.const (.int .u64 32))),om 9 21] [kp [0,1,6,7,8,9] []]) (.seq (.reg [om 22 6,om 23 8,od 24 (.bin .mul (tm 22) (tm 23)),om 10 24] [kp [0,1,6,7,8,9,10] []]) (.seq (.reg [om 25 7,om 26 8,od 27 (.bin .mul
 (tm 25) (tm 26)),om 28 10,od 29 (.bin .shr (tm 28) (.const (.int .u64 32))),od 30 (.bin .add (tm 27) (tm 29)),om 11 30] [kp [0,1,6,7,9,11] []]) (.seq (.reg [om 31 11,od 32 (.bin .and (tm 31) (.const (.int .u64
 4294967295))),om 12 32] [kp [0,1,6,7,9,11,12] []]) (.seq (.reg [om 33 11,od 34 (.bin .shr (tm 33) (.const (.int .u64 32))),om 13 34] [kp [0,1,6,7,9,12,13] []]) (.seq (.reg [om 35 12,om 36 6,om 37 9,od 38 (.bin
 .mul (tm 36) (tm 37)),od 39 (.bin .add (tm 35) (tm 38)),om 12 39] [kp [0,1,7,9,12,13] []]) (.seq (.reg [om 40 7,om 41 9,od 42 (.bin .mul (tm 40) (tm 41)),om 43 13,od 44 (.bin .add (tm 42) (tm 43)),om 45 12,od 46 (.bin
 .shr (tm 45) (.const (.int .u64 32))),od 47 (.bin .add (tm 44) (tm 46)),om 4 47] [kp [0,1,4] []]) (.seq (.reg [om 48 0,om 49 1,od 50 (.bin .mul (tm 48) (tm 49)),om 5 50] [kp [4,5] []]) .ret))))))))))))
def q4M:List RV:=[.tmp 4,.tmp 5]
end
end Go.Lg
namespace Go.Lg
open Go Go.Proofs
theorem Jx:Aw Tryz.prog 144 Ge 48 2 D4=true:=by kernel_rfl
theorem q98:Aw Tryz.prog 81 q4J 15 1 q4K=true:=by kernel_rfl
theorem q6x:Aw Tryz.prog 143 q1y 6 1 q1z=true:=by kernel_rfl
theorem qB9:Aw Tryz.prog 209 q7W 30 2 q7X=true:=by kernel_rfl
theorem q99:Aw Tryz.prog 252 q4L 51 2 q4M=true:=by kernel_rfl
end Go.Lg
namespace Go.Lg
open Go
section
variable {P:Program} {Γ:Tables} {Q:AX→St→Prop} {s:St}
/- slices.Clone[[]probecard/api.Value,probecard/api.Value] (function 90) -/
abbrev E7:IC:=(.seq (.reg [od 2 (.mv kN)] [kp [0] []]) (.seq (.seq (.reg [om 3 0,od 4 (.isNil true (tm 3))] [kp [0,4] []]) (.cond (tm 4) (.seq (.reg [od 2 (.mv kN)] [kp [2] []]) .ret) .skip)) (.seq (.reg [od 5 (.bsl true 71 1 []),om 6 0,od 7
 (.appT 71 1 (tm 5) (tm 6)),om 2 7] [kp [2] []]) .ret)))
def E8:List RV:=[.tmp 2]
end
end Go.Lg
namespace Go.Lg
open Go Go.Proofs
theorem Y6:Aw Tryz.prog 90 E7 8 1 E8=true:=by kernel_rfl
end Go.Lg
namespace Go.Lg
open Go
section
variable {P:Program} {Γ:Tables} {Q:AX→St→Prop} {s:St}
/- probecard/netlists.Copy (function 175) -/
abbrev Pe:IC:=(.seq (.reg [od 2 (.mv kN)] [kp [0] [1000000]]) (.seq (.reg [om 3 0,om 4 0,od 5 (le 0 4),om 6 0,od 7 (le 0 6),od 8 (.slice 4 (tm 3) none (some (tm 5)) (some (tm 7))),om 2 8] [kp [2] [1000000]]) .ret))
def Pg:List RV:=[.tmp 2]
/- slices.Clip[[]string,string] (function 73) -/
abbrev Rm:IC:=(.seq (.reg [od 2 (.mv kN)] [kp [0] []]) (.seq (.reg [om 3 0,om 4 0,od 5 (le 0 4),om 6 0,od 7 (le 0 6),od 8 (.slice 1 (tm 3) none (some (tm 5)) (some (tm 7))),om 2 8] [kp [2] []]) .ret))
def Rn:List RV:=[.tmp 2]
/- slices.Clip[[]probecard/api.Memory,probecard/api.Memory] (function 258) -/
abbrev q20:IC:=(.seq (.reg [od 2 (.mv (.const (sV [])))] [kp [0] []]) (.seq (.reg [om 3 0,od 4 (.call 76 [(tm 3)]),om 2 4] [kp [2] []]) .ret))
def q21:List RV:=[.tmp 2]
/- internal/strconv.Itoa (function 76) -/
abbrev Zw:IC:=(.seq (.reg [od 2 (.mv (.const (sV [])))] [kp [0] []]) (.seq (.reg [om 3 0,od 4 (.call 139 [(tm 3),(ki 10)]),om 2 4] [kp [2] []]) .ret))
def Zx:List RV:=[.tmp 2]
/- internal/strconv.FormatInt (function 139) -/
abbrev Qf:IC:=(.seq (.reg [od 4 (.mv (.const (sV [])))] [kp [0,1] []]) (.seq (.seq (.reg [om 10 1,od 11 (.bin .eql (tm 10) (ki 10))] [kp [0,1,11] []]) (.cond (tm 11) (.seq (.seq (.reg [om 12 0,od 13 (.bin .leq (ki 0) (tm 12)),om 14 13,oT
 15 (.mv (tm 0)) 14,oT 16 (.bin .lss (tm 15) (ki 100)) 14,od 17 (.pick (tm 14) (tm 16) kF)] [kp [0,17] []]) (.cond (tm 17) (.seq (.reg [om 18 0,od 19 (.call 205 [(tm 18)]),om 4 19] [kp [4] []]) .ret) .skip)) (.seq (.reg [od 5
 (.alloc false [(.int .u8 0),(.int .u8 0),(.int .u8 0),(.int .u8 0),(.int .u8 0),(.int .u8 0),(.int .u8 0),(.int .u8 0),(.int .u8 0),(.int .u8 0),(.int .u8 0),(.int .u8 0),(.int .u8 0),(.int .u8 0),(.int .u8 0),(.int
 .u8 0),(.int .u8 0),(.int .u8 0),(.int .u8 0),(.int .u8 0),(.int .u8 0),(.int .u8 0),(.int .u8 0),(.int .u8 0)])] [kp [0,5] [5]]) (.seq (.reg [om 20 0,od 21 (.conv .u64 (tm 20)),om 6 21] [kp [0,5,6] [5]]) (.seq (.seq
 (.reg [om 22 0,od 23 (.bin .lss (tm 22) (ki 0))] [kp [0,5,6,23] [5]]) (.cond (tm 23) (.reg [om 24 6,od 25 (.un .neg (tm 24)),om 6 25] [kp [0,5,6] [5]]) .skip)) (.seq (.reg [om 26 6,od 27 (.call 206 [(tm 26)]),om 7 27] [kp
 [0,5,6,7] [5]]) .dead))))) .skip)) (.seq (.reg [om 45 0,od 46 (.conv .u64 (tm 45)),om 47 1,om 48 0,od 49 (.bin .lss (tm 48) (ki 0)),od 50 (.call 208 [kN,(tm 46),(tm 47),(tm 49),kF]),om 44 50,od 51 (ex 44 0),od 52 (ex
 44 1),om 8 51,om 9 52] [kp [9] []]) (.seq (.reg [om 53 9,om 4 53] [kp [4] []]) .ret))))
def Qg:List RV:=[.tmp 4]
/- internal/strconv.small (function 205) -/
abbrev Om:IC:=(.seq (.reg [od 2 (.mv (.const (sV [])))] [kp [0] []]) (.seq (.seq (.reg [om 3 0,od 4 (.bin .lss (tm 3) (ki 10))] [kp [0,4] []]) (.cond (tm 4) (.seq (.reg [om 5 0,om 6 0,od 7 (.bin .add (tm 6) (ki 1)),od 8 (.slice 0 (.const
 (sV [48,49,50,51,52,53,54,55,56,57,97,98,99,100,101,102,103,104,105,106,107,108,109,110,111,112,113,114,115,116,117,118,119,120,121,122])) (some (tm 5)) (some (tm 7)) none),om 2 8] [kp [2] []])
 .ret) .skip)) (.seq (.reg [om 9 0,od 10 (.bin .mul (tm 9) (ki 2)),om 11 0,od 12 (.bin .mul (tm 11) (ki 2)),od 13 (.bin .add (tm 12) (ki 2)),od 14 (.slice 0 (.const (sV [48,48,48,49,48,50,48,51,48,52,48,53,48,54,
 48,55,48,56,48,57,49,48,49,49,49,50,49,51,49,52,49,53,49,54,49,55,49,56,49,57,50,48,50,49,50,50,50,51,50,52,50,53,50,54,50,55,50,56,50,57,51,48,51,49,51,50,51,51,51,52,51,53,
 51,54,51,55,51,56,51,57,52,48,52,49,52,50,52,51,52,52,52,53,52,54,52,55,52,56,52,57,53,48,53,49,53,50,53,51,53,52,53,53,53,54,53,55,53,56,53,57,54,48,54,49,54,50,54,51,54,52,
 54,53,54,54,54,55,54,56,54,57,55,48,55,49,55,50,55,51,55,52,55,53,55,54,55,55,55,56,55,57,56,48,56,49,56,50,56,51,56,52,56,53,56,54,56,55,56,56,56,57,57,48,57,49,57,50,57,51,
 57,52,57,53,57,54,57,55,57,56,57,57])) (some (tm 10)) (some (tm 13)) none),om 2 14] [kp [2] []]) .ret)))
def On:List RV:=[.tmp 2]
end
end Go.Lg
namespace Go.Lg
open Go Go.Proofs
theorem q0O:Aw Tryz.prog 72 Pe 9 1 Pg=true:=by kernel_rfl
theorem q1j:Aw Tryz.prog 73 Rm 9 1 Rn=true:=by kernel_rfl
theorem q6y:Aw Tryz.prog 21 q20 5 1 q21=true:=by kernel_rfl
theorem q5A:Aw Tryz.prog 76 Zw 5 1 Zx=true:=by kernel_rfl
theorem q0z:Aw Tryz.prog 139 Qf 54 2 Qg=true:=by kernel_rfl
theorem q3t:Aw Tryz.prog 205 Om 15 1 On=true:=by kernel_rfl
end Go.Lg
namespace Go.Lg
open Go Go.Proofs
variable {Γ:Tables}
def Jy (i:Nat):List UInt8:=if i<10 then [UInt8.ofNat (48+i)] else [UInt8.ofNat (48+i / 10),UInt8.ofNat (48+i % 10)]
def qMG:List UInt8:=[48,49,50,51,52,53,54,55,56,57,97,98,99,100,101,102,103,104,105,106,107,108,109,110,111,112,113,114,115,116,117,118,119,120,121,122]
def qMH:List UInt8:=(List.range 100).flatMap fun i=>[UInt8.ofNat (48+i / 10),UInt8.ofNat (48+i % 10)]
theorem qIZ:∀ i,i<10→((ByteArray.mk qMG.toArray).extract i (i+1)).data.toList=[UInt8.ofNat (48+i)]:=by decide +kernel
theorem qIa:∀ i,i<100→((ByteArray.mk qMH.toArray).extract (i*2) (i*2+2)).data.toList=[UInt8.ofNat (48+i / 10),UInt8.ofNat (48+i % 10)]:=by decide +kernel
theorem qJC {a:ByteArray} {l:List UInt8} (h:a.data.toList=l):a=ByteArray.mk l.toArray:=by
 cases a; simp only at h; subst h; rfl
theorem qDg (i:Nat) (hi:i<100):A6 Tryz.prog Γ 205 [tI i] (tS (Jy i)):=by
 refine Ab q3t rfl ?_
 by_cases h:i<10
 ·have h':(i:Int)<10:=by omega
  have e:=qJC (qIZ i h)
  simp only [qMG] at e
  simp (disch:=omega) [Om,sV,h,h',A5]
  have e1:((i:Int)+1).toNat=i+1:=by omega
  simp [On,e1,e,Jy,h,tS,sV]
  omega
 ·have h':¬ (i:Int)<10:=by omega
  have e:=qJC (qIa i hi)
  have d2:qMH=[48,48,48,49,48,50,48,51,48,52,48,53,48,54,48,55,48,56,48,57,49,48,49,49,49,50,49,51,49,52,49,53,49,54,49,55,49,56,49,57,50,48,50,49,50,50,50,51,50,52,50,53,50,54,50,55,50,56,50,57,51,48,51,49,51,50,51,51,51,52,51,53,51,54,51,55,51,56,51,57,52,48,52,49,52,50,52,51,52,52,52,53,52,54,52,55,52,56,52,57,53,48,53,49,53,50,53,51,53,52,53,53,53,54,53,55,53,56,53,57,54,48,54,49,54,50,54,51,54,52,54,53,54,54,54,55,54,56,54,57,55,48,55,49,55,50,55,51,55,52,55,53,55,54,55,55,55,56,55,57,56,48,56,49,56,50,56,51,56,52,56,53,56,54,56,55,56,56,56,57,57,48,57,49,57,50,57,51,57,52,57,53,57,54,57,55,57,56,57,57]:=by decide +kernel
  rw [d2] at e
  simp (disch:=omega) [Om,sV,h,h',A5]
  have e1:((i:Int)*2).toNat=i*2:=by omega
  have e2:((i:Int)*2+2).toNat=i*2+2:=by omega
  simp [On,e1,e2,e,Jy,h,tS,sV]
  omega
theorem Wz (i:Nat) (hi:i<100):A6 Tryz.prog Γ 21 [tI i] (tS (Jy i)):=by
 have h1:A6 Tryz.prog Γ 139 [tI i,tI 10] (tS (Jy i)):=by
  refine Ab q0z rfl ?_
  have h0:(0:Int)≤i:=by omega
  have h2:(i:Int)<100:=by omega
  simp (disch:=omega) [Qf,h2]
  refine A3 (qDg i hi) rfl ?_
  simp [Qg,tS,sV]
 have h2:A6 Tryz.prog Γ 76 [tI i] (tS (Jy i)):=by
  refine Ab q5A rfl ?_
  simp [Zw]
  refine A3 h1 rfl ?_
  simp [Zx,tS,sV]
 refine Ab q6y rfl ?_
 simp [q20]
 refine A3 h2 rfl ?_
 simp [q21,tS,sV]
abbrev Pnt:=Int × Int
def qH4 (l:List (Int × Pnt)) (n:Int):Pnt:=match l.find? (fun p=>p.1 == n) with | some p=>p.2 | none=>(0,0)
def qJD (l:List (Int × Pnt)):Prop:=∀ p ∈ l,-1000000≤p.2.1∧p.2.1≤1000000 ∧ -1000000≤p.2.2∧p.2.2≤1000000
theorem qJD.at {l:List (Int × Pnt)} (h:qJD l) (n:Int) : -1000000≤(qH4 l n).1∧(qH4 l n).1≤1000000 ∧ -1000000≤(qH4 l n).2∧(qH4 l n).2≤1000000:=by
 unfold qH4
 split
 ·rename_i p hp
  exact h p (List.mem_of_find?_eq_some hp)
 ·simp
def qNB {α:Type} (s:Sl α):Prop:=(s.nl=some true→s.l=[])∧(s.nl=none→s.l ≠ [])∧s.l.length≤1000000
theorem q6z (s:Sl Int) (hs:qNB s):Ae Tryz.prog Γ 90 [tV s] (if s.nl=some true then .sl [] (some 0) (some true) else .sl (Az s.l) none none):=by
 refine B1 Y6 rfl ?_
 obtain ⟨l,cap,nl⟩:=s
 obtain ⟨h1,h2,h3⟩:=hs
 simp only at h1 h2 h3
 rcases nl with _ | _ | _
 ·have h4:Az l ≠ []:=by simpa [Af] using h2 rfl
  simp (disch:=omega) [E7,E8,A8,A0,h4,Bh,tV]
  omega
 ·simp (disch:=omega) [E7,E8,A8,A0,Bh,tV]
  omega
 ·have:=h1 rfl
  subst this
  simp [E7,E8,tV]
theorem qH5 {w:World} {X:Nat→Prop} {cap:Option Nat} {v:Value} (h:TR w X (.sl [] cap none) v):TR w X (.sl [] cap (some true)) v∨TR w X (.sl [] cap (some false)) v:=by
 cases h with
 | nil _ _ a c hc hn hz =>
  cases a with
  | none=>exact .inl (.nil cap (some true) none c hc (fun b hb=>by cases hb; rfl) hz)
  | some a=>exact .inr (.nil cap (some false) (some a) c hc (fun b hb=>by cases hb; rfl) hz)
 | sl _ _ _ s b off c f hcell hlen hrel hone hx hle hc hq =>
  exact .inr (.sl [] cap (some false) s b off c f hcell hlen hrel hone hx hle hc (fun q hq=>by cases hq; rfl))
theorem qIb {w:World} {X:Nat→Prop} {es:List (List T)} {cap:Option Nat} {nl:Option Bool} {v:Value} (h:TR w X (.sl es cap nl) v):TR w X (.sl es none none) v:=by
 cases h with
 | nil _ _ a c hc hn hz=>exact .nil none none a c (fun n h=>nomatch h) (fun n h=>nomatch h) hz
 | sl _ _ _ s b off c f hcell hlen hrel hone hx hle hc hq=>exact .sl es none none s b off c f hcell hlen hrel hone hx hle (fun n h=>nomatch h) (fun n h=>nomatch h)
theorem qAT {P:Program} {f:FuncId} {args:List T} {es:List (List T)} {cap:Option Nat} {nl:Option Bool} (h:Ae P Γ f args (.sl es cap nl)):Ae P Γ f args (.sl es none none) :=
 fun w X vs hg hx hr=>(h w X vs hg hx hr).mono fun v w' ⟨hb,ht⟩=>⟨hb,qIb ht⟩
theorem qDh {P:Program} {f:FuncId} {cap:Option Nat} {r:T} (h1:Ae P Γ f [.sl [] cap (some true)] r) (h2:Ae P Γ f [.sl [] cap (some false)] r):Ae P Γ f [.sl [] cap none] r :=
 fun w X vs hg hx hr=>by
  obtain ⟨x,ys,rfl,hx1,hy⟩:=hr.cons_inv
  rcases qH5 hx1 with h | h
  ·exact h1 w X _ hg hx (F5.cons h hy)
  ·exact h2 w X _ hg hx (F5.cons h hy)
def Vi (s:Sl Int):Sl Int:=if s.nl=some true then ⟨[],some 0,some true⟩ else ⟨s.l,none,none⟩
theorem qAU (s:Sl Int) (h1:s.nl=some true→s.l=[]) (h2:s.l.length≤1000000):Ae Tryz.prog Γ 90 [tV s] (tV (Vi s)):=by
 obtain ⟨l,cap,nl⟩:=s
 simp only at h1 h2
 by_cases h3:nl=none∧l=[]
 ·obtain ⟨rfl,rfl⟩:=h3
  have a1:=q6z (Γ:=Γ) ⟨[],cap,some true⟩ ⟨fun _=>rfl,(fun h=>nomatch h),Nat.zero_le _⟩
  have a2:=q6z (Γ:=Γ) ⟨[],cap,some false⟩ ⟨(fun h=>nomatch h),(fun h=>nomatch h),Nat.zero_le _⟩
  exact qDh (qAT a1) (qAT a2)
 ·have:=q6z (Γ:=Γ) ⟨l,cap,nl⟩ ⟨h1,fun a b=>h3 ⟨a,b⟩,h2⟩
  unfold Vi
  by_cases hn:nl=some true
  ·have hl:=h1 hn
   subst hn
   subst hl
   simpa [tV,By] using this
  ·simpa [tV,hn] using this
end Go.Lg
namespace Go.Lg
open Go
section
variable {P:Program} {Γ:Tables} {Q:AX→St→Prop} {s:St}
/- slices.Clip[[][]probecard/api.Value,[]probecard/api.Value] (function 94) -/
abbrev M5:IC:=(.seq (.reg [od 2 (.mv kN)] [kp [0] []]) (.seq (.reg [om 3 0,om 4 0,od 5 (le 0 4),om 6 0,od 7 (le 0 6),od 8 (.slice 1 (tm 3) none (some (tm 5)) (some (tm 7))),om 2 8] [kp [2] []]) .ret))
def M6:List RV:=[.tmp 2]
end
end Go.Lg
namespace Go.Lg
open Go Go.Proofs
theorem Y7:Aw Tryz.prog 94 M5 9 1 M6=true:=by kernel_rfl
end Go.Lg
namespace Go.Lg
open Go Go.Proofs
variable {Γ:Tables}
theorem gN {l:List Nd} {i:Nat} (h:i<l.length):(Ao Bt l)[i]?.getD []=Bt (l.getD i Nd.d):=by
 rw [Dv Nd.d h]; rfl
def Ar:T:=.sl [] (some 0) (some true)
theorem qFg (es:List (List T)) (cap:Option Nat) (nl:Option Bool) (hw:D5 4 es):Ae Tryz.prog Γ 72 [.sl es cap nl] (.sl es (some es.length) nl):=by
 refine B1 q0O rfl ?_
 simp [Pe,Pg,hw]
theorem qCO (es:List (List T)) (cap:Option Nat) (nl:Option Bool) (hw:D5 1 es):Ae Tryz.prog Γ 73 [.sl es cap nl] (.sl es (some es.length) nl):=by
 refine B1 q1j rfl ?_
 simp [Rm,Rn,hw]
def qMI (l:List (Sl Int)):List Int:=(l.map fun s=>s.l).flatten
theorem Ph {c:B7}:∀ n ∈ Ag c,0≤n∧n<c.nodes.l.length∧C2 c n.toNat=14:=by
 intro n hn
 obtain ⟨h1,h2,h3⟩:=q0i [14] c.nodes.l 0 n hn
 refine ⟨by omega,by omega,?_⟩
 simpa [C2] using h3
end Go.Lg
namespace Go.Lg
open Go Go.Proofs
theorem qH6 {c:B7} (hg:GNs false c.nodes.l) (hm:c.mems.l=[]) (hn:c.nodes.l.length≤16384) (ho:c.outs.l.length≤16384∧∀ p ∈ c.outs.l,0≤p∧p<c.nodes.l.length) (hnm:c.names.l.length=c.nodes.l.length) (hne:G2 [] c.names.l=0):Eb c=0:=by
 have hout:∀ n,0≤n∧n<(c.nodes.l.length:Int)→N1 c n=false:=fun n h=>by simp [N1]; omega
 have hnode:∀ y ∈ c.nodes.l,D7 c y=0:=by
  intro y hy
  obtain ⟨i,hi,rfl⟩:=List.getElem_of_mem hy
  have hn:=hg i hi
  unfold D7
  rw [if_neg (by have:=hn.k; omega),if_neg (by have:=hn.f; omega)]
  have h1:c.nodes.l[i].inn.l.any (N1 c)=false:=List.any_eq_false.2 fun p hp=>by rw [hout p (hn.inn p hp)]; simp
  rw [h1]
  have h2:¬ (c.nodes.l[i].k=13∧c.nodes.l[i].inn.l.any (q0G c)=true):=by
   rintro ⟨hk,ha⟩
   obtain ⟨p,hp,hq⟩:=List.any_eq_true.1 ha
   have:=hn.bus hk p hp
   simp only [q0G,decide_eq_true_eq] at hq
   exact hq this
  rw [if_neg (by simp),if_neg h2]
  have h3:Xr c c.nodes.l[i]=true:=by
   unfold Xr
   by_cases hk:c.nodes.l[i].k=15
   ·have:=(hn.mm.2 hk).1
    cases this
   ·have:=hn.mm.1 hk
    simp [hk,this]
  rw [h3]; simp
 have hs:Ci c=0:=by
  unfold Ci
  rw [if_neg (by rw [hm]; simp; omega),if_neg (by simp [hnm]),if_neg (by rw [Wu hnode]; simp),if_neg (by rw [hne]; simp),if_neg (by rw [hm]; simp [Dh])]
  have:c.outs.l.any (N1 c)=false:=List.any_eq_false.2 fun p hp=>by rw [hout p (ho.2 p hp)]; simp
  rw [this]; rfl
 have hd:=q7Q c (Gy hs).2.1 (q8t hs) (by
  intro i hi hc p hp
  have e:c.nodes.l.getD i Nd.d=c.nodes.l[i]:=by simp [List.getD_eq_getElem?_getD,hi]
  simp only [C2,Ks,e] at hc hp
  exact (hg i hi).top (by simpa [G3] using hc) p hp)
 unfold Eb
 rw [if_neg (by simp [hs]),if_neg hd]
/-! The nodes are lists that tell whether they are nil. -/
def m0 (c:B7) (ch:List (Sl Int)):Nat:=c.nodes.l.length+1+ch.length
end Go.Lg
namespace Go.Lg
open Go Go.Proofs
variable {c:B7} {ch:List (Sl Int)}
theorem q4N:∀ (l done:List (List UInt8)),(∀ s ∈ l,q0H s=true)→(done++l).Nodup→G2 done l=0
 | [],_,_,_=>rfl
 | s::l,done,h,hn=>by
  have h1:=h s List.mem_cons_self
  have h2:s ∉ done:=fun hm=>(List.nodup_append.1 hn).2.2 s hm s List.mem_cons_self rfl
  simp only [G2]
  rw [if_neg (by simp [h1,h2])]
  exact q4N l (done++[s]) (fun x hx=>h x (List.mem_cons_of_mem _ hx)) (by rw [List.append_assoc]; exact hn)
theorem qFh {α:Type} {f:Nat→α} {n:Nat} (hf:∀ i,i<n→∀ j,j<n→f i=f j→i=j):((List.range' 0 n).map f).Nodup:=by
 rw [List.nodup_iff_pairwise_ne,List.pairwise_map]
 refine (List.Pairwise.imp_of_mem ?_ (List.nodup_iff_pairwise_ne.1 (List.nodup_range' (s:=0) (n:=n) (step:=1))))
 intro a b ha hb hab e
 simp at ha hb
 exact hab (hf a (by omega) b (by omega) e)
end Go.Lg
namespace Go.Lg
open Go Go.Proofs
variable {Γ:Tables}
theorem gE' {α:Type} {f:α→T} {l:List α} {i:Nat} (d:α) (h0:i<l.length):∀ h:i<(Af f l).length,(Af f l)[i]=[f (l.getD i d)]:=fun h=>by
 have:=Bw (f:=f) d h0
 rw [List.getElem?_eq_getElem h] at this
 simpa [List.getD_eq_getElem?_getD] using this
theorem gE {α:Type} {f:α→T} {l:List α} {i:Nat} (d:α) (h0:i<l.length):(Af f l)[i]?.getD []=[f (l.getD i d)]:=by
 rw [List.getElem?_eq_getElem (by rw [A0]; exact h0)]
 exact gE' d h0 _
structure Rsp where
 out:Sl Int
 next:Sl Int
def qMJ (r:Rsp):List T:=[tV r.out,tV r.next]
def qMK:Rsp:=⟨⟨[],none,none⟩,⟨[],none,none⟩⟩
theorem gR {l:List Rsp} {i:Nat} (h:i<l.length):(Ao qMJ l)[i]?.getD []=qMJ (l.getD i qMK):=by
 rw [Dv qMK h]; rfl
theorem q6A {n:Int} (h1:0≤n) (h2:n<18446744073709551616):IntKind.u64.wrap n=n:=by
 simp [IntKind.wrap,IntKind.signed,IntKind.bits]
 omega
theorem qML {n:Nat} (h:n<4294967296):IntKind.u64.wrap ((BitVec.ofInt 64 (n:Int) &&& BitVec.ofInt 64 4294967295).toNat:Int)=n:=by
 have e:(BitVec.ofInt 64 (n:Int) &&& BitVec.ofInt 64 4294967295).toNat=n:=by
  rw [BitVec.toNat_and]
  have h1:(BitVec.ofInt 64 (n:Int)).toNat=n:=by
   simp [BitVec.toNat_ofInt]; omega
  have h2:(BitVec.ofInt 64 4294967295).toNat=2 ^ 32 - 1:=by decide
  rw [h1,h2,Nat.and_two_pow_sub_one_eq_mod]
  omega
 rw [e,q6A] <;> omega
theorem qDi {n:Nat} (h:n<4294967296):IntKind.u64.wrap ((BitVec.ofNat 64 n &&& 4294967295#64).toNat:Int)=n:=by
 have:=qML h
 rwa [show BitVec.ofInt 64 (n:Int)=BitVec.ofNat 64 n from by simp,show BitVec.ofInt 64 4294967295=4294967295#64 from rfl] at this
abbrev tU (n:Int):T:=.v (.int .u64 n)
theorem qDj {n:Nat} (h:n<4294967296):(n:Int).fdiv 4294967296=0:=by
 rw [Int.fdiv_eq_ediv_of_nonneg _ (by omega)]; omega
theorem qDk (a b:Nat) (ha:a<65536) (hb:b<65536):A6 Tryz.prog Γ 252 [tU a,tU b] (.tup [tU 0,tU (a*b:Nat)]):=by
 refine Ab q99 rfl ?_
 have hab:a*b≤65535*65535:=Nat.mul_le_mul (by omega) (by omega)
 have a1:=qDi (n:=a) (by omega)
 have b1:=qDi (n:=b) (by omega)
 have z1:=qDi (n:=0) (by omega)
 have a2:=qDj (n:=a) (by omega)
 have b2:=qDj (n:=b) (by omega)
 have c2:=qDj (n:=a*b) (by omega)
 have m32:min (32:Int).toNat 64=32:=by decide
 have c1:IntKind.u64.wrap ((a:Int)*b)=((a*b:Nat):Int):=by rw [← Int.natCast_mul,q6A] <;> omega
 have z2:IntKind.u64.wrap 0=0:=by decide
 simp [q4L,q4M,IntKind.bits,a1,b1,a2,b2,c1,c2,z1,z2,m32,-Int.natCast_mul]
 erw [a1,b1,c1,c2,z2]
theorem qCP (a b:Nat) (ha:a<65536) (hb:b<65536):A6 Tryz.prog Γ 209 [tU a,tU b] (.tup [tU 0,tU (a*b:Nat)]):=by
 refine Ab qB9 rfl ?_
 simp [q7W]
 refine A3 (qDk a b ha hb) rfl ?_
 simp [q7X]
theorem qH7 {j n:Nat} (h1:0<j) (h2:j<n):(List.replicate j [tK 2]++List.replicate (n - j) [tK 0]).take j++((List.replicate j [tK 2]++List.replicate (n - j) [tK 0]).take j).take (min (n - j) j)++(List.replicate j [tK 2]++List.replicate (n - j) [tK 0]).drop (j+min (n - j) j)=List.replicate (j+min (n - j) j) [tK 2]++List.replicate (n - (j+min (n - j) j)) [tK 0]:=by
 have e1:(List.replicate j [tK 2]++List.replicate (n - j) [tK 0]).take j=List.replicate j [tK 2]:=by
  rw [List.take_append_of_le_length (by simp),List.take_of_length_le (by simp)]
 have e2:(List.replicate j [tK 2]).take (min (n - j) j)=List.replicate (min (n - j) j) [tK 2]:=by
  rw [List.take_replicate,Nat.min_eq_left (Nat.min_le_right _ _)]
 rw [e1,e2,← List.replicate_append_replicate (n:=j),List.drop_append,List.drop_of_length_le (by simp),List.nil_append,List.drop_replicate]
 congr 2
 simp; omega
theorem q9A {Q:AX→St→Prop} (n:Nat) (hn:n≤1000000)
  (h0:Q (.exit 0) ⟨[(7,.ls 30 0 n none),(8,.t (tI n)),(37,.t (tB false))],[(30,.sl 71 1 (List.replicate n [tK 2]))]⟩) :
  ∀ (f j:Nat),n - j≤f→0<j→j≤n →
  run Tryz.prog Γ E3 Q ⟨[(7,.ls 30 0 n none),(8,.t (tI j))],[(30,.sl 71 1 (List.replicate j [tK 2]++List.replicate (n - j) [tK 0]))]⟩
 | 0,j,hf,h1,h2=>by
  refine Dc fun K hK=>?_
  have h3:j=n:=by omega
  subst h3
  simp
  simpa using h0
 | f+1,j,hf,h1,h2=>by
  refine Dc fun K hK=>?_
  by_cases h3:j=n
  ·subst h3
   simp
   simpa using h0
  ·have h4:j<n:=by omega
   have ih:=q9A n hn h0 f (j+min (n - j) j) (by omega) (by omega) (by omega)
   rw [← qH7 h1 h4] at ih
   have hw:D5 1 (List.replicate j [tK 2]++List.replicate (n - j) [tK 0]):=by
    intro e he
    rcases List.mem_append.1 he with he | he <;> rw [List.eq_of_mem_replicate he] <;> rfl
   have hl:(List.replicate j [tK 2]++List.replicate (n - j) [tK 0]).length=n:=by simp; omega
   generalize List.replicate j [tK 2]++List.replicate (n - j) [tK 0]=es at *
   have hwt:D5 1 (es.take j):=fun e he=>hw e (List.mem_of_mem_take he)
   have hjn:min j n=j:=by omega
   have w1:IntKind.i64.wrap ((j:Int)+((min (n - j) j:Nat):Int))=((j+min (n - j) j:Nat):Int):=by rw [A5] <;> omega
   simp [h4,h2,hl,hwt,hjn,w1,-Int.natCast_add]
   rw [hK]
   simpa using ih
theorem q7Y (n:Nat) (hn:n≤60000):Ae Tryz.prog Γ 144 [.sl [[tK 2]] (some 1) (some false),tI n] (.sl (List.replicate n [tK 2]) none none):=by
 refine B1 Jx rfl ?_
 have em:A6 Tryz.prog Γ 209 [tU 1,tU n] (.tup [tU 0,tU n]):=by
  have:=qCP (Γ:=Γ) 1 n (by omega) (by omega)
  rwa [Nat.one_mul] at this
 have u1:IntKind.u64.wrap (n:Int)=n:=by rw [q6A] <;> omega
 have u2:IntKind.u64.wrap 1=1:=by decide
 have u3:IntKind.i64.wrap (n:Int)=n:=by rw [A5] <;> omega
 have u4:¬ (9223372036854775807:Int)<n:=by omega
 have u5:¬ (n:Int)<0:=by omega
 have hw2:D5 1 [[tK 2]]:=by intro e he; simp at he; subst he; rfl
 simp [Ge,u1,u2,u5]
 refine A3 em rfl ?_
 simp [u3,u4]
 refine ⟨by omega,?_⟩
 by_cases h0:n=0
 ·subst h0
  simp
  refine Dc fun K hK=>?_
  simp [D4,Aj]
 ·have hm1:min n 1=1:=by omega
  have hdr:(List.replicate n [tK 0]).drop 1=List.replicate (n - 1) [tK 0]:=by rw [List.drop_replicate]
  have g:=fun Q h0=>q9A (Γ:=Γ) (Q:=Q) n (by omega) h0 n 1 (by omega) (by omega) (by omega)
  simp at g
  simp [hm1]
  refine g _ ?_
  simp [D4,Aj]
theorem q7Z (n:Nat) (hn:n≤60000):Ae Tryz.prog Γ 143 [tI n] (.sl (List.replicate n [tK 2]) none none):=by
 refine B1 q6x rfl ?_
 simp [q1y]
 refine Ad (q7Y n hn) rfl ?_
 simp [q1z]
theorem q9B (c:B7) (hc:COk c) (hi:(Da c).length≤60000) (hs:(Ag c).length≤60000):Ae Tryz.prog Γ 81 [.agg (tC c)] (.agg [.sl (Az (List.replicate (Da c).length 2)) none none,.sl (Az (List.replicate (Ag c).length 2)) none none]):=by
 refine B1 q98 rfl ?_
 have e1:=Uf (Γ:=Γ) c hc
 have e2:=Ek (Γ:=Γ) c hc
 have b1:=q7Z (Γ:=Γ) (Da c).length hi
 have b2:=q7Z (Γ:=Γ) (Ag c).length hs
 have v1:∀ n,Az (List.replicate n 2)=List.replicate n [tK 2]:=fun n=>by simp [Af]
 simp [tC,A7,A9,Ac,B5] at e1 e2
 simp [q4J,tC,A7,A9,Ac,B5]
 refine Ad e1 rfl ?_
 simp [A0]
 refine Ad b1 rfl ?_
 simp
 refine Ad e2 rfl ?_
 simp [A0]
 refine Ad b2 rfl ?_
 simp [q4K,v1]
theorem qNC {n:Nat} (h:n<4611686018427387904):IntKind.i64.wrap ((n % 2 ^ IntKind.i64.bits &&& 1 % 2 ^ IntKind.i64.bits:Nat):Int)=((n % 2:Nat):Int):=by
 have e:(n % 2 ^ IntKind.i64.bits &&& 1 % 2 ^ IntKind.i64.bits:Nat)=n % 2:=by
  have h0:IntKind.i64.bits=64:=rfl
  rw [h0,Nat.mod_eq_of_lt (show n<2 ^ 64 by omega),show 1 % 2 ^ 64=2 ^ 1 - 1 by decide,Nat.and_two_pow_sub_one_eq_mod]
 rw [e,A5] <;> omega
theorem qMM {n:Nat}:(n:Int).fdiv (2 ^ min 1 IntKind.i64.bits)=((n / 2:Nat):Int):=by
 have h1:min 1 IntKind.i64.bits=1:=by decide
 rw [h1,Int.fdiv_eq_ediv_of_nonneg _ (by omega)]; omega
theorem qDl {Q:AX→St→Prop} (addr:Sl Int) (hl:addr.l.length≤1000000) (hv:∀ v ∈ addr.l,0≤v) (R:Bool)
  (h0:∀ i:Nat,decide (i=0)=R→Q (.exit 0) ⟨[(0,.t (tI i)),(7,.t (tV addr)),(8,.t (tI addr.l.length)),(9,.t (tI addr.l.length)),(10,.t (tB false))],[]⟩)
  (h1:R=false→Q .ret ⟨[(4,.t (tB false))],[]⟩) :
  ∀ (k j i:Nat),k+j=addr.l.length→i≤1000000000→q0N i (addr.l.drop j)=R →
  run Tryz.prog Γ Hl Q ⟨[(0,.t (tI i)),(7,.t (tV addr)),(8,.t (tI addr.l.length)),(9,.t (tI j))],[]⟩
 | 0,j,i,h,hi,hR=>by
  refine P9 fun K hK=>?_
  have h2:j=addr.l.length:=by omega
  subst h2
  rw [List.drop_of_length_le (Nat.le_refl _)] at hR
  have:=h0 i hR
  simp
  simpa using this
 | k+1,j,i,h,hi,hR=>by
  refine P9 fun K hK=>?_
  have h2:j<addr.l.length:=by omega
  rw [List.drop_eq_getElem_cons h2] at hR
  have e1:=gE (f:=tK) 0 h2
  have e1':=gE' (f:=tK) 0 h2
  have hv0:=hv _ (List.getElem_mem h2)
  rw [D8 h2] at e1 e1'
  generalize addr.l[j]=v at *
  have w1:IntKind.i64.wrap ((j:Int)+1)=(j:Int)+1:=by rw [A5] <;> omega
  have a1:=qNC (n:=i) (by omega)
  have f1:=qMM (n:=i)
  have hk:=Sv (Γ:=Γ) v
  simp only [q0N] at hR
  simp [tV,A0,A8,h2,e1,e1']
  refine A3 hk rfl ?_
  by_cases hv1:v≤1
  ·have wv:IntKind.i64.wrap v=v:=by rw [A5] <;> omega
   by_cases hne:v=(i:Int) % 2
   ·rw [if_neg (by simp [hne])] at hR
    have ih:=qDl addr hl hv R h0 h1 k (j+1) (i / 2) (by omega) (by omega) hR
    simp [N2,hv1,wv,a1,← hne,f1,w1]
    rw [hK]
    simpa [tV] using ih
   ·rw [if_pos ⟨hv1,hne⟩] at hR
    simp [N2,hv1,wv,a1,hne]
    exact h1 hR.symm
  ·rw [if_neg (by simp [hv1])] at hR
   have ih:=qDl addr hl hv R h0 h1 k (j+1) (i / 2) (by omega) (by omega) hR
   simp [N2,hv1,f1,w1]
   rw [hK]
   simpa [tV] using ih
theorem B8 {i:Nat} (h:i≤1000000000):IntKind.i64.wrap ((i:Int)+1)=(i:Int)+1:=by rw [A5] <;> omega
theorem q6B (i:Nat) (hi:i≤1000000000) (addr:Sl Int) (hl:addr.l.length≤1000000) (hv:∀ v ∈ addr.l,0≤v):A6 Tryz.prog Γ 162 [tI i,tV addr] (tB (q0N i addr.l)):=by
 refine Ab q35 rfl ?_
 have g:=fun Q h0 h1=>qDl (Γ:=Γ) (Q:=Q) addr hl hv (q0N i addr.l) h0 h1 addr.l.length 0 i (by omega) hi rfl
 simp [Vy,tV,A0] at g ⊢
 refine g _ (fun q hq=>?_) (fun hq=>?_)
 ·simp [N5,← hq]
 ·simp [N5,hq]
theorem q70 (w:Sl Int) (b:Nat) (hb:b≤1000000000) (hw:w.l.length≤1000000000):A6 Tryz.prog Γ 163 [tV w,tI b] (tK (q3A w.l b)):=by
 refine Ab q6v rfl ?_
 unfold q3A
 by_cases h:b<w.l.length
 ·have e1:=gE (f:=tK) 0 h
  have e1':=gE' (f:=tK) 0 h
  rw [if_pos h]
  have hr:=Su (Γ:=Γ) (w.l.getD b 0)
  generalize w.l.getD b 0=v at *
  have h2:¬ (w.l.length:Int)≤b:=by omega
  have h3:¬ w.l.length≤b:=by omega
  simp [Ve,tV,A0,A8,h,h2,h3,e1,e1']
  refine A3 hr rfl ?_
  simp [Vf]
 ·rw [if_neg h]
  have h2:(w.l.length:Int)≤b:=by omega
  have h3:w.l.length≤b:=by omega
  simp [Ve,tV,A0,h2,h3,Vf]
theorem q7a (a b:Int):A6 Tryz.prog Γ 164 [tK a,tK b] (tK (qAS a b)):=by
 refine Ab q3q rfl ?_
 unfold qAS
 by_cases h:a=b
 ·simp [Oh,h,Oi]
 ·simp [Oh,h,Oi]
theorem qH8 (n:Nat) (hn:n≤60000):F9 Tryz.prog Γ 144 [] [.t (.sl [[tK 2]] (some 1) (some false)),.t (tI n)] (.ls 30 0 n none) [(30,.sl 71 1 (Az (List.replicate n 2)))]:=by
 refine Ht Jx rfl ?_
 have em:A6 Tryz.prog Γ 209 [tU 1,tU n] (.tup [tU 0,tU n]):=by
  have:=qCP (Γ:=Γ) 1 n (by omega) (by omega)
  rwa [Nat.one_mul] at this
 have u1:IntKind.u64.wrap (n:Int)=n:=by rw [q6A] <;> omega
 have u2:IntKind.u64.wrap 1=1:=by decide
 have u3:IntKind.i64.wrap (n:Int)=n:=by rw [A5] <;> omega
 have u4:¬ (9223372036854775807:Int)<n:=by omega
 have u5:¬ (n:Int)<0:=by omega
 have hw2:D5 1 [[tK 2]]:=by intro e he; simp at he; subst he; rfl
 have v1:Az (List.replicate n 2)=List.replicate n [tK 2]:=by simp [Af]
 rw [v1]
 simp [Ge,u1,u2,u5]
 refine A3 em rfl ?_
 simp [u3,u4]
 refine ⟨by omega,?_⟩
 by_cases h0:n=0
 ·subst h0
  simp
  refine Dc fun K hK=>?_
  simp [D4]
 ·have hm1:min n 1=1:=by omega
  have hdr:(List.replicate n [tK 0]).drop 1=List.replicate (n - 1) [tK 0]:=by rw [List.drop_replicate]
  have g:=fun Q h0=>q9A (Γ:=Γ) (Q:=Q) n (by omega) h0 n 1 (by omega) (by omega) (by omega)
  simp at g
  simp [hm1]
  refine g _ ?_
  simp [D4]
theorem q1k (n:Nat) (hn:n≤60000):Ae Tryz.prog Γ 97 [tI n] (.sl (Az (List.replicate n 2)) none none):=by
 refine B1 q37 rfl ?_
 have v1:Az (List.replicate n 2)=List.replicate n [tK 2]:=by simp [Af]
 simp [W1]
 refine Ad (q7Y n hn) rfl ?_
 simp [W2,v1]
theorem qFi (n:Nat) (hn:n≤60000):F9 Tryz.prog Γ 97 [] [.t (tI n)] (.ls 5030 0 n none) [(5030,.sl 71 1 (Az (List.replicate n 2)))]:=by
 refine Ht q2O rfl ?_
 simp [Ui]
 refine ⟨_,_,qH8 n hn,?_⟩
 simp [Uj]
def tW (s:Sl (Sl Int)):T:=.sl (Af tV s.l) s.cap s.nl
def Sl.z:Sl Int:=⟨[],none,none⟩
theorem qJE {Q:AX→St→Prop} (addr:Sl Int) (n:Nat) (hn:n≤1000000) (first:Bool) (w:Sl Int) (hw:w.l.length≤1000000) (tw:T) (len i:Int) (R:List Int)
  (h0:R.length=n→Q (.exit 2) ⟨[(1,.t (tV addr)),(5,.ls 22030 0 n none),(6,.t (tB first)),(8,.t (tV w)),(18,.t tw),(19,.t (tI len)),(20,.t (tI i)),(30,.t (tI n)),(31,.t (tI n)),(32,.t (tB false))],[(22030,.sl 71 1 (Az R))]⟩) :
  ∀ (k b:Nat) (out:List Int),k+b=n→out.length=n→q0y w.l first k b out=R →
  run Tryz.prog Γ Lc Q ⟨[(1,.t (tV addr)),(5,.ls 22030 0 n none),(6,.t (tB first)),(8,.t (tV w)),(18,.t tw),(19,.t (tI len)),(20,.t (tI i)),(30,.t (tI n)),(31,.t (tI b))],[(22030,.sl 71 1 (Az out))]⟩
 | 0,b,out,h,ho,hR=>by
  refine Ug fun K hK=>?_
  have h2:b=n:=by omega
  subst h2
  have hR:out=R:=hR
  subst hR
  simp
  simpa using h0 ho
 | k+1,b,out,h,ho,hR=>by
  refine Ug fun K hK=>?_
  have h2:b<n:=by omega
  have hbo:b<out.length:=by omega
  simp only [q0y] at hR
  have ih:=qJE addr n hn first w hw tw len i R h0 k (b+1) _ (by omega) (by rw [List.length_set]; exact ho) hR
  have e1:=gE (f:=tK) 0 hbo
  have e1':=gE' (f:=tK) 0 hbo
  have hb:=q70 (Γ:=Γ) w b (by omega) (by omega)
  have hs:∀ v:Int,(Az out).set b [tK v]=Az (out.set b v):=fun v=>Ir
  have w1:=B8 (i:=b) (by omega)
  generalize out.getD b 0=o at *
  cases first with
  | true =>
   simp only [if_pos] at ih
   simp [h2]
   refine A3 hb rfl ?_
   simp [h2,hbo,A0,hs,w1,ho]
   rw [hK]
   simpa using ih
  | false =>
   simp only [Bool.false_eq_true,if_false] at ih
   simp [h2,hbo,A0,A8,e1,e1',ho]
   refine A3 hb rfl ?_
   simp
   refine A3 (q7a o (q3A w.l b)) rfl ?_
   simp [h2,hbo,A0,hs,w1,ho]
   rw [hK]
   simpa using ih
theorem qH9 {Q:AX→St→Prop} (addr:Sl Int) (ha:addr.l.length≤1000000) (hv:∀ v ∈ addr.l,0≤v) (n:Nat) (hn:n≤1000000) (words:Sl (Sl Int)) (hl:words.l.length≤1000000) (hw:∀ w ∈ words.l,w.l.length≤1000000) (R:List Int × Bool)
  (h0:R.1.length=n→Q (.exit 0) ⟨[(1,.t (tV addr)),(5,.ls 22030 0 n none),(6,.t (tB R.2)),(18,.t (tW words)),(19,.t (tI words.l.length)),(20,.t (tI words.l.length)),(21,.t (tB false))],[(22030,.sl 71 1 (Az R.1))]⟩) :
  ∀ (k i:Nat) (out:List Int) (first:Bool),k+i=words.l.length→out.length=n→q4I addr.l i ((words.l.drop i).map (·.l)) (out,first)=R →
  run Tryz.prog Γ Ld Q ⟨[(1,.t (tV addr)),(5,.ls 22030 0 n none),(6,.t (tB first)),(18,.t (tW words)),(19,.t (tI words.l.length)),(20,.t (tI i))],[(22030,.sl 71 1 (Az out))]⟩
 | 0,i,out,first,h,ho,hR=>by
  refine Uh fun K hK=>?_
  have h2:i=words.l.length:=by omega
  subst h2
  rw [List.drop_of_length_le (Nat.le_refl _)] at hR
  have hR:(out,first)=R:=hR
  subst hR
  have:=h0 ho
  simp
  simpa using this
 | k+1,i,out,first,h,ho,hR=>by
  refine Uh fun K hK=>?_
  have h2:i<words.l.length:=by omega
  rw [List.drop_eq_getElem_cons h2,List.map_cons] at hR
  simp only [q4I] at hR
  have e1:=gE (f:=tV) Sl.z h2
  have e1':=gE' (f:=tV) Sl.z h2
  have hwi:=hw _ (List.getElem_mem h2)
  rw [show words.l.getD i Sl.z=words.l[i] by simp [List.getD_eq_getElem?_getD,h2]] at e1 e1'
  have hm:=q6B (Γ:=Γ) i (by omega) addr ha hv
  have w1:=B8 (i:=i) (by omega)
  by_cases hmm:q0N i addr.l=true
  ·rw [if_pos hmm] at hR
   have hlen:∀ (w:List Int) (f:Bool) (k b:Nat) (o:List Int),(q0y w f k b o).length=o.length:=by
    intro w f k
    induction k with
    | zero=>intro b o; rfl
    | succ k ih=>intro b o; simp only [q0y]; rw [ih,List.length_set]
   have ih:=qH9 addr ha hv n hn words hl hw R h0 k (i+1) _ _ (by omega) (by rw [hlen]; exact ho) hR
   generalize words.l[i]=w at *
   have g:=fun Q h0=>qJE (Γ:=Γ) (Q:=Q) addr n hn first w hwi (tW words) words.l.length i (q0y w.l first n 0 out) h0 n 0 out (by omega) ho rfl
   simp only [ho] at ih
   generalize q0y w.l first n 0 out=R1 at *
   rw [hmm] at hm
   simp [tW] at ih g
   simp [tW,A0,A8,h2,e1,e1']
   refine A3 hm rfl ?_
   simp [h2]
   refine g _ fun hR1=>?_
   simp [w1]
   rw [hK]
   simpa using ih
  ·rw [if_neg hmm] at hR
   have ih:=qH9 addr ha hv n hn words hl hw R h0 k (i+1) _ _ (by omega) ho hR
   generalize words.l[i]=w at *
   simp only [Bool.not_eq_true] at hmm
   rw [hmm] at hm
   simp [tW] at ih
   simp [tW,A0,A8,h2,e1,e1']
   refine A3 hm rfl ?_
   simp [w1]
   rw [hK]
   simpa using ih
theorem qFj (words:Sl (Sl Int)) (hl:words.l.length≤1000000) (hw:∀ w ∈ words.l,w.l.length≤60000) (addr:Sl Int) (ha:addr.l.length≤1000000) (hv:∀ v ∈ addr.l,0≤v) :
  Ae Tryz.prog Γ 91 [tW words,tV addr] (if words.l=[] then .sl [] (some 0) (some true) else .sl (Az (q3B (words.l.map (·.l)) addr.l)) none none):=by
 refine B1 q68 rfl ?_
 by_cases h0:words.l=[]
 ·rw [if_pos h0]
  simp [T0,tW,h0,By,T8]
 ·rw [if_neg h0]
  have h1:0<words.l.length:=List.length_pos_iff.2 h0
  have e1:=gE (f:=tV) Sl.z h1
  have e1':=gE' (f:=tV) Sl.z h1
  rw [show words.l.getD 0 Sl.z=words.l[0] by simp [List.getD_eq_getElem?_getD,h1]] at e1 e1'
  have hw0:=hw _ (List.getElem_mem h1)
  have hu:=qFi (Γ:=Γ) words.l[0].l.length hw0
  have hR:q3B (words.l.map (·.l)) addr.l=(q4I addr.l 0 (words.l.map (·.l)) (List.replicate words.l[0].l.length 2,true)).1:=by
   obtain ⟨l,cp,n0⟩:=words
   cases l with
   | nil=>exact absurd rfl h0
   | cons w ws=>rfl
  rw [hR]
  generalize words.l[0]=w at *
  have g:=fun Q h0=>qH9 (Γ:=Γ) (Q:=Q) addr ha hv w.l.length (by omega) words hl (fun w h=>by have:=hw w h; omega) (q4I addr.l 0 (words.l.map (·.l)) (List.replicate w.l.length 2,true)) h0 words.l.length 0 (List.replicate w.l.length 2) true (by omega) (by simp) (by rw [List.drop_zero])
  generalize q4I addr.l 0 (words.l.map (·.l)) (List.replicate w.l.length 2,true)=R at *
  obtain ⟨R1,R2⟩:=R
  simp [tW] at g
  simp only [tV] at e1 e1'
  have h0':¬ (words.l.length:Int)=0:=by omega
  simp [T0,tW,h0,h0',h1,A0,A8,e1,e1']
  refine ⟨_,_,hu,?_⟩
  simp [A0]
  refine g _ fun hR1=>?_
  have vt:(Az R1).take w.l.length=Az R1:=by rw [← hR1]; exact E5
  simp [T8,Aj,vt]
theorem q1l {i:Nat} {addr data w:List Int} {en:Int}:∀ {k b:Nat},(Vh i addr data en w k b).length=k
 | 0,_=>rfl
 | k+1,b=>by simp [Vh,q1l]
theorem q5B {i:Nat} {addr data w:List Int} {en:Int}:∀ {k b j:Nat},j<k→(Vh i addr data en w k b).getD j 0=q97 i addr en (q3A w (b+j)) (q3A data (b+j))
 | k+1,b,0,_=>rfl
 | k+1,b,j+1,h=>by
  show (Vh i addr data en w k (b+1)).getD j 0=_
  rw [q5B (by omega),show b+1+j=b+(j+1) by omega]
theorem qCQ {hp:List (Nat × Bc)} {k:Nat}:∀ (l:List T),Ai ((l.map AV.t).map (Aj hp k))=some l
 | []=>rfl
 | t::l=>by
  have ih:=qCQ (hp:=hp) (k:=k) l
  cases k <;> simp only [List.map_cons,Aj,Ai,ih] <;> rfl
theorem qJF {Q:AX→St→Prop} (addr data:Sl Int) (ha:addr.l.length≤1000000) (hv:∀ v ∈ addr.l,0≤v) (hd:data.l.length≤1000000) (en:Int) (tw:T) (n i:Nat) (hi:i<n) (hn:n≤1000000) (w:Sl Int) (hw:w.l.length≤1000000) (cells:List AV)
  (hcl:i+1≤cells.length) (hc:(cells.drop i).take 1=[.ls 37 0 w.l.length none]) (R:List Int) (hRl:R.length=w.l.length) (hR:∀ b,b<w.l.length→R.getD b 0=q97 i addr.l en (q3A w.l b) (q3A data.l b))
  (h0:Q (.exit 2) ⟨[(1,.t (tV addr)),(2,.t (tV data)),(3,.t (tK en)),(9,.t (tB (q7V addr.l en))),(10,.lb 25 n),(11,.t (tI i)),(12,.t (tV w)),(26,.t tw),(27,.t (tI n)),(28,.t (tI i)),(49,.t (tI w.l.length)),(50,.t (tI w.l.length)),(51,.t (tB false))],[(25,.bx cells),(37,.sl 71 1 (Az R))]⟩) :
  ∀ (k b:Nat) (row:List Int),k+b=w.l.length→row=R.take b++w.l.drop b →
  run Tryz.prog Γ Jm Q ⟨[(1,.t (tV addr)),(2,.t (tV data)),(3,.t (tK en)),(9,.t (tB (q7V addr.l en))),(10,.lb 25 n),(11,.t (tI i)),(12,.t (tV w)),(26,.t tw),(27,.t (tI n)),(28,.t (tI i)),(49,.t (tI w.l.length)),(50,.t (tI b))],[(25,.bx cells),(37,.sl 71 1 (Az row))]⟩
 | 0,b,row,h,hr=>by
  refine R9 fun K hK=>?_
  have h2:b=w.l.length:=by omega
  subst h2
  rw [List.drop_length,List.append_nil,← hRl,List.take_length] at hr
  subst hr
  simp
  simpa using h0
 | k+1,b,row,h,hr=>by
  refine R9 fun K hK=>?_
  have h2:b<w.l.length:=by omega
  have h2R:b<R.length:=by omega
  have hrl:row.length=w.l.length:=by rw [hr]; simp; omega
  have ih:=qJF addr data ha hv hd en tw n i hi hn w hw cells hcl hc R hRl hR h0 k (b+1) _ (by omega) rfl
  have hset:∀ v:Int,v=R.getD b 0→(Az row).set b [tK v]=Az (R.take (b+1)++w.l.drop (b+1)):=by
   rintro v rfl
   rw [show (Az row).set b [tK (R.getD b 0)]=Az (row.set b (R.getD b 0)) from Ir,hr]
   congr 1
   have ht:(R.take b).length=b:=by rw [List.length_take]; omega
   rw [List.set_append_right _ _ (by omega),ht,Nat.sub_self,List.drop_eq_getElem_cons h2,List.set_cons_zero,show R.take (b+1)=R.take b++[R.getD b 0] by rw [List.take_add_one,List.getElem?_eq_getElem h2R,D8 h2R]; rfl,List.append_assoc]
   rfl
  have hRb:=hR b h2
  have hb1:=q70 (Γ:=Γ) w b (by omega) (by omega)
  have hb2:=q70 (Γ:=Γ) data b (by omega) (by omega)
  have hm:=q6B (Γ:=Γ) i (by omega) addr ha hv
  have w1:=B8 (i:=b) (by omega)
  generalize R.take (b+1)++w.l.drop (b+1)=row' at *
  generalize R.getD b 0=v at *
  generalize q3A w.l b=o at *
  generalize q3A data.l b=d at *
  unfold q97 at hRb
  generalize q7V addr.l en=su at *
  have hcv:=q7a (Γ:=Γ) o d
  have hii:(i:Int)<n:=by omega
  simp [h2]
  refine A3 hb1 rfl ?_
  simp
  refine A3 hb2 rfl ?_
  by_cases he:en=0
  ·rw [if_pos (.inl he)] at hRb
   subst hRb
   simp [he,hi,hii,hcl,hc,hrl,h2,A0,hset,w1]
   rw [hK]
   simpa [he] using ih
  ·simp [he]
   refine A3 hm rfl ?_
   cases hmm:q0N i addr.l with
   | false =>
    rw [if_pos (.inr hmm)] at hRb
    subst hRb
    simp [hmm,hi,hii,hcl,hc,hrl,h2,A0,hset,w1]
    rw [hK]
    simpa using ih
   | true =>
    rw [if_neg (by simp [he,hmm])] at hRb
    cases su with
    | true =>
     rw [if_pos rfl] at hRb
     subst hRb
     simp [hmm,hi,hii,hcl,hc,hrl,h2,A0,hset,w1]
     rw [hK]
     simpa using ih
    | false =>
     rw [if_neg (by simp)] at hRb
     simp [hmm,hi,hii,hcl,hc,hrl,h2,A0,w1]
     refine A3 hcv rfl ?_
     rw [← hRb]
     simp [hi,hii,hcl,hc,hrl,h2,A0,hset,w1]
     rw [hK]
     simpa using ih
def q5C (done:List (List Int)) (n:Nat):List AV:=(done.map fun r=>T.sl (Az r) none none).map AV.t++List.replicate (n - done.length) (AV.t (T.sl [] (some 0) (some true)))
theorem qHA {done:List (List Int)} {n:Nat} (h:done.length≤n):(q5C done n).length=n:=by simp [q5C]; omega
theorem qHB {done:List (List Int)} {n:Nat} (h:done.length<n) (a:AV):(q5C done n).take done.length++[a]++(q5C done n).drop (done.length+1)=(done.map fun r=>T.sl (Az r) none none).map AV.t++[a]++List.replicate (n - (done.length+1)) (AV.t (T.sl [] (some 0) (some true))):=by
 have e:((done.map fun r=>T.sl (Az r) none none).map AV.t).length=done.length:=by simp
 unfold q5C
 rw [show n - done.length=(n - (done.length+1))+1 by omega,List.replicate_succ]
 rw [List.take_append_of_le_length (by omega),List.take_of_length_le (by omega),List.drop_append,List.drop_of_length_le (by omega),e,show done.length+1 - done.length=1 by omega]
 simp
theorem qHC {done:List (List Int)} {n:Nat} (h:done.length<n) (R:List Int) (ty:Nat) :
  ((done.map fun r=>T.sl (Az r) none none).map AV.t++[AV.ls 37 0 R.length none]++List.replicate (n - (done.length+1)) (AV.t (T.sl [] (some 0) (some true)))).map (Bi 37 (.sl ty 1 (Az R)))=q5C (done++[R]) n:=by
 have vt:(Az R).take R.length=Az R:=E5
 unfold q5C
 simp [Bi,frz1,frz0,Aj,A4,vt,Function.comp_def]
theorem qJG {Q:AX→St→Prop} (addr data:Sl Int) (ha:addr.l.length≤1000000) (hv:∀ v ∈ addr.l,0≤v) (hd:data.l.length≤1000000) (en:Int) (words:Sl (Sl Int)) (hl:words.l.length≤1000000) (hw:∀ w ∈ words.l,w.l.length≤1000000) (R:List (List Int)) (hRl:R.length=words.l.length)
  (h0:Q (.exit 0) ⟨[(1,.t (tV addr)),(2,.t (tV data)),(3,.t (tK en)),(9,.t (tB (q7V addr.l en))),(10,.lb 25 words.l.length),(26,.t (tW words)),(27,.t (tI words.l.length)),(28,.t (tI words.l.length)),(29,.t (tB false))],[(25,.bx (q5C R words.l.length))]⟩) :
  ∀ (k:Nat) (done:List (List Int)),k+done.length=words.l.length→done++Gs addr.l data.l en done.length ((words.l.drop done.length).map (·.l))=R →
  run Tryz.prog Γ Jn Q ⟨[(1,.t (tV addr)),(2,.t (tV data)),(3,.t (tK en)),(9,.t (tB (q7V addr.l en))),(10,.lb 25 words.l.length),(26,.t (tW words)),(27,.t (tI words.l.length)),(28,.t (tI done.length))],[(25,.bx (q5C done words.l.length))]⟩
 | 0,done,h,hR=>by
  refine Rb fun K hK=>?_
  have h2:done.length=words.l.length:=by omega
  rw [List.drop_of_length_le (by omega)] at hR
  simp only [List.map_nil,Gs,List.append_nil] at hR
  subst hR
  simp [h2]
  simpa using h0
 | k+1,done,h,hR=>by
  refine Rb fun K hK=>?_
  have h2:done.length<words.l.length:=by omega
  rw [List.drop_eq_getElem_cons h2,List.map_cons] at hR
  simp only [Gs] at hR
  have e1:=gE (f:=tV) Sl.z h2
  have e1':=gE' (f:=tV) Sl.z h2
  have hwi:=hw _ (List.getElem_mem h2)
  rw [show words.l.getD done.length Sl.z=words.l[done.length] by simp [List.getD_eq_getElem?_getD,h2]] at e1 e1'
  have hrow:(Vh done.length addr.l data.l en words.l[done.length].l words.l[done.length].l.length 0).length=words.l[done.length].l.length:=q1l
  have hget:=fun b (hb:b<words.l[done.length].l.length)=>q5B (i:=done.length) (addr:=addr.l) (data:=data.l) (en:=en) (w:=words.l[done.length].l) (b:=0) hb
  simp only [Nat.zero_add] at hget
  have ih:=qJG addr data ha hv hd en words hl hw R hRl h0 k (done++[Vh done.length addr.l data.l en words.l[done.length].l words.l[done.length].l.length 0]) (by simp; omega) (by rw [← hR]; simp)
  generalize words.l[done.length]=w at *
  generalize Vh done.length addr.l data.l en w.l w.l.length 0=row at *
  have hcl:=qHA (done:=done) (n:=words.l.length) (by omega)
  have hput:=qHB h2 (.ls 37 0 w.l.length none)
  have hfz:=qHC h2 row 71
  rw [hrow] at hfz
  have g:=fun Q cells hc1 hc2 h0=>qJF (Γ:=Γ) (Q:=Q) addr data ha hv hd en (tW words) words.l.length done.length h2 hl w hwi cells hc1 hc2 row hrow hget h0 w.l.length 0 w.l (by omega) (by simp)
  generalize hC0:q5C done words.l.length=C0 at *
  generalize hC1:(done.map fun r=>T.sl (Az r) none none).map AV.t++[AV.ls 37 0 w.l.length none]++List.replicate (words.l.length - (done.length+1)) (AV.t (T.sl [] (some 0) (some true)))=C1 at *
  have hc1:done.length+1≤C1.length:=by rw [← hC1]; simp
  have hc2:(C1.drop done.length).take 1=[.ls 37 0 w.l.length none]:=by
   rw [← hC1,List.append_assoc,List.drop_append,List.drop_of_length_le (by simp)]
   simp
  have g:=fun Q h0=>g Q C1 hc1 hc2 h0
  have w1:=B8 (i:=done.length) (by omega)
  have hz:List.replicate w.l.length [T.v (Value.int .u8 0)]=Az (List.replicate w.l.length 0):=by simp [Af]
  have hcp:(Az w.l).take w.l.length=Az w.l:=E5
  have hdl:(Az (List.replicate w.l.length (0:Int))).drop w.l.length=[]:=by rw [List.drop_of_length_le (by simp [Af])]
  have hii:(done.length:Int)<words.l.length:=by omega
  simp [tW] at ih g
  simp only [tV] at e1 e1' g ih
  rw [List.append_assoc,List.singleton_append] at hput
  simp [tV,tW,A0,A8,h2,e1,e1']
  simp [hz,A0,A8,h2,hii,hcl,hput,hc1,hc2,hcp,hdl]
  refine ⟨by omega,by omega,by omega,g _ ?_⟩
  simp [w1,St.freeze,Bc.closed,Bi,frz1,frz0,Dq,del,hfz]
  rw [hK]
  simpa using ih
theorem qCR (v:Int):A6 Tryz.prog Γ 165 [tK v] (tB (!N2 v)):=by
 refine Ab q36 rfl ?_
 simp [Vz]
 refine A3 (Sv v) rfl ?_
 simp [W0]
def qEb (R:List (List Int)):T:=.sl ((R.map fun r=>T.sl (Az r) none none).map fun t=>[t]) (some R.length) none
theorem q5D {addr data:List Int} {en:Int}:∀ {ws:List (List Int)} {i:Nat},(Gs addr data en i ws).length=ws.length
 | [],_=>rfl
 | w::ws,i=>by simp [Gs,q5D]
theorem qDm (words:Sl (Sl Int)) (hl:words.l.length≤1000000) (hw:∀ w ∈ words.l,w.l.length≤1000000) (addr data:Sl Int) (ha:addr.l.length≤1000000) (hv:∀ v ∈ addr.l,0≤v) (hd:data.l.length≤1000000) (en:Int) :
  Ae Tryz.prog Γ 92 [tW words,tV addr,tV data,tK en] (qEb (Gs addr.l data.l en 0 (words.l.map (·.l)))):=by
 refine B1 q55 rfl ?_
 have hcf:=Dx (Γ:=Γ) addr.l addr.cap addr.nl 165 [] (fun v=>!N2 v) (fun x _=>qCR x) (by omega)
 have hRl:(Gs addr.l data.l en 0 (words.l.map (·.l))).length=words.l.length:=by rw [q5D,List.length_map]
 have g:=fun Q h0=>qJG (Γ:=Γ) (Q:=Q) addr data ha hv hd en words hl hw (Gs addr.l data.l en 0 (words.l.map (·.l))) hRl h0 words.l.length [] (by simp) (by simp)
 have hsu:q7V addr.l en=if en=1 then !addr.l.any (fun v=>!N2 v) else false:=by
  unfold q7V
  by_cases h:en=1 <;> simp [h]
 have hall:=qCQ (hp:=[(25,Bc.bx (q5C (Gs addr.l data.l en 0 (words.l.map (·.l))) words.l.length))]) (k:=3) ((Gs addr.l data.l en 0 (words.l.map (·.l))).map fun r=>T.sl (Az r) none none)
 have hst:q5C (Gs addr.l data.l en 0 (words.l.map (·.l))) words.l.length=((Gs addr.l data.l en 0 (words.l.map (·.l))).map fun r=>T.sl (Az r) none none).map AV.t:=by
  unfold q5C
  rw [hRl,Nat.sub_self]
  simp
 have h0:q5C [] words.l.length=List.replicate words.l.length (AV.t (T.sl [] (some 0) (some true))):=by simp [q5C]
 rw [h0] at g
 rw [hst] at g hall
 generalize Gs addr.l data.l en 0 (words.l.map (·.l))=R at *
 have hT:qEb R=.sl ((R.map fun r=>T.sl (Az r) none none).map fun t=>[t]) (some words.l.length) none:=by rw [← hRl]; rfl
 rw [hT]
 generalize (R.map fun r=>T.sl (Az r) none none)=RT at *
 rw [List.map_map] at hall
 simp [tW,tV] at g
 by_cases he:en=1
 ·rw [if_pos he] at hsu
  simp [Qd,tW,tV,he]
  refine A3 hcf rfl ?_
  rw [hsu,he] at g
  simp [A0]
  refine ⟨by omega,g _ ?_⟩
  simp [Qe,Aj,hall]
 ·rw [if_neg he] at hsu
  rw [hsu] at g
  simp [Qd,tW,tV,he,A0]
  refine ⟨by omega,g _ ?_⟩
  simp [Qe,Aj,hall]
def Sm (B:Nat) (t:T3):Prop:=(0≤t.a∧t.a≤B)∧(0≤t.b∧t.b≤B)∧(0≤t.d∧t.d≤B)
theorem Sm.mono {B C:Nat} (hBC:B≤C) {t:T3} (h:Sm B t):Sm C t:=by
 obtain ⟨⟨a0,a1⟩,⟨b0,b1⟩,⟨d0,d1⟩⟩:=h
 exact ⟨⟨a0,by omega⟩,⟨b0,by omega⟩,⟨d0,by omega⟩⟩
theorem qEc {c:B7} {n:Int} (h0:0≤n) (h:n<c.nodes.l.length):∀ h':n.toNat<(Ao Bt c.nodes.l).length,(Ao Bt c.nodes.l)[n.toNat]'h'=Bt (nd c n):=fun h'=>by
 have:=qDc h0 h
 rw [List.getElem?_eq_getElem h'] at this
 simpa using this
structure K3 where
 dff:Sl Int
 words:Sl (Sl (Sl Int))
 read:Sl (Sl Int)
def N7 (s:Sl (Sl (Sl Int))):T:=.sl (Af tW s.l) s.cap s.nl
def Bg (s:K3):List T:=[tV s.dff,N7 s.words,tW s.read]
def K3.rd (s:K3):List (List Int):=s.read.l.map (·.l)
def K3.ws (s:K3):List (List (List Int)):=s.words.l.map fun w=>w.l.map (·.l)
def Sl.zz:Sl (Sl Int):=⟨[],none,none⟩
def Bl (nets:List Int) (l:List Int):List Int:=l.map fun k=>nets.getD k.toNat 0
theorem qJH {Q:AX→St→Prop} (c:B7) (nets:Sl Int) (hn:nets.l.length≤1000000) (l:Sl Int) (hl:l.l.length≤1000000) (hin:∀ k ∈ l.l,0≤k∧k<nets.l.length) (R:List Int)
  (h0:R.length=l.l.length→Q (.exit 0) ⟨[(2,.t (.ip (N3 c nets) 0)),(5,.ls 10 0 l.l.length none),(11,.t (B5 l)),(12,.t (tI l.l.length)),(13,.t (tI l.l.length)),(14,.t (tB false))],[(10,.sl 71 1 (Az R))]⟩) :
  ∀ (k i:Nat) (out:List Int),k+i=l.l.length→out.length=i→out++Bl nets.l (l.l.drop i)=R →
  run Tryz.prog Γ E2 Q ⟨[(2,.t (.ip (N3 c nets) 0)),(5,.ls 10 0 i none),(11,.t (B5 l)),(12,.t (tI l.l.length)),(13,.t (tI i))],[(10,.sl 71 1 (Az out))]⟩
 | 0,i,out,h,ho,hR=>by
  refine Hz fun K hK=>?_
  have h2:i=l.l.length:=by omega
  subst h2
  rw [List.drop_length] at hR
  simp only [Bl,List.map_nil,List.append_nil] at hR
  subst hR
  have:=h0 ho
  simp [B5] at this
  simp [B5]
  simpa using this
 | k+1,i,out,h,ho,hR=>by
  refine Hz fun K hK=>?_
  have h2:i<l.l.length:=by omega
  rw [List.drop_eq_getElem_cons h2] at hR
  simp only [Bl,List.map_cons] at hR
  have e1:=gE (f:=tI) 0 h2
  have e1':=gE' (f:=tI) 0 h2
  obtain ⟨q0,q1⟩:=hin _ (List.getElem_mem h2)
  rw [D8 h2] at e1 e1'
  generalize l.l[i]=q at *
  have h3:q.toNat<nets.l.length:=by omega
  have e2:=gE (f:=tK) 0 h3
  have e2':=gE' (f:=tK) 0 h3
  have ih:=qJH c nets hn l hl hin R h0 k (i+1) (out++[nets.l.getD q.toNat 0]) (by omega) (by simp [ho]) (by rw [← hR]; simp [Bl])
  generalize nets.l.getD q.toNat 0=v at *
  have vs:=q0r (l:=out) (v:=v)
  have vt:(Az out).take i=Az out:=by rw [← ho]; exact E5
  have w1:=B8 (i:=i) (by omega)
  simp [N3,A7,A9,Ac,B5,tV] at ih
  simp [N3,A7,A9,Ac,B5,tV,A0,A8,h2,e1,e1',q0,q1,h3,e2,e2',vt,vs,ho,w1]
  refine ⟨by omega,?_⟩
  rw [hK]
  simpa using ih
theorem q1m (c:B7) (nets:Sl Int) (hn:nets.l.length≤1000000) (l:Sl Int) (hl:l.l.length≤1000000) (hin:∀ k ∈ l.l,0≤k∧k<nets.l.length) :
  A6 Tryz.prog Γ 87 [.agg (N3 c nets),B5 l] (tV ⟨Bl nets.l l.l,none,none⟩):=by
 refine Ab Ws rfl ?_
 have g:=fun Q h0=>qJH (Γ:=Γ) (Q:=Q) c nets hn l hl hin (Bl nets.l l.l) h0 l.l.length 0 [] (by omega) rfl (by simp)
 generalize Bl nets.l l.l=R at *
 simp [N3,A7,A9,Ac,B5,tV,By] at g
 simp [Kv,N3,A7,A9,Ac,B5,tV,A0]
 refine ⟨by omega,g _ fun hR=>?_⟩
 have vt:(Az R).take l.l.length=Az R:=by rw [← hR]; exact E5
 simp [Kw,Aj,vt]
theorem qJI {Q:AX→St→Prop} (c:B7) (s:K3) (inn:Sl Int) (ns:List Int) (cap:Option Nat) (n:Nat) (hn:n≤1000000) (hns:ns.length≤n) (hin:∀ x ∈ ns,0≤x∧x<n) (hp:inn.l.length=ns.length) (R:List Int)
  (h0:Q (.exit 0) ⟨[(2,.t (tV inn)),(3,.lp 3 0 0),(4,.t (.ip (Bg s) 0)),(14,.t (.sl (Ax ns) (some ns.length) none)),(15,.t (tI ns.length)),(16,.t (tI ns.length)),(17,.t (tB false))],[(3,.bx (Yo c 1000000 n cap)),(1000000,.sl 71 1 (Az R))]⟩) :
  ∀ (k i:Nat) (l:List Int),k+i=ns.length→l.length=n→Hy (ns.drop i) (inn.l.drop i) l=R →
  run Tryz.prog Γ Ee Q ⟨[(2,.t (tV inn)),(3,.lp 3 0 0),(4,.t (.ip (Bg s) 0)),(14,.t (.sl (Ax ns) (some ns.length) none)),(15,.t (tI ns.length)),(16,.t (tI i))],[(3,.bx (Yo c 1000000 n cap)),(1000000,.sl 71 1 (Az l))]⟩
 | 0,i,l,h,hl,hR=>by
  refine Iz fun K hK=>?_
  have h2:i=ns.length:=by omega
  subst h2
  rw [List.drop_length] at hR
  simp only [Hy] at hR
  subst hR
  simp
  exact h0
 | k+1,i,l,h,hl,hR=>by
  refine Iz fun K hK=>?_
  have h2:i<ns.length:=by omega
  have h3:i<inn.l.length:=by omega
  rw [q91 h2 h3] at hR
  have ih:=qJI c s inn ns cap n hn hns hin hp R h0 k (i+1) _ (by omega) (by simp [hl]) hR
  have e1:=gE (f:=tI) 0 h2
  have e1':=gE' (f:=tI) 0 h2
  have e2:=gE (f:=tK) 0 h3
  have e2':=gE' (f:=tK) 0 h3
  obtain ⟨hx0,hx1⟩:=hin (ns.getD i 0) (by rw [D8 h2]; exact List.getElem_mem h2)
  have hs:∀ (j:Nat) (v:Int),(Az l).set j [tK v]=Az (l.set j v):=fun j v=>Ir
  generalize ns.getD i 0=x at *
  generalize inn.l.getD i 0=v at *
  have hx2:x.toNat<n:=by omega
  have w1:=B8 (i:=i) (by omega)
  simp [Yo,tV] at ih
  simp [h2,h3,A0,A8,e1,e1',e2,e2',hx0,hx1,hx2,hl,Yo,tV,hs,hp,w1]
  rw [hK]
  simpa using ih
theorem qJJ {Q:AX→St→Prop} (c:B7) (s:K3) (ns:List Int) (cap:Option Nat) (n:Nat) (hn:n≤1000000) (hns:ns.length≤n) (hin:∀ x ∈ ns,0≤x∧x<n) (hp:s.dff.l.length=ns.length) (R:List Int)
  (h0:Q (.exit 2) ⟨[(3,.lp 3 0 0),(4,.t (.ip (Bg s) 0)),(32,.t (.sl (Ax ns) (some ns.length) none)),(33,.t (tI ns.length)),(34,.t (tI ns.length)),(35,.t (tB false))],[(3,.bx (Yo c 1000000 n cap)),(1000000,.sl 71 1 (Az R))]⟩) :
  ∀ (k i:Nat) (l:List Int),k+i=ns.length→l.length=n→Hy (ns.drop i) (s.dff.l.drop i) l=R →
  run Tryz.prog Γ Ef Q ⟨[(3,.lp 3 0 0),(4,.t (.ip (Bg s) 0)),(32,.t (.sl (Ax ns) (some ns.length) none)),(33,.t (tI ns.length)),(34,.t (tI i))],[(3,.bx (Yo c 1000000 n cap)),(1000000,.sl 71 1 (Az l))]⟩
 | 0,i,l,h,hl,hR=>by
  refine J0 fun K hK=>?_
  have h2:i=ns.length:=by omega
  subst h2
  rw [List.drop_length] at hR
  simp only [Hy] at hR
  subst hR
  simp
  exact h0
 | k+1,i,l,h,hl,hR=>by
  refine J0 fun K hK=>?_
  have h2:i<ns.length:=by omega
  have h3:i<s.dff.l.length:=by omega
  rw [q91 h2 h3] at hR
  have ih:=qJJ c s ns cap n hn hns hin hp R h0 k (i+1) _ (by omega) (by simp [hl]) hR
  have e1:=gE (f:=tI) 0 h2
  have e1':=gE' (f:=tI) 0 h2
  have e2:=gE (f:=tK) 0 h3
  have e2':=gE' (f:=tK) 0 h3
  obtain ⟨hx0,hx1⟩:=hin (ns.getD i 0) (by rw [D8 h2]; exact List.getElem_mem h2)
  have hs:∀ (j:Nat) (v:Int),(Az l).set j [tK v]=Az (l.set j v):=fun j v=>Ir
  generalize ns.getD i 0=x at *
  generalize s.dff.l.getD i 0=v at *
  have hx2:x.toNat<n:=by omega
  have w1:=B8 (i:=i) (by omega)
  simp [Yo,tV,Bg] at ih
  simp [h2,h3,A0,A8,e1,e1',e2,e2',hx0,hx1,hx2,hl,Yo,tV,Bg,hs,hp,w1]
  rw [hK]
  simpa using ih
theorem qJK {Q:AX→St→Prop} (c:B7) (s:K3) (ns:List Int) (cap:Option Nat) (hn:c.nodes.l.length≤1000000) (hns:ns.length≤c.nodes.l.length) (hin:∀ x ∈ ns,0≤x∧x<c.nodes.l.length)
  (hm:∀ x ∈ ns,0≤(nd c x).mem∧(nd c x).mem<s.read.l.length∧0≤(nd c x).bit∧(nd c x).bit<(s.read.l.getD (nd c x).mem.toNat Sl.z).l.length) (R:List Int)
  (h0:Q (.exit 4) ⟨[(3,.lp 3 0 0),(4,.t (.ip (Bg s) 0)),(52,.t (.sl (Ax ns) (some ns.length) none)),(53,.t (tI ns.length)),(54,.t (tI ns.length)),(55,.t (tB false))],[(3,.bx (Yo c 1000000 c.nodes.l.length cap)),(1000000,.sl 71 1 (Az R))]⟩) :
  ∀ (k i:Nat) (l:List Int),k+i=ns.length→l.length=c.nodes.l.length→Hy (ns.drop i) ((ns.drop i).map fun n=>(s.read.l.getD (nd c n).mem.toNat Sl.z).l.getD (nd c n).bit.toNat 0) l=R →
  run Tryz.prog Γ Eg Q ⟨[(3,.lp 3 0 0),(4,.t (.ip (Bg s) 0)),(52,.t (.sl (Ax ns) (some ns.length) none)),(53,.t (tI ns.length)),(54,.t (tI i))],[(3,.bx (Yo c 1000000 c.nodes.l.length cap)),(1000000,.sl 71 1 (Az l))]⟩
 | 0,i,l,h,hl,hR=>by
  refine J1 fun K hK=>?_
  have h2:i=ns.length:=by omega
  subst h2
  rw [List.drop_length] at hR
  simp only [Hy] at hR
  subst hR
  simp
  exact h0
 | k+1,i,l,h,hl,hR=>by
  refine J1 fun K hK=>?_
  have h2:i<ns.length:=by omega
  rw [List.drop_eq_getElem_cons h2,List.map_cons] at hR
  simp only [Hy] at hR
  have e1:=gE (f:=tI) 0 h2
  have e1':=gE' (f:=tI) 0 h2
  have hxm:=List.getElem_mem h2
  rw [D8 h2] at e1 e1'
  generalize ns[i]=x at *
  obtain ⟨hx0,hx1⟩:=hin x hxm
  obtain ⟨m0,m1,b0,b1⟩:=hm x hxm
  have ih:=qJK c s ns cap hn hns hin hm R h0 k (i+1) _ (by omega) (by rw [List.length_set]; exact hl) hR
  have hget:=qDc hx0 hx1
  have hget':=qEc hx0 hx1
  generalize nd c x=y at *
  have hm2:y.mem.toNat<s.read.l.length:=by omega
  have e2:=gE (f:=tV) Sl.z hm2
  have e2':=gE' (f:=tV) Sl.z hm2
  generalize s.read.l.getD y.mem.toNat Sl.z=row at *
  have hb2:y.bit.toNat<row.l.length:=by omega
  have e3:=gE (f:=tK) 0 hb2
  have e3':=gE' (f:=tK) 0 hb2
  generalize row.l.getD y.bit.toNat 0=v at *
  have hs:∀ (j:Nat) (v:Int),(Az l).set j [tK v]=Az (l.set j v):=fun j v=>Ir
  have hx2:x.toNat<c.nodes.l.length:=by omega
  have w1:=B8 (i:=i) (by omega)
  simp only [tV] at e2 e2'
  simp [Yo,Bg,tW] at ih
  simp [h2,A0,A8,Aa,Aq,e1,e1',e2,e2',e3,e3',hx0,hx1,hx2,hl,Yo,Bg,tW,A7,Bt,hget,hget',m0,m1,hm2,b0,b1,hb2,hs,w1]
  rw [hK]
  simpa [A7] using ih
theorem qIc (c:B7) (hc:COk c) (s:K3) (inn:Sl Int) (cap:Option Nat) (l:List Int) (hl:l.length=c.nodes.l.length) (hn:c.nodes.l.length≤1000000) (h1:inn.l.length=(Da c).length) (h2:s.dff.l.length=(Ag c).length)
  (hm:∀ x ∈ mems c,0≤(nd c x).mem∧(nd c x).mem<s.read.l.length∧0≤(nd c x).bit∧(nd c x).bit<(s.read.l.getD (nd c x).mem.toNat Sl.z).l.length) (hz:l=List.replicate c.nodes.l.length 0) :
  F9 Tryz.prog Γ 84 [(1000000,.sl 71 1 (Az l))] [.ag (Yo c 1000000 c.nodes.l.length cap),.t (.agg (Bg s)),.t (tV inn)] (.t (.tup [])) [(1000000,.sl 71 1 (Az (q0x c inn.l s.dff.l s.rd)))]:=by
 refine Ht Yp rfl ?_
 have hmv:qB8 c s.rd=(mems c).map fun n=>(s.read.l.getD (nd c n).mem.toNat Sl.z).l.getD (nd c n).bit.toNat 0:=by
  unfold qB8
  refine List.map_congr_left fun x hx=>?_
  obtain ⟨m0,m1,_,_⟩:=hm x hx
  have:(nd c x).mem.toNat<s.read.l.length:=by omega
  simp [K3.rd,List.getD_eq_getElem?_getD,this]
 have hL:q0x c inn.l s.dff.l s.rd=Hy (mems c) ((mems c).map fun n=>(s.read.l.getD (nd c n).mem.toNat Sl.z).l.getD (nd c n).bit.toNat 0) (Hy (Ag c) s.dff.l (Hy (Da c) inn.l l)):=by
  unfold q0x qEX
  rw [hmv,hz]
 have g1:=fun Q h0=>qJI (Γ:=Γ) (Q:=Q) c s inn (Da c) cap c.nodes.l.length hn (Sz c) (fun x hx=>⟨(q0K x hx).1,(q0K x hx).2.1⟩) h1 _ h0 (Da c).length 0 l (by omega) hl rfl
 have g2:=fun Q h0=>qJJ (Γ:=Γ) (Q:=Q) c s (Ag c) cap c.nodes.l.length hn (C5 c) (fun x hx=>⟨(q0K x hx).1,(q0K x hx).2.1⟩) h2 _ h0 (Ag c).length 0 (Hy (Da c) inn.l l) (by omega) (by rw [Sj]; exact hl) rfl
 have g3:=fun Q h0=>qJK (Γ:=Γ) (Q:=Q) c s (mems c) cap hn (q1W _ _ _) (fun x hx=>⟨(q0K x hx).1,(q0K x hx).2.1⟩) hm (q0x c inn.l s.dff.l s.rd) h0 (mems c).length 0 (Hy (Ag c) s.dff.l (Hy (Da c) inn.l l)) (by omega) (by rw [Sj,Sj]; exact hl) (by rw [hL,List.drop_zero])
 simp only [List.drop_zero] at g1 g2
 have e3:=qAz (Γ:=Γ) c hc 15
 have hmm:ofL [15] c.nodes.l 0=mems c:=rfl
 rw [hmm] at e3
 generalize q0x c inn.l s.dff.l s.rd=RR at *
 generalize Hy (Ag c) s.dff.l (Hy (Da c) inn.l l)=R2 at *
 generalize Hy (Da c) inn.l l=R1 at *
 simp [Yo,Bg,tV,tW,N7,A7,A9,Ac,B5] at g1 g2 g3
 simp [Nq,Yo,Bg,tV,tW,N7,A7,A9,Ac,B5]
 refine Ad (Uf c hc) rfl ?_
 simp [A0]
 refine g1 _ ?_
 simp
 refine Ad (Ek c hc) rfl ?_
 simp [A0]
 refine g2 _ ?_
 simp
 refine A3 e3 rfl ?_
 simp [A0]
 refine g3 _ ?_
 simp [Nr]
structure J2 (c:B7) (s:K3):Prop where
 d:s.dff.l.length=(Ag c).length
 w:s.words.l.length=c.mems.l.length
 r:s.read.l.length=c.mems.l.length
 wl:∀ i,i<c.mems.l.length→(s.words.l.getD i Sl.zz).l.length=2 ^ (c.mems.l.getD i Mm.d).addr.l.length
 wr:∀ i,i<c.mems.l.length→∀ w ∈ (s.words.l.getD i Sl.zz).l,w.l.length=(c.mems.l.getD i Mm.d).data.l.length
 rl:∀ i,i<c.mems.l.length→(s.read.l.getD i Sl.z).l.length=(c.mems.l.getD i Mm.d).data.l.length
 vd:∀ v ∈ s.dff.l,0≤v∧v≤2
 vw:∀ w ∈ s.words.l,∀ r ∈ w.l,∀ v ∈ r.l,0≤v∧v≤2
 vr:∀ r ∈ s.read.l,∀ v ∈ r.l,0≤v∧v≤2
theorem qFk {c:B7} (h:Ci c=0):∀ m ∈ c.mems.l,(1≤m.addr.l.length∧m.addr.l.length≤8)∧(1≤m.data.l.length∧m.data.l.length≤32)∧(∀ n ∈ m.addr.l,0≤n∧n<c.nodes.l.length)∧(∀ n ∈ m.data.l,0≤n∧n<c.nodes.l.length)∧0≤m.write∧m.write<c.nodes.l.length:=by
 unfold Ci at h
 split at h
 ·cases h
 split at h
 ·cases h
 split at h
 ·rename_i h2; exact absurd h h2
 split at h
 ·rename_i h2; exact absurd h h2
 split at h
 ·rename_i h2; exact absurd h h2
 rename_i h2
 intro m hm
 have h3:=q0I (by simpa using h2) m hm
 unfold Ob at h3
 split at h3
 ·cases h3
 rename_i h4
 split at h3
 ·cases h3
 rename_i h5
 simp only [not_or,Bool.not_eq_true] at h4 h5
 obtain ⟨a1,a2⟩:=h4
 obtain ⟨a3,a4,a5⟩:=h5
 simp [Va] at a1 a2
 simp [N1] at a5
 refine ⟨⟨by have:=List.length_pos_iff.2 a1.1; omega,by omega⟩,⟨by have:=List.length_pos_iff.2 a2.1; omega,by omega⟩,q1V a3,q1V a4,a5.1,a5.2⟩
theorem qCS {hp:List (Nat × Bc)} {f:FuncId} {K:T→Prop} {cs:List T} {t res:T} (h:Ae Tryz.prog Γ f (t::cs) res∨A6 Tryz.prog Γ f (t::cs) res) (hk:K res):q5d Tryz.prog Γ hp f (.t t::cs.map .t) K ⟨⟩:=by
 rcases h with h | h
 ·exact Ad h (by simp only [List.map_cons,List.map_map,Function.comp_def,Ai,toT]; rw [Z1]; rfl) hk
 ·exact Xq h hk
theorem qEd {Q:AX→St→Prop} (l:List (Sl Int)) (c:Option Nat) (nl:Option Bool) (f:FuncId) (cs:List T) (hp:∀ x ∈ l,Ae Tryz.prog Γ f (tV x::cs) (tB false)∨A6 Tryz.prog Γ f (tV x::cs) (tB false)) (hl:l.length≤1000000)
  (h0:Q (.exit 0) ⟨[(0,.t (.sl (Af tV l) c nl)),(1,.t (.fn f cs)),(7,.t (tI l.length)),(8,.t (tI l.length)),(9,.t (tB false))],[]⟩):∀ (k i:Nat),k+i=l.length →
  run Tryz.prog Γ Db Q ⟨[(0,.t (.sl (Af tV l) c nl)),(1,.t (.fn f cs)),(7,.t (tI l.length)),(8,.t (tI i))],[]⟩
 | 0,i,h=>by
  refine G9 fun K hK=>?_
  have h2:i=l.length:=by omega
  subst h2
  simp
  simpa using h0
 | k+1,i,h=>by
  refine G9 fun K hK=>?_
  have h2:i<l.length:=by omega
  have ih:=qEd l c nl f cs hp hl h0 k (i+1) (by omega)
  have e1:=gE (f:=tV) Sl.z h2
  have e1':=gE' (f:=tV) Sl.z h2
  rw [show l.getD i Sl.z=l[i] by simp [List.getD_eq_getElem?_getD,h2]] at e1 e1'
  have hq:=hp _ (List.getElem_mem h2)
  generalize l[i]=x at *
  have w1:=B8 (i:=i) (by omega)
  simp [A0,A8,h2,e1,e1']
  refine qCS hq ?_
  simp [w1]
  rw [hK]
  simpa using ih
theorem q3a (l:List (Sl Int)) (c:Option Nat) (nl:Option Bool) (f:FuncId) (cs:List T) (hp:∀ x ∈ l,Ae Tryz.prog Γ f (tV x::cs) (tB false)∨A6 Tryz.prog Γ f (tV x::cs) (tB false)) (hl:l.length≤1000000):A6 Tryz.prog Γ 103 [.sl (Af tV l) c nl,.fn f cs] (tB false):=by
 have hi:A6 Tryz.prog Γ 172 [.sl (Af tV l) c nl,.fn f cs] (tI (-1)):=by
  refine Ab Qo rfl ?_
  have g:=fun Q h0=>qEd (Γ:=Γ) (Q:=Q) l c nl f cs hp hl h0 l.length 0 (by omega)
  simp at g
  simp [I1,A0]
  refine g _ ?_
  simp [I2]
 refine Ab Ol rfl ?_
 simp [Gm]
 refine A3 hi rfl ?_
 simp [Gn]
theorem q9C (l:Sl Int) (m:Mm):A6 Tryz.prog Γ 210 [tV l,.ip (tMm m) 0] (tB (decide (¬ (l.l.length:Int)=m.data.l.length))):=by
 refine Ab q3s rfl ?_
 simp [Y3,tV,tMm,B5,A0,Y4]
theorem qMN {n:Nat} (h:n≤8):IntKind.i64.wrap (2 ^ min n IntKind.i64.bits)=((2 ^ n:Nat):Int):=by
 have e:min n IntKind.i64.bits=n:=by
  have:IntKind.i64.bits=64:=rfl
  rw [this]
  exact Nat.min_eq_left (by omega)
 rw [e]
 have h2:2 ^ n≤2 ^ 8:=Nat.pow_le_pow_right (by omega) h
 have h3:(2:Int) ^ n=((2 ^ n:Nat):Int):=by simp
 rw [h3]
 generalize 2 ^ n=q at *
 exact A5 (by omega) (by omega)
theorem qCT {Q:AX→St→Prop} (c:B7) (hcm:c.mems.l.length≤16) (hma:∀ m ∈ c.mems.l,m.addr.l.length≤8) (s:K3) (H:J2 c s)
  (h0:Q (.exit 0) ⟨[(3,.t (.ip (Bg s) 0)),(34,.t (Ac c.mems)),(35,.t (tI c.mems.l.length)),(36,.t (tI c.mems.l.length)),(37,.t (tB false))],[]⟩):∀ (k i:Nat),k+i=c.mems.l.length →
  run Tryz.prog Γ Le Q ⟨[(3,.t (.ip (Bg s) 0)),(34,.t (Ac c.mems)),(35,.t (tI c.mems.l.length)),(36,.t (tI i))],[]⟩
 | 0,i,h=>by
  refine Uk fun K hK=>?_
  have h2:i=c.mems.l.length:=by omega
  subst h2
  simp [Bg,Ac] at h0
  simp [Bg,Ac]
  simpa using h0
 | k+1,i,h=>by
  refine Uk fun K hK=>?_
  have h2:i<c.mems.l.length:=by omega
  have ih:=qCT c hcm hma s H h0 k (i+1) (by omega)
  have e1:(Ao tMm c.mems.l)[i]?.getD []=tMm (c.mems.l.getD i Mm.d):=by simp [Ao,h2]
  have e1':∀ h,(Ao tMm c.mems.l)[i]'h=tMm (c.mems.l.getD i Mm.d):=fun h=>by simp [Ao,h2]
  have ma:(c.mems.l.getD i Mm.d).addr.l.length≤8:=by
   rw [show c.mems.l.getD i Mm.d=c.mems.l[i] by simp [List.getD_eq_getElem?_getD,h2]]
   exact hma _ (List.getElem_mem h2)
  have h3:i<s.words.l.length:=by rw [H.w]; exact h2
  have h4:i<s.read.l.length:=by rw [H.r]; exact h2
  have e2:=gE (f:=tW) Sl.zz h3
  have e2':=gE' (f:=tW) Sl.zz h3
  have e3:=gE (f:=tV) Sl.z h4
  have e3':=gE' (f:=tV) Sl.z h4
  have wl:=H.wl i h2
  have wr:=H.wr i h2
  have rl:=H.rl i h2
  generalize s.words.l.getD i Sl.zz=W at *
  generalize s.read.l.getD i Sl.z=rd at *
  generalize c.mems.l.getD i Mm.d=m at *
  have sh:=qMN ma
  have hwl:(W.l.length:Int)=2 ^ m.addr.l.length:=by rw [wl]; simp
  have hWl:W.l.length≤256:=by rw [wl]; exact Nat.pow_le_pow_right (by omega) ma
  have f1:=q9C (Γ:=Γ) rd m
  have hrl:¬ (¬ (rd.l.length:Int)=m.data.l.length):=by omega
  rw [decide_eq_false hrl] at f1
  have f2:=q3a (Γ:=Γ) W.l W.cap W.nl 210 [.ip (tMm m) 0] (fun x hx=>by
   have:=q9C (Γ:=Γ) x m
   rw [decide_eq_false (by have:=wr x hx; omega)] at this
   exact .inr this) (by omega)
  have w1:=B8 (i:=i) (by omega)
  have h3':(i:Int)<s.words.l.length:=by omega
  have h4':(i:Int)<s.read.l.length:=by omega
  simp only [tV] at e3 e3' f1
  simp only [tW] at e2 e2'
  simp only [tMm,B5] at e1 e1' f1 f2
  simp [Bg,Ac,tW,N7] at ih
  simp [Bg,Ac,Z2,tW,N7,Aa,A0,A8,h2,e1,e1',e2,e2',e3,e3',h3,h4,sh,hwl]
  refine A3 f1 rfl ?_
  simp [h2,e1,e1',e2,e2',e3,e3',h3,h4,A0,A8]
  refine A3 f2 rfl ?_
  simp [w1]
  rw [hK]
  simpa using ih
theorem qDn (c:B7) (hc:COk c) (hcm:c.mems.l.length≤16) (hma:∀ m ∈ c.mems.l,m.addr.l.length≤8) (s:K3) (H:J2 c s):Ae Tryz.prog Γ 148 [.agg (tC c),.agg (Bg s)] (tB true):=by
 refine B1 q69 rfl ?_
 have g:=fun Q h0=>qCT (Γ:=Γ) (Q:=Q) c hcm hma s H h0 c.mems.l.length 0 (by omega)
 have es:=Ek (Γ:=Γ) c hc
 have h1:=H.d
 have h2:=H.w
 have h3:=H.r
 simp [Bg,tV,tW,N7,Ac] at g
 simp [tC,A7,A9,Ac,B5] at es
 simp [q0v,tC,A7,A9,Ac,B5,Bg,tV,tW,N7]
 refine Ad es rfl ?_
 simp [A0,Aa,h1,h2,h3]
 refine g _ ?_
 simp [q0w]
def Qh (s:K3):List (Sl Int):=s.dff::s.read.l++s.words.l.flatMap (·.l)
theorem qCU {Q:AX→St→Prop} (words:Sl (Sl (Sl Int))) (hl:words.l.length≤1000) (hw:∀ w ∈ words.l,w.l.length≤1000) (hw1:∀ w ∈ words.l,w.l ≠ []) (R:List (Sl Int))
  (h0:Q (.exit 0) ⟨[(3,.ls 11 0 R.length none),(13,.t (N7 words)),(14,.t (tI words.l.length)),(15,.t (tI words.l.length)),(16,.t (tB false))],[(11,.sl 55 1 (Af tV R))]⟩) :
  ∀ (k i:Nat) (out:List (Sl Int)),k+i=words.l.length→out.length≤2000+1000*i→out++(words.l.drop i).flatMap (·.l)=R →
  run Tryz.prog Γ Jo Q ⟨[(3,.ls 11 0 out.length none),(13,.t (N7 words)),(14,.t (tI words.l.length)),(15,.t (tI i))],[(11,.sl 55 1 (Af tV out))]⟩
 | 0,i,out,h,ho,hR=>by
  refine Re fun K hK=>?_
  have h2:i=words.l.length:=by omega
  subst h2
  rw [List.drop_length] at hR
  simp only [List.flatMap_nil,List.append_nil] at hR
  subst hR
  simp
  simpa using h0
 | k+1,i,out,h,ho,hR=>by
  refine Re fun K hK=>?_
  have h2:i<words.l.length:=by omega
  rw [List.drop_eq_getElem_cons h2,List.flatMap_cons] at hR
  have e1:=gE (f:=tW) Sl.zz h2
  have e1':=gE' (f:=tW) Sl.zz h2
  rw [show words.l.getD i Sl.zz=words.l[i] by simp [List.getD_eq_getElem?_getD,h2]] at e1 e1'
  have hwl:=hw _ (List.getElem_mem h2)
  have hwn:=hw1 _ (List.getElem_mem h2)
  generalize words.l[i]=w at *
  have ih:=qCU words hl hw hw1 R h0 k (i+1) (out++w.l) (by omega) (by simp; omega) (by rw [← hR]; simp)
  have w1:=B8 (i:=i) (by omega)
  have vt:(Af tV out).take out.length=Af tV out:=An
  have va:Af tV out++Af tV w.l=Af tV (out++w.l):=q5e
  simp only [tW] at e1 e1'
  simp [N7] at ih
  simp [N7,A0,A8,h2,e1,e1',vt,va,w1]
  refine ⟨by omega,?_⟩
  rw [hK]
  simpa using ih
theorem qDo (s:K3) (hl:s.words.l.length≤1000) (hr:s.read.l.length=s.words.l.length) (hw:∀ w ∈ s.words.l,w.l.length≤1000) (hw1:∀ w ∈ s.words.l,w.l ≠ []):Ae Tryz.prog Γ 149 [.agg (Bg s)] (.sl (Af tV (Qh s)) none none):=by
 have hwid:D5 1 [[T.sl (Az s.dff.l) s.dff.cap s.dff.nl]]:=by intro e he; simp at he; subst he; rfl
 by_cases h0:s.words.l=[]
 ·have h1:s.read.l=[]:=List.eq_nil_of_length_eq_zero (by rw [hr,h0]; rfl)
  refine B1 q3r rfl ?_
  simp [Y1,Bg,tV,tW,N7,h0,h1,By]
  refine q1g fun K hK=>?_
  simp [Y2,Qh,h0,h1,Af,tV]
 ·refine B1 q56 rfl ?_
  have g:=fun Q h0=>qCU (Γ:=Γ) (Q:=Q) s.words hl hw hw1 (Qh s) h0 s.words.l.length 0 (s.dff::s.read.l) (by omega) (by simp; omega) (by simp [Qh])
  have vt:(Af tV (Qh s)).take (Qh s).length=Af tV (Qh s):=An
  have hrn:¬ s.read.l=[]:=fun e=>by rw [e] at hr; exact h0 (List.eq_nil_of_length_eq_zero hr.symm)
  have hen:¬ Af tV s.read.l=[]:=fun e=>hrn (by have:=congrArg List.length e; rw [A0] at this; exact List.eq_nil_of_length_eq_zero this)
  have hcons:Af tV (s.dff::s.read.l)=[tV s.dff]::Af tV s.read.l:=rfl
  rw [hcons] at g
  generalize Qh s=R at *
  simp [tV,tW,N7] at g
  simp [Zj,Bg,tV,tW,N7,A0,A8,hen,hwid]
  rw [Nat.add_comm 1]
  refine ⟨by omega,g _ ?_⟩
  simp [Zk,Aj,vt]
theorem qAV (v m:Int):A6 Tryz.prog Γ 146 [tK v,.ip [tK m] 0] (tB (decide (v > m))):=by
 refine Ab q1h rfl ?_
 simp [Rf,Rh]
theorem qCV (m:Int):Ae Tryz.prog Γ 145 [tK m] (.fn 146 [.ip [tK m] 0]):=by
 refine B1 q38 rfl ?_
 simp [W3,W4,Aj,N8,q0Q,Ai]
theorem qHD (l:Sl Int) (hl:l.l.length≤1000000) (hv:∀ v ∈ l.l,v≤2):A6 Tryz.prog Γ 147 [tV l,.ip [.fn 145 []] 0] (tB false):=by
 refine Ab q39 rfl ?_
 have e:=Dx (Γ:=Γ) l.l l.cap l.nl 146 [.ip [tK 2] 0] (fun v=>decide (v > 2)) (fun x _=>qAV x 2) (by omega)
 have ha:l.l.any (fun v=>decide (v > 2))=false:=by
  rw [List.any_eq_false]
  intro v h
  have:=hv v h
  simp; omega
 rw [ha] at e
 simp [W5,tV]
 refine Ad (qCV 2) rfl ?_
 simp
 refine A3 e rfl ?_
 simp [W6]
structure MOk (c:B7):Prop where
 ok:COk c
 lev:Eb c=0
 n:c.nodes.l.length≤1000000
theorem MOk.cm {c:B7} (h:MOk c):c.mems.l.length≤16:=(Gy (Kt h.lev).1).2.2.2
theorem MOk.mf {c:B7} (h:MOk c):∀ m ∈ c.mems.l,(1≤m.addr.l.length∧m.addr.l.length≤8)∧(1≤m.data.l.length∧m.data.l.length≤32)∧(∀ n ∈ m.addr.l,0≤n∧n<c.nodes.l.length)∧(∀ n ∈ m.data.l,0≤n∧n<c.nodes.l.length)∧0≤m.write∧m.write<c.nodes.l.length:=qFk (Kt h.lev).1
theorem q3b {α:Type} {l:List α} {d:α} {i:Nat} (h:i<l.length):l.getD i d ∈ l:=by
 rw [show l.getD i d=l[i] by simp [List.getD_eq_getElem?_getD,h]]
 exact List.getElem_mem h
theorem J2.words {c:B7} {s:K3} (h:MOk c) (H:J2 c s):∀ w ∈ s.words.l,w.l.length≤256∧w.l ≠ []∧∀ r ∈ w.l,r.l.length≤32:=by
 intro w hw
 obtain ⟨i,hi,rfl⟩:=List.getElem_of_mem hw
 have hi':i<c.mems.l.length:=by rw [← H.w]; exact hi
 have e:s.words.l.getD i Sl.zz=s.words.l[i]:=by simp [List.getD_eq_getElem?_getD,hi]
 have h1:=H.wl i hi'
 have h2:=H.wr i hi'
 have h3:=h.mf _ (q3b (d:=Mm.d) hi')
 rw [e] at h1 h2
 have h4:2 ^ (c.mems.l.getD i Mm.d).addr.l.length≤2 ^ 8:=Nat.pow_le_pow_right (by omega) h3.1.2
 have h5:0<2 ^ (c.mems.l.getD i Mm.d).addr.l.length:=Nat.pow_pos (by omega)
 exact ⟨by omega,fun e=>by have:=congrArg List.length e; rw [h1,List.length_nil] at this; omega,fun r hr=>by rw [h2 r hr]; exact h3.2.1.2⟩
theorem J2.reads {c:B7} {s:K3} (h:MOk c) (H:J2 c s):∀ r ∈ s.read.l,r.l.length≤32:=by
 intro r hr
 obtain ⟨i,hi,rfl⟩:=List.getElem_of_mem hr
 have hi':i<c.mems.l.length:=by rw [← H.r]; exact hi
 have e:s.read.l.getD i Sl.z=s.read.l[i]:=by simp [List.getD_eq_getElem?_getD,hi]
 have h1:=H.rl i hi'
 have h3:=h.mf _ (q3b (d:=Mm.d) hi')
 rw [e] at h1
 rw [h1]; exact h3.2.1.2
theorem q7b (hΓ:GOk Γ) (c:B7) (h:MOk c) (s:K3) (H:J2 c s) (inn:Sl Int) (hi:inn.l.length=(Da c).length) (hv:∀ v ∈ inn.l,v≤3):Ae Tryz.prog Γ 82 [.agg (tC c),.agg (Bg s),tV inn] (tI 0):=by
 refine B1 q57 rfl ?_
 have e1:=q1Y hΓ c h.ok
 have e2:=Uf (Γ:=Γ) c h.ok
 have e3:=qDn (Γ:=Γ) c h.ok h.cm (fun m hm=>(h.mf m hm).1.2) s H
 have hcm:=h.cm
 have hsw:=H.w
 have hsr:=H.r
 have hsd:=H.d
 have hsl:=C5 c
 have hil:=Sz c
 have hn:=h.n
 have hW:=H.words h
 have hR:=H.reads h
 have e4:=qDo (Γ:=Γ) s (by omega) (by omega) (fun w hw=>by have:=(hW w hw).1; omega) (fun w hw=>(hW w hw).2.1)
 have hlen:(Qh s).length≤1000000:=by
  have:(s.words.l.flatMap (·.l)).length≤256*s.words.l.length:=by
   have key:∀ l:List (Sl (Sl Int)),(∀ w ∈ l,w.l.length≤256)→(l.flatMap (·.l)).length≤256*l.length:=by
    intro l
    induction l with
    | nil=>intro _; simp
    | cons w l ih =>
     intro hl
     have h1:=hl w List.mem_cons_self
     have h2:=ih fun x hx=>hl x (List.mem_cons_of_mem _ hx)
     simp only [List.flatMap_cons,List.length_append,List.length_cons]
     omega
   exact key _ fun w hw=>(hW w hw).1
  simp only [Qh,List.cons_append,List.length_cons,List.length_append]
  omega
 have hall:∀ r ∈ Qh s,r.l.length≤1000000∧∀ v ∈ r.l,v≤2:=by
  intro r hr
  simp only [Qh,List.cons_append,List.mem_cons,List.mem_append,List.mem_flatMap] at hr
  rcases hr with rfl | hr | ⟨w,hw,hr⟩
  ·exact ⟨by omega,fun v hv=>(H.vd v hv).2⟩
  ·exact ⟨by have:=hR r hr; omega,fun v hv=>(H.vr r hr v hv).2⟩
  ·exact ⟨by have:=(hW w hw).2.2 r hr; omega,fun v hv=>(H.vw w hw r hr v hv).2⟩
 have e5:=q3a (Γ:=Γ) (Qh s) none none 147 [.ip [.fn 145 []] 0] (fun x hx=>.inr (qHD x (hall x hx).1 (hall x hx).2)) hlen
 have e6:=Dx (Γ:=Γ) inn.l inn.cap inn.nl 146 [.ip [tK 3] 0] (fun v=>decide (v > 3)) (fun x _=>qAV x 3) (by omega)
 have ha:inn.l.any (fun v=>decide (v > 3))=false:=by
  rw [List.any_eq_false]
  intro v h
  have:=hv v h
  simp; omega
 rw [ha] at e6
 rw [h.lev] at e1
 generalize Qh s=L at *
 simp [tC,A7,A9,Ac,B5] at e1 e2 e3
 simp [Bg,tV,tW,N7] at e3 e4
 simp [Zl,tC,A7,A9,Ac,B5,Bg,tV,tW,N7]
 refine A3 e1 rfl ?_
 simp
 refine Ad e2 rfl ?_
 simp [A0,hi]
 refine Ad e3 rfl ?_
 simp
 refine Ad (qCV 3) rfl ?_
 simp
 refine A3 e6 rfl ?_
 simp
 refine Ad e4 rfl ?_
 simp
 refine A3 e5 rfl ?_
 simp [Zm]
end Go.Lg
