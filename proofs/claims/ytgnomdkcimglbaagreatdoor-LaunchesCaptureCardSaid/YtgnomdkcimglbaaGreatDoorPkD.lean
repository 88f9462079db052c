/- The abstract code of some functions, as the program gen.py prints it. Conditions: none. -/
import Derived.Test.YtgnomdkcimglbaaGreatDoorPkC
import Derived.Test.YtgnomdkcimglbaaGreatDoorProg
import Derived.KernelRfl
import Derived.Lib.Bytealg
set_option linter.unusedVariables false
namespace Go.Lg
open Go
section
variable {P : Program} {Γ : Tables} {Q : AX → St → Prop} {s : St}
/- probecard/probecardlaw36.LaunchesBefore (function 4) -/
abbrev Oa : IC := (.seq (.reg [od 1 (.box true (tm 0)), od 2 (.mv kF)] [kp [1] []]) (.seq (.reg [od 18 (fa 0 1), od 19 (lG 14 18), od 20 (.call 22 [(tm 19)]), om 17 20, od 21 (ex 17 0), od 22 (ex 17 1), od 3 (.alloc false [(.slice none 0 0), (.slice
 none 0 0), (.slice none 0 0), (.slice none 0 0)]), on (.store 4 (tm 3) (tm 21)), om 4 22] [kp [1, 3, 4] [3]]) (.seq (.reg [od 23 (fa 14 1), od 24 (lG 2 23), od 25 (lG 4 3), od 26 (.call 14 [(tm 24), (tm 25)]), od 27 (.call 26 [(tm
 26)]), od 5 (.alloc false [(.slice none 0 0), (.slice none 0 0)]), on (.store 2 (tm 5) (tm 27))] [kp [1, 3, 4, 5] [3, 5]]) (.seq (.reg [od 28 (fa 16 1), od 29 (lG 2 28), od 30 (lG 4 3), od 31 (.call 14 [(tm 29), (tm 30)]), od 32
 (.fld 0 1 false (tm 31)), om 6 32] [kp [1, 3, 4, 5, 6] [3, 5]]) (.seq (.reg [od 34 (lG 4 3), od 35 (lG 2 5), om 36 6, od 37 (.call 46 [(tm 34), (tm 35), (tm 36)]), om 33 37, od 38 (ex 33 0), od 39 (ex 33 1), od 7 (.alloc false
 [(.slice none 0 0), (.slice none 0 0), (.slice none 0 0), (.slice none 0 0)]), on (.store 4 (tm 7) (tm 38)), om 8 39] [kp [1, 3, 4, 5, 6, 7, 8] [3, 5, 7]]) (.seq (.reg [od 41 (lG 4 3), od 42 (lG 2 5), od 43 (.call 15 [(tm 41), (tm
 42)]), om 40 43, od 44 (ex 40 0), od 45 (ex 40 1), od 46 (ex 40 2), od 9 (.alloc false [(.slice none 0 0), (.slice none 0 0)]), on (.store 2 (tm 9) (tm 44)), om 10 45, om 11 46] [kp [1, 3, 4, 5, 6, 7, 8, 9, 11] [3, 5, 7, 9]]) (.seq
 (.reg [od 48 (lG 4 3), od 49 (fa 2 7), od 50 (lG 2 49), od 51 (.call 15 [(tm 48), (tm 50)]), om 47 51, od 52 (ex 47 0), od 53 (ex 47 1), od 54 (ex 47 2), od 12 (.alloc false [(.slice none 0 0), (.slice none 0 0)]), on (.store 2 (tm
 12) (tm 52)), om 13 53, om 14 54] [kp [1, 3, 4, 5, 6, 7, 8, 9, 11, 12, 14] [3, 5, 7, 9, 12]]) (.seq (.reg [od 56 (.ldR 3 4 true (tm 3)), om 57 4, od 58 (.ldT 20 true (tm 1)), od 59 (.ldR 3 4 true (tm 3)), od 60 (.call 48 [(tm 58),
 (tm 59)]), od 61 (.ldR 7 4 true (tm 7)), od 62 (.call 47 [(tm 56), (tm 57), (ku 0), (tm 60), (tm 61), kN]), om 55 62, od 63 (ex 55 0), od 64 (ex 55 1), od 15 (.alloc false [(.slice none 0 0), (.slice none 0 0)]), on (.stR 15 2 (tm
 15) (tm 63)), om 16 64] [kp [5, 6, 7, 8, 9, 11, 12, 14, 15, 16] [5, 7, 9, 12, 15]]) (.seq (.seq (.reg [om 65 8, od 66 (.bin .neq (tm 65) (ki 0)), om 67 66, oF 68 (.mv (tm 11)) 67, oF 69 (.bin .neq (tm 68) (ki 0)) 67, od 70 (.pick
 (tm 67) kT (tm 69)), om 71 70, oF 72 (.mv (tm 14)) 71, oF 73 (.bin .neq (tm 72) (ki 0)) 71, od 74 (.pick (tm 71) kT (tm 73)), om 75 74, oF 76 (.mv (tm 16)) 75, oF 77 (.bin .neq (tm 76) (ki 0)) 75, od 78 (.pick (tm 75) kT (tm 77)),
 om 79 78, oF 80 (fa 2 7) 79, oF 81 (fa 1 80) 79, oF 82 (ld 1 81) 79, oF 83 (fa 1 9) 79, oF 84 (ld 1 83) 79, oF 85 (.call 25 [(tm 82), (tm 84)]) 79, oF 86 (.un .not (tm 85)) 79, od 87 (.pick (tm 79) kT (tm 86)), om 88 87, oF 89 (fa
 2 7) 88, oF 90 (fa 0 89) 88, oF 91 (ld 1 90) 88, oF 92 (.mv (tm 6)) 88, oF 93 (.call 25 [(tm 91), (tm 92)]) 88, oF 94 (.un .not (tm 93)) 88, od 95 (.pick (tm 88) kT (tm 94)), om 96 95, oF 97 (fa 0 7) 96, oF 98 (fa 0 97) 96, oF 99
 (ld 1 98) 96, oF 100 (fa 0 5) 96, oF 101 (ld 1 100) 96, oF 102 (.call 25 [(tm 99), (tm 101)]) 96, oF 103 (.un .not (tm 102)) 96, od 104 (.pick (tm 96) kT (tm 103)), om 105 104, oF 106 (fa 0 7) 105, oF 107 (fa 1 106) 105, oF 108 (ld
 1 107) 105, oF 109 (fa 1 5) 105, oF 110 (ld 1 109) 105, oF 111 (.call 25 [(tm 108), (tm 110)]) 105, oF 112 (.un .not (tm 111)) 105, od 113 (.pick (tm 105) kT (tm 112))] [kp [12, 15, 113] [12, 15]]) (.cond (tm 113) (.seq (.reg [od 2
 (.mv kF)] [kp [2] []]) .ret) .skip)) (.seq (.reg [od 114 (fa 0 15), od 115 (ld 1 114), od 116 (fa 0 12), od 117 (ld 1 116), od 118 (.call 25 [(tm 115), (tm 117)]), om 119 118, oT 120 (fa 1 15) 119, oT 121 (ld 1 120) 119, oT 122 (fa
 1 12) 119, oT 123 (ld 1 122) 119, oT 124 (.call 25 [(tm 121), (tm 123)]) 119, od 125 (.pick (tm 119) (tm 124) kF), om 126 125, oT 127 (.call 28 []) 126, od 128 (.pick (tm 126) (tm 127) kF), om 2 128] [kp [2] []]) .ret))))))))))
def Ob : List RV := [.tmp 2]
/- probecard/probecardlaw36.LaunchesShift (function 12) -/
abbrev Qw : IC := .gh (.seq (.seq (.reg [om 117 19, om 118 15, od 119 (le 0 118), od 120 (.bin .lss (tm 117) (tm 119))] [kp [4, 5, 7, 8, 10, 13, 15, 16, 17, 18, 19, 120] [5, 8, 10, 13]]) (.cond (tm 120) .skip (.exit 4))) (.seq (.block 5 (.seq (.reg
 [om 123 15, om 124 19, od 125 (ia 1 123 124), od 126 (ld 1 125), om 127 4, om 128 16, od 129 (ia 1 127 128), od 130 (ld 1 129), om 131 18, od 132 (ia 1 130 131), od 133 (ld 1 132), od 134 (.bin .eql (tm 126) (tm 133))] [kp [4, 5,
 7, 8, 10, 13, 15, 16, 17, 18, 19, 134] [5, 8, 10, 13]]) (.cond (tm 134) (.seq (.seq (.reg [od 135 (fa 2 8), od 136 (fa 1 135), od 137 (ld 1 136), om 138 19, od 139 (ia 1 137 138), od 140 (ld 1 139), om 141 17, od 142 (.bin .neq (tm
 140) (tm 141))] [kp [4, 5, 7, 8, 10, 13, 15, 16, 18, 19, 142] [5, 8, 10, 13]]) (.cond (tm 142) (.seq (.reg [od 2 (.mv kF)] [kp [2] []]) .ret) .skip)) (.reg [od 143 (fa 1 5), od 144 (ld 1 143), om 145 19, od 146 (ia 1 144 145), od
 147 (ld 1 146), om 17 147] [kp [4, 5, 7, 8, 10, 13, 15, 16, 17, 18, 19] [5, 8, 10, 13]])) .skip))) (.reg [om 121 19, od 122 (.bin .add (tm 121) (ki 1)), om 19 122] [kp [4, 5, 7, 8, 10, 13, 15, 16, 17, 18, 19] [5, 8, 10, 13]]))) [kp
 [4, 5, 7, 8, 10, 13, 15, 16, 17, 18, 19] [5, 8, 10, 13]]
def Fe : IC := .loop Qw
abbrev Qx : IC := .gh (.seq (.seq (.reg [om 108 18, om 109 4, om 110 16, od 111 (ia 1 109 110), od 112 (ld 1 111), od 113 (le 0 112), od 114 (.bin .lss (tm 108) (tm 113))] [kp [4, 5, 7, 8, 10, 13, 15, 16, 17, 18, 114] [5, 8, 10, 13]]) (.cond (tm
 114) .skip (.exit 2))) (.seq (.block 3 (.seq (.reg [od 19 (.mv (ki 0))] [kp [4, 5, 7, 8, 10, 13, 15, 16, 17, 18, 19] [5, 8, 10, 13]]) (.block 4 Fe))) (.reg [om 115 18, od 116 (.bin .add (tm 115) (ki 1)), om 18
 116] [kp [4, 5, 7, 8, 10, 13, 15, 16, 17, 18] [5, 8, 10, 13]]))) [kp [4, 5, 7, 8, 10, 13, 15, 16, 17, 18] [5, 8, 10, 13]]
def Ff : IC := .loop Qx
abbrev Qy : IC := .gh (.seq (.seq (.reg [om 96 16, om 97 4, od 98 (le 0 97), od 99 (.bin .lss (tm 96) (tm 98))] [kp [4, 5, 7, 8, 10, 13, 15, 16, 99] [5, 8, 10, 13]]) (.cond (tm 99) .skip (.exit 0))) (.seq (.block 1 (.seq (.reg [om 102 7, om 103 16,
 od 104 (ia 1 102 103), od 105 (ld 1 104), om 17 105] [kp [4, 5, 7, 8, 10, 13, 15, 16, 17] [5, 8, 10, 13]]) (.seq (.seq (.reg [om 106 17, od 107 (.bin .gtr (tm 106) (ku 1))] [kp [4, 5, 7, 8, 10, 13, 15, 16, 17, 107] [5, 8, 10, 13]])
 (.cond (tm 107) (.reg [od 17 (.mv (ku 2))] [kp [4, 5, 7, 8, 10, 13, 15, 16, 17] [5, 8, 10, 13]]) .skip)) (.seq (.reg [od 18 (.mv (ki 0))] [kp [4, 5, 7, 8, 10, 13, 15, 16, 17, 18] [5, 8, 10, 13]]) (.block 2
 Ff))))) (.reg [om 100 16, od 101 (.bin .add (tm 100) (ki 1)), om 16 101] [kp [4, 5, 7, 8, 10, 13, 15, 16] [5, 8, 10, 13]]))) [kp [4, 5, 7, 8, 10, 13, 15, 16] [5, 8, 10, 13]]
def Fg : IC := .loop Qy
abbrev Qz : IC := (.seq (.reg [od 1 (.box true (tm 0)), od 2 (.mv kF)] [kp [1] []]) (.seq (.reg [od 21 (fa 0 1), od 22 (lG 14 21), od 23 (.call 22 [(tm 22)]), om 20 23, od 24 (ex 20 0), od 25 (ex 20 1), od 3 (.alloc false [(.slice none 0 0), (.slice
 none 0 0), (.slice none 0 0), (.slice none 0 0)]), on (.store 4 (tm 3) (tm 24)), om 4 25] [kp [1, 3, 4] [3]]) (.seq (.reg [od 26 (fa 14 1), od 27 (lG 2 26), od 28 (lG 4 3), od 29 (.call 14 [(tm 27), (tm 28)]), od 30 (.call 26 [(tm
 29)]), od 5 (.alloc false [(.slice none 0 0), (.slice none 0 0)]), on (.store 2 (tm 5) (tm 30))] [kp [1, 3, 4, 5] [3, 5]]) (.seq (.reg [od 31 (fa 16 1), od 32 (lG 2 31), od 33 (lG 4 3), od 34 (.call 14 [(tm 32), (tm 33)]), od 35
 (.fld 0 1 false (tm 34)), om 6 35] [kp [1, 3, 4, 5, 6] [3, 5]]) (.seq (.reg [od 36 (lG 20 1), om 37 4, od 38 (.call 44 [(tm 36), (tm 37)]), om 7 38] [kp [1, 3, 4, 5, 6, 7] [3, 5]]) (.seq (.reg [od 40 (lG 4 3), om 41 4, od 42 (lG 2
 5), om 43 6, om 44 7, od 45 (.call 24 [(tm 40), (tm 41), (tm 42), (tm 43), (tm 44)]), om 39 45, od 46 (ex 39 0), od 47 (ex 39 1), od 8 (.alloc false [(.slice none 0 0), (.slice none 0 0), (.slice none 0 0), (.slice none 0 0)]), on
 (.store 4 (tm 8) (tm 46)), om 9 47] [kp [1, 3, 4, 5, 6, 7, 8, 9] [3, 5, 8]]) (.seq (.reg [od 49 (lG 4 3), od 50 (fa 2 8), od 51 (lG 2 50), od 52 (.call 15 [(tm 49), (tm 51)]), om 48 52, od 53 (ex 48 0), od 54 (ex 48 1), od 55 (ex
 48 2), od 10 (.alloc false [(.slice none 0 0), (.slice none 0 0)]), on (.store 2 (tm 10) (tm 53)), om 11 54, om 12 55] [kp [1, 3, 4, 5, 6, 7, 8, 9, 10, 12] [3, 5, 8, 10]]) (.seq (.reg [od 57 (.ldR 3 4 true (tm 3)), om 58 4, od 59
 (.ldT 20 true (tm 1)), od 60 (.ldR 3 4 true (tm 3)), od 61 (.call 48 [(tm 59), (tm 60)]), od 62 (.ldR 8 4 true (tm 8)), om 63 7, od 64 (.call 47 [(tm 57), (tm 58), (ku 1), (tm 61), (tm 62), (tm 63)]), om 56 64, od 65 (ex 56 0), od
 66 (ex 56 1), od 13 (.alloc false [(.slice none 0 0), (.slice none 0 0)]), on (.stR 13 2 (tm 13) (tm 65)), om 14 66] [kp [3, 4, 5, 6, 7, 8, 9, 10, 12, 13, 14] [3, 5, 8, 10, 13]]) (.seq (.seq (.reg [om 67 9, od 68 (.bin .neq (tm 67)
 (ki 0)), om 69 68, oF 70 (.mv (tm 12)) 69, oF 71 (.bin .neq (tm 70) (ki 0)) 69, od 72 (.pick (tm 69) kT (tm 71)), om 73 72, oF 74 (.mv (tm 14)) 73, oF 75 (.bin .neq (tm 74) (ki 0)) 73, od 76 (.pick (tm 73) kT (tm 75)), om 77 76, oF
 78 (fa 2 8) 77, oF 79 (fa 0 78) 77, oF 80 (ld 1 79) 77, oF 81 (.mv (tm 6)) 77, oF 82 (.call 25 [(tm 80), (tm 81)]) 77, oF 83 (.un .not (tm 82)) 77, od 84 (.pick (tm 77) kT (tm 83)), om 85 84, oF 86 (fa 0 8) 85, oF 87 (fa 1 86) 85,
 oF 88 (ld 1 87) 85, oF 89 (fa 1 5) 85, oF 90 (ld 1 89) 85, oF 91 (.call 25 [(tm 88), (tm 90)]) 85, oF 92 (.un .not (tm 91)) 85, od 93 (.pick (tm 85) kT (tm 92))] [kp [3, 4, 5, 7, 8, 10, 13, 93] [3, 5, 8, 10, 13]]) (.cond (tm 93)
 (.seq (.reg [od 2 (.mv kF)] [kp [2] []]) .ret) .skip)) (.seq (.reg [od 94 (lG 4 3), od 95 (.call 27 [(tm 94)]), om 15 95] [kp [4, 5, 7, 8, 10, 13, 15] [5, 8, 10, 13]]) (.seq (.seq (.reg [od 16 (.mv (ki 0))] [kp [4, 5, 7, 8, 10, 13,
 15, 16] [5, 8, 10, 13]]) (.block 0 Fg)) (.seq (.reg [od 148 (fa 0 13), od 149 (ld 1 148), od 150 (fa 0 10), od 151 (ld 1 150), od 152 (.call 25 [(tm 149), (tm 151)]), om 153 152, oT 154 (fa 1 13) 153, oT 155 (ld
 1 154) 153, oT 156 (fa 1 10) 153, oT 157 (ld 1 156) 153, oT 158 (.call 25 [(tm 155), (tm 157)]) 153, od 159 (.pick (tm 153) (tm 158) kF), om 160 159, oT 161 (.call 28 []) 160, od 162 (.pick (tm 160) (tm 161) kF), om 2 162] [kp [2]
 []]) .ret))))))))))))
theorem Le (h : ∀ K : St → Prop, K = run P Γ Fe Q → run P Γ Qw (Ax K Q) s) : run P Γ Fe Q s := Aj h
theorem Lh (h : ∀ K : St → Prop, K = run P Γ Ff Q → run P Γ Qx (Ax K Q) s) : run P Γ Ff Q s := Aj h
theorem Lj (h : ∀ K : St → Prop, K = run P Γ Fg Q → run P Γ Qy (Ax K Q) s) : run P Γ Fg Q s := Aj h
def R7 : List RV := [.tmp 2]
end
end Go.Lg
namespace Go.Lg
open Go Go.Proofs
theorem Zq : B1 Tryz.prog 11 Oa 129 1 Ob = true := by kernel_rfl
theorem q16 : B1 Tryz.prog 12 Qz 163 1 R7 = true := by kernel_rfl
end Go.Lg
namespace Go.Lg
open Go
section
variable {P : Program} {Γ : Tables} {Q : AX → St → Prop} {s : St}
/- probecard/launches.high (function 77) -/
abbrev q17 : IC := (.seq (.reg [od 2 (.mv kF)] [kp [0] []]) (.seq (.reg [om 3 0, od 4 (.bin .gtr (tm 3) (ku 3)), om 2 4] [kp [2] []]) .ret))
def q18 : List RV := [.tmp 2]
/- probecard/launches.copied (function 78) -/
abbrev Y2 : IC := (.seq (.reg [od 1 (.box true (tm 0)), od 2 (.alloc false [(.slice none 0 0), (.slice none 0 0)])] [kp [1, 2] [2]]) (.seq (.reg [od 3 (fa 0 1), od 4 (.ldT 1 false (tm 3)), od 5 (.call 93 [(tm 4)]), od 6 (.call 74 [(tm 5)]), od 7 (fa
 1 1), od 8 (.ldT 1 false (tm 7)), od 9 (.call 93 [(tm 8)]), od 10 (.call 74 [(tm 9)]), od 11 (.build [(1, (tm 6)), (1, (tm 10))]), on (.stR 2 2 (tm 2) (tm 11))] [kp [2] [2]]) .ret))
def Y3 : List RV := [.cell 2 2 true]
/- probecard/launches.shifted (function 79) -/
abbrev Wb : IC := .gh (.seq (.reg [od 25 (.bin .lss (tm 24) (tm 23))] [kp [1, 2, 3, 9, 10, 22, 23, 24, 25] [21]]) (.seq (.cond (tm 25) .skip (.exit 0)) (.seq (.block 1 (.seq (.reg [om 26 24, od 27 (ia 1 22 24), od 28 (ld 1 27), om 11 26, om 12 28]
 [kp [1, 2, 3, 9, 10, 11, 12, 22, 23, 24] [21]]) (.reg [om 29 10, om 30 12, om 31 11, on (.mup (.int .i64) (tm 29) (tm 30) (tm 31))] [kp [1, 2, 3, 9, 10, 22, 23, 24] [21]]))) (.reg [od 32 (.bin .add (tm 24) (ki 1)), om 24 32] [kp
 [1, 2, 3, 9, 10, 22, 23, 24] [21]])))) [kp [1, 2, 3, 9, 10, 22, 23, 24] [21]]
def Hr : IC := .loop Wb
abbrev Wc : IC := .gh (.seq (.reg [od 51 (.bin .lss (tm 50) (tm 49))] [kp [2, 3, 10, 13, 16, 36, 37, 38, 48, 49, 50, 51] [21, 35]]) (.seq (.cond (tm 51) .skip (.exit 4)) (.seq (.block 5 (.seq (.reg [od 52 (ia 1 48 50), od 53 (ld 1 52), om 18 53] [kp
 [2, 3, 10, 13, 16, 18, 36, 37, 38, 48, 49, 50] [21, 35]]) (.reg [om 54 13, om 55 10, om 56 18, od 57 (.lkup (.int .i64) (.int .i64 0) false (tm 55) (tm 56)), om 58 16, om 59 2, om 60 10, om 61 18, od 62 (.lkup (.int .i64) (.int
 .i64 0) false (tm 60) (tm 61)), od 63 (ia 1 59 62), od 64 (.ldT 1 false (tm 63)), od 65 (.call 73 [(tm 64)]), od 66 (ia 1 54 57), on (.stR 35 1 (tm 66) (tm 58)), om 16 65] [kp [2, 3, 10, 13, 16, 36, 37, 38, 48, 49, 50] [21, 35]])))
 (.reg [od 67 (.bin .add (tm 50) (ki 1)), om 50 67] [kp [2, 3, 10, 13, 16, 36, 37, 38, 48, 49, 50] [21, 35]])))) [kp [2, 3, 10, 13, 16, 36, 37, 38, 48, 49, 50] [21, 35]]
def Ht : IC := .loop Wc
abbrev We : IC := .gh (.seq (.reg [od 39 (.bin .lss (tm 38) (tm 37))] [kp [2, 3, 10, 13, 36, 37, 38, 39] [21, 35]]) (.seq (.cond (tm 39) .skip (.exit 2)) (.seq (.block 3 (.seq (.reg [om 40 38, od 41 (ia 1 36 38), od 42 (ld 1 41), om 14 40, om 15 42]
 [kp [2, 3, 10, 13, 14, 15, 36, 37, 38] [21, 35]]) (.seq (.reg [om 43 3, om 44 14, od 45 (ia 1 43 44), od 46 (ld 1 45), od 47 (.call 73 [(tm 46)]), om 16 47] [kp [2, 3, 10, 13, 15, 16, 36, 37, 38] [21, 35]]) (.seq (.reg [om 48 15,
 od 49 (le 0 48), od 50 (.mv (ki 0))] [kp [2, 3, 10, 13, 16, 36, 37, 38, 48, 49, 50] [21, 35]]) (.block 4 Ht))))) (.reg [od 68 (.bin .add (tm 38) (ki 1)), om 38 68] [kp [2, 3, 10, 13, 36, 37, 38] [21, 35]])))) [kp
 [2, 3, 10, 13, 36, 37, 38] [21, 35]]
def Hu : IC := .loop We
abbrev Wg : IC := (.seq (.reg [od 4 (.box true (tm 0)), od 8 (.mv kN)] [kp [1, 2, 3, 4] []]) (.seq (.reg [od 19 (lG 4 4), od 20 (.call 27 [(tm 19)]), om 9 20] [kp [1, 2, 3, 9] []]) (.seq (.reg [od 21 (.mkmap), om 10 21] [kp [1, 2, 3, 9, 10] [21]])
 (.seq (.seq (.reg [om 22 9, od 23 (le 0 22), od 24 (.mv (ki 0))] [kp [1, 2, 3, 9, 10, 22, 23, 24] [21]]) (.block 0 Hr)) (.seq (.reg [om 33 9, od 34 (le 0 33), od 35 (.mk 68 1 [(.int .u8 0)] (tm 34) (tm 34)), om 13
 35] [kp [1, 2, 3, 10, 13] [21, 35]]) (.seq (.seq (.reg [om 36 1, od 37 (le 0 36), od 38 (.mv (ki 0))] [kp [2, 3, 10, 13, 36, 37, 38] [21, 35]]) (.block 2 Hu)) (.seq (.reg [om 69 13, om 8 69] [kp [8] [35]])
 .ret)))))))
theorem Q2 (h : ∀ K : St → Prop, K = run P Γ Hr Q → run P Γ Wb (Ax K Q) s) : run P Γ Hr Q s := Aj h
theorem Q3 (h : ∀ K : St → Prop, K = run P Γ Ht Q → run P Γ Wc (Ax K Q) s) : run P Γ Ht Q s := Aj h
theorem Q4 (h : ∀ K : St → Prop, K = run P Γ Hu Q → run P Γ We (Ax K Q) s) : run P Γ Hu Q s := Aj h
def Wh : List RV := [.tmp 8]
/- probecard/launches.check (function 107) -/
abbrev R9 : IC := (.seq (.reg [od 5 (.box true (tm 0)), od 8 (.box true (tm 3)), od 10 (.mv (ki 0))] [kp [1, 2, 4, 5, 8] []]) (.seq (.seq (.reg [om 15 2, od 16 (.bin .gtr (tm 15) (ku 1))] [kp [1, 2, 4, 5, 8, 16] []]) (.cond (tm 16) (.seq (.reg [od
 10 (.mv (ki 1))] [kp [10] []]) .ret) .skip)) (.seq (.seq (.reg [od 18 (lG 4 5), om 19 1, od 20 (.call 29 [(tm 18), (tm 19)]), om 17 20, od 21 (ex 17 0), od 22 (ex 17 1), od 11 (.alloc false [(.slice none 0 0), (.slice none 0 0),
 (.slice none 0 0), (.slice none 0 0), (.slice none 0 0), (.int .i64 0), (.slice none 0 0), (.slice none 0 0)]), on (.store 8 (tm 11) (tm 21)), om 12 22] [kp [1, 2, 4, 5, 8, 12] []]) (.seq (.reg [om 23 12, od 24 (.bin .neq (tm 23)
 (ki 0))] [kp [1, 2, 4, 5, 8, 12, 24] []]) (.cond (tm 24) (.seq (.reg [om 25 12, om 10 25] [kp [10] []]) .ret) .skip))) (.seq (.reg [od 26 (lG 4 5), od 27 (.call 41 [(tm 26)]), od 28 (le 0 27), om 29 1, od 30 (le 0 29), om 13 28, om
 14 30] [kp [2, 4, 5, 8, 13, 14] []]) (.seq (.seq (.reg [om 31 2] [kp [4, 5, 8, 13, 14, 31] []]) (.block 0 (.seq (.block 2 (.seq (.block 1 (.seq (.seq (.reg [od 33 (.bin .eql (tm 31) (ku 0)), om 32 33] [kp [4, 5, 8, 13, 14, 32] []])
 (.cond (tm 32) (.exit 1) .skip)) (.exit 2))) (.reg [od 14 (.mv (ki 0))] [kp [4, 5, 8, 13, 14] []]))) (.seq (.seq (.reg [od 34 (fa 0 8), od 35 (fa 0 34), od 36 (ld 1 35), od 37 (le 0 36), om 38 13, od 39 (.bin .neq (tm 37) (tm 38)),
 om 40 39, oF 41 (fa 2 8) 40, oF 42 (fa 0 41) 40, oF 43 (ld 1 42) 40, oF 44 (le 0 43) 40, oF 45 (.mv (tm 13)) 40, oF 46 (.bin .neq (tm 44) (tm 45)) 40, od 47 (.pick (tm 40) kT (tm 46)), om 48 47, oF 49 (fa 0 8) 48, oF 50 (fa 1 49)
 48, oF 51 (ld 1 50) 48, oF 52 (le 0 51) 48, oF 53 (lG 4 5) 48, oF 54 (.call 27 [(tm 53)]) 48, oF 55 (le 0 54) 48, oF 56 (.bin .neq (tm 52) (tm 55)) 48, od 57 (.pick (tm 48) kT (tm 56)), om 58 57, oF 59 (.mv (tm 4)) 58, oF 60 (le 0
 59) 58, oF 61 (.mv (tm 14)) 58, oF 62 (.bin .neq (tm 60) (tm 61)) 58, od 63 (.pick (tm 58) kT (tm 62))] [kp [4, 8, 63] []]) (.cond (tm 63) (.seq (.reg [od 10 (.mv (ki 8))] [kp [10] []]) .ret) .skip)) (.exit 0))))) (.seq (.seq (.reg
 [od 64 (fa 0 8), od 65 (fa 0 64), od 66 (ld 1 65), od 67 (fa 0 8), od 68 (fa 1 67), od 69 (ld 1 68), od 70 (fa 2 8), od 71 (fa 0 70), od 72 (ld 1 71), om 73 4, od 74 (.bsl true 37 1 [(tm 66), (tm 69), (tm 72), (tm 73)]), od 75
 (.call 91 [(tm 74)]), od 76 (.call 76 [(tm 75), (.func 77)])] [kp [76] []]) (.cond (tm 76) (.seq (.reg [od 10 (.mv (ki 1))] [kp [10] []]) .ret) .skip)) (.seq (.reg [od 10 (.mv (ki 0))] [kp [10] []]) .ret)))))))
def Rb : List RV := [.tmp 10]
/- probecard/sims.Check (function 75) -/
abbrev q4k : IC := (.seq (.reg [od 2 (.box true (tm 0)), od 3 (.box true (tm 1)), od 4 (.mv (ki 0))] [kp [2, 3] []]) (.seq (.seq (.reg [od 6 (lG 4 2), od 7 (.call 129 [(tm 6)]), om 5 7] [kp [2, 3, 5] []]) (.seq (.reg [om 8 5, od 9 (.bin .neq (tm 8)
 (ki 0))] [kp [2, 3, 5, 9] []]) (.cond (tm 9) (.seq (.reg [om 10 5, om 4 10] [kp [4] []]) .ret) .skip))) (.seq (.reg [od 11 (lG 4 2), od 12 (lG 2 3), od 13 (.call 54 [(tm 11), (tm 12)]), om 4 13] [kp [4] []]) .ret)))
def q0k : List RV := [.tmp 4]
/- slices.Insert[[][]probecard/api.Value,[]probecard/api.Value] (function 108) -/
abbrev K2 : IC := (.seq (.reg [od 6 (.mv kN)] [kp [0, 1, 2] []]) (.seq (.reg [om 10 0, om 11 1, od 12 (.slice 1 (tm 10) (some (tm 11)) none none)] [kp [0, 1, 2] []]) (.seq (.reg [om 13 2, od 14 (le 0 13), om 7 14] [kp [0, 1, 2, 7] []]) (.seq (.seq
 (.reg [om 15 7, od 16 (.bin .eql (tm 15) (ki 0))] [kp [0, 1, 2, 7, 16] []]) (.cond (tm 16) (.seq (.reg [om 17 0, om 6 17] [kp [6] [40]]) .ret) .skip)) (.seq (.reg [om 18 0, od 19 (le 0 18), om 8 19] [kp [0, 1, 2, 7, 8] []]) (.seq
 (.seq (.reg [om 20 1, om 21 8, od 22 (.bin .eql (tm 20) (tm 21))] [kp [0, 1, 2, 7, 8, 22] []]) (.cond (tm 22) (.seq (.reg [om 23 0, om 24 2, od 25 (.appT 37 1 (tm 23) (tm 24)), om 6 25] [kp [6] [40]]) .ret) .skip)) (.seq (.seq
 (.reg [om 26 8, om 27 7, od 28 (.bin .add (tm 26) (tm 27)), om 29 0, od 30 (.cap (tm 29)), od 31 (.bin .gtr (tm 28) (tm 30))] [kp [0, 1, 2, 7, 8, 31] []]) (.cond (tm 31) (.seq (.reg [om 32 0, om 33 1, od 34 (.slice 1 (tm 32) none
 (some (tm 33)) none), om 35 8, om 36 7, od 37 (.bin .add (tm 35) (tm 36)), om 38 1, od 39 (.bin .sub (tm 37) (tm 38)), od 40 (.appZ 37 1 [(.slice none 0 0)] (tm 34) (tm 39)), om 9 40] [kp [0, 1, 2, 7, 9] [40]]) (.seq (.reg [om 41
 9, om 42 1, od 43 (.slice 1 (tm 41) (some (tm 42)) none none), om 44 2, od 45 (.cpy 1 (tm 43) (tm 44))] [kp [0, 1, 7, 9] [40]]) (.seq (.reg [om 46 9, om 47 1, om 48 7, od 49 (.bin .add (tm 47) (tm 48)), od 50 (.slice 1 (tm 46)
 (some (tm 49)) none none), om 51 0, om 52 1, od 53 (.slice 1 (tm 51) (some (tm 52)) none none), od 54 (.cpy 1 (tm 50) (tm 53))] [kp [9] [40]]) (.seq (.reg [om 55 9, om 6 55] [kp [6] [40]]) .ret)))) .skip)) (.seq (.reg [om 56 0, om
 57 8, om 58 7, od 59 (.bin .add (tm 57) (tm 58)), od 60 (.slice 1 (tm 56) none (some (tm 59)) none), om 0 60] [kp [0, 1, 2, 7, 8] []]) (.seq (.seq (.reg [om 61 2, om 62 0, om 63 1, om 64 7, od 65 (.bin .add (tm 63) (tm 64)), od 66
 (.slice 1 (tm 62) (some (tm 65)) none none), od 67 (.call 146 [(tm 61), (tm 66)]), od 68 (.un .not (tm 67))] [kp [0, 1, 2, 7, 8, 68] []]) (.cond (tm 68) (.seq (.reg [om 69 0, om 70 1, om 71 7, od 72 (.bin .add (tm 70) (tm 71)), od
 73 (.slice 1 (tm 69) (some (tm 72)) none none), om 74 0, om 75 1, od 76 (.slice 1 (tm 74) (some (tm 75)) none none), od 77 (.cpy 1 (tm 73) (tm 76))] [kp [0, 1, 2] []]) (.seq (.reg [om 78 0, om 79 1, od 80 (.slice 1 (tm 78) (some
 (tm 79)) none none), om 81 2, od 82 (.cpy 1 (tm 80) (tm 81))] [kp [0] []]) (.seq (.reg [om 83 0, om 6 83] [kp [6] [40]]) .ret))) .skip)) (.seq (.reg [om 84 0, om 85 8, od 86 (.slice 1 (tm 84) (some (tm 85)) none none), om 87 2, od
 88 (.cpy 1 (tm 86) (tm 87))] [kp [0, 1, 7] []]) (.seq (.reg [om 89 0, om 90 1, od 91 (.slice 1 (tm 89) (some (tm 90)) none none), om 92 7, od 93 (.call 147 [(tm 91), (tm 92)])] [kp [0] []]) (.seq (.reg [om 94 0, om 6 94] [kp [6]
 [40]]) .ret))))))))))))
def K3 : List RV := [.tmp 6]
/- probecard/launches.Before (function 23) -/
abbrev Y4 : IC := .gh (.seq (.reg [od 33 (.bin .lss (tm 32) (tm 31))] [kp [1, 2, 7, 11, 30, 31, 32, 33] [28, 61]]) (.seq (.cond (tm 33) .skip (.exit 0)) (.seq (.block 1 (.seq (.reg [om 34 32, od 35 (ia 1 30 32), od 36 (ld 1 35), om 12 34, om 13 36]
 [kp [1, 2, 7, 11, 12, 13, 30, 31, 32] [28, 61]]) (.reg [om 37 11, om 38 13, om 39 12, on (.mup (.int .i64) (tm 37) (tm 38) (tm 39))] [kp [1, 2, 7, 11, 30, 31, 32] [28, 61]]))) (.reg [od 40 (.bin .add (tm 32) (ki 1)), om 32 40] [kp
 [1, 2, 7, 11, 30, 31, 32] [28, 61]])))) [kp [1, 2, 7, 11, 30, 31, 32] [28, 61]]
def J1 : IC := .loop Y4
abbrev Y5 : IC := .gh (.seq (.reg [od 65 (.bin .lss (tm 64) (tm 63))] [kp [2, 6, 7, 11, 15, 44, 45, 46, 62, 63, 64, 65] [28, 43, 61]]) (.seq (.cond (tm 65) .skip (.exit 4)) (.seq (.block 5 (.seq (.reg [om 66 64, od 67 (ia 1 62 64), od 68 (ld 1 67),
 om 16 66, om 17 68] [kp [2, 6, 7, 11, 15, 16, 17, 44, 45, 46, 62, 63, 64] [28, 43, 61]]) (.seq (.reg [om 69 6, om 70 11, om 71 17, od 72 (.lkup (.int .i64) (.int .i64 0) false (tm 70) (tm 71)), od 73 (ia 1 69 72), on (.store 1 (tm
 73) (ku 2))] [kp [2, 6, 7, 11, 15, 16, 17, 44, 45, 46, 62, 63, 64] [28, 43, 61]]) (.seq (.reg [om 74 16, od 75 (.bin .add (tm 74) (ki 1)), om 76 15, od 77 (le 0 76), od 78 (.bin .lss (tm 75) (tm 77))] [kp [2, 6, 7, 11, 15, 16, 17,
 44, 45, 46, 62, 63, 64, 78] [28, 43, 61]]) (.cond (tm 78) (.reg [om 79 6, om 80 11, om 81 17, od 82 (.lkup (.int .i64) (.int .i64 0) false (tm 80) (tm 81)), om 83 2, om 84 11, om 85 15, om 86 16, od 87 (.bin .add (tm 86) (ki 1)),
 od 88 (ia 1 85 87), od 89 (.ldT 1 false (tm 88)), od 90 (.lkup (.int .i64) (.int .i64 0) false (tm 84) (tm 89)), od 91 (ia 1 83 90), od 92 (.ldT 1 false (tm 91)), od 93 (.call 73 [(tm 92)]), od 94 (ia 1 79 82), on (.stR 43 1 (tm
 94) (tm 93))] [kp [2, 6, 7, 11, 15, 44, 45, 46, 62, 63, 64] [28, 43, 61]]) .skip))))) (.reg [od 95 (.bin .add (tm 64) (ki 1)), om 64 95] [kp [2, 6, 7, 11, 15, 44, 45, 46, 62, 63, 64] [28, 43, 61]])))) [kp [2, 6, 7, 11, 15, 44, 45,
 46, 62, 63, 64] [28, 43, 61]]
def J2 : IC := .loop Y5
abbrev Y6 : IC := .gh (.seq (.reg [od 47 (.bin .lss (tm 46) (tm 45))] [kp [2, 6, 7, 11, 44, 45, 46, 47] [28, 43, 61]]) (.seq (.cond (tm 47) .skip (.exit 2)) (.seq (.block 3 (.seq (.reg [od 48 (ia 1 44 46), od 49 (ld 1 48), om 15 49] [kp [2, 6, 7,
 11, 15, 44, 45, 46] [28, 43, 61]]) (.seq (.reg [om 50 7, om 51 2, om 52 11, om 53 15, od 54 (.iadr 1 (tm 53) (ki 0)), od 55 (ld 1 54), od 56 (.lkup (.int .i64) (.int .i64 0) false (tm 52) (tm 55)), od 57 (ia 1 51 56), od 58 (ld 1
 57), od 59 (.call 73 [(tm 58)]), od 60 (.bsl true 68 1 [(tm 59)]), od 61 (.app false 68 1 (tm 50) (tm 60)), om 7 61] [kp [2, 6, 7, 11, 15, 44, 45, 46] [28, 43, 61]]) (.seq (.reg [om 62 15, od 63 (le 0 62), od 64 (.mv (ki 0))] [kp
 [2, 6, 7, 11, 15, 44, 45, 46, 62, 63, 64] [28, 43, 61]]) (.block 4 J2))))) (.reg [od 96 (.bin .add (tm 46) (ki 1)), om 46 96] [kp [2, 6, 7, 11, 44, 45, 46] [28, 43, 61]])))) [kp [2, 6, 7, 11, 44, 45, 46] [28, 43,
 61]]
def J3 : IC := .loop Y6
abbrev Y7 : IC := (.seq (.reg [od 3 (.box true (tm 0)), od 6 (.mv kN), od 7 (.mv kN), od 8 (.mv (ki 0))] [kp [1, 2, 3, 7] [61]]) (.seq (.seq (.reg [od 19 (lG 4 3), om 20 1, om 21 2, od 22 (.call 38 [(tm 19), (tm 20), (tm 21)]), om 18 22, od 23 (ex
 18 0), od 24 (ex 18 1), om 9 23, om 10 24] [kp [1, 2, 3, 7, 10] [61]]) (.seq (.reg [om 25 10, od 26 (.bin .neq (tm 25) (ki 0))] [kp [1, 2, 3, 7, 10, 26] [61]]) (.cond (tm 26) (.seq (.reg [om 27 10, od 6 (.mv kN), od 7 (.mv kN), om
 8 27] [kp [6, 7, 8] [43, 61]]) .ret) .skip))) (.seq (.reg [od 28 (.mkmap), om 11 28] [kp [1, 2, 3, 7, 11] [28, 61]]) (.seq (.seq (.reg [od 29 (lG 4 3), od 30 (.call 27 [(tm 29)]), od 31 (le 0 30), od 32 (.mv (ki 0))] [kp [1, 2, 7,
 11, 30, 31, 32] [28, 61]]) (.block 0 J1)) (.seq (.reg [om 41 2, od 42 (le 0 41), od 43 (.mk 68 1 [(.int .u8 0)] (tm 42) (tm 42)), om 6 43] [.nl 7 61 68 1, kp [1, 2, 6, 7, 11] [28, 43, 61]]) (.seq (.seq (.reg [om 44
 1, od 45 (le 0 44), od 46 (.mv (ki 0))] [kp [2, 6, 7, 11, 44, 45, 46] [28, 43, 61]]) (.gh (.block 2 J3) [.frz 61])) (.seq (.reg [om 97 6, om 98 7, od 99 (.call 74 [(tm 98)]), om 6 97, om 7 99, od 8 (.mv (ki 0))] [kp
 [6, 7, 8] [43, 61]]) .ret)))))))
theorem Re (h : ∀ K : St → Prop, K = run P Γ J1 Q → run P Γ Y4 (Ax K Q) s) : run P Γ J1 Q s := Aj h
theorem Rf (h : ∀ K : St → Prop, K = run P Γ J2 Q → run P Γ Y5 (Ax K Q) s) : run P Γ J2 Q s := Aj h
theorem Rh (h : ∀ K : St → Prop, K = run P Γ J3 Q → run P Γ Y6 (Ax K Q) s) : run P Γ J3 Q s := Aj h
def Y8 : List RV := [.tmp 6, .tmp 7, .tmp 8]
/- probecard/launches.Shift (function 24) -/
abbrev Zz : IC := (.seq (.reg [od 5 (.box true (tm 0)), od 7 (.box true (tm 2)), od 10 (.alloc false [(.slice none 0 0), (.slice none 0 0), (.slice none 0 0), (.slice none 0 0)]), od 11 (.mv (ki 0))] [kp [1, 3, 4, 5, 7, 10] [10]]) (.seq (.seq (.reg
 [od 16 (lG 4 5), om 17 1, od 18 (.call 29 [(tm 16), (tm 17)]), om 15 18, od 19 (ex 15 0), od 20 (ex 15 1), od 12 (.alloc false [(.slice none 0 0), (.slice none 0 0), (.slice none 0 0), (.slice none 0 0), (.slice none 0 0), (.int
 .i64 0), (.slice none 0 0), (.slice none 0 0)]), on (.store 8 (tm 12) (tm 19)), om 13 20] [kp [1, 3, 4, 5, 7, 10, 13] [10]]) (.seq (.reg [om 21 13, od 22 (.bin .neq (tm 21) (ki 0))] [kp [1, 3, 4, 5, 7, 10, 13, 22] [10]]) (.cond (tm
 22) (.seq (.reg [od 23 (.build [(2, (.const (.agg #[(.slice none 0 0), (.slice none 0 0)]))), (2, (.const (.agg #[(.slice none 0 0), (.slice none 0 0)])))]), om 24 13, on (.store 4 (tm 10) (tm 23)), om 11 24] [kp [10, 11] [10]])
 .ret) .skip))) (.seq (.seq (.reg [od 25 (lG 4 5), od 26 (lG 2 7), od 27 (.call 75 [(tm 25), (tm 26)]), om 14 27] [kp [1, 3, 4, 5, 7, 10, 14] [10]]) (.block 0 (.seq (.reg [om 29 14, od 30 (.bin .neq (tm 29) (ki 0)), om 28 30] [kp
 [1, 3, 4, 5, 7, 10, 14, 28] [10]]) (.cond (tm 28) (.seq (.reg [od 31 (.build [(2, (.const (.agg #[(.slice none 0 0), (.slice none 0 0)]))), (2, (.const (.agg #[(.slice none 0 0), (.slice none 0 0)])))]), om 32 14, on (.store 4 (tm
 10) (tm 31)), om 11 32] [kp [10, 11] [10]]) .ret) (.seq (.reg [om 34 3, od 35 (le 0 34), od 36 (fa 0 7), od 37 (ld 1 36), od 38 (le 0 37), od 39 (.bin .neq (tm 35) (tm 38)), om 40 39, oF 41 (.mv (tm 4)) 40, oF 42 (le 0 41) 40, oF
 43 (.mv (tm 1)) 40, oF 44 (le 0 43) 40, oF 45 (.bin .neq (tm 42) (tm 44)) 40, od 46 (.pick (tm 40) kT (tm 45)), om 33 46] [kp [1, 3, 4, 5, 7, 10, 33] [10]]) (.cond (tm 33) (.seq (.reg [od 47 (.build [(2, (.const (.agg #[(.slice
 none 0 0), (.slice none 0 0)]))), (2, (.const (.agg #[(.slice none 0 0), (.slice none 0 0)])))]), on (.store 4 (tm 10) (tm 47)), od 11 (.mv (ki 8))] [kp [10, 11] [10]]) .ret) (.seq (.reg [om 49 3, od 50 (.call 76 [(tm 49), (.func
 77)]), om 51 50, oF 52 (.mv (tm 4)) 51, oF 53 (.call 76 [(tm 52), (.func 77)]) 51, od 54 (.pick (tm 51) kT (tm 53)), om 48 54] [kp [1, 3, 4, 5, 7, 10, 48] [10]]) (.cond (tm 48) (.seq (.reg [od 55 (.build [(2, (.const (.agg
 #[(.slice none 0 0), (.slice none 0 0)]))), (2, (.const (.agg #[(.slice none 0 0), (.slice none 0 0)])))]), on (.store 4 (tm 10) (tm 55)), od 11 (.mv (ki 1))] [kp [10, 11] [10]]) .ret) .skip)))))))) (.seq (.reg [od 56 (.ldT 2 true
 (tm 7)), od 57 (.call 78 [(tm 56)]), om 58 3, od 59 (.ldT 4 true (tm 5)), om 60 1, od 61 (fa 1 7), od 62 (.ldT 1 false (tm 61)), om 63 4, od 64 (.call 79 [(tm 59), (tm 60), (tm 62), (tm 63)]), od 65 (.build [(1, (tm 58)), (1, (tm
 64))]), od 66 (.call 78 [(tm 65)]), od 67 (.build [(2, (tm 57)), (2, (tm 66))]), on (.stR 10 4 (tm 10) (tm 67)), od 11 (.mv (ki 0))] [kp [10, 11] [10]]) .ret))))
def q00 : List RV := [.cell 10 4 true, .tmp 11]
/- probecard/launches.Test (function 45) -/
abbrev Ua : IC := (.seq (.reg [od 5 (.box true (tm 0)), od 8 (.box true (tm 3)), od 10 (.mv kN), od 11 (.mv (ki 0))] [kp [1, 2, 4, 5, 8] []]) (.seq (.seq (.reg [od 17 (lG 4 5), om 18 1, om 19 2, od 20 (lG 4 8), om 21 4, od 22 (.call 107 [(tm 17),
 (tm 18), (tm 19), (tm 20), (tm 21)]), om 12 22] [kp [1, 2, 4, 5, 8, 12] []]) (.seq (.reg [om 23 12, od 24 (.bin .neq (tm 23) (ki 0))] [kp [1, 2, 4, 5, 8, 12, 24] []]) (.cond (tm 24) (.seq (.reg [om 25 12, od 10 (.mv kN), om 11 25]
 [kp [10, 11] []]) .ret) .skip))) (.seq (.reg [od 27 (lG 4 5), om 28 1, od 29 (fa 2 8), od 30 (fa 0 29), od 31 (ld 1 30), od 32 (fa 0 8), od 33 (fa 1 32), od 34 (ld 1 33), od 35 (.build [(1, (tm 31)), (1, (tm 34))]), od 36 (.call 42
 [(tm 27), (tm 28), (tm 35)]), om 26 36, od 37 (ex 26 0), od 38 (ex 26 1), om 13 37, om 14 38] [kp [1, 2, 4, 8, 13] []]) (.seq (.reg [om 39 1, od 40 (le 0 39), od 41 (.mk 68 1 [(.int .u8 0)] (tm 40) (tm 40)), om 15 41] [.frz 41, kp
 [1, 2, 4, 8, 13, 15] [41]]) (.seq (.reg [od 42 (fa 0 8), od 43 (fa 0 42), od 44 (ld 1 43), od 45 (.bsl true 68 1 [(ku 0)]), om 46 15, od 47 (.bsl true 37 1 [(tm 44), (tm 45), (tm 46)]), od 48 (.call 91 [(tm 47)]), om 16 48] [kp [1,
 2, 4, 8, 13, 16] []]) (.seq (.seq (.reg [om 49 2, od 50 (.bin .eql (tm 49) (ku 1))] [kp [1, 4, 8, 13, 16, 50] []]) (.cond (tm 50) (.reg [od 51 (fa 0 8), od 52 (fa 0 51), od 53 (ld 1 52), od 54 (.bsl true 68 1 [(ku 1)]), om 55 4, od
 56 (.bsl true 37 1 [(tm 53), (tm 54), (tm 55)]), od 57 (.call 91 [(tm 56)]), om 16 57] [kp [1, 13, 16] []]) .skip)) (.seq (.reg [om 58 13, om 59 1, od 60 (.call 39 [(tm 59)]), om 61 16, od 62 (.call 74 [(tm 61)]), od 63 (.bsl true
 37 1 [(tm 62)]), od 64 (.call 108 [(tm 58), (tm 60), (tm 63)]), od 65 (.call 104 [(tm 64)]), om 10 65, od 11 (.mv (ki 0))] [kp [10, 11] []]) .ret)))))))
def Ub : List RV := [.tmp 10, .tmp 11]
/- probecard/launches.Capture (function 46) -/
abbrev Wi : IC := (.seq (.reg [od 3 (.box true (tm 0)), od 4 (.box true (tm 1)), od 6 (.alloc false [(.slice none 0 0), (.slice none 0 0), (.slice none 0 0), (.slice none 0 0)]), od 7 (.mv (ki 0))] [kp [2, 3, 4, 6] [6]]) (.seq (.reg [od 12 (lG 4 3),
 od 13 (lG 2 4), od 14 (.call 15 [(tm 12), (tm 13)]), om 11 14, od 15 (ex 11 0), od 16 (ex 11 1), od 17 (ex 11 2), od 8 (.alloc false [(.slice none 0 0), (.slice none 0 0)]), on (.store 2 (tm 8) (tm 15)), om 9 16, om 10 17] [kp [2,
 4, 6, 8, 10] [6, 8]]) (.seq (.block 0 (.seq (.reg [om 19 10, od 20 (.bin .neq (tm 19) (ki 0)), om 18 20] [kp [2, 4, 6, 8, 10, 18] [6, 8]]) (.cond (tm 18) (.seq (.reg [od 21 (.build [(2, (.const (.agg #[(.slice none 0 0), (.slice
 none 0 0)]))), (2, (.const (.agg #[(.slice none 0 0), (.slice none 0 0)])))]), om 22 10, on (.store 4 (tm 6) (tm 21)), om 7 22] [kp [6, 7] [6]]) .ret) (.seq (.reg [om 24 2, od 25 (le 0 24), od 26 (fa 0 4), od 27 (ld 1 26), od 28
 (le 0 27), od 29 (.bin .neq (tm 25) (tm 28)), om 23 29] [kp [2, 4, 6, 8, 23] [6, 8]]) (.cond (tm 23) (.seq (.reg [od 30 (.build [(2, (.const (.agg #[(.slice none 0 0), (.slice none 0 0)]))), (2, (.const (.agg #[(.slice none 0 0),
 (.slice none 0 0)])))]), on (.store 4 (tm 6) (tm 30)), od 7 (.mv (ki 8))] [kp [6, 7] [6]]) .ret) (.seq (.reg [om 32 2, od 33 (.call 76 [(tm 32), (.func 77)]), om 31 33] [kp [2, 4, 6, 8, 31] [6, 8]]) (.cond (tm 31) (.seq (.reg [od
 34 (.build [(2, (.const (.agg #[(.slice none 0 0), (.slice none 0 0)]))), (2, (.const (.agg #[(.slice none 0 0), (.slice none 0 0)])))]), on (.store 4 (tm 6) (tm 34)), od 7 (.mv (ki 1))] [kp [6, 7] [6]]) .ret) .skip))))))) (.seq
 (.reg [od 35 (.ldT 2 true (tm 4)), od 36 (.call 78 [(tm 35)]), om 37 2, od 38 (fa 1 8), od 39 (.ldR 8 1 false (tm 38)), od 40 (.build [(1, (tm 37)), (1, (tm 39))]), od 41 (.call 78 [(tm 40)]), od 42 (.build [(2, (tm 36)), (2, (tm
 41))]), on (.stR 6 4 (tm 6) (tm 42)), od 7 (.mv (ki 0))] [kp [6, 7] [6]]) .ret))))
def Wj : List RV := [.cell 6 4 true, .tmp 7]
/- probecard/launches.Apply (function 47) -/
abbrev q01 : IC := (.seq (.reg [od 6 (.box true (tm 0)), od 10 (.box true (tm 4)), od 12 (.alloc false [(.slice none 0 0), (.slice none 0 0)]), od 13 (.mv (ki 0))] [kp [1, 2, 3, 5, 6, 10, 12] [12]]) (.seq (.reg [od 21 (lG 4 6), om 22 1, om 23 2, od
 24 (lG 4 10), om 25 5, od 26 (.call 45 [(tm 21), (tm 22), (tm 23), (tm 24), (tm 25)]), om 20 26, od 27 (ex 20 0), od 28 (ex 20 1), om 14 27, om 15 28] [kp [1, 3, 6, 12, 14, 15] [12]]) (.seq (.seq (.reg [om 29 15, od 30 (.bin .neq
 (tm 29) (ki 0))] [kp [1, 3, 6, 12, 14, 15, 30] [12]]) (.cond (tm 30) (.seq (.reg [od 31 (.build [(1, kN), (1, kN)]), om 32 15, on (.store 2 (tm 12) (tm 31)), om 13 32] [kp [12, 13] [12]]) .ret) .skip)) (.seq (.reg [od 34 (lG 4 6),
 om 35 1, od 36 (.call 29 [(tm 34), (tm 35)]), om 33 36, od 37 (ex 33 0), od 38 (ex 33 1), od 16 (.alloc false [(.slice none 0 0), (.slice none 0 0), (.slice none 0 0), (.slice none 0 0), (.slice none 0 0), (.int .i64 0), (.slice
 none 0 0), (.slice none 0 0)]), on (.store 8 (tm 16) (tm 37)), om 17 38] [kp [1, 3, 6, 12, 14, 16] [12, 16]]) (.seq (.reg [od 40 (fa 0 16), od 41 (lG 4 40), om 42 3, om 43 14, od 44 (.call 36 [(tm 41), (tm 42), (tm 43)]), om 39 44,
 od 45 (ex 39 0), od 46 (ex 39 1), od 47 (ex 39 2), om 18 45, om 19 46, om 15 47] [kp [1, 6, 12, 15, 18] [12]]) (.seq (.seq (.reg [om 48 15, od 49 (.bin .neq (tm 48) (ki 0))] [kp [1, 6, 12, 15, 18, 49] [12]]) (.cond (tm 49) (.seq
 (.reg [od 50 (.build [(1, kN), (1, kN)]), om 51 15, on (.store 2 (tm 12) (tm 50)), om 13 51] [kp [12, 13] [12]]) .ret) .skip)) (.seq (.reg [od 52 (.ldT 4 true (tm 6)), om 53 1, om 54 18, od 55 (.slice 2 (tm 54) (some (ki 1)) none
 none), od 56 (.call 43 [(tm 52), (tm 53), (tm 55)]), od 57 (ex 56 0), od 58 (ex 56 1), on (.stR 12 2 (tm 12) (tm 57)), om 13 58] [kp [12, 13] [12]]) .ret)))))))
def q02 : List RV := [.cell 12 2 true, .tmp 13]
/- probecard/probecardlaw36.same (function 25) -/
abbrev q4l : IC := .gh (.seq (.seq (.reg [om 11 5, om 12 0, od 13 (le 0 12), od 14 (.bin .lss (tm 11) (tm 13))] [kp [0, 1, 5, 14] []]) (.cond (tm 14) .skip (.exit 0))) (.seq (.block 1 (.seq (.reg [om 17 0, om 18 5, od 19 (ia 1 17 18), od 20 (ld 1
 19), om 21 1, om 22 5, od 23 (ia 1 21 22), od 24 (ld 1 23), od 25 (.bin .neq (tm 20) (tm 24))] [kp [0, 1, 5, 25] []]) (.cond (tm 25) (.seq (.reg [od 4 (.mv kF)] [kp [4] []]) .ret) .skip))) (.reg [om 15 5, od 16 (.bin .add (tm 15)
 (ki 1)), om 5 16] [kp [0, 1, 5] []]))) [kp [0, 1, 5] []]
def Ux : IC := .loop q4l
abbrev q4m : IC := (.seq (.reg [od 4 (.mv kF)] [kp [0, 1] []]) (.seq (.seq (.reg [om 6 0, od 7 (le 0 6), om 8 1, od 9 (le 0 8), od 10 (.bin .neq (tm 7) (tm 9))] [kp [0, 1, 10] []]) (.cond (tm 10) (.seq (.reg [od 4 (.mv kF)] [kp [4] []]) .ret) .skip))
 (.seq (.seq (.reg [od 5 (.mv (ki 0))] [kp [0, 1, 5] []]) (.block 0 Ux)) (.seq (.reg [od 4 (.mv kT)] [kp [4] []]) .ret))))
theorem q03 (h : ∀ K : St → Prop, K = run P Γ Ux Q → run P Γ q4l (Ax K Q) s) : run P Γ Ux Q s := Aj h
def q4n : List RV := [.tmp 4]
/- probecard/probecardlaw36.ring (function 81) -/
abbrev q4o : IC := (.seq (.reg [od 0 (.alloc false [(.slice none 0 0), (.slice none 0 0), (.slice none 0 0), (.slice none 0 0)])] [kp [0] [0]]) (.seq (.reg [od 1 (.build [(1, (ku 0)), (1, kN), (1, (ki 0)), (1, (ki 0))]), od 2 (.bsl true 3 1 [(ki
 3)]), od 3 (.build [(1, (ku 14)), (1, (tm 2)), (1, (ki 0)), (1, (ki 0))]), od 4 (.bsl true 3 1 [(ki 1)]), od 5 (.build [(1, (ku 14)), (1, (tm 4)), (1, (ki 0)), (1, (ki 0))]), od 6 (.bsl true 3 1 [(ki 0), (ki 2)]), od 7 (.build [(1,
 (ku 5)), (1, (tm 6)), (1, (ki 0)), (1, (ki 0))]), od 8 (.bsl true 104 4 [(tm 1), (tm 3), (tm 5), (tm 7)]), od 9 (.bsl true 9 1 [(.const (sV [97])), (.const (sV [102])), (.const (sV [103])), (.const (sV [110]))]), od 10 (.bsl true 3
 1 [(ki 3)]), od 11 (.build [(1, (tm 8)), (1, (tm 9)), (1, kN), (1, (tm 10))]), on (.store 4 (tm 0) (tm 11))] [kp [0] [0]]) .ret))
def q4p : List RV := [.cell 0 4 true]
/- probecard/probecardlaw36.lives (function 28) -/
abbrev q33 : IC := (.seq (.reg [od 0 (.mv kF)] [kp [] []]) (.seq (.reg [od 10 (.bsl true 68 1 [(ku 1)]), od 11 (.bsl true 68 1 [(ku 0), (ku 1)]), od 12 (.build [(1, (tm 10)), (1, (tm 11))]), od 1 (.alloc false [(.slice none 0 0), (.slice none 0 0)]),
 on (.store 2 (tm 1) (tm 12))] [kp [1] [1]]) (.seq (.reg [od 13 (.bsl true 3 1 [(ki 1), (ki 2)]), od 14 (.bsl true 33 1 [(tm 13)]), om 2 14] [kp [1, 2] [1]]) (.seq (.reg [od 16 (.call 81 []), od 17 (.ldR 1 2 true (tm 1)), od 18
 (.bsl true 68 1 [(ku 0)]), od 19 (.call 46 [(tm 16), (tm 17), (tm 18)]), om 15 19, od 20 (ex 15 0), od 21 (ex 15 1), od 3 (.alloc false [(.slice none 0 0), (.slice none 0 0), (.slice none 0 0), (.slice none 0 0)]), on (.stR 3 4 (tm
 3) (tm 20)), om 4 21] [kp [1, 2, 3, 4] [1, 3]]) (.seq (.reg [od 23 (.call 81 []), om 24 2, od 25 (.ldR 1 2 true (tm 1)), od 26 (.bsl true 68 1 [(ku 0)]), od 27 (.bsl true 68 1 [(ku 1)]), od 28 (.call 24 [(tm 23), (tm 24), (tm 25),
 (tm 26), (tm 27)]), om 22 28, od 29 (ex 22 0), od 30 (ex 22 1), od 5 (.alloc false [(.slice none 0 0), (.slice none 0 0), (.slice none 0 0), (.slice none 0 0)]), on (.stR 5 4 (tm 5) (tm 29)), om 6 30] [kp [2, 3, 4, 5, 6] [3, 5]])
 (.seq (.reg [od 32 (.call 81 []), om 33 2, od 34 (.bsl true 68 1 [(ku 1), (ku 0)]), od 35 (.call 23 [(tm 32), (tm 33), (tm 34)]), om 31 35, od 36 (ex 31 0), od 37 (ex 31 1), od 38 (ex 31 2), om 7 36, om 8 37, om 9 38] [kp [3, 4, 5,
 6, 7, 8, 9] [3, 5]]) (.seq (.seq (.reg [om 39 4, od 40 (.bin .neq (tm 39) (ki 0)), om 41 40, oF 42 (.mv (tm 6)) 41, oF 43 (.bin .neq (tm 42) (ki 0)) 41, od 44 (.pick (tm 41) kT (tm 43)), om 45 44, oF 46 (.mv (tm 9)) 45, oF 47 (.bin
 .neq (tm 46) (ki 0)) 45, od 48 (.pick (tm 45) kT (tm 47)), om 49 48, oF 50 (fa 2 3) 49, oF 51 (fa 1 50) 49, oF 52 (ld 1 51) 49, oF 53 (le 0 52) 49, oF 54 (.bin .neq (tm 53) (ki 2)) 49, od 55 (.pick (tm 49) kT (tm 54)), om 56 55, oF
 57 (fa 2 5) 56, oF 58 (fa 1 57) 56, oF 59 (ld 1 58) 56, oF 60 (le 0 59) 56, oF 61 (.bin .neq (tm 60) (ki 2)) 56, od 62 (.pick (tm 56) kT (tm 61)), om 63 62, oF 64 (.mv (tm 7)) 63, oF 65 (le 0 64) 63, oF 66 (.bin .neq (tm 65) (ki
 2)) 63, od 67 (.pick (tm 63) kT (tm 66)), om 68 67, oF 69 (.mv (tm 8)) 68, oF 70 (le 0 69) 68, oF 71 (.bin .neq (tm 70) (ki 1)) 68, od 72 (.pick (tm 68) kT (tm 71))] [kp [3, 5, 7, 8, 72] [3, 5]]) (.cond (tm 72) (.seq (.reg [od 0
 (.mv kF)] [kp [0] []]) .ret) .skip)) (.seq (.reg [od 73 (fa 2 3), od 74 (fa 1 73), od 75 (ld 1 74), od 76 (.iadr 1 (tm 75) (ki 0)), od 77 (ld 1 76), od 78 (.bin .eql (tm 77) (ku 1)), om 79 78, oT 80 (fa 2 3) 79, oT 81 (fa 1 80) 79,
 oT 82 (ld 1 81) 79, oT 83 (.iadr 1 (tm 82) (ki 1)) 79, oT 84 (ld 1 83) 79, oT 85 (.bin .eql (tm 84) (ku 0)) 79, od 86 (.pick (tm 79) (tm 85) kF), om 87 86, oT 88 (fa 2 5) 87, oT 89 (fa 1 88) 87, oT 90 (ld 1 89) 87, oT 91 (.iadr 1
 (tm 90) (ki 0)) 87, oT 92 (ld 1 91) 87, oT 93 (.bin .eql (tm 92) (ku 1)) 87, od 94 (.pick (tm 87) (tm 93) kF), om 95 94, oT 96 (fa 2 5) 95, oT 97 (fa 1 96) 95, oT 98 (ld 1 97) 95, oT 99 (.iadr 1 (tm 98) (ki 1)) 95, oT 100 (ld 1 99)
 95, oT 101 (.bin .eql (tm 100) (ku 0)) 95, od 102 (.pick (tm 95) (tm 101) kF), om 103 102, oT 104 (.mv (tm 7)) 103, oT 105 (.iadr 1 (tm 104) (ki 0)) 103, oT 106 (ld 1 105) 103, oT 107 (.bin .eql (tm 106) (ku 0)) 103, od 108 (.pick
 (tm 103) (tm 107) kF), om 109 108, oT 110 (.mv (tm 7)) 109, oT 111 (.iadr 1 (tm 110) (ki 1)) 109, oT 112 (ld 1 111) 109, oT 113 (.bin .eql (tm 112) (ku 2)) 109, od 114 (.pick (tm 109) (tm 113) kF), om 115 114, oT 116 (.mv (tm 8))
 115, oT 117 (.iadr 1 (tm 116) (ki 0)) 115, oT 118 (ld 1 117) 115, oT 119 (.bin .eql (tm 118) (ku 1)) 115, od 120 (.pick (tm 115) (tm 119) kF), om 0 120] [kp [0] []]) .ret))))))))
def q34 : List RV := [.tmp 0]
/- (probecard/probecardlaw36.Draw).scan (function 44) -/
abbrev Y9 : IC := .gh (.seq (.seq (.reg [om 8 6, om 9 1, od 10 (le 0 9), od 11 (.bin .lss (tm 8) (tm 10))] [kp [1, 2, 5, 6, 11] [31]]) (.cond (tm 11) .skip (.exit 0))) (.seq (.block 1 (.seq (.reg [od 7 (.mv (ku 0))] [kp [1, 2, 5, 6, 7] [31]]) (.seq
 (.seq (.reg [od 14 (fa 18 2), od 15 (ld 1 14), od 16 (le 0 15), od 17 (.bin .gtr (tm 16) (ki 0))] [kp [1, 2, 5, 6, 7, 17] [31]]) (.cond (tm 17) (.reg [od 18 (fa 18 2), od 19 (ld 1 18), om 20 6, od 21 (fa 18 2), od 22 (ld 1 21), od
 23 (le 0 22), od 24 (.bin .rem (tm 20) (tm 23)), od 25 (ia 1 19 24), od 26 (ld 1 25), od 27 (.bin .rem (tm 26) (ku 4)), om 7 27] [kp [1, 2, 5, 6, 7] [31]]) .skip)) (.reg [om 28 5, om 29 7, od 30 (.bsl true 68 1 [(tm 29)]), od 31
 (.app false 68 1 (tm 28) (tm 30)), om 5 31] [kp [1, 2, 5, 6] [31]])))) (.reg [om 12 6, od 13 (.bin .add (tm 12) (ki 1)), om 6 13] [kp [1, 2, 5, 6] [31]]))) [kp [1, 2, 5, 6] [31]]
def J4 : IC := .loop Y9
abbrev Ya : IC := (.seq (.reg [od 2 (.box true (tm 0)), od 4 (.mv kN)] [kp [1, 2] []]) (.seq (.reg [od 5 (.mv kN)] [.nl 5 31 68 1, kp [1, 2, 5] [31]]) (.seq (.seq (.reg [od 6 (.mv (ki 0))] [kp [1, 2, 5, 6] [31]]) (.block 0 J4)) (.seq
 (.reg [om 32 5, om 4 32] [kp [4] [31]]) .ret))))
theorem Ri (h : ∀ K : St → Prop, K = run P Γ J4 Q → run P Γ Y9 (Ax K Q) s) : run P Γ J4 Q s := Aj h
def Yb : List RV := [.tmp 4]
/- (probecard/probecardlaw36.Draw).from (function 48) -/
abbrev Yc : IC := .gh (.seq (.seq (.reg [om 12 7, om 13 6, od 14 (.bin .lss (tm 12) (tm 13))] [kp [2, 5, 6, 7, 14] [34]]) (.cond (tm 14) .skip (.exit 0))) (.seq (.block 1 (.seq (.reg [od 8 (.mv (ku 2))] [kp [2, 5, 6, 7, 8] [34]]) (.seq (.seq (.reg
 [od 17 (fa 19 2), od 18 (ld 1 17), od 19 (le 0 18), od 20 (.bin .gtr (tm 19) (ki 0))] [kp [2, 5, 6, 7, 8, 20] [34]]) (.cond (tm 20) (.reg [od 21 (fa 19 2), od 22 (ld 1 21), om 23 7, od 24 (fa 19 2), od 25 (ld 1 24), od 26 (le 0
 25), od 27 (.bin .rem (tm 23) (tm 26)), od 28 (ia 1 22 27), od 29 (ld 1 28), od 30 (.bin .rem (tm 29) (ku 4)), om 8 30] [kp [2, 5, 6, 7, 8] [34]]) .skip)) (.reg [om 31 5, om 32 8, od 33 (.bsl true 68 1 [(tm 32)]), od 34 (.app false
 68 1 (tm 31) (tm 33)), om 5 34] [kp [2, 5, 6, 7] [34]])))) (.reg [om 15 7, od 16 (.bin .add (tm 15) (ki 1)), om 7 16] [kp [2, 5, 6, 7] [34]]))) [kp [2, 5, 6, 7] [34]]
def J5 : IC := .loop Yc
abbrev Yd : IC := (.seq (.reg [od 2 (.box true (tm 0)), od 3 (.box true (tm 1)), od 4 (.mv kN)] [kp [2, 3] []]) (.seq (.reg [od 5 (.mv kN)] [.nl 5 34 68 1, kp [2, 3, 5] [34]]) (.seq (.reg [od 9 (lG 4 3), od 10 (.call 27 [(tm 9)]), od 11 (le 0 10),
 om 6 11] [kp [2, 5, 6] [34]]) (.seq (.seq (.reg [od 7 (.mv (ki 0))] [kp [2, 5, 6, 7] [34]]) (.block 0 J5)) (.seq (.reg [om 35 5, om 4 35] [kp [4] [34]]) .ret)))))
theorem Rj (h : ∀ K : St → Prop, K = run P Γ J5 Q → run P Γ Yc (Ax K Q) s) : run P Γ J5 Q s := Aj h
def Ye : List RV := [.tmp 4]
end
end Go.Lg
namespace Go.Lg
open Go Go.Proofs
theorem q66 : B1 Tryz.prog 77 q17 5 1 q18 = true := by kernel_rfl
theorem q4Q : B1 Tryz.prog 78 Y2 12 1 Y3 = true := by kernel_rfl
theorem q35 : B1 Tryz.prog 79 Wg 70 4 Wh = true := by kernel_rfl
theorem q5J : B1 Tryz.prog 107 R9 77 5 Rb = true := by kernel_rfl
theorem q98 : B1 Tryz.prog 75 q4k 14 2 q0k = true := by kernel_rfl
theorem Vy : B1 Tryz.prog 108 K2 95 3 K3 = true := by kernel_rfl
theorem q4R : B1 Tryz.prog 23 Y7 100 3 Y8 = true := by kernel_rfl
theorem q5K : B1 Tryz.prog 24 Zz 68 5 q00 = true := by kernel_rfl
theorem q67 : B1 Tryz.prog 45 Ua 66 5 Ub = true := by kernel_rfl
theorem q36 : B1 Tryz.prog 46 Wi 43 3 Wj = true := by kernel_rfl
theorem q5L : B1 Tryz.prog 47 q01 59 6 q02 = true := by kernel_rfl
theorem q99 : B1 Tryz.prog 25 q4m 26 2 q4n = true := by kernel_rfl
theorem q9A : B1 Tryz.prog 81 q4o 12 0 q4p = true := by kernel_rfl
theorem q8A : B1 Tryz.prog 28 q33 121 0 q34 = true := by kernel_rfl
theorem q4S : B1 Tryz.prog 44 Ya 33 2 Yb = true := by kernel_rfl
theorem q4T : B1 Tryz.prog 48 Yd 36 2 Ye = true := by kernel_rfl
end Go.Lg
namespace Go.Lg
open Go
section
variable {P : Program} {Γ : Tables} {Q : AX → St → Prop} {s : St}
/- probecard/shifts.Play (function 36) -/
abbrev q37 : IC := .gh (.seq (.reg [od 41 (.bin .lss (tm 40) (tm 39))] [kp [1, 3, 13, 38, 39, 40, 41] [59]]) (.seq (.cond (tm 41) .skip (.exit 0)) (.seq (.block 1 (.seq (.reg [od 42 (ia 1 38 40), od 43 (ld 1 42), om 15 43] [kp [1, 3, 13, 15, 38, 39,
 40] [59]]) (.seq (.reg [od 45 (lG 4 3), om 46 15, om 47 1, od 48 (.build [(1, (tm 46)), (1, (tm 47))]), od 49 (.call 15 [(tm 45), (tm 48)]), om 44 49, od 50 (ex 44 0), od 51 (ex 44 1), od 52 (ex 44 2), od 16 (.alloc false [(.slice
 none 0 0), (.slice none 0 0)]), on (.store 2 (tm 16) (tm 50)), om 17 51, om 18 52] [kp [3, 13, 16, 18, 38, 39, 40] [16, 59]]) (.seq (.seq (.reg [om 53 18, od 54 (.bin .neq (tm 53) (ki 0))] [kp [3, 13, 16, 18, 38, 39, 40, 54] [16,
 59]]) (.cond (tm 54) (.seq (.reg [om 55 18, od 6 (.mv kN), od 7 (.mv kN), om 8 55] [kp [6, 7, 8] []]) .ret) .skip)) (.seq (.reg [om 56 13, od 57 (lG 2 16), od 58 (.bsl true 42 2 [(tm 57)]), od 59 (.app false 42 2 (tm 56) (tm 58)),
 om 13 59] [kp [3, 13, 16, 38, 39, 40] [16, 59]]) (.reg [od 60 (fa 1 16), od 61 (ld 1 60), od 62 (.call 93 [(tm 61)]), om 1 62] [kp [1, 3, 13, 38, 39, 40] [59]])))))) (.reg [od 63 (.bin .add (tm 40) (ki 1)), om 40 63] [kp [1, 3, 13,
 38, 39, 40] [59]])))) [kp [1, 3, 13, 38, 39, 40] [59]]
def Rk : IC := .loop q37
abbrev q38 : IC := (.seq (.reg [od 3 (.box true (tm 0)), od 6 (.mv kN), od 7 (.mv kN), od 8 (.mv (ki 0))] [kp [1, 2, 3] []]) (.seq (.reg [om 19 1, od 20 (.call 93 [(tm 19)]), om 1 20] [kp [1, 2, 3] []]) (.seq (.seq (.reg [om 21 2, od 22 (le 0 21), od
 23 (.bin .eql (tm 22) (ki 0))] [kp [1, 2, 3, 23] []]) (.cond (tm 23) (.seq (.reg [od 24 (lG 4 3), od 25 (.call 99 [(tm 24)]), od 9 (.alloc false [(.slice none 0 0), (.slice none 0 0)]), on (.store 2 (tm 9) (tm 25))] [kp [1, 2, 3,
 9] [9]]) (.seq (.reg [om 26 1, od 27 (fa 1 9), on (.store 1 (tm 27) (tm 26))] [kp [1, 2, 3, 9] [9]]) (.seq (.reg [od 29 (lG 4 3), od 30 (lG 2 9), od 31 (.call 15 [(tm 29), (tm 30)]), om 28 31, od 32 (ex 28 0), od 33 (ex 28 1), od
 34 (ex 28 2), od 10 (.alloc false [(.slice none 0 0), (.slice none 0 0)]), on (.store 2 (tm 10) (tm 32)), om 11 33, om 12 34] [kp [1, 2, 3, 12] []]) (.seq (.reg [om 35 12, od 36 (.bin .neq (tm 35) (ki 0))] [kp [1, 2, 3, 12, 36]
 []]) (.cond (tm 36) (.seq (.reg [om 37 12, od 6 (.mv kN), od 7 (.mv kN), om 8 37] [kp [6, 7, 8] []]) .ret) .skip))))) .skip)) (.seq (.reg [od 13 (.mv kN)] [.nl 13 59 42 2, kp [1, 2, 3, 13] [59]]) (.seq (.seq (.reg [om 38 2, od 39
 (le 0 38), od 40 (.mv (ki 0))] [kp [1, 3, 13, 38, 39, 40] [59]]) (.gh (.block 0 Rk) [.frz 59])) (.seq (.reg [om 64 13, od 65 (.call 100 [(tm 64)]), om 66 1, od 67 (.call 74 [(tm 66)]), om 6 65, om 7 67, od 8 (.mv (ki
 0))] [kp [6, 7, 8] []]) .ret))))))
theorem Yf (h : ∀ K : St → Prop, K = run P Γ Rk Q → run P Γ q37 (Ax K Q) s) : run P Γ Rk Q s := Aj h
def q39 : List RV := [.tmp 6, .tmp 7, .tmp 8]
/- slices.Clip[[]probecard/api.Response,probecard/api.Response] (function 100) -/
abbrev K4 : IC := (.seq (.reg [od 2 (.mv kN)] [kp [0] []]) (.seq (.reg [om 3 0, om 4 0, od 5 (le 0 4), om 6 0, od 7 (le 0 6), od 8 (.slice 2 (tm 3) none (some (tm 5)) (some (tm 7))), om 2 8] [kp [2] []]) .ret))
def K5 : List RV := [.tmp 2]
/- probecard/probecardlaw35.state (function 35) -/
abbrev q3A : IC := .gh (.seq (.seq (.reg [om 9 4, od 10 (fa 1 1), od 11 (ld 1 10), od 12 (le 0 11), od 13 (.bin .lss (tm 9) (tm 12))] [kp [1, 2, 3, 4, 13] [2, 3, 27]]) (.cond (tm 13) .skip (.exit 0))) (.seq (.block 1 (.seq (.reg [od 16 (fa 1 1), od
 17 (ld 1 16), om 18 4, od 19 (ia 1 17 18), od 20 (ld 1 19), om 5 20] [kp [1, 2, 3, 4, 5] [2, 3, 27]]) (.seq (.seq (.reg [om 21 5, od 22 (.bin .gtr (tm 21) (ku 1))] [kp [1, 2, 3, 4, 5, 22] [2, 3, 27]]) (.cond (tm 22) (.reg [od 5
 (.mv (ku 2))] [kp [1, 2, 3, 4, 5] [2, 3, 27]]) .skip)) (.reg [od 23 (fa 1 3), od 24 (ld 1 23), om 25 5, od 26 (.bsl true 68 1 [(tm 25)]), od 27 (.app false 68 1 (tm 24) (tm 26)), od 28 (fa 1 3), on (.store 1 (tm 28) (tm 27))] [kp
 [1, 2, 3, 4] [2, 3, 27]])))) (.reg [om 14 4, od 15 (.bin .add (tm 14) (ki 1)), om 4 15] [kp [1, 2, 3, 4] [2, 3, 27]]))) [kp [1, 2, 3, 4] [2, 3, 27]]
def Rl : IC := .loop q3A
abbrev q3B : IC := (.seq (.reg [od 1 (.box true (tm 0)), od 2 (.alloc false [(.slice none 0 0), (.slice none 0 0)])] [kp [1, 2] [2, 27]]) (.seq (.reg [od 6 (fa 0 1), od 7 (ld 1 6), od 8 (.build [(1, (tm 7)), (1, kN)]), od 3 (.alloc false [(.slice
 none 0 0), (.slice none 0 0)]), on (.store 2 (tm 3) (tm 8))] [.nlb 3 1 27 68 1, kp [1, 2, 3] [2, 3, 27]]) (.seq (.seq (.reg [od 4 (.mv (ki 0))] [kp [1, 2, 3, 4] [2, 3, 27]]) (.gh (.block 0 Rl) [.frz 27])) (.seq (.reg
 [od 29 (lG 2 3), on (.store 2 (tm 2) (tm 29))] [kp [2] [2, 27]]) .ret))))
theorem Yg (h : ∀ K : St → Prop, K = run P Γ Rl Q → run P Γ q3A (Ax K Q) s) : run P Γ Rl Q s := Aj h
def q3C : List RV := [.cell 2 2 true]
/- probecard/probecardlaw35.state (function 35) -/
end
end Go.Lg
namespace Go.Lg
open Go Go.Proofs
theorem q8B : B1 Tryz.prog 36 q38 68 3 q39 = true := by kernel_rfl
theorem Vz : B1 Tryz.prog 100 K4 9 1 K5 = true := by kernel_rfl
theorem q8C : B1 Tryz.prog 26 q3B 30 1 q3C = true := by kernel_rfl
end Go.Lg
set_option linter.unusedSimpArgs false
namespace Go.Lg
open Go
attribute [simp] D4 Da T.one AV.one Value.oneCell' Dq Fv Ft B0 q13 ret qFt
@[simp] theorem qBi (a b : Int) : (a == b) = decide (a = b) := rfl
@[simp] theorem qMz (a b : Int) : (a != b) = !decide (a = b) := rfl
@[simp] theorem qN0 (s : List UInt8) : (ByteArray.mk s.toArray).size = s.length := by simp [ByteArray.size]
def Ae {α : Type} (f : α → T) (l : List α) : List (List T) := l.map fun n => [f n]
theorem A0 {α : Type} {f : α → T} {l : List α} : (Ae f l).length = l.length := by simp [Ae]
theorem Bc {α : Type} {f : α → T} {l : List α} {i : Nat} (d : α) (h : i < l.length) : (Ae f l)[i]?.getD [] = [f (l[i]?.getD d)] := by simp [Ae, h]
theorem Aa {α : Type} {f : α → T} {l : List α} : Ec 1 (Ae f l) := by
  intro e he; obtain ⟨x, _, rfl⟩ := List.mem_map.1 he; rfl
theorem qHA {α : Type} {f : α → T} {l m : List α} : Ae f l ++ Ae f m = Ae f (l ++ m) := by simp [Ae]
theorem qAm {α : Type} {f : α → T} {l : List α} {n : Nat} : (Ae f l).drop n = Ae f (l.drop n) := by simp [Ae, List.map_drop]
theorem q72 {α : Type} {f : α → T} {l : List α} {n : Nat} : (Ae f l).take n = Ae f (l.take n) := by simp [Ae, List.map_take]
theorem Gf {α : Type} {f : α → T} {l : List α} {n : Nat} {x : α} : (Ae f l).set n [f x] = Ae f (l.set n x) := by simp [Ae, List.map_set]
theorem Dh {α : Type} {f : α → T} : Ae f [] = [] := rfl
@[simp] theorem q8a {s : Nat} : Ec s [] := fun e h => by cases h
def As {α : Type} (f : α → List T) (l : List α) : List (List T) := l.map f
theorem Af {α : Type} {f : α → List T} {l : List α} : (As f l).length = l.length := by simp [As]
theorem D8 {α : Type} {f : α → List T} {l : List α} {i : Nat} (d : α) (h : i < l.length) : (As f l)[i]?.getD [] = f (l[i]?.getD d) := by simp [As, h]
theorem q3D {α : Type} {f : α → List T} {l : List α} {s : Nat} (h : ∀ x, (f x).length = s) : Ec s (As f l) := by
  intro e he; obtain ⟨x, _, rfl⟩ := List.mem_map.1 he; exact h x
theorem q3E {α : Type} {f : α → List T} {l m : List α} : As f l ++ As f m = As f (l ++ m) := by simp [As]
@[simp] theorem Bf {α : Type} {f : α → T} {l : List α} : (Ae f l).take l.length = Ae f l := by rw [List.take_of_length_le (by simp [Ae])]
theorem By {α : Type} {f : α → T} {l : List α} {x : α} : Ae f l ++ [[f x]] = Ae f (l ++ [x]) := by simp [Ae]
@[simp] theorem Uy {α : Type} {f : α → List T} {l : List α} : (As f l).take l.length = As f l := by rw [List.take_of_length_le (by simp [As])]
theorem Q5 {α : Type} {f : α → List T} {l : List α} {x : α} : As f l ++ [f x] = As f (l ++ [x]) := by simp [As]
structure Sl (α : Type) where
  l : List α
  cap : Option Nat
  nl : Option Bool
abbrev tI (n : Int) : T := .v (.int .i64 n)
abbrev tK (n : Int) : T := .v (.int .u8 n)
abbrev tB (b : Bool) : T := .v (.bool b)
abbrev Ao (l : List Int) : List (List T) := Ae tI l
def Aw (s : Sl Int) : T := .sl (Ao s.l) s.cap s.nl
@[simp] theorem qKa {cs : List AV} : Ou (.bx cs) = ∀ c ∈ cs, Ft c := rfl
@[simp] theorem qKb {s : ByteArray} {p : Nat} : Ou (.it s p) = True := rfl
@[simp] theorem qJh {ty s : Nat} : Ou (.sl ty s []) = True := by simp [Ou]
theorem Xb {α : Type} {f : α → T} {l : List α} {ty s : Nat} (h : ∀ x, B0 (f x) = true) : Ou (.sl ty s (Ae f l)) := by
  intro e he t ht
  obtain ⟨x, _, rfl⟩ := List.mem_map.1 he
  simp only [List.mem_singleton] at ht; subst ht; exact h x
@[simp] theorem qLc {l : List Int} {ty s : Nat} : Ou (.sl ty s (Ae tI l)) = True := eq_true (Xb fun _ => rfl)
@[simp] theorem qLd {l : List Int} {ty s : Nat} : Ou (.sl ty s (Ae tK l)) = True := eq_true (Xb fun _ => rfl)
@[simp] theorem qLe {l : List Bool} {ty s : Nat} : Ou (.sl ty s (Ae tB l)) = True := eq_true (Xb fun _ => rfl)
section
variable {P : Program} {Γ : Tables} {hp : List (Nat × Bl)} {f : FuncId} {avs : List AV} {K : T → Prop} {ts : List T} {res : T}
theorem A8 (h : Ai P Γ f ts res) (ht : Bd (avs.map toT) = some ts) (hk : K res) : q7h P Γ hp f avs K ⟨⟩ := ⟨res, .inl ⟨ts, ht, h⟩, hk⟩
theorem A6 (h : Ab P Γ f ts res) (ht : Bd (avs.map (Ak hp 4)) = some ts) (hk : K res) : q7h P Γ hp f avs K ⟨⟩ := ⟨res, .inr ⟨ts, ht, h⟩, hk⟩
theorem Ap {ic : IC} {N n : Nat} {rvs : List RV} {args : List T} (hc : B1 P f ic N n rvs = true) (hn : args.length = n) (h : run P Γ ic (ret false rvs fun r => r = res) ⟨params 0 args, []⟩) : Ai P Γ f args res := by
  obtain ⟨r, h1, rfl⟩ := run_pure hc hn h; exact h1
theorem Ad {ic : IC} {N n : Nat} {rvs : List RV} {args : List T} (hc : B1 P f ic N n rvs = true) (hn : args.length = n) (h : run P Γ ic (ret true rvs fun r => r = res) ⟨params 0 args, []⟩) : Ab P Γ f args res := by
  obtain ⟨r, h1, rfl⟩ := qAj hc hn h; exact h1
theorem G5 {ic : IC} {N n : Nat} {rvs : List RV} {args : List AV} {r0 : AV} {hp' : List (Nat × Bl)} (hc : B1 P f ic N n rvs = true) (hn : args.length = n) (h : run P Γ ic (qFt rvs fun r h => r = r0 ∧ h = hp') ⟨qBh 0 args, hp⟩) : F4 P Γ f hp args r0 hp' := by
  obtain ⟨r, h', h1, rfl, rfl⟩ := qH7 hc hn h; exact h1
end
end Go.Lg
namespace Go.Lg
open Go
section
variable {P : Program} {Γ : Tables} {Q : AX → St → Prop} {s : St}
/- probecard/netlists.Check (function 129) -/
abbrev q04 : IC := (.seq (.reg [od 1 (.box true (tm 0)), od 2 (.mv (ki 0))] [kp [1] []]) (.seq (.reg [od 6 (lG 4 1), od 7 (.call 109 [(tm 6)]), om 5 7, od 8 (ex 5 0), od 9 (ex 5 1), om 3 8, om 4 9] [kp [4] []]) (.seq (.reg [om 10 4, om 2 10] [kp [2]
 []]) .ret)))
def q05 : List RV := [.tmp 2]
/- probecard/netlists.Of (function 80) -/
abbrev q3F : IC := .gh (.seq (.reg [od 12 (.bin .lss (tm 11) (tm 10))] [kp [1, 5, 9, 10, 11, 12] [23]]) (.seq (.cond (tm 12) .skip (.exit 0)) (.seq (.block 1 (.seq (.reg [om 13 11, od 14 (ia 4 9 11), od 15 (lG 4 14), od 7 (.alloc false [(.int .u8 0),
 (.slice none 0 0), (.int .i64 0), (.int .i64 0)]), om 6 13, on (.store 4 (tm 7) (tm 15))] [kp [1, 5, 6, 7, 9, 10, 11] [7, 23]]) (.seq (.reg [om 16 1, od 17 (fa 0 7), od 18 (ld 1 17), od 19 (.call 131 [(tm 16), (tm 18)])] [kp [1, 5,
 6, 9, 10, 11, 19] [23]]) (.cond (tm 19) (.reg [om 20 5, om 21 6, od 22 (.bsl true 3 1 [(tm 21)]), od 23 (.app false 3 1 (tm 20) (tm 22)), om 5 23] [kp [1, 5, 9, 10, 11] [23]]) .skip)))) (.reg [od 24 (.bin .add (tm 11) (ki 1)), om
 11 24] [kp [1, 5, 9, 10, 11] [23]])))) [kp [1, 5, 9, 10, 11] [23]]
def Rm : IC := .loop q3F
abbrev q3G : IC := (.seq (.reg [od 2 (.box true (tm 0)), od 4 (.mv kN)] [kp [1, 2] []]) (.seq (.reg [od 5 (.mv kN)] [.nl 5 23 3 1, kp [1, 2, 5] [23]]) (.seq (.seq (.reg [od 8 (fa 0 2), od 9 (ld 1 8), od 10 (le 0 9), od 11 (.mv (ki 0))] [kp [1, 5, 9,
 10, 11] [23]]) (.block 0 Rm)) (.seq (.reg [om 25 5, od 26 (.hcall 85 [(tm 25)] [23] 26000), om 4 26] [kp [4] [23]]) .ret))))
theorem Yh (h : ∀ K : St → Prop, K = run P Γ Rm Q → run P Γ q3F (Ax K Q) s) : run P Γ Rm Q s := Aj h
def q3H : List RV := [.tmp 4]
/- probecard/netlists.States (function 27) -/
abbrev Yi : IC := (.seq (.reg [od 1 (.box true (tm 0)), od 2 (.mv kN)] [kp [1] []]) (.seq (.reg [od 3 (lG 4 1), od 4 (.bsl true 102 1 [(ku 14)]), od 5 (.call 80 [(tm 3), (tm 4)]), om 2 5] [kp [2] []]) .ret))
def Yj : List RV := [.tmp 2]
/- probecard/netlists.Comb (function 56) -/
abbrev q19 : IC := (.seq (.reg [od 2 (.mv kF)] [kp [0] []]) (.seq (.reg [om 3 0, od 4 (.bin .geq (tm 3) (ku 1)), om 5 4, oT 6 (.mv (tm 0)) 5, oT 7 (.bin .leq (tm 6) (ku 13)) 5, od 8 (.pick (tm 5) (tm 7) kF), om 2 8] [kp [2] []]) .ret))
def q1A : List RV := [.tmp 2]
/- slices.Clip[[]int,int] (function 85) -/
abbrev P9 : IC := (.seq (.reg [od 2 (.mv kN)] [kp [0] [1000000]]) (.seq (.reg [om 3 0, om 4 0, od 5 (le 0 4), om 6 0, od 7 (le 0 6), od 8 (.slice 1 (tm 3) none (some (tm 5)) (some (tm 7))), om 2 8] [kp [2] [1000000]]) .ret))
def Pe : List RV := [.tmp 2]
/- slices.Clip[[][]int,[]int] (function 90) -/
abbrev Wl : IC := (.seq (.reg [od 2 (.mv kN)] [kp [0] []]) (.seq (.reg [om 3 0, om 4 0, od 5 (le 0 4), om 6 0, od 7 (le 0 6), od 8 (.slice 1 (tm 3) none (some (tm 5)) (some (tm 7))), om 2 8] [kp [2] []]) .ret))
def Wm : List RV := [.tmp 2]
/- probecard/netlists.Levels (function 109) -/
def F8 : List RO := [om 45 6, om 46 8, od 47 (ia 1 45 46), od 48 (ld 1 47), od 49 (.bin .eql (tm 48) (ki 0))]
def Nz : List RO := [om 50 7, om 51 8, od 52 (.bsl true 3 1 [(tm 51)]), od 53 (.app false 3 1 (tm 50) (tm 52)), om 7 53]
def O0 : List RO := [od 54 (.bin .add (tm 31) (ki 1)), om 31 54]
abbrev Yk : IC := .gh (.seq (.reg [od 32 (.bin .lss (tm 31) (tm 30))] [kp [1, 5, 6, 7, 29, 30, 31, 32] [23, 27, 53]]) (.seq (.cond (tm 32) .skip (.exit 0)) (.seq (.block 1 (.seq (.reg [om 33 31, od 34 (ia 4 29 31), od 35 (lG 4 34), od 9 (.alloc
 false [(.int .u8 0), (.slice none 0 0), (.int .i64 0), (.int .i64 0)]), om 8 33, on (.store 4 (tm 9) (tm 35))] [kp [1, 5, 6, 7, 8, 9, 29, 30, 31] [9, 23, 27, 53]]) (.seq (.seq (.reg [od 36 (fa 0 9), od 37 (ld 1 36), od 38 (.call 56
 [(tm 37)])] [kp [1, 5, 6, 7, 8, 9, 29, 30, 31, 38] [9, 23, 27, 53]]) (.cond (tm 38) (.reg [om 39 6, om 40 8, od 41 (fa 1 9), od 42 (ld 1 41), od 43 (le 0 42), od 44 (ia 1 39 40), on (.store 1 (tm 44) (tm 43))] [kp [1, 5, 6, 7, 8,
 29, 30, 31] [23, 27, 53]]) .skip)) (.seq (.reg F8 [kp [1, 5, 6, 7, 8, 29, 30, 31, 49] [23, 27, 53]]) (.cond (tm 49) (.reg Nz [kp [1, 5, 6, 7, 29, 30, 31] [23, 27, 53]]) .skip))))) (.reg
 O0 [kp [1, 5, 6, 7, 29, 30, 31] [23, 27, 53]])))) [kp [1, 5, 6, 7, 29, 30, 31] [23, 27, 53]]
def J6 : IC := .loop Yk
abbrev Yl : IC := .gh (.seq (.reg [od 79 (.bin .lss (tm 78) (tm 77))] [kp [1, 5, 6, 7, 10, 11, 12, 76, 77, 78, 79] [23, 27, 53]]) (.seq (.cond (tm 79) .skip (.exit 4)) (.seq (.block 5 (.seq (.reg [od 80 (ia 2 76 78), od 81 (lG 2 80), od 14 (.alloc
 false [(.int .i64 0), (.int .i64 0)]), on (.store 2 (tm 14) (tm 81))] [kp [1, 5, 6, 7, 10, 11, 12, 14, 76, 77, 78] [14, 23, 27, 53]]) (.seq (.seq (.reg [od 82 (fa 0 1), od 83 (ld 1 82), od 84 (fa 0 14), od 85 (ld 1 84), od 86 (ia 4
 83 85), od 87 (fa 0 86), od 88 (ld 1 87), od 89 (.call 56 [(tm 88)]), od 90 (.un .not (tm 89))] [kp [1, 5, 6, 7, 10, 11, 12, 14, 76, 77, 78, 90] [14, 23, 27, 53]]) (.cond (tm 90) (.exit 5) .skip)) (.seq (.reg [om 91 5, od 92 (fa 0
 14), od 93 (.ldR 14 1 false (tm 92)), om 94 5, od 95 (fa 0 14), od 96 (.ldR 14 1 false (tm 95)), od 97 (ia 1 94 96), od 98 (.ldR 23 1 false (tm 97)), om 99 5, om 100 12, od 101 (ia 1 99 100), od 102 (.ldR 23 1 false (tm 101)), od
 103 (.bin .add (tm 102) (ki 1)), od 104 (.mmx true [(tm 98), (tm 103)]), od 105 (ia 1 91 93), on (.stR 23 1 (tm 105) (tm 104))] [kp [1, 5, 6, 7, 10, 11, 12, 14, 76, 77, 78] [14, 23, 27, 53]]) (.seq (.reg [om 106 6, od 107 (fa 0
 14), od 108 (ld 1 107), od 109 (ia 1 106 108), od 110 (ld 1 109), od 111 (.bin .sub (tm 110) (ki 1)), od 112 (ia 1 106 108), on (.store 1 (tm 112) (tm 111))] [kp [1, 5, 6, 7, 10, 11, 12, 14, 76, 77, 78] [14, 23, 27, 53]]) (.seq
 (.reg [om 113 6, od 114 (fa 0 14), od 115 (ld 1 114), od 116 (ia 1 113 115), od 117 (ld 1 116), od 118 (.bin .eql (tm 117) (ki 0))] [kp [1, 5, 6, 7, 10, 11, 12, 14, 76, 77, 78, 118] [14, 23, 27, 53]]) (.cond (tm 118) (.reg [om 119
 7, od 120 (fa 0 14), od 121 (ld 1 120), od 122 (.bsl true 3 1 [(tm 121)]), oz 123 (.app false 3 1 (tm 119) (tm 122)) 53, om 7 123] [kp [1, 5, 6, 7, 10, 11, 12, 76, 77, 78] [23, 27, 53]]) .skip))))))) (.reg [od 124 (.bin .add (tm
 78) (ki 1)), om 78 124] [kp [1, 5, 6, 7, 10, 11, 12, 76, 77, 78] [23, 27, 53]])))) [kp [1, 5, 6, 7, 10, 11, 12, 76, 77, 78] [23, 27, 53]]
def J7 : IC := .loop Yl
abbrev Ym : IC := .gh (.seq (.seq (.reg [om 57 11, om 58 7, od 59 (le 0 58), od 60 (.bin .lss (tm 57) (tm 59))] [kp [1, 5, 6, 7, 10, 11, 60] [23, 27, 53]]) (.cond (tm 60) .skip (.exit 2))) (.block 3 (.seq (.reg [om 61 7, om 62 11, od 63 (ia 1 61
 62), od 64 (ld 1 63), om 12 64] [kp [1, 5, 6, 7, 10, 11, 12] [23, 27, 53]]) (.seq (.reg [om 65 11, od 66 (.bin .add (tm 65) (ki 1)), om 11 66] [kp [1, 5, 6, 7, 10, 11, 12] [23, 27, 53]]) (.seq (.seq (.reg [om 67 10, om 68 12, od 69
 (ia 1 67 68), od 70 (ld 1 69), od 71 (le 0 70), od 72 (.bin .eql (tm 71) (ki 0))] [kp [1, 5, 6, 7, 10, 11, 12, 72] [23, 27, 53]]) (.cond (tm 72) (.exit 3) .skip)) (.seq (.reg [om 73 10, om 74 12, od 75 (ia 1 73 74), od 76 (ld 1
 75), od 77 (le 0 76), od 78 (.mv (ki 0))] [kp [1, 5, 6, 7, 10, 11, 12, 76, 77, 78] [23, 27, 53]]) (.block 4 J7))))))) [kp [1, 5, 6, 7, 10, 11] [23, 27, 53]]
def J8 : IC := .loop Ym
abbrev Yn : IC := (.seq (.reg [od 1 (.box true (tm 0)), od 2 (.mv kN), od 3 (.mv (ki 0))] [kp [1] []]) (.scope (.seq (.seq (.reg [od 15 (lG 4 1), od 16 (.call 148 [(tm 15)]), om 4 16] [kp [1, 4] []]) (.seq (.reg [om 17 4, od 18 (.bin .neq (tm 17)
 (ki 0))] [kp [1, 4, 18] []]) (.cond (tm 18) (.seq (.reg [om 19 4, od 2 (.mv kN), om 3 19] [kp [2, 3] [23]]) .ret) .skip))) (.seq (.reg [od 20 (fa 0 1), od 21 (ld 1 20), od 22 (le 0 21), od 23 (.mk 3 1 [(.int .i64 0)] (tm 22) (tm
 22)), om 5 23] [kp [1, 5] [23]]) (.seq (.reg [od 24 (fa 0 1), od 25 (ld 1 24), od 26 (le 0 25), od 27 (.mk 3 1 [(.int .i64 0)] (tm 26) (tm 26)), om 6 27] [kp [1, 5, 6] [23, 27]]) (.seq (.reg [od 7 (.mv kN)] [.nl 7 53 3 1, kp [1, 5,
 6, 7] [23, 27, 53]]) (.seq (.seq (.reg [od 28 (fa 0 1), od 29 (ld 1 28), od 30 (le 0 29), od 31 (.mv (ki 0))] [kp [1, 5, 6, 7, 29, 30, 31] [23, 27, 53]]) (.block 0 J6)) (.seq (.reg [od 55 (lG 4 1), od 56 (.call 149
 [(tm 55)]), om 10 56] [kp [1, 5, 6, 7, 10] [23, 27, 53]]) (.seq (.reg [od 11 (.mv (ki 0))] [kp [1, 5, 6, 7, 10, 11] [23, 27, 53]]) (.seq .skip (.seq (.block 2 J8) (.seq (.seq (.reg [om 125 11, od 126 (fa 0 1), od
 127 (ld 1 126), od 128 (le 0 127), od 129 (.bin .lss (tm 125) (tm 128))] [kp [5, 129] [23]]) (.cond (tm 129) (.seq (.reg [od 2 (.mv kN), od 3 (.mv (ki 6))] [kp [2, 3] [23]]) .ret) .skip)) (.seq (.reg [om 130 5, om 2 130, od 3 (.mv
 (ki 0))] [kp [2, 3] [23]]) .ret)))))))))))))
theorem Rn (h : ∀ K : St → Prop, K = run P Γ J6 Q → run P Γ Yk (Ax K Q) s) : run P Γ J6 Q s := Aj h
theorem Ro (h : ∀ K : St → Prop, K = run P Γ J7 Q → run P Γ Yl (Ax K Q) s) : run P Γ J7 Q s := Aj h
theorem Rq (h : ∀ K : St → Prop, K = run P Γ J8 Q → run P Γ Ym (Ax K Q) s) : run P Γ J8 Q s := Aj h
attribute [simp] F8 Nz O0
def J9 : List RV := [.tmp 2, .tmp 3]
/- slices.Contains[[]probecard/api.Kind,probecard/api.Kind] (function 131) -/
abbrev K6 : IC := (.seq (.reg [od 4 (.mv kF)] [kp [0, 1] []]) (.seq (.reg [om 5 0, om 6 1, od 7 (.call 161 [(tm 5), (tm 6)]), od 8 (.bin .geq (tm 7) (ki 0)), om 4 8] [kp [4] []]) .ret))
def K7 : List RV := [.tmp 4]
/- probecard/netlists.shape (function 148) -/
abbrev q06 : IC := .gh (.seq (.reg [od 39 (.bin .lss (tm 38) (tm 37))] [kp [1, 36, 37, 38, 39] []]) (.seq (.cond (tm 39) .skip (.exit 1)) (.seq (.block 2 (.seq (.reg [od 40 (ia 4 36 38), od 41 (lG 4 40), od 4 (.alloc false [(.int .u8 0), (.slice none
 0 0), (.int .i64 0), (.int .i64 0)]), on (.store 4 (tm 4) (tm 41))] [kp [1, 4, 36, 37, 38] [4]]) (.seq (.reg [od 42 (lG 4 1), od 43 (lG 4 4), od 44 (.call 171 [(tm 42), (tm 43)]), om 5 44] [kp [1, 5, 36, 37, 38] []]) (.seq (.reg
 [om 45 5, od 46 (.bin .neq (tm 45) (ki 0))] [kp [1, 5, 36, 37, 38, 46] []]) (.cond (tm 46) (.seq (.reg [om 47 5, om 2 47] [kp [2] []]) .ret) .skip))))) (.reg [od 48 (.bin .add (tm 38) (ki 1)), om 38 48] [kp [1, 36, 37, 38] []]))))
 [kp [1, 36, 37, 38] []]
def K8 : IC := .loop q06
abbrev q07 : IC := .gh (.seq (.reg [od 58 (.bin .lss (tm 57) (tm 56))] [kp [1, 55, 56, 57, 58] []]) (.seq (.cond (tm 58) .skip (.exit 3)) (.seq (.block 4 (.seq (.reg [od 59 (ia 3 55 57), od 60 (lG 3 59), od 8 (.alloc false [(.slice none 0 0), (.slice
 none 0 0), (.int .i64 0)]), on (.store 3 (tm 8) (tm 60))] [kp [1, 8, 55, 56, 57] [8]]) (.seq (.reg [od 61 (lG 4 1), od 62 (lG 3 8), od 63 (.call 173 [(tm 61), (tm 62)]), om 9 63] [kp [1, 9, 55, 56, 57] []]) (.seq (.reg [om 64 9, od
 65 (.bin .neq (tm 64) (ki 0))] [kp [1, 9, 55, 56, 57, 65] []]) (.cond (tm 65) (.seq (.reg [om 66 9, om 2 66] [kp [2] []]) .ret) .skip))))) (.reg [od 67 (.bin .add (tm 57) (ki 1)), om 57 67] [kp [1, 55, 56, 57] []])))) [kp [1, 55,
 56, 57] []]
def K9 : IC := .loop q07
abbrev Ey : IC := (.seq (.reg [od 1 (.box true (tm 0)), od 2 (.mv (ki 0))] [kp [1] []]) (.seq (.block 0 (.seq (.reg [od 11 (fa 0 1), od 12 (ld 1 11), od 13 (le 0 12), od 14 (.bin .gtr (tm 13) (ki 16384)), om 15 14, oF 16 (fa 2 1) 15, oF 17 (ld 1 16)
 15, oF 18 (le 0 17) 15, oF 19 (.bin .gtr (tm 18) (ki 16)) 15, od 20 (.pick (tm 15) kT (tm 19)), om 21 20, oF 22 (fa 3 1) 21, oF 23 (ld 1 22) 21, oF 24 (le 0 23) 21, oF 25 (.bin .gtr (tm 24) (ki 16384)) 21, od 26 (.pick (tm 21) kT
 (tm 25)), om 10 26] [kp [1, 10] []]) (.cond (tm 10) (.seq (.reg [od 2 (.mv (ki 3))] [kp [2] []]) .ret) (.seq (.reg [od 28 (fa 1 1), od 29 (ld 1 28), od 30 (le 0 29), od 31 (fa 0 1), od 32 (ld 1 31), od 33 (le 0 32), od 34 (.bin
 .neq (tm 30) (tm 33)), om 27 34] [kp [1, 27] []]) (.cond (tm 27) (.seq (.reg [od 2 (.mv (ki 8))] [kp [2] []]) .ret) .skip))))) (.seq (.seq (.reg [od 35 (fa 0 1), od 36 (ld 1 35), od 37 (le 0 36), od 38 (.mv (ki 0))] [kp [1, 36, 37,
 38] []]) (.block 1 K8)) (.seq (.seq (.reg [od 49 (lG 4 1), od 50 (.call 172 [(tm 49)]), om 6 50] [kp [1, 6] []]) (.seq (.reg [om 51 6, od 52 (.bin .neq (tm 51) (ki 0))] [kp [1, 6, 52] []]) (.cond (tm 52) (.seq (.reg
 [om 53 6, om 2 53] [kp [2] []]) .ret) .skip))) (.seq (.seq (.reg [od 54 (fa 2 1), od 55 (ld 1 54), od 56 (le 0 55), od 57 (.mv (ki 0))] [kp [1, 55, 56, 57] []]) (.block 3 K9)) (.seq (.seq (.reg [od 68 (fa 3 1), od 69
 (ld 1 68), od 70 (lG 4 1), od 71 (.call 175 [(tm 70)]), od 72 (.call 174 [(tm 69), (tm 71)])] [kp [72] []]) (.cond (tm 72) (.seq (.reg [od 2 (.mv (ki 1))] [kp [2] []]) .ret) .skip)) (.seq (.reg [od 2 (.mv (ki 0))] [kp [2] []])
 .ret)))))))
theorem Tj (h : ∀ K : St → Prop, K = run P Γ K8 Q → run P Γ q06 (Ax K Q) s) : run P Γ K8 Q s := Aj h
theorem Tm (h : ∀ K : St → Prop, K = run P Γ K9 Q → run P Γ q07 (Ax K Q) s) : run P Γ K9 Q s := Aj h
def Cm : List RV := [.tmp 2]
/- probecard/netlists.Fanout (function 149) -/
def Ea : List RO := [om 37 3, om 38 8, om 39 3, om 40 8, od 41 (ia 1 39 40), od 42 (ld 1 41), om 43 5, om 44 7, od 45 (.build [(1, (tm 43)), (1, (tm 44))]), od 46 (.bsl true 205 2 [(tm 45)]), od 47 (.app false 205 2 (tm 42) (tm 46)), od 48 (ia 1 37
 38), on (.store 1 (tm 48) (tm 47))]
def O3 : List RO := [od 49 (.bin .add (tm 28) (ki 1)), om 28 49]
abbrev Yo : IC := .gh (.seq (.reg [od 29 (.bin .lss (tm 28) (tm 27))] [.keepB [3, 4, 5, 18, 19, 20, 26, 27, 28, 29] [14] 100000 16384]) (.seq (.cond (tm 29) .skip (.exit 2)) (.seq (.block 3 (.seq (.reg [om 30 28, od 31 (ia 1 26 28), od 32 (ld 1 31),
 om 7 30, om 8 32] [.keepB [3, 4, 5, 7, 8, 18, 19, 20, 26, 27, 28] [14] 100000 16384]) (.seq (.reg [om 33 4, om 34 8, od 35 (.callv (tm 33) [(tm 34)]), od 36 (.un .not (tm 35))] [.keepB [3, 4, 5, 7, 8, 18, 19, 20, 26, 27, 28, 36]
 [14] 100000 16384]) (.cond (tm 36) (.reg Ea [.renS 47 100000 8, .keepB [3, 4, 5, 18, 19, 20, 26, 27, 28] [14] 100000 16384]) .skip)))) (.reg O3 [.keepB [3, 4, 5, 18, 19, 20, 26, 27, 28] [14] 100000
 16384])))) [.keepB [3, 4, 5, 18, 19, 20, 26, 27, 28] [14] 100000 16384]
def Ja : IC := .loop Yo
abbrev Yp : IC := .gh (.seq (.reg [od 21 (.bin .lss (tm 20) (tm 19))] [.keepB [3, 4, 18, 19, 20, 21] [14] 100000 16384]) (.seq (.cond (tm 21) .skip (.exit 0)) (.seq (.block 1 (.seq (.reg [om 22 20, od 23 (ia 4 18 20), od 24 (lG 4 23), od 6 (.alloc
 false [(.int .u8 0), (.slice none 0 0), (.int .i64 0), (.int .i64 0)]), om 5 22, on (.store 4 (tm 6) (tm 24))] [.keepB [3, 4, 5, 6, 18, 19, 20] [6, 14] 100000 16384]) (.seq (.reg [od 25 (fa 1 6), od 26 (ld 1 25), od 27 (le 0 26),
 od 28 (.mv (ki 0))] [.keepB [3, 4, 5, 18, 19, 20, 26, 27, 28] [14] 100000 16384]) (.block 2 Ja)))) (.reg [od 50 (.bin .add (tm 20) (ki 1)), om 20 50] [.keepB [3, 4, 18, 19, 20] [14] 100000 16384])))) [.keepB [3, 4,
 18, 19, 20] [14] 100000 16384]
def Jb : IC := .loop Yp
abbrev Yq : IC := .gh (.seq (.reg [od 54 (.bin .lss (tm 53) (tm 52))] [kp [3, 51, 52, 53, 54] [14, 47]]) (.seq (.cond (tm 54) .skip (.exit 4)) (.seq (.block 5 (.seq (.reg [om 55 53, od 56 (ia 1 51 53), od 57 (ld 1 56), om 9 55, om 10 57] [kp [3, 9,
 10, 51, 52, 53] [14, 47]]) (.reg [om 58 3, om 59 9, om 60 10, od 61 (.call 176 [(tm 60)]), od 62 (ia 1 58 59), on (.store 1 (tm 62) (tm 61))] [kp [3, 51, 52, 53] [14, 47]]))) (.reg [od 63 (.bin .add (tm 53) (ki 1)), om 53 63] [kp
 [3, 51, 52, 53] [14, 47]])))) [kp [3, 51, 52, 53] [14, 47]]
def Jc : IC := .loop Yq
abbrev Yr : IC := (.seq (.reg [od 1 (.box true (tm 0)), od 2 (.mv kN)] [kp [1] []]) (.seq (.reg [od 11 (fa 0 1), od 12 (ld 1 11), od 13 (le 0 12), od 14 (.mkB 203 [(.slice none 0 0)] (tm 13) (tm 13)), om 3 14] [.keepB [1, 3] [14] 100000 16384])
 (.seq (.reg [od 15 (lG 4 1), od 16 (.call 175 [(tm 15)]), om 4 16] [.keepB [1, 3, 4] [14] 100000 16384]) (.seq (.seq (.reg [od 17 (fa 0 1), od 18 (ld 1 17), od 19 (le 0 18), od 20 (.mv (ki 0))] [.keepB [3, 4, 18, 19, 20] [14]
 100000 16384]) (.block 0 Jb)) (.seq (.seq (.reg [om 51 3, od 52 (le 0 51), od 53 (.mv (ki 0))] [.frzs 100000 16384, kp [3, 51, 52, 53] [14, 47]]) (.block 4 Jc)) (.seq (.reg [om 64 3, om 2 64] [kp [2]
 [14, 47]]) .ret))))))
theorem Rr (h : ∀ K : St → Prop, K = run P Γ Ja Q → run P Γ Yo (Ax K Q) s) : run P Γ Ja Q s := Aj h
theorem Rt (h : ∀ K : St → Prop, K = run P Γ Jb Q → run P Γ Yp (Ax K Q) s) : run P Γ Jb Q s := Aj h
theorem Ru (h : ∀ K : St → Prop, K = run P Γ Jc Q → run P Γ Yq (Ax K Q) s) : run P Γ Jc Q s := Aj h
attribute [simp] Ea O3
def Ys : List RV := [.tmp 2]
/- slices.Index[[]probecard/api.Kind,probecard/api.Kind] (function 161) -/
abbrev Oc : IC := .gh (.seq (.reg [od 9 (.bin .lss (tm 8) (tm 7))] [kp [0, 1, 7, 8, 9] []]) (.seq (.cond (tm 9) .skip (.exit 0)) (.seq (.block 1 (.seq (.reg [om 10 8, om 5 10] [kp [0, 1, 5, 7, 8] []]) (.seq (.reg [om 11 1, om 12 0, om 13 5, od 14
 (ia 1 12 13), od 15 (ld 1 14), od 16 (.bin .eql (tm 11) (tm 15))] [kp [0, 1, 5, 7, 8, 16] []]) (.cond (tm 16) (.seq (.reg [om 17 5, om 4 17] [kp [4] []]) .ret) .skip)))) (.reg [od 18 (.bin .add (tm 8) (ki 1)), om 8 18] [kp [0, 1,
 7, 8] []])))) [kp [0, 1, 7, 8] []]
def Ek : IC := .loop Oc
def Hh : List RO := [od 4 (.mv (.const (.int .i64 (-1))))]
abbrev Oe : IC := (.seq (.reg [od 4 (.mv (ki 0))] [kp [0, 1] []]) (.seq (.seq (.reg [om 6 0, od 7 (le 0 6), od 8 (.mv (ki 0))] [kp [0, 1, 7, 8] []]) (.block 0 Ek)) (.seq (.reg Hh [kp [4] []]) .ret)))
theorem Jo (h : ∀ K : St → Prop, K = run P Γ Ek Q → run P Γ Oc (Ax K Q) s) : run P Γ Ek Q s := Aj h
attribute [simp] Hh
def Ds : List RV := [.tmp 4]
/- probecard/logic.Fanin (function 114) -/
abbrev Yt : IC := (.seq (.reg [od 2 (.mv (ki 0)), od 3 (.mv (ki 0))] [kp [0] []]) (.seq (.seq (.reg [om 4 0, od 5 (.conv .i64 (tm 4)), od 6 (.bin .geq (tm 5) (ki 16))] [kp [0, 6] []]) (.cond (tm 6) (.seq (.reg [od 2 (.mv (ki 0)), od 3 (.mv (.const
 (.int .i64 (-1))))] [kp [2, 3] []]) .ret) .skip)) (.seq (.reg [om 7 0, od 8 (.iadrA 16 2 (.global 0) (tm 7)), od 9 (.iadrA 2 1 (tm 8) (ki 0)), od 10 (ld 1 9), om 11 0, od 12 (.iadrA 16 2 (.global 0) (tm 11)), od 13 (.iadrA 2 1 (tm
 12) (ki 1)), od 14 (ld 1 13), om 2 10, om 3 14] [kp [2, 3] []]) .ret)))
def Yu : List RV := [.tmp 2, .tmp 3]
/- strings.IndexByte (function 126) -/
abbrev V8 : IC := (.seq (.reg [od 4 (.mv (ki 0))] [kp [0, 1] []]) (.seq (.reg [om 5 0, om 6 1, od 7 (.call 159 [(tm 5), (tm 6)]), om 4 7] [kp [4] []]) .ret))
def V9 : List RV := [.tmp 4]
/- probecard/netlists.node (function 171) -/
abbrev q1B : IC := (.seq (.reg [od 2 (.box true (tm 0)), od 3 (.box true (tm 1)), od 4 (.mv (ki 0))] [kp [2, 3] []]) (.seq (.reg [od 9 (fa 0 3), od 10 (ld 1 9), od 11 (.call 114 [(tm 10)]), om 8 11, od 12 (ex 8 0), od 13 (ex 8 1), om 5 12, om 6 13]
 [kp [2, 3, 5, 6] []]) (.seq (.reg [od 14 (.mkf 190 [(tm 2)]), om 7 14] [kp [2, 3, 5, 6, 7] []]) (.seq (.block 0 (.seq (.reg [od 16 (fa 0 3), od 17 (ld 1 16), od 18 (.bin .gtr (tm 17) (ku 15)), om 15 18] [kp [2, 3, 5, 6, 7, 15] []])
 (.cond (tm 15) (.seq (.reg [od 4 (.mv (ki 7))] [kp [4] []]) .ret) (.seq (.reg [od 20 (fa 1 3), od 21 (ld 1 20), od 22 (le 0 21), om 23 5, od 24 (.bin .lss (tm 22) (tm 23)), om 25 24, oF 26 (fa 1 3) 25, oF 27 (ld 1 26) 25, oF 28 (le
 0 27) 25, oF 29 (.mv (tm 6)) 25, oF 30 (.bin .gtr (tm 28) (tm 29)) 25, od 31 (.pick (tm 25) kT (tm 30)), om 19 31] [kp [2, 3, 7, 19] []]) (.cond (tm 19) (.seq (.reg [od 4 (.mv (ki 8))] [kp [4] []]) .ret) (.seq (.reg [od 33 (fa 1
 3), od 34 (ld 1 33), od 35 (lG 4 2), od 36 (.call 175 [(tm 35)]), od 37 (.call 174 [(tm 34), (tm 36)]), om 32 37] [kp [2, 3, 7, 32] []]) (.cond (tm 32) (.seq (.reg [od 4 (.mv (ki 1))] [kp [4] []]) .ret) (.seq (.reg [od 39 (fa 0 3),
 od 40 (ld 1 39), od 41 (.bin .eql (tm 40) (ku 13)), om 42 41, oT 43 (fa 1 3) 42, oT 44 (ld 1 43) 42, oT 45 (.mv (tm 7)) 42, oT 46 (.call 174 [(tm 44), (tm 45)]) 42, od 47 (.pick (tm 42) (tm 46) kF), om 38 47] [kp [2, 3, 38] []])
 (.cond (tm 38) (.seq (.reg [od 4 (.mv (ki 7))] [kp [4] []]) .ret) (.seq (.reg [od 49 (lG 4 2), od 50 (lG 4 3), od 51 (.call 191 [(tm 49), (tm 50)]), od 52 (.un .not (tm 51)), om 48 52] [kp [48] []]) (.cond (tm 48) (.seq (.reg [od 4
 (.mv (ki 1))] [kp [4] []]) .ret) .skip))))))))))) (.seq (.reg [od 4 (.mv (ki 0))] [kp [4] []]) .ret)))))
def Dx : List RV := [.tmp 4]
/- probecard/netlists.names (function 172) -/
abbrev q08 : IC := .gh (.seq (.reg [od 11 (.bin .lss (tm 10) (tm 9))] [kp [3, 8, 9, 10, 11] [6]]) (.seq (.cond (tm 11) .skip (.exit 0)) (.seq (.block 1 (.seq (.reg [od 12 (ia 1 8 10), od 13 (ld 1 12), om 5 13] [kp [3, 5, 8, 9, 10] [6]]) (.seq (.seq
 (.reg [om 14 5, od 15 (.call 192 [(tm 14)]), od 16 (.un .not (tm 15)), om 17 16, oF 18 (.mv (tm 3)) 17, oF 19 (.mv (tm 5)) 17, oF 20 (.lkup .str (.bool false) false (tm 18) (tm 19)) 17, od 21 (.pick (tm 17) kT (tm 20))] [kp [3, 5,
 8, 9, 10, 21] [6]]) (.cond (tm 21) (.seq (.reg [od 2 (.mv (ki 5))] [kp [2] []]) .ret) .skip)) (.reg [om 22 3, om 23 5, on (.mup .str (tm 22) (tm 23) kT)] [kp [3, 8, 9, 10] [6]])))) (.reg [od 24 (.bin .add (tm 10) (ki 1)), om 10 24]
 [kp [3, 8, 9, 10] [6]])))) [kp [3, 8, 9, 10] [6]]
def Ko : IC := .loop q08
abbrev q09 : IC := (.seq (.reg [od 1 (.box true (tm 0)), od 2 (.mv (ki 0))] [kp [1] []]) (.seq (.reg [od 6 (.mkmap), om 3 6] [kp [1, 3] [6]]) (.seq (.seq (.reg [od 7 (fa 1 1), od 8 (ld 1 7), od 9 (le 0 8), od 10 (.mv (ki 0))] [kp [3, 8, 9, 10] [6]])
 (.block 0 Ko)) (.seq (.reg [od 2 (.mv (ki 0))] [kp [2] []]) .ret))))
theorem Tn (h : ∀ K : St → Prop, K = run P Γ Ko Q → run P Γ q08 (Ax K Q) s) : run P Γ Ko Q s := Aj h
def Rw : List RV := [.tmp 2]
/- probecard/netlists.memory (function 173) -/
abbrev Yv : IC := (.seq (.reg [od 2 (.box true (tm 0)), od 3 (.box true (tm 1)), od 4 (.mv (ki 0))] [kp [2, 3] []]) (.seq (.reg [od 5 (.mv (.func 193))] [kp [2, 3, 5] []]) (.seq (.reg [od 7 (lG 4 2), od 8 (.call 175 [(tm 7)]), om 6 8] [kp [3, 5, 6]
 []]) (.seq (.block 0 (.seq (.reg [om 10 5, od 11 (fa 0 3), od 12 (ld 1 11), od 13 (.callv (tm 10) [(tm 12), (ki 8)]), om 14 13, oF 15 (.mv (tm 5)) 14, oF 16 (fa 1 3) 14, oF 17 (ld 1 16) 14, oF 18 (.callv (tm 15) [(tm 17), (ki 32)])
 14, od 19 (.pick (tm 14) kT (tm 18)), om 9 19] [kp [3, 6, 9] []]) (.cond (tm 9) (.seq (.reg [od 4 (.mv (ki 8))] [kp [4] []]) .ret) (.seq (.reg [od 21 (fa 0 3), od 22 (ld 1 21), om 23 6, od 24 (.call 174 [(tm 22), (tm 23)]), om 25
 24, oF 26 (fa 1 3) 25, oF 27 (ld 1 26) 25, oF 28 (.mv (tm 6)) 25, oF 29 (.call 174 [(tm 27), (tm 28)]) 25, od 30 (.pick (tm 25) kT (tm 29)), om 31 30, oF 32 (.mv (tm 6)) 31, oF 33 (fa 2 3) 31, oF 34 (ld 1 33) 31, oF 35 (.callv (tm
 32) [(tm 34)]) 31, od 36 (.pick (tm 31) kT (tm 35)), om 20 36] [kp [20] []]) (.cond (tm 20) (.seq (.reg [od 4 (.mv (ki 1))] [kp [4] []]) .ret) .skip))))) (.seq (.reg [od 4 (.mv (ki 0))] [kp [4] []]) .ret)))))
def Dv : List RV := [.tmp 4]
/- slices.ContainsFunc[[]int,int] (function 174) -/
abbrev Ll : IC := (.seq (.reg [od 4 (.mv kF)] [kp [0, 1] []]) (.seq (.reg [om 5 0, om 6 1, od 7 (.call 194 [(tm 5), (tm 6)]), od 8 (.bin .geq (tm 7) (ki 0)), om 4 8] [kp [4] []]) .ret))
def Lm : List RV := [.tmp 4]
/- probecard/netlists.outside (function 175) -/
abbrev Wn : IC := (.seq (.reg [od 1 (.box true (tm 0)), od 2 (.mv (.const .nilFunc))] [kp [1] []]) (.seq (.reg [od 3 (.mkf 195 [(tm 1)]), om 2 3] [kp [2] []]) .ret))
def Wp : List RV := [.tmp 2]
/- slices.Clip[[]probecard/api.Line,probecard/api.Line] (function 176) -/
abbrev Q6 : IC := (.seq (.reg [od 2 (.mv kN)] [kp [0] []]) (.seq (.reg [om 3 0, om 4 0, od 5 (le 0 4), om 6 0, od 7 (le 0 6), od 8 (.slice 2 (tm 3) none (some (tm 5)) (some (tm 7))), om 2 8] [kp [2] []]) .ret))
def Q7 : List RV := [.tmp 2]
/- internal/stringslite.IndexByte (function 159) -/
abbrev Ln : IC := (.seq (.reg [od 4 (.mv (ki 0))] [kp [0, 1] []]) (.seq (.reg [om 5 0, om 6 1, od 7 (.call 181 [(tm 5), (tm 6)]), om 4 7] [kp [4] []]) .ret))
def Lo : List RV := [.tmp 4]
/- probecard/netlists.node$1 (function 190) -/
abbrev Yw : IC := (.seq (.reg [od 3 (.mv kF)] [kp [0, 1] []]) (.seq (.reg [od 4 (fa 0 1), od 5 (ld 1 4), om 6 0, od 7 (ia 4 5 6), od 8 (fa 0 7), od 9 (ld 1 8), od 10 (.bin .neq (tm 9) (ku 12)), om 3 10] [kp [3] []]) .ret))
def Yx : List RV := [.tmp 3]
/- probecard/netlists.bit (function 191) -/
abbrev F5 : IC := (.seq (.reg [od 2 (.box true (tm 0)), od 3 (.box true (tm 1)), od 4 (.mv kF)] [kp [2, 3] []]) (.seq (.seq (.reg [od 5 (fa 0 3), od 6 (ld 1 5), od 7 (.bin .neq (tm 6) (ku 15))] [kp [2, 3, 7] []]) (.cond (tm 7) (.seq (.reg [od 8 (fa
 2 3), od 9 (ld 1 8), od 10 (.bin .eql (tm 9) (ki 0)), om 11 10, oT 12 (fa 3 3) 11, oT 13 (ld 1 12) 11, oT 14 (.bin .eql (tm 13) (ki 0)) 11, od 15 (.pick (tm 11) (tm 14) kF), om 4 15] [kp [4] []]) .ret) .skip)) (.seq (.reg [od 16
 (fa 2 3), od 17 (ld 1 16), od 18 (.bin .geq (tm 17) (ki 0)), om 19 18, oT 20 (fa 2 3) 19, oT 21 (ld 1 20) 19, oT 22 (fa 2 2) 19, oT 23 (ld 1 22) 19, oT 24 (le 0 23) 19, oT 25 (.bin .lss (tm 21) (tm 24)) 19, od 26 (.pick (tm 19) (tm
 25) kF), om 27 26, oT 28 (fa 3 3) 27, oT 29 (ld 1 28) 27, oT 30 (.bin .geq (tm 29) (ki 0)) 27, od 31 (.pick (tm 27) (tm 30) kF), om 32 31, oT 33 (fa 3 3) 32, oT 34 (ld 1 33) 32, oT 35 (fa 2 2) 32, oT 36 (ld 1 35) 32, oT 37 (fa 2 3)
 32, oT 38 (ld 1 37) 32, oT 39 (ia 3 36 38) 32, oT 40 (fa 1 39) 32, oT 41 (ld 1 40) 32, oT 42 (le 0 41) 32, oT 43 (.bin .lss (tm 34) (tm 42)) 32, od 44 (.pick (tm 32) (tm 43) kF), om 4 44] [kp [4] []]) .ret)))
def F6 : List RV := [.tmp 4]
/- probecard/netlists.IsName (function 192) -/
abbrev Jd : IC := (.seq (.reg [od 2 (.mv kF)] [kp [0] []]) (.seq (.reg [od 3 (.mv (.func 204))] [kp [0, 3] []]) (.seq (.reg [om 4 0, od 5 (.bin .neq (tm 4) (.const (sV []))), om 6 5, oT 7 (.mv (tm 0)) 6, oT 8 (le 1 7) 6, oT 9 (.bin .leq (tm 8) (ki
 32)) 6, od 10 (.pick (tm 6) (tm 9) kF), om 11 10, oT 12 (.mv (tm 0)) 11, oT 13 (.mv (tm 3)) 11, oT 14 (.call 206 [(tm 12), (tm 13)]) 11, oT 15 (.un .not (tm 14)) 11, od 16 (.pick (tm 11) (tm 15) kF), om 2 16] [kp [2] []]) .ret)))
def Je : List RV := [.tmp 2]
/- probecard/netlists.memory$1 (function 193) -/
abbrev Va : IC := (.seq (.reg [od 4 (.mv kF)] [kp [0, 1] []]) (.seq (.reg [om 5 0, od 6 (le 0 5), od 7 (.bin .eql (tm 6) (ki 0)), om 8 7, oF 9 (.mv (tm 0)) 8, oF 10 (le 0 9) 8, oF 11 (.mv (tm 1)) 8, oF 12 (.bin .gtr (tm 10) (tm 11)) 8, od 13 (.pick
 (tm 8) kT (tm 12)), om 4 13] [kp [4] []]) .ret))
def Vb : List RV := [.tmp 4]
/- slices.IndexFunc[[]int,int] (function 194) -/
abbrev Q8 : IC := .gh (.seq (.reg [od 9 (.bin .lss (tm 8) (tm 7))] [kp [0, 1, 7, 8, 9] []]) (.seq (.cond (tm 9) .skip (.exit 0)) (.seq (.block 1 (.seq (.reg [om 10 8, om 5 10] [kp [0, 1, 5, 7, 8] []]) (.seq (.reg [om 11 1, om 12 0, om 13 5, od 14
 (ia 1 12 13), od 15 (ld 1 14), od 16 (.callv (tm 11) [(tm 15)])] [kp [0, 1, 5, 7, 8, 16] []]) (.cond (tm 16) (.seq (.reg [om 17 5, om 4 17] [kp [4] []]) .ret) .skip)))) (.reg [od 18 (.bin .add (tm 8) (ki 1)), om 8 18] [kp [0, 1, 7,
 8] []])))) [kp [0, 1, 7, 8] []]
def Ez : IC := .loop Q8
abbrev Q9 : IC := (.seq (.reg [od 4 (.mv (ki 0))] [kp [0, 1] []]) (.seq (.seq (.reg [om 6 0, od 7 (le 0 6), od 8 (.mv (ki 0))] [kp [0, 1, 7, 8] []]) (.block 0 Ez)) (.seq (.reg [od 4 (.mv (.const (.int .i64 (-1))))] [kp [4] []])
 .ret)))
theorem Kp (h : ∀ K : St → Prop, K = run P Γ Ez Q → run P Γ Q8 (Ax K Q) s) : run P Γ Ez Q s := Aj h
def I5 : List RV := [.tmp 4]
/- probecard/netlists.outside$1 (function 195) -/
abbrev To : IC := (.seq (.reg [od 3 (.mv kF)] [kp [0, 1] []]) (.seq (.reg [om 4 0, od 5 (.bin .lss (tm 4) (ki 0)), om 6 5, oF 7 (.mv (tm 0)) 6, oF 8 (fa 0 1) 6, oF 9 (ld 1 8) 6, oF 10 (le 0 9) 6, oF 11 (.bin .geq (tm 7) (tm 10)) 6, od 12 (.pick (tm
 6) kT (tm 11)), om 3 12] [kp [3] []]) .ret))
def Tq : List RV := [.tmp 3]
/- probecard/netlists.IsName$1 (function 204) -/
abbrev Gz : IC := (.seq (.reg [od 2 (.mv kF)] [kp [0] []]) (.seq (.reg [om 3 0, od 4 (.bin .leq (tm 3) (.const (.int .i32 32))), om 5 4, oF 6 (.mv (tm 0)) 5, oF 7 (.bin .gtr (tm 6) (.const (.int .i32 126))) 5, od 8 (.pick (tm 5) kT (tm 7)), om 9 8,
 oF 10 (.mv (tm 0)) 9, oF 11 (.call 205 [(.const (sV [40, 41, 61, 44, 35])), (tm 10)]) 9, od 12 (.pick (tm 9) kT (tm 11)), om 2 12] [kp [2] []]) .ret))
def H2 : List RV := [.tmp 2]
/- strings.ContainsRune (function 205) -/
abbrev Qa : IC := (.seq (.reg [od 4 (.mv kF)] [kp [0, 1] []]) (.seq (.reg [om 5 0, om 6 1, od 7 (.call 212 [(tm 5), (tm 6)]), od 8 (.bin .geq (tm 7) (ki 0)), om 4 8] [kp [4] []]) .ret))
def Qb : List RV := [.tmp 4]
/- strings.ContainsFunc (function 206) -/
abbrev Qc : IC := (.seq (.reg [od 4 (.mv kF)] [kp [0, 1] []]) (.seq (.reg [om 5 0, om 6 1, od 7 (.call 213 [(tm 5), (tm 6)]), od 8 (.bin .geq (tm 7) (ki 0)), om 4 8] [kp [4] []]) .ret))
def Qd : List RV := [.tmp 4]
/- strings.IndexRune (function 212) -/
abbrev Vd : IC := (.seq (.reg [od 4 (.mv (ki 0))] [kp [0, 1] []]) (.block 0 (.seq (.reg [om 161 1, od 162 (.bin .leq (.const (.int .i32 0)) (tm 161)), om 163 162, oT 164 (.mv (tm 1)) 163, oT 165 (.bin .lss (tm 164) (.const (.int .i32 128))) 163, od
 166 (.pick (tm 163) (tm 165) kF), om 160 166] [kp [0, 1, 160] []]) (.cond (tm 160) (.seq (.reg [om 167 0, om 168 1, od 169 (.conv .u8 (tm 168)), od 170 (.call 126 [(tm 167), (tm 169)]), om 4 170] [kp [4] []]) .ret) (.seq (.reg [om
 172 1, od 173 (.bin .eql (tm 172) (.const (.int .i32 65533))), om 171 173] [kp [1, 171] []]) (.cond (tm 171) .dead (.seq (.reg [om 184 1, od 185 (.call 214 [(tm 184)]), od 186 (.un .not (tm 185)), om 183 186] [kp [183] []]) (.cond
 (tm 183) .dead .dead))))))))
def Ve : List RV := [.tmp 4]
/- strings.IndexFunc (function 213) -/
abbrev Vf : IC := (.seq (.reg [od 4 (.mv (ki 0))] [kp [0, 1] []]) (.seq (.reg [om 5 0, om 6 1, od 7 (.call 217 [(tm 5), (tm 6), kT]), om 4 7] [kp [4] []]) .ret))
def Vg : List RV := [.tmp 4]
/- unicode/utf8.ValidRune (function 214) -/
abbrev Vh : IC := .gh (.seq (.reg [od 11 (.nxt (tm 10)), od 12 (ex 11 0)] [kp [1, 2, 10, 11, 12] [10]]) (.seq (.cond (tm 12) .skip (.exit 0)) (.block 1 (.seq (.reg [od 13 (ex 11 1), od 14 (ex 11 2), om 7 13, om 8 14] [kp [1, 2, 7, 8, 10] [10]])
 (.seq (.reg [om 15 1, om 16 8, od 17 (.callv (tm 15) [(tm 16)]), om 18 2, od 19 (.eqb true (tm 17) (tm 18))] [kp [1, 2, 7, 10, 19] [10]]) (.cond (tm 19) (.seq (.reg [om 20 7, om 6 20] [kp [6] []]) .ret) .skip)))))) [kp [1, 2, 10]
 [10]]
def H3 : IC := .loop Vh
abbrev Vi : IC := (.seq (.reg [od 6 (.mv (ki 0))] [kp [0, 1, 2] []]) (.seq (.seq (.reg [om 9 0, od 10 (.rng (tm 9))] [kp [1, 2, 10] [10]]) (.block 0 H3)) (.seq (.reg [od 6 (.mv (.const (.int .i64 (-1))))] [kp [6] []]) .ret)))
theorem Og (h : ∀ K : St → Prop, K = run P Γ H3 Q → run P Γ Vh (Ax K Q) s) : run P Γ H3 Q s := Aj h
def Lp : List RV := [.tmp 6]
/- slices.Clone[[]int,int] (function 86) -/
abbrev Hv : IC := (.seq (.reg [od 2 (.mv kN)] [kp [0] []]) (.seq (.seq (.reg [om 3 0, od 4 (.isNil true (tm 3))] [kp [0, 4] []]) (.cond (tm 4) (.seq (.reg [od 2 (.mv kN)] [kp [2] [7]]) .ret) .skip)) (.seq (.reg [od 5 (.bsl true 3 1 []), om 6 0, od 7
 (.app false 3 1 (tm 5) (tm 6)), om 2 7] [kp [2] [7]]) .ret)))
def Hw : List RV := [.tmp 2]
/- probecard/scans.plain (function 132) -/
abbrev q3I : IC := (.seq (.reg [od 1 (.box true (tm 0)), od 2 (.mv (ki 0))] [kp [1] []]) (.seq (.seq (.reg [od 4 (lG 4 1), od 5 (.call 129 [(tm 4)]), om 3 5] [kp [1, 3] []]) (.seq (.reg [om 6 3, od 7 (.bin .neq (tm 6) (ki 0))] [kp [1, 3, 7] []])
 (.cond (tm 7) (.seq (.reg [om 8 3, om 2 8] [kp [2] []]) .ret) .skip))) (.seq (.seq (.reg [od 9 (fa 2 1), od 10 (ld 1 9), od 11 (le 0 10), od 12 (.bin .gtr (tm 11) (ki 0)), om 13 12, oF 14 (lG 4 1) 13, oF 15 (.bsl true 102 1 [(ku
 15)]) 13, oF 16 (.call 80 [(tm 14), (tm 15)]) 13, oF 17 (le 0 16) 13, oF 18 (.bin .gtr (tm 17) (ki 0)) 13, od 19 (.pick (tm 13) kT (tm 18))] [kp [19] []]) (.cond (tm 19) (.seq (.reg [od 2 (.mv (ki 7))] [kp [2] []]) .ret) .skip))
 (.seq (.reg [od 2 (.mv (ki 0))] [kp [2] []]) .ret))))
def Lq : List RV := [.tmp 2]
end
end Go.Lg
namespace Go.Lg
open Go Go.Proofs
theorem q5M : B1 Tryz.prog 129 q04 11 1 q05 = true := by kernel_rfl
theorem q8D : B1 Tryz.prog 80 q3G 27 2 q3H = true := by kernel_rfl
theorem q4U : B1 Tryz.prog 27 Yi 6 1 Yj = true := by kernel_rfl
theorem q68 : B1 Tryz.prog 56 q19 9 1 q1A = true := by kernel_rfl
theorem Wq : B1 Tryz.prog 85 P9 9 1 Pe = true := by kernel_rfl
theorem q3J : B1 Tryz.prog 90 Wl 9 1 Wm = true := by kernel_rfl
theorem q4V : B1 Tryz.prog 109 Yn 131 1 J9 = true := by kernel_rfl
theorem W0 : B1 Tryz.prog 131 K6 9 2 K7 = true := by kernel_rfl
theorem q5N : B1 Tryz.prog 148 Ey 73 1 Cm = true := by kernel_rfl
theorem q4W : B1 Tryz.prog 149 Yr 65 1 Ys = true := by kernel_rfl
theorem Zr : B1 Tryz.prog 161 Oe 19 2 Ds = true := by kernel_rfl
theorem q8E : B1 Tryz.prog 114 Yt 15 1 Yu = true := by kernel_rfl
theorem q2i : B1 Tryz.prog 126 V8 8 2 V9 = true := by kernel_rfl
theorem q69 : B1 Tryz.prog 171 q1B 53 2 Dx = true := by kernel_rfl
theorem q5O : B1 Tryz.prog 172 q09 25 1 Rw = true := by kernel_rfl
theorem q4X : B1 Tryz.prog 173 Yv 37 2 Dv = true := by kernel_rfl
theorem Xc : B1 Tryz.prog 174 Ll 9 2 Lm = true := by kernel_rfl
theorem q3K : B1 Tryz.prog 175 Wn 4 1 Wp = true := by kernel_rfl
theorem q0l : B1 Tryz.prog 176 Q6 9 1 Q7 = true := by kernel_rfl
theorem Xd : B1 Tryz.prog 159 Ln 8 2 Lo = true := by kernel_rfl
theorem q4Y : B1 Tryz.prog 190 Yw 11 2 Yx = true := by kernel_rfl
theorem q73 : B1 Tryz.prog 191 F5 45 2 F6 = true := by kernel_rfl
theorem q4Z : B1 Tryz.prog 192 Jd 17 1 Je = true := by kernel_rfl
theorem q2j : B1 Tryz.prog 193 Va 14 2 Vb = true := by kernel_rfl
theorem q0m : B1 Tryz.prog 194 Q9 19 2 I5 = true := by kernel_rfl
theorem q1t : B1 Tryz.prog 195 To 13 2 Tq = true := by kernel_rfl
theorem q2k : B1 Tryz.prog 204 Gz 13 1 H2 = true := by kernel_rfl
theorem q0n : B1 Tryz.prog 205 Qa 9 2 Qb = true := by kernel_rfl
theorem q0o : B1 Tryz.prog 206 Qc 9 2 Qd = true := by kernel_rfl
theorem q2l : B1 Tryz.prog 212 Vd 187 2 Ve = true := by kernel_rfl
theorem q2m : B1 Tryz.prog 213 Vf 8 2 Vg = true := by kernel_rfl
theorem q2n : B1 Tryz.prog 217 Vi 21 3 Lp = true := by kernel_rfl
theorem q3L : B1 Tryz.prog 86 Hv 8 1 Hw = true := by kernel_rfl
theorem q8F : B1 Tryz.prog 132 q3I 20 1 Lq = true := by kernel_rfl
end Go.Lg
set_option maxRecDepth 100000
namespace Go.Lg
open Go Go.Proofs
variable {Γ : Tables}
theorem Lr (es : List (List T)) (cap : Option Nat) (nl : Option Bool) (hw : Ec 1 es) : Ai Tryz.prog Γ 85 [.sl es cap nl] (.sl es (some es.length) nl) := by
  refine Ap Wq rfl ?_
  simp [P9, Pe, ret, hw]
theorem qAn (es : List (List T)) (cap : Option Nat) (nl : Option Bool) (hw : Ec 1 es) : Ai Tryz.prog Γ 90 [.sl es cap nl] (.sl es (some es.length) nl) := by
  refine Ap q3J rfl ?_
  simp [Wl, Wm, ret, hw]
theorem qAo (es : List (List T)) (cap : Option Nat) (nl : Option Bool) (hw : Ec 2 es) : Ai Tryz.prog Γ 176 [.sl es cap nl] (.sl es (some es.length) nl) := by
  refine Ap q0l rfl ?_
  simp [Q6, Q7, ret, hw]
theorem qEC (ty : Nat) (es : List (List T)) (len : Nat) (cap : Option Nat) (hw : Ec 1 es) : F4 Tryz.prog Γ 85 [(1000000, .sl ty 1 es)] [.ls 1000000 0 len cap] (.ls 1000000 0 len (some len)) [(1000000, .sl ty 1 es)] := by
  refine G5 Wq rfl ?_
  simp [P9, Pe, qFt, hw]
def W1 {α : Type} (p : α → Bool) (l : List α) : Int := match l.findIdx? p with | some i => i | none => -1
theorem Yy {α : Type} {p : α → Bool} {l : List α} {i : Nat} (hp : ∀ j, j < i → ∀ x, l[j]? = some x → p x = false) (x : α) (hx : l[i]? = some x) (h : p x = true) : l.findIdx? p = some i := by
  rw [List.findIdx?_eq_some_iff_getElem]
  have hi := (List.getElem?_eq_some_iff.1 hx).1
  refine ⟨hi, ?_, fun j hj => ?_⟩
  · have := (List.getElem?_eq_some_iff.1 hx).2; rw [this]; exact h
  · have := hp j hj l[j] (List.getElem?_eq_getElem (by omega))
    simp [this]
theorem q2B (l : List Int) (c : Option Nat) (nl : Option Bool) (x : Int) (hl : l.length ≤ 1000000000) : ∀ (k i : Nat), k + i = l.length → (∀ j, j < i → ∀ y, l[j]? = some y → (y == x) = false) →
    run Tryz.prog Γ Ek (Ny 0 (Ax (run Tryz.prog Γ (.seq (.reg Hh [.keep [4] []]) .ret) (ret true Ds fun r => r = tI (W1 (· == x) l))) (ret true Ds fun r => r = tI (W1 (· == x) l)))) ⟨[(0, .t (.sl (Ae tK l) c nl)), (1, .t (tK x)), (7, .t (tI l.length)), (8, .t (tI i))], []⟩
  | 0, i, h, hp => by
    refine Jo fun K hK => ?_
    have h2 : ¬ i < l.length := by omega
    simp (disch := omega) [A0, Bc (0 : Int), Aa, A7, h2, ret, Ds, Dq, Fv, Ft, B0]
    have : l.findIdx? (· == x) = none := by
      rw [List.findIdx?_eq_none_iff]
      intro y hy
      obtain ⟨j, hj, rfl⟩ := List.getElem_of_mem hy
      exact hp j (by omega) _ (List.getElem?_eq_getElem hj)
    have e : l.findIdx? (fun y => decide (y = x)) = _ := this
    simp [W1, e]
  | k + 1, i, h, hp => by
    refine Jo fun K hK => ?_
    have h2 : i < l.length := by omega
    simp (disch := omega) [A0, Bc (0 : Int), Aa, A7, h2]
    refine ⟨fun hc => ?_, fun hc => ?_⟩
    · simp [Bj, ret, Ds, Dq, Fv, Ft, B0]
      have := Yy (p := (· == x)) hp l[i] (List.getElem?_eq_getElem h2) (by simp [hc])
      have e : l.findIdx? (fun y => decide (y = x)) = _ := this
      simp [W1, e]
    · simp (disch := omega) [Bj, A7]
      rw [hK]
      exact_mod_cast q2B l c nl x hl k (i + 1) (by omega) (fun j hj y hy => by
        rcases Nat.lt_succ_iff_lt_or_eq.1 hj with hj | rfl
        · exact hp j hj y hy
        · rw [List.getElem?_eq_getElem h2] at hy; simp at hy; subst hy
          simp; exact fun e => hc e.symm)
theorem qED (l : List Int) (c : Option Nat) (nl : Option Bool) (x : Int) (hl : l.length ≤ 1000000000) : Ab Tryz.prog Γ 161 [.sl (Ae tK l) c nl, tK x] (tI (W1 (· == x) l)) := by
  refine Ad Zr rfl ?_
  simp (disch := omega) [Oe, A0, A7]
  exact_mod_cast q2B l c nl x hl l.length 0 (by omega) (by simp)
theorem qAH (l : List Int) (c : Option Nat) (nl : Option Bool) (x : Int) (hl : l.length ≤ 1000000000) : Ab Tryz.prog Γ 131 [.sl (Ae tK l) c nl, tK x] (tB (l.contains x)) := by
  refine Ad W0 rfl ?_
  simp (disch := omega) [K6, A0, A7]
  refine A6 (qED l c nl x hl) rfl ?_
  simp [ret, K7, Dq, Fv, Ft, B0]
  unfold W1
  cases h : l.findIdx? (· == x) with
  | none =>
    rw [List.findIdx?_eq_none_iff] at h
    have : ¬ x ∈ l := fun hx => by simpa using h x hx
    simp [this]
  | some i =>
    rw [List.findIdx?_eq_some_iff_getElem] at h
    obtain ⟨hi, h1, _⟩ := h
    have : x ∈ l := by rw [← (show l[i] = x by simpa using h1)]; exact List.getElem_mem hi
    simp [this]
theorem q3M {cs : List T} : Bd (cs.map fun t => some t) = some cs := by
  induction cs with
  | nil => rfl
  | cons t cs ih => simp only [List.map_cons, Bd, ih, Option.map_some]
theorem Uc {hp : List (Nat × Bl)} {f : FuncId} {K : T → Prop} {cs : List T} {t res : T} (h : Ab Tryz.prog Γ f (t :: cs) res) (hk : K res) : q7h Tryz.prog Γ hp f (.t t :: cs.map .t) K ⟨⟩ :=
  A6 h (by simp only [List.map_cons, List.map_map, Function.comp_def, Bd, Ak]; rw [q3M]; rfl) hk
theorem q3N {Q : AX → St → Prop} (l : List Int) (c : Option Nat) (nl : Option Bool) (f : FuncId) (cs : List T) (p : Int → Bool) (hp : ∀ x ∈ l, Ab Tryz.prog Γ f (tI x :: cs) (tB (p x))) (hl : l.length ≤ 1000000000)
    (h0 : (∀ x ∈ l, p x = false) → Q (.exit 0) ⟨[(0, .t (.sl (Ao l) c nl)), (1, .t (.fn f cs)), (7, .t (tI l.length)), (8, .t (tI l.length)), (9, .t (tB false))], []⟩)
    (h1 : ∀ i : Nat, l.findIdx? p = some i → Q .ret ⟨[(4, .t (tI i))], []⟩) : ∀ (k i : Nat), k + i = l.length → (∀ j, j < i → ∀ y, l[j]? = some y → p y = false) →
    run Tryz.prog Γ Ez Q ⟨[(0, .t (.sl (Ao l) c nl)), (1, .t (.fn f cs)), (7, .t (tI l.length)), (8, .t (tI i))], []⟩
  | 0, i, h, hq => by
    refine Kp fun K hK => ?_
    have h2 : ¬ i < l.length := by omega
    simp (disch := omega) [A0, Bc (0 : Int), Aa, A7, h2]
    have h3 : i = l.length := by omega
    subst h3
    refine h0 fun y hy => ?_
    obtain ⟨j, hj, rfl⟩ := List.getElem_of_mem hy
    exact hq j (by omega) _ (List.getElem?_eq_getElem hj)
  | k + 1, i, h, hq => by
    refine Kp fun K hK => ?_
    have h2 : i < l.length := by omega
    simp (disch := omega) [A0, Bc (0 : Int), Aa, A7, h2]
    refine Uc (hp l[i] (List.getElem_mem h2)) ?_
    simp
    refine ⟨fun hc => ?_, fun hc => ?_⟩
    · simp [Bj]
      exact h1 i (Yy hq l[i] (List.getElem?_eq_getElem h2) hc)
    · simp (disch := omega) [Bj, A7]
      rw [hK]
      exact_mod_cast q3N l c nl f cs p hp hl h0 h1 k (i + 1) (by omega) (fun j hj y hy => by
        rcases Nat.lt_succ_iff_lt_or_eq.1 hj with hj | rfl
        · exact hq j hj y hy
        · rw [List.getElem?_eq_getElem h2] at hy; simp at hy; subst hy; exact hc)
theorem qAI (l : List Int) (c : Option Nat) (nl : Option Bool) (f : FuncId) (cs : List T) (p : Int → Bool) (hp : ∀ x ∈ l, Ab Tryz.prog Γ f (tI x :: cs) (tB (p x))) (hl : l.length ≤ 1000000000) : Ab Tryz.prog Γ 194 [.sl (Ao l) c nl, .fn f cs] (tI (W1 p l)) := by
  refine Ad q0m rfl ?_
  simp (disch := omega) [Q9, A0, A7]
  refine q3N l c nl f cs p hp hl (fun h => ?_) (fun i h => ?_) l.length 0 (by omega) (by simp)
  · have : l.findIdx? p = none := List.findIdx?_eq_none_iff.2 h
    simp [ret, I5, Dq, Fv, Ft, B0, W1, this]
  · simp [ret, I5, Dq, Fv, Ft, B0, W1, h]
theorem q1C (l : List Int) (c : Option Nat) (nl : Option Bool) (f : FuncId) (cs : List T) (p : Int → Bool) (hp : ∀ x ∈ l, Ab Tryz.prog Γ f (tI x :: cs) (tB (p x))) (hl : l.length ≤ 1000000000) : Ab Tryz.prog Γ 174 [.sl (Ao l) c nl, .fn f cs] (tB (l.any p)) := by
  refine Ad Xc rfl ?_
  simp (disch := omega) [Ll, A0, A7]
  refine A6 (qAI l c nl f cs p hp hl) rfl ?_
  simp [ret, Lm, Dq, Fv, Ft, B0]
  unfold W1
  cases h : l.findIdx? p with
  | none =>
    rw [List.findIdx?_eq_none_iff] at h
    have : l.any p = false := by rw [List.any_eq_false]; intro x hx; simp [h x hx]
    simp [this]
  | some i =>
    rw [List.findIdx?_eq_some_iff_getElem] at h
    obtain ⟨hi, h1, _⟩ := h
    have : l.any p = true := List.any_eq_true.2 ⟨_, List.getElem_mem hi, h1⟩
    simp [this]
theorem q74 (k : Int) : Ab Tryz.prog Γ 56 [tK k] (tB (decide (1 ≤ k ∧ k ≤ 13))) := by
  refine Ad q68 rfl ?_
  by_cases h1 : 1 ≤ k <;> by_cases h2 : k ≤ 13 <;> simp [q19, ret, q1A, Dq, Fv, Ft, B0, h1, h2]
structure Nd where
  k : Int
  inn : Sl Int
  mem : Int
  bit : Int
structure Mm where
  addr : Sl Int
  data : Sl Int
  write : Int
structure B9 where
  nodes : Sl Nd
  names : Sl (List UInt8)
  mems : Sl Mm
  outs : Sl Int
def C4 (x : Nd) : List T := [tK x.k, Aw x.inn, tI x.mem, tI x.bit]
def tMm (m : Mm) : List T := [Aw m.addr, Aw m.data, tI m.write]
def tS (l : List UInt8) : T := .v (sV l)
def Ac (s : Sl Nd) : T := .sl (As C4 s.l) s.cap s.nl
def Ah (s : Sl (List UInt8)) : T := .sl (Ae tS s.l) s.cap s.nl
def Am (s : Sl Mm) : T := .sl (As tMm s.l) s.cap s.nl
def tC (c : B9) : List T := [Ac c.nodes, Ah c.names, Am c.mems, Aw c.outs]
def Nd.d : Nd := ⟨0, ⟨[], none, none⟩, 0, 0⟩
def Mm.d : Mm := ⟨⟨[], none, none⟩, ⟨[], none, none⟩, 0⟩
theorem Bh {l : List Nd} : Ec 4 (As C4 l) := q3D fun _ => rfl
theorem q6A {l : List Mm} : Ec 3 (As tMm l) := q3D fun _ => rfl
structure CirOk (c : B9) : Prop where
  nodes : c.nodes.l.length ≤ 1000000000
  names : c.names.l.length ≤ 1000000000
  mems : c.mems.l.length ≤ 1000000000
  outs : c.outs.l.length ≤ 1000000000
  kind : ∀ x ∈ c.nodes.l, 0 ≤ x.k ∧ x.k ≤ 255
  inn : ∀ x ∈ c.nodes.l, x.inn.l.length ≤ 1000000000
  addr : ∀ m ∈ c.mems.l, m.addr.l.length ≤ 1000000000 ∧ m.data.l.length ≤ 1000000000
def Oh (c : B9) (n : Int) : Bool := decide (n < 0 ∨ (c.nodes.l.length : Int) ≤ n)
theorem q0p (c : B9) (n : Int) (hc : c.nodes.l.length ≤ 1000000000) : Ab Tryz.prog Γ 195 [tI n, .ip (tC c) 0] (tB (Oh c n)) := by
  refine Ad q1t rfl ?_
  by_cases h1 : n < 0 <;> simp (disch := omega) [To, ret, Tq, Dq, Fv, Ft, B0, h1, tC, Ac, Af, A7, Oh]
theorem Xe (c : B9) : Ai Tryz.prog Γ 175 [.agg (tC c)] (.fn 195 [.ip (tC c) 0]) := by
  refine Ap q3K rfl ?_
  simp [Wn, ret, Wp, tC, D4, Da, T.one, AV.one, Ac, Ah, Am, Aw]
theorem q0A (c : B9) (hc : c.nodes.l.length ≤ 1000000000) (l : List Int) (cap : Option Nat) (nl : Option Bool) (hl : l.length ≤ 1000000000) : Ab Tryz.prog Γ 174 [.sl (Ao l) cap nl, .fn 195 [.ip (tC c) 0]] (tB (l.any (Oh c))) :=
  q1C l cap nl _ _ _ (fun x _ => q0p c x hc) hl
def q9B : List (Int × Int) := [(0, 0), (0, 0), (0, 0), (1, 1), (1, 1), (2, 16), (2, 16), (2, 16), (2, 16), (2, 16), (2, 16), (3, 3), (2, 2), (1, 16), (1, 1), (0, 0)]
def qFu : List T := q9B.flatMap fun p => [tI p.1, tI p.2]
def Uz (k : Int) : Int × Int := if 16 ≤ k then (0, -1) else q9B.getD k.toNat (0, 0)
def GOk (Γ : Tables) : Prop := Γ 0 = some qFu
theorem Dl (hΓ : GOk Γ) (k : Int) (h0 : 0 ≤ k) (h1 : k ≤ 255) : Ab Tryz.prog Γ 114 [tK k] (.tup [tI (Uz k).1, tI (Uz k).2]) := by
  unfold GOk at hΓ
  refine Ad q8E rfl ?_
  by_cases h2 : 16 ≤ k
  · simp (disch := omega) [Yt, ret, Yu, Dq, Fv, Ft, B0, h2, A7, Uz]
  · have h3 : k = 0 ∨ k = 1 ∨ k = 2 ∨ k = 3 ∨ k = 4 ∨ k = 5 ∨ k = 6 ∨ k = 7 ∨ k = 8 ∨ k = 9 ∨ k = 10 ∨ k = 11 ∨ k = 12 ∨ k = 13 ∨ k = 14 ∨ k = 15 := by omega
    rcases h3 with rfl | rfl | rfl | rfl | rfl | rfl | rfl | rfl | rfl | rfl | rfl | rfl | rfl | rfl | rfl | rfl <;>
    simp (disch := omega) [Yt, ret, Yu, Dq, Fv, Ft, B0, A7, Uz, hΓ, qFu, q9B] <;> exact ⟨rfl, rfl⟩
def q0B (c : B9) (x : Nd) : Bool :=
  if x.k ≠ 15 then decide (x.mem = 0 ∧ x.bit = 0)
  else decide (0 ≤ x.mem ∧ x.mem < c.mems.l.length ∧ 0 ≤ x.bit ∧ x.bit < ((c.mems.l.getD x.mem.toNat Mm.d).data.l.length))
theorem qHB (c : B9) (x : Nd) (hc : CirOk c) : Ab Tryz.prog Γ 191 [.agg (tC c), .agg (C4 x)] (tB (q0B c x)) := by
  refine Ad q73 rfl ?_
  have hm := hc.mems
  by_cases h1 : x.k = 15
  · by_cases h2 : 0 ≤ x.mem
    · by_cases h3 : x.mem < c.mems.l.length
      · have h3' : x.mem.toNat < c.mems.l.length := by omega
        by_cases h4 : 0 ≤ x.bit
        · simp (disch := omega) [F5, ret, F6, Dq, Fv, Ft, B0, D4, Da, T.one, AV.one, tC, C4, Ac, Ah, Am, Aw, h1, h2, h3, h4, h3', Af, D8 Mm.d, A7, q6A, tMm, A0, q0B]
        · simp (disch := omega) [F5, ret, F6, Dq, Fv, Ft, B0, D4, Da, T.one, AV.one, tC, C4, Ac, Ah, Am, Aw, h1, h2, h3, h4, h3', Af, D8 Mm.d, A7, q6A, tMm, A0, q0B]
      · simp (disch := omega) [F5, ret, F6, Dq, Fv, Ft, B0, D4, Da, T.one, AV.one, tC, C4, Ac, Ah, Am, Aw, h1, h2, h3, Af, D8 Mm.d, A7, q6A, tMm, A0, q0B]
    · simp (disch := omega) [F5, ret, F6, Dq, Fv, Ft, B0, D4, Da, T.one, AV.one, tC, C4, Ac, Ah, Am, Aw, h1, h2, Af, D8 Mm.d, A7, q6A, tMm, A0, q0B]
  · by_cases h2 : x.mem = 0
    · simp (disch := omega) [Bj, F5, F6, tC, C4, Ac, Ah, Am, Aw, h1, h2, q0B, -decide_eq_decide]
    · have h2' : (x.mem == 0) = false := by simpa using h2
      simp (disch := omega) [Bj, F5, F6, tC, C4, Ac, Ah, Am, Aw, h1, h2, h2', q0B]
def Yz (l : List Int) (most : Int) : Bool := decide (l.length = 0 ∨ most < l.length)
theorem q6B (l : List Int) (cap : Option Nat) (nl : Option Bool) (most : Int) (hl : l.length ≤ 1000000000) : Ab Tryz.prog Γ 193 [.sl (Ao l) cap nl, tI most] (tB (Yz l most)) := by
  refine Ad q2j rfl ?_
  by_cases h : l.length = 0 <;> simp (disch := omega) [Va, ret, Vb, Dq, Fv, Ft, B0, A0, h, Yz, A7]
def q0q (c : B9) (n : Int) : Bool := decide ((c.nodes.l.getD n.toNat Nd.d).k ≠ 12)
theorem qEE (c : B9) (n : Int) (h0 : 0 ≤ n) (h1 : n < c.nodes.l.length) : Ab Tryz.prog Γ 190 [tI n, .ip (tC c) 0] (tB (q0q c n)) := by
  refine Ad q4Y rfl ?_
  have h2 : n.toNat < c.nodes.l.length := by omega
  simp (disch := omega) [Yw, ret, Yx, Dq, Fv, Ft, B0, tC, Ac, Af, D8 Nd.d, Bh, h0, h1, h2, q0q, C4]
def Dm (c : B9) (x : Nd) : Int :=
  if 15 < x.k then 7 else if (x.inn.l.length : Int) < (Uz x.k).1 ∨ (Uz x.k).2 < x.inn.l.length then 8 else if x.inn.l.any (Oh c) then 1
  else if x.k = 13 ∧ x.inn.l.any (q0q c) = true then 7 else if q0B c x = false then 1 else 0
theorem q8b {c : B9} {l : List Int} (h : l.any (Oh c) = false) : ∀ n ∈ l, 0 ≤ n ∧ n < c.nodes.l.length := by
  intro n hn
  have := List.any_eq_false.1 h n hn
  simp only [Oh, decide_eq_true_eq, not_or, Int.not_lt, Int.not_le] at this
  exact this
theorem qFv (hΓ : GOk Γ) (c : B9) (x : Nd) (hc : CirOk c) (hk : 0 ≤ x.k ∧ x.k ≤ 255) (hl : x.inn.l.length ≤ 1000000000) : Ab Tryz.prog Γ 171 [.agg (tC c), .agg (C4 x)] (tI (Dm c x)) := by
  refine Ad q69 rfl ?_
  have hn := hc.nodes
  have e1 := q0A (Γ := Γ) c hn x.inn.l x.inn.cap x.inn.nl hl
  have e2 := Dl hΓ x.k hk.1 hk.2
  have e3 := Xe (Γ := Γ) c
  have e4 := qHB (Γ := Γ) c x hc
  simp (disch := omega) [q1B, D4, Da, T.one, AV.one, tC, C4, Ac, Ah, Am, Aw]
  refine A6 e2 rfl ?_
  simp (disch := omega)
  simp
  refine ⟨fun h1 => ?_, fun h1 => ?_⟩
  · simp [Bj, ret, Dx, Dq, Fv, Ft, B0, Dm, h1]
  by_cases h2 : (x.inn.l.length : Int) < (Uz x.k).1
  · simp (disch := omega) [Bj, A0, A7, h2, ret, Dx, Dq, Fv, Ft, B0, Dm, h1]
  by_cases h3 : (Uz x.k).2 < x.inn.l.length
  · simp (disch := omega) [Bj, A0, A7, h2, h3, ret, Dx, Dq, Fv, Ft, B0, Dm, h1]
  simp (disch := omega) [Bj, A0, A7, h2, h3]
  refine A8 e3 rfl ?_
  simp (disch := omega)
  refine A6 e1 rfl ?_
  simp (disch := omega) [-List.any_eq_true, -List.any_eq_false]
  refine ⟨fun h4 => ?_, fun h4 => ?_⟩
  · simp [-List.any_eq_true, -List.any_eq_false, Bj, ret, Dx, Dq, Fv, Ft, B0, Dm, h1, h2, h3, h4]
  have h4' : x.inn.l.any (Oh c) = false := h4
  by_cases h5 : x.k = 13
  · have e5 := q1C (Γ := Γ) x.inn.l x.inn.cap x.inn.nl 190 [.ip (tC c) 0] (q0q c) (fun n hm => qEE c n (q8b h4' n hm).1 (q8b h4' n hm).2) hl
    simp (disch := omega) [Bj, h5]
    refine A6 e5 rfl ?_
    simp [-List.any_eq_true, -List.any_eq_false]
    refine ⟨fun h6 => ?_, fun h6 => ?_⟩
    · have h6' : x.inn.l.any (q0q c) = true := h6
      simp [-List.any_eq_true, -List.any_eq_false, Bj, ret, Dx, Dq, Fv, Ft, B0, Dm, h1, h2, h3, h4', h5, h6']
      simp [h5] at h2 h3; omega
    · have h6' : x.inn.l.any (q0q c) = false := h6
      have e : Dm c x = if q0B c x = false then 1 else 0 := by
        unfold Dm
        rw [if_neg (by omega), if_neg (by omega), if_neg (by simp [h4']), if_neg (by simp [h6'])]
      rw [e]
      simp (disch := omega) [Bj, h6']
      rw [show C4 x = [tK 13, Aw x.inn, tI x.mem, tI x.bit] from by simp [C4, h5]] at e4
      refine A6 e4 rfl ?_
      simp
      refine ⟨fun h7 => ?_, fun h7 => ?_⟩ <;> simp [Bj, Dx, h7]
  · have e : Dm c x = if q0B c x = false then 1 else 0 := by
      unfold Dm
      rw [if_neg (by omega), if_neg (by omega), if_neg (by simp [h4']), if_neg (by simp [h5])]
    rw [e]
    simp (disch := omega) [Bj, h5]
    refine A6 e4 rfl ?_
    simp
    refine ⟨fun h7 => ?_, fun h7 => ?_⟩ <;> simp [Bj, Dx, h7]
theorem qNA : (Tryz.prog.funcs[181]?).map (fun f => (f.name, f.body.isNone, f.origin)) = some ("internal/bytealg.IndexByteString", true, "") := by kernel_rfl
abbrev tR (n : Int) : T := .v (.int .i32 n)
theorem q3O (s : ByteArray) (c : Int) : Ab Tryz.prog Γ 181 [.v (.string s), tK c] (tI (Lib.indexByte s.data.toList c.toNat.toUInt8)) := by
  intro w X vs hg hx hts
  obtain ⟨x, xs, rfl, h1, h2⟩ := hts.cons_inv
  obtain ⟨y, ys, rfl, h3, h4⟩ := h2.cons_inv
  have := h4.nil_inv; subst this
  cases h1; cases h3
  refine .inr ⟨.int .i64 (Lib.indexByte s.data.toList c.toNat.toUInt8), ?_, RowKit.Below.refl _ _, .v _⟩
  have h := qNA
  simp only [Option.map_eq_some_iff, Prod.mk.injEq] at h
  obtain ⟨fn, hf, hn, hb, ho⟩ := h
  have e1 : Extern.findNext fn = none := by
    simp only [Extern.findNext, hn, ho]
    have a : Extern.allNextRows.lookup "internal/bytealg.IndexByteString" = none := by kernel_rfl
    have b : Extern.allNextRows.lookup "" = none := by kernel_rfl
    rw [a, b]; rfl
  have e2 : Extern.find fn = some Extern.BytealgIndexByte.indexByte := by
    simp only [Extern.find, hn, ho]
    have a : Extern.allGenericRows.lookup "internal/bytealg.IndexByteString" = none := by kernel_rfl
    have b : Extern.allTypedRows.lookup "internal/bytealg.IndexByteString" = none := by kernel_rfl
    have c : Extern.allRows.lookup "internal/bytealg.IndexByteString" = some Extern.BytealgIndexByte.indexByte := by kernel_rfl
    rw [a, b, c]; rfl
  have hnn : ¬ fn.name = "runtime.NumGoroutine" := by rw [hn]; decide
  have hr := Lib.run_indexByteString (P := Tryz.prog) s c w
  have hb' : fn.body = none := by simpa using hb
  simp [callFunc, hf, hnn, hb', e1, e2, hr]
theorem qFw (s : ByteArray) (c : Int) : Ab Tryz.prog Γ 159 [.v (.string s), tK c] (tI (Lib.indexByte s.data.toList c.toNat.toUInt8)) := by
  refine Ad Xd rfl ?_
  simp [Ln]
  refine A6 (q3O s c) rfl ?_
  simp [Lo]
theorem q9C (s : ByteArray) (c : Int) : Ab Tryz.prog Γ 126 [.v (.string s), tK c] (tI (Lib.indexByte s.data.toList c.toNat.toUInt8)) := by
  refine Ad q2i rfl ?_
  simp [V8]
  refine A6 (qFw s c) rfl ?_
  simp [V9]
theorem q9D (s : ByteArray) (c : Int) (h0 : 0 ≤ c) (h1 : c < 128) : Ab Tryz.prog Γ 212 [.v (.string s), tR c] (tI (Lib.indexByte s.data.toList c.toNat.toUInt8)) := by
  refine Ad q2l rfl ?_
  simp (disch := omega) [Vd, h0, h1, Bt]
  refine A6 (q9C s c) rfl ?_
  simp [Ve]
theorem q6C (s : ByteArray) (c : Int) (h0 : 0 ≤ c) (h1 : c < 128) : Ab Tryz.prog Γ 205 [.v (.string s), tR c] (tB (decide (0 ≤ Lib.indexByte s.data.toList c.toNat.toUInt8))) := by
  refine Ad q0n rfl ?_
  simp (disch := omega) [Qa]
  refine A6 (q9D s c h0 h1) rfl ?_
  simp [Qb]
def qFx (c : Int) : Bool := decide (c ≤ 32 ∨ 126 < c ∨ 0 ≤ Lib.indexByte [40, 41, 61, 44, 35] c.toNat.toUInt8)
theorem qFy (c : Int) : Ab Tryz.prog Γ 204 [tR c] (tB (qFx c)) := by
  refine Ad q2k rfl ?_
  by_cases h1 : c ≤ 32
  · simp [Gz, H2, h1, qFx]
  by_cases h2 : 126 < c
  · simp [Gz, H2, h1, h2, qFx]
  simp [Gz, h1, h2]
  refine A6 (q6C ⟨#[40, 41, 61, 44, 35]⟩ c (by omega) (by omega)) rfl ?_
  simp [H2, qFx, h1, h2]
theorem qEF (s : List UInt8) (i : Nat) (hi : i < s.length) (ha : s[i] < 128) : Utf8.decode ⟨s.toArray⟩ i = ((s[i]).toNat, 1) := by
  have e : (ByteArray.mk s.toArray).get! (i + 0) = s[i] := by
    simp [ByteArray.get!, hi]
  have h2 : (s[i]).toNat < 128 := by simpa [UInt8.lt_iff_toNat_lt] using ha
  unfold Utf8.decode
  simp only [e, h2, ↓reduceIte]
def qEG (s : List UInt8) : Bool := s.any fun b => qFx b.toNat
theorem q3P {Q : AX → St → Prop} (s : List UInt8) (ha : ∀ b ∈ s, b < 128)
    (h0 : qEG s = false → Q (.exit 0) ⟨[(1, .t (.fn 204 [])), (2, .t (tB true)), (10, .li 10), (11, .t (.tup [tB false])), (12, .t (tB false))], [(10, .it ⟨s.toArray⟩ s.length)]⟩)
    (h1 : qEG s = true → ∀ i : Nat, Q .ret ⟨[(6, .t (tI i))], []⟩) : ∀ (k i : Nat), k + i = s.length → (∀ j, j < i → ∀ b, s[j]? = some b → qFx b.toNat = false) →
    run Tryz.prog Γ H3 Q ⟨[(1, .t (.fn 204 [])), (2, .t (tB true)), (10, .li 10)], [(10, .it ⟨s.toArray⟩ i)]⟩
  | 0, i, h, hq => by
    refine Og fun K hK => ?_
    have h2 : ¬ i < s.length := by omega
    have h3 : i = s.length := by omega
    have h4 : ¬ i < (ByteArray.mk s.toArray).size := by simpa [ByteArray.size] using h2
    simp [h2]
    subst h3
    refine h0 (List.any_eq_false.2 fun b hb => ?_)
    obtain ⟨j, hj, rfl⟩ := List.getElem_of_mem hb
    simp [hq j hj _ (List.getElem?_eq_getElem hj)]
  | k + 1, i, h, hq => by
    refine Og fun K hK => ?_
    have h2 : i < s.length := by omega
    have h4 : i < (ByteArray.mk s.toArray).size := by simpa [ByteArray.size] using h2
    simp [h2, qEF s i h2 (ha _ (List.getElem_mem h2))]
    refine A6 (qFy s[i].toNat) rfl ?_
    simp
    refine ⟨fun hc => ?_, fun hc => ?_⟩
    · simp [Bj]
      exact h1 (List.any_eq_true.2 ⟨_, List.getElem_mem h2, hc⟩) i
    · simp [Bj]
      rw [hK]
      exact q3P s ha h0 h1 k (i + 1) (by omega) (fun j hj b hb => by
        rcases Nat.lt_succ_iff_lt_or_eq.1 hj with hj | rfl
        · exact hq j hj b hb
        · rw [List.getElem?_eq_getElem h2] at hb; simp at hb; subst hb; exact hc)
theorem qBj (s : List UInt8) (ha : ∀ b ∈ s, b < 128) : ∃ n : Int, Ab Tryz.prog Γ 217 [tS s, .fn 204 [], tB true] (tI n) ∧ (0 ≤ n ↔ qEG s = true) := by
  have : ∃ r, Ab Tryz.prog Γ 217 [tS s, .fn 204 [], tB true] r ∧ ∃ n, r = tI n ∧ (0 ≤ n ↔ qEG s = true) := by
    refine qAj q2n rfl ?_
    simp [Vi, tS, sV]
    refine q3P s ha (fun h => ?_) (fun h i => ?_) s.length 0 (by omega) (by simp)
    · simp [Lp, h]
    · simp [Lp, h]
  obtain ⟨_, h1, n, rfl, h2⟩ := this
  exact ⟨n, h1, h2⟩
theorem q8G (s : List UInt8) (ha : ∀ b ∈ s, b < 128) : ∃ n : Int, Ab Tryz.prog Γ 213 [tS s, .fn 204 []] (tI n) ∧ (0 ≤ n ↔ qEG s = true) := by
  obtain ⟨n, h1, h2⟩ := qBj (Γ := Γ) s ha
  refine ⟨n, Ad q2m rfl ?_, h2⟩
  simp [Vf]
  refine A6 h1 rfl ?_
  simp [Vg]
theorem q3Q (s : List UInt8) (ha : ∀ b ∈ s, b < 128) : Ab Tryz.prog Γ 206 [tS s, .fn 204 []] (tB (qEG s)) := by
  obtain ⟨n, h1, h2⟩ := q8G (Γ := Γ) s ha
  refine Ad q0o rfl ?_
  simp [Qc]
  refine A6 h1 rfl ?_
  simp [Qd, h2]
def W2 (s : List UInt8) : Bool := decide (s ≠ [] ∧ s.length ≤ 32) && !qEG s
theorem qCg (s : List UInt8) (ha : ∀ b ∈ s, b < 128) : Ab Tryz.prog Γ 192 [tS s] (tB (W2 s)) := by
  refine Ad q4Z rfl ?_
  have h := q3Q (Γ := Γ) s ha
  by_cases h1 : s = []
  · simp [Jd, Je, tS, sV, h1, W2]
  have h1' : s.isEmpty = false := by simpa using h1
  by_cases h2 : s.length ≤ 32
  · have h2' : (s.length : Int) ≤ 32 := by omega
    simp [Jd, tS, sV, h1, h1', h2']
    refine A6 h rfl ?_
    simp [Je, W2, h1, h2]
  · have h2' : ¬ (s.length : Int) ≤ 32 := by omega
    simp [Jd, Je, tS, sV, h1, h1', h2', h2, W2]
def Rx (c : B9) (m : Mm) : Int :=
  if Yz m.addr.l 8 = true ∨ Yz m.data.l 32 = true then 8 else if m.addr.l.any (Oh c) = true ∨ m.data.l.any (Oh c) = true ∨ Oh c m.write = true then 1 else 0
theorem qCh (c : B9) (m : Mm) (hc : CirOk c) (hm : m.addr.l.length ≤ 1000000000 ∧ m.data.l.length ≤ 1000000000) : Ab Tryz.prog Γ 173 [.agg (tC c), .agg (tMm m)] (tI (Rx c m)) := by
  refine Ad q4X rfl ?_
  have hn := hc.nodes
  have e1 := q0A (Γ := Γ) c hn m.addr.l m.addr.cap m.addr.nl hm.1
  have e2 := q0A (Γ := Γ) c hn m.data.l m.data.cap m.data.nl hm.2
  have e3 := Xe (Γ := Γ) c
  have e4 := q6B (Γ := Γ) m.addr.l m.addr.cap m.addr.nl 8 hm.1
  have e5 := q6B (Γ := Γ) m.data.l m.data.cap m.data.nl 32 hm.2
  have e6 := q0p (Γ := Γ) c m.write hn
  simp [Yv, tC, tMm, Ac, Ah, Am, Aw]
  refine A8 e3 rfl ?_
  simp
  refine A6 e4 rfl ?_
  have fin2 : ∀ b : Bool, b = decide (m.addr.l.any (Oh c) = true ∨ m.data.l.any (Oh c) = true ∨ Oh c m.write = true) → (Yz m.addr.l 8 = false) → (Yz m.data.l 32 = false) → Rx c m = if b then 1 else 0 := by
    intro b hb h1 h2
    subst hb
    unfold Rx
    rw [if_neg (by simp [h1, h2])]
    simp
  by_cases h1 : Yz m.addr.l 8 = true
  · simp [h1, Dv, Rx]
  have h1' : Yz m.addr.l 8 = false := by simpa using h1
  simp [h1']
  refine A6 e5 rfl ?_
  by_cases h2 : Yz m.data.l 32 = true
  · simp [h2, Dv, Rx]
  have h2' : Yz m.data.l 32 = false := by simpa using h2
  simp [h2']
  refine A6 e1 rfl ?_
  generalize m.addr.l.any (Oh c) = b1 at e1 fin2
  generalize m.data.l.any (Oh c) = b2 at e2 fin2
  generalize Oh c m.write = b3 at e6 fin2
  cases b1 with
  | true => simp [Dv, fin2 true (by simp) h1' h2']
  | false =>
    simp
    refine A6 e2 rfl ?_
    cases b2 with
    | true => simp [Dv, fin2 true (by simp) h1' h2']
    | false =>
      simp
      refine Uc e6 ?_
      cases b3 with
      | true => simp [Dv, fin2 true (by simp) h1' h2']
      | false => simp [Dv, fin2 false (by simp) h1' h2']
def Ry (l : List (List UInt8)) : List (Value × T) := l.map fun s => (sV s, tB true)
theorem qJi (a b : List UInt8) : Tf (sV a) (sV b) = decide (a = b) := by
  simp only [Tf, sV]
  by_cases h : a = b
  · subst h; simp [qBZ]
  · have : ¬ (ByteArray.mk a.toArray) = ⟨b.toArray⟩ := fun e => h (by simpa using e)
    have h2 : ((ByteArray.mk a.toArray) == ⟨b.toArray⟩) = false := by
      cases hq : ((ByteArray.mk a.toArray) == ⟨b.toArray⟩)
      · rfl
      · exact absurd ((qBZ _ _).1 hq) this
    rw [h2]; simp [h]
theorem Z0 (x : List UInt8) : ∀ l : List (List UInt8), Eh (sV x) (Ry l) = if x ∈ l then some (tB true) else none
  | [] => rfl
  | y :: l => by
    have ih := Z0 x l
    simp only [Ry, List.map_cons, Eh, qJi] at ih ⊢
    by_cases h : x = y
    · simp [h]
    · simp [h, ih]
theorem Xu (x : List UInt8) : ∀ l : List (List UInt8), x ∉ l → q1k (sV x) (tB true) (Ry l) = Ry (l ++ [x])
  | [], _ => rfl
  | y :: l, h => by
    have ih := Xu x l (fun hm => h (List.mem_cons_of_mem _ hm))
    have hne : x ≠ y := fun e => h (by simp [e])
    simp only [Ry, List.map_cons, q1k, qJi, List.cons_append] at ih ⊢
    simp [hne, ih]
theorem q1D (l : List (List UInt8)) : Iy .str (Ry l) := by
  intro e he; obtain ⟨s, _, rfl⟩ := List.mem_map.1 he; rfl
def Gg : List (List UInt8) → List (List UInt8) → Int
  | _, [] => 0
  | done, s :: l => if W2 s = false ∨ s ∈ done then 5 else Gg (done ++ [s]) l
theorem q9E {Q : AX → St → Prop} (n : Sl (List UInt8)) (hl : n.l.length ≤ 1000000000) (ha : ∀ s ∈ n.l, ∀ b ∈ s, b < 128) (R : Int)
    (h0 : R = 0 → ∀ m : List (Value × T), Q (.exit 0) ⟨[(3, .lm 6), (8, .t (Ah n)), (9, .t (tI n.l.length)), (10, .t (tI n.l.length)), (11, .t (tB false))], [(6, .mp m)]⟩)
    (h5 : R = 5 → Q .ret ⟨[(2, .t (tI 5))], []⟩) : ∀ (k i : Nat), k + i = n.l.length → Gg (n.l.take i) (n.l.drop i) = R →
    run Tryz.prog Γ Ko Q ⟨[(3, .lm 6), (8, .t (Ah n)), (9, .t (tI n.l.length)), (10, .t (tI i))], [(6, .mp (Ry (n.l.take i)))]⟩
  | 0, i, h, hR => by
    refine Tn fun K hK => ?_
    have h2 : ¬ i < n.l.length := by omega
    have h3 : i = n.l.length := by omega
    simp [h2, Ah]
    subst h3
    refine h0 ?_ _
    rw [← hR]; simp [Gg]
  | k + 1, i, h, hR => by
    refine Tn fun K hK => ?_
    have h2 : i < n.l.length := by omega
    simp (disch := omega) [h2, Ah, A0, Bc ([] : List UInt8), Aa]
    refine A6 (qCg n.l[i] (ha _ (List.getElem_mem h2))) rfl ?_
    have hd : n.l.drop i = n.l[i] :: n.l.drop (i + 1) := List.drop_eq_getElem_cons h2
    rw [hd] at hR
    simp only [Gg] at hR
    have ht : n.l.take i ++ [n.l[i]] = n.l.take (i + 1) := by rw [List.take_add_one]; simp [h2]
    by_cases hq : W2 n.l[i] = true
    · have hfit := q1D (n.l.take i)
      simp [hq, tS, KT.fits, sV, hfit]
      rw [show (Value.string ⟨(n.l[i]).toArray⟩) = sV n.l[i] from rfl, Z0]
      by_cases hm : n.l[i] ∈ n.l.take i
      · simp [hm]
        refine h5 ?_
        rw [← hR, if_pos (.inr hm)]
      · rw [if_neg (by simp [hq, hm]), ht] at hR
        simp (disch := omega) [hm, sV, KT.fits, hfit, A7]
        rw [hK]
        have := q9E n hl ha R h0 h5 k (i + 1) (by omega) hR
        rw [show (Value.string ⟨(n.l[i]).toArray⟩) = sV n.l[i] from rfl, Xu _ _ hm, ht]
        exact_mod_cast this
    · have hq' : W2 n.l[i] = false := by simpa using hq
      simp [hq']
      refine h5 ?_
      rw [← hR, if_pos (.inl hq')]
theorem qEH (c : B9) (hc : CirOk c) (ha : ∀ s ∈ c.names.l, ∀ b ∈ s, b < 128) : Ab Tryz.prog Γ 172 [.agg (tC c)] (tI (Gg [] c.names.l)) := by
  refine Ad q5O rfl ?_
  simp [q09, tC, Ac, Ah, Am, Aw, A0]
  refine q9E c.names hc.names ha (Gg [] c.names.l) (fun h m => ?_) (fun h => ?_) c.names.l.length 0 (by omega) (by simp)
  · simp [Rw, h]
  · simp [Rw, h]
def Di : List Int → Int
  | [] => 0
  | e :: l => if e ≠ 0 then e else Di l
theorem q4q {α : Type} (f : α → Int) (l : List α) (i : Nat) (h : i < l.length) : Di ((l.drop i).map f) = if f l[i] ≠ 0 then f l[i] else Di ((l.drop (i + 1)).map f) := by
  rw [List.drop_eq_getElem_cons h]; rfl
theorem q7j {Q : AX → St → Prop} (hΓ : GOk Γ) (c : B9) (hc : CirOk c) (R : Int)
    (h0 : R = 0 → Q (.exit 1) ⟨[(1, .t (.ip (tC c) 0)), (36, .t (Ac c.nodes)), (37, .t (tI c.nodes.l.length)), (38, .t (tI c.nodes.l.length)), (39, .t (tB false))], []⟩)
    (h5 : R ≠ 0 → Q .ret ⟨[(2, .t (tI R))], []⟩) : ∀ (k i : Nat), k + i = c.nodes.l.length → Di ((c.nodes.l.drop i).map (Dm c)) = R →
    run Tryz.prog Γ K8 Q ⟨[(1, .t (.ip (tC c) 0)), (36, .t (Ac c.nodes)), (37, .t (tI c.nodes.l.length)), (38, .t (tI i))], []⟩
  | 0, i, h, hR => by
    refine Tj fun K hK => ?_
    have h2 : ¬ i < c.nodes.l.length := by omega
    have h3 : i = c.nodes.l.length := by omega
    simp [h2]
    subst h3
    exact h0 (by rw [← hR]; simp [Di])
  | k + 1, i, h, hR => by
    refine Tj fun K hK => ?_
    have h2 : i < c.nodes.l.length := by omega
    have hn := hc.nodes
    have hx := List.getElem_mem h2
    rw [q4q (Dm c) _ _ h2] at hR
    have e := qFv (Γ := Γ) hΓ c c.nodes.l[i] hc (hc.kind _ hx) (hc.inn _ hx)
    simp (disch := omega) [h2, Ac, Af, D8 Nd.d, Bh, C4, tC, Aw]
    refine A6 e rfl ?_
    by_cases hq : Dm c c.nodes.l[i] = 0
    · rw [if_neg (by simp [hq])] at hR
      simp (disch := omega) [hq, A7]
      rw [hK]
      have := q7j hΓ c hc R h0 h5 k (i + 1) (by omega) hR
      simpa [tC, Ac, Aw] using this
    · rw [if_pos (by simpa using hq)] at hR
      simp [hq]
      rw [hR]
      exact h5 (by rw [← hR]; exact hq)
theorem q9F {Q : AX → St → Prop} (c : B9) (hc : CirOk c) (R : Int)
    (h0 : R = 0 → Q (.exit 3) ⟨[(1, .t (.ip (tC c) 0)), (55, .t (Am c.mems)), (56, .t (tI c.mems.l.length)), (57, .t (tI c.mems.l.length)), (58, .t (tB false))], []⟩)
    (h5 : R ≠ 0 → Q .ret ⟨[(2, .t (tI R))], []⟩) : ∀ (k i : Nat), k + i = c.mems.l.length → Di ((c.mems.l.drop i).map (Rx c)) = R →
    run Tryz.prog Γ K9 Q ⟨[(1, .t (.ip (tC c) 0)), (55, .t (Am c.mems)), (56, .t (tI c.mems.l.length)), (57, .t (tI i))], []⟩
  | 0, i, h, hR => by
    refine Tm fun K hK => ?_
    have h2 : ¬ i < c.mems.l.length := by omega
    have h3 : i = c.mems.l.length := by omega
    simp [h2]
    subst h3
    exact h0 (by rw [← hR]; simp [Di])
  | k + 1, i, h, hR => by
    refine Tm fun K hK => ?_
    have h2 : i < c.mems.l.length := by omega
    have hn := hc.mems
    have hx := List.getElem_mem h2
    rw [q4q (Rx c) _ _ h2] at hR
    have e := qCh (Γ := Γ) c c.mems.l[i] hc (hc.addr _ hx)
    simp (disch := omega) [h2, Am, Af, D8 Mm.d, q6A, tMm, tC, Aw]
    refine A6 e rfl ?_
    by_cases hq : Rx c c.mems.l[i] = 0
    · rw [if_neg (by simp [hq])] at hR
      simp (disch := omega) [hq, A7]
      rw [hK]
      have := q9F c hc R h0 h5 k (i + 1) (by omega) hR
      simpa [tC, Am, Aw] using this
    · rw [if_pos (by simpa using hq)] at hR
      simp [hq]
      rw [hR]
      exact h5 (by rw [← hR]; exact hq)
def Dy (c : B9) : Int :=
  if 16384 < c.nodes.l.length ∨ 16 < c.mems.l.length ∨ 16384 < c.outs.l.length then 3 else if c.names.l.length ≠ c.nodes.l.length then 8
  else if Di (c.nodes.l.map (Dm c)) ≠ 0 then Di (c.nodes.l.map (Dm c))
  else if Gg [] c.names.l ≠ 0 then Gg [] c.names.l
  else if Di (c.mems.l.map (Rx c)) ≠ 0 then Di (c.mems.l.map (Rx c))
  else if c.outs.l.any (Oh c) = true then 1 else 0
theorem qEI (hΓ : GOk Γ) (c : B9) (hc : CirOk c) (ha : ∀ s ∈ c.names.l, ∀ b ∈ s, b < 128) : Ab Tryz.prog Γ 148 [.agg (tC c)] (tI (Dy c)) := by
  refine Ad q5N rfl ?_
  have hn := hc.nodes
  have hm := hc.mems
  have ho := hc.outs
  have hnn := hc.names
  have en := qEH (Γ := Γ) c hc ha
  have eo := Xe (Γ := Γ) c
  have ec := q0A (Γ := Γ) c hn c.outs.l c.outs.cap c.outs.nl ho
  by_cases h1 : 16384 < c.nodes.l.length ∨ 16 < c.mems.l.length ∨ 16384 < c.outs.l.length
  · have : Dy c = 3 := by unfold Dy; rw [if_pos h1]
    rw [this]
    by_cases g1 : (16384 : Int) < c.nodes.l.length
    · simp [Ey, Cm, tC, Ac, Ah, Am, Aw, Af, A0, g1]
    by_cases g2 : (16 : Int) < c.mems.l.length
    · simp [Ey, Cm, tC, Ac, Ah, Am, Aw, Af, A0, g1, g2]
    have g3 : (16384 : Int) < c.outs.l.length := by omega
    simp [Ey, Cm, tC, Ac, Ah, Am, Aw, Af, A0, g1, g2, g3]
  have g1 : ¬ (16384 : Int) < c.nodes.l.length := by omega
  have g2 : ¬ (16 : Int) < c.mems.l.length := by omega
  have g3 : ¬ (16384 : Int) < c.outs.l.length := by omega
  by_cases h2 : c.names.l.length = c.nodes.l.length
  case neg =>
    have : Dy c = 8 := by unfold Dy; rw [if_neg h1, if_pos h2]
    have h2' : ¬ (c.names.l.length : Int) = c.nodes.l.length := by omega
    rw [this]
    simp [Ey, Cm, tC, Ac, Ah, Am, Aw, Af, A0, g1, g2, g3, h2']
  simp [Ey, tC, Ac, Ah, Am, Aw, Af, A0, g1, g2, g3, h2]
  have e0 : Dy c = if Di (c.nodes.l.map (Dm c)) ≠ 0 then Di (c.nodes.l.map (Dm c))
      else if Gg [] c.names.l ≠ 0 then Gg [] c.names.l
      else if Di (c.mems.l.map (Rx c)) ≠ 0 then Di (c.mems.l.map (Rx c))
      else if c.outs.l.any (Oh c) = true then 1 else 0 := by
    unfold Dy; rw [if_neg h1, if_neg (by simp [h2])]
  refine q7j hΓ c hc (Di (c.nodes.l.map (Dm c))) (fun h3 => ?_) (fun h3 => ?_) c.nodes.l.length 0 (by omega) (by simp)
  case refine_2 =>
    rw [if_pos h3] at e0
    simp [Cm, e0]
  rw [if_neg (by rw [h3]; decide)] at e0
  simp [tC, Ac, Ah, Am, Aw]
  refine A6 en rfl ?_
  by_cases h4 : Gg [] c.names.l = 0
  case neg =>
    rw [if_pos h4] at e0
    simp [h4, Cm, e0]
  rw [if_neg (by rw [h4]; decide)] at e0
  simp [h4, Af]
  refine q9F c hc (Di (c.mems.l.map (Rx c))) (fun h5 => ?_) (fun h5 => ?_) c.mems.l.length 0 (by omega) (by simp)
  case refine_2 =>
    rw [if_pos h5] at e0
    simp [Cm, e0]
  rw [if_neg (by rw [h5]; decide)] at e0
  simp [tC, Ac, Ah, Am, Aw]
  refine A8 eo rfl ?_
  simp
  refine A6 ec rfl ?_
  generalize c.outs.l.any (Oh c) = b at e0
  cases b <;> simp [Cm, e0]
def Jv (ks : List Int) : List Nd → Nat → List Int
  | [], _ => []
  | x :: l, i => if ks.contains x.k then (i : Int) :: Jv ks l (i + 1) else Jv ks l (i + 1)
theorem Kq (ks : List Int) : ∀ (a b : List Nd) (i : Nat), Jv ks (a ++ b) i = Jv ks a i ++ Jv ks b (i + a.length)
  | [], b, i => by simp [Jv]
  | x :: a, b, i => by
    have := Kq ks a b (i + 1)
    simp only [List.cons_append, Jv, this, List.length_cons]
    split <;> simp [Nat.add_assoc, Nat.add_comm 1]
theorem Xf (ks : List Int) : ∀ (a : List Nd) (i : Nat), (Jv ks a i).length ≤ a.length
  | [], _ => by simp [Jv]
  | x :: a, i => by
    have := Xf ks a (i + 1)
    simp only [Jv]
    split <;> simp <;> omega
theorem qEw {Q : AX → St → Prop} (n : Sl Nd) (hl : n.l.length ≤ 1000000000) (ks : List Int) (kc : Option Nat) (kn : Option Bool) (hk : ks.length ≤ 1000000000)
    (h0 : Q (.exit 0) ⟨[(1, .t (.sl (Ae tK ks) kc kn)), (5, .ls 23 0 (Jv ks n.l 0).length none), (9, .t (Ac n)), (10, .t (tI n.l.length)), (11, .t (tI n.l.length)), (12, .t (tB false))], [(23, .sl 3 1 (Ao (Jv ks n.l 0)))]⟩) : ∀ (k i : Nat), k + i = n.l.length →
    run Tryz.prog Γ Rm Q ⟨[(1, .t (.sl (Ae tK ks) kc kn)), (5, .ls 23 0 (Jv ks (n.l.take i) 0).length none), (9, .t (Ac n)), (10, .t (tI n.l.length)), (11, .t (tI i))], [(23, .sl 3 1 (Ao (Jv ks (n.l.take i) 0)))]⟩
  | 0, i, h => by
    refine Yh fun K hK => ?_
    have h2 : ¬ i < n.l.length := by omega
    have h3 : i = n.l.length := by omega
    simp [h2]
    subst h3
    simpa using h0
  | k + 1, i, h => by
    refine Yh fun K hK => ?_
    have h2 : i < n.l.length := by omega
    have ht : n.l.take (i + 1) = n.l.take i ++ [n.l[i]] := by rw [List.take_add_one]; simp [h2]
    have hlen := Xf ks (n.l.take i) 0
    have htl : (n.l.take i).length = i := by simp; omega
    have hal : Jv ks (n.l.take (i + 1)) 0 = if ks.contains n.l[i].k then Jv ks (n.l.take i) 0 ++ [(i : Int)] else Jv ks (n.l.take i) 0 := by
      rw [ht, Kq, htl]
      simp only [Jv, Nat.zero_add]
      split <;> simp
    have e := qAH (Γ := Γ) ks kc kn n.l[i].k hk
    simp (disch := omega) [h2, Ac, Af, D8 Nd.d, Bh, C4, Aw]
    refine A6 e rfl ?_
    generalize ks.contains n.l[i].k = b at hal
    have ih := qEw n hl ks kc kn hk h0 k (i + 1) (by omega)
    rw [hal] at ih
    cases b with
    | false =>
      simp (disch := omega) [A7]
      rw [hK]
      simpa [Ac] using ih
    | true =>
      have hw : Ec 1 [[tI (i : Int)]] := by intro e he; simp at he; subst he; rfl
      simp (disch := omega) [A7, A0, Aa, hw]
      rw [hK]
      simp [Ac] at ih
      rw [By (f := tI) (x := (i : Int))]
      exact ⟨by omega, ih⟩
theorem qIn (c : B9) (hc : CirOk c) (ks : List Int) (kc : Option Nat) (kn : Option Bool) (hk : ks.length ≤ 1000000000) :
    Ab Tryz.prog Γ 80 [.agg (tC c), .sl (Ae tK ks) kc kn] (.sl (Ao (Jv ks c.nodes.l 0)) (some (Jv ks c.nodes.l 0).length) none) := by
  refine Ad q8D rfl ?_
  simp [q3G, tC, Ac, Ah, Am, Aw, Af]
  refine qEw c.nodes hc.nodes ks kc kn hk ?_ c.nodes.l.length 0 (by omega)
  simp
  refine ⟨_, _, qEC 3 (Ao (Jv ks c.nodes.l 0)) (Jv ks c.nodes.l 0).length none Aa, ?_⟩
  simp [q3H]
abbrev O8 := List (Int × Int)
def tLn (p : Int × Int) : List T := [tI p.1, tI p.2]
def q9G (i : Nat) (r : O8) : AV := if r = [] then .t (.sl [] (some 0) (some true)) else .ls (100000 + i) 0 r.length none
def D5 (rows : List O8) : List AV := rows.mapIdx q9G
def Ls (rows : List O8) (id : Nat) : Option Bl := match rows[id - 100000]? with
  | some r => if r = [] then none else some (.sl 205 2 (As tLn r))
  | none => none
def Lt (k : Nat) (g : Nat → Option Bl) : List (Nat × Bl) := (List.range' 100000 k).filterMap fun id => (g id).map fun r => (id, r)
def Db (rows : List O8) : List (Nat × Bl) := Lt 16384 (Ls rows)
theorem q9H {α β : Type} {f g : α → Option β} : ∀ {l : List α}, (∀ x ∈ l, f x = g x) → l.filterMap f = l.filterMap g
  | [], _ => rfl
  | x :: l, h => by
    rw [List.filterMap_cons, List.filterMap_cons, h x List.mem_cons_self, q9H (l := l) fun y hy => h y (List.mem_cons_of_mem _ hy)]
theorem qIo {l : List Nat} {g : Nat → Option Bl} {t : Nat} : A9 (l.filterMap fun id => (g id).map fun r => (id, r)) t = if t ∈ l then g t else none := by
  induction l with
  | nil => simp [A9]
  | cons k l ih =>
    rw [List.filterMap_cons]
    cases hg : g k with
    | none =>
      simp only [Option.map_none, ih]
      by_cases h : t = k
      · subst h; simp [hg]
      · simp [h]
    | some r =>
      simp only [Option.map_some, A9, ih]
      by_cases h : k = t
      · subst h; simp [hg]
      · simp [h, Ne.symm h]
theorem Pg {k : Nat} {g : Nat → Option Bl} {t : Nat} : A9 (Lt k g) t = if 100000 ≤ t ∧ t < 100000 + k then g t else none := by
  unfold Lt; rw [qIo]
  by_cases h : 100000 ≤ t ∧ t < 100000 + k
  · rw [if_pos h, if_pos (by rw [List.mem_range'_1]; exact h)]
  · rw [if_neg h, if_neg (by rw [List.mem_range'_1]; exact h)]
theorem qAp {rows : List O8} {l : List (Nat × Bl)} (h : ∀ t ∈ List.range' 100000 16384, A9 l t = Ls rows t) : Lg.keep (List.range' 100000 16384) l = Db rows := by
  unfold Lg.keep Db Lt
  exact q9H fun t ht => by rw [h t ht]
theorem q75 {env : List (Nat × AV)} {hp : List (Nat × Bl)} {ks : List Nat} {rows : List O8} (hk : (hp.map (·.1)).filter (fun id => !([14] : List Nat).contains id && !(decide (100000 ≤ id) && decide (id < 100000 + 16384))) = [])
    (h14 : A9 hp 14 = some (.bx (D5 rows))) (hr : ∀ t, 100000 ≤ t → t < 116384 → A9 hp t = Ls rows t) :
    Gh.run (.keepB ks [14] 100000 16384) ⟨env, hp⟩ = ⟨Lg.keep ks env, (14, .bx (D5 rows)) :: Db rows⟩ := by
  simp only [Gh.run, q8Y, hk, J0, q71, h14, q96, List.cons_append, List.nil_append]
  congr 2
  simp only [Lg.keep, Db, Lt]
  refine q9H fun t ht => ?_
  rw [List.mem_range'_1] at ht
  rw [hr t ht.1 (by omega)]
theorem q1E {k : Nat} {g : Nat → Option Bl} : ∀ p ∈ Lt k g, 100000 ≤ p.1 ∧ p.1 < 100000 + k := by
  intro p hp
  obtain ⟨id, hid, he⟩ := List.mem_filterMap.1 hp
  rw [List.mem_range'_1] at hid
  cases hg : g id with
  | none => rw [hg] at he; cases he
  | some r => rw [hg] at he; simp at he; subst he; exact hid
theorem q7k {rows : List O8} : ((Db rows).map (·.1)).filter (fun id => !([14] : List Nat).contains id && !(decide (100000 ≤ id) && decide (id < 100000 + 16384))) = [] := by
  rw [List.filter_eq_nil_iff]
  intro id hid
  obtain ⟨p, hp, rfl⟩ := List.mem_map.1 hid
  have := q1E p hp
  simp [this.1, this.2]
theorem q4G {rows : List O8} {t : Nat} : A9 ((14, .bx (D5 rows)) :: Db rows) t = if t = 14 then some (.bx (D5 rows)) else if 100000 ≤ t ∧ t < 116384 then Ls rows t else none := by
  simp only [A9, Db, Pg]
  by_cases h : t = 14
  · simp [h]
  · simp [h, Ne.symm h]
theorem Xg {env : List (Nat × AV)} {ks : List Nat} {rows : List O8} : Gh.run (.keepB ks [14] 100000 16384) ⟨env, (14, .bx (D5 rows)) :: Db rows⟩ = ⟨Lg.keep ks env, (14, .bx (D5 rows)) :: Db rows⟩ := by
  refine q75 ?_ (by simp [A9]) fun t h1 h2 => ?_
  · rw [List.map_cons, List.filter_cons]; simp only [q7k]; simp
  · rw [q4G, if_neg (by omega), if_pos ⟨h1, h2⟩]
theorem qBk {id : Nat} (h : id < 100000) (rows : List O8) : (D5 rows).map (Gp id) = D5 rows := by
  apply List.ext_getElem?
  intro i
  simp only [D5, List.getElem?_map, List.getElem?_mapIdx, Option.map_map]
  cases rows[i]? with
  | none => rfl
  | some r =>
    simp only [Option.map_some, Function.comp_def, q9G]
    split
    · rfl
    · simp only [Gp, kill1]; rw [if_neg (by omega)]
theorem qIp {env : List (Nat × AV)} {ks : List Nat} {rows : List O8} {q : Bl} : Gh.run (.keepB ks [14] 100000 16384) ⟨env, (6, q) :: (14, .bx (D5 rows)) :: Db rows⟩ = ⟨(Lg.keep ks env).map (fun p => (p.1, Gp 6 p.2)), (14, .bx (D5 rows)) :: Db rows⟩ := by
  have hk : (((6, q) :: (14, Bl.bx (D5 rows)) :: Db rows).map (·.1)).filter (fun id => !([14] : List Nat).contains id && !(decide (100000 ≤ id) && decide (id < 100000 + 16384))) = [6] := by
    rw [List.map_cons, List.map_cons, List.filter_cons, List.filter_cons]; simp only [q7k]; simp
  have hl : ∀ t, t ≠ 6 → A9 (St.kill 6 ⟨Lg.keep ks env, (6, q) :: (14, .bx (D5 rows)) :: Db rows⟩).hp t = A9 ((14, .bx (D5 rows)) :: Db rows) t := by
    intro t ht
    rw [q11, if_neg ht]
    show (A9 ((6, q) :: (14, .bx (D5 rows)) :: Db rows) t).map _ = _
    rw [A9, if_neg (Ne.symm ht), q4G]
    by_cases h : t = 14
    · simp [h, Qn, qBk]
    · simp only [h, ↓reduceIte]
      split
      · unfold Ls
        split
        · split <;> simp [Qn]
        · rfl
      · rfl
  simp only [Gh.run, q8Y, hk, J0, q71, q96, List.cons_append, List.nil_append]
  rw [hl 14 (by omega)]
  simp only [A9, ↓reduceIte, List.cons_append, List.nil_append]
  congr 2
  refine qAp fun t ht => ?_
  rw [List.mem_range'_1] at ht
  rw [hl t (by omega), q4G, if_neg (by omega), if_pos ⟨ht.1, by omega⟩]
def I6 (rows : List O8) (n : Nat) (p : Int × Int) : List O8 := rows.set n (rows.getD n [] ++ [p])
theorem q5P {rows : List O8} {n : Nat} {p : Int × Int} : (I6 rows n p).length = rows.length := by simp [I6]
theorem qFz {env : List (Nat × AV)} {ks : List Nat} {rows : List O8} {n : Nat} {p : Int × Int} {hp : List (Nat × Bl)} {cs : List AV} (hn : n < rows.length) (hn2 : rows.length ≤ 16384)
    (hlen : cs.length = rows.length) (hcs : ∀ i, i ≠ n → cs[i]? = (D5 rows)[i]?) (hc : cs[n]? = some (.ls 47 0 ((rows.getD n []).length + 1) none)) (h47 : A9 hp 47 = some (.sl 205 2 (As tLn (rows.getD n [] ++ [p])))) (h14 : A9 hp 14 = some (.bx cs))
    (hno : A9 hp (100000 + n) = none) (hoth : ∀ t, 100000 ≤ t → t < 116384 → t ≠ 100000 + n → A9 hp t = Ls rows t) (hkeys : ∀ q ∈ hp, q.1 = 47 ∨ q.1 = 14 ∨ (100000 ≤ q.1 ∧ q.1 < 116384)) :
    Gh.run (.keepB ks [14] 100000 16384) (q14 47 (100000 + n) ⟨env, hp⟩) = ⟨(Lg.keep ks (env.map fun q => (q.1, C2 (I4 47 (100000 + n)) q.2))), (14, .bx (D5 (I6 rows n p))) :: Db (I6 rows n p)⟩ := by
  have hr : q14 47 (100000 + n) ⟨env, hp⟩ = ⟨env.map fun q => (q.1, C2 (I4 47 (100000 + n)) q.2), Zy 47 (100000 + n) hp⟩ := by
    unfold q14
    rw [if_pos]
    simp [hno, h47]; omega
  rw [hr]
  have hget : ∀ i, (I6 rows n p)[i]? = if i = n then some (rows.getD n [] ++ [p]) else rows[i]? := by
    intro i
    unfold I6
    rw [List.getElem?_set]
    by_cases h : n = i
    · subst h; simp [hn]
    · simp [h, Ne.symm h]
  have hl := fun t => q5H (a := 47) (b := 100000 + n) (t := t) hno (by omega)
  refine q75 ?_ ?_ fun t h1 h2 => ?_
  · rw [List.filter_eq_nil_iff]
    intro id hid
    have : id = 100000 + n ∨ id ≠ 47 ∧ ∃ q ∈ hp, q.1 = id := by
      clear hl hr hno hoth h14 h47
      induction hp with
      | nil => simp [Zy] at hid
      | cons q l ih =>
        obtain ⟨k, r⟩ := q
        simp only [Zy, List.map_cons, List.mem_cons] at hid
        rcases hid with hid | hid
        · by_cases h : k = 47
          · left; simpa [h] using hid
          · right; simp [h] at hid; subst hid; exact ⟨h, _, List.mem_cons_self, rfl⟩
        · rcases ih (fun q hq => hkeys q (List.mem_cons_of_mem _ hq)) hid with h | ⟨h, q, hq, e⟩
          · exact .inl h
          · exact .inr ⟨h, q, List.mem_cons_of_mem _ hq, e⟩
    rcases this with h | ⟨h, q, hq, rfl⟩
    · subst h; simp; intro _; omega
    · rcases hkeys q hq with e | e | ⟨e1, e2⟩
      · exact absurd e h
      · simp [e]
      · simp; intro _; omega
  · rw [hl, if_neg (by omega), if_neg (by omega), h14]
    simp only [Option.map_some, D7, Option.some.injEq, Bl.bx.injEq]
    apply List.ext_getElem?
    intro i
    simp only [List.getElem?_map, D5, List.getElem?_mapIdx]
    rw [hget]
    by_cases h : i = n
    · subst h
      rw [hc]
      have : ¬ (rows.getD i [] ++ [p] = []) := by simp
      simp only [↓reduceIte, Option.map_some, Option.some.injEq]
      unfold q9G
      rw [if_neg this]
      simp [C2, ren1, ren0, I4]
    · rw [hcs i h, if_neg h]
      simp only [D5, List.getElem?_mapIdx, Option.map_map]
      cases hrow : rows[i]? with
      | none => rfl
      | some r =>
        simp only [Option.map_some, Function.comp_def, q9G, Option.some.injEq]
        split
        · rfl
        · simp only [C2, ren1, ren0, I4]; rw [if_neg (by omega)]
  · rw [hl]
    by_cases h : t = 100000 + n
    · rw [if_pos h, h47]
      subst h
      unfold Ls
      rw [show 100000 + n - 100000 = n by omega, hget, if_pos rfl]
      simp [D7]
    · rw [if_neg h, if_neg (by omega), hoth t h1 h2 h]
      unfold Ls
      rw [hget, if_neg (by omega)]
      cases rows[t - 100000]? with
      | none => rfl
      | some r => simp only; split <;> simp [D7]
def q76 (k i : Nat) (r : O8) : AV := if r = [] then .t (.sl [] (some 0) (some true)) else if k ≤ i then .t (.sl (As tLn r) none none) else .ls (100000 + i) 0 r.length none
theorem qHC {env : List (Nat × AV)} {rows : List O8} (he : ∀ id r, 100000 ≤ id → ∀ p ∈ env, D3 id r p.2 = p.2) (k : Nat) : St.freeze (100000 + k) ⟨env, (14, .bx (rows.mapIdx (q76 (k + 1)))) :: Lt (k + 1) (Ls rows)⟩ = ⟨env, (14, .bx (rows.mapIdx (q76 k))) :: Lt k (Ls rows)⟩ := by
  have hsplit : Lt (k + 1) (Ls rows) = Lt k (Ls rows) ++ (match Ls rows (100000 + k) with | some r => [(100000 + k, r)] | none => []) := by
    unfold Lt
    rw [← List.range'_append (s := 100000) (m := k) (n := 1) (step := 1)]
    rw [List.filterMap_append]
    congr 1
    cases hr : Ls rows (100000 + k) <;> simp [hr]
  have hl : A9 ((14, Bl.bx (rows.mapIdx (q76 (k + 1)))) :: Lt (k + 1) (Ls rows)) (100000 + k) = Ls rows (100000 + k) := by
    rw [A9, if_neg (by omega), Pg, if_pos (by omega)]
  simp only [St.freeze, hl]
  cases hr : Ls rows (100000 + k) with
  | none =>
    rw [hr] at hsplit
    simp only [hsplit, List.append_nil]
    refine congrArg (fun l => (⟨env, (14, Bl.bx l) :: Lt k (Ls rows)⟩ : St)) ?_
    apply List.ext_getElem?
    intro i
    simp only [List.getElem?_mapIdx]
    cases hi : rows[i]? with
    | none => rfl
    | some r =>
      simp only [Option.map_some, q76]
      by_cases h0 : r = []
      · simp [h0]
      · by_cases hik : i = k
        · subst hik
          unfold Ls at hr
          rw [show 100000 + i - 100000 = i by omega, hi] at hr
          simp [h0] at hr
        · have : (k + 1 ≤ i) = (k ≤ i) := by apply propext; omega
          simp [this]
  | some q =>
    obtain ⟨r, hrow, hne, rfl⟩ : ∃ r, rows[k]? = some r ∧ r ≠ [] ∧ q = .sl 205 2 (As tLn r) := by
      unfold Ls at hr
      rw [show 100000 + k - 100000 = k by omega] at hr
      split at hr
      · rename_i r h
        split at hr
        · cases hr
        · rename_i hne; simp only [Option.some.injEq] at hr; exact ⟨r, h, hne, hr.symm⟩
      · cases hr
    rw [hr] at hsplit
    simp only [Bl.closed, ↓reduceIte]
    have e1 : env.map (fun p => (p.1, D3 (100000 + k) (.sl 205 2 (As tLn r)) p.2)) = env := by
      conv => rhs; rw [← List.map_id env]
      refine List.map_congr_left fun p hp => ?_
      rw [he _ _ (by omega) p hp]; rfl
    have e2 : del (100000 + k) ((14, Bl.bx (rows.mapIdx (q76 (k + 1)))) :: Lt (k + 1) (Ls rows)) = (14, Bl.bx (rows.mapIdx (q76 (k + 1)))) :: Lt k (Ls rows) := by
      rw [hsplit]
      unfold del
      rw [List.filter_cons, if_pos (by simp; omega), List.filter_append]
      congr 1
      have h1 : (Lt k (Ls rows)).filter (fun p => p.1 != 100000 + k) = Lt k (Ls rows) := by
        rw [List.filter_eq_self]
        intro p hp
        have := q1E p hp
        simp; omega
      rw [h1]; simp
    rw [e1, e2]
    have e3 : (Lt k (Ls rows)).map (fun p => (p.1, Eo (100000 + k) (.sl 205 2 (As tLn r)) p.2)) = Lt k (Ls rows) := by
      conv => rhs; rw [← List.map_id (Lt k (Ls rows))]
      refine List.map_congr_left fun p hp => ?_
      obtain ⟨id, hid, hee⟩ := List.mem_filterMap.1 hp
      cases hg : Ls rows id with
      | none => rw [hg] at hee; cases hee
      | some q =>
        rw [hg] at hee
        simp only [Option.map_some, Option.some.injEq] at hee; subst hee
        unfold Ls at hg
        split at hg
        · split at hg
          · cases hg
          · simp only [Option.some.injEq] at hg; subst hg; rfl
        · cases hg
    rw [List.map_cons, e3]
    refine congrArg (fun l => (⟨env, (14, Bl.bx l) :: Lt k (Ls rows)⟩ : St)) ?_
    apply List.ext_getElem?
    intro i
    simp only [List.getElem?_map, List.getElem?_mapIdx, Option.map_map]
    cases hi : rows[i]? with
    | none => rfl
    | some r' =>
      simp only [Option.map_some, Function.comp_def, q76]
      by_cases h0 : r' = []
      · simp [h0, D3, frz1, frz0]
      · simp only [h0, ↓reduceIte]
        by_cases hik : i = k
        · subst hik
          rw [hrow] at hi; cases hi
          rw [if_neg (by omega), if_pos (Nat.le_refl _)]
          simp [D3, frz1, frz0, Ak, A9]
        · by_cases hlt : k + 1 ≤ i
          · rw [if_pos hlt, if_pos (by omega)]; rfl
          · rw [if_neg hlt, if_neg (by omega)]
            simp only [D3, frz1, frz0]
            rw [if_neg (by omega)]
theorem qEx {env : List (Nat × AV)} {rows : List O8} (he : ∀ id r, 100000 ≤ id → ∀ p ∈ env, D3 id r p.2 = p.2) : ∀ k, qE7 100000 k ⟨env, (14, .bx (rows.mapIdx (q76 k))) :: Lt k (Ls rows)⟩ = ⟨env, (14, .bx (rows.mapIdx (q76 0))) :: []⟩
  | 0 => by simp [qE7, Lt]
  | k + 1 => by
    rw [qE7, qHC he k]
    exact qEx he k
def qAJ (r : O8) : T := if r = [] then .sl [] (some 0) (some true) else .sl (As tLn r) none none
theorem qHD {env : List (Nat × AV)} {rows : List O8} (hl : rows.length ≤ 16384) (he : ∀ id r, 100000 ≤ id → ∀ p ∈ env, D3 id r p.2 = p.2) : Gh.run (.frzs 100000 16384) ⟨env, (14, .bx (D5 rows)) :: Db rows⟩ = ⟨env, [(14, .bx (rows.map fun r => .t (qAJ r)))]⟩ := by
  have h1 : D5 rows = rows.mapIdx (q76 16384) := by
    apply List.ext_getElem?
    intro i
    simp only [D5, List.getElem?_mapIdx]
    cases hi : rows[i]? with
    | none => rfl
    | some r =>
      have := (List.getElem?_eq_some_iff.1 hi).1
      simp only [Option.map_some, q9G, q76]
      rw [if_neg (show ¬ 16384 ≤ i by omega)]
  have h2 : rows.mapIdx (q76 0) = rows.map fun r => .t (qAJ r) := by
    apply List.ext_getElem?
    intro i
    simp only [List.getElem?_mapIdx, List.getElem?_map]
    cases rows[i]? with
    | none => rfl
    | some r =>
      simp only [Option.map_some, q76, qAJ, Nat.zero_le, ↓reduceIte]
      split <;> rfl
  have := qEx (rows := rows) he 16384
  rw [h2] at this
  simp only [Gh.run, h1, Db]
  exact this
theorem Ud {rows : List O8} : (D5 rows).length = rows.length := by simp [D5]
theorem qHE {rows : List O8} {n : Nat} (h : n < rows.length) : ((D5 rows).drop n).take 1 = [q9G n (rows.getD n [])] := by
  have : (D5 rows).drop n = q9G n (rows.getD n []) :: (D5 rows).drop (n + 1) := by
    rw [List.drop_eq_getElem_cons (by rw [Ud]; exact h)]
    simp [D5, h]
  rw [this]; rfl
theorem qBl {l : O8} : Ec 2 (As tLn l) := q3D fun _ => rfl
theorem qKc {Q : AX → St → Prop} (rows : List O8) (n : Nat) (hn : n < rows.length) (hn2 : rows.length ≤ 16384) (i k : Int) (hr : (rows.getD n []).length ≤ 1000000000) (t4 t18 t19 t20 t26 t27 t28 t36 : T) (m : Nat) (hm : m = rows.length)
    (h : Q .normal ⟨[(3, .lb 14 m), (4, .t t4), (5, .t (tI i)), (18, .t t18), (19, .t t19), (20, .t t20), (26, .t t26), (27, .t t27), (28, .t t28)], (14, .bx (D5 (I6 rows n (i, k)))) :: Db (I6 rows n (i, k))⟩) :
    Gw Tryz.prog Γ Ea ⟨[(3, .lb 14 m), (4, .t t4), (5, .t (tI i)), (7, .t (tI k)), (8, .t (tI n)), (18, .t t18), (19, .t t19), (20, .t t20), (26, .t t26), (27, .t t27), (28, .t t28), (36, .t t36)], (14, .bx (D5 rows)) :: Db rows⟩
      (fun s1 => Q .normal (ghs [.renS 47 100000 8, .keepB [3, 4, 5, 18, 19, 20, 26, 27, 28] [14] 100000 16384] s1)) ⟨⟩ := by
  subst hm
  have hw : Ec 2 [[tI i, tI k]] := by intro e he; simp at he; subst he; rfl
  have hlk47 : A9 (Db rows) 47 = none := by rw [Db, Pg, if_neg (by omega)]
  have hat := qHE hn
  have hlk : A9 (Db rows) (100000 + n) = if rows.getD n [] = [] then none else some (.sl 205 2 (As tLn (rows.getD n []))) := by
    rw [Db, Pg, if_pos (by omega)]
    unfold Ls
    rw [show 100000 + n - 100000 = n by omega, List.getElem?_eq_getElem hn]
    simp [hn]
  have hadd : I6 rows n (i, k) = rows.set n (rows.getD n [] ++ [(i, k)]) := rfl
  have fin := @qFz
  generalize hrow : rows.getD n [] = row at hr hat hlk hadd
  have hlen1 : n + 1 ≤ rows.length := hn
  have hset : ∀ (j : Nat), j ≠ n → ∀ (l : List AV) (x : AV), l.length = rows.length → (l.take n ++ x :: l.drop (n + 1))[j]? = l[j]? := by
    intro j hj l x hl
    rw [List.getElem?_append]
    by_cases hlt : j < n
    · rw [if_pos (by simp; omega), List.getElem?_take, if_pos hlt]
    · rw [if_neg (by simp; omega)]
      have e : (l.take n).length = n := by simp; omega
      rw [e, show j - n = (j - n - 1) + 1 by omega, List.getElem?_cons_succ, List.getElem?_drop]
      congr 1; omega
  have hseta : ∀ (l : List AV) (x : AV), l.length = rows.length → (l.take n ++ x :: l.drop (n + 1))[n]? = some x := by
    intro l x hl
    rw [List.getElem?_append, if_neg (by simp; omega)]
    have e : (l.take n).length = n := by simp; omega
    rw [e]; simp
  by_cases h0 : row = []
  · subst h0
    simp only [q9G, ↓reduceIte] at hat hlk
    simp (disch := omega) [-Gh.run, G4, hat, Ud, hn, hw, hlk47, hlen1]
    rw [show ∀ st, A9 st.env 8 = some (.t (tI n)) → (Gh.renS 47 100000 8).run st = q14 47 (100000 + n) st from fun st hs => by simp [Gh.run, hs]]
    rw [fin (p := (i, k)) hn hn2 (by simp [Ud]; omega) (fun j hj => hset j hj _ _ Ud) (by rw [hseta _ _ Ud, hrow]; first | done | rfl) (by rw [hrow]; first | done | rfl) (by simp [A9]) (by rw [A9, if_neg (by omega), A9, if_neg (by omega)]; exact hlk) (fun t h1 h2 h3 => ?_) (fun q hq => ?_)]
    · simpa [C2, ren1, ren0, I4] using h
    · rw [A9, if_neg (by omega), A9, if_neg (by omega), Db, Pg, if_pos (by omega)]
    · rcases List.mem_cons.1 hq with rfl | hq
      · exact .inl rfl
      · rcases List.mem_cons.1 hq with rfl | hq
        · exact .inr (.inl rfl)
        · have := q1E q hq; exact .inr (.inr (by omega))
    · rfl
  · simp only [q9G, h0, ↓reduceIte] at hat hlk
    have h14 : ¬ 14 = 100000 + n := by omega
    have htl : ∀ t, A9 ((Db rows).filter fun p => p.1 != 100000 + n) t = if t = 100000 + n then none else A9 (Db rows) t := fun t => q8j (100000 + n) (Db rows) t
    have hkl : ∀ l : List (Nat × Bl), (∀ p ∈ l, p ∈ Db rows) → l.map (fun p => (p.1, Qn (100000 + n) p.2)) = l := by
      intro l hl
      conv => rhs; rw [← List.map_id l]
      refine List.map_congr_left fun p hp => ?_
      obtain ⟨id, hid, hee⟩ := List.mem_filterMap.1 (hl p hp)
      cases hg : Ls rows id with
      | none => rw [hg] at hee; cases hee
      | some q =>
        rw [hg] at hee
        simp only [Option.map_some, Option.some.injEq] at hee; subst hee
        unfold Ls at hg
        split at hg
        · split at hg
          · cases hg
          · simp only [Option.some.injEq] at hg; subst hg; rfl
        · cases hg
    have hk : (del (100000 + n) ((14, Bl.bx (D5 rows)) :: Db rows)).map (fun p => (p.1, Qn (100000 + n) p.2)) = (14, .bx ((D5 rows).map (Gp (100000 + n)))) :: (Db rows).filter fun p => p.1 != 100000 + n := by
      have e : del (100000 + n) ((14, Bl.bx (D5 rows)) :: Db rows) = (14, Bl.bx (D5 rows)) :: (Db rows).filter fun p => p.1 != 100000 + n := by
        unfold del
        rw [List.filter_cons, if_pos (by simp; omega)]
      rw [e, List.map_cons, hkl _ (fun p hp => (List.mem_filter.1 hp).1)]
      rfl
    have hl47 : A9 ((Db rows).filter fun p => p.1 != 100000 + n) 47 = none := by rw [htl, if_neg (by omega)]; exact hlk47
    generalize htail : (Db rows).filter (fun p => p.1 != 100000 + n) = tl at htl hk hl47
    have hkeys : ∀ q ∈ tl, 100000 ≤ q.1 ∧ q.1 < 116384 := by
      intro q hq
      rw [← htail] at hq
      have := q1E q (List.mem_filter.1 hq).1
      omega
    have hcs : ∀ j, j ≠ n → ((D5 rows).map (Gp (100000 + n)))[j]? = (D5 rows)[j]? := by
      intro j hj
      simp only [D5, List.getElem?_map, List.getElem?_mapIdx, Option.map_map]
      cases rows[j]? with
      | none => rfl
      | some r =>
        simp only [Option.map_some, Function.comp_def, q9G]
        split
        · rfl
        · simp only [Gp, kill1]; rw [if_neg (by omega)]
    have hcl : ((D5 rows).map (Gp (100000 + n))).length = rows.length := by simp [Ud]
    simp (disch := omega) [-Gh.run, G4, -del, -Qn, hat, Ud, hn, hw, hlk, hlen1, Af, qBl, h14, hk, hl47]
    refine ⟨by omega, ?_⟩
    rw [show ∀ st, A9 st.env 8 = some (.t (tI n)) → (Gh.renS 47 100000 8).run st = q14 47 (100000 + n) st from fun st hs => by simp [Gh.run, hs]]
    · rw [fin (p := (i, k)) hn hn2 (by simp [hcl]; omega) (fun j hj => (hset j hj _ _ hcl).trans (hcs j hj)) (by rw [hseta _ _ hcl, hrow]) (by rw [hrow]; simp [A9]; rw [show [tI i, tI k] = tLn (i, k) from rfl, Q5]) (by simp [A9]) (by rw [A9, if_neg (by omega), A9, if_neg (by omega), htl, if_pos rfl]) (fun t h1 h2 h3 => ?_) (fun q hq => ?_)]
      · simpa [C2, ren1, ren0, I4] using h
      · rw [A9, if_neg (by omega), A9, if_neg (by omega), htl, if_neg h3, Db, Pg, if_pos (by omega)]
      · rcases List.mem_cons.1 hq with rfl | hq
        · exact .inl rfl
        · rcases List.mem_cons.1 hq with rfl | hq
          · exact .inr (.inl rfl)
          · exact .inr (.inr (hkeys q hq))
    · rfl
def Kr (c : B9) (i : Nat) : List Int → Nat → List O8 → List O8
  | [], _, rows => rows
  | n :: l, k, rows => Kr c i l (k + 1) (if Oh c n then rows else I6 rows n.toNat (i, k))
def H4 (c : B9) : List Nd → Nat → List O8 → List O8
  | [], _, rows => rows
  | x :: l, i, rows => H4 c l (i + 1) (Kr c i x.inn.l 0 rows)
def RB (rows : List O8) (B : Nat) : Prop := ∀ r ∈ rows, r.length ≤ B
theorem RB.add {rows : List O8} {B n : Nat} {p : Int × Int} (h : RB rows B) : RB (I6 rows n p) (B + 1) := by
  intro r hr
  unfold I6 at hr
  by_cases hn : n < rows.length
  · rcases List.mem_or_eq_of_mem_set hr with hr | rfl
    · have := h r hr; omega
    · have : (rows.getD n []).length ≤ B := by
        have e : rows.getD n [] = rows[n] := by simp [hn]
        rw [e]; exact h _ (List.getElem_mem hn)
      simp at this ⊢; omega
  · rw [List.set_eq_of_length_le (by omega)] at hr
    have := h r hr; omega
theorem RB.mono {rows : List O8} {B C : Nat} (h : RB rows B) (hc : B ≤ C) : RB rows C := fun r hr => Nat.le_trans (h r hr) hc
theorem RB.at {rows : List O8} {B : Nat} (h : RB rows B) (n : Nat) : (rows.getD n []).length ≤ B := by
  by_cases hn : n < rows.length
  · have e : rows.getD n [] = rows[n] := by simp [hn]
    rw [e]; exact h _ (List.getElem_mem hn)
  · simp [List.getD, List.getElem?_eq_none (Nat.not_lt.1 hn)]
theorem Z1 (c : B9) (i : Nat) : ∀ (l : List Int) (k : Nat) (rows : List O8) (B : Nat), RB rows B → (Kr c i l k rows).length = rows.length ∧ RB (Kr c i l k rows) (B + l.length)
  | [], k, rows, B, h => ⟨rfl, h⟩
  | n :: l, k, rows, B, h => by
    simp only [Kr, List.length_cons]
    split
    · have := Z1 c i l (k + 1) rows B h
      exact ⟨this.1, this.2.mono (by omega)⟩
    · have := Z1 c i l (k + 1) _ (B + 1) (h.add (n := n.toNat) (p := (i, k)))
      exact ⟨this.1.trans q5P, this.2.mono (by omega)⟩
theorem q77 {Q : AX → St → Prop} (c : B9) (hn : c.nodes.l.length ≤ 16384) (i : Nat) (s : Sl Int) (hs : s.l.length ≤ 1000000000) (R : List O8)
    (h0 : Q (.exit 2) ⟨[(3, .lb 14 c.nodes.l.length), (4, .t (.fn 195 [.ip (tC c) 0])), (5, .t (tI i)), (18, .t (Ac c.nodes)), (19, .t (tI c.nodes.l.length)), (20, .t (tI i)), (26, .t (Aw s)), (27, .t (tI s.l.length)), (28, .t (tI s.l.length)), (29, .t (tB false))], (14, .bx (D5 R)) :: Db R⟩) :
    ∀ (kk k : Nat) (rows : List O8), kk + k = s.l.length → rows.length = c.nodes.l.length → (∀ n, (rows.getD n []).length + kk ≤ 1000000000) → Kr c i (s.l.drop k) k rows = R →
    run Tryz.prog Γ Ja Q ⟨[(3, .lb 14 c.nodes.l.length), (4, .t (.fn 195 [.ip (tC c) 0])), (5, .t (tI i)), (18, .t (Ac c.nodes)), (19, .t (tI c.nodes.l.length)), (20, .t (tI i)), (26, .t (Aw s)), (27, .t (tI s.l.length)), (28, .t (tI k))], (14, .bx (D5 rows)) :: Db rows⟩
  | 0, k, rows, h, hl, hb, hR => by
    refine Rr fun K hK => ?_
    have h2 : ¬ k < s.l.length := by omega
    have h3 : k = s.l.length := by omega
    simp [h2, -Gh.run, G4, Xg]
    subst h3
    rw [List.drop_of_length_le (Nat.le_refl _)] at hR
    simp only [Kr] at hR
    subst hR
    exact h0
  | kk + 1, k, rows, h, hl, hb, hR => by
    refine Rr fun K hK => ?_
    have h2 : k < s.l.length := by omega
    rw [List.drop_eq_getElem_cons h2] at hR
    simp only [Kr] at hR
    have e := q0p (Γ := Γ) c s.l[k] (by omega)
    simp (disch := omega) [h2, -Gh.run, G4, Xg, -Ea, Aw, A0, Bc (0 : Int), Aa]
    refine Uc e ?_
    by_cases ho : Oh c s.l[k] = true
    · rw [if_pos ho] at hR
      simp (disch := omega) [ho, -Gh.run, G4, Xg, -Ea, A7]
      rw [hK]
      have := q77 c hn i s hs R h0 kk (k + 1) rows (by omega) hl (fun n => by have := hb n; omega) hR
      simpa [Aw] using this
    · have ho' : Oh c s.l[k] = false := by simpa using ho
      rw [if_neg ho] at hR
      have hr := q8b (c := c) (l := [s.l[k]]) (by simp [ho']) s.l[k] (by simp)
      simp (disch := omega) [ho', -Gh.run, G4, Xg, -Ea]
      have hz : ((s.l[k]).toNat : Int) = s.l[k] := by omega
      have := qKc (Γ := Γ) (Q := Ny 3 (Ax (run Tryz.prog Γ (.reg O3 [.keepB [3, 4, 5, 18, 19, 20, 26, 27, 28] [14] 100000 16384]) (Ax (fun s => Ax K Q .normal (ghs [.keepB [3, 4, 5, 18, 19, 20, 26, 27, 28] [14] 100000 16384] s)) (Ax K Q))) (Ax (fun s => Ax K Q .normal (ghs [.keepB [3, 4, 5, 18, 19, 20, 26, 27, 28] [14] 100000 16384] s)) (Ax K Q)))) rows (s.l[k]).toNat (by omega) (by omega) i k (by have := hb (s.l[k]).toNat; omega)
        (.fn 195 [.ip (tC c) 0]) (Ac c.nodes) (tI c.nodes.l.length) (tI i) (.sl (Ao s.l) s.cap s.nl) (tI s.l.length) (tI k) (tB true) c.nodes.l.length hl.symm ?_
      · rw [hz] at this; exact this
      · simp (disch := omega) [-Gh.run, G4, Xg, A7]
        rw [hK]
        have hbb : ∀ n, ((I6 rows (s.l[k]).toNat (i, k)).getD n []).length + kk ≤ 1000000000 := by
          intro n
          unfold I6
          have h5 := hb n
          have h6 := hb (s.l[k]).toNat
          by_cases hq : n = (s.l[k]).toNat
          · subst hq
            have hlt : (s.l[k]).toNat < rows.length := by omega
            simp [List.getD, List.getElem?_set, hlt] at h6 ⊢
            omega
          · have : ¬ (s.l[k]).toNat = n := fun e => hq e.symm
            simp [List.getD, List.getElem?_set, this] at h5 ⊢
            omega
        have := q77 c hn i s hs R h0 kk (k + 1) (I6 rows (s.l[k]).toNat (i, k)) (by omega) (q5P.trans hl) hbb hR
        simpa [Aw] using this
theorem qIq {ks rs : List Nat} {st : St} : Gh.run (.keep ks rs) st = ⟨(J0 ((st.hp.map (·.1)).filter fun id => !rs.contains id) ⟨Lg.keep ks st.env, st.hp⟩).env, Lg.keep rs (J0 ((st.hp.map (·.1)).filter fun id => !rs.contains id) ⟨Lg.keep ks st.env, st.hp⟩).hp⟩ := rfl
theorem qHF {env : List (Nat × AV)} {ks : List Nat} {rows : List O8} {q : Bl} : Gh.run (.keepB ks [6, 14] 100000 16384) ⟨env, (6, q) :: (14, .bx (D5 rows)) :: Db rows⟩ = ⟨Lg.keep ks env, (6, q) :: (14, .bx (D5 rows)) :: Db rows⟩ := by
  have hk : (((6, q) :: (14, Bl.bx (D5 rows)) :: Db rows).map (·.1)).filter (fun id => !([6, 14] : List Nat).contains id && !(decide (100000 ≤ id) && decide (id < 100000 + 16384))) = [] := by
    rw [List.filter_eq_nil_iff]
    intro id hid
    simp only [List.map_cons, List.mem_cons] at hid
    rcases hid with rfl | rfl | hid
    · simp
    · simp
    · obtain ⟨p, hp, rfl⟩ := List.mem_map.1 hid
      have := q1E p hp
      simp; omega
  simp only [Gh.run, q8Y, hk, J0, q71, q96, A9, ↓reduceIte]
  simp only [show ¬ (6 = 14) by omega, ↓reduceIte, List.cons_append, List.nil_append]
  congr 3
  refine qAp fun t ht => ?_
  rw [List.mem_range'_1] at ht
  rw [A9, if_neg (by omega), q4G, if_neg (by omega), if_pos ⟨ht.1, by omega⟩]
theorem q9I {Q : AX → St → Prop} (c : B9) (hn : c.nodes.l.length ≤ 16384) (hi : ∀ x ∈ c.nodes.l, x.inn.l.length ≤ 16) (R : List O8)
    (h0 : Q (.exit 0) ⟨[(3, .lb 14 c.nodes.l.length), (4, .t (.fn 195 [.ip (tC c) 0])), (18, .t (Ac c.nodes)), (19, .t (tI c.nodes.l.length)), (20, .t (tI c.nodes.l.length)), (21, .t (tB false))], (14, .bx (D5 R)) :: Db R⟩) :
    ∀ (kk i : Nat) (rows : List O8), kk + i = c.nodes.l.length → rows.length = c.nodes.l.length → RB rows (16 * i) → H4 c (c.nodes.l.drop i) i rows = R →
    run Tryz.prog Γ Jb Q ⟨[(3, .lb 14 c.nodes.l.length), (4, .t (.fn 195 [.ip (tC c) 0])), (18, .t (Ac c.nodes)), (19, .t (tI c.nodes.l.length)), (20, .t (tI i))], (14, .bx (D5 rows)) :: Db rows⟩
  | 0, i, rows, h, hl, hb, hR => by
    refine Rt fun K hK => ?_
    have h2 : ¬ i < c.nodes.l.length := by omega
    have h3 : i = c.nodes.l.length := by omega
    simp [h2, -Gh.run, G4, Xg]
    subst h3
    rw [List.drop_of_length_le (Nat.le_refl _)] at hR
    simp only [H4] at hR
    subst hR
    exact h0
  | kk + 1, i, rows, h, hl, hb, hR => by
    refine Rt fun K hK => ?_
    have h2 : i < c.nodes.l.length := by omega
    rw [List.drop_eq_getElem_cons h2] at hR
    simp only [H4] at hR
    have hx := hi _ (List.getElem_mem h2)
    have hlk6 : A9 (Db rows) 6 = none := by rw [Db, Pg, if_neg (by omega)]
    simp (disch := omega) [h2, -Gh.run, G4, Xg, qIp, qHF, Ac, Af, D8 Nd.d, Bh, C4, Aw, hlk6, A0]
    refine q77 c hn i c.nodes.l[i].inn (by omega) _ ?_ c.nodes.l[i].inn.l.length 0 rows (by omega) hl (fun n => by have := hb.at n; omega) rfl
    obtain ⟨hf1, hf2⟩ := Z1 c i c.nodes.l[i].inn.l 0 rows (16 * i) hb
    simp (disch := omega) [-Gh.run, G4, Xg, A7, List.drop_zero]
    rw [hK]
    have := q9I c hn hi R h0 kk (i + 1) _ (by omega) (hf1.trans hl) (hf2.mono (by omega)) hR
    simpa [Ac] using this
def Z2 (r : O8) : T := .sl (As tLn r) (some r.length) (if r = [] then some true else none)
theorem qHG (r : O8) : Ai Tryz.prog Γ 176 [qAJ r] (Z2 r) := by
  unfold qAJ Z2
  by_cases h : r = []
  · subst h; simpa [As] using qAo (Γ := Γ) [] (some 0) (some true) q8a
  · rw [if_neg h, if_neg h]
    have := qAo (Γ := Γ) (As tLn r) none none qBl
    rwa [Af] at this
def q1u (rows : List O8) (i : Nat) : List AV := rows.mapIdx fun j r => .t (if j < i then Z2 r else qAJ r)
theorem q6D {rows : List O8} {i : Nat} : (q1u rows i).length = rows.length := by simp [q1u]
theorem qIr {rows : List O8} {i : Nat} (h : i < rows.length) : ((q1u rows i).drop i).take 1 = [.t (qAJ rows[i])] := by
  rw [List.drop_eq_getElem_cons (by rw [q6D]; exact h)]
  simp [q1u]
theorem qG0 {rows : List O8} {i : Nat} (h : i < rows.length) : (q1u rows i).take i ++ .t (Z2 rows[i]) :: (q1u rows i).drop (i + 1) = q1u rows (i + 1) := by
  apply List.ext_getElem?
  intro j
  rw [List.getElem?_append]
  have e : ((q1u rows i).take i).length = i := by simp [q6D]; omega
  rw [e]
  by_cases h1 : j < i
  · rw [if_pos h1, List.getElem?_take, if_pos h1]
    simp only [q1u, List.getElem?_mapIdx]
    cases rows[j]? with
    | none => rfl
    | some r => simp only [Option.map_some]; rw [if_pos h1, if_pos (by omega)]
  · rw [if_neg h1]
    by_cases h2 : j = i
    · subst h2
      simp [q1u, List.getElem?_eq_getElem h]
    · rw [show j - i = (j - i - 1) + 1 by omega, List.getElem?_cons_succ, List.getElem?_drop]
      rw [show i + 1 + (j - i - 1) = j by omega]
      simp only [q1u, List.getElem?_mapIdx]
      cases rows[j]? with
      | none => rfl
      | some r => simp only [Option.map_some]; rw [if_neg h1, if_neg (by omega)]
theorem qAq {Q : AX → St → Prop} (rows : List O8) (hn : rows.length ≤ 16384)
    (h0 : Q (.exit 4) ⟨[(3, .lb 14 rows.length), (51, .lb 14 rows.length), (52, .t (tI rows.length)), (53, .t (tI rows.length)), (54, .t (tB false))], [(14, .bx (q1u rows rows.length))]⟩) :
    ∀ (kk i : Nat), kk + i = rows.length →
    run Tryz.prog Γ Jc Q ⟨[(3, .lb 14 rows.length), (51, .lb 14 rows.length), (52, .t (tI rows.length)), (53, .t (tI i))], [(14, .bx (q1u rows i))]⟩
  | 0, i, h => by
    refine Ru fun K hK => ?_
    have h2 : ¬ i < rows.length := by omega
    have h3 : i = rows.length := by omega
    simp [h2]
    subst h3
    exact h0
  | kk + 1, i, h => by
    refine Ru fun K hK => ?_
    have h2 : i < rows.length := by omega
    have h3 : i + 1 ≤ rows.length := h2
    have e := qHG (Γ := Γ) rows[i]
    have ho : (qAJ rows[i]).one = true := by unfold qAJ; split <;> rfl
    simp (disch := omega) [h2, h3, qIr h2, q6D]
    refine A8 e rfl ?_
    simp (disch := omega) [h2, h3, q6D, A7, Z2]
    rw [hK]
    have := qAq rows hn h0 kk (i + 1) (by omega)
    rw [← qG0 h2] at this
    simpa [Z2] using this
def F2 (c : B9) : List O8 := H4 c c.nodes.l 0 (List.replicate c.nodes.l.length [])
def qCi (rows : List O8) : T := .sl (Ae Z2 rows) (some rows.length) none
theorem q6E (c : B9) : ∀ (l : List Nd) (i : Nat) (rows : List O8), (H4 c l i rows).length = rows.length
  | [], _, _ => rfl
  | x :: l, i, rows => by
    simp only [H4]
    rw [q6E c l]
    exact (Z1 c i x.inn.l 0 rows (rows.foldr (fun r m => r.length + m) 0) (by
      intro r hr
      induction rows with
      | nil => cases hr
      | cons y ys ih =>
        simp only [List.foldr_cons]
        rcases List.mem_cons.1 hr with rfl | hr
        · omega
        · have := ih hr; omega)).1
theorem q0C (c : B9) : (F2 c).length = c.nodes.l.length := by rw [F2, q6E]; simp
theorem qCj (c : B9) (hn : c.nodes.l.length ≤ 16384) (hi : ∀ x ∈ c.nodes.l, x.inn.l.length ≤ 16) : Ai Tryz.prog Γ 149 [.agg (tC c)] (qCi (F2 c)) := by
  refine Ap q4W rfl ?_
  have eo := Xe (Γ := Γ) c
  have hR := q0C c
  have hk1 : ∀ (env : List (Nat × AV)) (ks : List Nat), Gh.run (.keepB ks [14] 100000 16384) ⟨env, [(14, .bx (List.replicate c.nodes.l.length (.t (.sl [] (some 0) (some true)))))]⟩ = ⟨Lg.keep ks env, (14, .bx (D5 (List.replicate c.nodes.l.length []))) :: Db (List.replicate c.nodes.l.length [])⟩ := by
    intro env ks
    have hc : D5 (List.replicate c.nodes.l.length []) = List.replicate c.nodes.l.length (.t (.sl [] (some 0) (some true))) := by
      apply List.ext_getElem?
      intro j
      simp only [D5, List.getElem?_mapIdx, List.getElem?_replicate]
      split <;> simp [q9G]
    refine q75 (by simp) (by simp [A9, hc]) fun t h1 h2 => ?_
    rw [A9, if_neg (by omega)]
    unfold Ls
    rw [List.getElem?_replicate]
    split <;> rename_i hq
    · split at hq
      · simp only [Option.some.injEq] at hq; subst hq; rfl
      · cases hq
    · rfl
  simp (disch := omega) [Yr, tC, Ac, Ah, Am, Aw, Af, -Gh.run, G4, qIq, hk1, A7]
  refine ⟨by omega, ?_⟩
  refine A8 eo rfl ?_
  simp (disch := omega) [-Gh.run, G4, Xg, Af]
  have hp0 : RB (List.replicate c.nodes.l.length []) (16 * 0) := by
    intro r hr; rw [List.eq_of_mem_replicate hr]; simp
  refine q9I c hn hi (F2 c) ?_ c.nodes.l.length 0 (List.replicate c.nodes.l.length []) (by omega) (by simp) hp0 rfl
  generalize F2 c = R at hR
  rw [← hR]
  simp (disch := omega) [-Gh.run, G4]
  rw [qHD (by omega) (fun id r h p hp => by
    simp only [List.mem_cons, List.not_mem_nil, or_false] at hp
    have h14 : ¬ 14 = id := by omega
    rcases hp with rfl | rfl | rfl | rfl | rfl | rfl | rfl | rfl | rfl <;> simp [D3, frz1, frz0, h14])]
  have hmix : (R.map fun r => AV.t (qAJ r)) = q1u R 0 := by
    apply List.ext_getElem?
    intro j
    simp only [List.getElem?_map, q1u, List.getElem?_mapIdx]
    cases R[j]? <;> simp
  rw [hmix]
  simp
  refine qAq R (by omega) ?_ R.length 0 (by omega)
  have hfin : q1u R R.length = (R.map Z2).map .t := by
    apply List.ext_getElem?
    intro j
    simp only [List.getElem?_map, q1u, List.getElem?_mapIdx, Option.map_map]
    cases hj : R[j]? with
    | none => rfl
    | some r =>
      have := (List.getElem?_eq_some_iff.1 hj).1
      simp only [Option.map_some, Function.comp_def]
      rw [if_pos this]
  have hopt : Bd ((q1u R R.length).map (Ak [(14, .bx (q1u R R.length))] 3)) = some (R.map Z2) := by
    conv => lhs; rw [hfin]
    rw [List.map_map]
    have : (R.map Z2).map (Ak [(14, .bx ((R.map Z2).map .t))] 3 ∘ AV.t) = (R.map Z2).map fun t => some t := List.map_congr_left fun t _ => by simp [Ak]
    rw [this]; exact q3M
  simp [Ys, qCi, hopt, Ae]
end Go.Lg
namespace Go.Lg
open Go Go.Proofs
def q0D (N : Nat) (rows : List O8) : Prop := ∀ r ∈ rows, ∀ p ∈ r, ∃ i : Nat, i < N ∧ p.1 = i
theorem q0D.add {N : Nat} {rows : List O8} {n i : Nat} {k : Int} (h : q0D N rows) (hi : i < N) : q0D N (I6 rows n (i, k)) := by
  intro r hr p hp
  unfold I6 at hr
  by_cases hn : n < rows.length
  · rcases List.mem_or_eq_of_mem_set hr with hr | rfl
    · exact h r hr p hp
    · rcases List.mem_append.1 hp with hp | hp
      · have e : rows.getD n [] = rows[n] := by simp [hn]
        rw [e] at hp
        exact h _ (List.getElem_mem hn) p hp
      · simp at hp; subst hp; exact ⟨i, hi, rfl⟩
  · rw [List.set_eq_of_length_le (by omega)] at hr
    exact h r hr p hp
theorem q5Q {N : Nat} (c : B9) (i : Nat) (hi : i < N) : ∀ (l : List Int) (k : Nat) (rows : List O8), q0D N rows → q0D N (Kr c i l k rows)
  | [], _, _, h => h
  | n :: l, k, rows, h => by
    simp only [Kr]
    split
    · exact q5Q c i hi l (k + 1) rows h
    · exact q5Q c i hi l (k + 1) _ (h.add hi)
theorem q7l {N : Nat} (c : B9) : ∀ (l : List Nd) (i : Nat) (rows : List O8), i + l.length ≤ N → q0D N rows → q0D N (H4 c l i rows)
  | [], _, _, _, h => h
  | x :: l, i, rows, hl, h => by
    simp only [H4]
    simp at hl
    exact q7l c l (i + 1) _ (by omega) (q5Q c i (by omega) _ _ _ h)
theorem q5R (c : B9) : q0D c.nodes.l.length (F2 c) := by
  refine q7l c c.nodes.l 0 _ (by omega) fun r hr p hp => ?_
  rw [List.eq_of_mem_replicate hr] at hp; cases hp
theorem q7m (c : B9) : ∀ (l : List Nd) (i B : Nat) (rows : List O8), (∀ x ∈ l, x.inn.l.length ≤ 16) → RB rows B → RB (H4 c l i rows) (B + 16 * l.length)
  | [], _, _, _, _, h => h
  | x :: l, i, B, rows, hl, h => by
    simp only [H4, List.length_cons]
    have h1 := (Z1 c i x.inn.l 0 rows B h).2
    have h2 := hl x List.mem_cons_self
    exact (q7m c l (i + 1) (B + 16) _ (fun y hy => hl y (List.mem_cons_of_mem _ hy)) (h1.mono (by omega))).mono (by omega)
theorem qEJ (c : B9) (hn : c.nodes.l.length ≤ 16384) (hi : ∀ x ∈ c.nodes.l, x.inn.l.length ≤ 16) : RB (F2 c) 262144 := by
  refine (q7m c c.nodes.l 0 0 _ hi fun r hr => ?_).mono (by omega)
  rw [List.eq_of_mem_replicate hr]; simp
structure LS where
  out : List Int
  left : List Int
  rdy : List Int
def E3 (k : Int) : Bool := decide (1 ≤ k ∧ k ≤ 13)
def Aq (c : B9) (j : Nat) : Int := (c.nodes.l.getD j Nd.d).k
def E4 (c : B9) (n : Nat) (s : LS) (p : Int × Int) : LS :=
  if E3 (Aq c p.1.toNat) then
    ⟨s.out.set p.1.toNat (max (s.out.getD p.1.toNat 0) (s.out.getD n 0 + 1)), s.left.set p.1.toNat (s.left.getD p.1.toNat 0 - 1), if s.left.getD p.1.toNat 0 - 1 = 0 then s.rdy ++ [p.1] else s.rdy⟩
  else s
def Gs (c : B9) (n : Nat) : O8 := (F2 c).getD n []
def Nk (c : B9) : Nat → Nat → LS → Nat × LS
  | 0, d, s => (d, s)
  | f + 1, d, s => if d < s.rdy.length then Nk c f (d + 1) ((Gs c (s.rdy.getD d 0).toNat).foldl (E4 c (s.rdy.getD d 0).toNat) s) else (d, s)
def Dt (x : Nd) : Int := if E3 x.k then x.inn.l.length else 0
def Du : List Nd → Nat → List Int
  | [], _ => []
  | x :: l, i => if Dt x = 0 then (i : Int) :: Du l (i + 1) else Du l (i + 1)
def I7 (c : B9) : LS := ⟨List.replicate c.nodes.l.length 0, c.nodes.l.map Dt, Du c.nodes.l 0⟩
def Ph (c : B9) : Nat × LS := Nk c (c.nodes.l.length + 1) 0 (I7 c)
structure LI (N M : Nat) (s : LS) : Prop where
  lo : s.out.length = N
  ll : s.left.length = N
  rd : ∀ j ∈ s.rdy, ∃ i : Nat, i < N ∧ j = i ∧ s.left.getD i 0 ≤ 0
  nd : s.rdy.Nodup
  bo : ∀ i, 0 ≤ s.out.getD i 0 ∧ s.out.getD i 0 ≤ M
  bl : ∀ i, -(M : Int) ≤ s.left.getD i 0 ∧ s.left.getD i 0 ≤ 1000
theorem qAr {N : Nat} {l : List Int} (h : l.Nodup) (hb : ∀ j ∈ l, ∃ i : Nat, i < N ∧ j = i) : l.length ≤ N := by
  have h1 : (l.map Int.toNat).Nodup := by
    rw [List.nodup_iff_pairwise_ne] at h ⊢
    rw [List.pairwise_map]
    refine h.imp_of_mem fun {a b} ha hb' hne e => hne ?_
    obtain ⟨i, _, rfl⟩ := hb a ha
    obtain ⟨j, _, rfl⟩ := hb b hb'
    have : i = j := by simpa using e
    rw [this]
  have h2 : (l.map Int.toNat) ⊆ List.range N := by
    intro j hj
    obtain ⟨a, ha, rfl⟩ := List.mem_map.1 hj
    obtain ⟨i, hi, rfl⟩ := hb a ha
    simpa using hi
  have := (List.Nodup.length_le_of_subset h1 h2)
  simpa using this
theorem LI.len {N M : Nat} {s : LS} (h : LI N M s) : s.rdy.length ≤ N := qAr h.nd fun j hj => by obtain ⟨i, h1, h2, _⟩ := h.rd j hj; exact ⟨i, h1, h2⟩
theorem I8 {l : List Int} {j i : Nat} {v : Int} (hj : j < l.length) : (l.set j v).getD i 0 = if i = j then v else l.getD i 0 := by
  simp only [List.getD, List.getElem?_set]
  by_cases h : j = i
  · subst h; simp [hj]
  · simp [h, Ne.symm h]
theorem LI.step {N M : Nat} {c : B9} {s : LS} {n i : Nat} {k : Int} (h : LI N M s) (hi : i < N) : LI N (M + 1) (E4 c n s (i, k)) := by
  unfold E4
  simp only [Int.toNat_natCast]
  split
  case isFalse => exact ⟨h.lo, h.ll, h.rd, h.nd, fun j => ⟨(h.bo j).1, by have := (h.bo j).2; omega⟩, fun j => ⟨by have := (h.bl j).1; omega, (h.bl j).2⟩⟩
  refine ⟨by simp [h.lo], by simp [h.ll], ?_, ?_, ?_, ?_⟩
  · intro j hj
    have old : ∀ j ∈ s.rdy, ∃ i0 : Nat, i0 < N ∧ j = i0 ∧ (s.left.set i (s.left.getD i 0 - 1)).getD i0 0 ≤ 0 := by
      intro j hj
      obtain ⟨i0, h1, h2, h3⟩ := h.rd j hj
      refine ⟨i0, h1, h2, ?_⟩
      rw [I8 (by rw [h.ll]; exact hi)]
      split
      · rename_i e; subst e; omega
      · exact h3
    split at hj
    · rename_i hz
      rcases List.mem_append.1 hj with hj | hj
      · exact old j hj
      · simp at hj; subst hj
        refine ⟨i, hi, rfl, ?_⟩
        rw [I8 (by rw [h.ll]; exact hi), if_pos rfl]; omega
    · exact old j hj
  · split
    · rename_i hz
      rw [List.nodup_append]
      refine ⟨h.nd, by simp, ?_⟩
      intro a ha b hb e
      simp at hb; subst hb; subst e
      obtain ⟨i0, h1, h2, h3⟩ := h.rd _ ha
      have : i = i0 := by omega
      subst this
      omega
    · exact h.nd
  · intro j
    rw [I8 (by rw [h.lo]; exact hi)]
    have h1 := h.bo j
    have h2 := h.bo i
    have h3 := h.bo n
    split
    · rename_i e
      omega
    · omega
  · intro j
    rw [I8 (by rw [h.ll]; exact hi)]
    have h1 := h.bl j
    have h2 := h.bl i
    split <;> omega
theorem LI.fold {N : Nat} {c : B9} {n : Nat} : ∀ {r : O8} {s : LS} {M : Nat}, LI N M s → (∀ p ∈ r, ∃ i : Nat, i < N ∧ p.1 = i) → LI N (M + r.length) (r.foldl (E4 c n) s)
  | [], _, _, h, _ => h
  | p :: r, s, M, h, hr => by
    obtain ⟨i, hi, he⟩ := hr p List.mem_cons_self
    obtain ⟨p1, p2⟩ := p
    simp only at he; subst he
    have := LI.fold (c := c) (n := n) (h.step (c := c) (n := n) (k := p2) hi) fun q hq => hr q (List.mem_cons_of_mem _ hq)
    simp only [List.foldl_cons, List.length_cons]
    rw [show M + (r.length + 1) = M + 1 + r.length by omega]
    exact this
theorem q5S : ∀ (l : List Nd) (i : Nat), (∀ j ∈ Du l i, ∃ a : Nat, i ≤ a ∧ a < i + l.length ∧ j = a ∧ (l.map Dt).getD (a - i) 0 = 0) ∧ (Du l i).Nodup
  | [], _ => ⟨fun j h => (by cases h), List.nodup_nil⟩
  | x :: l, i => by
    obtain ⟨h1, h2⟩ := q5S l (i + 1)
    have h3 : ∀ j ∈ Du l (i + 1), ∃ a : Nat, i ≤ a ∧ a < i + (l.length + 1) ∧ j = a ∧ ((x :: l).map Dt).getD (a - i) 0 = 0 := by
      intro j hj
      obtain ⟨a, e1, e2, e3, e4⟩ := h1 j hj
      refine ⟨a, by omega, by omega, e3, ?_⟩
      rw [show a - i = (a - (i + 1)) + 1 by omega]
      simpa using e4
    simp only [Du, List.length_cons]
    split
    · rename_i hz
      refine ⟨fun j hj => ?_, ?_⟩
      · rcases List.mem_cons.1 hj with rfl | hj
        · exact ⟨i, by omega, by omega, rfl, by simp [hz]⟩
        · exact h3 j hj
      · rw [List.nodup_cons]
        refine ⟨fun hm => ?_, h2⟩
        obtain ⟨a, e1, _, e3, _⟩ := h1 _ hm
        omega
    · exact ⟨h3, h2⟩
theorem qCk (c : B9) (hi : ∀ x ∈ c.nodes.l, x.inn.l.length ≤ 16) : LI c.nodes.l.length 0 (I7 c) := by
  obtain ⟨h1, h2⟩ := q5S c.nodes.l 0
  refine ⟨by simp [I7], by simp [I7], fun j hj => ?_, h2, fun i => ?_, fun i => ?_⟩
  · obtain ⟨a, _, e2, e3, e4⟩ := h1 j hj
    exact ⟨a, by omega, e3, by simp only [Nat.sub_zero] at e4; simp only [I7]; omega⟩
  · simp only [I7, List.getD, List.getElem?_replicate]
    split <;> simp
  · simp only [I7, List.getD, List.getElem?_map]
    cases hx : c.nodes.l[i]? with
    | none => simp
    | some x =>
      have := hi x (List.mem_of_getElem? hx)
      simp only [Option.map_some, Option.getD_some, Dt]
      split <;> simp <;> omega
end Go.Lg
namespace Go.Lg
open Go Go.Proofs
variable {Γ : Tables}
theorem q6F {α : Type} {f : α → T} {l : List α} {j : Nat} {x : α} (h : j < l.length) : (Ae f (l.set j x))[j]?.getD [] = [f x] := by simp [Ae, h]
theorem qIs {r : O8} {i : Nat} (h : i < r.length) : (As tLn r)[i]?.getD [] = tLn r[i] := by simp [As, h]
def lsH (s : LS) : List (Nat × Bl) := [(23, .sl 3 1 (Ao s.out)), (27, .sl 3 1 (Ao s.left)), (53, .sl 3 1 (Ao s.rdy))]
theorem q5T {Q : AX → St → Prop} (c : B9) (hc : CirOk c) (hn : c.nodes.l.length ≤ 16384) (n : Nat) (hnn : n < c.nodes.l.length) (d : Int) (r : O8) (nl : Option Bool) (hr : r.length ≤ 262144) (hin : ∀ p ∈ r, ∃ i : Nat, i < c.nodes.l.length ∧ p.1 = i) (Uz : T) (S : LS)
    (h0 : Q (.exit 4) ⟨[(1, .t (.ip (tC c) 0)), (5, .ls 23 0 c.nodes.l.length none), (6, .ls 27 0 c.nodes.l.length none), (7, .ls 53 0 S.rdy.length none), (10, .t Uz), (11, .t (tI d)), (12, .t (tI n)), (76, .t (.sl (As tLn r) (some r.length) nl)), (77, .t (tI r.length)), (78, .t (tI r.length)), (79, .t (tB false))], lsH S⟩) :
    ∀ (kk k : Nat) (s : LS) (M : Nat), kk + k = r.length → LI c.nodes.l.length M s → M + kk ≤ 4611686018427387904 → (r.drop k).foldl (E4 c n) s = S →
    run Tryz.prog Γ J7 Q ⟨[(1, .t (.ip (tC c) 0)), (5, .ls 23 0 c.nodes.l.length none), (6, .ls 27 0 c.nodes.l.length none), (7, .ls 53 0 s.rdy.length none), (10, .t Uz), (11, .t (tI d)), (12, .t (tI n)), (76, .t (.sl (As tLn r) (some r.length) nl)), (77, .t (tI r.length)), (78, .t (tI k))], lsH s⟩
  | 0, k, s, M, h, hI, hM, hS => by
    refine Ro fun K hK => ?_
    have h2 : ¬ k < r.length := by omega
    have h3 : k = r.length := by omega
    simp [h2, lsH]
    subst h3
    rw [List.drop_of_length_le (Nat.le_refl _)] at hS
    simp only [List.foldl_nil] at hS
    subst hS
    exact h0
  | kk + 1, k, s, M, h, hI, hM, hS => by
    refine Ro fun K hK => ?_
    have h2 : k < r.length := by omega
    rw [List.drop_eq_getElem_cons h2] at hS
    simp only [List.foldl_cons] at hS
    obtain ⟨j, hj, hpj⟩ := hin _ (List.getElem_mem h2)
    have hstep := hI.step (c := c) (n := n) (k := r[k].2) hj
    have hpair : r[k] = ((j : Int), r[k].2) := by rw [← hpj]
    rw [hpair] at hS
    generalize r[k].2 = q at hS hstep hpair
    have e := q74 (Γ := Γ) c.nodes.l[j].k
    have hkind : Aq c j = c.nodes.l[j].k := by simp [Aq, hj]
    simp (disch := omega) [h2, lsH, Af, qIs h2, qBl, hpair, tLn, tC, Ac, D8 Nd.d, Bh, C4, Aw, hj]
    refine A6 e rfl ?_
    by_cases hcb : E3 c.nodes.l[j].k = true
    case neg =>
      have hcb' : decide (1 ≤ c.nodes.l[j].k ∧ c.nodes.l[j].k ≤ 13) = false := by simpa [E3] using hcb
      have hcb2 : E3 (Aq c j) = false := by rw [hkind]; exact hcb'
      have hst : E4 c n s ((j : Int), q) = s := by unfold E4; simp [hcb2]
      rw [hst] at hS hstep
      rw [hcb']
      simp (disch := omega) [A7]
      rw [hK]
      have := q5T c hc hn n hnn d r nl hr hin Uz S h0 kk (k + 1) s (M + 1) (by omega) hstep (by omega) hS
      simpa [lsH, tC, Ac, Aw] using this
    have hcb' : decide (1 ≤ c.nodes.l[j].k ∧ c.nodes.l[j].k ≤ 13) = true := by simpa [E3] using hcb
    have hcb2 : E3 (Aq c j) = true := by rw [hkind]; exact hcb'
    rw [hcb']
    have ho := hI.lo
    have hll := hI.ll
    have b1 := hI.bo n
    have b2 := hI.bo j
    have b3 := hI.bl j
    have hrl := hI.len
    have hst : E4 c n s ((j : Int), q) = ⟨s.out.set j (max (s.out.getD j 0) (s.out.getD n 0 + 1)), s.left.set j (s.left.getD j 0 - 1), if s.left.getD j 0 - 1 = 0 then s.rdy ++ [(j : Int)] else s.rdy⟩ := by
      unfold E4; simp [hcb2]
    have hw : Ec 1 [[tI (j : Int)]] := by intro e he; simp at he; subst he; rfl
    have hmax : max (s.out.getD j 0) (s.out.getD n 0 + 1) = if s.out.getD j 0 < s.out.getD n 0 + 1 then s.out.getD n 0 + 1 else s.out.getD j 0 := by
      split <;> omega
    have ih := fun S2 (e : S2 = E4 c n s ((j : Int), q)) => q5T c hc hn n hnn d r nl hr hin Uz S h0 kk (k + 1) S2 (M + 1) (by omega) (e ▸ hstep) (by omega) (e ▸ hS)
    have ljo : j < s.out.length := by omega
    have lno : n < s.out.length := by omega
    have ljl : j < s.left.length := by omega
    simp only [List.getD, List.getElem?_eq_getElem ljo, List.getElem?_eq_getElem lno, List.getElem?_eq_getElem ljl, Option.getD_some] at b1 b2 b3 hst hmax
    have b1a := b1.1
    have b1b := b1.2
    have b2a := b2.1
    have b2b := b2.2
    have b3a := b3.1
    have b3b := b3.2
    simp (disch := omega) [A7, A0, Bc (0 : Int), Aa, Gf, ljo, lno, ljl, hj, hnn]
    rw [show (if s.out[j] < s.out[n] + 1 then s.out[n] + 1 else s.out[j]) = max s.out[j] (s.out[n] + 1) from hmax.symm]
    by_cases hz : s.left[j] - 1 = 0
    · rw [if_pos hz] at hst
      have ih' := ih _ hst.symm
      simp (disch := omega) [hz, A7, A0, Aa, hw, q6F]
      refine ⟨by omega, ?_⟩
      rw [hK]
      rw [By (f := tI) (x := (j : Int))]
      simpa [lsH, tC, Ac, Aw, hz] using ih'
    · rw [if_neg hz] at hst
      have ih' := ih _ hst.symm
      simp (disch := omega) [hz, A7, q6F, Aa]
      rw [hK]
      simpa [lsH, tC, Ac, Aw] using ih'
theorem qAs {Q : AX → St → Prop} (c : B9) (hc : CirOk c) (hn : c.nodes.l.length ≤ 16384) (hi : ∀ x ∈ c.nodes.l, x.inn.l.length ≤ 16) (R : Nat × LS)
    (h0 : Q (.exit 2) ⟨[(1, .t (.ip (tC c) 0)), (5, .ls 23 0 c.nodes.l.length none), (6, .ls 27 0 c.nodes.l.length none), (7, .ls 53 0 R.2.rdy.length none), (10, .t (qCi (F2 c))), (11, .t (tI R.1)), (60, .t (tB false))], lsH R.2⟩) :
    ∀ (f d : Nat) (s : LS) (M : Nat), f + d = c.nodes.l.length + 1 → LI c.nodes.l.length M s → M = d * 262144 → Nk c f d s = R →
    run Tryz.prog Γ J8 Q ⟨[(1, .t (.ip (tC c) 0)), (5, .ls 23 0 c.nodes.l.length none), (6, .ls 27 0 c.nodes.l.length none), (7, .ls 53 0 s.rdy.length none), (10, .t (qCi (F2 c))), (11, .t (tI d))], lsH s⟩
  | 0, d, s, M, h, hI, hM, hR => by
    refine Rq fun K hK => ?_
    have hlen := hI.len
    have h2 : ¬ d < s.rdy.length := by omega
    simp [h2, lsH]
    simp only [Nk] at hR
    subst hR
    exact h0
  | f + 1, d, s, M, h, hI, hM, hR => by
    refine Rq fun K hK => ?_
    have hlen := hI.len
    by_cases h2 : d < s.rdy.length
    case neg =>
      simp [h2, lsH]
      simp only [Nk, h2, ↓reduceIte] at hR
      subst hR
      exact h0
    simp only [Nk, h2, ↓reduceIte] at hR
    obtain ⟨j, hj, he, hz⟩ := hI.rd _ (List.getElem_mem h2)
    have hgd : s.rdy.getD d 0 = (j : Int) := by simp [h2, he]
    rw [hgd] at hR
    simp only [Int.toNat_natCast] at hR
    have hfr := q0C c
    have hrl : Gs c j ∈ F2 c := by
      have e : Gs c j = (F2 c)[j]'(by omega) := by simp [Gs, hfr, hj]
      rw [e]; exact List.getElem_mem _
    have hin := q5R c _ hrl
    have hrb := qEJ c hn hi _ hrl
    have hfold := hI.fold (c := c) (n := j) hin
    have hel : (F2 c)[j]? = some (Gs c j) := by
      have hlt : j < (F2 c).length := by omega
      simp [Gs, hlt]
    have hrt : Z2 (Gs c j) = .sl (As tLn (Gs c j)) (some (Gs c j).length) (if Gs c j = [] then some true else none) := rfl
    have hg1 : (Ae Z2 (F2 c))[j]?.getD [] = [Z2 (Gs c j)] := by simp [Ae, hel]
    have hM2 : LI c.nodes.l.length ((d + 1) * 262144) ((Gs c j).foldl (E4 c j) s) := ⟨hfold.lo, hfold.ll, hfold.rd, hfold.nd, fun i => ⟨(hfold.bo i).1, by have := (hfold.bo i).2; omega⟩, fun i => ⟨by have := (hfold.bl i).1; omega, (hfold.bl i).2⟩⟩
    have ih := qAs c hc hn hi R h0 f (d + 1) _ _ (by omega) hM2 rfl hR
    have hrdy : (s.rdy)[d]?.getD 0 = (j : Int) := by simpa using hgd
    simp (disch := omega) [h2, lsH, A0, Bc (0 : Int), Aa, A7, he, qCi, hfr, hj, hg1, hrt, Af]
    by_cases hr0 : (Gs c j).length = 0
    · have hr0' : Gs c j = [] := List.eq_nil_of_length_eq_zero hr0
      simp [hr0', Bj]
      rw [hK]
      rw [hr0'] at ih
      simp only [List.foldl_nil, qCi, hfr, lsH] at ih
      exact_mod_cast ih
    · have hr0' : ¬ Gs c j = [] := fun e => hr0 (by simp [e])
      simp (disch := omega) [Bj, hr0', lsH, A0, Bc (0 : Int), Aa, A7, he, qCi, hfr, hj, hg1, hrt, Af]
      refine q5T c hc hn j hj ((d : Int) + 1) (Gs c j) _ (by omega) hin _ _ ?_ (Gs c j).length 0 s M (by omega) hI (by omega) rfl
      simp [lsH]
      rw [hK]
      simp only [qCi, hfr, lsH] at ih
      exact_mod_cast ih
theorem q6G (x : Nd) : ∀ (l : List Nd) (i : Nat), Du (l ++ [x]) i = if Dt x = 0 then Du l i ++ [((i + l.length : Nat) : Int)] else Du l i
  | [], i => by simp [Du]
  | y :: l, i => by
    have := q6G x l (i + 1)
    simp only [List.cons_append, Du, this, List.length_cons]
    rw [show i + 1 + l.length = i + (l.length + 1) by omega]
    split <;> split <;> rfl
theorem q7n : ∀ (l : List Nd) (i : Nat), (Du l i).length ≤ l.length
  | [], _ => by simp [Du]
  | x :: l, i => by
    have := q7n l (i + 1)
    simp only [Du]
    split <;> simp <;> omega
def Lu (c : B9) (i : Nat) : List Int := (c.nodes.l.take i).map Dt ++ List.replicate (c.nodes.l.length - i) 0
theorem q9J {c : B9} {i : Nat} (h : i ≤ c.nodes.l.length) : (Lu c i).length = c.nodes.l.length := by simp [Lu]; omega
theorem q5U {c : B9} {i : Nat} (h : i < c.nodes.l.length) : (Lu c i).set i (Dt c.nodes.l[i]) = Lu c (i + 1) := by
  unfold Lu
  have e1 : ((c.nodes.l.take i).map Dt).length = i := by simp; omega
  rw [List.set_append_right _ _ (by rw [e1]; exact Nat.le_refl i), e1, Nat.sub_self]
  rw [show c.nodes.l.length - i = (c.nodes.l.length - (i + 1)) + 1 by omega, List.replicate_succ, List.set_cons_zero]
  have e3 : (c.nodes.l.map Dt).take (i + 1) = (c.nodes.l.map Dt).take i ++ [Dt c.nodes.l[i]] := by rw [List.take_add_one]; simp [h]
  simp [e3]
theorem qCl {c : B9} {i : Nat} (h : i < c.nodes.l.length) (h0 : Dt c.nodes.l[i] = 0) : Lu c i = Lu c (i + 1) := by
  unfold Lu
  rw [show c.nodes.l.length - i = (c.nodes.l.length - (i + 1)) + 1 by omega, List.replicate_succ]
  have e3 : (c.nodes.l.map Dt).take (i + 1) = (c.nodes.l.map Dt).take i ++ [Dt c.nodes.l[i]] := by rw [List.take_add_one]; simp [h]
  simp [e3, h0]
theorem qAt {Q : AX → St → Prop} (c : B9) (hn : c.nodes.l.length ≤ 16384) (hi : ∀ x ∈ c.nodes.l, x.inn.l.length ≤ 16) (out : List Int)
    (h0 : Q (.exit 0) ⟨[(1, .t (.ip (tC c) 0)), (5, .ls 23 0 c.nodes.l.length none), (6, .ls 27 0 c.nodes.l.length none), (7, .ls 53 0 (Du c.nodes.l 0).length none), (29, .t (Ac c.nodes)), (30, .t (tI c.nodes.l.length)), (31, .t (tI c.nodes.l.length)), (32, .t (tB false))], [(23, .sl 3 1 (Ao out)), (27, .sl 3 1 (Ao (c.nodes.l.map Dt))), (53, .sl 3 1 (Ao (Du c.nodes.l 0)))]⟩) :
    ∀ (kk i : Nat), kk + i = c.nodes.l.length →
    run Tryz.prog Γ J6 Q ⟨[(1, .t (.ip (tC c) 0)), (5, .ls 23 0 c.nodes.l.length none), (6, .ls 27 0 c.nodes.l.length none), (7, .ls 53 0 (Du (c.nodes.l.take i) 0).length none), (29, .t (Ac c.nodes)), (30, .t (tI c.nodes.l.length)), (31, .t (tI i))], [(23, .sl 3 1 (Ao out)), (27, .sl 3 1 (Ao (Lu c i))), (53, .sl 3 1 (Ao (Du (c.nodes.l.take i) 0)))]⟩
  | 0, i, h => by
    refine Rn fun K hK => ?_
    have h2 : ¬ i < c.nodes.l.length := by omega
    have h3 : i = c.nodes.l.length := by omega
    simp [h2]
    subst h3
    simpa [Lu] using h0
  | kk + 1, i, h => by
    refine Rn fun K hK => ?_
    have h2 : i < c.nodes.l.length := by omega
    have hx := hi _ (List.getElem_mem h2)
    have ht : c.nodes.l.take (i + 1) = c.nodes.l.take i ++ [c.nodes.l[i]] := by rw [List.take_add_one]; simp [h2]
    have htl : (c.nodes.l.take i).length = i := by simp; omega
    have hrl := q7n (c.nodes.l.take i) 0
    have hll := q9J (c := c) (i := i) (by omega)
    have hll1 := q9J (c := c) (i := i + 1) (by omega)
    have hsn := q6G c.nodes.l[i] (c.nodes.l.take i) 0
    rw [← ht, htl, Nat.zero_add] at hsn
    have e := q74 (Γ := Γ) c.nodes.l[i].k
    have ih := qAt c hn hi out h0 kk (i + 1) (by omega)
    have hw : Ec 1 [[tI (i : Int)]] := by intro e he; simp at he; subst he; rfl
    simp (disch := omega) [h2, Af, D8 Nd.d, Bh, Ac, C4, Aw, -F8]
    refine A6 e rfl ?_
    have tail : ∀ (lf : List Int), lf = Lu c (i + 1) → run Tryz.prog Γ (.seq (.reg F8 [.keep [1, 5, 6, 7, 8, 29, 30, 31, 49] [23, 27, 53]]) (.cond (.tmp 49) (.reg Nz [.keep [1, 5, 6, 7, 29, 30, 31] [23, 27, 53]]) .skip))
        (Ny 1 (Ax (run Tryz.prog Γ (.reg O0 [.keep [1, 5, 6, 7, 29, 30, 31] [23, 27, 53]]) (Ax (fun s => Ax K Q .normal (ghs [.keep [1, 5, 6, 7, 29, 30, 31] [23, 27, 53]] s)) (Ax K Q))) (Ax (fun s => Ax K Q .normal (ghs [.keep [1, 5, 6, 7, 29, 30, 31] [23, 27, 53]] s)) (Ax K Q))))
        ⟨[(1, .t (.ip (tC c) 0)), (5, .ls 23 0 c.nodes.l.length none), (6, .ls 27 0 c.nodes.l.length none), (7, .ls 53 0 (Du (c.nodes.l.take i) 0).length none), (8, .t (tI i)), (29, .t (Ac c.nodes)), (30, .t (tI c.nodes.l.length)), (31, .t (tI i))], [(23, .sl 3 1 (Ao out)), (27, .sl 3 1 (Ao lf)), (53, .sl 3 1 (Ao (Du (c.nodes.l.take i) 0)))]⟩ := by
      rintro lf rfl
      have hget : (Lu c (i + 1))[i]?.getD 0 = Dt c.nodes.l[i] := by
        rw [← q5U h2]
        simp [hll, h2]
      have hge := hget
      rw [List.getElem?_eq_getElem (by rw [hll1]; exact h2), Option.getD_some] at hge
      by_cases hz : Dt c.nodes.l[i] = 0
      · rw [if_pos hz] at hsn
        simp (disch := omega) [h2, A0, Bc (0 : Int), Aa, hll1, hge, hz, hw, A7]
        refine ⟨by omega, ?_⟩
        rw [hK]
        rw [hsn] at ih
        rw [By (f := tI) (x := (i : Int))]
        simpa using ih
      · rw [if_neg hz] at hsn
        simp (disch := omega) [h2, A0, Bc (0 : Int), Aa, hll1, hge, hz, A7]
        rw [hK]
        rw [hsn] at ih
        exact_mod_cast ih
    by_cases hcb : E3 c.nodes.l[i].k = true
    · have hcb' : decide (1 ≤ c.nodes.l[i].k ∧ c.nodes.l[i].k ≤ 13) = true := by simpa [E3] using hcb
      have hlo : Dt c.nodes.l[i] = c.nodes.l[i].inn.l.length := by simp [Dt, hcb]
      rw [hcb']
      have := tail ((Lu c i).set i c.nodes.l[i].inn.l.length) (by rw [← hlo]; exact q5U h2)
      simp (disch := omega) [h2, A0, Aa, hll, Gf, -F8]
      exact this
    · have hcb' : decide (1 ≤ c.nodes.l[i].k ∧ c.nodes.l[i].k ≤ 13) = false := by simpa [E3] using hcb
      have hlo : Dt c.nodes.l[i] = 0 := by simp [Dt, hcb]
      rw [hcb', qCl h2 hlo]
      rw [if_pos hlo] at hsn
      have hge : (Lu c (i + 1))[i]'(by rw [hll1]; exact h2) = 0 := by
        have hget : (Lu c (i + 1))[i]?.getD 0 = Dt c.nodes.l[i] := by
          rw [← q5U h2]
          simp [hll, h2]
        rw [List.getElem?_eq_getElem (by rw [hll1]; exact h2), Option.getD_some] at hget
        rw [hget, hlo]
      simp (disch := omega) [h2, A0, Bc (0 : Int), Aa, hll1, hge, hw, A7]
      refine ⟨by omega, ?_⟩
      rw [hK]
      rw [hsn] at ih
      rw [By (f := tI) (x := (i : Int))]
      simpa [Ac] using ih
def Bi (c : B9) : Int := if Dy c ≠ 0 then Dy c else if (Ph c).1 < c.nodes.l.length then 6 else 0
theorem qHH (k : Int) : (Uz k).2 ≤ 16 := by
  unfold Uz
  split
  · decide
  · have : ∀ n : Nat, (q9B.getD n (0, 0)).2 ≤ 16 := by
      intro n
      by_cases h : n < 16
      · have : n = 0 ∨ n = 1 ∨ n = 2 ∨ n = 3 ∨ n = 4 ∨ n = 5 ∨ n = 6 ∨ n = 7 ∨ n = 8 ∨ n = 9 ∨ n = 10 ∨ n = 11 ∨ n = 12 ∨ n = 13 ∨ n = 14 ∨ n = 15 := by omega
        rcases this with rfl | rfl | rfl | rfl | rfl | rfl | rfl | rfl | rfl | rfl | rfl | rfl | rfl | rfl | rfl | rfl <;> decide
      · rw [List.getD, List.getElem?_eq_none (by simp [q9B]; omega)]; decide
    exact this _
theorem q4r {α : Type} {f : α → Int} : ∀ {l : List α}, Di (l.map f) = 0 → ∀ x ∈ l, f x = 0
  | [], _, x, h => by cases h
  | y :: l, h, x, hx => by
    simp only [List.map_cons, Di] at h
    split at h
    · rename_i hy; exact absurd h hy
    · rename_i hy
      rcases List.mem_cons.1 hx with rfl | hx
      · simpa using hy
      · exact q4r h x hx
theorem Lx {c : B9} (h : Dy c = 0) : c.nodes.l.length ≤ 16384 ∧ (∀ x ∈ c.nodes.l, x.inn.l.length ≤ 16) ∧ (∀ x ∈ c.nodes.l, Dm c x = 0) ∧ c.mems.l.length ≤ 16 := by
  unfold Dy at h
  split at h
  · cases h
  rename_i h1
  split at h
  · cases h
  split at h
  · rename_i h2; exact absurd h h2
  rename_i h2
  have h3 := q4r (by simpa using h2)
  refine ⟨by omega, fun x hx => ?_, h3, by omega⟩
  have h4 := h3 x hx
  have h5 := qHH x.k
  unfold Dm at h4
  split at h4
  · cases h4
  split at h4
  · cases h4
  rename_i h6
  omega
theorem q7o (hΓ : GOk Γ) (c : B9) (hc : CirOk c) (ha : ∀ s ∈ c.names.l, ∀ b ∈ s, b < 128) :
    Ab Tryz.prog Γ 109 [.agg (tC c)] (.tup [if Bi c = 0 then .sl (Ao (Ph c).2.out) none none else .sl [] (some 0) (some true), tI (Bi c)]) := by
  refine Ad q4V rfl ?_
  have e1 := qEI hΓ c hc ha
  simp [Yn, tC, Ac, Ah, Am, Aw]
  refine A6 e1 rfl ?_
  by_cases h1 : Dy c = 0
  case neg =>
    have : Bi c = Dy c := by unfold Bi; rw [if_pos h1]
    simp [h1, J9, this]
  obtain ⟨hn, hi, _⟩ := Lx h1
  have e2 := qCj (Γ := Γ) c hn hi
  have hl0 : Bi c = if (Ph c).1 < c.nodes.l.length then 6 else 0 := by unfold Bi; rw [if_neg (show ¬ (Dy c ≠ 0) by simp [h1])]
  simp (disch := omega) [h1, Af, A7]
  refine ⟨by omega, ?_⟩
  have e0 : List.replicate c.nodes.l.length [T.v (Value.int .i64 0)] = Ao (List.replicate c.nodes.l.length 0) := by simp [Ae]
  rw [e0]
  have hl := fun Q h0 => qAt (Γ := Γ) (Q := Q) c hn hi (List.replicate c.nodes.l.length 0) h0 c.nodes.l.length 0 (by omega)
  have el0 : Lu c 0 = List.replicate c.nodes.l.length 0 := by simp [Lu]
  simp only [el0, Du, List.take_zero, List.length_nil] at hl
  refine hl _ ?_
  simp [tC, Ac, Ah, Am, Aw]
  refine A8 e2 rfl ?_
  have hI := qCk c hi
  have hm := fun Q h0 => qAs (Γ := Γ) (Q := Q) c hc hn hi (Ph c) h0 (c.nodes.l.length + 1) 0 (I7 c) 0 (by omega) hI (by omega) rfl
  simp
  refine hm _ ?_
  have hend : (Ph c).1 < c.nodes.l.length ↔ ((Ph c).1 : Int) < c.nodes.l.length := by omega
  have hol : (Ph c).2.out.length = c.nodes.l.length := by
    have : ∀ (f d : Nat) (s : LS), s.out.length = c.nodes.l.length → (Nk c f d s).2.out.length = c.nodes.l.length := by
      intro f
      induction f with
      | zero => intro d s h; exact h
      | succ f ih =>
        intro d s h
        simp only [Nk]
        split
        · refine ih _ _ ?_
          have : ∀ (r : O8) (n : Nat) (s : LS), s.out.length = c.nodes.l.length → (r.foldl (E4 c n) s).out.length = c.nodes.l.length := by
            intro r n
            induction r with
            | nil => intro s h; exact h
            | cons p r ih2 =>
              intro s h
              rw [List.foldl_cons]
              refine ih2 _ ?_
              unfold E4
              split
              · simp [h]
              · exact h
          exact this _ _ _ h
        · exact h
    exact this _ _ _ hI.lo
  by_cases h2 : (Ph c).1 < c.nodes.l.length
  · rw [if_pos h2] at hl0
    have h2' := hend.1 h2
    simp [lsH, tC, Ac, Af, h2', J9, hl0]
  · rw [if_neg h2] at hl0
    have h2' : ¬ ((Ph c).1 : Int) < c.nodes.l.length := fun h => h2 (hend.2 h)
    have ht : (Ao (Ph c).2.out).take c.nodes.l.length = Ao (Ph c).2.out := by rw [← hol]; simp
    simp [lsH, tC, Ac, Af, h2, h2', J9, hl0, ht]
structure COk (c : B9) : Prop extends CirOk c where
  asc : ∀ s ∈ c.names.l, ∀ b ∈ s, b < 128
theorem q9K (hΓ : GOk Γ) (c : B9) (hc : COk c) : Ab Tryz.prog Γ 129 [.agg (tC c)] (tI (Bi c)) := by
  refine Ad q5M rfl ?_
  have e := q7o hΓ c hc.toCirOk hc.asc
  simp [q04, tC, Ac, Ah, Am, Aw]
  refine A6 e rfl ?_
  simp
  simp [q05]
def A5 (c : B9) : List Int := Jv [14] c.nodes.l 0
def mems (c : B9) : List Int := Jv [15] c.nodes.l 0
theorem qBm (c : B9) (hc : COk c) (k : Int) : Ab Tryz.prog Γ 80 [.agg (tC c), .sl [[tK k]] (some 1) (some false)] (.sl (Ao (Jv [k] c.nodes.l 0)) (some (Jv [k] c.nodes.l 0).length) none) := by
  have := qIn (Γ := Γ) c hc.toCirOk [k] (some 1) (some false) (by simp)
  simpa [Ae] using this
theorem D9 (c : B9) (hc : COk c) : Ai Tryz.prog Γ 27 [.agg (tC c)] (.sl (Ao (A5 c)) (some (A5 c).length) none) := by
  refine Ap q4U rfl ?_
  simp [Yi, tC, Ac, Ah, Am, Aw]
  refine A6 (qBm c hc 14) rfl ?_
  simp [Yj, A5]
def Ei (c : B9) : Int := if Bi c ≠ 0 then Bi c else if 0 < c.mems.l.length ∨ 0 < (mems c).length then 7 else 0
theorem qEK (hΓ : GOk Γ) (c : B9) (hc : COk c) : Ab Tryz.prog Γ 132 [.agg (tC c)] (tI (Ei c)) := by
  refine Ad q8F rfl ?_
  simp [q3I, tC, Ac, Ah, Am, Aw]
  refine A6 (q9K hΓ c hc) rfl ?_
  by_cases h1 : Bi c = 0
  case neg =>
    have : Ei c = Bi c := by unfold Ei; rw [if_pos h1]
    simp [h1, Lq, this]
  have hp : Ei c = if 0 < c.mems.l.length ∨ 0 < (mems c).length then 7 else 0 := by unfold Ei; rw [if_neg (show ¬ (Bi c ≠ 0) by simp [h1])]
  by_cases h2 : 0 < c.mems.l.length
  · rw [if_pos (.inl h2)] at hp
    have h2' : (0 : Int) < c.mems.l.length := by omega
    simp [h1, Af, h2, h2', Lq, hp]
  · have h2' : ¬ (0 : Int) < c.mems.l.length := by omega
    simp [h1, Af, h2, h2']
    refine A6 (qBm c hc 15) rfl ?_
    have hml : c.mems.l = [] := List.eq_nil_of_length_eq_zero (by omega)
    by_cases h3 : 0 < (Jv [15] c.nodes.l 0).length
    · rw [if_pos (show 0 < c.mems.l.length ∨ 0 < (mems c).length from .inr h3)] at hp
      have h3' : (0 : Int) < (Jv [15] c.nodes.l 0).length := by omega
      have h4 : ¬ Jv [15] c.nodes.l 0 = [] := fun e => by rw [e] at h3; simp at h3
      simp [A0]
      simp [h3, h4, Bj, Lq, hp]
    · have h3m : ¬ 0 < (mems c).length := h3
      rw [if_neg (show ¬ (0 < c.mems.l.length ∨ 0 < (mems c).length) by omega)] at hp
      have h4 : Jv [15] c.nodes.l 0 = [] := List.eq_nil_of_length_eq_zero (by omega)
      simp [A0, h4]
      simp [h4, Bj, Lq, hp]
end Go.Lg
namespace Go.Lg
open Go Go.Proofs
def Bn (s : Sl (Sl Int)) : T := .sl (Ae Aw s.l) s.cap s.nl
def Sl.d : Sl Int := ⟨[], none, none⟩
def Ws (l : List Int) (a b : Nat) : List Int := (l.set a (l.getD b 0)).set b (l.getD a 0)
theorem q1F {l : List Int} {a b : Nat} : (Ws l a b).length = l.length := by simp [Ws]
theorem B2 {l : List Int} {i : Nat} (h : i < l.length) : l.getD i 0 = l[i] := by simp [List.getD_eq_getElem?_getD, h]
theorem qG1 {l : List Int} {a b q : Nat} (ha : a < l.length) (hb : b < l.length) (hq : q < l.length) : (Ws l a b).getD q 0 = if q = b then l.getD a 0 else if q = a then l.getD b 0 else l.getD q 0 := by
  unfold Ws
  rw [I8 (by simp; exact hb)]
  split
  · rfl
  · rw [I8 ha]
theorem q5V {l : List Int} {a b : Nat} (ha : a < l.length) (hb : b < l.length) : (Ws l a b).Perm l := by
  unfold Ws
  rw [B2 ha, B2 hb]
  exact List.set_set_perm ha hb
theorem Dz (ks : List Int) : ∀ (l : List Nd) (i : Nat), (∀ j ∈ Jv ks l i, (i : Int) ≤ j) ∧ (Jv ks l i).Nodup
  | [], _ => ⟨fun j h => (by cases h), List.nodup_nil⟩
  | x :: l, i => by
    obtain ⟨h1, h2⟩ := Dz ks l (i + 1)
    simp only [Jv]
    split
    · refine ⟨fun j hj => ?_, List.nodup_cons.2 ⟨fun hm => ?_, h2⟩⟩
      · rcases List.mem_cons.1 hj with rfl | hj
        · omega
        · have := h1 j hj; omega
      · have := h1 _ hm; omega
    · exact ⟨fun j hj => by have := h1 j hj; omega, h2⟩
theorem q3R (ks : List Int) : ∀ (l : List Nd) (i : Nat), ∀ n ∈ Jv ks l i, (i : Int) ≤ n ∧ n < i + l.length ∧ ks.contains (l.getD (n.toNat - i) Nd.d).k = true
  | [], _, n, h => by cases h
  | x :: l, i, n, h => by
    have tail : n ∈ Jv ks l (i + 1) → (i : Int) ≤ n ∧ n < i + (x :: l).length ∧ ks.contains ((x :: l).getD (n.toNat - i) Nd.d).k = true := fun h => by
      obtain ⟨h1, h2, h3⟩ := q3R ks l (i + 1) n h
      refine ⟨by omega, by simp only [List.length_cons]; omega, ?_⟩
      have e : n.toNat - i = (n.toNat - (i + 1)) + 1 := by omega
      rw [e, List.getD_cons_succ]
      exact h3
    simp only [Jv] at h
    split at h
    · rename_i hk
      rcases List.mem_cons.1 h with rfl | h
      · refine ⟨by omega, by simp only [List.length_cons]; omega, ?_⟩
        have e : ((i : Int).toNat - i) = 0 := by omega
        rw [e, List.getD_cons_zero]
        exact hk
      · exact tail h
    · exact tail h
end Go.Lg
namespace Go.Lg
open Go
section
variable {P : Program} {Γ : Tables} {Q : AX → St → Prop} {s : St}
/- (probecard/probecardlaw03.C).Of (function 13) -/
abbrev q4s : IC := .gh (.seq (.seq (.reg [om 13 4, od 14 (fa 0 1), od 15 (ld 1 14), od 16 (.bin .rem (tm 15) (ku 4)), od 17 (.conv .i64 (tm 16)), od 18 (.bin .leq (tm 13) (tm 17))] [kp [1, 2, 3, 4, 18] [2, 3, 25, 144, 168]]) (.cond (tm 18) .skip
 (.exit 0))) (.seq (.block 1 (.reg [od 21 (fa 0 3), od 22 (ld 1 21), od 23 (.build [(1, (ku 0)), (1, kN), (1, (ki 0)), (1, (ki 0))]), od 24 (.bsl true 104 4 [(tm 23)]), od 25 (.app false 104 4 (tm 22) (tm 24)), od 26 (fa 0 3), on
 (.store 1 (tm 26) (tm 25))] [kp [1, 2, 3, 4] [2, 3, 25, 144, 168]])) (.reg [om 19 4, od 20 (.bin .add (tm 19) (ki 1)), om 4 20] [kp [1, 2, 3, 4] [2, 3, 25, 144, 168]]))) [kp [1, 2, 3, 4] [2, 3, 25, 144, 168]]
def V0 : IC := .loop q4s
abbrev q4t : IC := .gh (.seq (.seq (.reg [om 34 7, om 35 6, od 36 (.bin .lss (tm 34) (tm 35))] [kp [1, 2, 3, 5, 6, 7, 36] [2, 3, 25, 144, 168]]) (.cond (tm 36) .skip (.exit 2))) (.seq (.block 3 (.reg [od 39 (fa 0 3), od 40 (ld 1 39), od 41 (.bsl true
 3 1 [(ki 0)]), od 42 (.build [(1, (ku 14)), (1, (tm 41)), (1, (ki 0)), (1, (ki 0))]), od 43 (.bsl true 104 4 [(tm 42)]), oz 44 (.app false 104 4 (tm 40) (tm 43)) 25, od 45 (fa 0 3), on (.store 1 (tm 45) (tm 44))] [kp [1, 2, 3, 5,
 6, 7] [2, 3, 25, 144, 168]])) (.reg [om 37 7, od 38 (.bin .add (tm 37) (ki 1)), om 7 38] [kp [1, 2, 3, 5, 6, 7] [2, 3, 25, 144, 168]]))) [kp [1, 2, 3, 5, 6, 7] [2, 3, 25, 144, 168]]
def V1 : IC := .loop q4t
abbrev q4u : IC := .gh (.seq (.seq (.reg [om 55 8, od 56 (fa 10 1), od 57 (ld 1 56), od 58 (le 0 57), od 59 (.bin .lss (tm 55) (tm 58)), om 60 59, oT 61 (.mv (tm 8)) 60, oT 62 (.bin .lss (tm 61) (ki 8)) 60, od 63 (.pick (tm 60) (tm 62) kF)] [kp [1,
 2, 3, 5, 6, 8, 63] [2, 3, 25, 144, 168]]) (.cond (tm 63) .skip (.exit 4))) (.seq (.block 5 (.reg [od 66 (fa 0 3), od 67 (.ldR 3 1 false (tm 66)), od 68 (.ldT 12 true (tm 1)), od 69 (fa 10 1), od 70 (.ldT 1 false (tm 69)), om 71 8,
 od 72 (ia 4 70 71), od 73 (.ldT 4 true (tm 72)), od 74 (fa 0 3), od 75 (.ldR 3 1 false (tm 74)), od 76 (.call 49 [(tm 68), (tm 73), (tm 75)]), od 77 (.bsl true 104 4 [(tm 76)]), oz 78 (.app false 104 4 (tm 67) (tm 77)) 25, od 79
 (fa 0 3), on (.stR 3 1 (tm 79) (tm 78))] [kp [1, 2, 3, 5, 6, 8] [2, 3, 25, 144, 168]])) (.reg [om 64 8, od 65 (.bin .add (tm 64) (ki 1)), om 8 65] [kp [1, 2, 3, 5, 6, 8] [2, 3, 25, 144, 168]]))) [kp [1, 2, 3, 5, 6, 8] [2, 3, 25,
 144, 168]]
def V2 : IC := .loop q4u
abbrev q4v : IC := .gh (.seq (.seq (.reg [om 83 10, om 84 6, od 85 (.bin .lss (tm 83) (tm 84))] [kp [1, 2, 3, 5, 6, 9, 10, 85] [2, 3, 25, 144, 168]]) (.cond (tm 85) .skip (.exit 6))) (.seq (.block 7 (.reg [od 88 (fa 0 3), od 89 (.ldR 3 1 false (tm
 88)), om 90 5, om 91 10, od 92 (.bin .add (tm 90) (tm 91)), om 93 10, od 94 (fa 2 1), od 95 (.iadrA 2 1 (tm 94) (tm 93)), od 96 (.ldT 1 false (tm 95)), od 97 (.conv .i64 (tm 96)), om 98 9, od 99 (.bin .rem (tm 97) (tm 98)), od 100
 (.bsl true 3 1 [(tm 99)]), od 101 (ia 4 89 92), od 102 (fa 1 101), on (.store 1 (tm 102) (tm 100))] [kp [1, 2, 3, 5, 6, 9, 10] [2, 3, 25, 144, 168]])) (.reg [om 86 10, od 87 (.bin .add (tm 86) (ki 1)), om 10 87] [kp [1, 2, 3, 5, 6,
 9, 10] [2, 3, 25, 144, 168]]))) [kp [1, 2, 3, 5, 6, 9, 10] [2, 3, 25, 144, 168]]
def V3 : IC := .loop q4v
abbrev q4w : IC := .gh (.seq (.seq (.reg [om 134 11, om 135 9, od 136 (.bin .lss (tm 134) (tm 135))] [kp [1, 2, 3, 9, 11, 136] [2, 3, 25, 144, 168]]) (.cond (tm 136) .skip (.exit 8))) (.seq (.block 9 (.reg [od 139 (fa 1 3), od 140 (.ldR 3 1 false (tm
 139)), om 141 11, od 142 (.call 50 [(tm 141)]), od 143 (.bsl true 9 1 [(tm 142)]), od 144 (.app false 9 1 (tm 140) (tm 143)), od 145 (fa 1 3), on (.stR 3 1 (tm 145) (tm 144))] [kp [1, 2, 3, 9, 11] [2, 3, 25, 144, 168]])) (.reg [om
 137 11, od 138 (.bin .add (tm 137) (ki 1)), om 11 138] [kp [1, 2, 3, 9, 11] [2, 3, 25, 144, 168]]))) [kp [1, 2, 3, 9, 11] [2, 3, 25, 144, 168]]
def V5 : IC := .loop q4w
abbrev q3S : IC := .gh (.seq (.seq (.reg [om 146 12, od 147 (fa 11 1), od 148 (ld 1 147), od 149 (le 0 148), od 150 (.bin .lss (tm 146) (tm 149)), om 151 150, oT 152 (.mv (tm 12)) 151, oT 153 (.bin .lss (tm 152) (ki 3)) 151, od 154 (.pick (tm 151)
 (tm 153) kF)] [kp [1, 2, 3, 9, 12, 154] [2, 3, 25, 144, 168]]) (.cond (tm 154) .skip (.exit 10))) (.seq (.block 11 (.reg [od 157 (fa 3 3), od 158 (.ldR 3 1 false (tm 157)), od 159 (fa 11 1), od 160 (.ldT 1 false (tm 159)), om 161
 12, od 162 (ia 1 160 161), od 163 (.ldT 1 false (tm 162)), od 164 (.conv .i64 (tm 163)), om 165 9, od 166 (.bin .rem (tm 164) (tm 165)), od 167 (.bsl true 3 1 [(tm 166)]), od 168 (.app false 3 1 (tm 158) (tm 167)), od 169 (fa 3 3),
 on (.stR 3 1 (tm 169) (tm 168))] [kp [1, 2, 3, 9, 12] [2, 3, 25, 144, 168]])) (.reg [om 155 12, od 156 (.bin .add (tm 155) (ki 1)), om 12 156] [kp [1, 2, 3, 9, 12] [2, 3, 25, 144, 168]]))) [kp [1, 2, 3, 9, 12] [2, 3, 25, 144, 168]]
def Rz : IC := .loop q3S
abbrev q4x : IC := (.seq (.reg [od 1 (.box true (tm 0)), od 2 (.alloc false [(.slice none 0 0), (.slice none 0 0), (.slice none 0 0), (.slice none 0 0)])] [kp [1, 2] [2, 25, 144, 168]]) (.seq (.reg [od 3 (.alloc false [(.slice none 0 0), (.slice none
 0 0), (.slice none 0 0), (.slice none 0 0)])] [.nlb 3 0 25 104 4, .nlb 3 1 144 9 1, .nlb 3 3 168 3 1, kp [1, 2, 3] [2, 3, 25, 144, 168]]) (.seq (.seq (.reg [od 4 (.mv (ki 0))] [kp [1, 2, 3, 4] [2, 3, 25, 144, 168]]) (.block 0
 V0)) (.seq (.reg [od 27 (fa 0 3), od 28 (ld 1 27), od 29 (le 0 28), om 5 29] [kp [1, 2, 3, 5] [2, 3, 25, 144, 168]]) (.seq (.reg [od 30 (fa 1 1), od 31 (ld 1 30), od 32 (.bin .rem (tm 31) (ku 3)), od 33 (.conv .i64 (tm
 32)), om 6 33] [kp [1, 2, 3, 5, 6] [2, 3, 25, 144, 168]]) (.seq (.seq (.reg [od 7 (.mv (ki 0))] [kp [1, 2, 3, 5, 6, 7] [2, 3, 25, 144, 168]]) (.block 2 V1)) (.seq (.seq (.reg [od 46 (fa 5 1), od 47 (ld 1 46)] [kp [1, 2,
 3, 5, 6, 47] [2, 3, 25, 144, 168]]) (.cond (tm 47) (.reg [od 48 (fa 0 3), od 49 (ld 1 48), od 50 (.build [(1, (ku 15)), (1, kN), (1, (ki 0)), (1, (ki 0))]), od 51 (.build [(1, (ku 15)), (1, kN), (1, (ki 0)), (1, (ki 1))]), od 52
 (.bsl true 104 4 [(tm 50), (tm 51)]), oz 53 (.app false 104 4 (tm 49) (tm 52)) 25, od 54 (fa 0 3), on (.store 1 (tm 54) (tm 53))] [kp [1, 2, 3, 5, 6] [2, 3, 25, 144, 168]]) .skip)) (.seq (.seq (.reg [od 8 (.mv (ki 0))] [kp [1, 2,
 3, 5, 6, 8] [2, 3, 25, 144, 168]]) (.block 4 V2)) (.seq (.reg [od 80 (fa 0 3), od 81 (ld 1 80), od 82 (le 0 81), om 9 82] [kp [1, 2, 3, 5, 6, 9] [2, 3, 25, 144, 168]]) (.seq (.seq (.reg [od 10 (.mv (ki 0))] [kp [1, 2, 3,
 5, 6, 9, 10] [2, 3, 25, 144, 168]]) (.block 6 V3)) (.seq (.seq (.reg [od 103 (fa 5 1), od 104 (ld 1 103)] [kp [1, 2, 3, 9, 104] [2, 3, 25, 144, 168]]) (.cond (tm 104) (.reg [od 105 (fa 6 1), od 106 (.iadrA 4 1 (tm 105)
 (ki 0)), od 107 (.ldT 1 false (tm 106)), od 108 (.conv .i64 (tm 107)), om 109 9, od 110 (.bin .rem (tm 108) (tm 109)), od 111 (.bsl true 3 1 [(tm 110)]), od 112 (fa 6 1), od 113 (.iadrA 4 1 (tm 112) (ki 1)), od 114 (.ldT 1 false
 (tm 113)), od 115 (.conv .i64 (tm 114)), om 116 9, od 117 (.bin .rem (tm 115) (tm 116)), od 118 (fa 6 1), od 119 (.iadrA 4 1 (tm 118) (ki 2)), od 120 (.ldT 1 false (tm 119)), od 121 (.conv .i64 (tm 120)), om 122 9, od 123 (.bin
 .rem (tm 121) (tm 122)), od 124 (.bsl true 3 1 [(tm 117), (tm 123)]), od 125 (fa 6 1), od 126 (.iadrA 4 1 (tm 125) (ki 3)), od 127 (.ldT 1 false (tm 126)), od 128 (.conv .i64 (tm 127)), om 129 9, od 130 (.bin .rem (tm 128) (tm
 129)), od 131 (.build [(1, (tm 111)), (1, (tm 124)), (1, (tm 130))]), od 132 (.bsl true 110 3 [(tm 131)]), od 133 (fa 2 3), on (.stR 3 1 (tm 133) (tm 132))] [kp [1, 2, 3, 9] [2, 3, 25, 144, 168]]) .skip)) (.seq (.seq (.reg [od 11
 (.mv (ki 0))] [kp [1, 2, 3, 9, 11] [2, 3, 25, 144, 168]]) (.block 8 V5)) (.seq (.seq (.reg [od 12 (.mv (ki 0))] [kp [1, 2, 3, 9, 12] [2, 3, 25, 144, 168]]) (.block 10 Rz)) (.seq (.reg [od 170 (fa 3 3), od 171
 (ld 1 170), om 172 9, od 173 (.bin .sub (tm 172) (ki 1)), od 174 (.bsl true 3 1 [(tm 173)]), oz 175 (.app false 3 1 (tm 171) (tm 174)) 168, od 176 (fa 3 3), on (.store 1 (tm 176) (tm 175))] [kp [2, 3] [2, 3, 25, 144, 168]]) (.seq
 (.reg [od 177 (lG 4 3), on (.store 4 (tm 2) (tm 177))] [kp [2] [2, 25, 144, 168]]) .ret)))))))))))))))
theorem q0E (h : ∀ K : St → Prop, K = run P Γ V0 Q → run P Γ q4s (Ax K Q) s) : run P Γ V0 Q s := Aj h
theorem q0F (h : ∀ K : St → Prop, K = run P Γ V1 Q → run P Γ q4t (Ax K Q) s) : run P Γ V1 Q s := Aj h
theorem q0G (h : ∀ K : St → Prop, K = run P Γ V2 Q → run P Γ q4u (Ax K Q) s) : run P Γ V2 Q s := Aj h
theorem q0H (h : ∀ K : St → Prop, K = run P Γ V3 Q → run P Γ q4v (Ax K Q) s) : run P Γ V3 Q s := Aj h
theorem q0I (h : ∀ K : St → Prop, K = run P Γ V5 Q → run P Γ q4w (Ax K Q) s) : run P Γ V5 Q s := Aj h
theorem Z3 (h : ∀ K : St → Prop, K = run P Γ Rz Q → run P Γ q3S (Ax K Q) s) : run P Γ Rz Q s := Aj h
def Hi : List RV := [.cell 2 4 true]
/- (probecard/probecardlaw03.C).gate (function 49) -/
abbrev q2C : IC := .gh (.seq (.seq (.reg [om 37 12, om 38 7, od 39 (.bin .lss (tm 37) (tm 38))] [kp [2, 3, 4, 6, 7, 8, 9, 10, 11, 12, 39] [6, 51, 70, 79, 86, 94, 105, 126, 142, 156]]) (.cond (tm 39) .skip (.exit 0))) (.seq (.block 1 (.seq (.reg [om
 42 2, om 43 12, od 44 (ia 4 42 43), od 45 (fa 0 44), od 46 (ld 1 45), od 47 (.bin .eql (tm 46) (ku 12))] [kp [2, 3, 4, 6, 7, 8, 9, 10, 11, 12, 47] [6, 51, 70, 79, 86, 94, 105, 126, 142, 156]]) (.cond (tm 47) (.reg [om 48 11, om 49
 12, od 50 (.bsl true 3 1 [(tm 49)]), od 51 (.app false 3 1 (tm 48) (tm 50)), om 11 51] [kp [2, 3, 4, 6, 7, 8, 9, 10, 11, 12] [6, 51, 70, 79, 86, 94, 105, 126, 142, 156]]) .skip))) (.reg [om 40 12, od 41 (.bin .add (tm 40) (ki 1)),
 om 12 41] [kp [2, 3, 4, 6, 7, 8, 9, 10, 11, 12] [6, 51, 70, 79, 86, 94, 105, 126, 142, 156]]))) [kp [2, 3, 4, 6, 7, 8, 9, 10, 11, 12] [6, 51, 70, 79, 86, 94, 105, 126, 142, 156]]
def Ov : IC := .loop q2C
abbrev q2D : IC := (.seq (.reg [od 3 (.box true (tm 0)), od 4 (.box true (tm 1)), od 6 (.alloc false [(.int .u8 0), (.slice none 0 0), (.int .i64 0), (.int .i64 0)])] [kp [2, 3, 4, 6] [6, 70, 79, 86, 94, 105, 126, 142, 156]]) (.seq (.reg [om 17 2, od
 18 (le 0 17), om 7 18] [kp [2, 3, 4, 6, 7] [6, 70, 79, 86, 94, 105, 126, 142, 156]]) (.seq (.reg [od 19 (fa 1 4), od 20 (.iadrA 3 1 (tm 19) (ki 0)), od 21 (ld 1 20), od 22 (.conv .i64 (tm 21)), om 23 7, od 24 (.bin .rem (tm 22) (tm
 23)), od 25 (fa 1 4), od 26 (.iadrA 3 1 (tm 25) (ki 1)), od 27 (ld 1 26), od 28 (.conv .i64 (tm 27)), om 29 7, od 30 (.bin .rem (tm 28) (tm 29)), od 31 (fa 1 4), od 32 (.iadrA 3 1 (tm 31) (ki 2)), od 33 (ld 1 32), od 34 (.conv .i64
 (tm 33)), om 35 7, od 36 (.bin .rem (tm 34) (tm 35)), om 8 24, om 9 30, om 10 36] [kp [2, 3, 4, 6, 7, 8, 9, 10] [6, 70, 79, 86, 94, 105, 126, 142, 156]]) (.seq (.reg [od 11 (.mv kN)] [.nl 11 51 3 1, kp [2, 3, 4, 6, 7, 8, 9, 10, 11]
 [6, 51, 70, 79, 86, 94, 105, 126, 142, 156]]) (.seq (.seq (.reg [od 12 (.mv (ki 0))] [kp [2, 3, 4, 6, 7, 8, 9, 10, 11, 12] [6, 51, 70, 79, 86, 94, 105, 126, 142, 156]]) (.block 0 Ov)) (.seq (.reg [od 52 (fa 0 4), od 53
 (ld 1 52), od 54 (.bin .rem (tm 53) (ku 9)), od 55 (.conv .i64 (tm 54)), om 13 55] [kp [3, 4, 6, 8, 9, 10, 11, 13] [6, 51, 70, 79, 86, 94, 105, 126, 142, 156]]) (.seq (.seq (.reg [od 56 (fa 4 3), od 57 (ld 1 56)] [kp [4, 6, 8, 9,
 10, 11, 13, 57] [6, 51, 70, 79, 86, 94, 105, 126, 142, 156]]) (.cond (tm 57) (.reg [od 58 (fa 0 4), od 59 (ld 1 58), od 60 (.bin .rem (tm 59) (ku 13)), od 61 (.conv .i64 (tm 60)), om 13 61] [kp [4, 6, 8, 9, 10, 11, 13] [6, 51, 70,
 79, 86, 94, 105, 126, 142, 156]]) .skip)) (.seq (.block 2 (.seq (.reg [om 63 13, od 64 (.bin .lss (tm 63) (ki 6)), om 62 64] [kp [4, 6, 8, 9, 10, 11, 13, 62] [6, 51, 70, 79, 86, 94, 105, 126, 142, 156]]) (.cond (tm 62) (.seq (.reg
 [om 65 13, od 66 (.conv .u8 (tm 65)), od 67 (.bin .add (ku 5) (tm 66)), om 68 8, om 69 9, od 70 (.bsl false 3 1 [(tm 68), (tm 69)]), od 71 (.build [(1, (tm 67)), (1, (tm 70)), (1, (ki 0)), (1, (ki 0))]), od 14 (.alloc false [(.int
 .u8 0), (.slice none 0 0), (.int .i64 0), (.int .i64 0)]), on (.store 4 (tm 14) (tm 71))] [kp [4, 6, 10, 14] [6, 14, 70, 79, 86, 94, 105, 126, 142, 156]]) (.seq (.seq (.reg [od 72 (fa 0 4), od 73 (ld 1 72), od 74 (.bin .geq (tm 73)
 (ku 128))] [kp [6, 10, 14, 74] [6, 14, 70, 79, 86, 94, 105, 126, 142, 156]]) (.cond (tm 74) (.reg [od 75 (fa 1 14), od 76 (ld 1 75), om 77 10, od 78 (.bsl true 3 1 [(tm 77)]), od 79 (.app false 3 1 (tm 76) (tm 78)), od 80 (fa 1
 14), on (.store 1 (tm 80) (tm 79))] [kp [6, 14] [6, 14, 70, 79, 86, 94, 105, 126, 142, 156]]) .skip)) (.seq (.reg [od 81 (lG 4 14), on (.store 4 (tm 6) (tm 81))] [kp [6] [6, 70, 79, 86, 94, 105, 126, 142, 156]]) .ret))) (.seq (.reg
 [om 83 13, od 84 (.bin .eql (tm 83) (ki 6)), om 82 84] [kp [4, 6, 8, 9, 10, 11, 13, 82] [6, 51, 70, 79, 86, 94, 105, 126, 142, 156]]) (.cond (tm 82) (.seq (.reg [om 85 8, od 86 (.bsl false 3 1 [(tm 85)]), od 87 (.build [(1, (ku
 4)), (1, (tm 86)), (1, (ki 0)), (1, (ki 0))]), on (.store 4 (tm 6) (tm 87))] [kp [6] [6, 70, 79, 86, 94, 105, 126, 142, 156]]) .ret) (.seq (.reg [om 89 13, od 90 (.bin .eql (tm 89) (ki 7)), om 88 90] [kp [4, 6, 8, 9, 10, 11, 13,
 88] [6, 51, 70, 79, 86, 94, 105, 126, 142, 156]]) (.cond (tm 88) (.seq (.reg [om 91 8, om 92 9, om 93 10, od 94 (.bsl false 3 1 [(tm 91), (tm 92), (tm 93)]), od 95 (.build [(1, (ku 11)), (1, (tm 94)), (1, (ki 0)), (1, (ki 0))]), on
 (.store 4 (tm 6) (tm 95))] [kp [6] [6, 70, 79, 86, 94, 105, 126, 142, 156]]) .ret) (.seq (.reg [om 97 13, od 98 (.bin .eql (tm 97) (ki 9)), om 99 98, oF 100 (.mv (tm 13)) 99, oF 101 (.bin .eql (tm 100) (ki 10)) 99, od 102 (.pick
 (tm 99) kT (tm 101)), om 96 102] [kp [4, 6, 8, 9, 11, 13, 96] [6, 51, 70, 79, 86, 94, 105, 126, 142, 156]]) (.cond (tm 96) (.seq (.reg [om 103 8, om 104 9, od 105 (.bsl false 3 1 [(tm 103), (tm 104)]), od 106 (.build [(1, (ku 12)),
 (1, (tm 105)), (1, (ki 0)), (1, (ki 0))]), on (.store 4 (tm 6) (tm 106))] [kp [6] [6, 70, 79, 86, 94, 105, 126, 142, 156]]) .ret) (.seq (.reg [om 108 13, od 109 (.bin .gtr (tm 108) (ki 10)), om 110 109, oT 111 (.mv (tm 11)) 110, oT
 112 (le 0 111) 110, oT 113 (.bin .gtr (tm 112) (ki 0)) 110, od 114 (.pick (tm 110) (tm 113) kF), om 107 114] [kp [4, 6, 8, 11, 107] [6, 51, 70, 79, 86, 94, 105, 126, 142, 156]]) (.cond (tm 107) (.seq (.reg [od 115 (fa 1 4), od 116
 (.iadrA 3 1 (tm 115) (ki 0)), od 117 (ld 1 116), od 118 (.conv .i64 (tm 117)), om 119 11, od 120 (le 0 119), od 121 (.bin .rem (tm 118) (tm 120)), om 15 121] [kp [6, 11, 15] [6, 51, 70, 79, 86, 94, 105, 126, 142, 156]]) (.seq (.reg
 [om 122 11, om 123 15, od 124 (ia 1 122 123), od 125 (ld 1 124), od 126 (.bsl false 3 1 [(tm 125)]), od 127 (.build [(1, (ku 13)), (1, (tm 126)), (1, (ki 0)), (1, (ki 0))]), od 16 (.alloc false [(.int .u8 0), (.slice none 0 0),
 (.int .i64 0), (.int .i64 0)]), on (.store 4 (tm 16) (tm 127))] [kp [6, 11, 15, 16] [6, 16, 51, 70, 79, 86, 94, 105, 126, 142, 156]]) (.seq (.seq (.reg [om 128 11, od 129 (le 0 128), od 130 (.bin .gtr (tm 129) (ki 1))] [kp [6, 11,
 15, 16, 130] [6, 16, 51, 70, 79, 86, 94, 105, 126, 142, 156]]) (.cond (tm 130) (.reg [od 131 (fa 1 16), od 132 (.ldR 16 1 false (tm 131)), om 133 11, om 134 15, od 135 (.bin .add (tm 134) (ki 1)), om 136 11, od 137 (le 0 136), od
 138 (.bin .rem (tm 135) (tm 137)), od 139 (ia 1 133 138), od 140 (.ldR 51 1 false (tm 139)), od 141 (.bsl true 3 1 [(tm 140)]), od 142 (.app false 3 1 (tm 132) (tm 141)), od 143 (fa 1 16), on (.stR 16 1 (tm 143) (tm 142))] [kp [6,
 16] [6, 16, 70, 79, 86, 94, 105, 126, 142, 156]]) .skip)) (.seq (.reg [od 144 (lG 4 16), on (.store 4 (tm 6) (tm 144))] [kp [6] [6, 70, 79, 86, 94, 105, 126, 142, 156]]) .ret)))) (.seq (.reg [od 146 (fa 0 4), od 147 (ld 1 146), od
 148 (.bin .gtr (tm 147) (ku 240)), om 145 148] [kp [4, 6, 8, 145] [6, 70, 79, 86, 94, 105, 126, 142, 156]]) (.cond (tm 145) (.seq (.reg [od 149 (fa 1 4), od 150 (.iadrA 3 1 (tm 149) (ki 0)), od 151 (ld 1 150), od 152 (.bin .rem (tm
 151) (ku 2)), od 153 (.bin .add (ku 1) (tm 152)), od 154 (.build [(1, (tm 153)), (1, kN), (1, (ki 0)), (1, (ki 0))]), on (.store 4 (tm 6) (tm 154))] [kp [6] [6, 70, 79, 86, 94, 105, 126, 142, 156]]) .ret) .skip))))))))))))) (.seq
 (.reg [om 155 8, od 156 (.bsl false 3 1 [(tm 155)]), od 157 (.build [(1, (ku 3)), (1, (tm 156)), (1, (ki 0)), (1, (ki 0))]), on (.store 4 (tm 6) (tm 157))] [kp [6] [6, 70, 79, 86, 94, 105, 126, 142, 156]]) .ret)))))))))
theorem Wt (h : ∀ K : St → Prop, K = run P Γ Ov Q → run P Γ q2C (Ax K Q) s) : run P Γ Ov Q s := Aj h
def Ba : List RV := [.cell 6 4 true]
/- probecard/probecardlaw03.name (function 50) -/
abbrev q4y : IC := (.seq (.reg [od 2 (.mv (.const (sV [])))] [kp [0] []]) (.seq (.reg [om 3 0, od 4 (.bin .quo (tm 3) (ki 10)), od 5 (.bin .add (ki 48) (tm 4)), od 6 (.conv .u8 (tm 5)), om 7 0, od 8 (.bin .rem (tm 7) (ki 10)), od 9 (.bin .add (ki 48)
 (tm 8)), od 10 (.conv .u8 (tm 9)), od 11 (.bsl true 5 1 [(ku 110), (tm 6), (tm 10)]), od 12 (.bytesStr (tm 11)), om 2 12] [kp [2] []]) .ret))
def q4z : List RV := [.tmp 2]
end
end Go.Lg
namespace Go.Lg
open Go Go.Proofs
theorem q9L : B1 Tryz.prog 13 q4x 178 1 Hi = true := by kernel_rfl
theorem q78 : B1 Tryz.prog 49 q2D 158 3 Ba = true := by kernel_rfl
theorem q9M : B1 Tryz.prog 50 q4y 13 1 q4z = true := by kernel_rfl
end Go.Lg
namespace Go.Lg
open Go Go.Proofs
variable {Γ : Tables}
structure Gd where
  k : Int
  a : Int
  b : Int
  d : Int
def tGd (g : Gd) : List T := [tK g.k, tK g.a, tK g.b, tK g.d]
structure CD where
  i : Int
  f : Int
  d0 : Int
  d1 : Int
  bus : Bool
  mem : Bool
  p0 : Int
  p1 : Int
  p2 : Int
  p3 : Int
  gates : Sl Gd
  outs : Sl Int
def I9 (x : CD) : List T := [tK x.i, tK x.f, tK x.d0, tK x.d1, tB x.bus, tB x.mem, tK x.p0, tK x.p1, tK x.p2, tK x.p3, .sl (As tGd x.gates.l) x.gates.cap x.gates.nl, .sl (Ae tK x.outs.l) x.outs.cap x.outs.nl]
def T9 (n : Int) : Prop := 0 ≤ n ∧ n ≤ 255
def q9N (g : Gd) : Prop := T9 g.k ∧ T9 g.a ∧ T9 g.b ∧ T9 g.d
def Hq (i : Nat) : List UInt8 := [110, UInt8.ofNat (48 + i / 10), UInt8.ofNat (48 + i % 10)]
theorem qG2 (i : Nat) (hi : i < 100) : Ab Tryz.prog Γ 50 [tI i] (tS (Hq i)) := by
  refine Ad q9M rfl ?_
  have h1 : (i : Int).tdiv 10 = ((i / 10 : Nat) : Int) := by rw [Int.tdiv_eq_ediv_of_nonneg (by omega)]; omega
  have h2 : (i : Int).tmod 10 = ((i % 10 : Nat) : Int) := by rw [Int.tmod_eq_emod_of_nonneg (by omega)]; omega
  have h3 : i / 10 < 10 := by omega
  have h4 : i % 10 < 10 := by omega
  generalize hq : i / 10 = q at *
  generalize hr : i % 10 = r at *
  have e1 : (48 + (q : Int)).toNat = 48 + q := by omega
  have e2 : (48 + (r : Int)).toNat = 48 + r := by omega
  simp (disch := omega) [q4y, sV, h1, h2, A7, Bt, Xa]
  simp [q4z, Hq, hq, hr, tS, sV, e1, e2]
def q4a (nodes : List Nd) : List Int := Jv [12] nodes 0
def q9O (bus : Bool) (g : Gd) (a b d : Int) (t : List Int) : Nd :=
  let kind := if bus then g.k.tmod 13 else g.k.tmod 9
  if kind < 6 then ⟨5 + kind, if 128 ≤ g.k then ⟨[a, b, d], none, none⟩ else ⟨[a, b], none, none⟩, 0, 0⟩
  else if kind = 6 then ⟨4, ⟨[a], none, none⟩, 0, 0⟩
  else if kind = 7 then ⟨11, ⟨[a, b, d], none, none⟩, 0, 0⟩
  else if kind = 9 ∨ kind = 10 then ⟨12, ⟨[a, b], none, none⟩, 0, 0⟩
  else if 10 < kind ∧ 0 < t.length then
    let k := g.a.tmod t.length
    ⟨13, if 1 < t.length then ⟨[t.getD k.toNat 0, t.getD ((k + 1).tmod t.length).toNat 0], none, none⟩ else ⟨[t.getD k.toNat 0], none, none⟩, 0, 0⟩
  else if 240 < g.k then ⟨1 + g.a.tmod 2, ⟨[], some 0, some true⟩, 0, 0⟩
  else ⟨3, ⟨[a], none, none⟩, 0, 0⟩
def q0J (bus : Bool) (g : Gd) (nodes : List Nd) : Nd := q9O bus g (g.a.tmod nodes.length) (g.b.tmod nodes.length) (g.d.tmod nodes.length) (q4a nodes)
theorem qAu {Q : AX → St → Prop} (nodes : List Nd) (cap : Option Nat) (nl : Option Bool) (hl : nodes.length ≤ 100) (a3 a4 a8 a9 a10 : T) (r6 : List T)
    (h0 : Q (.exit 0) ⟨[(2, .t (.sl (As C4 nodes) cap nl)), (3, .t a3), (4, .t a4), (6, .lp 6 0 0), (7, .t (tI nodes.length)), (8, .t a8), (9, .t a9), (10, .t a10), (11, .ls 51 0 (q4a nodes).length none), (12, .t (tI nodes.length)), (39, .t (tB false))], [(6, .bx (r6.map AV.t)), (51, .sl 3 1 (Ao (q4a nodes)))]⟩) : ∀ (k i : Nat), k + i = nodes.length →
    run Tryz.prog Γ Ov Q ⟨[(2, .t (.sl (As C4 nodes) cap nl)), (3, .t a3), (4, .t a4), (6, .lp 6 0 0), (7, .t (tI nodes.length)), (8, .t a8), (9, .t a9), (10, .t a10), (11, .ls 51 0 (q4a (nodes.take i)).length none), (12, .t (tI i))], [(6, .bx (r6.map AV.t)), (51, .sl 3 1 (Ao (q4a (nodes.take i))))]⟩
  | 0, i, h => by
    refine Wt fun K hK => ?_
    have h2 : ¬ i < nodes.length := by omega
    have h3 : i = nodes.length := by omega
    simp [h2]
    subst h3
    simpa using h0
  | k + 1, i, h => by
    refine Wt fun K hK => ?_
    have h2 : i < nodes.length := by omega
    have ht : nodes.take (i + 1) = nodes.take i ++ [nodes[i]] := by rw [List.take_add_one]; simp [h2]
    have hlen := Xf [12] (nodes.take i) 0
    have htl : (nodes.take i).length = i := by simp; omega
    have hal : q4a (nodes.take (i + 1)) = if nodes[i].k = 12 then q4a (nodes.take i) ++ [(i : Int)] else q4a (nodes.take i) := by
      simp only [q4a]
      rw [ht, Kq, htl]
      simp only [Jv, Nat.zero_add, List.contains_cons, List.contains_nil, Bool.or_false, qBi, decide_eq_true_eq]
      split <;> simp
    have ih := qAu nodes cap nl hl a3 a4 a8 a9 a10 r6 h0 k (i + 1) (by omega)
    rw [hal] at ih
    simp only [q4a] at ih ⊢
    by_cases h5 : nodes[i].k = 12
    · rw [if_pos h5] at ih
      have hw : Ec 1 [[tI (i : Int)]] := by intro e he; simp at he; subst he; rfl
      simp (disch := omega) [h2, Af, D8 Nd.d, Bh, C4, Aw, h5, A7, A0, Aa, hw]
      rw [hK]
      simp at ih
      rw [By (f := tI) (x := (i : Int))]
      exact ⟨by omega, ih⟩
    · rw [if_neg h5] at ih
      simp (disch := omega) [h2, Af, D8 Nd.d, Bh, C4, Aw, h5, A7]
      rw [hK]
      simpa using ih
theorem Bv {a : Int} {n : Nat} (h0 : 0 ≤ a) (h1 : 0 < n) : 0 ≤ a.tmod n ∧ a.tmod n < n := by
  rw [Int.tmod_eq_emod_of_nonneg h0]
  exact ⟨Int.emod_nonneg _ (by omega), Int.emod_lt_of_pos _ (by omega)⟩
theorem Cf {ty s : Nat} {es : List (List T)} : Ou (.sl ty s es) = ∀ e ∈ es, ∀ t ∈ e, B0 t = true := rfl
set_option maxHeartbeats 4000000 in
theorem qG3 (x : CD) (g : Gd) (hg : q9N g) (nodes : List Nd) (cap : Option Nat) (nl : Option Bool) (h0 : 1 ≤ nodes.length) (h1 : nodes.length ≤ 100) :
    Ab Tryz.prog Γ 49 [.agg (I9 x), .agg (tGd g), .sl (As C4 nodes) cap nl] (.agg (C4 (q0J x.bus g nodes))) := by
  refine Ad q78 rfl ?_
  obtain ⟨⟨hk0, hk1⟩, ⟨ha0, ha1⟩, ⟨hb0, hb1⟩, ⟨hd0, hd1⟩⟩ := hg
  have hn0 : ¬ (nodes.length : Int) = 0 := by omega
  have hn1 : (nodes.length : Int) ≠ 0 := by omega
  have hne : ¬ nodes = [] := fun e => by subst e; simp at h0
  have hlp := fun Q a3 a4 a8 a9 a10 r6 h0 => qAu (Γ := Γ) (Q := Q) nodes cap nl h1 a3 a4 a8 a9 a10 r6 h0 nodes.length 0 (by omega)
  have ht := Xf [12] nodes 0
  simp only [q4a, List.take_zero, Jv, List.length_nil, Dh] at hlp
  simp (disch := omega) [q2D, I9, tGd, Af, A7, hn0]
  refine ⟨hne, hlp _ _ _ _ _ _ [_, _, _, _] ?_⟩
  clear hlp
  unfold q0J
  simp only [q4a]
  generalize Jv [12] nodes 0 = t at *
  have m13 : 0 ≤ g.k.tmod 13 ∧ g.k.tmod 13 < 13 := Bv (n := 13) hk0 (by omega)
  have m9 : 0 ≤ g.k.tmod 9 ∧ g.k.tmod 9 < 9 := Bv (n := 9) hk0 (by omega)
  have ma : 0 ≤ g.a.tmod 2 ∧ g.a.tmod 2 < 2 := Bv (n := 2) ha0 (by omega)
  generalize g.a.tmod nodes.length = a
  generalize g.b.tmod nodes.length = b
  generalize g.d.tmod nodes.length = d
  unfold q9O
  cases x.bus
  · generalize hkk : g.k.tmod 9 = kk at *
    by_cases k1 : kk < 6
    · by_cases k2 : 128 ≤ g.k
      · simp (disch := omega) [hkk, k1, k2, A7, Bt, Bj, Ba, C4, Aw, Ae, Ec, Ak, Cf]
      · simp (disch := omega) [hkk, k1, k2, A7, Bt, Bj, Ba, C4, Aw, Ae, Ec, Ak, Cf]
    by_cases k3 : kk = 6
    · simp (disch := omega) [hkk, k1, k3, A7, Bt, Bj, Ba, C4, Aw, Ae, Ec, Ak, Cf]
    by_cases k4 : kk = 7
    · simp (disch := omega) [hkk, k1, k4, A7, Bt, Bj, Ba, C4, Aw, Ae, Ec, Ak, Cf]
    have k5 : kk = 8 := by omega
    by_cases k6 : 240 < g.k
    · simp (disch := omega) [hkk, k5, k6, A7, Bt, Bj, Ba, C4, Aw, Ae, Ec, Ak, Cf]
    · simp (disch := omega) [hkk, k5, k6, A7, Bt, Bj, Ba, C4, Aw, Ae, Ec, Ak, Cf]
  · generalize hkk : g.k.tmod 13 = kk at *
    by_cases k1 : kk < 6
    · by_cases k2 : 128 ≤ g.k
      · simp (disch := omega) [hkk, k1, k2, A7, Bt, Bj, Ba, C4, Aw, Ae, Ec, Ak, Cf]
      · simp (disch := omega) [hkk, k1, k2, A7, Bt, Bj, Ba, C4, Aw, Ae, Ec, Ak, Cf]
    by_cases k3 : kk = 6
    · simp (disch := omega) [hkk, k1, k3, A7, Bt, Bj, Ba, C4, Aw, Ae, Ec, Ak, Cf]
    by_cases k4 : kk = 7
    · simp (disch := omega) [hkk, k1, k4, A7, Bt, Bj, Ba, C4, Aw, Ae, Ec, Ak, Cf]
    by_cases k8 : kk = 9
    · simp (disch := omega) [hkk, k8, A7, Bt, Bj, Ba, C4, Aw, Ae, Ec, Ak, Cf]
    by_cases k9 : kk = 10
    · simp (disch := omega) [hkk, k9, A7, Bt, Bj, Ba, C4, Aw, Ae, Ec, Ak, Cf]
    by_cases k10 : 10 < kk ∧ 0 < t.length
    · obtain ⟨k11, k10⟩ := k10
      have htn : ¬ (t.length : Int) = 0 := by omega
      have htne : ¬ t = [] := fun e => by subst e; simp at k10
      have htp : (0 : Int) < t.length := by omega
      have mt := Bv (n := t.length) ha0 k10
      generalize hq : g.a.tmod t.length = q at *
      have mt2 := Bv (a := q + 1) (n := t.length) (by omega) k10
      have hq0 : q.toNat < t.length := by omega
      generalize hq2 : (q + 1).tmod t.length = q2 at *
      have hq20 : q2.toNat < t.length := by omega
      have e1 := Bc (f := tI) 0 hq0
      have e2 := Bc (f := tI) 0 hq20
      by_cases k12 : 1 < t.length
      · have k12' : (1 : Int) < t.length := by omega
        simp (disch := omega) [hkk, k1, k3, k4, k8, k9, k11, k10, htp, htn, k12, k12', hq, hq2, e1, e2, hq0, hq20, mt.1, mt.2, mt2.1, mt2.2, htne, A0, Aa, A7, Bt, Bj, C4, Aw, Ak, Cf, Ba]
        simp [Ec, Ae]
      · have k12' : ¬ (1 : Int) < t.length := by omega
        simp (disch := omega) [hkk, k1, k3, k4, k8, k9, k11, k10, htp, htn, k12, k12', hq, hq2, e1, e2, hq0, hq20, mt.1, mt.2, mt2.1, mt2.2, htne, A0, Aa, A7, Bt, Bj, C4, Aw, Ak, Cf, Ba]
        simp [Ec, Ae]
    · by_cases k11 : 10 < kk
      · have k10' : t = [] := List.eq_nil_of_length_eq_zero (by omega)
        subst k10'
        by_cases k6 : 240 < g.k
        · simp (disch := omega) [hkk, k1, k3, k4, k8, k9, k11, k6, A7, Bt, Bj, Ba, C4, Aw, Ae, Ec, Ak, Cf]
        · simp (disch := omega) [hkk, k1, k3, k4, k8, k9, k11, k6, A7, Bt, Bj, Ba, C4, Aw, Ae, Ec, Ak, Cf]
      · have k5 : kk = 8 := by omega
        by_cases k6 : 240 < g.k
        · simp (disch := omega) [hkk, k5, k6, A7, Bt, Bj, Ba, C4, Aw, Ae, Ec, Ak, Cf]
        · simp (disch := omega) [hkk, k5, k6, A7, Bt, Bj, Ba, C4, Aw, Ae, Ec, Ak, Cf]
def q2o : T := .sl [] (some 0) (some true)
def Ue (nodes : List Nd) (names : List (List UInt8)) (m : T) (outs : List Int) : List (Nat × Bl) :=
  [(2, .bx [.t q2o, .t q2o, .t q2o, .t q2o]), (3, .bx [.ls 25 0 nodes.length none, .ls 144 0 names.length none, .t m, .ls 168 0 outs.length none]), (25, .sl 104 4 (As C4 nodes)), (144, .sl 9 1 (Ae tS names)), (168, .sl 3 1 (Ao outs))]
def H5 : Nd := ⟨0, ⟨[], some 0, some true⟩, 0, 0⟩
def q6H (l : Int) : Nd := ⟨14, ⟨[l], some 1, some false⟩, 0, 0⟩
def q5W (b : Int) : Nd := ⟨15, ⟨[], some 0, some true⟩, 0, b⟩
theorem qAv {Q : AX → St → Prop} (x : CD) (hx : T9 x.i) (R : List Nd)
    (h0 : Q (.exit 0) ⟨[(1, .t (.ip (I9 x) 0)), (2, .lp 2 0 0), (3, .lp 3 0 0), (4, .t (tI (x.i.tmod 4 + 1))), (18, .t (tB false))], Ue R [] q2o []⟩) : ∀ (k : Nat) (i : Int) (ns : List Nd), k + i = x.i.tmod 4 + 1 → ns ++ List.replicate k H5 = R → ns.length + k ≤ 100 →
    run Tryz.prog Γ V0 Q ⟨[(1, .t (.ip (I9 x) 0)), (2, .lp 2 0 0), (3, .lp 3 0 0), (4, .t (tI i))], Ue ns [] q2o []⟩
  | 0, i, ns, h, hR, hl => by
    refine q0E fun K hK => ?_
    have m4 : 0 ≤ x.i.tmod 4 ∧ x.i.tmod 4 < 4 := Bv (n := 4) hx.1 (by omega)
    have h2 : ¬ i ≤ x.i.tmod 4 := by omega
    have h3 : i = x.i.tmod 4 + 1 := by omega
    simp only [List.replicate_zero, List.append_nil] at hR
    subst hR
    simp (disch := omega) [h2, I9, Ue, A7, Bt]
    subst h3
    simpa [I9, Ue] using h0
  | k + 1, i, ns, h, hR, hl => by
    refine q0E fun K hK => ?_
    have m4 : 0 ≤ x.i.tmod 4 ∧ x.i.tmod 4 < 4 := Bv (n := 4) hx.1 (by omega)
    have h2 : i ≤ x.i.tmod 4 := by omega
    have ih := qAv x hx R h0 k (i + 1) (ns ++ [H5]) (by omega) (by rw [← hR]; simp [List.replicate_succ]) (by simp; omega)
    have q : As C4 ns ++ [[tK 0, .sl [] (some 0) (some true), tI 0, tI 0]] = As C4 (ns ++ [H5]) := Q5 (f := C4) (x := H5)
    have hw4 : Ec 4 [[tK 0, .sl [] (some 0) (some true), tI 0, tI 0]] := by intro e he; simp at he; subst he; rfl
    have ht : (As C4 ns).take ns.length = As C4 ns := List.take_of_length_le (by simp [As])
    simp (disch := omega) [h2, I9, Ue, A7, Bt, Af, hw4, Bh, ht, q]
    rw [hK]
    simp [I9, Ue] at ih
    exact ⟨by omega, ih⟩
theorem qEy {Q : AX → St → Prop} (x : CD) (hx : T9 x.f) (first : Int) (R : List Nd)
    (h0 : Q (.exit 2) ⟨[(1, .t (.ip (I9 x) 0)), (2, .lp 2 0 0), (3, .lp 3 0 0), (5, .t (tI first)), (6, .t (tI (x.f.tmod 3))), (7, .t (tI (x.f.tmod 3))), (36, .t (tB false))], Ue R [] q2o []⟩) : ∀ (k : Nat) (i : Int) (ns : List Nd), k + i = x.f.tmod 3 → ns ++ List.replicate k (q6H 0) = R → ns.length + k ≤ 100 →
    run Tryz.prog Γ V1 Q ⟨[(1, .t (.ip (I9 x) 0)), (2, .lp 2 0 0), (3, .lp 3 0 0), (5, .t (tI first)), (6, .t (tI (x.f.tmod 3))), (7, .t (tI i))], Ue ns [] q2o []⟩
  | 0, i, ns, h, hR, hl => by
    refine q0F fun K hK => ?_
    have m3 : 0 ≤ x.f.tmod 3 ∧ x.f.tmod 3 < 3 := Bv (n := 3) hx.1 (by omega)
    have h2 : ¬ i < x.f.tmod 3 := by omega
    have h3 : i = x.f.tmod 3 := by omega
    simp only [List.replicate_zero, List.append_nil] at hR
    subst hR
    simp (disch := omega) [h2, I9, Ue, A7, Bt]
    subst h3
    simpa [I9, Ue] using h0
  | k + 1, i, ns, h, hR, hl => by
    refine q0F fun K hK => ?_
    have m3 : 0 ≤ x.f.tmod 3 ∧ x.f.tmod 3 < 3 := Bv (n := 3) hx.1 (by omega)
    have h2 : i < x.f.tmod 3 := by omega
    have ih := qEy x hx first R h0 k (i + 1) (ns ++ [q6H 0]) (by omega) (by rw [← hR]; simp [List.replicate_succ]) (by simp; omega)
    have q : As C4 ns ++ [[tK 14, .sl [[tI 0]] (some 1) (some false), tI 0, tI 0]] = As C4 (ns ++ [q6H 0]) := Q5 (f := C4) (x := q6H 0)
    have hw4 : Ec 4 [[tK 14, .sl [[tI 0]] (some 1) (some false), tI 0, tI 0]] := by intro e he; simp at he; subst he; rfl
    have ht : (As C4 ns).take ns.length = As C4 ns := List.take_of_length_le (by simp [As])
    simp (disch := omega) [h2, I9, Ue, A7, Bt, Af, hw4, Bh, ht, q]
    rw [hK]
    simp [I9, Ue] at ih
    exact ⟨by omega, ih⟩
def Ly (bus : Bool) : List Gd → List Nd → List Nd
  | [], ns => ns
  | g :: l, ns => Ly bus l (ns ++ [q0J bus g ns])
theorem qIt {l : List Gd} : Ec 4 (As tGd l) := q3D fun _ => rfl
def Gd.z : Gd := ⟨0, 0, 0, 0⟩
theorem qCm {Q : AX → St → Prop} (x : CD) (hx : ∀ g ∈ x.gates.l, q9N g) (first dffs : Int) (R : List Nd)
    (h0 : Q (.exit 4) ⟨[(1, .t (.ip (I9 x) 0)), (2, .lp 2 0 0), (3, .lp 3 0 0), (5, .t (tI first)), (6, .t (tI dffs)), (8, .t (tI (min x.gates.l.length 8 : Nat))), (63, .t (tB false))], Ue R [] q2o []⟩) : ∀ (k i : Nat) (ns : List Nd), k + i = min x.gates.l.length 8 → Ly x.bus ((x.gates.l.take 8).drop i) ns = R → 1 ≤ ns.length → ns.length + k ≤ 100 →
    run Tryz.prog Γ V2 Q ⟨[(1, .t (.ip (I9 x) 0)), (2, .lp 2 0 0), (3, .lp 3 0 0), (5, .t (tI first)), (6, .t (tI dffs)), (8, .t (tI i))], Ue ns [] q2o []⟩
  | 0, i, ns, h, hR, hl1, hl => by
    refine q0G fun K hK => ?_
    rw [List.drop_of_length_le (by simp; omega)] at hR
    simp only [Ly] at hR
    subst hR
    have hi : i = min x.gates.l.length 8 := by omega
    by_cases h2 : i < x.gates.l.length
    · have h3 : ¬ (i : Int) < 8 := by omega
      have h3' : ¬ i < 8 := by omega
      simp (disch := omega) [h2, h3, h3', I9, Ue, Af]
      subst hi
      simpa [I9, Ue] using h0
    · simp (disch := omega) [h2, I9, Ue, Af]
      subst hi
      simpa [I9, Ue] using h0
  | k + 1, i, ns, h, hR, hl1, hl => by
    refine q0G fun K hK => ?_
    have h2 : i < x.gates.l.length := by omega
    have h3 : i < 8 := by omega
    have h3' : (i : Int) < 8 := by omega
    rw [List.drop_eq_getElem_cons (by simp; omega)] at hR
    simp only [Ly, List.getElem_take] at hR
    have ih := qCm x hx first dffs R h0 k (i + 1) (ns ++ [q0J x.bus x.gates.l[i] ns]) (by omega) hR (by simp) (by simp; omega)
    have hg := qG3 (Γ := Γ) x x.gates.l[i] (hx _ (List.getElem_mem h2)) ns none none hl1 (by omega)
    generalize q0J x.bus x.gates.l[i] ns = gn at *
    have q : As C4 ns ++ [C4 gn] = As C4 (ns ++ [gn]) := Q5 (f := C4) (x := gn)
    have hw4 : Ec 4 [C4 gn] := by intro e he; simp at he; subst he; rfl
    have ht : (As C4 ns).take ns.length = As C4 ns := List.take_of_length_le (by simp [As])
    have hget := D8 (f := tGd) Gd.z h2
    simp (disch := omega) [h2, h3, h3', I9, Ue, A7, Af, hget, qIt, tGd]
    refine A6 hg (by simp [Ak, I9, ht, tGd]) ?_
    simp [C4] at q hw4
    simp (disch := omega) [C4, A7, Af, hw4, Bh, ht, q]
    rw [hK]
    simp [I9, Ue] at ih
    exact ⟨rfl, by omega, ih⟩
def ddN (x : CD) (i : Nat) : Int := if i = 0 then x.d0 else x.d1
def Ia (ns : List Nd) (j : Nat) (v : Int) : List Nd := ns.set j ⟨(ns.getD j Nd.d).k, ⟨[v], some 1, some false⟩, (ns.getD j Nd.d).mem, (ns.getD j Nd.d).bit⟩
def Wu (x : CD) (first : Nat) : Nat → Nat → List Nd → List Nd
  | 0, _, ns => ns
  | k + 1, i, ns => Wu x first k (i + 1) (Ia ns (first + i) ((ddN x i).tmod ns.length))
theorem Qe {ns : List Nd} {j : Nat} {v : Int} : (Ia ns j v).length = ns.length := by simp [Ia]
theorem Qf {x : CD} {f : Nat} : ∀ {k i : Nat} {ns : List Nd}, (Wu x f k i ns).length = ns.length
  | 0, _, _ => rfl
  | k + 1, i, ns => by simp only [Wu]; rw [Qf, Qe]
theorem qKd {ns : List Nd} {j : Nat} {v : Int} (hj : j < ns.length) : (As C4 ns).set j (((As C4 ns)[j]?.getD []).take 1 ++ T.sl [[tI v]] (some 1) (some false) :: ((As C4 ns)[j]?.getD []).drop 2) = As C4 (Ia ns j v) := by
  rw [D8 (f := C4) Nd.d hj]
  unfold Ia As
  rw [List.map_set]
  rfl
theorem qEz {Q : AX → St → Prop} (x : CD) (h0' : T9 x.d0) (h1' : T9 x.d1) (first dn n : Nat) (hdn : dn ≤ 2) (hn : 1 ≤ n ∧ n ≤ 100) (hf : first + dn ≤ n) (R : List Nd)
    (h0 : Q (.exit 6) ⟨[(1, .t (.ip (I9 x) 0)), (2, .lp 2 0 0), (3, .lp 3 0 0), (5, .t (tI first)), (6, .t (tI dn)), (9, .t (tI n)), (10, .t (tI dn)), (85, .t (tB false))], Ue R [] q2o []⟩) : ∀ (k i : Nat) (ns : List Nd), k + i = dn → Wu x first k i ns = R → ns.length = n →
    run Tryz.prog Γ V3 Q ⟨[(1, .t (.ip (I9 x) 0)), (2, .lp 2 0 0), (3, .lp 3 0 0), (5, .t (tI first)), (6, .t (tI dn)), (9, .t (tI n)), (10, .t (tI i))], Ue ns [] q2o []⟩
  | 0, i, ns, h, hR, hl => by
    refine q0H fun K hK => ?_
    simp only [Wu] at hR
    subst hR
    have h2 : ¬ i < dn := by omega
    have h3 : i = dn := by omega
    simp (disch := omega) [h2, I9, Ue]
    subst h3
    simpa [I9, Ue] using h0
  | k + 1, i, ns, h, hR, hl => by
    refine q0H fun K hK => ?_
    have h2 : i < dn := by omega
    simp only [Wu] at hR
    have ih := qEz x h0' h1' first dn n hdn hn hf R h0 k (i + 1) _ (by omega) hR (by rw [Qe]; exact hl)
    have hi : i = 0 ∨ i = 1 := by omega
    have hj : first + i < ns.length := by omega
    have hn0 : ¬ (n : Int) = 0 := by omega
    have hget := D8 (f := C4) Nd.d hj
    obtain ⟨h01, h02⟩ := h0'
    obtain ⟨h11, h12⟩ := h1'
    have hs := fun v => qKd (v := v) hj
    have hn' : ¬ n = 0 := by omega
    have hfi : first + i < n := by omega
    rcases hi with rfl | rfl
    · have hdd : ddN x 0 = x.d0 := rfl
      have h2' : (0 : Int) < dn := by omega
      rw [hdd, hl] at ih
      simp only [Nat.add_zero] at hs hfi ih
      simp (disch := omega) [h2, h2', I9, Ue, A7, Af, Bh, hn0, hl, hs, hn', hfi]
      rw [hK]
      simp [I9, Ue, Qe, hl] at ih
      exact ih
    · have hdd : ddN x 1 = x.d1 := rfl
      have h2' : (1 : Int) < dn := by omega
      rw [hdd, hl] at ih
      have hfn : ((first : Int) + 1).toNat = first + 1 := by omega
      have hfi' : (first : Int) + 1 < n := by omega
      simp (disch := omega) [h2, h2', I9, Ue, A7, Af, Bh, hn0, hl, hs, hn', hfi, hfn, hfi']
      rw [hK]
      simp [I9, Ue, Qe, hl] at ih
      exact ⟨by omega, ih⟩
theorem qCn {Q : AX → St → Prop} (x : CD) (n : Nat) (hn : n ≤ 100) (ns : List Nd) (m : T) (R : List (List UInt8))
    (h0 : Q (.exit 8) ⟨[(1, .t (.ip (I9 x) 0)), (2, .lp 2 0 0), (3, .lp 3 0 0), (9, .t (tI n)), (11, .t (tI n)), (136, .t (tB false))], Ue ns R m []⟩) : ∀ (k i : Nat) (nms : List (List UInt8)), k + i = n → nms ++ (List.range' i k).map Hq = R → nms.length = i →
    run Tryz.prog Γ V5 Q ⟨[(1, .t (.ip (I9 x) 0)), (2, .lp 2 0 0), (3, .lp 3 0 0), (9, .t (tI n)), (11, .t (tI i))], Ue ns nms m []⟩
  | 0, i, nms, h, hR, hl => by
    refine q0I fun K hK => ?_
    simp only [List.range'_zero, List.map_nil, List.append_nil] at hR
    subst hR
    have h2 : ¬ i < n := by omega
    have h3 : i = n := by omega
    simp (disch := omega) [h2, I9, Ue]
    subst h3
    simpa [I9, Ue] using h0
  | k + 1, i, nms, h, hR, hl => by
    refine q0I fun K hK => ?_
    have h2 : i < n := by omega
    rw [List.range'_succ, List.map_cons] at hR
    have ih := qCn x n hn ns m R h0 k (i + 1) (nms ++ [Hq i]) (by omega) (by rw [← hR]; simp) (by simp; omega)
    have e := qG2 (Γ := Γ) i (by omega)
    have q : Ae tS nms ++ [[tS (Hq i)]] = Ae tS (nms ++ [Hq i]) := By
    have ht : (Ae tS nms).take i = Ae tS nms := List.take_of_length_le (by simp [Ae]; omega)
    generalize Hq i = nm at *
    have hw : Ec 1 [[tS nm]] := by intro e he; simp at he; subst he; rfl
    simp (disch := omega) [h2, I9, Ue, A7, hl]
    refine A6 e rfl ?_
    simp only [tS, sV] at q hw
    simp (disch := omega) [tS, sV, A7, A0, hw, Aa, ht, q, hl]
    rw [hK]
    simp [I9, Ue, hl] at ih
    exact ⟨by omega, ih⟩
theorem qF0 {Q : AX → St → Prop} (x : CD) (hx : ∀ b ∈ x.outs.l, T9 b) (n : Nat) (hn : 1 ≤ n ∧ n ≤ 100) (ns : List Nd) (nms : List (List UInt8)) (m : T) (R : List Int)
    (h0 : Q (.exit 10) ⟨[(1, .t (.ip (I9 x) 0)), (2, .lp 2 0 0), (3, .lp 3 0 0), (9, .t (tI n)), (12, .t (tI (min x.outs.l.length 3 : Nat))), (154, .t (tB false))], Ue ns nms m R⟩) : ∀ (k i : Nat) (os : List Int), k + i = min x.outs.l.length 3 → os ++ ((x.outs.l.take 3).drop i).map (fun b => b.tmod n) = R → os.length = i →
    run Tryz.prog Γ Rz Q ⟨[(1, .t (.ip (I9 x) 0)), (2, .lp 2 0 0), (3, .lp 3 0 0), (9, .t (tI n)), (12, .t (tI i))], Ue ns nms m os⟩
  | 0, i, os, h, hR, hl => by
    refine Z3 fun K hK => ?_
    rw [List.drop_of_length_le (by simp; omega)] at hR
    simp only [List.map_nil, List.append_nil] at hR
    subst hR
    have hi : i = min x.outs.l.length 3 := by omega
    by_cases h2 : i < x.outs.l.length
    · have h3 : ¬ (i : Int) < 3 := by omega
      have h3' : ¬ i < 3 := by omega
      simp (disch := omega) [h2, h3, h3', I9, Ue, A0]
      subst hi
      simpa [I9, Ue] using h0
    · simp (disch := omega) [h2, I9, Ue, A0]
      subst hi
      simpa [I9, Ue] using h0
  | k + 1, i, os, h, hR, hl => by
    refine Z3 fun K hK => ?_
    have h2 : i < x.outs.l.length := by omega
    have h3 : i < 3 := by omega
    have h3' : (i : Int) < 3 := by omega
    rw [List.drop_eq_getElem_cons (by simp; omega)] at hR
    simp only [List.map_cons, List.getElem_take] at hR
    have hb := hx _ (List.getElem_mem h2)
    obtain ⟨hb0, hb1⟩ := hb
    have hget := Bc (f := tK) 0 h2
    have hg2 : x.outs.l[i]?.getD 0 = x.outs.l[i] := by simp [h2]
    rw [hg2] at hget
    generalize x.outs.l[i] = b at *
    have hn0 : ¬ (n : Int) = 0 := by omega
    have hn0' : ¬ n = 0 := by omega
    have ih := qF0 x hx n hn ns nms m R h0 k (i + 1) (os ++ [b.tmod n]) (by omega) (by rw [← hR]; simp) (by simp; omega)
    have q : Ae tI os ++ [[tI (b.tmod n)]] = Ae tI (os ++ [b.tmod n]) := By
    have ht : (Ae tI os).take i = Ae tI os := List.take_of_length_le (by simp [Ae]; omega)
    have hw : Ec 1 [[tI (b.tmod n)]] := by intro e he; simp at he; subst he; rfl
    simp (disch := omega) [h2, h3, h3', I9, Ue, A7, A0, Aa, hget, hn0, hn0', hw, ht, q, hl]
    rw [hK]
    simp [I9, Ue, hl] at ih
    exact ⟨by omega, ih⟩
def E5 (x : CD) : List Nd := List.replicate (x.i.tmod 4 + 1).toNat H5
def Ci (x : CD) : List Nd := E5 x ++ List.replicate (x.f.tmod 3).toNat (q6H 0)
def Ce (x : CD) : List Nd := if x.mem then Ci x ++ [q5W 0, q5W 1] else Ci x
def Bm (x : CD) : List Nd := Ly x.bus (x.gates.l.take 8) (Ce x)
def C0 (x : CD) : List Nd := Wu x (E5 x).length (x.f.tmod 3).toNat 0 (Bm x)
def qAK (x : CD) (n : Int) : List Mm := if x.mem then [⟨⟨[x.p0.tmod n], some 1, some false⟩, ⟨[x.p1.tmod n, x.p2.tmod n], some 2, some false⟩, x.p3.tmod n⟩] else []
def Ld (x : CD) : B9 :=
  ⟨⟨C0 x, none, none⟩, ⟨(List.range' 0 (Bm x).length).map Hq, none, none⟩, ⟨qAK x (Bm x).length, some (if x.mem then 1 else 0), some (!x.mem)⟩, ⟨(x.outs.l.take 3).map (fun b => b.tmod (Bm x).length) ++ [((Bm x).length : Int) - 1], none, none⟩⟩
structure q2p (x : CD) : Prop where
  i : T9 x.i
  f : T9 x.f
  d0 : T9 x.d0
  d1 : T9 x.d1
  p0 : T9 x.p0
  p1 : T9 x.p1
  p2 : T9 x.p2
  p3 : T9 x.p3
  gates : ∀ g ∈ x.gates.l, q9N g
  outs : ∀ b ∈ x.outs.l, T9 b
theorem Pi {bus : Bool} : ∀ {l : List Gd} {ns : List Nd}, (Ly bus l ns).length = ns.length + l.length
  | [], ns => rfl
  | g :: l, ns => by simp only [Ly]; rw [Pi]; simp; omega
set_option maxHeartbeats 4000000 in
theorem qIu (x : CD) (hx : q2p x) : Ai Tryz.prog Γ 13 [.agg (I9 x)] (.agg (tC (Ld x))) := by
  refine Ap q9L rfl ?_
  have m4 : 0 ≤ x.i.tmod 4 ∧ x.i.tmod 4 < 4 := Bv (n := 4) hx.i.1 (by omega)
  have m3 : 0 ≤ x.f.tmod 3 ∧ x.f.tmod 3 < 3 := Bv (n := 3) hx.f.1 (by omega)
  have l1 : (E5 x).length = (x.i.tmod 4 + 1).toNat := by simp [E5]
  have l2 : (Ci x).length = (x.i.tmod 4 + 1).toNat + (x.f.tmod 3).toNat := by simp [Ci, E5]
  have l3 : (Ci x).length ≤ (Ce x).length ∧ (Ce x).length ≤ 8 := by unfold Ce; split <;> simp <;> omega
  have l4 : (Bm x).length = (Ce x).length + min 8 x.gates.l.length := by unfold Bm; rw [Pi]; simp
  have l5 : (C0 x).length = (Bm x).length := Qf
  have e1 := fun Q h0 => qAv (Γ := Γ) (Q := Q) x hx.i (E5 x) h0 (x.i.tmod 4 + 1).toNat 0 [] (by omega) rfl (by simp; omega)
  have e2 := fun Q h0 => qEy (Γ := Γ) (Q := Q) x hx.f (E5 x).length (Ci x) h0 (x.f.tmod 3).toNat 0 (E5 x) (by omega) rfl (by omega)
  have e3 := fun Q h0 => qCm (Γ := Γ) (Q := Q) x hx.gates (E5 x).length (x.f.tmod 3) (Bm x) h0 (min x.gates.l.length 8) 0 (Ce x) (by omega) rfl (by omega) (by omega)
  have e4 := fun Q h0 => qEz (Γ := Γ) (Q := Q) x hx.d0 hx.d1 (E5 x).length (x.f.tmod 3).toNat (Bm x).length (by omega) (by omega) (by omega) (C0 x) h0 (x.f.tmod 3).toNat 0 (Bm x) (by omega) rfl rfl
  have e5 := fun Q m h0 => qCn (Γ := Γ) (Q := Q) x (Bm x).length (by omega) (C0 x) m _ h0 (Bm x).length 0 [] (by omega) rfl rfl
  have e6 := fun Q nms m h0 => qF0 (Γ := Γ) (Q := Q) x hx.outs (Bm x).length (by omega) (C0 x) nms m _ h0 (min x.outs.l.length 3) 0 [] (by omega) rfl rfl
  have hc : ((x.f.tmod 3).toNat : Int) = x.f.tmod 3 := by omega
  rw [hc] at e4
  have hk1 := fun {s : Nat} {e : List (List T)} {n : Nat} (h : e.length ≤ n) => List.take_of_length_le h
  have a33 : ∀ {os : List Int}, Ae tI os ++ [[tI (((Bm x).length : Int) - 1)]] = Ae tI (os ++ [((Bm x).length : Int) - 1]) := By
  have hw1 : Ec 1 [[tI (((Bm x).length : Int) - 1)]] := by intro e he; simp at he; subst he; rfl
  have hol : ((x.outs.l.take 3).map (fun b => b.tmod ((Bm x).length : Int))).length = min 3 x.outs.l.length := by simp
  have hnl : ((List.range' 0 (Bm x).length).map Hq).length = (Bm x).length := by simp
  simp only [List.nil_append, List.drop_zero] at e5 e6
  generalize hN : Bm x = N4 at *
  generalize hO : (x.outs.l.take 3).map (fun b => b.tmod (N4.length : Int)) = O at *
  generalize hNm : (List.range' 0 N4.length).map Hq = Nm at *
  simp (config := { maxSteps := 2000000 }) [q4x, I9]
  refine e1 _ ?_
  simp (config := { maxSteps := 2000000 }) (disch := omega) [I9, Ue, A7, Bt, Af]
  refine e2 _ ?_
  cases hm : x.mem
  · have h3 : Ce x = Ci x := by simp [Ce, hm]
    rw [h3] at e3 l3 l4
    simp only [I9, Ue, hm] at e3 e4 e5 e6
    simp (config := { maxSteps := 2000000 }) (disch := omega) [I9, Ue, A7, Bt, Af, A0, q3E, Bh, Aa, hm]
    refine e3 _ ?_
    simp (config := { maxSteps := 2000000 }) (disch := omega) [I9, Ue, A7, Bt, Af, A0, q3E, Bh, Aa, hm]
    refine e4 _ ?_
    simp (config := { maxSteps := 2000000 }) (disch := omega) [I9, Ue, A7, Bt, Af, A0, q3E, Bh, Aa, hm]
    refine e5 _ _ ?_
    simp (config := { maxSteps := 2000000 }) (disch := omega) [I9, Ue, A7, Bt, Af, A0, q3E, Bh, Aa, hm]
    refine e6 _ _ _ ?_
    have ht : (Ae tI O).take O.length = Ae tI O := List.take_of_length_le (by simp [Ae])
    simp (config := { maxSteps := 2000000 }) (disch := omega) [I9, Ue, A7, Bt, Af, A0, q3E, Bh, Aa, hm, ht, hw1, a33, Hi, Ak, q2o]
    have ht2 : (Ae tI (O ++ [(N4.length : Int) - 1])).take (O.length + 1) = Ae tI (O ++ [(N4.length : Int) - 1]) := List.take_of_length_le (by simp [Ae])
    refine ⟨by omega, ?_⟩
    rw [ht2]
    simp [tC, Ld, qAK, hm, Ac, Ah, Am, Aw, hN, hO, hNm, As]
  · have h3 : Ce x = Ci x ++ [q5W 0, q5W 1] := by simp [Ce, hm]
    have l3' : (Ce x).length = (Ci x).length + 2 := by rw [h3]; simp
    have q : As C4 (Ci x) ++ [[tK 15, .sl [] (some 0) (some true), tI 0, tI 0], [tK 15, .sl [] (some 0) (some true), tI 0, tI 1]] = As C4 (Ce x) := by rw [h3]; simp [As, q5W, C4, Aw, Ae]
    have hw4 : Ec 4 [[tK 15, .sl [] (some 0) (some true), tI 0, tI 0], [tK 15, .sl [] (some 0) (some true), tI 0, tI 1]] := by intro e he; simp at he; rcases he with rfl | rfl <;> rfl
    have ht0 : (As C4 (Ci x)).take (Ci x).length = As C4 (Ci x) := List.take_of_length_le (by simp [As])
    have ht : (Ae tI O).take O.length = Ae tI O := List.take_of_length_le (by simp [Ae])
    have hn0 : ¬ (N4.length : Int) = 0 := by omega
    have hn0' : ¬ N4 = [] := fun e => by rw [e] at l4; simp at l4; omega
    obtain ⟨b00, b01⟩ := hx.p0
    obtain ⟨b10, b11⟩ := hx.p1
    obtain ⟨b20, b21⟩ := hx.p2
    obtain ⟨b30, b31⟩ := hx.p3
    simp only [I9, Ue, hm] at e3 e4 e5 e6
    simp (config := { maxSteps := 2000000 }) (disch := omega) [I9, Ue, A7, Bt, Af, A0, Bh, Aa, hm, ht, ht0, hw1, hw4, q, hn0, hn0', a33, Hi, Ak, q2o]
    refine ⟨by omega, ?_⟩
    rw [← l3']
    refine e3 _ ?_
    simp (config := { maxSteps := 2000000 }) (disch := omega) [I9, Ue, A7, Bt, Af, A0, Bh, Aa, hm, ht, ht0, hw1, hw4, q, hn0, hn0', a33, Hi, Ak, q2o]
    refine e4 _ ?_
    simp (config := { maxSteps := 2000000 }) (disch := omega) [I9, Ue, A7, Bt, Af, A0, Bh, Aa, hm, ht, ht0, hw1, hw4, q, hn0, hn0', a33, Hi, Ak, q2o]
    refine e5 _ _ ?_
    simp (config := { maxSteps := 2000000 }) (disch := omega) [I9, Ue, A7, Bt, Af, A0, Bh, Aa, hm, ht, ht0, hw1, hw4, q, hn0, hn0', a33, Hi, Ak, q2o]
    refine e6 _ _ _ ?_
    simp (config := { maxSteps := 2000000 }) (disch := omega) [I9, Ue, A7, Bt, Af, A0, Bh, Aa, hm, ht, ht0, hw1, hw4, q, hn0, hn0', a33, Hi, Ak, q2o]
    have ht2 : (Ae tI (O ++ [(N4.length : Int) - 1])).take (O.length + 1) = Ae tI (O ++ [(N4.length : Int) - 1]) := List.take_of_length_le (by simp [Ae])
    refine ⟨by omega, ?_⟩
    rw [ht2]
    simp [tC, Ld, qAK, hm, Ac, Ah, Am, Aw, hN, hO, hNm, As, tMm, Ae]
def q5X (x : Nd) : Prop := (0 ≤ x.k ∧ x.k ≤ 255) ∧ x.inn.l.length ≤ 1000000000
theorem qHI {bus : Bool} {g : Gd} {a b d : Int} {t : List Int} (hg : q9N g) : q5X (q9O bus g a b d t) := by
  have m13 : 0 ≤ g.k.tmod 13 ∧ g.k.tmod 13 < 13 := Bv (n := 13) hg.1.1 (by omega)
  have m9 : 0 ≤ g.k.tmod 9 ∧ g.k.tmod 9 < 9 := Bv (n := 9) hg.1.1 (by omega)
  have ma : 0 ≤ g.a.tmod 2 ∧ g.a.tmod 2 < 2 := Bv (n := 2) hg.2.1.1 (by omega)
  have hk : 0 ≤ (if bus then g.k.tmod 13 else g.k.tmod 9) ∧ (if bus then g.k.tmod 13 else g.k.tmod 9) < 13 := by cases bus <;> simp <;> omega
  unfold q9O
  simp only
  generalize (if bus = true then g.k.tmod 13 else g.k.tmod 9) = kk at *
  unfold q5X
  split
  · refine ⟨⟨by simp; omega, by simp; omega⟩, ?_⟩
    simp only; split <;> simp
  split
  · simp
  split
  · simp
  split
  · simp
  split
  · simp only; split <;> simp
  split
  · simp; omega
  · simp
theorem qAw {bus : Bool} : ∀ {l : List Gd} {ns : List Nd}, (∀ g ∈ l, q9N g) → (∀ x ∈ ns, q5X x) → ∀ x ∈ Ly bus l ns, q5X x
  | [], ns, _, h => h
  | g :: l, ns, hg, h => by
    simp only [Ly]
    refine qAw (fun y hy => hg y (List.mem_cons_of_mem _ hy)) fun y hy => ?_
    rcases List.mem_append.1 hy with hy | hy
    · exact h y hy
    · simp at hy; subst hy; exact qHI (hg g List.mem_cons_self)
theorem qHJ {ns : List Nd} {j : Nat} {v : Int} (h : ∀ x ∈ ns, q5X x) : ∀ x ∈ Ia ns j v, q5X x := by
  intro x hx
  unfold Ia at hx
  rcases List.mem_or_eq_of_mem_set hx with hx | rfl
  · exact h x hx
  · refine ⟨?_, by simp⟩
    simp only [List.getD_eq_getElem?_getD]
    by_cases hj : j < ns.length
    · simp only [List.getElem?_eq_getElem hj, Option.getD_some]
      exact (h _ (List.getElem_mem hj)).1
    · simp [List.getElem?_eq_none (Nat.le_of_not_lt hj), Nd.d]
theorem qCo {c : CD} {f : Nat} : ∀ {k i : Nat} {ns : List Nd}, (∀ x ∈ ns, q5X x) → ∀ x ∈ Wu c f k i ns, q5X x
  | 0, _, _, h => h
  | k + 1, i, ns, h => by simp only [Wu]; exact qCo (qHJ h)
theorem qG4 {x : CD} (hx : q2p x) : ∀ n ∈ C0 x, q5X n := by
  have h1 : ∀ n ∈ E5 x, q5X n := fun n hn => by rw [(List.mem_replicate.1 hn).2]; simp [q5X, H5]
  have h2 : ∀ n ∈ Ci x, q5X n := fun n hn => by
    rcases List.mem_append.1 hn with hn | hn
    · exact h1 n hn
    · rw [(List.mem_replicate.1 hn).2]; simp [q5X, q6H]
  have h3 : ∀ n ∈ Ce x, q5X n := by
    unfold Ce
    split
    · intro n hn
      rcases List.mem_append.1 hn with hn | hn
      · exact h2 n hn
      · simp at hn; rcases hn with rfl | rfl <;> simp [q5X, q5W]
    · exact h2
  exact qCo (qAw (fun g hg => hx.gates g (List.mem_of_mem_take hg)) h3)
theorem q1v {x : CD} (hx : q2p x) : 1 ≤ (Bm x).length ∧ (Bm x).length ≤ 16 := by
  have m4 : 0 ≤ x.i.tmod 4 ∧ x.i.tmod 4 < 4 := Bv (n := 4) hx.i.1 (by omega)
  have m3 : 0 ≤ x.f.tmod 3 ∧ x.f.tmod 3 < 3 := Bv (n := 3) hx.f.1 (by omega)
  have l2 : (Ci x).length = (x.i.tmod 4 + 1).toNat + (x.f.tmod 3).toNat := by simp [Ci, E5]
  have l3 : (Ci x).length ≤ (Ce x).length ∧ (Ce x).length ≤ 8 := by unfold Ce; split <;> simp <;> omega
  have l4 : (Bm x).length = (Ce x).length + min 8 x.gates.l.length := by unfold Bm; rw [Pi]; simp
  omega
theorem q5Y {x : CD} (hx : q2p x) : (C0 x).length = (Bm x).length := Qf
theorem qBn {x : CD} (hx : q2p x) : COk (Ld x) := by
  have l := q1v hx
  have l5 := q5Y hx
  have hn := qG4 hx
  refine ⟨⟨?_, ?_, ?_, ?_, fun n h => (hn n h).1, fun n h => (hn n h).2, ?_⟩, ?_⟩
  · simp only [Ld]; omega
  · simp [Ld]; omega
  · simp only [Ld, qAK]; split <;> simp
  · simp [Ld]; omega
  · intro m hm
    simp only [Ld, qAK] at hm
    split at hm
    · simp at hm; subst hm; simp
    · cases hm
  · intro s hs b hb
    simp only [Ld] at hs
    obtain ⟨i, hi, rfl⟩ := List.mem_map.1 hs
    have := (List.mem_range'_1.1 hi).2
    have h1 : i / 10 < 10 := by omega
    have h2 : i % 10 < 10 := by omega
    have key : ∀ q : Nat, q < 10 → UInt8.ofNat (48 + q) < 128 := by decide
    simp only [Hq, List.mem_cons, List.not_mem_nil, or_false] at hb
    rcases hb with rfl | rfl | rfl
    · decide
    · exact key _ h1
    · exact key _ h2
end Go.Lg
