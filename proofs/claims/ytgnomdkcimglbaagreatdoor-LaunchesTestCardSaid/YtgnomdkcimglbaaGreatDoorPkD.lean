/- The abstract code of some functions, as the program gen.py prints it. Conditions: none. -/
import Derived.Test.YtgnomdkcimglbaaGreatDoorPkC
import Derived.Test.YtgnomdkcimglbaaGreatDoorProg
import Derived.KernelRfl
import Derived.Lib.Bytealg
set_option linter.unusedVariables false
namespace Go.Lg
open Go
section
variable {P : Program} {Γ : Tables} {Q : AX → St → Prop} {s : St}
/- probecard/probecardlaw36.LaunchesBefore (function 4) -/
abbrev O8 : IC := .gh (.seq (.seq (.reg [om 85 13, om 86 11, od 87 (le 0 86), od 88 (.bin .lss (tm 85) (tm 87))] [kp [4, 6, 11, 12, 13, 88] []]) (.cond (tm 88) .skip (.exit 2))) (.seq (.block 3 (.seq (.reg [om 91 11, om 92 13, od 93 (ia 1 91 92), od
 94 (ld 1 93), om 95 4, om 96 12, od 97 (ia 1 95 96), od 98 (ld 1 97), om 99 4, om 100 12, od 101 (ia 1 99 100), od 102 (ld 1 101), od 103 (le 0 102), od 104 (.bin .sub (tm 103) (ki 1)), od 105 (ia 1 98 104), od 106 (ld 1 105), od
 107 (.bin .eql (tm 94) (tm 106)), om 108 107, oT 109 (.mv (tm 6)) 108, oT 110 (.mv (tm 13)) 108, oT 111 (ia 1 109 110) 108, oT 112 (ld 1 111) 108, oT 113 (.bin .neq (tm 112) (ku 2)) 108, od 114 (.pick (tm 108) (tm 113) kF)] [kp [4,
 6, 11, 12, 13, 114] []]) (.cond (tm 114) (.seq (.reg [od 2 (.mv kF)] [kp [2] []]) .ret) .skip))) (.reg [om 89 13, od 90 (.bin .add (tm 89) (ki 1)), om 13 90] [kp [4, 6, 11, 12, 13] []]))) [kp [4, 6, 11, 12, 13] []]
def Ea : IC := .loop O8
abbrev O9 : IC := .gh (.seq (.seq (.reg [om 79 12, om 80 4, od 81 (le 0 80), od 82 (.bin .lss (tm 79) (tm 81))] [kp [4, 6, 11, 12, 82] []]) (.cond (tm 82) .skip (.exit 0))) (.seq (.block 1 (.seq (.reg [od 13 (.mv (ki 0))] [kp [4, 6, 11, 12, 13] []])
 (.block 2 Ea))) (.reg [om 83 12, od 84 (.bin .add (tm 83) (ki 1)), om 12 84] [kp [4, 6, 11, 12] []]))) [kp [4, 6, 11, 12] []]
def Eb : IC := .loop O9
abbrev Oa : IC := (.seq (.reg [od 1 (.box true (tm 0)), od 2 (.mv kF)] [kp [1] []]) (.seq (.reg [od 15 (fa 0 1), od 16 (lG 14 15), od 17 (.call 22 [(tm 16)]), om 14 17, od 18 (ex 14 0), od 19 (ex 14 1), od 3 (.alloc false [(.slice none 0 0), (.slice
 none 0 0), (.slice none 0 0), (.slice none 0 0)]), on (.store 4 (tm 3) (tm 18)), om 4 19] [kp [1, 3, 4] [3]]) (.seq (.reg [od 20 (fa 14 1), od 21 (lG 2 20), od 22 (lG 4 3), od 23 (.call 14 [(tm 21), (tm 22)]), od 5 (.alloc false
 [(.slice none 0 0), (.slice none 0 0)]), on (.store 2 (tm 5) (tm 23))] [kp [3, 4, 5] [3, 5]]) (.seq (.reg [od 25 (lG 4 3), om 26 4, od 27 (fa 1 5), od 28 (ld 1 27), od 29 (.call 23 [(tm 25), (tm 26), (tm 28)]), om 24 29, od 30 (ex
 24 0), od 31 (ex 24 1), od 32 (ex 24 2), om 6 30, om 7 31, om 8 32] [kp [3, 4, 5, 6, 7, 8] [3, 5]]) (.seq (.reg [od 34 (lG 4 3), om 35 4, od 36 (fa 0 5), od 37 (ld 1 36), om 38 6, od 39 (.build [(1, (tm 37)), (1, (tm 38))]), od 40
 (fa 0 5), od 41 (ld 1 40), om 42 7, od 43 (.call 24 [(tm 34), (tm 35), (tm 39), (tm 41), (tm 42)]), om 33 43, od 44 (ex 33 0), od 45 (ex 33 1), od 9 (.alloc false [(.slice none 0 0), (.slice none 0 0), (.slice none 0 0), (.slice
 none 0 0)]), on (.store 4 (tm 9) (tm 44)), om 10 45] [kp [3, 4, 5, 6, 7, 8, 9, 10] [3, 5, 9]]) (.seq (.seq (.reg [om 46 8, od 47 (.bin .neq (tm 46) (ki 0)), om 48 47, oF 49 (.mv (tm 10)) 48, oF 50 (.bin .neq (tm 49) (ki 0)) 48, od
 51 (.pick (tm 48) kT (tm 50)), om 52 51, oF 53 (.mv (tm 6)) 52, oF 54 (le 0 53) 52, oF 55 (fa 1 5) 52, oF 56 (ld 1 55) 52, oF 57 (le 0 56) 52, oF 58 (.bin .neq (tm 54) (tm 57)) 52, od 59 (.pick (tm 52) kT (tm 58)), om 60 59, oF 61
 (.mv (tm 7)) 60, oF 62 (le 0 61) 60, oF 63 (.mv (tm 4)) 60, oF 64 (le 0 63) 60, oF 65 (.bin .neq (tm 62) (tm 64)) 60, od 66 (.pick (tm 60) kT (tm 65)), om 67 66, oF 68 (fa 2 9) 67, oF 69 (fa 1 68) 67, oF 70 (ld 1 69) 67, oF 71 (lG
 2 5) 67, oF 72 (.call 26 [(tm 71)]) 67, oF 73 (.fld 1 1 false (tm 72)) 67, oF 74 (.call 25 [(tm 70), (tm 73)]) 67, oF 75 (.un .not (tm 74)) 67, od 76 (.pick (tm 67) kT (tm 75))] [kp [3, 4, 6, 76] [3]]) (.cond (tm 76) (.seq (.reg
 [od 2 (.mv kF)] [kp [2] []]) .ret) .skip)) (.seq (.reg [od 77 (lG 4 3), od 78 (.call 27 [(tm 77)]), om 11 78] [kp [4, 6, 11] []]) (.seq (.seq (.reg [od 12 (.mv (ki 0))] [kp [4, 6, 11, 12] []]) (.block 0 Eb))
 (.seq (.reg [od 115 (.call 28 []), om 2 115] [kp [2] []]) .ret)))))))))
theorem Ja (h : ∀ K : St → Prop, K = run P Γ Ea Q → run P Γ O8 (Ar K Q) s) : run P Γ Ea Q s := Ah h
theorem Jb (h : ∀ K : St → Prop, K = run P Γ Eb Q → run P Γ O9 (Ar K Q) s) : run P Γ Eb Q s := Ah h
def Ob : List RV := [.tmp 2]
/- probecard/probecardlaw36.LaunchesTest (function 10) -/
abbrev Qw : IC := .gh (.seq (.seq (.reg [om 84 16, om 85 11, od 86 (le 0 85), od 87 (.bin .lss (tm 84) (tm 86))] [kp [1, 6, 7, 10, 11, 13, 15, 16, 87] [7]]) (.cond (tm 87) .skip (.exit 0))) (.seq (.block 1 (.seq (.reg [om 90 16, om 91 15, od 92
 (.bin .lss (tm 90) (tm 91)), om 93 92, oT 94 (.mv (tm 11)) 93, oT 95 (.mv (tm 16)) 93, oT 96 (ia 1 94 95) 93, oT 97 (ld 1 96) 93, oT 98 (.mv (tm 13)) 93, oT 99 (.mv (tm 16)) 93, oT 100 (ia 1 98 99) 93, oT 101 (ld 1 100) 93, oT 102
 (.call 25 [(tm 97), (tm 101)]) 93, oT 103 (.un .not (tm 102)) 93, od 104 (.pick (tm 93) (tm 103) kF), om 105 104, oF 106 (.mv (tm 16)) 105, oF 107 (.mv (tm 15)) 105, oF 108 (.bin .gtr (tm 106) (tm 107)) 105, oF 109 (.mv (tm 108))
 105, oT 110 (.mv (tm 11)) 109, oT 111 (.mv (tm 16)) 109, oT 112 (ia 1 110 111) 109, oT 113 (ld 1 112) 109, oT 114 (.mv (tm 13)) 109, oT 115 (.mv (tm 16)) 109, oT 116 (.bin .sub (tm 115) (ki 1)) 109, oT 117 (ia 1 114 116) 109, oT
 118 (ld 1 117) 109, oT 119 (.call 25 [(tm 113), (tm 118)]) 109, oT 120 (.un .not (tm 119)) 109, oF 121 (.pick (tm 109) (tm 120) kF) 105, od 122 (.pick (tm 105) kT (tm 121))] [kp [1, 6, 7, 10, 11, 13, 15, 16, 122] [7]]) (.cond (tm
 122) (.seq (.reg [od 4 (.mv kF)] [kp [4] []]) .ret) .skip))) (.reg [om 88 16, od 89 (.bin .add (tm 88) (ki 1)), om 16 89] [kp [1, 6, 7, 10, 11, 13, 15, 16] [7]]))) [kp [1, 6, 7, 10, 11, 13, 15, 16] [7]]
def Ff : IC := .loop Qw
abbrev Qx : IC := .gh (.seq (.seq (.reg [om 161 18, om 162 6, od 163 (le 0 162), od 164 (.bin .lss (tm 161) (tm 163))] [kp [1, 6, 10, 11, 15, 17, 18, 164] []]) (.cond (tm 164) .skip (.exit 2))) (.seq (.block 3 (.seq (.reg [om 167 1, om 168 167, oT
 169 (.mv (tm 11)) 168, oT 170 (.mv (tm 15)) 168, oT 171 (ia 1 169 170) 168, oT 172 (ld 1 171) 168, oT 173 (.mv (tm 17)) 168, oT 174 (.bin .add (tm 173) (ki 1)) 168, oT 175 (.mv (tm 18)) 168, oT 176 (.bin .add (tm 174) (tm 175))
 168, oT 177 (ia 1 172 176) 168, oT 178 (ld 1 177) 168, oT 179 (.mv (tm 10)) 168, oT 180 (.mv (tm 18)) 168, oT 181 (ia 1 179 180) 168, oT 182 (ld 1 181) 168, oT 183 (.bin .neq (tm 178) (tm 182)) 168, od 184 (.pick (tm 168) (tm 183)
 kF), om 185 184, oF 186 (.mv (tm 1)) 185, oF 187 (.un .not (tm 186)) 185, oF 188 (.mv (tm 187)) 185, oT 189 (.mv (tm 11)) 188, oT 190 (.mv (tm 15)) 188, oT 191 (ia 1 189 190) 188, oT 192 (ld 1 191) 188, oT 193 (.mv (tm 17)) 188, oT
 194 (.bin .add (tm 193) (ki 1)) 188, oT 195 (.mv (tm 18)) 188, oT 196 (.bin .add (tm 194) (tm 195)) 188, oT 197 (ia 1 192 196) 188, oT 198 (ld 1 197) 188, oT 199 (.bin .neq (tm 198) (ku 0)) 188, oF 200 (.pick (tm 188) (tm 199) kF)
 185, od 201 (.pick (tm 185) kT (tm 200))] [kp [1, 6, 10, 11, 15, 17, 18, 201] []]) (.cond (tm 201) (.seq (.reg [od 4 (.mv kF)] [kp [4] []]) .ret) .skip))) (.reg [om 165 18, od 166 (.bin .add (tm 165) (ki 1)), om 18 166] [kp [1, 6,
 10, 11, 15, 17, 18] []]))) [kp [1, 6, 10, 11, 15, 17, 18] []]
def Fg : IC := .loop Qx
abbrev J3 : IC := (.seq (.reg [od 2 (.box true (tm 0)), od 4 (.mv kF)] [kp [1, 2] []]) (.seq (.reg [od 20 (fa 0 2), od 21 (lG 14 20), od 22 (.call 22 [(tm 21)]), om 19 22, od 23 (ex 19 0), od 24 (ex 19 1), od 5 (.alloc false [(.slice none 0 0),
 (.slice none 0 0), (.slice none 0 0), (.slice none 0 0)]), on (.store 4 (tm 5) (tm 23)), om 6 24] [kp [1, 2, 5, 6] [5]]) (.seq (.reg [od 25 (fa 14 2), od 26 (lG 2 25), od 27 (lG 4 5), od 28 (.call 14 [(tm 26), (tm 27)]), od 7
 (.alloc false [(.slice none 0 0), (.slice none 0 0)]), on (.store 2 (tm 7) (tm 28))] [kp [1, 2, 5, 6, 7] [5, 7]]) (.seq (.reg [od 29 (fa 16 2), od 30 (lG 2 29), od 31 (lG 4 5), od 32 (.call 14 [(tm 30), (tm 31)]), od 33 (.fld 0 1
 false (tm 32)), om 8 33] [kp [1, 2, 5, 6, 7, 8] [5, 7]]) (.seq (.reg [od 9 (.mv (ku 0))] [kp [1, 2, 5, 6, 7, 8, 9] [5, 7]]) (.seq (.reg [od 10 (.mv kN)] [kp [1, 2, 5, 6, 7, 8, 9, 10] [5, 7]]) (.seq (.seq (.reg [om 34 1] [kp [1, 2,
 5, 6, 7, 8, 9, 10, 34] [5, 7]]) (.cond (tm 34) (.seq (.reg [od 9 (.mv (ku 1))] [kp [1, 2, 5, 6, 7, 8, 9] [5, 7]]) (.reg [od 35 (lG 20 2), om 36 6, od 37 (.call 44 [(tm 35), (tm 36)]), om 10 37] [kp [1, 5, 6, 7, 8, 9, 10] [5, 7]]))
 .skip)) (.seq (.reg [od 39 (lG 4 5), om 40 6, om 41 9, od 42 (lG 2 7), om 43 8, od 44 (.build [(1, (tm 43)), (1, kN)]), od 45 (.build [(2, (tm 42)), (2, (tm 44))]), om 46 10, od 47 (.call 45 [(tm 39), (tm 40), (tm 41), (tm 45), (tm
 46)]), om 38 47, od 48 (ex 38 0), od 49 (ex 38 1), om 11 48, om 12 49] [kp [1, 5, 6, 7, 8, 10, 11, 12] [5, 7]]) (.seq (.reg [od 51 (lG 4 5), om 52 6, om 53 8, od 54 (fa 1 7), od 55 (ld 1 54), od 56 (.build [(1, (tm 53)), (1, (tm
 55))]), od 57 (.call 42 [(tm 51), (tm 52), (tm 56)]), om 50 57, od 58 (ex 50 0), od 59 (ex 50 1), om 13 58, om 14 59] [kp [1, 6, 7, 10, 11, 12, 13, 14] [7]]) (.seq (.reg [om 60 6, od 61 (.call 39 [(tm 60)]), om 15 61] [kp [1, 6, 7,
 10, 11, 12, 13, 14, 15] [7]]) (.seq (.seq (.reg [om 62 12, od 63 (.bin .neq (tm 62) (ki 0)), om 64 63, oF 65 (.mv (tm 14)) 64, oF 66 (.bin .neq (tm 65) (ki 0)) 64, od 67 (.pick (tm 64) kT (tm 66)), om 68 67, oF 69 (.mv (tm 11)) 68,
 oF 70 (le 0 69) 68, oF 71 (.mv (tm 15)) 68, oF 72 (.bin .mul (ki 2) (tm 71)) 68, oF 73 (.bin .add (tm 72) (ki 2)) 68, oF 74 (.bin .neq (tm 70) (tm 73)) 68, od 75 (.pick (tm 68) kT (tm 74)), om 76 75, oF 77 (.mv (tm 13)) 76, oF 78
 (le 0 77) 76, oF 79 (.mv (tm 15)) 76, oF 80 (.bin .mul (ki 2) (tm 79)) 76, oF 81 (.bin .add (tm 80) (ki 1)) 76, oF 82 (.bin .neq (tm 78) (tm 81)) 76, od 83 (.pick (tm 76) kT (tm 82))] [kp [1, 6, 7, 10, 11, 13, 15, 83] [7]]) (.cond
 (tm 83) (.seq (.reg [od 4 (.mv kF)] [kp [4] []]) .ret) .skip)) (.seq (.seq (.reg [od 16 (.mv (ki 0))] [kp [1, 6, 7, 10, 11, 13, 15, 16] [7]]) (.block 0 Ff)) (.seq (.reg [od 123 (fa 0 7), od 124 (ld 1 123), od 125
 (le 0 124), om 17 125] [kp [1, 6, 7, 10, 11, 15, 17] [7]]) (.seq (.seq (.reg [om 126 11, om 127 15, od 128 (ia 1 126 127), od 129 (ld 1 128), od 130 (le 0 129), om 131 17, od 132 (.bin .add (tm 131) (ki 1)), om 133 6, od 134 (le 0
 133), od 135 (.bin .add (tm 132) (tm 134)), od 136 (.bin .neq (tm 130) (tm 135)), om 137 136, oF 138 (.mv (tm 11)) 137, oF 139 (.mv (tm 15)) 137, oF 140 (ia 1 138 139) 137, oF 141 (ld 1 140) 137, oF 142 (.mv (tm 17)) 137, oF 143
 (.slice 1 (tm 141) none (some (tm 142)) none) 137, oF 144 (fa 0 7) 137, oF 145 (ld 1 144) 137, oF 146 (.call 25 [(tm 143), (tm 145)]) 137, oF 147 (.un .not (tm 146)) 137, od 148 (.pick (tm 137) kT (tm 147)), om 149 148, oF 150 (.mv
 (tm 11)) 149, oF 151 (.mv (tm 15)) 149, oF 152 (ia 1 150 151) 149, oF 153 (ld 1 152) 149, oF 154 (.mv (tm 17)) 149, oF 155 (ia 1 153 154) 149, oF 156 (ld 1 155) 149, oF 157 (.bin .eql (tm 156) (ku 1)) 149, oF 158 (.mv (tm 1)) 149,
 oF 159 (.eqb false (tm 157) (tm 158)) 149, od 160 (.pick (tm 149) kT (tm 159))] [kp [1, 6, 10, 11, 15, 17, 160] []]) (.cond (tm 160) (.seq (.reg [od 4 (.mv kF)] [kp [4] []]) .ret) .skip)) (.seq (.seq (.reg [od 18 (.mv (ki 0))] [kp
 [1, 6, 10, 11, 15, 17, 18] []]) (.block 2 Fg)) (.seq (.reg [od 202 (.call 28 []), om 4 202] [kp [4] []]) .ret))))))))))))))))
theorem La (h : ∀ K : St → Prop, K = run P Γ Ff Q → run P Γ Qw (Ar K Q) s) : run P Γ Ff Q s := Ah h
theorem Lc (h : ∀ K : St → Prop, K = run P Γ Fg Q → run P Γ Qx (Ar K Q) s) : run P Γ Fg Q s := Ah h
def J4 : List RV := [.tmp 4]
/- probecard/probecardlaw36.LaunchesCapture (function 11) -/
end
end Go.Lg
namespace Go.Lg
open Go Go.Proofs
theorem Yx : Aw Tryz.prog 4 Oa 116 1 Ob = true := by kernel_rfl
theorem q0S : Aw Tryz.prog 10 J3 203 2 J4 = true := by kernel_rfl
end Go.Lg
namespace Go.Lg
open Go
section
variable {P : Program} {Γ : Tables} {Q : AX → St → Prop} {s : St}
/- probecard/launches.high (function 77) -/
abbrev Zk : IC := (.seq (.reg [od 2 (.mv kF)] [kp [0] []]) (.seq (.reg [om 3 0, od 4 (.bin .gtr (tm 3) (ku 3)), om 2 4] [kp [2] []]) .ret))
def Zl : List RV := [.tmp 2]
/- probecard/launches.copied (function 78) -/
abbrev W1 : IC := (.seq (.reg [od 1 (.box true (tm 0)), od 2 (.alloc false [(.slice none 0 0), (.slice none 0 0)])] [kp [1, 2] [2]]) (.seq (.reg [od 3 (fa 0 1), od 4 (.ldT 1 false (tm 3)), od 5 (.call 93 [(tm 4)]), od 6 (.call 74 [(tm 5)]), od 7 (fa
 1 1), od 8 (.ldT 1 false (tm 7)), od 9 (.call 93 [(tm 8)]), od 10 (.call 74 [(tm 9)]), od 11 (.build [(1, (tm 6)), (1, (tm 10))]), on (.stR 2 2 (tm 2) (tm 11))] [kp [2] [2]]) .ret))
def W2 : List RV := [.cell 2 2 true]
/- probecard/launches.shifted (function 79) -/
abbrev Uh : IC := .gh (.seq (.reg [od 25 (.bin .lss (tm 24) (tm 23))] [kp [1, 2, 3, 9, 10, 22, 23, 24, 25] [21]]) (.seq (.cond (tm 25) .skip (.exit 0)) (.seq (.block 1 (.seq (.reg [om 26 24, od 27 (ia 1 22 24), od 28 (ld 1 27), om 11 26, om 12 28]
 [kp [1, 2, 3, 9, 10, 11, 12, 22, 23, 24] [21]]) (.reg [om 29 10, om 30 12, om 31 11, on (.mup (.int .i64) (tm 29) (tm 30) (tm 31))] [kp [1, 2, 3, 9, 10, 22, 23, 24] [21]]))) (.reg [od 32 (.bin .add (tm 24) (ki 1)), om 24 32] [kp
 [1, 2, 3, 9, 10, 22, 23, 24] [21]])))) [kp [1, 2, 3, 9, 10, 22, 23, 24] [21]]
def Gu : IC := .loop Uh
abbrev Ui : IC := .gh (.seq (.reg [od 51 (.bin .lss (tm 50) (tm 49))] [kp [2, 3, 10, 13, 16, 36, 37, 38, 48, 49, 50, 51] [21, 35]]) (.seq (.cond (tm 51) .skip (.exit 4)) (.seq (.block 5 (.seq (.reg [od 52 (ia 1 48 50), od 53 (ld 1 52), om 18 53] [kp
 [2, 3, 10, 13, 16, 18, 36, 37, 38, 48, 49, 50] [21, 35]]) (.reg [om 54 13, om 55 10, om 56 18, od 57 (.lkup (.int .i64) (.int .i64 0) false (tm 55) (tm 56)), om 58 16, om 59 2, om 60 10, om 61 18, od 62 (.lkup (.int .i64) (.int
 .i64 0) false (tm 60) (tm 61)), od 63 (ia 1 59 62), od 64 (.ldT 1 false (tm 63)), od 65 (.call 73 [(tm 64)]), od 66 (ia 1 54 57), on (.stR 35 1 (tm 66) (tm 58)), om 16 65] [kp [2, 3, 10, 13, 16, 36, 37, 38, 48, 49, 50] [21, 35]])))
 (.reg [od 67 (.bin .add (tm 50) (ki 1)), om 50 67] [kp [2, 3, 10, 13, 16, 36, 37, 38, 48, 49, 50] [21, 35]])))) [kp [2, 3, 10, 13, 16, 36, 37, 38, 48, 49, 50] [21, 35]]
def Gv : IC := .loop Ui
abbrev Uj : IC := .gh (.seq (.reg [od 39 (.bin .lss (tm 38) (tm 37))] [kp [2, 3, 10, 13, 36, 37, 38, 39] [21, 35]]) (.seq (.cond (tm 39) .skip (.exit 2)) (.seq (.block 3 (.seq (.reg [om 40 38, od 41 (ia 1 36 38), od 42 (ld 1 41), om 14 40, om 15 42]
 [kp [2, 3, 10, 13, 14, 15, 36, 37, 38] [21, 35]]) (.seq (.reg [om 43 3, om 44 14, od 45 (ia 1 43 44), od 46 (ld 1 45), od 47 (.call 73 [(tm 46)]), om 16 47] [kp [2, 3, 10, 13, 15, 16, 36, 37, 38] [21, 35]]) (.seq (.reg [om 48 15,
 od 49 (le 0 48), od 50 (.mv (ki 0))] [kp [2, 3, 10, 13, 16, 36, 37, 38, 48, 49, 50] [21, 35]]) (.block 4 Gv))))) (.reg [od 68 (.bin .add (tm 38) (ki 1)), om 38 68] [kp [2, 3, 10, 13, 36, 37, 38] [21, 35]])))) [kp
 [2, 3, 10, 13, 36, 37, 38] [21, 35]]
def Gw : IC := .loop Uj
abbrev Uk : IC := (.seq (.reg [od 4 (.box true (tm 0)), od 8 (.mv kN)] [kp [1, 2, 3, 4] []]) (.seq (.reg [od 19 (lG 4 4), od 20 (.call 27 [(tm 19)]), om 9 20] [kp [1, 2, 3, 9] []]) (.seq (.reg [od 21 (.mkmap), om 10 21] [kp [1, 2, 3, 9, 10] [21]])
 (.seq (.seq (.reg [om 22 9, od 23 (le 0 22), od 24 (.mv (ki 0))] [kp [1, 2, 3, 9, 10, 22, 23, 24] [21]]) (.block 0 Gu)) (.seq (.reg [om 33 9, od 34 (le 0 33), od 35 (.mk 68 1 [(.int .u8 0)] (tm 34) (tm 34)), om 13
 35] [kp [1, 2, 3, 10, 13] [21, 35]]) (.seq (.seq (.reg [om 36 1, od 37 (le 0 36), od 38 (.mv (ki 0))] [kp [2, 3, 10, 13, 36, 37, 38] [21, 35]]) (.block 2 Gw)) (.seq (.reg [om 69 13, om 8 69] [kp [8] [35]])
 .ret)))))))
theorem Oc (h : ∀ K : St → Prop, K = run P Γ Gu Q → run P Γ Uh (Ar K Q) s) : run P Γ Gu Q s := Ah h
theorem Oe (h : ∀ K : St → Prop, K = run P Γ Gv Q → run P Γ Ui (Ar K Q) s) : run P Γ Gv Q s := Ah h
theorem Og (h : ∀ K : St → Prop, K = run P Γ Gw Q → run P Γ Uj (Ar K Q) s) : run P Γ Gw Q s := Ah h
def Ul : List RV := [.tmp 8]
/- probecard/launches.check (function 107) -/
abbrev Pg : IC := (.seq (.reg [od 5 (.box true (tm 0)), od 8 (.box true (tm 3)), od 10 (.mv (ki 0))] [kp [1, 2, 4, 5, 8] []]) (.seq (.seq (.reg [om 15 2, od 16 (.bin .gtr (tm 15) (ku 1))] [kp [1, 2, 4, 5, 8, 16] []]) (.cond (tm 16) (.seq (.reg [od
 10 (.mv (ki 1))] [kp [10] []]) .ret) .skip)) (.seq (.seq (.reg [od 18 (lG 4 5), om 19 1, od 20 (.call 29 [(tm 18), (tm 19)]), om 17 20, od 21 (ex 17 0), od 22 (ex 17 1), od 11 (.alloc false [(.slice none 0 0), (.slice none 0 0),
 (.slice none 0 0), (.slice none 0 0), (.slice none 0 0), (.int .i64 0), (.slice none 0 0), (.slice none 0 0)]), on (.store 8 (tm 11) (tm 21)), om 12 22] [kp [1, 2, 4, 5, 8, 12] []]) (.seq (.reg [om 23 12, od 24 (.bin .neq (tm 23)
 (ki 0))] [kp [1, 2, 4, 5, 8, 12, 24] []]) (.cond (tm 24) (.seq (.reg [om 25 12, om 10 25] [kp [10] []]) .ret) .skip))) (.seq (.reg [od 26 (lG 4 5), od 27 (.call 41 [(tm 26)]), od 28 (le 0 27), om 29 1, od 30 (le 0 29), om 13 28, om
 14 30] [kp [2, 4, 5, 8, 13, 14] []]) (.seq (.seq (.reg [om 31 2] [kp [4, 5, 8, 13, 14, 31] []]) (.block 0 (.seq (.block 2 (.seq (.block 1 (.seq (.seq (.reg [od 33 (.bin .eql (tm 31) (ku 0)), om 32 33] [kp [4, 5, 8, 13, 14, 32] []])
 (.cond (tm 32) (.exit 1) .skip)) (.exit 2))) (.reg [od 14 (.mv (ki 0))] [kp [4, 5, 8, 13, 14] []]))) (.seq (.seq (.reg [od 34 (fa 0 8), od 35 (fa 0 34), od 36 (ld 1 35), od 37 (le 0 36), om 38 13, od 39 (.bin .neq (tm 37) (tm 38)),
 om 40 39, oF 41 (fa 2 8) 40, oF 42 (fa 0 41) 40, oF 43 (ld 1 42) 40, oF 44 (le 0 43) 40, oF 45 (.mv (tm 13)) 40, oF 46 (.bin .neq (tm 44) (tm 45)) 40, od 47 (.pick (tm 40) kT (tm 46)), om 48 47, oF 49 (fa 0 8) 48, oF 50 (fa 1 49)
 48, oF 51 (ld 1 50) 48, oF 52 (le 0 51) 48, oF 53 (lG 4 5) 48, oF 54 (.call 27 [(tm 53)]) 48, oF 55 (le 0 54) 48, oF 56 (.bin .neq (tm 52) (tm 55)) 48, od 57 (.pick (tm 48) kT (tm 56)), om 58 57, oF 59 (.mv (tm 4)) 58, oF 60 (le 0
 59) 58, oF 61 (.mv (tm 14)) 58, oF 62 (.bin .neq (tm 60) (tm 61)) 58, od 63 (.pick (tm 58) kT (tm 62))] [kp [4, 8, 63] []]) (.cond (tm 63) (.seq (.reg [od 10 (.mv (ki 8))] [kp [10] []]) .ret) .skip)) (.exit 0))))) (.seq (.seq (.reg
 [od 64 (fa 0 8), od 65 (fa 0 64), od 66 (ld 1 65), od 67 (fa 0 8), od 68 (fa 1 67), od 69 (ld 1 68), od 70 (fa 2 8), od 71 (fa 0 70), od 72 (ld 1 71), om 73 4, od 74 (.bsl true 37 1 [(tm 66), (tm 69), (tm 72), (tm 73)]), od 75
 (.call 91 [(tm 74)]), od 76 (.call 76 [(tm 75), (.func 77)])] [kp [76] []]) (.cond (tm 76) (.seq (.reg [od 10 (.mv (ki 1))] [kp [10] []]) .ret) .skip)) (.seq (.reg [od 10 (.mv (ki 0))] [kp [10] []]) .ret)))))))
def Ph : List RV := [.tmp 10]
/- probecard/sims.Check (function 75) -/
abbrev q3K : IC := (.seq (.reg [od 2 (.box true (tm 0)), od 3 (.box true (tm 1)), od 4 (.mv (ki 0))] [kp [2, 3] []]) (.seq (.seq (.reg [od 6 (lG 4 2), od 7 (.call 129 [(tm 6)]), om 5 7] [kp [2, 3, 5] []]) (.seq (.reg [om 8 5, od 9 (.bin .neq (tm 8)
 (ki 0))] [kp [2, 3, 5, 9] []]) (.cond (tm 9) (.seq (.reg [om 10 5, om 4 10] [kp [4] []]) .ret) .skip))) (.seq (.reg [od 11 (lG 4 2), od 12 (lG 2 3), od 13 (.call 54 [(tm 11), (tm 12)]), om 4 13] [kp [4] []]) .ret)))
def Yy : List RV := [.tmp 4]
/- slices.Insert[[][]probecard/api.Value,[]probecard/api.Value] (function 108) -/
abbrev Jc : IC := (.seq (.reg [od 6 (.mv kN)] [kp [0, 1, 2] []]) (.seq (.reg [om 10 0, om 11 1, od 12 (.slice 1 (tm 10) (some (tm 11)) none none)] [kp [0, 1, 2] []]) (.seq (.reg [om 13 2, od 14 (le 0 13), om 7 14] [kp [0, 1, 2, 7] []]) (.seq (.seq
 (.reg [om 15 7, od 16 (.bin .eql (tm 15) (ki 0))] [kp [0, 1, 2, 7, 16] []]) (.cond (tm 16) (.seq (.reg [om 17 0, om 6 17] [kp [6] [40]]) .ret) .skip)) (.seq (.reg [om 18 0, od 19 (le 0 18), om 8 19] [kp [0, 1, 2, 7, 8] []]) (.seq
 (.seq (.reg [om 20 1, om 21 8, od 22 (.bin .eql (tm 20) (tm 21))] [kp [0, 1, 2, 7, 8, 22] []]) (.cond (tm 22) (.seq (.reg [om 23 0, om 24 2, od 25 (.appT 37 1 (tm 23) (tm 24)), om 6 25] [kp [6] [40]]) .ret) .skip)) (.seq (.seq
 (.reg [om 26 8, om 27 7, od 28 (.bin .add (tm 26) (tm 27)), om 29 0, od 30 (.cap (tm 29)), od 31 (.bin .gtr (tm 28) (tm 30))] [kp [0, 1, 2, 7, 8, 31] []]) (.cond (tm 31) (.seq (.reg [om 32 0, om 33 1, od 34 (.slice 1 (tm 32) none
 (some (tm 33)) none), om 35 8, om 36 7, od 37 (.bin .add (tm 35) (tm 36)), om 38 1, od 39 (.bin .sub (tm 37) (tm 38)), od 40 (.appZ 37 1 [(.slice none 0 0)] (tm 34) (tm 39)), om 9 40] [kp [0, 1, 2, 7, 9] [40]]) (.seq (.reg [om 41
 9, om 42 1, od 43 (.slice 1 (tm 41) (some (tm 42)) none none), om 44 2, od 45 (.cpy 1 (tm 43) (tm 44))] [kp [0, 1, 7, 9] [40]]) (.seq (.reg [om 46 9, om 47 1, om 48 7, od 49 (.bin .add (tm 47) (tm 48)), od 50 (.slice 1 (tm 46)
 (some (tm 49)) none none), om 51 0, om 52 1, od 53 (.slice 1 (tm 51) (some (tm 52)) none none), od 54 (.cpy 1 (tm 50) (tm 53))] [kp [9] [40]]) (.seq (.reg [om 55 9, om 6 55] [kp [6] [40]]) .ret)))) .skip)) (.seq (.reg [om 56 0, om
 57 8, om 58 7, od 59 (.bin .add (tm 57) (tm 58)), od 60 (.slice 1 (tm 56) none (some (tm 59)) none), om 0 60] [kp [0, 1, 2, 7, 8] []]) (.seq (.seq (.reg [om 61 2, om 62 0, om 63 1, om 64 7, od 65 (.bin .add (tm 63) (tm 64)), od 66
 (.slice 1 (tm 62) (some (tm 65)) none none), od 67 (.call 146 [(tm 61), (tm 66)]), od 68 (.un .not (tm 67))] [kp [0, 1, 2, 7, 8, 68] []]) (.cond (tm 68) (.seq (.reg [om 69 0, om 70 1, om 71 7, od 72 (.bin .add (tm 70) (tm 71)), od
 73 (.slice 1 (tm 69) (some (tm 72)) none none), om 74 0, om 75 1, od 76 (.slice 1 (tm 74) (some (tm 75)) none none), od 77 (.cpy 1 (tm 73) (tm 76))] [kp [0, 1, 2] []]) (.seq (.reg [om 78 0, om 79 1, od 80 (.slice 1 (tm 78) (some
 (tm 79)) none none), om 81 2, od 82 (.cpy 1 (tm 80) (tm 81))] [kp [0] []]) (.seq (.reg [om 83 0, om 6 83] [kp [6] [40]]) .ret))) .skip)) (.seq (.reg [om 84 0, om 85 8, od 86 (.slice 1 (tm 84) (some (tm 85)) none none), om 87 2, od
 88 (.cpy 1 (tm 86) (tm 87))] [kp [0, 1, 7] []]) (.seq (.reg [om 89 0, om 90 1, od 91 (.slice 1 (tm 89) (some (tm 90)) none none), om 92 7, od 93 (.call 147 [(tm 91), (tm 92)])] [kp [0] []]) (.seq (.reg [om 94 0, om 6 94] [kp [6]
 [40]]) .ret))))))))))))
def Jd : List RV := [.tmp 6]
/- probecard/launches.Before (function 23) -/
abbrev W3 : IC := .gh (.seq (.reg [od 33 (.bin .lss (tm 32) (tm 31))] [kp [1, 2, 7, 11, 30, 31, 32, 33] [28, 61]]) (.seq (.cond (tm 33) .skip (.exit 0)) (.seq (.block 1 (.seq (.reg [om 34 32, od 35 (ia 1 30 32), od 36 (ld 1 35), om 12 34, om 13 36]
 [kp [1, 2, 7, 11, 12, 13, 30, 31, 32] [28, 61]]) (.reg [om 37 11, om 38 13, om 39 12, on (.mup (.int .i64) (tm 37) (tm 38) (tm 39))] [kp [1, 2, 7, 11, 30, 31, 32] [28, 61]]))) (.reg [od 40 (.bin .add (tm 32) (ki 1)), om 32 40] [kp
 [1, 2, 7, 11, 30, 31, 32] [28, 61]])))) [kp [1, 2, 7, 11, 30, 31, 32] [28, 61]]
def I2 : IC := .loop W3
abbrev W4 : IC := .gh (.seq (.reg [od 65 (.bin .lss (tm 64) (tm 63))] [kp [2, 6, 7, 11, 15, 44, 45, 46, 62, 63, 64, 65] [28, 43, 61]]) (.seq (.cond (tm 65) .skip (.exit 4)) (.seq (.block 5 (.seq (.reg [om 66 64, od 67 (ia 1 62 64), od 68 (ld 1 67),
 om 16 66, om 17 68] [kp [2, 6, 7, 11, 15, 16, 17, 44, 45, 46, 62, 63, 64] [28, 43, 61]]) (.seq (.reg [om 69 6, om 70 11, om 71 17, od 72 (.lkup (.int .i64) (.int .i64 0) false (tm 70) (tm 71)), od 73 (ia 1 69 72), on (.store 1 (tm
 73) (ku 2))] [kp [2, 6, 7, 11, 15, 16, 17, 44, 45, 46, 62, 63, 64] [28, 43, 61]]) (.seq (.reg [om 74 16, od 75 (.bin .add (tm 74) (ki 1)), om 76 15, od 77 (le 0 76), od 78 (.bin .lss (tm 75) (tm 77))] [kp [2, 6, 7, 11, 15, 16, 17,
 44, 45, 46, 62, 63, 64, 78] [28, 43, 61]]) (.cond (tm 78) (.reg [om 79 6, om 80 11, om 81 17, od 82 (.lkup (.int .i64) (.int .i64 0) false (tm 80) (tm 81)), om 83 2, om 84 11, om 85 15, om 86 16, od 87 (.bin .add (tm 86) (ki 1)),
 od 88 (ia 1 85 87), od 89 (.ldT 1 false (tm 88)), od 90 (.lkup (.int .i64) (.int .i64 0) false (tm 84) (tm 89)), od 91 (ia 1 83 90), od 92 (.ldT 1 false (tm 91)), od 93 (.call 73 [(tm 92)]), od 94 (ia 1 79 82), on (.stR 43 1 (tm
 94) (tm 93))] [kp [2, 6, 7, 11, 15, 44, 45, 46, 62, 63, 64] [28, 43, 61]]) .skip))))) (.reg [od 95 (.bin .add (tm 64) (ki 1)), om 64 95] [kp [2, 6, 7, 11, 15, 44, 45, 46, 62, 63, 64] [28, 43, 61]])))) [kp [2, 6, 7, 11, 15, 44, 45,
 46, 62, 63, 64] [28, 43, 61]]
def I3 : IC := .loop W4
abbrev W5 : IC := .gh (.seq (.reg [od 47 (.bin .lss (tm 46) (tm 45))] [kp [2, 6, 7, 11, 44, 45, 46, 47] [28, 43, 61]]) (.seq (.cond (tm 47) .skip (.exit 2)) (.seq (.block 3 (.seq (.reg [od 48 (ia 1 44 46), od 49 (ld 1 48), om 15 49] [kp [2, 6, 7,
 11, 15, 44, 45, 46] [28, 43, 61]]) (.seq (.reg [om 50 7, om 51 2, om 52 11, om 53 15, od 54 (.iadr 1 (tm 53) (ki 0)), od 55 (ld 1 54), od 56 (.lkup (.int .i64) (.int .i64 0) false (tm 52) (tm 55)), od 57 (ia 1 51 56), od 58 (ld 1
 57), od 59 (.call 73 [(tm 58)]), od 60 (.bsl true 68 1 [(tm 59)]), od 61 (.app false 68 1 (tm 50) (tm 60)), om 7 61] [kp [2, 6, 7, 11, 15, 44, 45, 46] [28, 43, 61]]) (.seq (.reg [om 62 15, od 63 (le 0 62), od 64 (.mv (ki 0))] [kp
 [2, 6, 7, 11, 15, 44, 45, 46, 62, 63, 64] [28, 43, 61]]) (.block 4 I3))))) (.reg [od 96 (.bin .add (tm 46) (ki 1)), om 46 96] [kp [2, 6, 7, 11, 44, 45, 46] [28, 43, 61]])))) [kp [2, 6, 7, 11, 44, 45, 46] [28, 43,
 61]]
def I4 : IC := .loop W5
abbrev W6 : IC := (.seq (.reg [od 3 (.box true (tm 0)), od 6 (.mv kN), od 7 (.mv kN), od 8 (.mv (ki 0))] [kp [1, 2, 3, 7] [61]]) (.seq (.seq (.reg [od 19 (lG 4 3), om 20 1, om 21 2, od 22 (.call 38 [(tm 19), (tm 20), (tm 21)]), om 18 22, od 23 (ex
 18 0), od 24 (ex 18 1), om 9 23, om 10 24] [kp [1, 2, 3, 7, 10] [61]]) (.seq (.reg [om 25 10, od 26 (.bin .neq (tm 25) (ki 0))] [kp [1, 2, 3, 7, 10, 26] [61]]) (.cond (tm 26) (.seq (.reg [om 27 10, od 6 (.mv kN), od 7 (.mv kN), om
 8 27] [kp [6, 7, 8] [43, 61]]) .ret) .skip))) (.seq (.reg [od 28 (.mkmap), om 11 28] [kp [1, 2, 3, 7, 11] [28, 61]]) (.seq (.seq (.reg [od 29 (lG 4 3), od 30 (.call 27 [(tm 29)]), od 31 (le 0 30), od 32 (.mv (ki 0))] [kp [1, 2, 7,
 11, 30, 31, 32] [28, 61]]) (.block 0 I2)) (.seq (.reg [om 41 2, od 42 (le 0 41), od 43 (.mk 68 1 [(.int .u8 0)] (tm 42) (tm 42)), om 6 43] [.nl 7 61 68 1, kp [1, 2, 6, 7, 11] [28, 43, 61]]) (.seq (.seq (.reg [om 44
 1, od 45 (le 0 44), od 46 (.mv (ki 0))] [kp [2, 6, 7, 11, 44, 45, 46] [28, 43, 61]]) (.gh (.block 2 I4) [.frz 61])) (.seq (.reg [om 97 6, om 98 7, od 99 (.call 74 [(tm 98)]), om 6 97, om 7 99, od 8 (.mv (ki 0))] [kp
 [6, 7, 8] [43, 61]]) .ret)))))))
theorem Pi (h : ∀ K : St → Prop, K = run P Γ I2 Q → run P Γ W3 (Ar K Q) s) : run P Γ I2 Q s := Ah h
theorem Pj (h : ∀ K : St → Prop, K = run P Γ I3 Q → run P Γ W4 (Ar K Q) s) : run P Γ I3 Q s := Ah h
theorem Pl (h : ∀ K : St → Prop, K = run P Γ I4 Q → run P Γ W5 (Ar K Q) s) : run P Γ I4 Q s := Ah h
def W7 : List RV := [.tmp 6, .tmp 7, .tmp 8]
/- probecard/launches.Shift (function 24) -/
abbrev Xw : IC := (.seq (.reg [od 5 (.box true (tm 0)), od 7 (.box true (tm 2)), od 10 (.alloc false [(.slice none 0 0), (.slice none 0 0), (.slice none 0 0), (.slice none 0 0)]), od 11 (.mv (ki 0))] [kp [1, 3, 4, 5, 7, 10] [10]]) (.seq (.seq (.reg
 [od 16 (lG 4 5), om 17 1, od 18 (.call 29 [(tm 16), (tm 17)]), om 15 18, od 19 (ex 15 0), od 20 (ex 15 1), od 12 (.alloc false [(.slice none 0 0), (.slice none 0 0), (.slice none 0 0), (.slice none 0 0), (.slice none 0 0), (.int
 .i64 0), (.slice none 0 0), (.slice none 0 0)]), on (.store 8 (tm 12) (tm 19)), om 13 20] [kp [1, 3, 4, 5, 7, 10, 13] [10]]) (.seq (.reg [om 21 13, od 22 (.bin .neq (tm 21) (ki 0))] [kp [1, 3, 4, 5, 7, 10, 13, 22] [10]]) (.cond (tm
 22) (.seq (.reg [od 23 (.build [(2, (.const (.agg #[(.slice none 0 0), (.slice none 0 0)]))), (2, (.const (.agg #[(.slice none 0 0), (.slice none 0 0)])))]), om 24 13, on (.store 4 (tm 10) (tm 23)), om 11 24] [kp [10, 11] [10]])
 .ret) .skip))) (.seq (.seq (.reg [od 25 (lG 4 5), od 26 (lG 2 7), od 27 (.call 75 [(tm 25), (tm 26)]), om 14 27] [kp [1, 3, 4, 5, 7, 10, 14] [10]]) (.block 0 (.seq (.reg [om 29 14, od 30 (.bin .neq (tm 29) (ki 0)), om 28 30] [kp
 [1, 3, 4, 5, 7, 10, 14, 28] [10]]) (.cond (tm 28) (.seq (.reg [od 31 (.build [(2, (.const (.agg #[(.slice none 0 0), (.slice none 0 0)]))), (2, (.const (.agg #[(.slice none 0 0), (.slice none 0 0)])))]), om 32 14, on (.store 4 (tm
 10) (tm 31)), om 11 32] [kp [10, 11] [10]]) .ret) (.seq (.reg [om 34 3, od 35 (le 0 34), od 36 (fa 0 7), od 37 (ld 1 36), od 38 (le 0 37), od 39 (.bin .neq (tm 35) (tm 38)), om 40 39, oF 41 (.mv (tm 4)) 40, oF 42 (le 0 41) 40, oF
 43 (.mv (tm 1)) 40, oF 44 (le 0 43) 40, oF 45 (.bin .neq (tm 42) (tm 44)) 40, od 46 (.pick (tm 40) kT (tm 45)), om 33 46] [kp [1, 3, 4, 5, 7, 10, 33] [10]]) (.cond (tm 33) (.seq (.reg [od 47 (.build [(2, (.const (.agg #[(.slice
 none 0 0), (.slice none 0 0)]))), (2, (.const (.agg #[(.slice none 0 0), (.slice none 0 0)])))]), on (.store 4 (tm 10) (tm 47)), od 11 (.mv (ki 8))] [kp [10, 11] [10]]) .ret) (.seq (.reg [om 49 3, od 50 (.call 76 [(tm 49), (.func
 77)]), om 51 50, oF 52 (.mv (tm 4)) 51, oF 53 (.call 76 [(tm 52), (.func 77)]) 51, od 54 (.pick (tm 51) kT (tm 53)), om 48 54] [kp [1, 3, 4, 5, 7, 10, 48] [10]]) (.cond (tm 48) (.seq (.reg [od 55 (.build [(2, (.const (.agg
 #[(.slice none 0 0), (.slice none 0 0)]))), (2, (.const (.agg #[(.slice none 0 0), (.slice none 0 0)])))]), on (.store 4 (tm 10) (tm 55)), od 11 (.mv (ki 1))] [kp [10, 11] [10]]) .ret) .skip)))))))) (.seq (.reg [od 56 (.ldT 2 true
 (tm 7)), od 57 (.call 78 [(tm 56)]), om 58 3, od 59 (.ldT 4 true (tm 5)), om 60 1, od 61 (fa 1 7), od 62 (.ldT 1 false (tm 61)), om 63 4, od 64 (.call 79 [(tm 59), (tm 60), (tm 62), (tm 63)]), od 65 (.build [(1, (tm 58)), (1, (tm
 64))]), od 66 (.call 78 [(tm 65)]), od 67 (.build [(2, (tm 57)), (2, (tm 66))]), on (.stR 10 4 (tm 10) (tm 67)), od 11 (.mv (ki 0))] [kp [10, 11] [10]]) .ret))))
def Xx : List RV := [.cell 10 4 true, .tmp 11]
/- probecard/launches.Test (function 45) -/
abbrev Rt : IC := (.seq (.reg [od 5 (.box true (tm 0)), od 8 (.box true (tm 3)), od 10 (.mv kN), od 11 (.mv (ki 0))] [kp [1, 2, 4, 5, 8] []]) (.seq (.seq (.reg [od 17 (lG 4 5), om 18 1, om 19 2, od 20 (lG 4 8), om 21 4, od 22 (.call 107 [(tm 17),
 (tm 18), (tm 19), (tm 20), (tm 21)]), om 12 22] [kp [1, 2, 4, 5, 8, 12] []]) (.seq (.reg [om 23 12, od 24 (.bin .neq (tm 23) (ki 0))] [kp [1, 2, 4, 5, 8, 12, 24] []]) (.cond (tm 24) (.seq (.reg [om 25 12, od 10 (.mv kN), om 11 25]
 [kp [10, 11] []]) .ret) .skip))) (.seq (.reg [od 27 (lG 4 5), om 28 1, od 29 (fa 2 8), od 30 (fa 0 29), od 31 (ld 1 30), od 32 (fa 0 8), od 33 (fa 1 32), od 34 (ld 1 33), od 35 (.build [(1, (tm 31)), (1, (tm 34))]), od 36 (.call 42
 [(tm 27), (tm 28), (tm 35)]), om 26 36, od 37 (ex 26 0), od 38 (ex 26 1), om 13 37, om 14 38] [kp [1, 2, 4, 8, 13] []]) (.seq (.reg [om 39 1, od 40 (le 0 39), od 41 (.mk 68 1 [(.int .u8 0)] (tm 40) (tm 40)), om 15 41] [.frz 41, kp
 [1, 2, 4, 8, 13, 15] [41]]) (.seq (.reg [od 42 (fa 0 8), od 43 (fa 0 42), od 44 (ld 1 43), od 45 (.bsl true 68 1 [(ku 0)]), om 46 15, od 47 (.bsl true 37 1 [(tm 44), (tm 45), (tm 46)]), od 48 (.call 91 [(tm 47)]), om 16 48] [kp [1,
 2, 4, 8, 13, 16] []]) (.seq (.seq (.reg [om 49 2, od 50 (.bin .eql (tm 49) (ku 1))] [kp [1, 4, 8, 13, 16, 50] []]) (.cond (tm 50) (.reg [od 51 (fa 0 8), od 52 (fa 0 51), od 53 (ld 1 52), od 54 (.bsl true 68 1 [(ku 1)]), om 55 4, od
 56 (.bsl true 37 1 [(tm 53), (tm 54), (tm 55)]), od 57 (.call 91 [(tm 56)]), om 16 57] [kp [1, 13, 16] []]) .skip)) (.seq (.reg [om 58 13, om 59 1, od 60 (.call 39 [(tm 59)]), om 61 16, od 62 (.call 74 [(tm 61)]), od 63 (.bsl true
 37 1 [(tm 62)]), od 64 (.call 108 [(tm 58), (tm 60), (tm 63)]), od 65 (.call 104 [(tm 64)]), om 10 65, od 11 (.mv (ki 0))] [kp [10, 11] []]) .ret)))))))
def Ru : List RV := [.tmp 10, .tmp 11]
/- probecard/launches.Capture (function 46) -/
abbrev Um : IC := (.seq (.reg [od 3 (.box true (tm 0)), od 4 (.box true (tm 1)), od 6 (.alloc false [(.slice none 0 0), (.slice none 0 0), (.slice none 0 0), (.slice none 0 0)]), od 7 (.mv (ki 0))] [kp [2, 3, 4, 6] [6]]) (.seq (.reg [od 12 (lG 4 3),
 od 13 (lG 2 4), od 14 (.call 15 [(tm 12), (tm 13)]), om 11 14, od 15 (ex 11 0), od 16 (ex 11 1), od 17 (ex 11 2), od 8 (.alloc false [(.slice none 0 0), (.slice none 0 0)]), on (.store 2 (tm 8) (tm 15)), om 9 16, om 10 17] [kp [2,
 4, 6, 8, 10] [6, 8]]) (.seq (.block 0 (.seq (.reg [om 19 10, od 20 (.bin .neq (tm 19) (ki 0)), om 18 20] [kp [2, 4, 6, 8, 10, 18] [6, 8]]) (.cond (tm 18) (.seq (.reg [od 21 (.build [(2, (.const (.agg #[(.slice none 0 0), (.slice
 none 0 0)]))), (2, (.const (.agg #[(.slice none 0 0), (.slice none 0 0)])))]), om 22 10, on (.store 4 (tm 6) (tm 21)), om 7 22] [kp [6, 7] [6]]) .ret) (.seq (.reg [om 24 2, od 25 (le 0 24), od 26 (fa 0 4), od 27 (ld 1 26), od 28
 (le 0 27), od 29 (.bin .neq (tm 25) (tm 28)), om 23 29] [kp [2, 4, 6, 8, 23] [6, 8]]) (.cond (tm 23) (.seq (.reg [od 30 (.build [(2, (.const (.agg #[(.slice none 0 0), (.slice none 0 0)]))), (2, (.const (.agg #[(.slice none 0 0),
 (.slice none 0 0)])))]), on (.store 4 (tm 6) (tm 30)), od 7 (.mv (ki 8))] [kp [6, 7] [6]]) .ret) (.seq (.reg [om 32 2, od 33 (.call 76 [(tm 32), (.func 77)]), om 31 33] [kp [2, 4, 6, 8, 31] [6, 8]]) (.cond (tm 31) (.seq (.reg [od
 34 (.build [(2, (.const (.agg #[(.slice none 0 0), (.slice none 0 0)]))), (2, (.const (.agg #[(.slice none 0 0), (.slice none 0 0)])))]), on (.store 4 (tm 6) (tm 34)), od 7 (.mv (ki 1))] [kp [6, 7] [6]]) .ret) .skip))))))) (.seq
 (.reg [od 35 (.ldT 2 true (tm 4)), od 36 (.call 78 [(tm 35)]), om 37 2, od 38 (fa 1 8), od 39 (.ldR 8 1 false (tm 38)), od 40 (.build [(1, (tm 37)), (1, (tm 39))]), od 41 (.call 78 [(tm 40)]), od 42 (.build [(2, (tm 36)), (2, (tm
 41))]), on (.stR 6 4 (tm 6) (tm 42)), od 7 (.mv (ki 0))] [kp [6, 7] [6]]) .ret))))
def Un : List RV := [.cell 6 4 true, .tmp 7]
/- probecard/launches.Apply (function 47) -/
abbrev q3L : IC := .gh (.seq (.seq (.reg [om 11 5, om 12 0, od 13 (le 0 12), od 14 (.bin .lss (tm 11) (tm 13))] [kp [0, 1, 5, 14] []]) (.cond (tm 14) .skip (.exit 0))) (.seq (.block 1 (.seq (.reg [om 17 0, om 18 5, od 19 (ia 1 17 18), od 20 (ld 1
 19), om 21 1, om 22 5, od 23 (ia 1 21 22), od 24 (ld 1 23), od 25 (.bin .neq (tm 20) (tm 24))] [kp [0, 1, 5, 25] []]) (.cond (tm 25) (.seq (.reg [od 4 (.mv kF)] [kp [4] []]) .ret) .skip))) (.reg [om 15 5, od 16 (.bin .add (tm 15)
 (ki 1)), om 5 16] [kp [0, 1, 5] []]))) [kp [0, 1, 5] []]
def S9 : IC := .loop q3L
abbrev q3M : IC := (.seq (.reg [od 4 (.mv kF)] [kp [0, 1] []]) (.seq (.seq (.reg [om 6 0, od 7 (le 0 6), om 8 1, od 9 (le 0 8), od 10 (.bin .neq (tm 7) (tm 9))] [kp [0, 1, 10] []]) (.cond (tm 10) (.seq (.reg [od 4 (.mv kF)] [kp [4] []]) .ret) .skip))
 (.seq (.seq (.reg [od 5 (.mv (ki 0))] [kp [0, 1, 5] []]) (.block 0 S9)) (.seq (.reg [od 4 (.mv kT)] [kp [4] []]) .ret))))
theorem Xy (h : ∀ K : St → Prop, K = run P Γ S9 Q → run P Γ q3L (Ar K Q) s) : run P Γ S9 Q s := Ah h
def q3N : List RV := [.tmp 4]
/- probecard/probecardlaw36.ring (function 81) -/
abbrev q3O : IC := (.seq (.reg [od 0 (.alloc false [(.slice none 0 0), (.slice none 0 0), (.slice none 0 0), (.slice none 0 0)])] [kp [0] [0]]) (.seq (.reg [od 1 (.build [(1, (ku 0)), (1, kN), (1, (ki 0)), (1, (ki 0))]), od 2 (.bsl true 3 1 [(ki
 3)]), od 3 (.build [(1, (ku 14)), (1, (tm 2)), (1, (ki 0)), (1, (ki 0))]), od 4 (.bsl true 3 1 [(ki 1)]), od 5 (.build [(1, (ku 14)), (1, (tm 4)), (1, (ki 0)), (1, (ki 0))]), od 6 (.bsl true 3 1 [(ki 0), (ki 2)]), od 7 (.build [(1,
 (ku 5)), (1, (tm 6)), (1, (ki 0)), (1, (ki 0))]), od 8 (.bsl true 104 4 [(tm 1), (tm 3), (tm 5), (tm 7)]), od 9 (.bsl true 9 1 [(.const (sV [97])), (.const (sV [102])), (.const (sV [103])), (.const (sV [110]))]), od 10 (.bsl true 3
 1 [(ki 3)]), od 11 (.build [(1, (tm 8)), (1, (tm 9)), (1, kN), (1, (tm 10))]), on (.store 4 (tm 0) (tm 11))] [kp [0] [0]]) .ret))
def q3P : List RV := [.cell 0 4 true]
/- probecard/probecardlaw36.lives (function 28) -/
abbrev q1k : IC := (.seq (.reg [od 0 (.mv kF)] [kp [] []]) (.seq (.reg [od 10 (.bsl true 68 1 [(ku 1)]), od 11 (.bsl true 68 1 [(ku 0), (ku 1)]), od 12 (.build [(1, (tm 10)), (1, (tm 11))]), od 1 (.alloc false [(.slice none 0 0), (.slice none 0 0)]),
 on (.store 2 (tm 1) (tm 12))] [kp [1] [1]]) (.seq (.reg [od 13 (.bsl true 3 1 [(ki 1), (ki 2)]), od 14 (.bsl true 33 1 [(tm 13)]), om 2 14] [kp [1, 2] [1]]) (.seq (.reg [od 16 (.call 81 []), od 17 (.ldR 1 2 true (tm 1)), od 18
 (.bsl true 68 1 [(ku 0)]), od 19 (.call 46 [(tm 16), (tm 17), (tm 18)]), om 15 19, od 20 (ex 15 0), od 21 (ex 15 1), od 3 (.alloc false [(.slice none 0 0), (.slice none 0 0), (.slice none 0 0), (.slice none 0 0)]), on (.stR 3 4 (tm
 3) (tm 20)), om 4 21] [kp [1, 2, 3, 4] [1, 3]]) (.seq (.reg [od 23 (.call 81 []), om 24 2, od 25 (.ldR 1 2 true (tm 1)), od 26 (.bsl true 68 1 [(ku 0)]), od 27 (.bsl true 68 1 [(ku 1)]), od 28 (.call 24 [(tm 23), (tm 24), (tm 25),
 (tm 26), (tm 27)]), om 22 28, od 29 (ex 22 0), od 30 (ex 22 1), od 5 (.alloc false [(.slice none 0 0), (.slice none 0 0), (.slice none 0 0), (.slice none 0 0)]), on (.stR 5 4 (tm 5) (tm 29)), om 6 30] [kp [2, 3, 4, 5, 6] [3, 5]])
 (.seq (.reg [od 32 (.call 81 []), om 33 2, od 34 (.bsl true 68 1 [(ku 1), (ku 0)]), od 35 (.call 23 [(tm 32), (tm 33), (tm 34)]), om 31 35, od 36 (ex 31 0), od 37 (ex 31 1), od 38 (ex 31 2), om 7 36, om 8 37, om 9 38] [kp [3, 4, 5,
 6, 7, 8, 9] [3, 5]]) (.seq (.seq (.reg [om 39 4, od 40 (.bin .neq (tm 39) (ki 0)), om 41 40, oF 42 (.mv (tm 6)) 41, oF 43 (.bin .neq (tm 42) (ki 0)) 41, od 44 (.pick (tm 41) kT (tm 43)), om 45 44, oF 46 (.mv (tm 9)) 45, oF 47 (.bin
 .neq (tm 46) (ki 0)) 45, od 48 (.pick (tm 45) kT (tm 47)), om 49 48, oF 50 (fa 2 3) 49, oF 51 (fa 1 50) 49, oF 52 (ld 1 51) 49, oF 53 (le 0 52) 49, oF 54 (.bin .neq (tm 53) (ki 2)) 49, od 55 (.pick (tm 49) kT (tm 54)), om 56 55, oF
 57 (fa 2 5) 56, oF 58 (fa 1 57) 56, oF 59 (ld 1 58) 56, oF 60 (le 0 59) 56, oF 61 (.bin .neq (tm 60) (ki 2)) 56, od 62 (.pick (tm 56) kT (tm 61)), om 63 62, oF 64 (.mv (tm 7)) 63, oF 65 (le 0 64) 63, oF 66 (.bin .neq (tm 65) (ki
 2)) 63, od 67 (.pick (tm 63) kT (tm 66)), om 68 67, oF 69 (.mv (tm 8)) 68, oF 70 (le 0 69) 68, oF 71 (.bin .neq (tm 70) (ki 1)) 68, od 72 (.pick (tm 68) kT (tm 71))] [kp [3, 5, 7, 8, 72] [3, 5]]) (.cond (tm 72) (.seq (.reg [od 0
 (.mv kF)] [kp [0] []]) .ret) .skip)) (.seq (.reg [od 73 (fa 2 3), od 74 (fa 1 73), od 75 (ld 1 74), od 76 (.iadr 1 (tm 75) (ki 0)), od 77 (ld 1 76), od 78 (.bin .eql (tm 77) (ku 1)), om 79 78, oT 80 (fa 2 3) 79, oT 81 (fa 1 80) 79,
 oT 82 (ld 1 81) 79, oT 83 (.iadr 1 (tm 82) (ki 1)) 79, oT 84 (ld 1 83) 79, oT 85 (.bin .eql (tm 84) (ku 0)) 79, od 86 (.pick (tm 79) (tm 85) kF), om 87 86, oT 88 (fa 2 5) 87, oT 89 (fa 1 88) 87, oT 90 (ld 1 89) 87, oT 91 (.iadr 1
 (tm 90) (ki 0)) 87, oT 92 (ld 1 91) 87, oT 93 (.bin .eql (tm 92) (ku 1)) 87, od 94 (.pick (tm 87) (tm 93) kF), om 95 94, oT 96 (fa 2 5) 95, oT 97 (fa 1 96) 95, oT 98 (ld 1 97) 95, oT 99 (.iadr 1 (tm 98) (ki 1)) 95, oT 100 (ld 1 99)
 95, oT 101 (.bin .eql (tm 100) (ku 0)) 95, od 102 (.pick (tm 95) (tm 101) kF), om 103 102, oT 104 (.mv (tm 7)) 103, oT 105 (.iadr 1 (tm 104) (ki 0)) 103, oT 106 (ld 1 105) 103, oT 107 (.bin .eql (tm 106) (ku 0)) 103, od 108 (.pick
 (tm 103) (tm 107) kF), om 109 108, oT 110 (.mv (tm 7)) 109, oT 111 (.iadr 1 (tm 110) (ki 1)) 109, oT 112 (ld 1 111) 109, oT 113 (.bin .eql (tm 112) (ku 2)) 109, od 114 (.pick (tm 109) (tm 113) kF), om 115 114, oT 116 (.mv (tm 8))
 115, oT 117 (.iadr 1 (tm 116) (ki 0)) 115, oT 118 (ld 1 117) 115, oT 119 (.bin .eql (tm 118) (ku 1)) 115, od 120 (.pick (tm 115) (tm 119) kF), om 0 120] [kp [0] []]) .ret))))))))
def q1l : List RV := [.tmp 0]
/- (probecard/probecardlaw36.Draw).scan (function 44) -/
abbrev W8 : IC := .gh (.seq (.seq (.reg [om 8 6, om 9 1, od 10 (le 0 9), od 11 (.bin .lss (tm 8) (tm 10))] [kp [1, 2, 5, 6, 11] [31]]) (.cond (tm 11) .skip (.exit 0))) (.seq (.block 1 (.seq (.reg [od 7 (.mv (ku 0))] [kp [1, 2, 5, 6, 7] [31]]) (.seq
 (.seq (.reg [od 14 (fa 18 2), od 15 (ld 1 14), od 16 (le 0 15), od 17 (.bin .gtr (tm 16) (ki 0))] [kp [1, 2, 5, 6, 7, 17] [31]]) (.cond (tm 17) (.reg [od 18 (fa 18 2), od 19 (ld 1 18), om 20 6, od 21 (fa 18 2), od 22 (ld 1 21), od
 23 (le 0 22), od 24 (.bin .rem (tm 20) (tm 23)), od 25 (ia 1 19 24), od 26 (ld 1 25), od 27 (.bin .rem (tm 26) (ku 4)), om 7 27] [kp [1, 2, 5, 6, 7] [31]]) .skip)) (.reg [om 28 5, om 29 7, od 30 (.bsl true 68 1 [(tm 29)]), od 31
 (.app false 68 1 (tm 28) (tm 30)), om 5 31] [kp [1, 2, 5, 6] [31]])))) (.reg [om 12 6, od 13 (.bin .add (tm 12) (ki 1)), om 6 13] [kp [1, 2, 5, 6] [31]]))) [kp [1, 2, 5, 6] [31]]
def I5 : IC := .loop W8
abbrev W9 : IC := (.seq (.reg [od 2 (.box true (tm 0)), od 4 (.mv kN)] [kp [1, 2] []]) (.seq (.reg [od 5 (.mv kN)] [.nl 5 31 68 1, kp [1, 2, 5] [31]]) (.seq (.seq (.reg [od 6 (.mv (ki 0))] [kp [1, 2, 5, 6] [31]]) (.block 0 I5)) (.seq
 (.reg [om 32 5, om 4 32] [kp [4] [31]]) .ret))))
theorem Pm (h : ∀ K : St → Prop, K = run P Γ I5 Q → run P Γ W8 (Ar K Q) s) : run P Γ I5 Q s := Ah h
def Wa : List RV := [.tmp 4]
/- (probecard/probecardlaw36.Draw).from (function 48) -/
end
end Go.Lg
namespace Go.Lg
open Go Go.Proofs
theorem q4X : Aw Tryz.prog 77 Zk 5 1 Zl = true := by kernel_rfl
theorem q30 : Aw Tryz.prog 78 W1 12 1 W2 = true := by kernel_rfl
theorem q1m : Aw Tryz.prog 79 Uk 70 4 Ul = true := by kernel_rfl
theorem q3q : Aw Tryz.prog 107 Pg 77 5 Ph = true := by kernel_rfl
theorem q7M : Aw Tryz.prog 75 q3K 14 2 Yy = true := by kernel_rfl
theorem U8 : Aw Tryz.prog 108 Jc 95 3 Jd = true := by kernel_rfl
theorem q31 : Aw Tryz.prog 23 W6 100 3 W7 = true := by kernel_rfl
theorem q3r : Aw Tryz.prog 24 Xw 68 5 Xx = true := by kernel_rfl
theorem q4Y : Aw Tryz.prog 45 Rt 66 5 Ru = true := by kernel_rfl
theorem q1n : Aw Tryz.prog 46 Um 43 3 Un = true := by kernel_rfl
theorem q7N : Aw Tryz.prog 25 q3M 26 2 q3N = true := by kernel_rfl
theorem q7O : Aw Tryz.prog 81 q3O 12 0 q3P = true := by kernel_rfl
theorem q6S : Aw Tryz.prog 28 q1k 121 0 q1l = true := by kernel_rfl
theorem q32 : Aw Tryz.prog 44 W9 33 2 Wa = true := by kernel_rfl
end Go.Lg
namespace Go.Lg
open Go
section
variable {P : Program} {Γ : Tables} {Q : AX → St → Prop} {s : St}
/- probecard/shifts.Play (function 36) -/
abbrev q1o : IC := .gh (.seq (.seq (.reg [om 9 4, od 10 (fa 1 1), od 11 (ld 1 10), od 12 (le 0 11), od 13 (.bin .lss (tm 9) (tm 12))] [kp [1, 2, 3, 4, 13] [2, 3, 27]]) (.cond (tm 13) .skip (.exit 0))) (.seq (.block 1 (.seq (.reg [od 16 (fa 1 1), od
 17 (ld 1 16), om 18 4, od 19 (ia 1 17 18), od 20 (ld 1 19), om 5 20] [kp [1, 2, 3, 4, 5] [2, 3, 27]]) (.seq (.seq (.reg [om 21 5, od 22 (.bin .gtr (tm 21) (ku 1))] [kp [1, 2, 3, 4, 5, 22] [2, 3, 27]]) (.cond (tm 22) (.reg [od 5
 (.mv (ku 2))] [kp [1, 2, 3, 4, 5] [2, 3, 27]]) .skip)) (.reg [od 23 (fa 1 3), od 24 (ld 1 23), om 25 5, od 26 (.bsl true 68 1 [(tm 25)]), od 27 (.app false 68 1 (tm 24) (tm 26)), od 28 (fa 1 3), on (.store 1 (tm 28) (tm 27))] [kp
 [1, 2, 3, 4] [2, 3, 27]])))) (.reg [om 14 4, od 15 (.bin .add (tm 14) (ki 1)), om 4 15] [kp [1, 2, 3, 4] [2, 3, 27]]))) [kp [1, 2, 3, 4] [2, 3, 27]]
def Pn : IC := .loop q1o
abbrev q1p : IC := (.seq (.reg [od 1 (.box true (tm 0)), od 2 (.alloc false [(.slice none 0 0), (.slice none 0 0)])] [kp [1, 2] [2, 27]]) (.seq (.reg [od 6 (fa 0 1), od 7 (ld 1 6), od 8 (.build [(1, (tm 7)), (1, kN)]), od 3 (.alloc false [(.slice
 none 0 0), (.slice none 0 0)]), on (.store 2 (tm 3) (tm 8))] [.nlb 3 1 27 68 1, kp [1, 2, 3] [2, 3, 27]]) (.seq (.seq (.reg [od 4 (.mv (ki 0))] [kp [1, 2, 3, 4] [2, 3, 27]]) (.gh (.block 0 Pn) [.frz 27])) (.seq (.reg
 [od 29 (lG 2 3), on (.store 2 (tm 2) (tm 29))] [kp [2] [2, 27]]) .ret))))
theorem Wb (h : ∀ K : St → Prop, K = run P Γ Pn Q → run P Γ q1o (Ar K Q) s) : run P Γ Pn Q s := Ah h
def q1q : List RV := [.cell 2 2 true]
/- probecard/probecardlaw35.state (function 35) -/
end
end Go.Lg
namespace Go.Lg
open Go Go.Proofs
theorem q6T : Aw Tryz.prog 26 q1p 30 1 q1q = true := by kernel_rfl
end Go.Lg
set_option linter.unusedSimpArgs false
namespace Go.Lg
open Go
attribute [simp] Ce D1 T.one AV.one Value.oneCell' Da Et Es Aq Zh ret qDc
@[simp] theorem q9l (a b : Int) : (a == b) = decide (a = b) := rfl
@[simp] theorem qKR (a b : Int) : (a != b) = !decide (a = b) := rfl
@[simp] theorem qKS (s : List UInt8) : (ByteArray.mk s.toArray).size = s.length := by simp [ByteArray.size]
def Ad {α : Type} (f : α → T) (l : List α) : List (List T) := l.map fun n => [f n]
theorem A0 {α : Type} {f : α → T} {l : List α} : (Ad f l).length = l.length := by simp [Ad]
theorem B1 {α : Type} {f : α → T} {l : List α} {i : Nat} (d : α) (h : i < l.length) : (Ad f l)[i]?.getD [] = [f (l[i]?.getD d)] := by simp [Ad, h]
theorem A9 {α : Type} {f : α → T} {l : List α} : E1 1 (Ad f l) := by
  intro e he; obtain ⟨x, _, rfl⟩ := List.mem_map.1 he; rfl
theorem qEl {α : Type} {f : α → T} {l m : List α} : Ad f l ++ Ad f m = Ad f (l ++ m) := by simp [Ad]
theorem q8t {α : Type} {f : α → T} {l : List α} {n : Nat} : (Ad f l).drop n = Ad f (l.drop n) := by simp [Ad, List.map_drop]
theorem q5O {α : Type} {f : α → T} {l : List α} {n : Nat} : (Ad f l).take n = Ad f (l.take n) := by simp [Ad, List.map_take]
theorem F6 {α : Type} {f : α → T} {l : List α} {n : Nat} {x : α} : (Ad f l).set n [f x] = Ad f (l.set n x) := by simp [Ad, List.map_set]
theorem C9 {α : Type} {f : α → T} : Ad f [] = [] := rfl
@[simp] theorem q6r {s : Nat} : E1 s [] := fun e h => by cases h
def Az {α : Type} (f : α → List T) (l : List α) : List (List T) := l.map f
theorem Ae {α : Type} {f : α → List T} {l : List α} : (Az f l).length = l.length := by simp [Az]
theorem D3 {α : Type} {f : α → List T} {l : List α} {i : Nat} (d : α) (h : i < l.length) : (Az f l)[i]?.getD [] = f (l[i]?.getD d) := by simp [Az, h]
theorem q4Z {α : Type} {f : α → List T} {l : List α} {s : Nat} (h : ∀ x, (f x).length = s) : E1 s (Az f l) := by
  intro e he; obtain ⟨x, _, rfl⟩ := List.mem_map.1 he; exact h x
theorem q1r {α : Type} {f : α → List T} {l m : List α} : Az f l ++ Az f m = Az f (l ++ m) := by simp [Az]
@[simp] theorem B6 {α : Type} {f : α → T} {l : List α} : (Ad f l).take l.length = Ad f l := by rw [List.take_of_length_le (by simp [Ad])]
theorem Bq {α : Type} {f : α → T} {l : List α} {x : α} : Ad f l ++ [[f x]] = Ad f (l ++ [x]) := by simp [Ad]
@[simp] theorem Si {α : Type} {f : α → List T} {l : List α} : (Az f l).take l.length = Az f l := by rw [List.take_of_length_le (by simp [Az])]
theorem Rw {α : Type} {f : α → List T} {l : List α} {x : α} : Az f l ++ [f x] = Az f (l ++ [x]) := by simp [Az]
structure Sl (α : Type) where
  l : List α
  cap : Option Nat
  nl : Option Bool
abbrev tI (n : Int) : T := .v (.int .i64 n)
abbrev tK (n : Int) : T := .v (.int .u8 n)
abbrev tB (b : Bool) : T := .v (.bool b)
abbrev Ak (l : List Int) : List (List T) := Ad tI l
def As (s : Sl Int) : T := .sl (Ak s.l) s.cap s.nl
@[simp] theorem qI3 {cs : List AV} : N9 (.bx cs) = ∀ c ∈ cs, Es c := rfl
@[simp] theorem qI4 {s : ByteArray} {p : Nat} : N9 (.it s p) = True := rfl
@[simp] theorem qHA {ty s : Nat} : N9 (.sl ty s []) = True := by simp [N9]
theorem Ve {α : Type} {f : α → T} {l : List α} {ty s : Nat} (h : ∀ x, Aq (f x) = true) : N9 (.sl ty s (Ad f l)) := by
  intro e he t ht
  obtain ⟨x, _, rfl⟩ := List.mem_map.1 he
  simp only [List.mem_singleton] at ht; subst ht; exact h x
@[simp] theorem qJ6 {l : List Int} {ty s : Nat} : N9 (.sl ty s (Ad tI l)) = True := eq_true (Ve fun _ => rfl)
@[simp] theorem qJ7 {l : List Int} {ty s : Nat} : N9 (.sl ty s (Ad tK l)) = True := eq_true (Ve fun _ => rfl)
@[simp] theorem qJ8 {l : List Bool} {ty s : Nat} : N9 (.sl ty s (Ad tB l)) = True := eq_true (Ve fun _ => rfl)
section
variable {P : Program} {Γ : Tables} {hp : List (Nat × Bf)} {f : FuncId} {avs : List AV} {K : T → Prop} {ts : List T} {res : T}
theorem A8 (h : Ag P Γ f ts res) (ht : B2 (avs.map toT) = some ts) (hk : K res) : q64 P Γ hp f avs K ⟨⟩ := ⟨res, .inl ⟨ts, ht, h⟩, hk⟩
theorem A3 (h : Aa P Γ f ts res) (ht : B2 (avs.map (Aj hp 4)) = some ts) (hk : K res) : q64 P Γ hp f avs K ⟨⟩ := ⟨res, .inr ⟨ts, ht, h⟩, hk⟩
theorem Ap {ic : IC} {N n : Nat} {rvs : List RV} {args : List T} (hc : Aw P f ic N n rvs = true) (hn : args.length = n) (h : run P Γ ic (ret false rvs fun r => r = res) ⟨params 0 args, []⟩) : Ag P Γ f args res := by
  obtain ⟨r, h1, rfl⟩ := run_pure hc hn h; exact h1
theorem Ac {ic : IC} {N n : Nat} {rvs : List RV} {args : List T} (hc : Aw P f ic N n rvs = true) (hn : args.length = n) (h : run P Γ ic (ret true rvs fun r => r = res) ⟨params 0 args, []⟩) : Aa P Γ f args res := by
  obtain ⟨r, h1, rfl⟩ := q8q hc hn h; exact h1
theorem Ey {ic : IC} {N n : Nat} {rvs : List RV} {args : List AV} {r0 : AV} {hp' : List (Nat × Bf)} (hc : Aw P f ic N n rvs = true) (hn : args.length = n) (h : run P Γ ic (qDc rvs fun r h => r = r0 ∧ h = hp') ⟨q9k 0 args, hp⟩) : Ef P Γ f hp args r0 hp' := by
  obtain ⟨r, h', h1, rfl, rfl⟩ := qEi hc hn h; exact h1
end
end Go.Lg
namespace Go.Lg
open Go
section
variable {P : Program} {Γ : Tables} {Q : AX → St → Prop} {s : St}
/- probecard/netlists.Check (function 129) -/
abbrev Xz : IC := (.seq (.reg [od 1 (.box true (tm 0)), od 2 (.mv (ki 0))] [kp [1] []]) (.seq (.reg [od 6 (lG 4 1), od 7 (.call 109 [(tm 6)]), om 5 7, od 8 (ex 5 0), od 9 (ex 5 1), om 3 8, om 4 9] [kp [4] []]) (.seq (.reg [om 10 4, om 2 10] [kp [2]
 []]) .ret)))
def Y0 : List RV := [.tmp 2]
/- probecard/netlists.Of (function 80) -/
abbrev q1s : IC := .gh (.seq (.reg [od 12 (.bin .lss (tm 11) (tm 10))] [kp [1, 5, 9, 10, 11, 12] [23]]) (.seq (.cond (tm 12) .skip (.exit 0)) (.seq (.block 1 (.seq (.reg [om 13 11, od 14 (ia 4 9 11), od 15 (lG 4 14), od 7 (.alloc false [(.int .u8 0),
 (.slice none 0 0), (.int .i64 0), (.int .i64 0)]), om 6 13, on (.store 4 (tm 7) (tm 15))] [kp [1, 5, 6, 7, 9, 10, 11] [7, 23]]) (.seq (.reg [om 16 1, od 17 (fa 0 7), od 18 (ld 1 17), od 19 (.call 131 [(tm 16), (tm 18)])] [kp [1, 5,
 6, 9, 10, 11, 19] [23]]) (.cond (tm 19) (.reg [om 20 5, om 21 6, od 22 (.bsl true 3 1 [(tm 21)]), od 23 (.app false 3 1 (tm 20) (tm 22)), om 5 23] [kp [1, 5, 9, 10, 11] [23]]) .skip)))) (.reg [od 24 (.bin .add (tm 11) (ki 1)), om
 11 24] [kp [1, 5, 9, 10, 11] [23]])))) [kp [1, 5, 9, 10, 11] [23]]
def Po : IC := .loop q1s
abbrev q1t : IC := (.seq (.reg [od 2 (.box true (tm 0)), od 4 (.mv kN)] [kp [1, 2] []]) (.seq (.reg [od 5 (.mv kN)] [.nl 5 23 3 1, kp [1, 2, 5] [23]]) (.seq (.seq (.reg [od 8 (fa 0 2), od 9 (ld 1 8), od 10 (le 0 9), od 11 (.mv (ki 0))] [kp [1, 5, 9,
 10, 11] [23]]) (.block 0 Po)) (.seq (.reg [om 25 5, od 26 (.hcall 85 [(tm 25)] [23] 26000), om 4 26] [kp [4] [23]]) .ret))))
theorem Wc (h : ∀ K : St → Prop, K = run P Γ Po Q → run P Γ q1s (Ar K Q) s) : run P Γ Po Q s := Ah h
def q1u : List RV := [.tmp 4]
/- probecard/netlists.States (function 27) -/
abbrev We : IC := (.seq (.reg [od 1 (.box true (tm 0)), od 2 (.mv kN)] [kp [1] []]) (.seq (.reg [od 3 (lG 4 1), od 4 (.bsl true 102 1 [(ku 14)]), od 5 (.call 80 [(tm 3), (tm 4)]), om 2 5] [kp [2] []]) .ret))
def Wg : List RV := [.tmp 2]
/- probecard/netlists.Comb (function 56) -/
abbrev Zm : IC := (.seq (.reg [od 2 (.mv kF)] [kp [0] []]) (.seq (.reg [om 3 0, od 4 (.bin .geq (tm 3) (ku 1)), om 5 4, oT 6 (.mv (tm 0)) 5, oT 7 (.bin .leq (tm 6) (ku 13)) 5, od 8 (.pick (tm 5) (tm 7) kF), om 2 8] [kp [2] []]) .ret))
def Zn : List RV := [.tmp 2]
/- slices.Clip[[]int,int] (function 85) -/
abbrev Ns : IC := (.seq (.reg [od 2 (.mv kN)] [kp [0] [1000000]]) (.seq (.reg [om 3 0, om 4 0, od 5 (le 0 4), om 6 0, od 7 (le 0 6), od 8 (.slice 1 (tm 3) none (some (tm 5)) (some (tm 7))), om 2 8] [kp [2] [1000000]]) .ret))
def Nu : List RV := [.tmp 2]
/- slices.Clip[[][]int,[]int] (function 90) -/
abbrev Uo : IC := (.seq (.reg [od 2 (.mv kN)] [kp [0] []]) (.seq (.reg [om 3 0, om 4 0, od 5 (le 0 4), om 6 0, od 7 (le 0 6), od 8 (.slice 1 (tm 3) none (some (tm 5)) (some (tm 7))), om 2 8] [kp [2] []]) .ret))
def Up : List RV := [.tmp 2]
/- probecard/netlists.Levels (function 109) -/
def Ej : List RO := [om 45 6, om 46 8, od 47 (ia 1 45 46), od 48 (ld 1 47), od 49 (.bin .eql (tm 48) (ki 0))]
def Lt : List RO := [om 50 7, om 51 8, od 52 (.bsl true 3 1 [(tm 51)]), od 53 (.app false 3 1 (tm 50) (tm 52)), om 7 53]
def Lu : List RO := [od 54 (.bin .add (tm 31) (ki 1)), om 31 54]
abbrev Wh : IC := .gh (.seq (.reg [od 32 (.bin .lss (tm 31) (tm 30))] [kp [1, 5, 6, 7, 29, 30, 31, 32] [23, 27, 53]]) (.seq (.cond (tm 32) .skip (.exit 0)) (.seq (.block 1 (.seq (.reg [om 33 31, od 34 (ia 4 29 31), od 35 (lG 4 34), od 9 (.alloc
 false [(.int .u8 0), (.slice none 0 0), (.int .i64 0), (.int .i64 0)]), om 8 33, on (.store 4 (tm 9) (tm 35))] [kp [1, 5, 6, 7, 8, 9, 29, 30, 31] [9, 23, 27, 53]]) (.seq (.seq (.reg [od 36 (fa 0 9), od 37 (ld 1 36), od 38 (.call 56
 [(tm 37)])] [kp [1, 5, 6, 7, 8, 9, 29, 30, 31, 38] [9, 23, 27, 53]]) (.cond (tm 38) (.reg [om 39 6, om 40 8, od 41 (fa 1 9), od 42 (ld 1 41), od 43 (le 0 42), od 44 (ia 1 39 40), on (.store 1 (tm 44) (tm 43))] [kp [1, 5, 6, 7, 8,
 29, 30, 31] [23, 27, 53]]) .skip)) (.seq (.reg Ej [kp [1, 5, 6, 7, 8, 29, 30, 31, 49] [23, 27, 53]]) (.cond (tm 49) (.reg Lt [kp [1, 5, 6, 7, 29, 30, 31] [23, 27, 53]]) .skip))))) (.reg
 Lu [kp [1, 5, 6, 7, 29, 30, 31] [23, 27, 53]])))) [kp [1, 5, 6, 7, 29, 30, 31] [23, 27, 53]]
def I6 : IC := .loop Wh
abbrev Wi : IC := .gh (.seq (.reg [od 79 (.bin .lss (tm 78) (tm 77))] [kp [1, 5, 6, 7, 10, 11, 12, 76, 77, 78, 79] [23, 27, 53]]) (.seq (.cond (tm 79) .skip (.exit 4)) (.seq (.block 5 (.seq (.reg [od 80 (ia 2 76 78), od 81 (lG 2 80), od 14 (.alloc
 false [(.int .i64 0), (.int .i64 0)]), on (.store 2 (tm 14) (tm 81))] [kp [1, 5, 6, 7, 10, 11, 12, 14, 76, 77, 78] [14, 23, 27, 53]]) (.seq (.seq (.reg [od 82 (fa 0 1), od 83 (ld 1 82), od 84 (fa 0 14), od 85 (ld 1 84), od 86 (ia 4
 83 85), od 87 (fa 0 86), od 88 (ld 1 87), od 89 (.call 56 [(tm 88)]), od 90 (.un .not (tm 89))] [kp [1, 5, 6, 7, 10, 11, 12, 14, 76, 77, 78, 90] [14, 23, 27, 53]]) (.cond (tm 90) (.exit 5) .skip)) (.seq (.reg [om 91 5, od 92 (fa 0
 14), od 93 (.ldR 14 1 false (tm 92)), om 94 5, od 95 (fa 0 14), od 96 (.ldR 14 1 false (tm 95)), od 97 (ia 1 94 96), od 98 (.ldR 23 1 false (tm 97)), om 99 5, om 100 12, od 101 (ia 1 99 100), od 102 (.ldR 23 1 false (tm 101)), od
 103 (.bin .add (tm 102) (ki 1)), od 104 (.mmx true [(tm 98), (tm 103)]), od 105 (ia 1 91 93), on (.stR 23 1 (tm 105) (tm 104))] [kp [1, 5, 6, 7, 10, 11, 12, 14, 76, 77, 78] [14, 23, 27, 53]]) (.seq (.reg [om 106 6, od 107 (fa 0
 14), od 108 (ld 1 107), od 109 (ia 1 106 108), od 110 (ld 1 109), od 111 (.bin .sub (tm 110) (ki 1)), od 112 (ia 1 106 108), on (.store 1 (tm 112) (tm 111))] [kp [1, 5, 6, 7, 10, 11, 12, 14, 76, 77, 78] [14, 23, 27, 53]]) (.seq
 (.reg [om 113 6, od 114 (fa 0 14), od 115 (ld 1 114), od 116 (ia 1 113 115), od 117 (ld 1 116), od 118 (.bin .eql (tm 117) (ki 0))] [kp [1, 5, 6, 7, 10, 11, 12, 14, 76, 77, 78, 118] [14, 23, 27, 53]]) (.cond (tm 118) (.reg [om 119
 7, od 120 (fa 0 14), od 121 (ld 1 120), od 122 (.bsl true 3 1 [(tm 121)]), oz 123 (.app false 3 1 (tm 119) (tm 122)) 53, om 7 123] [kp [1, 5, 6, 7, 10, 11, 12, 76, 77, 78] [23, 27, 53]]) .skip))))))) (.reg [od 124 (.bin .add (tm
 78) (ki 1)), om 78 124] [kp [1, 5, 6, 7, 10, 11, 12, 76, 77, 78] [23, 27, 53]])))) [kp [1, 5, 6, 7, 10, 11, 12, 76, 77, 78] [23, 27, 53]]
def I7 : IC := .loop Wi
abbrev Wj : IC := .gh (.seq (.seq (.reg [om 57 11, om 58 7, od 59 (le 0 58), od 60 (.bin .lss (tm 57) (tm 59))] [kp [1, 5, 6, 7, 10, 11, 60] [23, 27, 53]]) (.cond (tm 60) .skip (.exit 2))) (.block 3 (.seq (.reg [om 61 7, om 62 11, od 63 (ia 1 61
 62), od 64 (ld 1 63), om 12 64] [kp [1, 5, 6, 7, 10, 11, 12] [23, 27, 53]]) (.seq (.reg [om 65 11, od 66 (.bin .add (tm 65) (ki 1)), om 11 66] [kp [1, 5, 6, 7, 10, 11, 12] [23, 27, 53]]) (.seq (.seq (.reg [om 67 10, om 68 12, od 69
 (ia 1 67 68), od 70 (ld 1 69), od 71 (le 0 70), od 72 (.bin .eql (tm 71) (ki 0))] [kp [1, 5, 6, 7, 10, 11, 12, 72] [23, 27, 53]]) (.cond (tm 72) (.exit 3) .skip)) (.seq (.reg [om 73 10, om 74 12, od 75 (ia 1 73 74), od 76 (ld 1
 75), od 77 (le 0 76), od 78 (.mv (ki 0))] [kp [1, 5, 6, 7, 10, 11, 12, 76, 77, 78] [23, 27, 53]]) (.block 4 I7))))))) [kp [1, 5, 6, 7, 10, 11] [23, 27, 53]]
def I8 : IC := .loop Wj
abbrev Wl : IC := (.seq (.reg [od 1 (.box true (tm 0)), od 2 (.mv kN), od 3 (.mv (ki 0))] [kp [1] []]) (.scope (.seq (.seq (.reg [od 15 (lG 4 1), od 16 (.call 148 [(tm 15)]), om 4 16] [kp [1, 4] []]) (.seq (.reg [om 17 4, od 18 (.bin .neq (tm 17)
 (ki 0))] [kp [1, 4, 18] []]) (.cond (tm 18) (.seq (.reg [om 19 4, od 2 (.mv kN), om 3 19] [kp [2, 3] [23]]) .ret) .skip))) (.seq (.reg [od 20 (fa 0 1), od 21 (ld 1 20), od 22 (le 0 21), od 23 (.mk 3 1 [(.int .i64 0)] (tm 22) (tm
 22)), om 5 23] [kp [1, 5] [23]]) (.seq (.reg [od 24 (fa 0 1), od 25 (ld 1 24), od 26 (le 0 25), od 27 (.mk 3 1 [(.int .i64 0)] (tm 26) (tm 26)), om 6 27] [kp [1, 5, 6] [23, 27]]) (.seq (.reg [od 7 (.mv kN)] [.nl 7 53 3 1, kp [1, 5,
 6, 7] [23, 27, 53]]) (.seq (.seq (.reg [od 28 (fa 0 1), od 29 (ld 1 28), od 30 (le 0 29), od 31 (.mv (ki 0))] [kp [1, 5, 6, 7, 29, 30, 31] [23, 27, 53]]) (.block 0 I6)) (.seq (.reg [od 55 (lG 4 1), od 56 (.call 149
 [(tm 55)]), om 10 56] [kp [1, 5, 6, 7, 10] [23, 27, 53]]) (.seq (.reg [od 11 (.mv (ki 0))] [kp [1, 5, 6, 7, 10, 11] [23, 27, 53]]) (.seq .skip (.seq (.block 2 I8) (.seq (.seq (.reg [om 125 11, od 126 (fa 0 1), od
 127 (ld 1 126), od 128 (le 0 127), od 129 (.bin .lss (tm 125) (tm 128))] [kp [5, 129] [23]]) (.cond (tm 129) (.seq (.reg [od 2 (.mv kN), od 3 (.mv (ki 6))] [kp [2, 3] [23]]) .ret) .skip)) (.seq (.reg [om 130 5, om 2 130, od 3 (.mv
 (ki 0))] [kp [2, 3] [23]]) .ret)))))))))))))
theorem Pq (h : ∀ K : St → Prop, K = run P Γ I6 Q → run P Γ Wh (Ar K Q) s) : run P Γ I6 Q s := Ah h
theorem Pv (h : ∀ K : St → Prop, K = run P Γ I7 Q → run P Γ Wi (Ar K Q) s) : run P Γ I7 Q s := Ah h
theorem Px (h : ∀ K : St → Prop, K = run P Γ I8 Q → run P Γ Wj (Ar K Q) s) : run P Γ I8 Q s := Ah h
attribute [simp] Ej Lt Lu
def I9 : List RV := [.tmp 2, .tmp 3]
/- slices.Contains[[]probecard/api.Kind,probecard/api.Kind] (function 131) -/
abbrev Je : IC := (.seq (.reg [od 4 (.mv kF)] [kp [0, 1] []]) (.seq (.reg [om 5 0, om 6 1, od 7 (.call 161 [(tm 5), (tm 6)]), od 8 (.bin .geq (tm 7) (ki 0)), om 4 8] [kp [4] []]) .ret))
def Jf : List RV := [.tmp 4]
/- probecard/netlists.shape (function 148) -/
abbrev Y1 : IC := .gh (.seq (.reg [od 39 (.bin .lss (tm 38) (tm 37))] [kp [1, 36, 37, 38, 39] []]) (.seq (.cond (tm 39) .skip (.exit 1)) (.seq (.block 2 (.seq (.reg [od 40 (ia 4 36 38), od 41 (lG 4 40), od 4 (.alloc false [(.int .u8 0), (.slice none
 0 0), (.int .i64 0), (.int .i64 0)]), on (.store 4 (tm 4) (tm 41))] [kp [1, 4, 36, 37, 38] [4]]) (.seq (.reg [od 42 (lG 4 1), od 43 (lG 4 4), od 44 (.call 171 [(tm 42), (tm 43)]), om 5 44] [kp [1, 5, 36, 37, 38] []]) (.seq (.reg
 [om 45 5, od 46 (.bin .neq (tm 45) (ki 0))] [kp [1, 5, 36, 37, 38, 46] []]) (.cond (tm 46) (.seq (.reg [om 47 5, om 2 47] [kp [2] []]) .ret) .skip))))) (.reg [od 48 (.bin .add (tm 38) (ki 1)), om 38 48] [kp [1, 36, 37, 38] []]))))
 [kp [1, 36, 37, 38] []]
def Jg : IC := .loop Y1
abbrev Y2 : IC := .gh (.seq (.reg [od 58 (.bin .lss (tm 57) (tm 56))] [kp [1, 55, 56, 57, 58] []]) (.seq (.cond (tm 58) .skip (.exit 3)) (.seq (.block 4 (.seq (.reg [od 59 (ia 3 55 57), od 60 (lG 3 59), od 8 (.alloc false [(.slice none 0 0), (.slice
 none 0 0), (.int .i64 0)]), on (.store 3 (tm 8) (tm 60))] [kp [1, 8, 55, 56, 57] [8]]) (.seq (.reg [od 61 (lG 4 1), od 62 (lG 3 8), od 63 (.call 173 [(tm 61), (tm 62)]), om 9 63] [kp [1, 9, 55, 56, 57] []]) (.seq (.reg [om 64 9, od
 65 (.bin .neq (tm 64) (ki 0))] [kp [1, 9, 55, 56, 57, 65] []]) (.cond (tm 65) (.seq (.reg [om 66 9, om 2 66] [kp [2] []]) .ret) .skip))))) (.reg [od 67 (.bin .add (tm 57) (ki 1)), om 57 67] [kp [1, 55, 56, 57] []])))) [kp [1, 55,
 56, 57] []]
def Jh : IC := .loop Y2
abbrev Ec : IC := (.seq (.reg [od 1 (.box true (tm 0)), od 2 (.mv (ki 0))] [kp [1] []]) (.seq (.block 0 (.seq (.reg [od 11 (fa 0 1), od 12 (ld 1 11), od 13 (le 0 12), od 14 (.bin .gtr (tm 13) (ki 16384)), om 15 14, oF 16 (fa 2 1) 15, oF 17 (ld 1 16)
 15, oF 18 (le 0 17) 15, oF 19 (.bin .gtr (tm 18) (ki 16)) 15, od 20 (.pick (tm 15) kT (tm 19)), om 21 20, oF 22 (fa 3 1) 21, oF 23 (ld 1 22) 21, oF 24 (le 0 23) 21, oF 25 (.bin .gtr (tm 24) (ki 16384)) 21, od 26 (.pick (tm 21) kT
 (tm 25)), om 10 26] [kp [1, 10] []]) (.cond (tm 10) (.seq (.reg [od 2 (.mv (ki 3))] [kp [2] []]) .ret) (.seq (.reg [od 28 (fa 1 1), od 29 (ld 1 28), od 30 (le 0 29), od 31 (fa 0 1), od 32 (ld 1 31), od 33 (le 0 32), od 34 (.bin
 .neq (tm 30) (tm 33)), om 27 34] [kp [1, 27] []]) (.cond (tm 27) (.seq (.reg [od 2 (.mv (ki 8))] [kp [2] []]) .ret) .skip))))) (.seq (.seq (.reg [od 35 (fa 0 1), od 36 (ld 1 35), od 37 (le 0 36), od 38 (.mv (ki 0))] [kp [1, 36, 37,
 38] []]) (.block 1 Jg)) (.seq (.seq (.reg [od 49 (lG 4 1), od 50 (.call 172 [(tm 49)]), om 6 50] [kp [1, 6] []]) (.seq (.reg [om 51 6, od 52 (.bin .neq (tm 51) (ki 0))] [kp [1, 6, 52] []]) (.cond (tm 52) (.seq (.reg
 [om 53 6, om 2 53] [kp [2] []]) .ret) .skip))) (.seq (.seq (.reg [od 54 (fa 2 1), od 55 (ld 1 54), od 56 (le 0 55), od 57 (.mv (ki 0))] [kp [1, 55, 56, 57] []]) (.block 3 Jh)) (.seq (.seq (.reg [od 68 (fa 3 1), od 69
 (ld 1 68), od 70 (lG 4 1), od 71 (.call 175 [(tm 70)]), od 72 (.call 174 [(tm 69), (tm 71)])] [kp [72] []]) (.cond (tm 72) (.seq (.reg [od 2 (.mv (ki 1))] [kp [2] []]) .ret) .skip)) (.seq (.reg [od 2 (.mv (ki 0))] [kp [2] []])
 .ret)))))))
theorem Qy (h : ∀ K : St → Prop, K = run P Γ Jg Q → run P Γ Y1 (Ar K Q) s) : run P Γ Jg Q s := Ah h
theorem Qz (h : ∀ K : St → Prop, K = run P Γ Jh Q → run P Γ Y2 (Ar K Q) s) : run P Γ Jh Q s := Ah h
def Cb : List RV := [.tmp 2]
/- probecard/netlists.Fanout (function 149) -/
def Du : List RO := [om 37 3, om 38 8, om 39 3, om 40 8, od 41 (ia 1 39 40), od 42 (ld 1 41), om 43 5, om 44 7, od 45 (.build [(1, (tm 43)), (1, (tm 44))]), od 46 (.bsl true 205 2 [(tm 45)]), od 47 (.app false 205 2 (tm 42) (tm 46)), od 48 (ia 1 37
 38), on (.store 1 (tm 48) (tm 47))]
def Lx : List RO := [od 49 (.bin .add (tm 28) (ki 1)), om 28 49]
abbrev Wm : IC := .gh (.seq (.reg [od 29 (.bin .lss (tm 28) (tm 27))] [.keepB [3, 4, 5, 18, 19, 20, 26, 27, 28, 29] [14] 100000 16384]) (.seq (.cond (tm 29) .skip (.exit 2)) (.seq (.block 3 (.seq (.reg [om 30 28, od 31 (ia 1 26 28), od 32 (ld 1 31),
 om 7 30, om 8 32] [.keepB [3, 4, 5, 7, 8, 18, 19, 20, 26, 27, 28] [14] 100000 16384]) (.seq (.reg [om 33 4, om 34 8, od 35 (.callv (tm 33) [(tm 34)]), od 36 (.un .not (tm 35))] [.keepB [3, 4, 5, 7, 8, 18, 19, 20, 26, 27, 28, 36]
 [14] 100000 16384]) (.cond (tm 36) (.reg Du [.renS 47 100000 8, .keepB [3, 4, 5, 18, 19, 20, 26, 27, 28] [14] 100000 16384]) .skip)))) (.reg Lx [.keepB [3, 4, 5, 18, 19, 20, 26, 27, 28] [14] 100000
 16384])))) [.keepB [3, 4, 5, 18, 19, 20, 26, 27, 28] [14] 100000 16384]
def Ia : IC := .loop Wm
abbrev Wn : IC := .gh (.seq (.reg [od 21 (.bin .lss (tm 20) (tm 19))] [.keepB [3, 4, 18, 19, 20, 21] [14] 100000 16384]) (.seq (.cond (tm 21) .skip (.exit 0)) (.seq (.block 1 (.seq (.reg [om 22 20, od 23 (ia 4 18 20), od 24 (lG 4 23), od 6 (.alloc
 false [(.int .u8 0), (.slice none 0 0), (.int .i64 0), (.int .i64 0)]), om 5 22, on (.store 4 (tm 6) (tm 24))] [.keepB [3, 4, 5, 6, 18, 19, 20] [6, 14] 100000 16384]) (.seq (.reg [od 25 (fa 1 6), od 26 (ld 1 25), od 27 (le 0 26),
 od 28 (.mv (ki 0))] [.keepB [3, 4, 5, 18, 19, 20, 26, 27, 28] [14] 100000 16384]) (.block 2 Ia)))) (.reg [od 50 (.bin .add (tm 20) (ki 1)), om 20 50] [.keepB [3, 4, 18, 19, 20] [14] 100000 16384])))) [.keepB [3, 4,
 18, 19, 20] [14] 100000 16384]
def Ib : IC := .loop Wn
abbrev Wp : IC := .gh (.seq (.reg [od 54 (.bin .lss (tm 53) (tm 52))] [kp [3, 51, 52, 53, 54] [14, 47]]) (.seq (.cond (tm 54) .skip (.exit 4)) (.seq (.block 5 (.seq (.reg [om 55 53, od 56 (ia 1 51 53), od 57 (ld 1 56), om 9 55, om 10 57] [kp [3, 9,
 10, 51, 52, 53] [14, 47]]) (.reg [om 58 3, om 59 9, om 60 10, od 61 (.call 176 [(tm 60)]), od 62 (ia 1 58 59), on (.store 1 (tm 62) (tm 61))] [kp [3, 51, 52, 53] [14, 47]]))) (.reg [od 63 (.bin .add (tm 53) (ki 1)), om 53 63] [kp
 [3, 51, 52, 53] [14, 47]])))) [kp [3, 51, 52, 53] [14, 47]]
def Ic : IC := .loop Wp
abbrev Wq : IC := (.seq (.reg [od 1 (.box true (tm 0)), od 2 (.mv kN)] [kp [1] []]) (.seq (.reg [od 11 (fa 0 1), od 12 (ld 1 11), od 13 (le 0 12), od 14 (.mkB 203 [(.slice none 0 0)] (tm 13) (tm 13)), om 3 14] [.keepB [1, 3] [14] 100000 16384])
 (.seq (.reg [od 15 (lG 4 1), od 16 (.call 175 [(tm 15)]), om 4 16] [.keepB [1, 3, 4] [14] 100000 16384]) (.seq (.seq (.reg [od 17 (fa 0 1), od 18 (ld 1 17), od 19 (le 0 18), od 20 (.mv (ki 0))] [.keepB [3, 4, 18, 19, 20] [14]
 100000 16384]) (.block 0 Ib)) (.seq (.seq (.reg [om 51 3, od 52 (le 0 51), od 53 (.mv (ki 0))] [.frzs 100000 16384, kp [3, 51, 52, 53] [14, 47]]) (.block 4 Ic)) (.seq (.reg [om 64 3, om 2 64] [kp [2]
 [14, 47]]) .ret))))))
theorem Py (h : ∀ K : St → Prop, K = run P Γ Ia Q → run P Γ Wm (Ar K Q) s) : run P Γ Ia Q s := Ah h
theorem Pz (h : ∀ K : St → Prop, K = run P Γ Ib Q → run P Γ Wn (Ar K Q) s) : run P Γ Ib Q s := Ah h
theorem Q0 (h : ∀ K : St → Prop, K = run P Γ Ic Q → run P Γ Wp (Ar K Q) s) : run P Γ Ic Q s := Ah h
attribute [simp] Du Lx
def Ws : List RV := [.tmp 2]
/- slices.Index[[]probecard/api.Kind,probecard/api.Kind] (function 161) -/
abbrev M9 : IC := .gh (.seq (.reg [od 9 (.bin .lss (tm 8) (tm 7))] [kp [0, 1, 7, 8, 9] []]) (.seq (.cond (tm 9) .skip (.exit 0)) (.seq (.block 1 (.seq (.reg [om 10 8, om 5 10] [kp [0, 1, 5, 7, 8] []]) (.seq (.reg [om 11 1, om 12 0, om 13 5, od 14
 (ia 1 12 13), od 15 (ld 1 14), od 16 (.bin .eql (tm 11) (tm 15))] [kp [0, 1, 5, 7, 8, 16] []]) (.cond (tm 16) (.seq (.reg [om 17 5, om 4 17] [kp [4] []]) .ret) .skip)))) (.reg [od 18 (.bin .add (tm 8) (ki 1)), om 8 18] [kp [0, 1,
 7, 8] []])))) [kp [0, 1, 7, 8] []]
def E3 : IC := .loop M9
def Gi : List RO := [od 4 (.mv (.const (.int .i64 (-1))))]
abbrev Mc : IC := (.seq (.reg [od 4 (.mv (ki 0))] [kp [0, 1] []]) (.seq (.seq (.reg [om 6 0, od 7 (le 0 6), od 8 (.mv (ki 0))] [kp [0, 1, 7, 8] []]) (.block 0 E3)) (.seq (.reg Gi [kp [4] []]) .ret)))
theorem Ip (h : ∀ K : St → Prop, K = run P Γ E3 Q → run P Γ M9 (Ar K Q) s) : run P Γ E3 Q s := Ah h
attribute [simp] Gi
def Db : List RV := [.tmp 4]
/- probecard/logic.Fanin (function 114) -/
abbrev Wt : IC := (.seq (.reg [od 2 (.mv (ki 0)), od 3 (.mv (ki 0))] [kp [0] []]) (.seq (.seq (.reg [om 4 0, od 5 (.conv .i64 (tm 4)), od 6 (.bin .geq (tm 5) (ki 16))] [kp [0, 6] []]) (.cond (tm 6) (.seq (.reg [od 2 (.mv (ki 0)), od 3 (.mv (.const
 (.int .i64 (-1))))] [kp [2, 3] []]) .ret) .skip)) (.seq (.reg [om 7 0, od 8 (.iadrA 16 2 (.global 0) (tm 7)), od 9 (.iadrA 2 1 (tm 8) (ki 0)), od 10 (ld 1 9), om 11 0, od 12 (.iadrA 16 2 (.global 0) (tm 11)), od 13 (.iadrA 2 1 (tm
 12) (ki 1)), od 14 (ld 1 13), om 2 10, om 3 14] [kp [2, 3] []]) .ret)))
def Wu : List RV := [.tmp 2, .tmp 3]
/- strings.IndexByte (function 126) -/
abbrev T8 : IC := (.seq (.reg [od 4 (.mv (ki 0))] [kp [0, 1] []]) (.seq (.reg [om 5 0, om 6 1, od 7 (.call 159 [(tm 5), (tm 6)]), om 4 7] [kp [4] []]) .ret))
def T9 : List RV := [.tmp 4]
/- probecard/netlists.node (function 171) -/
abbrev Zo : IC := (.seq (.reg [od 2 (.box true (tm 0)), od 3 (.box true (tm 1)), od 4 (.mv (ki 0))] [kp [2, 3] []]) (.seq (.reg [od 9 (fa 0 3), od 10 (ld 1 9), od 11 (.call 114 [(tm 10)]), om 8 11, od 12 (ex 8 0), od 13 (ex 8 1), om 5 12, om 6 13]
 [kp [2, 3, 5, 6] []]) (.seq (.reg [od 14 (.mkf 190 [(tm 2)]), om 7 14] [kp [2, 3, 5, 6, 7] []]) (.seq (.block 0 (.seq (.reg [od 16 (fa 0 3), od 17 (ld 1 16), od 18 (.bin .gtr (tm 17) (ku 15)), om 15 18] [kp [2, 3, 5, 6, 7, 15] []])
 (.cond (tm 15) (.seq (.reg [od 4 (.mv (ki 7))] [kp [4] []]) .ret) (.seq (.reg [od 20 (fa 1 3), od 21 (ld 1 20), od 22 (le 0 21), om 23 5, od 24 (.bin .lss (tm 22) (tm 23)), om 25 24, oF 26 (fa 1 3) 25, oF 27 (ld 1 26) 25, oF 28 (le
 0 27) 25, oF 29 (.mv (tm 6)) 25, oF 30 (.bin .gtr (tm 28) (tm 29)) 25, od 31 (.pick (tm 25) kT (tm 30)), om 19 31] [kp [2, 3, 7, 19] []]) (.cond (tm 19) (.seq (.reg [od 4 (.mv (ki 8))] [kp [4] []]) .ret) (.seq (.reg [od 33 (fa 1
 3), od 34 (ld 1 33), od 35 (lG 4 2), od 36 (.call 175 [(tm 35)]), od 37 (.call 174 [(tm 34), (tm 36)]), om 32 37] [kp [2, 3, 7, 32] []]) (.cond (tm 32) (.seq (.reg [od 4 (.mv (ki 1))] [kp [4] []]) .ret) (.seq (.reg [od 39 (fa 0 3),
 od 40 (ld 1 39), od 41 (.bin .eql (tm 40) (ku 13)), om 42 41, oT 43 (fa 1 3) 42, oT 44 (ld 1 43) 42, oT 45 (.mv (tm 7)) 42, oT 46 (.call 174 [(tm 44), (tm 45)]) 42, od 47 (.pick (tm 42) (tm 46) kF), om 38 47] [kp [2, 3, 38] []])
 (.cond (tm 38) (.seq (.reg [od 4 (.mv (ki 7))] [kp [4] []]) .ret) (.seq (.reg [od 49 (lG 4 2), od 50 (lG 4 3), od 51 (.call 191 [(tm 49), (tm 50)]), od 52 (.un .not (tm 51)), om 48 52] [kp [48] []]) (.cond (tm 48) (.seq (.reg [od 4
 (.mv (ki 1))] [kp [4] []]) .ret) .skip))))))))))) (.seq (.reg [od 4 (.mv (ki 0))] [kp [4] []]) .ret)))))
def Dk : List RV := [.tmp 4]
/- probecard/netlists.names (function 172) -/
abbrev Y3 : IC := .gh (.seq (.reg [od 11 (.bin .lss (tm 10) (tm 9))] [kp [3, 8, 9, 10, 11] [6]]) (.seq (.cond (tm 11) .skip (.exit 0)) (.seq (.block 1 (.seq (.reg [od 12 (ia 1 8 10), od 13 (ld 1 12), om 5 13] [kp [3, 5, 8, 9, 10] [6]]) (.seq (.seq
 (.reg [om 14 5, od 15 (.call 192 [(tm 14)]), od 16 (.un .not (tm 15)), om 17 16, oF 18 (.mv (tm 3)) 17, oF 19 (.mv (tm 5)) 17, oF 20 (.lkup .str (.bool false) false (tm 18) (tm 19)) 17, od 21 (.pick (tm 17) kT (tm 20))] [kp [3, 5,
 8, 9, 10, 21] [6]]) (.cond (tm 21) (.seq (.reg [od 2 (.mv (ki 5))] [kp [2] []]) .ret) .skip)) (.reg [om 22 3, om 23 5, on (.mup .str (tm 22) (tm 23) kT)] [kp [3, 8, 9, 10] [6]])))) (.reg [od 24 (.bin .add (tm 10) (ki 1)), om 10 24]
 [kp [3, 8, 9, 10] [6]])))) [kp [3, 8, 9, 10] [6]]
def Ji : IC := .loop Y3
abbrev Y4 : IC := (.seq (.reg [od 1 (.box true (tm 0)), od 2 (.mv (ki 0))] [kp [1] []]) (.seq (.reg [od 6 (.mkmap), om 3 6] [kp [1, 3] [6]]) (.seq (.seq (.reg [od 7 (fa 1 1), od 8 (ld 1 7), od 9 (le 0 8), od 10 (.mv (ki 0))] [kp [3, 8, 9, 10] [6]])
 (.block 0 Ji)) (.seq (.reg [od 2 (.mv (ki 0))] [kp [2] []]) .ret))))
theorem R1 (h : ∀ K : St → Prop, K = run P Γ Ji Q → run P Γ Y3 (Ar K Q) s) : run P Γ Ji Q s := Ah h
def Q1 : List RV := [.tmp 2]
/- probecard/netlists.memory (function 173) -/
abbrev Wv : IC := (.seq (.reg [od 2 (.box true (tm 0)), od 3 (.box true (tm 1)), od 4 (.mv (ki 0))] [kp [2, 3] []]) (.seq (.reg [od 5 (.mv (.func 193))] [kp [2, 3, 5] []]) (.seq (.reg [od 7 (lG 4 2), od 8 (.call 175 [(tm 7)]), om 6 8] [kp [3, 5, 6]
 []]) (.seq (.block 0 (.seq (.reg [om 10 5, od 11 (fa 0 3), od 12 (ld 1 11), od 13 (.callv (tm 10) [(tm 12), (ki 8)]), om 14 13, oF 15 (.mv (tm 5)) 14, oF 16 (fa 1 3) 14, oF 17 (ld 1 16) 14, oF 18 (.callv (tm 15) [(tm 17), (ki 32)])
 14, od 19 (.pick (tm 14) kT (tm 18)), om 9 19] [kp [3, 6, 9] []]) (.cond (tm 9) (.seq (.reg [od 4 (.mv (ki 8))] [kp [4] []]) .ret) (.seq (.reg [od 21 (fa 0 3), od 22 (ld 1 21), om 23 6, od 24 (.call 174 [(tm 22), (tm 23)]), om 25
 24, oF 26 (fa 1 3) 25, oF 27 (ld 1 26) 25, oF 28 (.mv (tm 6)) 25, oF 29 (.call 174 [(tm 27), (tm 28)]) 25, od 30 (.pick (tm 25) kT (tm 29)), om 31 30, oF 32 (.mv (tm 6)) 31, oF 33 (fa 2 3) 31, oF 34 (ld 1 33) 31, oF 35 (.callv (tm
 32) [(tm 34)]) 31, od 36 (.pick (tm 31) kT (tm 35)), om 20 36] [kp [20] []]) (.cond (tm 20) (.seq (.reg [od 4 (.mv (ki 1))] [kp [4] []]) .ret) .skip))))) (.seq (.reg [od 4 (.mv (ki 0))] [kp [4] []]) .ret)))))
def Di : List RV := [.tmp 4]
/- slices.ContainsFunc[[]int,int] (function 174) -/
abbrev Jv : IC := (.seq (.reg [od 4 (.mv kF)] [kp [0, 1] []]) (.seq (.reg [om 5 0, om 6 1, od 7 (.call 194 [(tm 5), (tm 6)]), od 8 (.bin .geq (tm 7) (ki 0)), om 4 8] [kp [4] []]) .ret))
def Jw : List RV := [.tmp 4]
/- probecard/netlists.outside (function 175) -/
abbrev Ur : IC := (.seq (.reg [od 1 (.box true (tm 0)), od 2 (.mv (.const .nilFunc))] [kp [1] []]) (.seq (.reg [od 3 (.mkf 195 [(tm 1)]), om 2 3] [kp [2] []]) .ret))
def Us : List RV := [.tmp 2]
/- slices.Clip[[]probecard/api.Line,probecard/api.Line] (function 176) -/
abbrev Oh : IC := (.seq (.reg [od 2 (.mv kN)] [kp [0] []]) (.seq (.reg [om 3 0, om 4 0, od 5 (le 0 4), om 6 0, od 7 (le 0 6), od 8 (.slice 2 (tm 3) none (some (tm 5)) (some (tm 7))), om 2 8] [kp [2] []]) .ret))
def Oi : List RV := [.tmp 2]
/- internal/stringslite.IndexByte (function 159) -/
abbrev Jx : IC := (.seq (.reg [od 4 (.mv (ki 0))] [kp [0, 1] []]) (.seq (.reg [om 5 0, om 6 1, od 7 (.call 181 [(tm 5), (tm 6)]), om 4 7] [kp [4] []]) .ret))
def Jy : List RV := [.tmp 4]
/- probecard/netlists.node$1 (function 190) -/
abbrev Ww : IC := (.seq (.reg [od 3 (.mv kF)] [kp [0, 1] []]) (.seq (.reg [od 4 (fa 0 1), od 5 (ld 1 4), om 6 0, od 7 (ia 4 5 6), od 8 (fa 0 7), od 9 (ld 1 8), od 10 (.bin .neq (tm 9) (ku 12)), om 3 10] [kp [3] []]) .ret))
def Wx : List RV := [.tmp 3]
/- probecard/netlists.bit (function 191) -/
abbrev Eg : IC := (.seq (.reg [od 2 (.box true (tm 0)), od 3 (.box true (tm 1)), od 4 (.mv kF)] [kp [2, 3] []]) (.seq (.seq (.reg [od 5 (fa 0 3), od 6 (ld 1 5), od 7 (.bin .neq (tm 6) (ku 15))] [kp [2, 3, 7] []]) (.cond (tm 7) (.seq (.reg [od 8 (fa
 2 3), od 9 (ld 1 8), od 10 (.bin .eql (tm 9) (ki 0)), om 11 10, oT 12 (fa 3 3) 11, oT 13 (ld 1 12) 11, oT 14 (.bin .eql (tm 13) (ki 0)) 11, od 15 (.pick (tm 11) (tm 14) kF), om 4 15] [kp [4] []]) .ret) .skip)) (.seq (.reg [od 16
 (fa 2 3), od 17 (ld 1 16), od 18 (.bin .geq (tm 17) (ki 0)), om 19 18, oT 20 (fa 2 3) 19, oT 21 (ld 1 20) 19, oT 22 (fa 2 2) 19, oT 23 (ld 1 22) 19, oT 24 (le 0 23) 19, oT 25 (.bin .lss (tm 21) (tm 24)) 19, od 26 (.pick (tm 19) (tm
 25) kF), om 27 26, oT 28 (fa 3 3) 27, oT 29 (ld 1 28) 27, oT 30 (.bin .geq (tm 29) (ki 0)) 27, od 31 (.pick (tm 27) (tm 30) kF), om 32 31, oT 33 (fa 3 3) 32, oT 34 (ld 1 33) 32, oT 35 (fa 2 2) 32, oT 36 (ld 1 35) 32, oT 37 (fa 2 3)
 32, oT 38 (ld 1 37) 32, oT 39 (ia 3 36 38) 32, oT 40 (fa 1 39) 32, oT 41 (ld 1 40) 32, oT 42 (le 0 41) 32, oT 43 (.bin .lss (tm 34) (tm 42)) 32, od 44 (.pick (tm 32) (tm 43) kF), om 4 44] [kp [4] []]) .ret)))
def Eh : List RV := [.tmp 4]
/- probecard/netlists.IsName (function 192) -/
abbrev Ie : IC := (.seq (.reg [od 2 (.mv kF)] [kp [0] []]) (.seq (.reg [od 3 (.mv (.func 204))] [kp [0, 3] []]) (.seq (.reg [om 4 0, od 5 (.bin .neq (tm 4) (.const (sV []))), om 6 5, oT 7 (.mv (tm 0)) 6, oT 8 (le 1 7) 6, oT 9 (.bin .leq (tm 8) (ki
 32)) 6, od 10 (.pick (tm 6) (tm 9) kF), om 11 10, oT 12 (.mv (tm 0)) 11, oT 13 (.mv (tm 3)) 11, oT 14 (.call 206 [(tm 12), (tm 13)]) 11, oT 15 (.un .not (tm 14)) 11, od 16 (.pick (tm 11) (tm 15) kF), om 2 16] [kp [2] []]) .ret)))
def Ig : List RV := [.tmp 2]
/- probecard/netlists.memory$1 (function 193) -/
abbrev Ta : IC := (.seq (.reg [od 4 (.mv kF)] [kp [0, 1] []]) (.seq (.reg [om 5 0, od 6 (le 0 5), od 7 (.bin .eql (tm 6) (ki 0)), om 8 7, oF 9 (.mv (tm 0)) 8, oF 10 (le 0 9) 8, oF 11 (.mv (tm 1)) 8, oF 12 (.bin .gtr (tm 10) (tm 11)) 8, od 13 (.pick
 (tm 8) kT (tm 12)), om 4 13] [kp [4] []]) .ret))
def Tc : List RV := [.tmp 4]
/- slices.IndexFunc[[]int,int] (function 194) -/
abbrev Oj : IC := .gh (.seq (.reg [od 9 (.bin .lss (tm 8) (tm 7))] [kp [0, 1, 7, 8, 9] []]) (.seq (.cond (tm 9) .skip (.exit 0)) (.seq (.block 1 (.seq (.reg [om 10 8, om 5 10] [kp [0, 1, 5, 7, 8] []]) (.seq (.reg [om 11 1, om 12 0, om 13 5, od 14
 (ia 1 12 13), od 15 (ld 1 14), od 16 (.callv (tm 11) [(tm 15)])] [kp [0, 1, 5, 7, 8, 16] []]) (.cond (tm 16) (.seq (.reg [om 17 5, om 4 17] [kp [4] []]) .ret) .skip)))) (.reg [od 18 (.bin .add (tm 8) (ki 1)), om 8 18] [kp [0, 1, 7,
 8] []])))) [kp [0, 1, 7, 8] []]
def Ed : IC := .loop Oj
abbrev Ol : IC := (.seq (.reg [od 4 (.mv (ki 0))] [kp [0, 1] []]) (.seq (.seq (.reg [om 6 0, od 7 (le 0 6), od 8 (.mv (ki 0))] [kp [0, 1, 7, 8] []]) (.block 0 Ed)) (.seq (.reg [od 4 (.mv (.const (.int .i64 (-1))))] [kp [4] []])
 .ret)))
theorem Jj (h : ∀ K : St → Prop, K = run P Γ Ed Q → run P Γ Oj (Ar K Q) s) : run P Γ Ed Q s := Ah h
def H8 : List RV := [.tmp 4]
/- probecard/netlists.outside$1 (function 195) -/
abbrev R2 : IC := (.seq (.reg [od 3 (.mv kF)] [kp [0, 1] []]) (.seq (.reg [om 4 0, od 5 (.bin .lss (tm 4) (ki 0)), om 6 5, oF 7 (.mv (tm 0)) 6, oF 8 (fa 0 1) 6, oF 9 (ld 1 8) 6, oF 10 (le 0 9) 6, oF 11 (.bin .geq (tm 7) (tm 10)) 6, od 12 (.pick (tm
 6) kT (tm 11)), om 3 12] [kp [3] []]) .ret))
def R7 : List RV := [.tmp 3]
/- probecard/netlists.IsName$1 (function 204) -/
abbrev G2 : IC := (.seq (.reg [od 2 (.mv kF)] [kp [0] []]) (.seq (.reg [om 3 0, od 4 (.bin .leq (tm 3) (.const (.int .i32 32))), om 5 4, oF 6 (.mv (tm 0)) 5, oF 7 (.bin .gtr (tm 6) (.const (.int .i32 126))) 5, od 8 (.pick (tm 5) kT (tm 7)), om 9 8,
 oF 10 (.mv (tm 0)) 9, oF 11 (.call 205 [(.const (sV [40, 41, 61, 44, 35])), (tm 10)]) 9, od 12 (.pick (tm 9) kT (tm 11)), om 2 12] [kp [2] []]) .ret))
def G3 : List RV := [.tmp 2]
/- strings.ContainsRune (function 205) -/
abbrev Om : IC := (.seq (.reg [od 4 (.mv kF)] [kp [0, 1] []]) (.seq (.reg [om 5 0, om 6 1, od 7 (.call 212 [(tm 5), (tm 6)]), od 8 (.bin .geq (tm 7) (ki 0)), om 4 8] [kp [4] []]) .ret))
def On : List RV := [.tmp 4]
/- strings.ContainsFunc (function 206) -/
abbrev Oo : IC := (.seq (.reg [od 4 (.mv kF)] [kp [0, 1] []]) (.seq (.reg [om 5 0, om 6 1, od 7 (.call 213 [(tm 5), (tm 6)]), od 8 (.bin .geq (tm 7) (ki 0)), om 4 8] [kp [4] []]) .ret))
def Oq : List RV := [.tmp 4]
/- strings.IndexRune (function 212) -/
abbrev Td : IC := (.seq (.reg [od 4 (.mv (ki 0))] [kp [0, 1] []]) (.block 0 (.seq (.reg [om 161 1, od 162 (.bin .leq (.const (.int .i32 0)) (tm 161)), om 163 162, oT 164 (.mv (tm 1)) 163, oT 165 (.bin .lss (tm 164) (.const (.int .i32 128))) 163, od
 166 (.pick (tm 163) (tm 165) kF), om 160 166] [kp [0, 1, 160] []]) (.cond (tm 160) (.seq (.reg [om 167 0, om 168 1, od 169 (.conv .u8 (tm 168)), od 170 (.call 126 [(tm 167), (tm 169)]), om 4 170] [kp [4] []]) .ret) (.seq (.reg [om
 172 1, od 173 (.bin .eql (tm 172) (.const (.int .i32 65533))), om 171 173] [kp [1, 171] []]) (.cond (tm 171) .dead (.seq (.reg [om 184 1, od 185 (.call 214 [(tm 184)]), od 186 (.un .not (tm 185)), om 183 186] [kp [183] []]) (.cond
 (tm 183) .dead .dead))))))))
def Tf : List RV := [.tmp 4]
/- strings.IndexFunc (function 213) -/
abbrev Ti : IC := (.seq (.reg [od 4 (.mv (ki 0))] [kp [0, 1] []]) (.seq (.reg [om 5 0, om 6 1, od 7 (.call 217 [(tm 5), (tm 6), kT]), om 4 7] [kp [4] []]) .ret))
def Tj : List RV := [.tmp 4]
/- unicode/utf8.ValidRune (function 214) -/
abbrev Tm : IC := .gh (.seq (.reg [od 11 (.nxt (tm 10)), od 12 (ex 11 0)] [kp [1, 2, 10, 11, 12] [10]]) (.seq (.cond (tm 12) .skip (.exit 0)) (.block 1 (.seq (.reg [od 13 (ex 11 1), od 14 (ex 11 2), om 7 13, om 8 14] [kp [1, 2, 7, 8, 10] [10]])
 (.seq (.reg [om 15 1, om 16 8, od 17 (.callv (tm 15) [(tm 16)]), om 18 2, od 19 (.eqb true (tm 17) (tm 18))] [kp [1, 2, 7, 10, 19] [10]]) (.cond (tm 19) (.seq (.reg [om 20 7, om 6 20] [kp [6] []]) .ret) .skip)))))) [kp [1, 2, 10]
 [10]]
def G4 : IC := .loop Tm
abbrev Tn : IC := (.seq (.reg [od 6 (.mv (ki 0))] [kp [0, 1, 2] []]) (.seq (.seq (.reg [om 9 0, od 10 (.rng (tm 9))] [kp [1, 2, 10] [10]]) (.block 0 G4)) (.seq (.reg [od 6 (.mv (.const (.int .i64 (-1))))] [kp [6] []]) .ret)))
theorem Md (h : ∀ K : St → Prop, K = run P Γ G4 Q → run P Γ Tm (Ar K Q) s) : run P Γ G4 Q s := Ah h
def Jz : List RV := [.tmp 6]
/- slices.Clone[[]int,int] (function 86) -/
abbrev Gx : IC := (.seq (.reg [od 2 (.mv kN)] [kp [0] []]) (.seq (.seq (.reg [om 3 0, od 4 (.isNil true (tm 3))] [kp [0, 4] []]) (.cond (tm 4) (.seq (.reg [od 2 (.mv kN)] [kp [2] [7]]) .ret) .skip)) (.seq (.reg [od 5 (.bsl true 3 1 []), om 6 0, od 7
 (.app false 3 1 (tm 5) (tm 6)), om 2 7] [kp [2] [7]]) .ret)))
def Gy : List RV := [.tmp 2]
/- probecard/scans.plain (function 132) -/
abbrev q1v : IC := (.seq (.reg [od 1 (.box true (tm 0)), od 2 (.mv (ki 0))] [kp [1] []]) (.seq (.seq (.reg [od 4 (lG 4 1), od 5 (.call 129 [(tm 4)]), om 3 5] [kp [1, 3] []]) (.seq (.reg [om 6 3, od 7 (.bin .neq (tm 6) (ki 0))] [kp [1, 3, 7] []])
 (.cond (tm 7) (.seq (.reg [om 8 3, om 2 8] [kp [2] []]) .ret) .skip))) (.seq (.seq (.reg [od 9 (fa 2 1), od 10 (ld 1 9), od 11 (le 0 10), od 12 (.bin .gtr (tm 11) (ki 0)), om 13 12, oF 14 (lG 4 1) 13, oF 15 (.bsl true 102 1 [(ku
 15)]) 13, oF 16 (.call 80 [(tm 14), (tm 15)]) 13, oF 17 (le 0 16) 13, oF 18 (.bin .gtr (tm 17) (ki 0)) 13, od 19 (.pick (tm 13) kT (tm 18))] [kp [19] []]) (.cond (tm 19) (.seq (.reg [od 2 (.mv (ki 7))] [kp [2] []]) .ret) .skip))
 (.seq (.reg [od 2 (.mv (ki 0))] [kp [2] []]) .ret))))
def K0 : List RV := [.tmp 2]
end
end Go.Lg
namespace Go.Lg
open Go Go.Proofs
theorem q3s : Aw Tryz.prog 129 Xz 11 1 Y0 = true := by kernel_rfl
theorem q6U : Aw Tryz.prog 80 q1t 27 2 q1u = true := by kernel_rfl
theorem q33 : Aw Tryz.prog 27 We 6 1 Wg = true := by kernel_rfl
theorem q4a : Aw Tryz.prog 56 Zm 9 1 Zn = true := by kernel_rfl
theorem Ut : Aw Tryz.prog 85 Ns 9 1 Nu = true := by kernel_rfl
theorem q1w : Aw Tryz.prog 90 Uo 9 1 Up = true := by kernel_rfl
theorem q34 : Aw Tryz.prog 109 Wl 131 1 I9 = true := by kernel_rfl
theorem U9 : Aw Tryz.prog 131 Je 9 2 Jf = true := by kernel_rfl
theorem q3t : Aw Tryz.prog 148 Ec 73 1 Cb = true := by kernel_rfl
theorem q35 : Aw Tryz.prog 149 Wq 65 1 Ws = true := by kernel_rfl
theorem Xo : Aw Tryz.prog 161 Mc 19 2 Db = true := by kernel_rfl
theorem q6V : Aw Tryz.prog 114 Wt 15 1 Wu = true := by kernel_rfl
theorem q1O : Aw Tryz.prog 126 T8 8 2 T9 = true := by kernel_rfl
theorem q4b : Aw Tryz.prog 171 Zo 53 2 Dk = true := by kernel_rfl
theorem q3u : Aw Tryz.prog 172 Y4 25 1 Q1 = true := by kernel_rfl
theorem q36 : Aw Tryz.prog 173 Wv 37 2 Di = true := by kernel_rfl
theorem Vf : Aw Tryz.prog 174 Jv 9 2 Jw = true := by kernel_rfl
theorem q1x : Aw Tryz.prog 175 Ur 4 1 Us = true := by kernel_rfl
theorem Yz : Aw Tryz.prog 176 Oh 9 1 Oi = true := by kernel_rfl
theorem Vg : Aw Tryz.prog 159 Jx 8 2 Jy = true := by kernel_rfl
theorem q37 : Aw Tryz.prog 190 Ww 11 2 Wx = true := by kernel_rfl
theorem q5P : Aw Tryz.prog 191 Eg 45 2 Eh = true := by kernel_rfl
theorem q38 : Aw Tryz.prog 192 Ie 17 1 Ig = true := by kernel_rfl
theorem q1P : Aw Tryz.prog 193 Ta 14 2 Tc = true := by kernel_rfl
theorem Z0 : Aw Tryz.prog 194 Ol 19 2 H8 = true := by kernel_rfl
theorem q0T : Aw Tryz.prog 195 R2 13 2 R7 = true := by kernel_rfl
theorem q1Q : Aw Tryz.prog 204 G2 13 1 G3 = true := by kernel_rfl
theorem Z1 : Aw Tryz.prog 205 Om 9 2 On = true := by kernel_rfl
theorem Z2 : Aw Tryz.prog 206 Oo 9 2 Oq = true := by kernel_rfl
theorem q1R : Aw Tryz.prog 212 Td 187 2 Tf = true := by kernel_rfl
theorem q1S : Aw Tryz.prog 213 Ti 8 2 Tj = true := by kernel_rfl
theorem q1T : Aw Tryz.prog 217 Tn 21 3 Jz = true := by kernel_rfl
theorem q1y : Aw Tryz.prog 86 Gx 8 1 Gy = true := by kernel_rfl
theorem q6W : Aw Tryz.prog 132 q1v 20 1 K0 = true := by kernel_rfl
end Go.Lg
set_option maxRecDepth 100000
namespace Go.Lg
open Go Go.Proofs
variable {Γ : Tables}
theorem K1 (es : List (List T)) (cap : Option Nat) (nl : Option Bool) (hw : E1 1 es) : Ag Tryz.prog Γ 85 [.sl es cap nl] (.sl es (some es.length) nl) := by
  refine Ap Ut rfl ?_
  simp [Ns, Nu, ret, hw]
theorem q8u (es : List (List T)) (cap : Option Nat) (nl : Option Bool) (hw : E1 1 es) : Ag Tryz.prog Γ 90 [.sl es cap nl] (.sl es (some es.length) nl) := by
  refine Ap q1w rfl ?_
  simp [Uo, Up, ret, hw]
theorem q8v (es : List (List T)) (cap : Option Nat) (nl : Option Bool) (hw : E1 2 es) : Ag Tryz.prog Γ 176 [.sl es cap nl] (.sl es (some es.length) nl) := by
  refine Ap Yz rfl ?_
  simp [Oh, Oi, ret, hw]
theorem qC5 (ty : Nat) (es : List (List T)) (len : Nat) (cap : Option Nat) (hw : E1 1 es) : Ef Tryz.prog Γ 85 [(1000000, .sl ty 1 es)] [.ls 1000000 0 len cap] (.ls 1000000 0 len (some len)) [(1000000, .sl ty 1 es)] := by
  refine Ey Ut rfl ?_
  simp [Ns, Nu, qDc, hw]
def Z3 {α : Type} (p : α → Bool) (l : List α) : Int := match l.findIdx? p with | some i => i | none => -1
theorem q0U {α : Type} {p : α → Bool} {l : List α} {i : Nat} (hp : ∀ j, j < i → ∀ x, l[j]? = some x → p x = false) (x : α) (hx : l[i]? = some x) (h : p x = true) : l.findIdx? p = some i := by
  rw [List.findIdx?_eq_some_iff_getElem]
  have hi := (List.getElem?_eq_some_iff.1 hx).1
  refine ⟨hi, ?_, fun j hj => ?_⟩
  · have := (List.getElem?_eq_some_iff.1 hx).2; rw [this]; exact h
  · have := hp j hj l[j] (List.getElem?_eq_getElem (by omega))
    simp [this]
theorem q0r (l : List Int) (c : Option Nat) (nl : Option Bool) (x : Int) (hl : l.length ≤ 1000000000) : ∀ (k i : Nat), k + i = l.length → (∀ j, j < i → ∀ y, l[j]? = some y → (y == x) = false) →
    run Tryz.prog Γ E3 (Ls 0 (Ar (run Tryz.prog Γ (.seq (.reg Gi [.keep [4] []]) .ret) (ret true Db fun r => r = tI (Z3 (· == x) l))) (ret true Db fun r => r = tI (Z3 (· == x) l)))) ⟨[(0, .t (.sl (Ad tK l) c nl)), (1, .t (tK x)), (7, .t (tI l.length)), (8, .t (tI i))], []⟩
  | 0, i, h, hp => by
    refine Ip fun K hK => ?_
    have h2 : ¬ i < l.length := by omega
    simp (disch := omega) [A0, B1 (0 : Int), A9, A5, h2, ret, Db, Da, Et, Es, Aq]
    have : l.findIdx? (· == x) = none := by
      rw [List.findIdx?_eq_none_iff]
      intro y hy
      obtain ⟨j, hj, rfl⟩ := List.getElem_of_mem hy
      exact hp j (by omega) _ (List.getElem?_eq_getElem hj)
    have e : l.findIdx? (fun y => decide (y = x)) = _ := this
    simp [Z3, e]
  | k + 1, i, h, hp => by
    refine Ip fun K hK => ?_
    have h2 : i < l.length := by omega
    simp (disch := omega) [A0, B1 (0 : Int), A9, A5, h2]
    refine ⟨fun hc => ?_, fun hc => ?_⟩
    · simp [Bd, ret, Db, Da, Et, Es, Aq]
      have := q0U (p := (· == x)) hp l[i] (List.getElem?_eq_getElem h2) (by simp [hc])
      have e : l.findIdx? (fun y => decide (y = x)) = _ := this
      simp [Z3, e]
    · simp (disch := omega) [Bd, A5]
      rw [hK]
      exact_mod_cast q0r l c nl x hl k (i + 1) (by omega) (fun j hj y hy => by
        rcases Nat.lt_succ_iff_lt_or_eq.1 hj with hj | rfl
        · exact hp j hj y hy
        · rw [List.getElem?_eq_getElem h2] at hy; simp at hy; subst hy
          simp; exact fun e => hc e.symm)
theorem qC6 (l : List Int) (c : Option Nat) (nl : Option Bool) (x : Int) (hl : l.length ≤ 1000000000) : Aa Tryz.prog Γ 161 [.sl (Ad tK l) c nl, tK x] (tI (Z3 (· == x) l)) := by
  refine Ac Xo rfl ?_
  simp (disch := omega) [Mc, A0, A5]
  exact_mod_cast q0r l c nl x hl l.length 0 (by omega) (by simp)
theorem q8O (l : List Int) (c : Option Nat) (nl : Option Bool) (x : Int) (hl : l.length ≤ 1000000000) : Aa Tryz.prog Γ 131 [.sl (Ad tK l) c nl, tK x] (tB (l.contains x)) := by
  refine Ac U9 rfl ?_
  simp (disch := omega) [Je, A0, A5]
  refine A3 (qC6 l c nl x hl) rfl ?_
  simp [ret, Jf, Da, Et, Es, Aq]
  unfold Z3
  cases h : l.findIdx? (· == x) with
  | none =>
    rw [List.findIdx?_eq_none_iff] at h
    have : ¬ x ∈ l := fun hx => by simpa using h x hx
    simp [this]
  | some i =>
    rw [List.findIdx?_eq_some_iff_getElem] at h
    obtain ⟨hi, h1, _⟩ := h
    have : x ∈ l := by rw [← (show l[i] = x by simpa using h1)]; exact List.getElem_mem hi
    simp [this]
theorem q1z {cs : List T} : B2 (cs.map fun t => some t) = some cs := by
  induction cs with
  | nil => rfl
  | cons t cs ih => simp only [List.map_cons, B2, ih, Option.map_some]
theorem q0V {hp : List (Nat × Bf)} {f : FuncId} {K : T → Prop} {cs : List T} {t res : T} (h : Aa Tryz.prog Γ f (t :: cs) res) (hk : K res) : q64 Tryz.prog Γ hp f (.t t :: cs.map .t) K ⟨⟩ :=
  A3 h (by simp only [List.map_cons, List.map_map, Function.comp_def, B2, Aj]; rw [q1z]; rfl) hk
theorem q20 {Q : AX → St → Prop} (l : List Int) (c : Option Nat) (nl : Option Bool) (f : FuncId) (cs : List T) (p : Int → Bool) (hp : ∀ x ∈ l, Aa Tryz.prog Γ f (tI x :: cs) (tB (p x))) (hl : l.length ≤ 1000000000)
    (h0 : (∀ x ∈ l, p x = false) → Q (.exit 0) ⟨[(0, .t (.sl (Ak l) c nl)), (1, .t (.fn f cs)), (7, .t (tI l.length)), (8, .t (tI l.length)), (9, .t (tB false))], []⟩)
    (h1 : ∀ i : Nat, l.findIdx? p = some i → Q .ret ⟨[(4, .t (tI i))], []⟩) : ∀ (k i : Nat), k + i = l.length → (∀ j, j < i → ∀ y, l[j]? = some y → p y = false) →
    run Tryz.prog Γ Ed Q ⟨[(0, .t (.sl (Ak l) c nl)), (1, .t (.fn f cs)), (7, .t (tI l.length)), (8, .t (tI i))], []⟩
  | 0, i, h, hq => by
    refine Jj fun K hK => ?_
    have h2 : ¬ i < l.length := by omega
    simp (disch := omega) [A0, B1 (0 : Int), A9, A5, h2]
    have h3 : i = l.length := by omega
    subst h3
    refine h0 fun y hy => ?_
    obtain ⟨j, hj, rfl⟩ := List.getElem_of_mem hy
    exact hq j (by omega) _ (List.getElem?_eq_getElem hj)
  | k + 1, i, h, hq => by
    refine Jj fun K hK => ?_
    have h2 : i < l.length := by omega
    simp (disch := omega) [A0, B1 (0 : Int), A9, A5, h2]
    refine q0V (hp l[i] (List.getElem_mem h2)) ?_
    simp
    refine ⟨fun hc => ?_, fun hc => ?_⟩
    · simp [Bd]
      exact h1 i (q0U hq l[i] (List.getElem?_eq_getElem h2) hc)
    · simp (disch := omega) [Bd, A5]
      rw [hK]
      exact_mod_cast q20 l c nl f cs p hp hl h0 h1 k (i + 1) (by omega) (fun j hj y hy => by
        rcases Nat.lt_succ_iff_lt_or_eq.1 hj with hj | rfl
        · exact hq j hj y hy
        · rw [List.getElem?_eq_getElem h2] at hy; simp at hy; subst hy; exact hc)
theorem q8P (l : List Int) (c : Option Nat) (nl : Option Bool) (f : FuncId) (cs : List T) (p : Int → Bool) (hp : ∀ x ∈ l, Aa Tryz.prog Γ f (tI x :: cs) (tB (p x))) (hl : l.length ≤ 1000000000) : Aa Tryz.prog Γ 194 [.sl (Ak l) c nl, .fn f cs] (tI (Z3 p l)) := by
  refine Ac Z0 rfl ?_
  simp (disch := omega) [Ol, A0, A5]
  refine q20 l c nl f cs p hp hl (fun h => ?_) (fun i h => ?_) l.length 0 (by omega) (by simp)
  · have : l.findIdx? p = none := List.findIdx?_eq_none_iff.2 h
    simp [ret, H8, Da, Et, Es, Aq, Z3, this]
  · simp [ret, H8, Da, Et, Es, Aq, Z3, h]
theorem Zp (l : List Int) (c : Option Nat) (nl : Option Bool) (f : FuncId) (cs : List T) (p : Int → Bool) (hp : ∀ x ∈ l, Aa Tryz.prog Γ f (tI x :: cs) (tB (p x))) (hl : l.length ≤ 1000000000) : Aa Tryz.prog Γ 174 [.sl (Ak l) c nl, .fn f cs] (tB (l.any p)) := by
  refine Ac Vf rfl ?_
  simp (disch := omega) [Jv, A0, A5]
  refine A3 (q8P l c nl f cs p hp hl) rfl ?_
  simp [ret, Jw, Da, Et, Es, Aq]
  unfold Z3
  cases h : l.findIdx? p with
  | none =>
    rw [List.findIdx?_eq_none_iff] at h
    have : l.any p = false := by rw [List.any_eq_false]; intro x hx; simp [h x hx]
    simp [this]
  | some i =>
    rw [List.findIdx?_eq_some_iff_getElem] at h
    obtain ⟨hi, h1, _⟩ := h
    have : l.any p = true := List.any_eq_true.2 ⟨_, List.getElem_mem hi, h1⟩
    simp [this]
theorem q5Q (k : Int) : Aa Tryz.prog Γ 56 [tK k] (tB (decide (1 ≤ k ∧ k ≤ 13))) := by
  refine Ac q4a rfl ?_
  by_cases h1 : 1 ≤ k <;> by_cases h2 : k ≤ 13 <;> simp [Zm, ret, Zn, Da, Et, Es, Aq, h1, h2]
structure Nd where
  k : Int
  inn : Sl Int
  mem : Int
  bit : Int
structure Mm where
  addr : Sl Int
  data : Sl Int
  write : Int
structure B9 where
  nodes : Sl Nd
  names : Sl (List UInt8)
  mems : Sl Mm
  outs : Sl Int
def Bw (x : Nd) : List T := [tK x.k, As x.inn, tI x.mem, tI x.bit]
def tMm (m : Mm) : List T := [As m.addr, As m.data, tI m.write]
def tS (l : List UInt8) : T := .v (sV l)
def Ab (s : Sl Nd) : T := .sl (Az Bw s.l) s.cap s.nl
def Af (s : Sl (List UInt8)) : T := .sl (Ad tS s.l) s.cap s.nl
def Am (s : Sl Mm) : T := .sl (Az tMm s.l) s.cap s.nl
def tC (c : B9) : List T := [Ab c.nodes, Af c.names, Am c.mems, As c.outs]
def Nd.d : Nd := ⟨0, ⟨[], none, none⟩, 0, 0⟩
def Mm.d : Mm := ⟨⟨[], none, none⟩, ⟨[], none, none⟩, 0⟩
theorem Ba {l : List Nd} : E1 4 (Az Bw l) := q4Z fun _ => rfl
theorem q4c {l : List Mm} : E1 3 (Az tMm l) := q4Z fun _ => rfl
structure CirOk (c : B9) : Prop where
  nodes : c.nodes.l.length ≤ 1000000000
  names : c.names.l.length ≤ 1000000000
  mems : c.mems.l.length ≤ 1000000000
  outs : c.outs.l.length ≤ 1000000000
  kind : ∀ x ∈ c.nodes.l, 0 ≤ x.k ∧ x.k ≤ 255
  inn : ∀ x ∈ c.nodes.l, x.inn.l.length ≤ 1000000000
  addr : ∀ m ∈ c.mems.l, m.addr.l.length ≤ 1000000000 ∧ m.data.l.length ≤ 1000000000
def Qp (c : B9) (n : Int) : Bool := decide (n < 0 ∨ (c.nodes.l.length : Int) ≤ n)
theorem Z4 (c : B9) (n : Int) (hc : c.nodes.l.length ≤ 1000000000) : Aa Tryz.prog Γ 195 [tI n, .ip (tC c) 0] (tB (Qp c n)) := by
  refine Ac q0T rfl ?_
  by_cases h1 : n < 0 <;> simp (disch := omega) [R2, ret, R7, Da, Et, Es, Aq, h1, tC, Ab, Ae, A5, Qp]
theorem Vh (c : B9) : Ag Tryz.prog Γ 175 [.agg (tC c)] (.fn 195 [.ip (tC c) 0]) := by
  refine Ap q1x rfl ?_
  simp [Ur, ret, Us, tC, Ce, D1, T.one, AV.one, Ab, Af, Am, As]
theorem Y5 (c : B9) (hc : c.nodes.l.length ≤ 1000000000) (l : List Int) (cap : Option Nat) (nl : Option Bool) (hl : l.length ≤ 1000000000) : Aa Tryz.prog Γ 174 [.sl (Ak l) cap nl, .fn 195 [.ip (tC c) 0]] (tB (l.any (Qp c))) :=
  Zp l cap nl _ _ _ (fun x _ => Z4 c x hc) hl
def q7P : List (Int × Int) := [(0, 0), (0, 0), (0, 0), (1, 1), (1, 1), (2, 16), (2, 16), (2, 16), (2, 16), (2, 16), (2, 16), (3, 3), (2, 2), (1, 16), (1, 1), (0, 0)]
def qDd : List T := q7P.flatMap fun p => [tI p.1, tI p.2]
def U4 (k : Int) : Int × Int := if 16 ≤ k then (0, -1) else q7P.getD k.toNat (0, 0)
def GOk (Γ : Tables) : Prop := Γ 0 = some qDd
theorem D7 (hΓ : GOk Γ) (k : Int) (h0 : 0 ≤ k) (h1 : k ≤ 255) : Aa Tryz.prog Γ 114 [tK k] (.tup [tI (U4 k).1, tI (U4 k).2]) := by
  unfold GOk at hΓ
  refine Ac q6V rfl ?_
  by_cases h2 : 16 ≤ k
  · simp (disch := omega) [Wt, ret, Wu, Da, Et, Es, Aq, h2, A5, U4]
  · have h3 : k = 0 ∨ k = 1 ∨ k = 2 ∨ k = 3 ∨ k = 4 ∨ k = 5 ∨ k = 6 ∨ k = 7 ∨ k = 8 ∨ k = 9 ∨ k = 10 ∨ k = 11 ∨ k = 12 ∨ k = 13 ∨ k = 14 ∨ k = 15 := by omega
    rcases h3 with rfl | rfl | rfl | rfl | rfl | rfl | rfl | rfl | rfl | rfl | rfl | rfl | rfl | rfl | rfl | rfl <;>
    simp (disch := omega) [Wt, ret, Wu, Da, Et, Es, Aq, A5, U4, hΓ, qDd, q7P] <;> exact ⟨rfl, rfl⟩
def q0s (c : B9) (x : Nd) : Bool :=
  if x.k ≠ 15 then decide (x.mem = 0 ∧ x.bit = 0)
  else decide (0 ≤ x.mem ∧ x.mem < c.mems.l.length ∧ 0 ≤ x.bit ∧ x.bit < ((c.mems.l.getD x.mem.toNat Mm.d).data.l.length))
theorem qEm (c : B9) (x : Nd) (hc : CirOk c) : Aa Tryz.prog Γ 191 [.agg (tC c), .agg (Bw x)] (tB (q0s c x)) := by
  refine Ac q5P rfl ?_
  have hm := hc.mems
  by_cases h1 : x.k = 15
  · by_cases h2 : 0 ≤ x.mem
    · by_cases h3 : x.mem < c.mems.l.length
      · have h3' : x.mem.toNat < c.mems.l.length := by omega
        by_cases h4 : 0 ≤ x.bit
        · simp (disch := omega) [Eg, ret, Eh, Da, Et, Es, Aq, Ce, D1, T.one, AV.one, tC, Bw, Ab, Af, Am, As, h1, h2, h3, h4, h3', Ae, D3 Mm.d, A5, q4c, tMm, A0, q0s]
        · simp (disch := omega) [Eg, ret, Eh, Da, Et, Es, Aq, Ce, D1, T.one, AV.one, tC, Bw, Ab, Af, Am, As, h1, h2, h3, h4, h3', Ae, D3 Mm.d, A5, q4c, tMm, A0, q0s]
      · simp (disch := omega) [Eg, ret, Eh, Da, Et, Es, Aq, Ce, D1, T.one, AV.one, tC, Bw, Ab, Af, Am, As, h1, h2, h3, Ae, D3 Mm.d, A5, q4c, tMm, A0, q0s]
    · simp (disch := omega) [Eg, ret, Eh, Da, Et, Es, Aq, Ce, D1, T.one, AV.one, tC, Bw, Ab, Af, Am, As, h1, h2, Ae, D3 Mm.d, A5, q4c, tMm, A0, q0s]
  · by_cases h2 : x.mem = 0
    · simp (disch := omega) [Bd, Eg, Eh, tC, Bw, Ab, Af, Am, As, h1, h2, q0s, -decide_eq_decide]
    · have h2' : (x.mem == 0) = false := by simpa using h2
      simp (disch := omega) [Bd, Eg, Eh, tC, Bw, Ab, Af, Am, As, h1, h2, h2', q0s]
def Wy (l : List Int) (most : Int) : Bool := decide (l.length = 0 ∨ most < l.length)
theorem q4d (l : List Int) (cap : Option Nat) (nl : Option Bool) (most : Int) (hl : l.length ≤ 1000000000) : Aa Tryz.prog Γ 193 [.sl (Ak l) cap nl, tI most] (tB (Wy l most)) := by
  refine Ac q1P rfl ?_
  by_cases h : l.length = 0 <;> simp (disch := omega) [Ta, ret, Tc, Da, Et, Es, Aq, A0, h, Wy, A5]
def q21 (c : B9) (n : Int) : Bool := decide ((c.nodes.l.getD n.toNat Nd.d).k ≠ 12)
theorem qC7 (c : B9) (n : Int) (h0 : 0 ≤ n) (h1 : n < c.nodes.l.length) : Aa Tryz.prog Γ 190 [tI n, .ip (tC c) 0] (tB (q21 c n)) := by
  refine Ac q37 rfl ?_
  have h2 : n.toNat < c.nodes.l.length := by omega
  simp (disch := omega) [Ww, ret, Wx, Da, Et, Es, Aq, tC, Ab, Ae, D3 Nd.d, Ba, h0, h1, h2, q21, Bw]
def Dn (c : B9) (x : Nd) : Int :=
  if 15 < x.k then 7 else if (x.inn.l.length : Int) < (U4 x.k).1 ∨ (U4 x.k).2 < x.inn.l.length then 8 else if x.inn.l.any (Qp c) then 1
  else if x.k = 13 ∧ x.inn.l.any (q21 c) = true then 7 else if q0s c x = false then 1 else 0
theorem q6s {c : B9} {l : List Int} (h : l.any (Qp c) = false) : ∀ n ∈ l, 0 ≤ n ∧ n < c.nodes.l.length := by
  intro n hn
  have := List.any_eq_false.1 h n hn
  simp only [Qp, decide_eq_true_eq, not_or, Int.not_lt, Int.not_le] at this
  exact this
theorem qDe (hΓ : GOk Γ) (c : B9) (x : Nd) (hc : CirOk c) (hk : 0 ≤ x.k ∧ x.k ≤ 255) (hl : x.inn.l.length ≤ 1000000000) : Aa Tryz.prog Γ 171 [.agg (tC c), .agg (Bw x)] (tI (Dn c x)) := by
  refine Ac q4b rfl ?_
  have hn := hc.nodes
  have e1 := Y5 (Γ := Γ) c hn x.inn.l x.inn.cap x.inn.nl hl
  have e2 := D7 hΓ x.k hk.1 hk.2
  have e3 := Vh (Γ := Γ) c
  have e4 := qEm (Γ := Γ) c x hc
  simp (disch := omega) [Zo, Ce, D1, T.one, AV.one, tC, Bw, Ab, Af, Am, As]
  refine A3 e2 rfl ?_
  simp (disch := omega)
  simp
  refine ⟨fun h1 => ?_, fun h1 => ?_⟩
  · simp [Bd, ret, Dk, Da, Et, Es, Aq, Dn, h1]
  by_cases h2 : (x.inn.l.length : Int) < (U4 x.k).1
  · simp (disch := omega) [Bd, A0, A5, h2, ret, Dk, Da, Et, Es, Aq, Dn, h1]
  by_cases h3 : (U4 x.k).2 < x.inn.l.length
  · simp (disch := omega) [Bd, A0, A5, h2, h3, ret, Dk, Da, Et, Es, Aq, Dn, h1]
  simp (disch := omega) [Bd, A0, A5, h2, h3]
  refine A8 e3 rfl ?_
  simp (disch := omega)
  refine A3 e1 rfl ?_
  simp (disch := omega) [-List.any_eq_true, -List.any_eq_false]
  refine ⟨fun h4 => ?_, fun h4 => ?_⟩
  · simp [-List.any_eq_true, -List.any_eq_false, Bd, ret, Dk, Da, Et, Es, Aq, Dn, h1, h2, h3, h4]
  have h4' : x.inn.l.any (Qp c) = false := h4
  by_cases h5 : x.k = 13
  · have e5 := Zp (Γ := Γ) x.inn.l x.inn.cap x.inn.nl 190 [.ip (tC c) 0] (q21 c) (fun n hm => qC7 c n (q6s h4' n hm).1 (q6s h4' n hm).2) hl
    simp (disch := omega) [Bd, h5]
    refine A3 e5 rfl ?_
    simp [-List.any_eq_true, -List.any_eq_false]
    refine ⟨fun h6 => ?_, fun h6 => ?_⟩
    · have h6' : x.inn.l.any (q21 c) = true := h6
      simp [-List.any_eq_true, -List.any_eq_false, Bd, ret, Dk, Da, Et, Es, Aq, Dn, h1, h2, h3, h4', h5, h6']
      simp [h5] at h2 h3; omega
    · have h6' : x.inn.l.any (q21 c) = false := h6
      have e : Dn c x = if q0s c x = false then 1 else 0 := by
        unfold Dn
        rw [if_neg (by omega), if_neg (by omega), if_neg (by simp [h4']), if_neg (by simp [h6'])]
      rw [e]
      simp (disch := omega) [Bd, h6']
      rw [show Bw x = [tK 13, As x.inn, tI x.mem, tI x.bit] from by simp [Bw, h5]] at e4
      refine A3 e4 rfl ?_
      simp
      refine ⟨fun h7 => ?_, fun h7 => ?_⟩ <;> simp [Bd, Dk, h7]
  · have e : Dn c x = if q0s c x = false then 1 else 0 := by
      unfold Dn
      rw [if_neg (by omega), if_neg (by omega), if_neg (by simp [h4']), if_neg (by simp [h5])]
    rw [e]
    simp (disch := omega) [Bd, h5]
    refine A3 e4 rfl ?_
    simp
    refine ⟨fun h7 => ?_, fun h7 => ?_⟩ <;> simp [Bd, Dk, h7]
theorem qKc : (Tryz.prog.funcs[181]?).map (fun f => (f.name, f.body.isNone, f.origin)) = some ("internal/bytealg.IndexByteString", true, "") := by kernel_rfl
abbrev tR (n : Int) : T := .v (.int .i32 n)
theorem q22 (s : ByteArray) (c : Int) : Aa Tryz.prog Γ 181 [.v (.string s), tK c] (tI (Lib.indexByte s.data.toList c.toNat.toUInt8)) := by
  intro w X vs hg hx hts
  obtain ⟨x, xs, rfl, h1, h2⟩ := hts.cons_inv
  obtain ⟨y, ys, rfl, h3, h4⟩ := h2.cons_inv
  have := h4.nil_inv; subst this
  cases h1; cases h3
  refine .inr ⟨.int .i64 (Lib.indexByte s.data.toList c.toNat.toUInt8), ?_, RowKit.Below.refl _ _, .v _⟩
  have h := qKc
  simp only [Option.map_eq_some_iff, Prod.mk.injEq] at h
  obtain ⟨fn, hf, hn, hb, ho⟩ := h
  have e1 : Extern.findNext fn = none := by
    simp only [Extern.findNext, hn, ho]
    have a : Extern.allNextRows.lookup "internal/bytealg.IndexByteString" = none := by kernel_rfl
    have b : Extern.allNextRows.lookup "" = none := by kernel_rfl
    rw [a, b]; rfl
  have e2 : Extern.find fn = some Extern.BytealgIndexByte.indexByte := by
    simp only [Extern.find, hn, ho]
    have a : Extern.allGenericRows.lookup "internal/bytealg.IndexByteString" = none := by kernel_rfl
    have b : Extern.allTypedRows.lookup "internal/bytealg.IndexByteString" = none := by kernel_rfl
    have c : Extern.allRows.lookup "internal/bytealg.IndexByteString" = some Extern.BytealgIndexByte.indexByte := by kernel_rfl
    rw [a, b, c]; rfl
  have hnn : ¬ fn.name = "runtime.NumGoroutine" := by rw [hn]; decide
  have hr := Lib.run_indexByteString (P := Tryz.prog) s c w
  have hb' : fn.body = none := by simpa using hb
  simp [callFunc, hf, hnn, hb', e1, e2, hr]
theorem qDf (s : ByteArray) (c : Int) : Aa Tryz.prog Γ 159 [.v (.string s), tK c] (tI (Lib.indexByte s.data.toList c.toNat.toUInt8)) := by
  refine Ac Vg rfl ?_
  simp [Jx]
  refine A3 (q22 s c) rfl ?_
  simp [Jy]
theorem q7Q (s : ByteArray) (c : Int) : Aa Tryz.prog Γ 126 [.v (.string s), tK c] (tI (Lib.indexByte s.data.toList c.toNat.toUInt8)) := by
  refine Ac q1O rfl ?_
  simp [T8]
  refine A3 (qDf s c) rfl ?_
  simp [T9]
theorem q7R (s : ByteArray) (c : Int) (h0 : 0 ≤ c) (h1 : c < 128) : Aa Tryz.prog Γ 212 [.v (.string s), tR c] (tI (Lib.indexByte s.data.toList c.toNat.toUInt8)) := by
  refine Ac q1R rfl ?_
  simp (disch := omega) [Td, h0, h1, Bl]
  refine A3 (q7Q s c) rfl ?_
  simp [Tf]
theorem q4e (s : ByteArray) (c : Int) (h0 : 0 ≤ c) (h1 : c < 128) : Aa Tryz.prog Γ 205 [.v (.string s), tR c] (tB (decide (0 ≤ Lib.indexByte s.data.toList c.toNat.toUInt8))) := by
  refine Ac Z1 rfl ?_
  simp (disch := omega) [Om]
  refine A3 (q7R s c h0 h1) rfl ?_
  simp [On]
def qDg (c : Int) : Bool := decide (c ≤ 32 ∨ 126 < c ∨ 0 ≤ Lib.indexByte [40, 41, 61, 44, 35] c.toNat.toUInt8)
theorem qDh (c : Int) : Aa Tryz.prog Γ 204 [tR c] (tB (qDg c)) := by
  refine Ac q1Q rfl ?_
  by_cases h1 : c ≤ 32
  · simp [G2, G3, h1, qDg]
  by_cases h2 : 126 < c
  · simp [G2, G3, h1, h2, qDg]
  simp [G2, h1, h2]
  refine A3 (q4e ⟨#[40, 41, 61, 44, 35]⟩ c (by omega) (by omega)) rfl ?_
  simp [G3, qDg, h1, h2]
theorem qC8 (s : List UInt8) (i : Nat) (hi : i < s.length) (ha : s[i] < 128) : Utf8.decode ⟨s.toArray⟩ i = ((s[i]).toNat, 1) := by
  have e : (ByteArray.mk s.toArray).get! (i + 0) = s[i] := by
    simp [ByteArray.get!, hi]
  have h2 : (s[i]).toNat < 128 := by simpa [UInt8.lt_iff_toNat_lt] using ha
  unfold Utf8.decode
  simp only [e, h2, ↓reduceIte]
def qC9 (s : List UInt8) : Bool := s.any fun b => qDg b.toNat
theorem q23 {Q : AX → St → Prop} (s : List UInt8) (ha : ∀ b ∈ s, b < 128)
    (h0 : qC9 s = false → Q (.exit 0) ⟨[(1, .t (.fn 204 [])), (2, .t (tB true)), (10, .li 10), (11, .t (.tup [tB false])), (12, .t (tB false))], [(10, .it ⟨s.toArray⟩ s.length)]⟩)
    (h1 : qC9 s = true → ∀ i : Nat, Q .ret ⟨[(6, .t (tI i))], []⟩) : ∀ (k i : Nat), k + i = s.length → (∀ j, j < i → ∀ b, s[j]? = some b → qDg b.toNat = false) →
    run Tryz.prog Γ G4 Q ⟨[(1, .t (.fn 204 [])), (2, .t (tB true)), (10, .li 10)], [(10, .it ⟨s.toArray⟩ i)]⟩
  | 0, i, h, hq => by
    refine Md fun K hK => ?_
    have h2 : ¬ i < s.length := by omega
    have h3 : i = s.length := by omega
    have h4 : ¬ i < (ByteArray.mk s.toArray).size := by simpa [ByteArray.size] using h2
    simp [h2]
    subst h3
    refine h0 (List.any_eq_false.2 fun b hb => ?_)
    obtain ⟨j, hj, rfl⟩ := List.getElem_of_mem hb
    simp [hq j hj _ (List.getElem?_eq_getElem hj)]
  | k + 1, i, h, hq => by
    refine Md fun K hK => ?_
    have h2 : i < s.length := by omega
    have h4 : i < (ByteArray.mk s.toArray).size := by simpa [ByteArray.size] using h2
    simp [h2, qC8 s i h2 (ha _ (List.getElem_mem h2))]
    refine A3 (qDh s[i].toNat) rfl ?_
    simp
    refine ⟨fun hc => ?_, fun hc => ?_⟩
    · simp [Bd]
      exact h1 (List.any_eq_true.2 ⟨_, List.getElem_mem h2, hc⟩) i
    · simp [Bd]
      rw [hK]
      exact q23 s ha h0 h1 k (i + 1) (by omega) (fun j hj b hb => by
        rcases Nat.lt_succ_iff_lt_or_eq.1 hj with hj | rfl
        · exact hq j hj b hb
        · rw [List.getElem?_eq_getElem h2] at hb; simp at hb; subst hb; exact hc)
theorem q9m (s : List UInt8) (ha : ∀ b ∈ s, b < 128) : ∃ n : Int, Aa Tryz.prog Γ 217 [tS s, .fn 204 [], tB true] (tI n) ∧ (0 ≤ n ↔ qC9 s = true) := by
  have : ∃ r, Aa Tryz.prog Γ 217 [tS s, .fn 204 [], tB true] r ∧ ∃ n, r = tI n ∧ (0 ≤ n ↔ qC9 s = true) := by
    refine q8q q1T rfl ?_
    simp [Tn, tS, sV]
    refine q23 s ha (fun h => ?_) (fun h i => ?_) s.length 0 (by omega) (by simp)
    · simp [Jz, h]
    · simp [Jz, h]
  obtain ⟨_, h1, n, rfl, h2⟩ := this
  exact ⟨n, h1, h2⟩
theorem q6X (s : List UInt8) (ha : ∀ b ∈ s, b < 128) : ∃ n : Int, Aa Tryz.prog Γ 213 [tS s, .fn 204 []] (tI n) ∧ (0 ≤ n ↔ qC9 s = true) := by
  obtain ⟨n, h1, h2⟩ := q9m (Γ := Γ) s ha
  refine ⟨n, Ac q1S rfl ?_, h2⟩
  simp [Ti]
  refine A3 h1 rfl ?_
  simp [Tj]
theorem q24 (s : List UInt8) (ha : ∀ b ∈ s, b < 128) : Aa Tryz.prog Γ 206 [tS s, .fn 204 []] (tB (qC9 s)) := by
  obtain ⟨n, h1, h2⟩ := q6X (Γ := Γ) s ha
  refine Ac Z2 rfl ?_
  simp [Oo]
  refine A3 h1 rfl ?_
  simp [Oq, h2]
def q3v (s : List UInt8) : Bool := decide (s ≠ [] ∧ s.length ≤ 32) && !qC9 s
theorem qAi (s : List UInt8) (ha : ∀ b ∈ s, b < 128) : Aa Tryz.prog Γ 192 [tS s] (tB (q3v s)) := by
  refine Ac q38 rfl ?_
  have h := q24 (Γ := Γ) s ha
  by_cases h1 : s = []
  · simp [Ie, Ig, tS, sV, h1, q3v]
  have h1' : s.isEmpty = false := by simpa using h1
  by_cases h2 : s.length ≤ 32
  · have h2' : (s.length : Int) ≤ 32 := by omega
    simp [Ie, tS, sV, h1, h1', h2']
    refine A3 h rfl ?_
    simp [Ig, q3v, h1, h2]
  · have h2' : ¬ (s.length : Int) ≤ 32 := by omega
    simp [Ie, Ig, tS, sV, h1, h1', h2', h2, q3v]
def Q2 (c : B9) (m : Mm) : Int :=
  if Wy m.addr.l 8 = true ∨ Wy m.data.l 32 = true then 8 else if m.addr.l.any (Qp c) = true ∨ m.data.l.any (Qp c) = true ∨ Qp c m.write = true then 1 else 0
theorem qAj (c : B9) (m : Mm) (hc : CirOk c) (hm : m.addr.l.length ≤ 1000000000 ∧ m.data.l.length ≤ 1000000000) : Aa Tryz.prog Γ 173 [.agg (tC c), .agg (tMm m)] (tI (Q2 c m)) := by
  refine Ac q36 rfl ?_
  have hn := hc.nodes
  have e1 := Y5 (Γ := Γ) c hn m.addr.l m.addr.cap m.addr.nl hm.1
  have e2 := Y5 (Γ := Γ) c hn m.data.l m.data.cap m.data.nl hm.2
  have e3 := Vh (Γ := Γ) c
  have e4 := q4d (Γ := Γ) m.addr.l m.addr.cap m.addr.nl 8 hm.1
  have e5 := q4d (Γ := Γ) m.data.l m.data.cap m.data.nl 32 hm.2
  have e6 := Z4 (Γ := Γ) c m.write hn
  simp [Wv, tC, tMm, Ab, Af, Am, As]
  refine A8 e3 rfl ?_
  simp
  refine A3 e4 rfl ?_
  have fin2 : ∀ b : Bool, b = decide (m.addr.l.any (Qp c) = true ∨ m.data.l.any (Qp c) = true ∨ Qp c m.write = true) → (Wy m.addr.l 8 = false) → (Wy m.data.l 32 = false) → Q2 c m = if b then 1 else 0 := by
    intro b hb h1 h2
    subst hb
    unfold Q2
    rw [if_neg (by simp [h1, h2])]
    simp
  by_cases h1 : Wy m.addr.l 8 = true
  · simp [h1, Di, Q2]
  have h1' : Wy m.addr.l 8 = false := by simpa using h1
  simp [h1']
  refine A3 e5 rfl ?_
  by_cases h2 : Wy m.data.l 32 = true
  · simp [h2, Di, Q2]
  have h2' : Wy m.data.l 32 = false := by simpa using h2
  simp [h2']
  refine A3 e1 rfl ?_
  generalize m.addr.l.any (Qp c) = b1 at e1 fin2
  generalize m.data.l.any (Qp c) = b2 at e2 fin2
  generalize Qp c m.write = b3 at e6 fin2
  cases b1 with
  | true => simp [Di, fin2 true (by simp) h1' h2']
  | false =>
    simp
    refine A3 e2 rfl ?_
    cases b2 with
    | true => simp [Di, fin2 true (by simp) h1' h2']
    | false =>
      simp
      refine q0V e6 ?_
      cases b3 with
      | true => simp [Di, fin2 true (by simp) h1' h2']
      | false => simp [Di, fin2 false (by simp) h1' h2']
def Q3 (l : List (List UInt8)) : List (Value × T) := l.map fun s => (sV s, tB true)
theorem qHB (a b : List UInt8) : Qu (sV a) (sV b) = decide (a = b) := by
  simp only [Qu, sV]
  by_cases h : a = b
  · subst h; simp [q9c]
  · have : ¬ (ByteArray.mk a.toArray) = ⟨b.toArray⟩ := fun e => h (by simpa using e)
    have h2 : ((ByteArray.mk a.toArray) == ⟨b.toArray⟩) = false := by
      cases hq : ((ByteArray.mk a.toArray) == ⟨b.toArray⟩)
      · rfl
      · exact absurd ((q9c _ _).1 hq) this
    rw [h2]; simp [h]
theorem Wz (x : List UInt8) : ∀ l : List (List UInt8), E0 (sV x) (Q3 l) = if x ∈ l then some (tB true) else none
  | [] => rfl
  | y :: l => by
    have ih := Wz x l
    simp only [Q3, List.map_cons, E0, qHB] at ih ⊢
    by_cases h : x = y
    · simp [h]
    · simp [h, ih]
theorem Vw (x : List UInt8) : ∀ l : List (List UInt8), x ∉ l → q0J (sV x) (tB true) (Q3 l) = Q3 (l ++ [x])
  | [], _ => rfl
  | y :: l, h => by
    have ih := Vw x l (fun hm => h (List.mem_cons_of_mem _ hm))
    have hne : x ≠ y := fun e => h (by simp [e])
    simp only [Q3, List.map_cons, q0J, qHB, List.cons_append] at ih ⊢
    simp [hne, ih]
theorem Zq (l : List (List UInt8)) : Hz .str (Q3 l) := by
  intro e he; obtain ⟨s, _, rfl⟩ := List.mem_map.1 he; rfl
def Iq : List (List UInt8) → List (List UInt8) → Int
  | _, [] => 0
  | done, s :: l => if q3v s = false ∨ s ∈ done then 5 else Iq (done ++ [s]) l
theorem q7S {Q : AX → St → Prop} (n : Sl (List UInt8)) (hl : n.l.length ≤ 1000000000) (ha : ∀ s ∈ n.l, ∀ b ∈ s, b < 128) (R : Int)
    (h0 : R = 0 → ∀ m : List (Value × T), Q (.exit 0) ⟨[(3, .lm 6), (8, .t (Af n)), (9, .t (tI n.l.length)), (10, .t (tI n.l.length)), (11, .t (tB false))], [(6, .mp m)]⟩)
    (h5 : R = 5 → Q .ret ⟨[(2, .t (tI 5))], []⟩) : ∀ (k i : Nat), k + i = n.l.length → Iq (n.l.take i) (n.l.drop i) = R →
    run Tryz.prog Γ Ji Q ⟨[(3, .lm 6), (8, .t (Af n)), (9, .t (tI n.l.length)), (10, .t (tI i))], [(6, .mp (Q3 (n.l.take i)))]⟩
  | 0, i, h, hR => by
    refine R1 fun K hK => ?_
    have h2 : ¬ i < n.l.length := by omega
    have h3 : i = n.l.length := by omega
    simp [h2, Af]
    subst h3
    refine h0 ?_ _
    rw [← hR]; simp [Iq]
  | k + 1, i, h, hR => by
    refine R1 fun K hK => ?_
    have h2 : i < n.l.length := by omega
    simp (disch := omega) [h2, Af, A0, B1 ([] : List UInt8), A9]
    refine A3 (qAi n.l[i] (ha _ (List.getElem_mem h2))) rfl ?_
    have hd : n.l.drop i = n.l[i] :: n.l.drop (i + 1) := List.drop_eq_getElem_cons h2
    rw [hd] at hR
    simp only [Iq] at hR
    have ht : n.l.take i ++ [n.l[i]] = n.l.take (i + 1) := by rw [List.take_add_one]; simp [h2]
    by_cases hq : q3v n.l[i] = true
    · have hfit := Zq (n.l.take i)
      simp [hq, tS, KT.fits, sV, hfit]
      rw [show (Value.string ⟨(n.l[i]).toArray⟩) = sV n.l[i] from rfl, Wz]
      by_cases hm : n.l[i] ∈ n.l.take i
      · simp [hm]
        refine h5 ?_
        rw [← hR, if_pos (.inr hm)]
      · rw [if_neg (by simp [hq, hm]), ht] at hR
        simp (disch := omega) [hm, sV, KT.fits, hfit, A5]
        rw [hK]
        have := q7S n hl ha R h0 h5 k (i + 1) (by omega) hR
        rw [show (Value.string ⟨(n.l[i]).toArray⟩) = sV n.l[i] from rfl, Vw _ _ hm, ht]
        exact_mod_cast this
    · have hq' : q3v n.l[i] = false := by simpa using hq
      simp [hq']
      refine h5 ?_
      rw [← hR, if_pos (.inl hq')]
theorem qCA (c : B9) (hc : CirOk c) (ha : ∀ s ∈ c.names.l, ∀ b ∈ s, b < 128) : Aa Tryz.prog Γ 172 [.agg (tC c)] (tI (Iq [] c.names.l)) := by
  refine Ac q3u rfl ?_
  simp [Y4, tC, Ab, Af, Am, As, A0]
  refine q7S c.names hc.names ha (Iq [] c.names.l) (fun h m => ?_) (fun h => ?_) c.names.l.length 0 (by omega) (by simp)
  · simp [Q1, h]
  · simp [Q1, h]
def Dc : List Int → Int
  | [] => 0
  | e :: l => if e ≠ 0 then e else Dc l
theorem q3Q {α : Type} (f : α → Int) (l : List α) (i : Nat) (h : i < l.length) : Dc ((l.drop i).map f) = if f l[i] ≠ 0 then f l[i] else Dc ((l.drop (i + 1)).map f) := by
  rw [List.drop_eq_getElem_cons h]; rfl
theorem q66 {Q : AX → St → Prop} (hΓ : GOk Γ) (c : B9) (hc : CirOk c) (R : Int)
    (h0 : R = 0 → Q (.exit 1) ⟨[(1, .t (.ip (tC c) 0)), (36, .t (Ab c.nodes)), (37, .t (tI c.nodes.l.length)), (38, .t (tI c.nodes.l.length)), (39, .t (tB false))], []⟩)
    (h5 : R ≠ 0 → Q .ret ⟨[(2, .t (tI R))], []⟩) : ∀ (k i : Nat), k + i = c.nodes.l.length → Dc ((c.nodes.l.drop i).map (Dn c)) = R →
    run Tryz.prog Γ Jg Q ⟨[(1, .t (.ip (tC c) 0)), (36, .t (Ab c.nodes)), (37, .t (tI c.nodes.l.length)), (38, .t (tI i))], []⟩
  | 0, i, h, hR => by
    refine Qy fun K hK => ?_
    have h2 : ¬ i < c.nodes.l.length := by omega
    have h3 : i = c.nodes.l.length := by omega
    simp [h2]
    subst h3
    exact h0 (by rw [← hR]; simp [Dc])
  | k + 1, i, h, hR => by
    refine Qy fun K hK => ?_
    have h2 : i < c.nodes.l.length := by omega
    have hn := hc.nodes
    have hx := List.getElem_mem h2
    rw [q3Q (Dn c) _ _ h2] at hR
    have e := qDe (Γ := Γ) hΓ c c.nodes.l[i] hc (hc.kind _ hx) (hc.inn _ hx)
    simp (disch := omega) [h2, Ab, Ae, D3 Nd.d, Ba, Bw, tC, As]
    refine A3 e rfl ?_
    by_cases hq : Dn c c.nodes.l[i] = 0
    · rw [if_neg (by simp [hq])] at hR
      simp (disch := omega) [hq, A5]
      rw [hK]
      have := q66 hΓ c hc R h0 h5 k (i + 1) (by omega) hR
      simpa [tC, Ab, As] using this
    · rw [if_pos (by simpa using hq)] at hR
      simp [hq]
      rw [hR]
      exact h5 (by rw [← hR]; exact hq)
theorem q7T {Q : AX → St → Prop} (c : B9) (hc : CirOk c) (R : Int)
    (h0 : R = 0 → Q (.exit 3) ⟨[(1, .t (.ip (tC c) 0)), (55, .t (Am c.mems)), (56, .t (tI c.mems.l.length)), (57, .t (tI c.mems.l.length)), (58, .t (tB false))], []⟩)
    (h5 : R ≠ 0 → Q .ret ⟨[(2, .t (tI R))], []⟩) : ∀ (k i : Nat), k + i = c.mems.l.length → Dc ((c.mems.l.drop i).map (Q2 c)) = R →
    run Tryz.prog Γ Jh Q ⟨[(1, .t (.ip (tC c) 0)), (55, .t (Am c.mems)), (56, .t (tI c.mems.l.length)), (57, .t (tI i))], []⟩
  | 0, i, h, hR => by
    refine Qz fun K hK => ?_
    have h2 : ¬ i < c.mems.l.length := by omega
    have h3 : i = c.mems.l.length := by omega
    simp [h2]
    subst h3
    exact h0 (by rw [← hR]; simp [Dc])
  | k + 1, i, h, hR => by
    refine Qz fun K hK => ?_
    have h2 : i < c.mems.l.length := by omega
    have hn := hc.mems
    have hx := List.getElem_mem h2
    rw [q3Q (Q2 c) _ _ h2] at hR
    have e := qAj (Γ := Γ) c c.mems.l[i] hc (hc.addr _ hx)
    simp (disch := omega) [h2, Am, Ae, D3 Mm.d, q4c, tMm, tC, As]
    refine A3 e rfl ?_
    by_cases hq : Q2 c c.mems.l[i] = 0
    · rw [if_neg (by simp [hq])] at hR
      simp (disch := omega) [hq, A5]
      rw [hK]
      have := q7T c hc R h0 h5 k (i + 1) (by omega) hR
      simpa [tC, Am, As] using this
    · rw [if_pos (by simpa using hq)] at hR
      simp [hq]
      rw [hR]
      exact h5 (by rw [← hR]; exact hq)
def E2 (c : B9) : Int :=
  if 16384 < c.nodes.l.length ∨ 16 < c.mems.l.length ∨ 16384 < c.outs.l.length then 3 else if c.names.l.length ≠ c.nodes.l.length then 8
  else if Dc (c.nodes.l.map (Dn c)) ≠ 0 then Dc (c.nodes.l.map (Dn c))
  else if Iq [] c.names.l ≠ 0 then Iq [] c.names.l
  else if Dc (c.mems.l.map (Q2 c)) ≠ 0 then Dc (c.mems.l.map (Q2 c))
  else if c.outs.l.any (Qp c) = true then 1 else 0
theorem qCB (hΓ : GOk Γ) (c : B9) (hc : CirOk c) (ha : ∀ s ∈ c.names.l, ∀ b ∈ s, b < 128) : Aa Tryz.prog Γ 148 [.agg (tC c)] (tI (E2 c)) := by
  refine Ac q3t rfl ?_
  have hn := hc.nodes
  have hm := hc.mems
  have ho := hc.outs
  have hnn := hc.names
  have en := qCA (Γ := Γ) c hc ha
  have eo := Vh (Γ := Γ) c
  have ec := Y5 (Γ := Γ) c hn c.outs.l c.outs.cap c.outs.nl ho
  by_cases h1 : 16384 < c.nodes.l.length ∨ 16 < c.mems.l.length ∨ 16384 < c.outs.l.length
  · have : E2 c = 3 := by unfold E2; rw [if_pos h1]
    rw [this]
    by_cases g1 : (16384 : Int) < c.nodes.l.length
    · simp [Ec, Cb, tC, Ab, Af, Am, As, Ae, A0, g1]
    by_cases g2 : (16 : Int) < c.mems.l.length
    · simp [Ec, Cb, tC, Ab, Af, Am, As, Ae, A0, g1, g2]
    have g3 : (16384 : Int) < c.outs.l.length := by omega
    simp [Ec, Cb, tC, Ab, Af, Am, As, Ae, A0, g1, g2, g3]
  have g1 : ¬ (16384 : Int) < c.nodes.l.length := by omega
  have g2 : ¬ (16 : Int) < c.mems.l.length := by omega
  have g3 : ¬ (16384 : Int) < c.outs.l.length := by omega
  by_cases h2 : c.names.l.length = c.nodes.l.length
  case neg =>
    have : E2 c = 8 := by unfold E2; rw [if_neg h1, if_pos h2]
    have h2' : ¬ (c.names.l.length : Int) = c.nodes.l.length := by omega
    rw [this]
    simp [Ec, Cb, tC, Ab, Af, Am, As, Ae, A0, g1, g2, g3, h2']
  simp [Ec, tC, Ab, Af, Am, As, Ae, A0, g1, g2, g3, h2]
  have e0 : E2 c = if Dc (c.nodes.l.map (Dn c)) ≠ 0 then Dc (c.nodes.l.map (Dn c))
      else if Iq [] c.names.l ≠ 0 then Iq [] c.names.l
      else if Dc (c.mems.l.map (Q2 c)) ≠ 0 then Dc (c.mems.l.map (Q2 c))
      else if c.outs.l.any (Qp c) = true then 1 else 0 := by
    unfold E2; rw [if_neg h1, if_neg (by simp [h2])]
  refine q66 hΓ c hc (Dc (c.nodes.l.map (Dn c))) (fun h3 => ?_) (fun h3 => ?_) c.nodes.l.length 0 (by omega) (by simp)
  case refine_2 =>
    rw [if_pos h3] at e0
    simp [Cb, e0]
  rw [if_neg (by rw [h3]; decide)] at e0
  simp [tC, Ab, Af, Am, As]
  refine A3 en rfl ?_
  by_cases h4 : Iq [] c.names.l = 0
  case neg =>
    rw [if_pos h4] at e0
    simp [h4, Cb, e0]
  rw [if_neg (by rw [h4]; decide)] at e0
  simp [h4, Ae]
  refine q7T c hc (Dc (c.mems.l.map (Q2 c))) (fun h5 => ?_) (fun h5 => ?_) c.mems.l.length 0 (by omega) (by simp)
  case refine_2 =>
    rw [if_pos h5] at e0
    simp [Cb, e0]
  rw [if_neg (by rw [h5]; decide)] at e0
  simp [tC, Ab, Af, Am, As]
  refine A8 eo rfl ?_
  simp
  refine A3 ec rfl ?_
  generalize c.outs.l.any (Qp c) = b at e0
  cases b <;> simp [Cb, e0]
def Ju (ks : List Int) : List Nd → Nat → List Int
  | [], _ => []
  | x :: l, i => if ks.contains x.k then (i : Int) :: Ju ks l (i + 1) else Ju ks l (i + 1)
theorem Vi (ks : List Int) : ∀ (a b : List Nd) (i : Nat), Ju ks (a ++ b) i = Ju ks a i ++ Ju ks b (i + a.length)
  | [], b, i => by simp [Ju]
  | x :: a, b, i => by
    have := Vi ks a b (i + 1)
    simp only [List.cons_append, Ju, this, List.length_cons]
    split <;> simp [Nat.add_assoc, Nat.add_comm 1]
theorem Vj (ks : List Int) : ∀ (a : List Nd) (i : Nat), (Ju ks a i).length ≤ a.length
  | [], _ => by simp [Ju]
  | x :: a, i => by
    have := Vj ks a (i + 1)
    simp only [Ju]
    split <;> simp <;> omega
theorem qCo {Q : AX → St → Prop} (n : Sl Nd) (hl : n.l.length ≤ 1000000000) (ks : List Int) (kc : Option Nat) (kn : Option Bool) (hk : ks.length ≤ 1000000000)
    (h0 : Q (.exit 0) ⟨[(1, .t (.sl (Ad tK ks) kc kn)), (5, .ls 23 0 (Ju ks n.l 0).length none), (9, .t (Ab n)), (10, .t (tI n.l.length)), (11, .t (tI n.l.length)), (12, .t (tB false))], [(23, .sl 3 1 (Ak (Ju ks n.l 0)))]⟩) : ∀ (k i : Nat), k + i = n.l.length →
    run Tryz.prog Γ Po Q ⟨[(1, .t (.sl (Ad tK ks) kc kn)), (5, .ls 23 0 (Ju ks (n.l.take i) 0).length none), (9, .t (Ab n)), (10, .t (tI n.l.length)), (11, .t (tI i))], [(23, .sl 3 1 (Ak (Ju ks (n.l.take i) 0)))]⟩
  | 0, i, h => by
    refine Wc fun K hK => ?_
    have h2 : ¬ i < n.l.length := by omega
    have h3 : i = n.l.length := by omega
    simp [h2]
    subst h3
    simpa using h0
  | k + 1, i, h => by
    refine Wc fun K hK => ?_
    have h2 : i < n.l.length := by omega
    have ht : n.l.take (i + 1) = n.l.take i ++ [n.l[i]] := by rw [List.take_add_one]; simp [h2]
    have hlen := Vj ks (n.l.take i) 0
    have htl : (n.l.take i).length = i := by simp; omega
    have hal : Ju ks (n.l.take (i + 1)) 0 = if ks.contains n.l[i].k then Ju ks (n.l.take i) 0 ++ [(i : Int)] else Ju ks (n.l.take i) 0 := by
      rw [ht, Vi, htl]
      simp only [Ju, Nat.zero_add]
      split <;> simp
    have e := q8O (Γ := Γ) ks kc kn n.l[i].k hk
    simp (disch := omega) [h2, Ab, Ae, D3 Nd.d, Ba, Bw, As]
    refine A3 e rfl ?_
    generalize ks.contains n.l[i].k = b at hal
    have ih := qCo n hl ks kc kn hk h0 k (i + 1) (by omega)
    rw [hal] at ih
    cases b with
    | false =>
      simp (disch := omega) [A5]
      rw [hK]
      simpa [Ab] using ih
    | true =>
      have hw : E1 1 [[tI (i : Int)]] := by intro e he; simp at he; subst he; rfl
      simp (disch := omega) [A5, A0, A9, hw]
      rw [hK]
      simp [Ab] at ih
      rw [Bq (f := tI) (x := (i : Int))]
      exact ⟨by omega, ih⟩
theorem qGJ (c : B9) (hc : CirOk c) (ks : List Int) (kc : Option Nat) (kn : Option Bool) (hk : ks.length ≤ 1000000000) :
    Aa Tryz.prog Γ 80 [.agg (tC c), .sl (Ad tK ks) kc kn] (.sl (Ak (Ju ks c.nodes.l 0)) (some (Ju ks c.nodes.l 0).length) none) := by
  refine Ac q6U rfl ?_
  simp [q1t, tC, Ab, Af, Am, As, Ae]
  refine qCo c.nodes hc.nodes ks kc kn hk ?_ c.nodes.l.length 0 (by omega)
  simp
  refine ⟨_, _, qC5 3 (Ak (Ju ks c.nodes.l 0)) (Ju ks c.nodes.l 0).length none A9, ?_⟩
  simp [q1u]
abbrev M6 := List (Int × Int)
def tLn (p : Int × Int) : List T := [tI p.1, tI p.2]
def q7U (i : Nat) (r : M6) : AV := if r = [] then .t (.sl [] (some 0) (some true)) else .ls (100000 + i) 0 r.length none
def Cf (rows : List M6) : List AV := rows.mapIdx q7U
def K2 (rows : List M6) (id : Nat) : Option Bf := match rows[id - 100000]? with
  | some r => if r = [] then none else some (.sl 205 2 (Az tLn r))
  | none => none
def K3 (k : Nat) (g : Nat → Option Bf) : List (Nat × Bf) := (List.range' 100000 k).filterMap fun id => (g id).map fun r => (id, r)
def D2 (rows : List M6) : List (Nat × Bf) := K3 16384 (K2 rows)
theorem q7V {α β : Type} {f g : α → Option β} : ∀ {l : List α}, (∀ x ∈ l, f x = g x) → l.filterMap f = l.filterMap g
  | [], _ => rfl
  | x :: l, h => by
    rw [List.filterMap_cons, List.filterMap_cons, h x List.mem_cons_self, q7V (l := l) fun y hy => h y (List.mem_cons_of_mem _ hy)]
theorem qGK {l : List Nat} {g : Nat → Option Bf} {t : Nat} : A7 (l.filterMap fun id => (g id).map fun r => (id, r)) t = if t ∈ l then g t else none := by
  induction l with
  | nil => simp [A7]
  | cons k l ih =>
    rw [List.filterMap_cons]
    cases hg : g k with
    | none =>
      simp only [Option.map_none, ih]
      by_cases h : t = k
      · subst h; simp [hg]
      · simp [h]
    | some r =>
      simp only [Option.map_some, A7, ih]
      by_cases h : k = t
      · subst h; simp [hg]
      · simp [h, Ne.symm h]
theorem Nv {k : Nat} {g : Nat → Option Bf} {t : Nat} : A7 (K3 k g) t = if 100000 ≤ t ∧ t < 100000 + k then g t else none := by
  unfold K3; rw [qGK]
  by_cases h : 100000 ≤ t ∧ t < 100000 + k
  · rw [if_pos h, if_pos (by rw [List.mem_range'_1]; exact h)]
  · rw [if_neg h, if_neg (by rw [List.mem_range'_1]; exact h)]
theorem q8w {rows : List M6} {l : List (Nat × Bf)} (h : ∀ t ∈ List.range' 100000 16384, A7 l t = K2 rows t) : Lg.keep (List.range' 100000 16384) l = D2 rows := by
  unfold Lg.keep D2 K3
  exact q7V fun t ht => by rw [h t ht]
theorem q5R {env : List (Nat × AV)} {hp : List (Nat × Bf)} {ks : List Nat} {rows : List M6} (hk : (hp.map (·.1)).filter (fun id => !([14] : List Nat).contains id && !(decide (100000 ≤ id) && decide (id < 100000 + 16384))) = [])
    (h14 : A7 hp 14 = some (.bx (Cf rows))) (hr : ∀ t, 100000 ≤ t → t < 116384 → A7 hp t = K2 rows t) :
    Gh.run (.keepB ks [14] 100000 16384) ⟨env, hp⟩ = ⟨Lg.keep ks env, (14, .bx (Cf rows)) :: D2 rows⟩ := by
  simp only [Gh.run, q6p, hk, I1, q5N, h14, q7K, List.cons_append, List.nil_append]
  congr 2
  simp only [Lg.keep, D2, K3]
  refine q7V fun t ht => ?_
  rw [List.mem_range'_1] at ht
  rw [hr t ht.1 (by omega)]
theorem Zr {k : Nat} {g : Nat → Option Bf} : ∀ p ∈ K3 k g, 100000 ≤ p.1 ∧ p.1 < 100000 + k := by
  intro p hp
  obtain ⟨id, hid, he⟩ := List.mem_filterMap.1 hp
  rw [List.mem_range'_1] at hid
  cases hg : g id with
  | none => rw [hg] at he; cases he
  | some r => rw [hg] at he; simp at he; subst he; exact hid
theorem q67 {rows : List M6} : ((D2 rows).map (·.1)).filter (fun id => !([14] : List Nat).contains id && !(decide (100000 ≤ id) && decide (id < 100000 + 16384))) = [] := by
  rw [List.filter_eq_nil_iff]
  intro id hid
  obtain ⟨p, hp, rfl⟩ := List.mem_map.1 hid
  have := Zr p hp
  simp [this.1, this.2]
theorem q2u {rows : List M6} {t : Nat} : A7 ((14, .bx (Cf rows)) :: D2 rows) t = if t = 14 then some (.bx (Cf rows)) else if 100000 ≤ t ∧ t < 116384 then K2 rows t else none := by
  simp only [A7, D2, Nv]
  by_cases h : t = 14
  · simp [h]
  · simp [h, Ne.symm h]
theorem Vk {env : List (Nat × AV)} {ks : List Nat} {rows : List M6} : Gh.run (.keepB ks [14] 100000 16384) ⟨env, (14, .bx (Cf rows)) :: D2 rows⟩ = ⟨Lg.keep ks env, (14, .bx (Cf rows)) :: D2 rows⟩ := by
  refine q5R ?_ (by simp [A7]) fun t h1 h2 => ?_
  · rw [List.map_cons, List.filter_cons]; simp only [q67]; simp
  · rw [q2u, if_neg (by omega), if_pos ⟨h1, h2⟩]
theorem q9n {id : Nat} (h : id < 100000) (rows : List M6) : (Cf rows).map (Fe id) = Cf rows := by
  apply List.ext_getElem?
  intro i
  simp only [Cf, List.getElem?_map, List.getElem?_mapIdx, Option.map_map]
  cases rows[i]? with
  | none => rfl
  | some r =>
    simp only [Option.map_some, Function.comp_def, q7U]
    split
    · rfl
    · simp only [Fe, kill1]; rw [if_neg (by omega)]
theorem qGL {env : List (Nat × AV)} {ks : List Nat} {rows : List M6} {q : Bf} : Gh.run (.keepB ks [14] 100000 16384) ⟨env, (6, q) :: (14, .bx (Cf rows)) :: D2 rows⟩ = ⟨(Lg.keep ks env).map (fun p => (p.1, Fe 6 p.2)), (14, .bx (Cf rows)) :: D2 rows⟩ := by
  have hk : (((6, q) :: (14, Bf.bx (Cf rows)) :: D2 rows).map (·.1)).filter (fun id => !([14] : List Nat).contains id && !(decide (100000 ≤ id) && decide (id < 100000 + 16384))) = [6] := by
    rw [List.map_cons, List.map_cons, List.filter_cons, List.filter_cons]; simp only [q67]; simp
  have hl : ∀ t, t ≠ 6 → A7 (St.kill 6 ⟨Lg.keep ks env, (6, q) :: (14, .bx (Cf rows)) :: D2 rows⟩).hp t = A7 ((14, .bx (Cf rows)) :: D2 rows) t := by
    intro t ht
    rw [Zf, if_neg ht]
    show (A7 ((6, q) :: (14, .bx (Cf rows)) :: D2 rows) t).map _ = _
    rw [A7, if_neg (Ne.symm ht), q2u]
    by_cases h : t = 14
    · simp [h, P3, q9n]
    · simp only [h, ↓reduceIte]
      split
      · unfold K2
        split
        · split <;> simp [P3]
        · rfl
      · rfl
  simp only [Gh.run, q6p, hk, I1, q5N, q7K, List.cons_append, List.nil_append]
  rw [hl 14 (by omega)]
  simp only [A7, ↓reduceIte, List.cons_append, List.nil_append]
  congr 2
  refine q8w fun t ht => ?_
  rw [List.mem_range'_1] at ht
  rw [hl t (by omega), q2u, if_neg (by omega), if_pos ⟨ht.1, by omega⟩]
def H9 (rows : List M6) (n : Nat) (p : Int × Int) : List M6 := rows.set n (rows.getD n [] ++ [p])
theorem q3w {rows : List M6} {n : Nat} {p : Int × Int} : (H9 rows n p).length = rows.length := by simp [H9]
theorem qDi {env : List (Nat × AV)} {ks : List Nat} {rows : List M6} {n : Nat} {p : Int × Int} {hp : List (Nat × Bf)} {cs : List AV} (hn : n < rows.length) (hn2 : rows.length ≤ 16384)
    (hlen : cs.length = rows.length) (hcs : ∀ i, i ≠ n → cs[i]? = (Cf rows)[i]?) (hc : cs[n]? = some (.ls 47 0 ((rows.getD n []).length + 1) none)) (h47 : A7 hp 47 = some (.sl 205 2 (Az tLn (rows.getD n [] ++ [p])))) (h14 : A7 hp 14 = some (.bx cs))
    (hno : A7 hp (100000 + n) = none) (hoth : ∀ t, 100000 ≤ t → t < 116384 → t ≠ 100000 + n → A7 hp t = K2 rows t) (hkeys : ∀ q ∈ hp, q.1 = 47 ∨ q.1 = 14 ∨ (100000 ≤ q.1 ∧ q.1 < 116384)) :
    Gh.run (.keepB ks [14] 100000 16384) (Zi 47 (100000 + n) ⟨env, hp⟩) = ⟨(Lg.keep ks (env.map fun q => (q.1, Bv (H7 47 (100000 + n)) q.2))), (14, .bx (Cf (H9 rows n p))) :: D2 (H9 rows n p)⟩ := by
  have hr : Zi 47 (100000 + n) ⟨env, hp⟩ = ⟨env.map fun q => (q.1, Bv (H7 47 (100000 + n)) q.2), Xv 47 (100000 + n) hp⟩ := by
    unfold Zi
    rw [if_pos]
    simp [hno, h47]; omega
  rw [hr]
  have hget : ∀ i, (H9 rows n p)[i]? = if i = n then some (rows.getD n [] ++ [p]) else rows[i]? := by
    intro i
    unfold H9
    rw [List.getElem?_set]
    by_cases h : n = i
    · subst h; simp [hn]
    · simp [h, Ne.symm h]
  have hl := fun t => q3o (a := 47) (b := 100000 + n) (t := t) hno (by omega)
  refine q5R ?_ ?_ fun t h1 h2 => ?_
  · rw [List.filter_eq_nil_iff]
    intro id hid
    have : id = 100000 + n ∨ id ≠ 47 ∧ ∃ q ∈ hp, q.1 = id := by
      clear hl hr hno hoth h14 h47
      induction hp with
      | nil => simp [Xv] at hid
      | cons q l ih =>
        obtain ⟨k, r⟩ := q
        simp only [Xv, List.map_cons, List.mem_cons] at hid
        rcases hid with hid | hid
        · by_cases h : k = 47
          · left; simpa [h] using hid
          · right; simp [h] at hid; subst hid; exact ⟨h, _, List.mem_cons_self, rfl⟩
        · rcases ih (fun q hq => hkeys q (List.mem_cons_of_mem _ hq)) hid with h | ⟨h, q, hq, e⟩
          · exact .inl h
          · exact .inr ⟨h, q, List.mem_cons_of_mem _ hq, e⟩
    rcases this with h | ⟨h, q, hq, rfl⟩
    · subst h; simp; intro _; omega
    · rcases hkeys q hq with e | e | ⟨e1, e2⟩
      · exact absurd e h
      · simp [e]
      · simp; intro _; omega
  · rw [hl, if_neg (by omega), if_neg (by omega), h14]
    simp only [Option.map_some, Cj, Option.some.injEq, Bf.bx.injEq]
    apply List.ext_getElem?
    intro i
    simp only [List.getElem?_map, Cf, List.getElem?_mapIdx]
    rw [hget]
    by_cases h : i = n
    · subst h
      rw [hc]
      have : ¬ (rows.getD i [] ++ [p] = []) := by simp
      simp only [↓reduceIte, Option.map_some, Option.some.injEq]
      unfold q7U
      rw [if_neg this]
      simp [Bv, ren1, ren0, H7]
    · rw [hcs i h, if_neg h]
      simp only [Cf, List.getElem?_mapIdx, Option.map_map]
      cases hrow : rows[i]? with
      | none => rfl
      | some r =>
        simp only [Option.map_some, Function.comp_def, q7U, Option.some.injEq]
        split
        · rfl
        · simp only [Bv, ren1, ren0, H7]; rw [if_neg (by omega)]
  · rw [hl]
    by_cases h : t = 100000 + n
    · rw [if_pos h, h47]
      subst h
      unfold K2
      rw [show 100000 + n - 100000 = n by omega, hget, if_pos rfl]
      simp [Cj]
    · rw [if_neg h, if_neg (by omega), hoth t h1 h2 h]
      unfold K2
      rw [hget, if_neg (by omega)]
      cases rows[t - 100000]? with
      | none => rfl
      | some r => simp only; split <;> simp [Cj]
def q5S (k i : Nat) (r : M6) : AV := if r = [] then .t (.sl [] (some 0) (some true)) else if k ≤ i then .t (.sl (Az tLn r) none none) else .ls (100000 + i) 0 r.length none
theorem qEn {env : List (Nat × AV)} {rows : List M6} (he : ∀ id r, 100000 ≤ id → ∀ p ∈ env, D6 id r p.2 = p.2) (k : Nat) : St.freeze (100000 + k) ⟨env, (14, .bx (rows.mapIdx (q5S (k + 1)))) :: K3 (k + 1) (K2 rows)⟩ = ⟨env, (14, .bx (rows.mapIdx (q5S k))) :: K3 k (K2 rows)⟩ := by
  have hsplit : K3 (k + 1) (K2 rows) = K3 k (K2 rows) ++ (match K2 rows (100000 + k) with | some r => [(100000 + k, r)] | none => []) := by
    unfold K3
    rw [← List.range'_append (s := 100000) (m := k) (n := 1) (step := 1)]
    rw [List.filterMap_append]
    congr 1
    cases hr : K2 rows (100000 + k) <;> simp [hr]
  have hl : A7 ((14, Bf.bx (rows.mapIdx (q5S (k + 1)))) :: K3 (k + 1) (K2 rows)) (100000 + k) = K2 rows (100000 + k) := by
    rw [A7, if_neg (by omega), Nv, if_pos (by omega)]
  simp only [St.freeze, hl]
  cases hr : K2 rows (100000 + k) with
  | none =>
    rw [hr] at hsplit
    simp only [hsplit, List.append_nil]
    refine congrArg (fun l => (⟨env, (14, Bf.bx l) :: K3 k (K2 rows)⟩ : St)) ?_
    apply List.ext_getElem?
    intro i
    simp only [List.getElem?_mapIdx]
    cases hi : rows[i]? with
    | none => rfl
    | some r =>
      simp only [Option.map_some, q5S]
      by_cases h0 : r = []
      · simp [h0]
      · by_cases hik : i = k
        · subst hik
          unfold K2 at hr
          rw [show 100000 + i - 100000 = i by omega, hi] at hr
          simp [h0] at hr
        · have : (k + 1 ≤ i) = (k ≤ i) := by apply propext; omega
          simp [this]
  | some q =>
    obtain ⟨r, hrow, hne, rfl⟩ : ∃ r, rows[k]? = some r ∧ r ≠ [] ∧ q = .sl 205 2 (Az tLn r) := by
      unfold K2 at hr
      rw [show 100000 + k - 100000 = k by omega] at hr
      split at hr
      · rename_i r h
        split at hr
        · cases hr
        · rename_i hne; simp only [Option.some.injEq] at hr; exact ⟨r, h, hne, hr.symm⟩
      · cases hr
    rw [hr] at hsplit
    simp only [Bf.closed, ↓reduceIte]
    have e1 : env.map (fun p => (p.1, D6 (100000 + k) (.sl 205 2 (Az tLn r)) p.2)) = env := by
      conv => rhs; rw [← List.map_id env]
      refine List.map_congr_left fun p hp => ?_
      rw [he _ _ (by omega) p hp]; rfl
    have e2 : del (100000 + k) ((14, Bf.bx (rows.mapIdx (q5S (k + 1)))) :: K3 (k + 1) (K2 rows)) = (14, Bf.bx (rows.mapIdx (q5S (k + 1)))) :: K3 k (K2 rows) := by
      rw [hsplit]
      unfold del
      rw [List.filter_cons, if_pos (by simp; omega), List.filter_append]
      congr 1
      have h1 : (K3 k (K2 rows)).filter (fun p => p.1 != 100000 + k) = K3 k (K2 rows) := by
        rw [List.filter_eq_self]
        intro p hp
        have := Zr p hp
        simp; omega
      rw [h1]; simp
    rw [e1, e2]
    have e3 : (K3 k (K2 rows)).map (fun p => (p.1, F4 (100000 + k) (.sl 205 2 (Az tLn r)) p.2)) = K3 k (K2 rows) := by
      conv => rhs; rw [← List.map_id (K3 k (K2 rows))]
      refine List.map_congr_left fun p hp => ?_
      obtain ⟨id, hid, hee⟩ := List.mem_filterMap.1 hp
      cases hg : K2 rows id with
      | none => rw [hg] at hee; cases hee
      | some q =>
        rw [hg] at hee
        simp only [Option.map_some, Option.some.injEq] at hee; subst hee
        unfold K2 at hg
        split at hg
        · split at hg
          · cases hg
          · simp only [Option.some.injEq] at hg; subst hg; rfl
        · cases hg
    rw [List.map_cons, e3]
    refine congrArg (fun l => (⟨env, (14, Bf.bx l) :: K3 k (K2 rows)⟩ : St)) ?_
    apply List.ext_getElem?
    intro i
    simp only [List.getElem?_map, List.getElem?_mapIdx, Option.map_map]
    cases hi : rows[i]? with
    | none => rfl
    | some r' =>
      simp only [Option.map_some, Function.comp_def, q5S]
      by_cases h0 : r' = []
      · simp [h0, D6, frz1, frz0]
      · simp only [h0, ↓reduceIte]
        by_cases hik : i = k
        · subst hik
          rw [hrow] at hi; cases hi
          rw [if_neg (by omega), if_pos (Nat.le_refl _)]
          simp [D6, frz1, frz0, Aj, A7]
        · by_cases hlt : k + 1 ≤ i
          · rw [if_pos hlt, if_pos (by omega)]; rfl
          · rw [if_neg hlt, if_neg (by omega)]
            simp only [D6, frz1, frz0]
            rw [if_neg (by omega)]
theorem qCp {env : List (Nat × AV)} {rows : List M6} (he : ∀ id r, 100000 ≤ id → ∀ p ∈ env, D6 id r p.2 = p.2) : ∀ k, qC0 100000 k ⟨env, (14, .bx (rows.mapIdx (q5S k))) :: K3 k (K2 rows)⟩ = ⟨env, (14, .bx (rows.mapIdx (q5S 0))) :: []⟩
  | 0 => by simp [qC0, K3]
  | k + 1 => by
    rw [qC0, qEn he k]
    exact qCp he k
def q8Q (r : M6) : T := if r = [] then .sl [] (some 0) (some true) else .sl (Az tLn r) none none
theorem qEo {env : List (Nat × AV)} {rows : List M6} (hl : rows.length ≤ 16384) (he : ∀ id r, 100000 ≤ id → ∀ p ∈ env, D6 id r p.2 = p.2) : Gh.run (.frzs 100000 16384) ⟨env, (14, .bx (Cf rows)) :: D2 rows⟩ = ⟨env, [(14, .bx (rows.map fun r => .t (q8Q r)))]⟩ := by
  have h1 : Cf rows = rows.mapIdx (q5S 16384) := by
    apply List.ext_getElem?
    intro i
    simp only [Cf, List.getElem?_mapIdx]
    cases hi : rows[i]? with
    | none => rfl
    | some r =>
      have := (List.getElem?_eq_some_iff.1 hi).1
      simp only [Option.map_some, q7U, q5S]
      rw [if_neg (show ¬ 16384 ≤ i by omega)]
  have h2 : rows.mapIdx (q5S 0) = rows.map fun r => .t (q8Q r) := by
    apply List.ext_getElem?
    intro i
    simp only [List.getElem?_mapIdx, List.getElem?_map]
    cases rows[i]? with
    | none => rfl
    | some r =>
      simp only [Option.map_some, q5S, q8Q, Nat.zero_le, ↓reduceIte]
      split <;> rfl
  have := qCp (rows := rows) he 16384
  rw [h2] at this
  simp only [Gh.run, h1, D2]
  exact this
theorem Rx {rows : List M6} : (Cf rows).length = rows.length := by simp [Cf]
theorem qEp {rows : List M6} {n : Nat} (h : n < rows.length) : ((Cf rows).drop n).take 1 = [q7U n (rows.getD n [])] := by
  have : (Cf rows).drop n = q7U n (rows.getD n []) :: (Cf rows).drop (n + 1) := by
    rw [List.drop_eq_getElem_cons (by rw [Rx]; exact h)]
    simp [Cf, h]
  rw [this]; rfl
theorem q9o {l : M6} : E1 2 (Az tLn l) := q4Z fun _ => rfl
theorem qI5 {Q : AX → St → Prop} (rows : List M6) (n : Nat) (hn : n < rows.length) (hn2 : rows.length ≤ 16384) (i k : Int) (hr : (rows.getD n []).length ≤ 1000000000) (t4 t18 t19 t20 t26 t27 t28 t36 : T) (m : Nat) (hm : m = rows.length)
    (h : Q .normal ⟨[(3, .lb 14 m), (4, .t t4), (5, .t (tI i)), (18, .t t18), (19, .t t19), (20, .t t20), (26, .t t26), (27, .t t27), (28, .t t28)], (14, .bx (Cf (H9 rows n (i, k)))) :: D2 (H9 rows n (i, k))⟩) :
    Fv Tryz.prog Γ Du ⟨[(3, .lb 14 m), (4, .t t4), (5, .t (tI i)), (7, .t (tI k)), (8, .t (tI n)), (18, .t t18), (19, .t t19), (20, .t t20), (26, .t t26), (27, .t t27), (28, .t t28), (36, .t t36)], (14, .bx (Cf rows)) :: D2 rows⟩
      (fun s1 => Q .normal (ghs [.renS 47 100000 8, .keepB [3, 4, 5, 18, 19, 20, 26, 27, 28] [14] 100000 16384] s1)) ⟨⟩ := by
  subst hm
  have hw : E1 2 [[tI i, tI k]] := by intro e he; simp at he; subst he; rfl
  have hlk47 : A7 (D2 rows) 47 = none := by rw [D2, Nv, if_neg (by omega)]
  have hat := qEp hn
  have hlk : A7 (D2 rows) (100000 + n) = if rows.getD n [] = [] then none else some (.sl 205 2 (Az tLn (rows.getD n []))) := by
    rw [D2, Nv, if_pos (by omega)]
    unfold K2
    rw [show 100000 + n - 100000 = n by omega, List.getElem?_eq_getElem hn]
    simp [hn]
  have hadd : H9 rows n (i, k) = rows.set n (rows.getD n [] ++ [(i, k)]) := rfl
  have fin := @qDi
  generalize hrow : rows.getD n [] = row at hr hat hlk hadd
  have hlen1 : n + 1 ≤ rows.length := hn
  have hset : ∀ (j : Nat), j ≠ n → ∀ (l : List AV) (x : AV), l.length = rows.length → (l.take n ++ x :: l.drop (n + 1))[j]? = l[j]? := by
    intro j hj l x hl
    rw [List.getElem?_append]
    by_cases hlt : j < n
    · rw [if_pos (by simp; omega), List.getElem?_take, if_pos hlt]
    · rw [if_neg (by simp; omega)]
      have e : (l.take n).length = n := by simp; omega
      rw [e, show j - n = (j - n - 1) + 1 by omega, List.getElem?_cons_succ, List.getElem?_drop]
      congr 1; omega
  have hseta : ∀ (l : List AV) (x : AV), l.length = rows.length → (l.take n ++ x :: l.drop (n + 1))[n]? = some x := by
    intro l x hl
    rw [List.getElem?_append, if_neg (by simp; omega)]
    have e : (l.take n).length = n := by simp; omega
    rw [e]; simp
  by_cases h0 : row = []
  · subst h0
    simp only [q7U, ↓reduceIte] at hat hlk
    simp (disch := omega) [-Gh.run, Ew, hat, Rx, hn, hw, hlk47, hlen1]
    rw [show ∀ st, A7 st.env 8 = some (.t (tI n)) → (Gh.renS 47 100000 8).run st = Zi 47 (100000 + n) st from fun st hs => by simp [Gh.run, hs]]
    rw [fin (p := (i, k)) hn hn2 (by simp [Rx]; omega) (fun j hj => hset j hj _ _ Rx) (by rw [hseta _ _ Rx, hrow]; first | done | rfl) (by rw [hrow]; first | done | rfl) (by simp [A7]) (by rw [A7, if_neg (by omega), A7, if_neg (by omega)]; exact hlk) (fun t h1 h2 h3 => ?_) (fun q hq => ?_)]
    · simpa [Bv, ren1, ren0, H7] using h
    · rw [A7, if_neg (by omega), A7, if_neg (by omega), D2, Nv, if_pos (by omega)]
    · rcases List.mem_cons.1 hq with rfl | hq
      · exact .inl rfl
      · rcases List.mem_cons.1 hq with rfl | hq
        · exact .inr (.inl rfl)
        · have := Zr q hq; exact .inr (.inr (by omega))
    · rfl
  · simp only [q7U, h0, ↓reduceIte] at hat hlk
    have h14 : ¬ 14 = 100000 + n := by omega
    have htl : ∀ t, A7 ((D2 rows).filter fun p => p.1 != 100000 + n) t = if t = 100000 + n then none else A7 (D2 rows) t := fun t => q6x (100000 + n) (D2 rows) t
    have hkl : ∀ l : List (Nat × Bf), (∀ p ∈ l, p ∈ D2 rows) → l.map (fun p => (p.1, P3 (100000 + n) p.2)) = l := by
      intro l hl
      conv => rhs; rw [← List.map_id l]
      refine List.map_congr_left fun p hp => ?_
      obtain ⟨id, hid, hee⟩ := List.mem_filterMap.1 (hl p hp)
      cases hg : K2 rows id with
      | none => rw [hg] at hee; cases hee
      | some q =>
        rw [hg] at hee
        simp only [Option.map_some, Option.some.injEq] at hee; subst hee
        unfold K2 at hg
        split at hg
        · split at hg
          · cases hg
          · simp only [Option.some.injEq] at hg; subst hg; rfl
        · cases hg
    have hk : (del (100000 + n) ((14, Bf.bx (Cf rows)) :: D2 rows)).map (fun p => (p.1, P3 (100000 + n) p.2)) = (14, .bx ((Cf rows).map (Fe (100000 + n)))) :: (D2 rows).filter fun p => p.1 != 100000 + n := by
      have e : del (100000 + n) ((14, Bf.bx (Cf rows)) :: D2 rows) = (14, Bf.bx (Cf rows)) :: (D2 rows).filter fun p => p.1 != 100000 + n := by
        unfold del
        rw [List.filter_cons, if_pos (by simp; omega)]
      rw [e, List.map_cons, hkl _ (fun p hp => (List.mem_filter.1 hp).1)]
      rfl
    have hl47 : A7 ((D2 rows).filter fun p => p.1 != 100000 + n) 47 = none := by rw [htl, if_neg (by omega)]; exact hlk47
    generalize htail : (D2 rows).filter (fun p => p.1 != 100000 + n) = tl at htl hk hl47
    have hkeys : ∀ q ∈ tl, 100000 ≤ q.1 ∧ q.1 < 116384 := by
      intro q hq
      rw [← htail] at hq
      have := Zr q (List.mem_filter.1 hq).1
      omega
    have hcs : ∀ j, j ≠ n → ((Cf rows).map (Fe (100000 + n)))[j]? = (Cf rows)[j]? := by
      intro j hj
      simp only [Cf, List.getElem?_map, List.getElem?_mapIdx, Option.map_map]
      cases rows[j]? with
      | none => rfl
      | some r =>
        simp only [Option.map_some, Function.comp_def, q7U]
        split
        · rfl
        · simp only [Fe, kill1]; rw [if_neg (by omega)]
    have hcl : ((Cf rows).map (Fe (100000 + n))).length = rows.length := by simp [Rx]
    simp (disch := omega) [-Gh.run, Ew, -del, -P3, hat, Rx, hn, hw, hlk, hlen1, Ae, q9o, h14, hk, hl47]
    refine ⟨by omega, ?_⟩
    rw [show ∀ st, A7 st.env 8 = some (.t (tI n)) → (Gh.renS 47 100000 8).run st = Zi 47 (100000 + n) st from fun st hs => by simp [Gh.run, hs]]
    · rw [fin (p := (i, k)) hn hn2 (by simp [hcl]; omega) (fun j hj => (hset j hj _ _ hcl).trans (hcs j hj)) (by rw [hseta _ _ hcl, hrow]) (by rw [hrow]; simp [A7]; rw [show [tI i, tI k] = tLn (i, k) from rfl, Rw]) (by simp [A7]) (by rw [A7, if_neg (by omega), A7, if_neg (by omega), htl, if_pos rfl]) (fun t h1 h2 h3 => ?_) (fun q hq => ?_)]
      · simpa [Bv, ren1, ren0, H7] using h
      · rw [A7, if_neg (by omega), A7, if_neg (by omega), htl, if_neg h3, D2, Nv, if_pos (by omega)]
      · rcases List.mem_cons.1 hq with rfl | hq
        · exact .inl rfl
        · rcases List.mem_cons.1 hq with rfl | hq
          · exact .inr (.inl rfl)
          · exact .inr (.inr (hkeys q hq))
    · rfl
def Jk (c : B9) (i : Nat) : List Int → Nat → List M6 → List M6
  | [], _, rows => rows
  | n :: l, k, rows => Jk c i l (k + 1) (if Qp c n then rows else H9 rows n.toNat (i, k))
def G5 (c : B9) : List Nd → Nat → List M6 → List M6
  | [], _, rows => rows
  | x :: l, i, rows => G5 c l (i + 1) (Jk c i x.inn.l 0 rows)
def RB (rows : List M6) (B : Nat) : Prop := ∀ r ∈ rows, r.length ≤ B
theorem RB.add {rows : List M6} {B n : Nat} {p : Int × Int} (h : RB rows B) : RB (H9 rows n p) (B + 1) := by
  intro r hr
  unfold H9 at hr
  by_cases hn : n < rows.length
  · rcases List.mem_or_eq_of_mem_set hr with hr | rfl
    · have := h r hr; omega
    · have : (rows.getD n []).length ≤ B := by
        have e : rows.getD n [] = rows[n] := by simp [hn]
        rw [e]; exact h _ (List.getElem_mem hn)
      simp at this ⊢; omega
  · rw [List.set_eq_of_length_le (by omega)] at hr
    have := h r hr; omega
theorem RB.mono {rows : List M6} {B C : Nat} (h : RB rows B) (hc : B ≤ C) : RB rows C := fun r hr => Nat.le_trans (h r hr) hc
theorem RB.at {rows : List M6} {B : Nat} (h : RB rows B) (n : Nat) : (rows.getD n []).length ≤ B := by
  by_cases hn : n < rows.length
  · have e : rows.getD n [] = rows[n] := by simp [hn]
    rw [e]; exact h _ (List.getElem_mem hn)
  · simp [List.getD, List.getElem?_eq_none (Nat.not_lt.1 hn)]
theorem X1 (c : B9) (i : Nat) : ∀ (l : List Int) (k : Nat) (rows : List M6) (B : Nat), RB rows B → (Jk c i l k rows).length = rows.length ∧ RB (Jk c i l k rows) (B + l.length)
  | [], k, rows, B, h => ⟨rfl, h⟩
  | n :: l, k, rows, B, h => by
    simp only [Jk, List.length_cons]
    split
    · have := X1 c i l (k + 1) rows B h
      exact ⟨this.1, this.2.mono (by omega)⟩
    · have := X1 c i l (k + 1) _ (B + 1) (h.add (n := n.toNat) (p := (i, k)))
      exact ⟨this.1.trans q3w, this.2.mono (by omega)⟩
theorem q5T {Q : AX → St → Prop} (c : B9) (hn : c.nodes.l.length ≤ 16384) (i : Nat) (s : Sl Int) (hs : s.l.length ≤ 1000000000) (R : List M6)
    (h0 : Q (.exit 2) ⟨[(3, .lb 14 c.nodes.l.length), (4, .t (.fn 195 [.ip (tC c) 0])), (5, .t (tI i)), (18, .t (Ab c.nodes)), (19, .t (tI c.nodes.l.length)), (20, .t (tI i)), (26, .t (As s)), (27, .t (tI s.l.length)), (28, .t (tI s.l.length)), (29, .t (tB false))], (14, .bx (Cf R)) :: D2 R⟩) :
    ∀ (kk k : Nat) (rows : List M6), kk + k = s.l.length → rows.length = c.nodes.l.length → (∀ n, (rows.getD n []).length + kk ≤ 1000000000) → Jk c i (s.l.drop k) k rows = R →
    run Tryz.prog Γ Ia Q ⟨[(3, .lb 14 c.nodes.l.length), (4, .t (.fn 195 [.ip (tC c) 0])), (5, .t (tI i)), (18, .t (Ab c.nodes)), (19, .t (tI c.nodes.l.length)), (20, .t (tI i)), (26, .t (As s)), (27, .t (tI s.l.length)), (28, .t (tI k))], (14, .bx (Cf rows)) :: D2 rows⟩
  | 0, k, rows, h, hl, hb, hR => by
    refine Py fun K hK => ?_
    have h2 : ¬ k < s.l.length := by omega
    have h3 : k = s.l.length := by omega
    simp [h2, -Gh.run, Ew, Vk]
    subst h3
    rw [List.drop_of_length_le (Nat.le_refl _)] at hR
    simp only [Jk] at hR
    subst hR
    exact h0
  | kk + 1, k, rows, h, hl, hb, hR => by
    refine Py fun K hK => ?_
    have h2 : k < s.l.length := by omega
    rw [List.drop_eq_getElem_cons h2] at hR
    simp only [Jk] at hR
    have e := Z4 (Γ := Γ) c s.l[k] (by omega)
    simp (disch := omega) [h2, -Gh.run, Ew, Vk, -Du, As, A0, B1 (0 : Int), A9]
    refine q0V e ?_
    by_cases ho : Qp c s.l[k] = true
    · rw [if_pos ho] at hR
      simp (disch := omega) [ho, -Gh.run, Ew, Vk, -Du, A5]
      rw [hK]
      have := q5T c hn i s hs R h0 kk (k + 1) rows (by omega) hl (fun n => by have := hb n; omega) hR
      simpa [As] using this
    · have ho' : Qp c s.l[k] = false := by simpa using ho
      rw [if_neg ho] at hR
      have hr := q6s (c := c) (l := [s.l[k]]) (by simp [ho']) s.l[k] (by simp)
      simp (disch := omega) [ho', -Gh.run, Ew, Vk, -Du]
      have hz : ((s.l[k]).toNat : Int) = s.l[k] := by omega
      have := qI5 (Γ := Γ) (Q := Ls 3 (Ar (run Tryz.prog Γ (.reg Lx [.keepB [3, 4, 5, 18, 19, 20, 26, 27, 28] [14] 100000 16384]) (Ar (fun s => Ar K Q .normal (ghs [.keepB [3, 4, 5, 18, 19, 20, 26, 27, 28] [14] 100000 16384] s)) (Ar K Q))) (Ar (fun s => Ar K Q .normal (ghs [.keepB [3, 4, 5, 18, 19, 20, 26, 27, 28] [14] 100000 16384] s)) (Ar K Q)))) rows (s.l[k]).toNat (by omega) (by omega) i k (by have := hb (s.l[k]).toNat; omega)
        (.fn 195 [.ip (tC c) 0]) (Ab c.nodes) (tI c.nodes.l.length) (tI i) (.sl (Ak s.l) s.cap s.nl) (tI s.l.length) (tI k) (tB true) c.nodes.l.length hl.symm ?_
      · rw [hz] at this; exact this
      · simp (disch := omega) [-Gh.run, Ew, Vk, A5]
        rw [hK]
        have hbb : ∀ n, ((H9 rows (s.l[k]).toNat (i, k)).getD n []).length + kk ≤ 1000000000 := by
          intro n
          unfold H9
          have h5 := hb n
          have h6 := hb (s.l[k]).toNat
          by_cases hq : n = (s.l[k]).toNat
          · subst hq
            have hlt : (s.l[k]).toNat < rows.length := by omega
            simp [List.getD, List.getElem?_set, hlt] at h6 ⊢
            omega
          · have : ¬ (s.l[k]).toNat = n := fun e => hq e.symm
            simp [List.getD, List.getElem?_set, this] at h5 ⊢
            omega
        have := q5T c hn i s hs R h0 kk (k + 1) (H9 rows (s.l[k]).toNat (i, k)) (by omega) (q3w.trans hl) hbb hR
        simpa [As] using this
theorem qGM {ks rs : List Nat} {st : St} : Gh.run (.keep ks rs) st = ⟨(I1 ((st.hp.map (·.1)).filter fun id => !rs.contains id) ⟨Lg.keep ks st.env, st.hp⟩).env, Lg.keep rs (I1 ((st.hp.map (·.1)).filter fun id => !rs.contains id) ⟨Lg.keep ks st.env, st.hp⟩).hp⟩ := rfl
theorem qEq {env : List (Nat × AV)} {ks : List Nat} {rows : List M6} {q : Bf} : Gh.run (.keepB ks [6, 14] 100000 16384) ⟨env, (6, q) :: (14, .bx (Cf rows)) :: D2 rows⟩ = ⟨Lg.keep ks env, (6, q) :: (14, .bx (Cf rows)) :: D2 rows⟩ := by
  have hk : (((6, q) :: (14, Bf.bx (Cf rows)) :: D2 rows).map (·.1)).filter (fun id => !([6, 14] : List Nat).contains id && !(decide (100000 ≤ id) && decide (id < 100000 + 16384))) = [] := by
    rw [List.filter_eq_nil_iff]
    intro id hid
    simp only [List.map_cons, List.mem_cons] at hid
    rcases hid with rfl | rfl | hid
    · simp
    · simp
    · obtain ⟨p, hp, rfl⟩ := List.mem_map.1 hid
      have := Zr p hp
      simp; omega
  simp only [Gh.run, q6p, hk, I1, q5N, q7K, A7, ↓reduceIte]
  simp only [show ¬ (6 = 14) by omega, ↓reduceIte, List.cons_append, List.nil_append]
  congr 3
  refine q8w fun t ht => ?_
  rw [List.mem_range'_1] at ht
  rw [A7, if_neg (by omega), q2u, if_neg (by omega), if_pos ⟨ht.1, by omega⟩]
theorem q7W {Q : AX → St → Prop} (c : B9) (hn : c.nodes.l.length ≤ 16384) (hi : ∀ x ∈ c.nodes.l, x.inn.l.length ≤ 16) (R : List M6)
    (h0 : Q (.exit 0) ⟨[(3, .lb 14 c.nodes.l.length), (4, .t (.fn 195 [.ip (tC c) 0])), (18, .t (Ab c.nodes)), (19, .t (tI c.nodes.l.length)), (20, .t (tI c.nodes.l.length)), (21, .t (tB false))], (14, .bx (Cf R)) :: D2 R⟩) :
    ∀ (kk i : Nat) (rows : List M6), kk + i = c.nodes.l.length → rows.length = c.nodes.l.length → RB rows (16 * i) → G5 c (c.nodes.l.drop i) i rows = R →
    run Tryz.prog Γ Ib Q ⟨[(3, .lb 14 c.nodes.l.length), (4, .t (.fn 195 [.ip (tC c) 0])), (18, .t (Ab c.nodes)), (19, .t (tI c.nodes.l.length)), (20, .t (tI i))], (14, .bx (Cf rows)) :: D2 rows⟩
  | 0, i, rows, h, hl, hb, hR => by
    refine Pz fun K hK => ?_
    have h2 : ¬ i < c.nodes.l.length := by omega
    have h3 : i = c.nodes.l.length := by omega
    simp [h2, -Gh.run, Ew, Vk]
    subst h3
    rw [List.drop_of_length_le (Nat.le_refl _)] at hR
    simp only [G5] at hR
    subst hR
    exact h0
  | kk + 1, i, rows, h, hl, hb, hR => by
    refine Pz fun K hK => ?_
    have h2 : i < c.nodes.l.length := by omega
    rw [List.drop_eq_getElem_cons h2] at hR
    simp only [G5] at hR
    have hx := hi _ (List.getElem_mem h2)
    have hlk6 : A7 (D2 rows) 6 = none := by rw [D2, Nv, if_neg (by omega)]
    simp (disch := omega) [h2, -Gh.run, Ew, Vk, qGL, qEq, Ab, Ae, D3 Nd.d, Ba, Bw, As, hlk6, A0]
    refine q5T c hn i c.nodes.l[i].inn (by omega) _ ?_ c.nodes.l[i].inn.l.length 0 rows (by omega) hl (fun n => by have := hb.at n; omega) rfl
    obtain ⟨hf1, hf2⟩ := X1 c i c.nodes.l[i].inn.l 0 rows (16 * i) hb
    simp (disch := omega) [-Gh.run, Ew, Vk, A5, List.drop_zero]
    rw [hK]
    have := q7W c hn hi R h0 kk (i + 1) _ (by omega) (hf1.trans hl) (hf2.mono (by omega)) hR
    simpa [Ab] using this
def X2 (r : M6) : T := .sl (Az tLn r) (some r.length) (if r = [] then some true else none)
theorem qEr (r : M6) : Ag Tryz.prog Γ 176 [q8Q r] (X2 r) := by
  unfold q8Q X2
  by_cases h : r = []
  · subst h; simpa [Az] using q8v (Γ := Γ) [] (some 0) (some true) q6r
  · rw [if_neg h, if_neg h]
    have := q8v (Γ := Γ) (Az tLn r) none none q9o
    rwa [Ae] at this
def q0W (rows : List M6) (i : Nat) : List AV := rows.mapIdx fun j r => .t (if j < i then X2 r else q8Q r)
theorem q4f {rows : List M6} {i : Nat} : (q0W rows i).length = rows.length := by simp [q0W]
theorem qGN {rows : List M6} {i : Nat} (h : i < rows.length) : ((q0W rows i).drop i).take 1 = [.t (q8Q rows[i])] := by
  rw [List.drop_eq_getElem_cons (by rw [q4f]; exact h)]
  simp [q0W]
theorem qDj {rows : List M6} {i : Nat} (h : i < rows.length) : (q0W rows i).take i ++ .t (X2 rows[i]) :: (q0W rows i).drop (i + 1) = q0W rows (i + 1) := by
  apply List.ext_getElem?
  intro j
  rw [List.getElem?_append]
  have e : ((q0W rows i).take i).length = i := by simp [q4f]; omega
  rw [e]
  by_cases h1 : j < i
  · rw [if_pos h1, List.getElem?_take, if_pos h1]
    simp only [q0W, List.getElem?_mapIdx]
    cases rows[j]? with
    | none => rfl
    | some r => simp only [Option.map_some]; rw [if_pos h1, if_pos (by omega)]
  · rw [if_neg h1]
    by_cases h2 : j = i
    · subst h2
      simp [q0W, List.getElem?_eq_getElem h]
    · rw [show j - i = (j - i - 1) + 1 by omega, List.getElem?_cons_succ, List.getElem?_drop]
      rw [show i + 1 + (j - i - 1) = j by omega]
      simp only [q0W, List.getElem?_mapIdx]
      cases rows[j]? with
      | none => rfl
      | some r => simp only [Option.map_some]; rw [if_neg h1, if_neg (by omega)]
theorem q8x {Q : AX → St → Prop} (rows : List M6) (hn : rows.length ≤ 16384)
    (h0 : Q (.exit 4) ⟨[(3, .lb 14 rows.length), (51, .lb 14 rows.length), (52, .t (tI rows.length)), (53, .t (tI rows.length)), (54, .t (tB false))], [(14, .bx (q0W rows rows.length))]⟩) :
    ∀ (kk i : Nat), kk + i = rows.length →
    run Tryz.prog Γ Ic Q ⟨[(3, .lb 14 rows.length), (51, .lb 14 rows.length), (52, .t (tI rows.length)), (53, .t (tI i))], [(14, .bx (q0W rows i))]⟩
  | 0, i, h => by
    refine Q0 fun K hK => ?_
    have h2 : ¬ i < rows.length := by omega
    have h3 : i = rows.length := by omega
    simp [h2]
    subst h3
    exact h0
  | kk + 1, i, h => by
    refine Q0 fun K hK => ?_
    have h2 : i < rows.length := by omega
    have h3 : i + 1 ≤ rows.length := h2
    have e := qEr (Γ := Γ) rows[i]
    have ho : (q8Q rows[i]).one = true := by unfold q8Q; split <;> rfl
    simp (disch := omega) [h2, h3, qGN h2, q4f]
    refine A8 e rfl ?_
    simp (disch := omega) [h2, h3, q4f, A5, X2]
    rw [hK]
    have := q8x rows hn h0 kk (i + 1) (by omega)
    rw [← qDj h2] at this
    simpa [X2] using this
def Ee (c : B9) : List M6 := G5 c c.nodes.l 0 (List.replicate c.nodes.l.length [])
def qAk (rows : List M6) : T := .sl (Ad X2 rows) (some rows.length) none
theorem q4g (c : B9) : ∀ (l : List Nd) (i : Nat) (rows : List M6), (G5 c l i rows).length = rows.length
  | [], _, _ => rfl
  | x :: l, i, rows => by
    simp only [G5]
    rw [q4g c l]
    exact (X1 c i x.inn.l 0 rows (rows.foldr (fun r m => r.length + m) 0) (by
      intro r hr
      induction rows with
      | nil => cases hr
      | cons y ys ih =>
        simp only [List.foldr_cons]
        rcases List.mem_cons.1 hr with rfl | hr
        · omega
        · have := ih hr; omega)).1
theorem Y6 (c : B9) : (Ee c).length = c.nodes.l.length := by rw [Ee, q4g]; simp
theorem qAl (c : B9) (hn : c.nodes.l.length ≤ 16384) (hi : ∀ x ∈ c.nodes.l, x.inn.l.length ≤ 16) : Ag Tryz.prog Γ 149 [.agg (tC c)] (qAk (Ee c)) := by
  refine Ap q35 rfl ?_
  have eo := Vh (Γ := Γ) c
  have hR := Y6 c
  have hk1 : ∀ (env : List (Nat × AV)) (ks : List Nat), Gh.run (.keepB ks [14] 100000 16384) ⟨env, [(14, .bx (List.replicate c.nodes.l.length (.t (.sl [] (some 0) (some true)))))]⟩ = ⟨Lg.keep ks env, (14, .bx (Cf (List.replicate c.nodes.l.length []))) :: D2 (List.replicate c.nodes.l.length [])⟩ := by
    intro env ks
    have hc : Cf (List.replicate c.nodes.l.length []) = List.replicate c.nodes.l.length (.t (.sl [] (some 0) (some true))) := by
      apply List.ext_getElem?
      intro j
      simp only [Cf, List.getElem?_mapIdx, List.getElem?_replicate]
      split <;> simp [q7U]
    refine q5R (by simp) (by simp [A7, hc]) fun t h1 h2 => ?_
    rw [A7, if_neg (by omega)]
    unfold K2
    rw [List.getElem?_replicate]
    split <;> rename_i hq
    · split at hq
      · simp only [Option.some.injEq] at hq; subst hq; rfl
      · cases hq
    · rfl
  simp (disch := omega) [Wq, tC, Ab, Af, Am, As, Ae, -Gh.run, Ew, qGM, hk1, A5]
  refine ⟨by omega, ?_⟩
  refine A8 eo rfl ?_
  simp (disch := omega) [-Gh.run, Ew, Vk, Ae]
  have hp0 : RB (List.replicate c.nodes.l.length []) (16 * 0) := by
    intro r hr; rw [List.eq_of_mem_replicate hr]; simp
  refine q7W c hn hi (Ee c) ?_ c.nodes.l.length 0 (List.replicate c.nodes.l.length []) (by omega) (by simp) hp0 rfl
  generalize Ee c = R at hR
  rw [← hR]
  simp (disch := omega) [-Gh.run, Ew]
  rw [qEo (by omega) (fun id r h p hp => by
    simp only [List.mem_cons, List.not_mem_nil, or_false] at hp
    have h14 : ¬ 14 = id := by omega
    rcases hp with rfl | rfl | rfl | rfl | rfl | rfl | rfl | rfl | rfl <;> simp [D6, frz1, frz0, h14])]
  have hmix : (R.map fun r => AV.t (q8Q r)) = q0W R 0 := by
    apply List.ext_getElem?
    intro j
    simp only [List.getElem?_map, q0W, List.getElem?_mapIdx]
    cases R[j]? <;> simp
  rw [hmix]
  simp
  refine q8x R (by omega) ?_ R.length 0 (by omega)
  have hfin : q0W R R.length = (R.map X2).map .t := by
    apply List.ext_getElem?
    intro j
    simp only [List.getElem?_map, q0W, List.getElem?_mapIdx, Option.map_map]
    cases hj : R[j]? with
    | none => rfl
    | some r =>
      have := (List.getElem?_eq_some_iff.1 hj).1
      simp only [Option.map_some, Function.comp_def]
      rw [if_pos this]
  have hopt : B2 ((q0W R R.length).map (Aj [(14, .bx (q0W R R.length))] 3)) = some (R.map X2) := by
    conv => lhs; rw [hfin]
    rw [List.map_map]
    have : (R.map X2).map (Aj [(14, .bx ((R.map X2).map .t))] 3 ∘ AV.t) = (R.map X2).map fun t => some t := List.map_congr_left fun t _ => by simp [Aj]
    rw [this]; exact q1z
  simp [Ws, qAk, hopt, Ad]
end Go.Lg
namespace Go.Lg
open Go Go.Proofs
def Y7 (N : Nat) (rows : List M6) : Prop := ∀ r ∈ rows, ∀ p ∈ r, ∃ i : Nat, i < N ∧ p.1 = i
theorem Y7.add {N : Nat} {rows : List M6} {n i : Nat} {k : Int} (h : Y7 N rows) (hi : i < N) : Y7 N (H9 rows n (i, k)) := by
  intro r hr p hp
  unfold H9 at hr
  by_cases hn : n < rows.length
  · rcases List.mem_or_eq_of_mem_set hr with hr | rfl
    · exact h r hr p hp
    · rcases List.mem_append.1 hp with hp | hp
      · have e : rows.getD n [] = rows[n] := by simp [hn]
        rw [e] at hp
        exact h _ (List.getElem_mem hn) p hp
      · simp at hp; subst hp; exact ⟨i, hi, rfl⟩
  · rw [List.set_eq_of_length_le (by omega)] at hr
    exact h r hr p hp
theorem q3x {N : Nat} (c : B9) (i : Nat) (hi : i < N) : ∀ (l : List Int) (k : Nat) (rows : List M6), Y7 N rows → Y7 N (Jk c i l k rows)
  | [], _, _, h => h
  | n :: l, k, rows, h => by
    simp only [Jk]
    split
    · exact q3x c i hi l (k + 1) rows h
    · exact q3x c i hi l (k + 1) _ (h.add hi)
theorem q68 {N : Nat} (c : B9) : ∀ (l : List Nd) (i : Nat) (rows : List M6), i + l.length ≤ N → Y7 N rows → Y7 N (G5 c l i rows)
  | [], _, _, _, h => h
  | x :: l, i, rows, hl, h => by
    simp only [G5]
    simp at hl
    exact q68 c l (i + 1) _ (by omega) (q3x c i (by omega) _ _ _ h)
theorem q3y (c : B9) : Y7 c.nodes.l.length (Ee c) := by
  refine q68 c c.nodes.l 0 _ (by omega) fun r hr p hp => ?_
  rw [List.eq_of_mem_replicate hr] at hp; cases hp
theorem q69 (c : B9) : ∀ (l : List Nd) (i B : Nat) (rows : List M6), (∀ x ∈ l, x.inn.l.length ≤ 16) → RB rows B → RB (G5 c l i rows) (B + 16 * l.length)
  | [], _, _, _, _, h => h
  | x :: l, i, B, rows, hl, h => by
    simp only [G5, List.length_cons]
    have h1 := (X1 c i x.inn.l 0 rows B h).2
    have h2 := hl x List.mem_cons_self
    exact (q69 c l (i + 1) (B + 16) _ (fun y hy => hl y (List.mem_cons_of_mem _ hy)) (h1.mono (by omega))).mono (by omega)
theorem qCC (c : B9) (hn : c.nodes.l.length ≤ 16384) (hi : ∀ x ∈ c.nodes.l, x.inn.l.length ≤ 16) : RB (Ee c) 262144 := by
  refine (q69 c c.nodes.l 0 0 _ hi fun r hr => ?_).mono (by omega)
  rw [List.eq_of_mem_replicate hr]; simp
structure LS where
  out : List Int
  left : List Int
  rdy : List Int
def Fj (k : Int) : Bool := decide (1 ≤ k ∧ k ≤ 13)
def B7 (c : B9) (j : Nat) : Int := (c.nodes.l.getD j Nd.d).k
def Dp (c : B9) (n : Nat) (s : LS) (p : Int × Int) : LS :=
  if Fj (B7 c p.1.toNat) then
    ⟨s.out.set p.1.toNat (max (s.out.getD p.1.toNat 0) (s.out.getD n 0 + 1)), s.left.set p.1.toNat (s.left.getD p.1.toNat 0 - 1), if s.left.getD p.1.toNat 0 - 1 = 0 then s.rdy ++ [p.1] else s.rdy⟩
  else s
def Fo (c : B9) (n : Nat) : M6 := (Ee c).getD n []
def Ld (c : B9) : Nat → Nat → LS → Nat × LS
  | 0, d, s => (d, s)
  | f + 1, d, s => if d < s.rdy.length then Ld c f (d + 1) ((Fo c (s.rdy.getD d 0).toNat).foldl (Dp c (s.rdy.getD d 0).toNat) s) else (d, s)
def Df (x : Nd) : Int := if Fj x.k then x.inn.l.length else 0
def Dh : List Nd → Nat → List Int
  | [], _ => []
  | x :: l, i => if Df x = 0 then (i : Int) :: Dh l (i + 1) else Dh l (i + 1)
def Ha (c : B9) : LS := ⟨List.replicate c.nodes.l.length 0, c.nodes.l.map Df, Dh c.nodes.l 0⟩
def Nw (c : B9) : Nat × LS := Ld c (c.nodes.l.length + 1) 0 (Ha c)
structure LI (N M : Nat) (s : LS) : Prop where
  lo : s.out.length = N
  ll : s.left.length = N
  rd : ∀ j ∈ s.rdy, ∃ i : Nat, i < N ∧ j = i ∧ s.left.getD i 0 ≤ 0
  nd : s.rdy.Nodup
  bo : ∀ i, 0 ≤ s.out.getD i 0 ∧ s.out.getD i 0 ≤ M
  bl : ∀ i, -(M : Int) ≤ s.left.getD i 0 ∧ s.left.getD i 0 ≤ 1000
theorem q8y {N : Nat} {l : List Int} (h : l.Nodup) (hb : ∀ j ∈ l, ∃ i : Nat, i < N ∧ j = i) : l.length ≤ N := by
  have h1 : (l.map Int.toNat).Nodup := by
    rw [List.nodup_iff_pairwise_ne] at h ⊢
    rw [List.pairwise_map]
    refine h.imp_of_mem fun {a b} ha hb' hne e => hne ?_
    obtain ⟨i, _, rfl⟩ := hb a ha
    obtain ⟨j, _, rfl⟩ := hb b hb'
    have : i = j := by simpa using e
    rw [this]
  have h2 : (l.map Int.toNat) ⊆ List.range N := by
    intro j hj
    obtain ⟨a, ha, rfl⟩ := List.mem_map.1 hj
    obtain ⟨i, hi, rfl⟩ := hb a ha
    simpa using hi
  have := (List.Nodup.length_le_of_subset h1 h2)
  simpa using this
theorem LI.len {N M : Nat} {s : LS} (h : LI N M s) : s.rdy.length ≤ N := q8y h.nd fun j hj => by obtain ⟨i, h1, h2, _⟩ := h.rd j hj; exact ⟨i, h1, h2⟩
theorem Me {l : List Int} {j i : Nat} {v : Int} (hj : j < l.length) : (l.set j v).getD i 0 = if i = j then v else l.getD i 0 := by
  simp only [List.getD, List.getElem?_set]
  by_cases h : j = i
  · subst h; simp [hj]
  · simp [h, Ne.symm h]
theorem LI.step {N M : Nat} {c : B9} {s : LS} {n i : Nat} {k : Int} (h : LI N M s) (hi : i < N) : LI N (M + 1) (Dp c n s (i, k)) := by
  unfold Dp
  simp only [Int.toNat_natCast]
  split
  case isFalse => exact ⟨h.lo, h.ll, h.rd, h.nd, fun j => ⟨(h.bo j).1, by have := (h.bo j).2; omega⟩, fun j => ⟨by have := (h.bl j).1; omega, (h.bl j).2⟩⟩
  refine ⟨by simp [h.lo], by simp [h.ll], ?_, ?_, ?_, ?_⟩
  · intro j hj
    have old : ∀ j ∈ s.rdy, ∃ i0 : Nat, i0 < N ∧ j = i0 ∧ (s.left.set i (s.left.getD i 0 - 1)).getD i0 0 ≤ 0 := by
      intro j hj
      obtain ⟨i0, h1, h2, h3⟩ := h.rd j hj
      refine ⟨i0, h1, h2, ?_⟩
      rw [Me (by rw [h.ll]; exact hi)]
      split
      · rename_i e; subst e; omega
      · exact h3
    split at hj
    · rename_i hz
      rcases List.mem_append.1 hj with hj | hj
      · exact old j hj
      · simp at hj; subst hj
        refine ⟨i, hi, rfl, ?_⟩
        rw [Me (by rw [h.ll]; exact hi), if_pos rfl]; omega
    · exact old j hj
  · split
    · rename_i hz
      rw [List.nodup_append]
      refine ⟨h.nd, by simp, ?_⟩
      intro a ha b hb e
      simp at hb; subst hb; subst e
      obtain ⟨i0, h1, h2, h3⟩ := h.rd _ ha
      have : i = i0 := by omega
      subst this
      omega
    · exact h.nd
  · intro j
    rw [Me (by rw [h.lo]; exact hi)]
    have h1 := h.bo j
    have h2 := h.bo i
    have h3 := h.bo n
    split
    · rename_i e
      omega
    · omega
  · intro j
    rw [Me (by rw [h.ll]; exact hi)]
    have h1 := h.bl j
    have h2 := h.bl i
    split <;> omega
theorem LI.fold {N : Nat} {c : B9} {n : Nat} : ∀ {r : M6} {s : LS} {M : Nat}, LI N M s → (∀ p ∈ r, ∃ i : Nat, i < N ∧ p.1 = i) → LI N (M + r.length) (r.foldl (Dp c n) s)
  | [], _, _, h, _ => h
  | p :: r, s, M, h, hr => by
    obtain ⟨i, hi, he⟩ := hr p List.mem_cons_self
    obtain ⟨p1, p2⟩ := p
    simp only at he; subst he
    have := LI.fold (c := c) (n := n) (h.step (c := c) (n := n) (k := p2) hi) fun q hq => hr q (List.mem_cons_of_mem _ hq)
    simp only [List.foldl_cons, List.length_cons]
    rw [show M + (r.length + 1) = M + 1 + r.length by omega]
    exact this
theorem q3z : ∀ (l : List Nd) (i : Nat), (∀ j ∈ Dh l i, ∃ a : Nat, i ≤ a ∧ a < i + l.length ∧ j = a ∧ (l.map Df).getD (a - i) 0 = 0) ∧ (Dh l i).Nodup
  | [], _ => ⟨fun j h => (by cases h), List.nodup_nil⟩
  | x :: l, i => by
    obtain ⟨h1, h2⟩ := q3z l (i + 1)
    have h3 : ∀ j ∈ Dh l (i + 1), ∃ a : Nat, i ≤ a ∧ a < i + (l.length + 1) ∧ j = a ∧ ((x :: l).map Df).getD (a - i) 0 = 0 := by
      intro j hj
      obtain ⟨a, e1, e2, e3, e4⟩ := h1 j hj
      refine ⟨a, by omega, by omega, e3, ?_⟩
      rw [show a - i = (a - (i + 1)) + 1 by omega]
      simpa using e4
    simp only [Dh, List.length_cons]
    split
    · rename_i hz
      refine ⟨fun j hj => ?_, ?_⟩
      · rcases List.mem_cons.1 hj with rfl | hj
        · exact ⟨i, by omega, by omega, rfl, by simp [hz]⟩
        · exact h3 j hj
      · rw [List.nodup_cons]
        refine ⟨fun hm => ?_, h2⟩
        obtain ⟨a, e1, _, e3, _⟩ := h1 _ hm
        omega
    · exact ⟨h3, h2⟩
theorem qAm (c : B9) (hi : ∀ x ∈ c.nodes.l, x.inn.l.length ≤ 16) : LI c.nodes.l.length 0 (Ha c) := by
  obtain ⟨h1, h2⟩ := q3z c.nodes.l 0
  refine ⟨by simp [Ha], by simp [Ha], fun j hj => ?_, h2, fun i => ?_, fun i => ?_⟩
  · obtain ⟨a, _, e2, e3, e4⟩ := h1 j hj
    exact ⟨a, by omega, e3, by simp only [Nat.sub_zero] at e4; simp only [Ha]; omega⟩
  · simp only [Ha, List.getD, List.getElem?_replicate]
    split <;> simp
  · simp only [Ha, List.getD, List.getElem?_map]
    cases hx : c.nodes.l[i]? with
    | none => simp
    | some x =>
      have := hi x (List.mem_of_getElem? hx)
      simp only [Option.map_some, Option.getD_some, Df]
      split <;> simp <;> omega
end Go.Lg
namespace Go.Lg
open Go Go.Proofs
variable {Γ : Tables}
theorem q4h {α : Type} {f : α → T} {l : List α} {j : Nat} {x : α} (h : j < l.length) : (Ad f (l.set j x))[j]?.getD [] = [f x] := by simp [Ad, h]
theorem qGO {r : M6} {i : Nat} (h : i < r.length) : (Az tLn r)[i]?.getD [] = tLn r[i] := by simp [Az, h]
def lsH (s : LS) : List (Nat × Bf) := [(23, .sl 3 1 (Ak s.out)), (27, .sl 3 1 (Ak s.left)), (53, .sl 3 1 (Ak s.rdy))]
theorem q40 {Q : AX → St → Prop} (c : B9) (hc : CirOk c) (hn : c.nodes.l.length ≤ 16384) (n : Nat) (hnn : n < c.nodes.l.length) (d : Int) (r : M6) (nl : Option Bool) (hr : r.length ≤ 262144) (hin : ∀ p ∈ r, ∃ i : Nat, i < c.nodes.l.length ∧ p.1 = i) (U4 : T) (S : LS)
    (h0 : Q (.exit 4) ⟨[(1, .t (.ip (tC c) 0)), (5, .ls 23 0 c.nodes.l.length none), (6, .ls 27 0 c.nodes.l.length none), (7, .ls 53 0 S.rdy.length none), (10, .t U4), (11, .t (tI d)), (12, .t (tI n)), (76, .t (.sl (Az tLn r) (some r.length) nl)), (77, .t (tI r.length)), (78, .t (tI r.length)), (79, .t (tB false))], lsH S⟩) :
    ∀ (kk k : Nat) (s : LS) (M : Nat), kk + k = r.length → LI c.nodes.l.length M s → M + kk ≤ 4611686018427387904 → (r.drop k).foldl (Dp c n) s = S →
    run Tryz.prog Γ I7 Q ⟨[(1, .t (.ip (tC c) 0)), (5, .ls 23 0 c.nodes.l.length none), (6, .ls 27 0 c.nodes.l.length none), (7, .ls 53 0 s.rdy.length none), (10, .t U4), (11, .t (tI d)), (12, .t (tI n)), (76, .t (.sl (Az tLn r) (some r.length) nl)), (77, .t (tI r.length)), (78, .t (tI k))], lsH s⟩
  | 0, k, s, M, h, hI, hM, hS => by
    refine Pv fun K hK => ?_
    have h2 : ¬ k < r.length := by omega
    have h3 : k = r.length := by omega
    simp [h2, lsH]
    subst h3
    rw [List.drop_of_length_le (Nat.le_refl _)] at hS
    simp only [List.foldl_nil] at hS
    subst hS
    exact h0
  | kk + 1, k, s, M, h, hI, hM, hS => by
    refine Pv fun K hK => ?_
    have h2 : k < r.length := by omega
    rw [List.drop_eq_getElem_cons h2] at hS
    simp only [List.foldl_cons] at hS
    obtain ⟨j, hj, hpj⟩ := hin _ (List.getElem_mem h2)
    have hstep := hI.step (c := c) (n := n) (k := r[k].2) hj
    have hpair : r[k] = ((j : Int), r[k].2) := by rw [← hpj]
    rw [hpair] at hS
    generalize r[k].2 = q at hS hstep hpair
    have e := q5Q (Γ := Γ) c.nodes.l[j].k
    have hkind : B7 c j = c.nodes.l[j].k := by simp [B7, hj]
    simp (disch := omega) [h2, lsH, Ae, qGO h2, q9o, hpair, tLn, tC, Ab, D3 Nd.d, Ba, Bw, As, hj]
    refine A3 e rfl ?_
    by_cases hcb : Fj c.nodes.l[j].k = true
    case neg =>
      have hcb' : decide (1 ≤ c.nodes.l[j].k ∧ c.nodes.l[j].k ≤ 13) = false := by simpa [Fj] using hcb
      have hcb2 : Fj (B7 c j) = false := by rw [hkind]; exact hcb'
      have hst : Dp c n s ((j : Int), q) = s := by unfold Dp; simp [hcb2]
      rw [hst] at hS hstep
      rw [hcb']
      simp (disch := omega) [A5]
      rw [hK]
      have := q40 c hc hn n hnn d r nl hr hin U4 S h0 kk (k + 1) s (M + 1) (by omega) hstep (by omega) hS
      simpa [lsH, tC, Ab, As] using this
    have hcb' : decide (1 ≤ c.nodes.l[j].k ∧ c.nodes.l[j].k ≤ 13) = true := by simpa [Fj] using hcb
    have hcb2 : Fj (B7 c j) = true := by rw [hkind]; exact hcb'
    rw [hcb']
    have ho := hI.lo
    have hll := hI.ll
    have b1 := hI.bo n
    have b2 := hI.bo j
    have b3 := hI.bl j
    have hrl := hI.len
    have hst : Dp c n s ((j : Int), q) = ⟨s.out.set j (max (s.out.getD j 0) (s.out.getD n 0 + 1)), s.left.set j (s.left.getD j 0 - 1), if s.left.getD j 0 - 1 = 0 then s.rdy ++ [(j : Int)] else s.rdy⟩ := by
      unfold Dp; simp [hcb2]
    have hw : E1 1 [[tI (j : Int)]] := by intro e he; simp at he; subst he; rfl
    have hmax : max (s.out.getD j 0) (s.out.getD n 0 + 1) = if s.out.getD j 0 < s.out.getD n 0 + 1 then s.out.getD n 0 + 1 else s.out.getD j 0 := by
      split <;> omega
    have ih := fun S2 (e : S2 = Dp c n s ((j : Int), q)) => q40 c hc hn n hnn d r nl hr hin U4 S h0 kk (k + 1) S2 (M + 1) (by omega) (e ▸ hstep) (by omega) (e ▸ hS)
    have ljo : j < s.out.length := by omega
    have lno : n < s.out.length := by omega
    have ljl : j < s.left.length := by omega
    simp only [List.getD, List.getElem?_eq_getElem ljo, List.getElem?_eq_getElem lno, List.getElem?_eq_getElem ljl, Option.getD_some] at b1 b2 b3 hst hmax
    have b1a := b1.1
    have b1b := b1.2
    have b2a := b2.1
    have b2b := b2.2
    have b3a := b3.1
    have b3b := b3.2
    simp (disch := omega) [A5, A0, B1 (0 : Int), A9, F6, ljo, lno, ljl, hj, hnn]
    rw [show (if s.out[j] < s.out[n] + 1 then s.out[n] + 1 else s.out[j]) = max s.out[j] (s.out[n] + 1) from hmax.symm]
    by_cases hz : s.left[j] - 1 = 0
    · rw [if_pos hz] at hst
      have ih' := ih _ hst.symm
      simp (disch := omega) [hz, A5, A0, A9, hw, q4h]
      refine ⟨by omega, ?_⟩
      rw [hK]
      rw [Bq (f := tI) (x := (j : Int))]
      simpa [lsH, tC, Ab, As, hz] using ih'
    · rw [if_neg hz] at hst
      have ih' := ih _ hst.symm
      simp (disch := omega) [hz, A5, q4h, A9]
      rw [hK]
      simpa [lsH, tC, Ab, As] using ih'
theorem q8z {Q : AX → St → Prop} (c : B9) (hc : CirOk c) (hn : c.nodes.l.length ≤ 16384) (hi : ∀ x ∈ c.nodes.l, x.inn.l.length ≤ 16) (R : Nat × LS)
    (h0 : Q (.exit 2) ⟨[(1, .t (.ip (tC c) 0)), (5, .ls 23 0 c.nodes.l.length none), (6, .ls 27 0 c.nodes.l.length none), (7, .ls 53 0 R.2.rdy.length none), (10, .t (qAk (Ee c))), (11, .t (tI R.1)), (60, .t (tB false))], lsH R.2⟩) :
    ∀ (f d : Nat) (s : LS) (M : Nat), f + d = c.nodes.l.length + 1 → LI c.nodes.l.length M s → M = d * 262144 → Ld c f d s = R →
    run Tryz.prog Γ I8 Q ⟨[(1, .t (.ip (tC c) 0)), (5, .ls 23 0 c.nodes.l.length none), (6, .ls 27 0 c.nodes.l.length none), (7, .ls 53 0 s.rdy.length none), (10, .t (qAk (Ee c))), (11, .t (tI d))], lsH s⟩
  | 0, d, s, M, h, hI, hM, hR => by
    refine Px fun K hK => ?_
    have hlen := hI.len
    have h2 : ¬ d < s.rdy.length := by omega
    simp [h2, lsH]
    simp only [Ld] at hR
    subst hR
    exact h0
  | f + 1, d, s, M, h, hI, hM, hR => by
    refine Px fun K hK => ?_
    have hlen := hI.len
    by_cases h2 : d < s.rdy.length
    case neg =>
      simp [h2, lsH]
      simp only [Ld, h2, ↓reduceIte] at hR
      subst hR
      exact h0
    simp only [Ld, h2, ↓reduceIte] at hR
    obtain ⟨j, hj, he, hz⟩ := hI.rd _ (List.getElem_mem h2)
    have hgd : s.rdy.getD d 0 = (j : Int) := by simp [h2, he]
    rw [hgd] at hR
    simp only [Int.toNat_natCast] at hR
    have hfr := Y6 c
    have hrl : Fo c j ∈ Ee c := by
      have e : Fo c j = (Ee c)[j]'(by omega) := by simp [Fo, hfr, hj]
      rw [e]; exact List.getElem_mem _
    have hin := q3y c _ hrl
    have hrb := qCC c hn hi _ hrl
    have hfold := hI.fold (c := c) (n := j) hin
    have hel : (Ee c)[j]? = some (Fo c j) := by
      have hlt : j < (Ee c).length := by omega
      simp [Fo, hlt]
    have hrt : X2 (Fo c j) = .sl (Az tLn (Fo c j)) (some (Fo c j).length) (if Fo c j = [] then some true else none) := rfl
    have hg1 : (Ad X2 (Ee c))[j]?.getD [] = [X2 (Fo c j)] := by simp [Ad, hel]
    have hM2 : LI c.nodes.l.length ((d + 1) * 262144) ((Fo c j).foldl (Dp c j) s) := ⟨hfold.lo, hfold.ll, hfold.rd, hfold.nd, fun i => ⟨(hfold.bo i).1, by have := (hfold.bo i).2; omega⟩, fun i => ⟨by have := (hfold.bl i).1; omega, (hfold.bl i).2⟩⟩
    have ih := q8z c hc hn hi R h0 f (d + 1) _ _ (by omega) hM2 rfl hR
    have hrdy : (s.rdy)[d]?.getD 0 = (j : Int) := by simpa using hgd
    simp (disch := omega) [h2, lsH, A0, B1 (0 : Int), A9, A5, he, qAk, hfr, hj, hg1, hrt, Ae]
    by_cases hr0 : (Fo c j).length = 0
    · have hr0' : Fo c j = [] := List.eq_nil_of_length_eq_zero hr0
      simp [hr0', Bd]
      rw [hK]
      rw [hr0'] at ih
      simp only [List.foldl_nil, qAk, hfr, lsH] at ih
      exact_mod_cast ih
    · have hr0' : ¬ Fo c j = [] := fun e => hr0 (by simp [e])
      simp (disch := omega) [Bd, hr0', lsH, A0, B1 (0 : Int), A9, A5, he, qAk, hfr, hj, hg1, hrt, Ae]
      refine q40 c hc hn j hj ((d : Int) + 1) (Fo c j) _ (by omega) hin _ _ ?_ (Fo c j).length 0 s M (by omega) hI (by omega) rfl
      simp [lsH]
      rw [hK]
      simp only [qAk, hfr, lsH] at ih
      exact_mod_cast ih
theorem q4i (x : Nd) : ∀ (l : List Nd) (i : Nat), Dh (l ++ [x]) i = if Df x = 0 then Dh l i ++ [((i + l.length : Nat) : Int)] else Dh l i
  | [], i => by simp [Dh]
  | y :: l, i => by
    have := q4i x l (i + 1)
    simp only [List.cons_append, Dh, this, List.length_cons]
    rw [show i + 1 + l.length = i + (l.length + 1) by omega]
    split <;> split <;> rfl
theorem q6A : ∀ (l : List Nd) (i : Nat), (Dh l i).length ≤ l.length
  | [], _ => by simp [Dh]
  | x :: l, i => by
    have := q6A l (i + 1)
    simp only [Dh]
    split <;> simp <;> omega
def K4 (c : B9) (i : Nat) : List Int := (c.nodes.l.take i).map Df ++ List.replicate (c.nodes.l.length - i) 0
theorem q7X {c : B9} {i : Nat} (h : i ≤ c.nodes.l.length) : (K4 c i).length = c.nodes.l.length := by simp [K4]; omega
theorem q41 {c : B9} {i : Nat} (h : i < c.nodes.l.length) : (K4 c i).set i (Df c.nodes.l[i]) = K4 c (i + 1) := by
  unfold K4
  have e1 : ((c.nodes.l.take i).map Df).length = i := by simp; omega
  rw [List.set_append_right _ _ (by rw [e1]; exact Nat.le_refl i), e1, Nat.sub_self]
  rw [show c.nodes.l.length - i = (c.nodes.l.length - (i + 1)) + 1 by omega, List.replicate_succ, List.set_cons_zero]
  have e3 : (c.nodes.l.map Df).take (i + 1) = (c.nodes.l.map Df).take i ++ [Df c.nodes.l[i]] := by rw [List.take_add_one]; simp [h]
  simp [e3]
theorem qAn {c : B9} {i : Nat} (h : i < c.nodes.l.length) (h0 : Df c.nodes.l[i] = 0) : K4 c i = K4 c (i + 1) := by
  unfold K4
  rw [show c.nodes.l.length - i = (c.nodes.l.length - (i + 1)) + 1 by omega, List.replicate_succ]
  have e3 : (c.nodes.l.map Df).take (i + 1) = (c.nodes.l.map Df).take i ++ [Df c.nodes.l[i]] := by rw [List.take_add_one]; simp [h]
  simp [e3, h0]
theorem q90 {Q : AX → St → Prop} (c : B9) (hn : c.nodes.l.length ≤ 16384) (hi : ∀ x ∈ c.nodes.l, x.inn.l.length ≤ 16) (out : List Int)
    (h0 : Q (.exit 0) ⟨[(1, .t (.ip (tC c) 0)), (5, .ls 23 0 c.nodes.l.length none), (6, .ls 27 0 c.nodes.l.length none), (7, .ls 53 0 (Dh c.nodes.l 0).length none), (29, .t (Ab c.nodes)), (30, .t (tI c.nodes.l.length)), (31, .t (tI c.nodes.l.length)), (32, .t (tB false))], [(23, .sl 3 1 (Ak out)), (27, .sl 3 1 (Ak (c.nodes.l.map Df))), (53, .sl 3 1 (Ak (Dh c.nodes.l 0)))]⟩) :
    ∀ (kk i : Nat), kk + i = c.nodes.l.length →
    run Tryz.prog Γ I6 Q ⟨[(1, .t (.ip (tC c) 0)), (5, .ls 23 0 c.nodes.l.length none), (6, .ls 27 0 c.nodes.l.length none), (7, .ls 53 0 (Dh (c.nodes.l.take i) 0).length none), (29, .t (Ab c.nodes)), (30, .t (tI c.nodes.l.length)), (31, .t (tI i))], [(23, .sl 3 1 (Ak out)), (27, .sl 3 1 (Ak (K4 c i))), (53, .sl 3 1 (Ak (Dh (c.nodes.l.take i) 0)))]⟩
  | 0, i, h => by
    refine Pq fun K hK => ?_
    have h2 : ¬ i < c.nodes.l.length := by omega
    have h3 : i = c.nodes.l.length := by omega
    simp [h2]
    subst h3
    simpa [K4] using h0
  | kk + 1, i, h => by
    refine Pq fun K hK => ?_
    have h2 : i < c.nodes.l.length := by omega
    have hx := hi _ (List.getElem_mem h2)
    have ht : c.nodes.l.take (i + 1) = c.nodes.l.take i ++ [c.nodes.l[i]] := by rw [List.take_add_one]; simp [h2]
    have htl : (c.nodes.l.take i).length = i := by simp; omega
    have hrl := q6A (c.nodes.l.take i) 0
    have hll := q7X (c := c) (i := i) (by omega)
    have hll1 := q7X (c := c) (i := i + 1) (by omega)
    have hsn := q4i c.nodes.l[i] (c.nodes.l.take i) 0
    rw [← ht, htl, Nat.zero_add] at hsn
    have e := q5Q (Γ := Γ) c.nodes.l[i].k
    have ih := q90 c hn hi out h0 kk (i + 1) (by omega)
    have hw : E1 1 [[tI (i : Int)]] := by intro e he; simp at he; subst he; rfl
    simp (disch := omega) [h2, Ae, D3 Nd.d, Ba, Ab, Bw, As, -Ej]
    refine A3 e rfl ?_
    have tail : ∀ (lf : List Int), lf = K4 c (i + 1) → run Tryz.prog Γ (.seq (.reg Ej [.keep [1, 5, 6, 7, 8, 29, 30, 31, 49] [23, 27, 53]]) (.cond (.tmp 49) (.reg Lt [.keep [1, 5, 6, 7, 29, 30, 31] [23, 27, 53]]) .skip))
        (Ls 1 (Ar (run Tryz.prog Γ (.reg Lu [.keep [1, 5, 6, 7, 29, 30, 31] [23, 27, 53]]) (Ar (fun s => Ar K Q .normal (ghs [.keep [1, 5, 6, 7, 29, 30, 31] [23, 27, 53]] s)) (Ar K Q))) (Ar (fun s => Ar K Q .normal (ghs [.keep [1, 5, 6, 7, 29, 30, 31] [23, 27, 53]] s)) (Ar K Q))))
        ⟨[(1, .t (.ip (tC c) 0)), (5, .ls 23 0 c.nodes.l.length none), (6, .ls 27 0 c.nodes.l.length none), (7, .ls 53 0 (Dh (c.nodes.l.take i) 0).length none), (8, .t (tI i)), (29, .t (Ab c.nodes)), (30, .t (tI c.nodes.l.length)), (31, .t (tI i))], [(23, .sl 3 1 (Ak out)), (27, .sl 3 1 (Ak lf)), (53, .sl 3 1 (Ak (Dh (c.nodes.l.take i) 0)))]⟩ := by
      rintro lf rfl
      have hget : (K4 c (i + 1))[i]?.getD 0 = Df c.nodes.l[i] := by
        rw [← q41 h2]
        simp [hll, h2]
      have hge := hget
      rw [List.getElem?_eq_getElem (by rw [hll1]; exact h2), Option.getD_some] at hge
      by_cases hz : Df c.nodes.l[i] = 0
      · rw [if_pos hz] at hsn
        simp (disch := omega) [h2, A0, B1 (0 : Int), A9, hll1, hge, hz, hw, A5]
        refine ⟨by omega, ?_⟩
        rw [hK]
        rw [hsn] at ih
        rw [Bq (f := tI) (x := (i : Int))]
        simpa using ih
      · rw [if_neg hz] at hsn
        simp (disch := omega) [h2, A0, B1 (0 : Int), A9, hll1, hge, hz, A5]
        rw [hK]
        rw [hsn] at ih
        exact_mod_cast ih
    by_cases hcb : Fj c.nodes.l[i].k = true
    · have hcb' : decide (1 ≤ c.nodes.l[i].k ∧ c.nodes.l[i].k ≤ 13) = true := by simpa [Fj] using hcb
      have hlo : Df c.nodes.l[i] = c.nodes.l[i].inn.l.length := by simp [Df, hcb]
      rw [hcb']
      have := tail ((K4 c i).set i c.nodes.l[i].inn.l.length) (by rw [← hlo]; exact q41 h2)
      simp (disch := omega) [h2, A0, A9, hll, F6, -Ej]
      exact this
    · have hcb' : decide (1 ≤ c.nodes.l[i].k ∧ c.nodes.l[i].k ≤ 13) = false := by simpa [Fj] using hcb
      have hlo : Df c.nodes.l[i] = 0 := by simp [Df, hcb]
      rw [hcb', qAn h2 hlo]
      rw [if_pos hlo] at hsn
      have hge : (K4 c (i + 1))[i]'(by rw [hll1]; exact h2) = 0 := by
        have hget : (K4 c (i + 1))[i]?.getD 0 = Df c.nodes.l[i] := by
          rw [← q41 h2]
          simp [hll, h2]
        rw [List.getElem?_eq_getElem (by rw [hll1]; exact h2), Option.getD_some] at hget
        rw [hget, hlo]
      simp (disch := omega) [h2, A0, B1 (0 : Int), A9, hll1, hge, hw, A5]
      refine ⟨by omega, ?_⟩
      rw [hK]
      rw [hsn] at ih
      rw [Bq (f := tI) (x := (i : Int))]
      simpa [Ab] using ih
def Do (c : B9) : Int := if E2 c ≠ 0 then E2 c else if (Nw c).1 < c.nodes.l.length then 6 else 0
theorem qI6 (k : Int) : (U4 k).2 ≤ 16 := by
  unfold U4
  split
  · decide
  · have : ∀ n : Nat, (q7P.getD n (0, 0)).2 ≤ 16 := by
      intro n
      by_cases h : n < 16
      · have : n = 0 ∨ n = 1 ∨ n = 2 ∨ n = 3 ∨ n = 4 ∨ n = 5 ∨ n = 6 ∨ n = 7 ∨ n = 8 ∨ n = 9 ∨ n = 10 ∨ n = 11 ∨ n = 12 ∨ n = 13 ∨ n = 14 ∨ n = 15 := by omega
        rcases this with rfl | rfl | rfl | rfl | rfl | rfl | rfl | rfl | rfl | rfl | rfl | rfl | rfl | rfl | rfl | rfl <;> decide
      · rw [List.getD, List.getElem?_eq_none (by simp [q7P]; omega)]; decide
    exact this _
theorem q3R {α : Type} {f : α → Int} : ∀ {l : List α}, Dc (l.map f) = 0 → ∀ x ∈ l, f x = 0
  | [], _, x, h => by cases h
  | y :: l, h, x, hx => by
    simp only [List.map_cons, Dc] at h
    split at h
    · rename_i hy; exact absurd h hy
    · rename_i hy
      rcases List.mem_cons.1 hx with rfl | hx
      · simpa using hy
      · exact q3R h x hx
theorem Ot {c : B9} (h : E2 c = 0) : c.nodes.l.length ≤ 16384 ∧ (∀ x ∈ c.nodes.l, x.inn.l.length ≤ 16) ∧ (∀ x ∈ c.nodes.l, Dn c x = 0) ∧ c.mems.l.length ≤ 16 := by
  unfold E2 at h
  split at h
  · cases h
  rename_i h1
  split at h
  · cases h
  split at h
  · rename_i h2; exact absurd h h2
  rename_i h2
  have h3 := q3R (by simpa using h2)
  refine ⟨by omega, fun x hx => ?_, h3, by omega⟩
  have h4 := h3 x hx
  have h5 := qI6 x.k
  unfold Dn at h4
  split at h4
  · cases h4
  split at h4
  · cases h4
  rename_i h6
  omega
theorem q6B (hΓ : GOk Γ) (c : B9) (hc : CirOk c) (ha : ∀ s ∈ c.names.l, ∀ b ∈ s, b < 128) :
    Aa Tryz.prog Γ 109 [.agg (tC c)] (.tup [if Do c = 0 then .sl (Ak (Nw c).2.out) none none else .sl [] (some 0) (some true), tI (Do c)]) := by
  refine Ac q34 rfl ?_
  have e1 := qCB hΓ c hc ha
  simp [Wl, tC, Ab, Af, Am, As]
  refine A3 e1 rfl ?_
  by_cases h1 : E2 c = 0
  case neg =>
    have : Do c = E2 c := by unfold Do; rw [if_pos h1]
    simp [h1, I9, this]
  obtain ⟨hn, hi, _⟩ := Ot h1
  have e2 := qAl (Γ := Γ) c hn hi
  have hl0 : Do c = if (Nw c).1 < c.nodes.l.length then 6 else 0 := by unfold Do; rw [if_neg (show ¬ (E2 c ≠ 0) by simp [h1])]
  simp (disch := omega) [h1, Ae, A5]
  refine ⟨by omega, ?_⟩
  have e0 : List.replicate c.nodes.l.length [T.v (Value.int .i64 0)] = Ak (List.replicate c.nodes.l.length 0) := by simp [Ad]
  rw [e0]
  have hl := fun Q h0 => q90 (Γ := Γ) (Q := Q) c hn hi (List.replicate c.nodes.l.length 0) h0 c.nodes.l.length 0 (by omega)
  have el0 : K4 c 0 = List.replicate c.nodes.l.length 0 := by simp [K4]
  simp only [el0, Dh, List.take_zero, List.length_nil] at hl
  refine hl _ ?_
  simp [tC, Ab, Af, Am, As]
  refine A8 e2 rfl ?_
  have hI := qAm c hi
  have hm := fun Q h0 => q8z (Γ := Γ) (Q := Q) c hc hn hi (Nw c) h0 (c.nodes.l.length + 1) 0 (Ha c) 0 (by omega) hI (by omega) rfl
  simp
  refine hm _ ?_
  have hend : (Nw c).1 < c.nodes.l.length ↔ ((Nw c).1 : Int) < c.nodes.l.length := by omega
  have hol : (Nw c).2.out.length = c.nodes.l.length := by
    have : ∀ (f d : Nat) (s : LS), s.out.length = c.nodes.l.length → (Ld c f d s).2.out.length = c.nodes.l.length := by
      intro f
      induction f with
      | zero => intro d s h; exact h
      | succ f ih =>
        intro d s h
        simp only [Ld]
        split
        · refine ih _ _ ?_
          have : ∀ (r : M6) (n : Nat) (s : LS), s.out.length = c.nodes.l.length → (r.foldl (Dp c n) s).out.length = c.nodes.l.length := by
            intro r n
            induction r with
            | nil => intro s h; exact h
            | cons p r ih2 =>
              intro s h
              rw [List.foldl_cons]
              refine ih2 _ ?_
              unfold Dp
              split
              · simp [h]
              · exact h
          exact this _ _ _ h
        · exact h
    exact this _ _ _ hI.lo
  by_cases h2 : (Nw c).1 < c.nodes.l.length
  · rw [if_pos h2] at hl0
    have h2' := hend.1 h2
    simp [lsH, tC, Ab, Ae, h2', I9, hl0]
  · rw [if_neg h2] at hl0
    have h2' : ¬ ((Nw c).1 : Int) < c.nodes.l.length := fun h => h2 (hend.2 h)
    have ht : (Ak (Nw c).2.out).take c.nodes.l.length = Ak (Nw c).2.out := by rw [← hol]; simp
    simp [lsH, tC, Ab, Ae, h2, h2', I9, hl0, ht]
structure COk (c : B9) : Prop extends CirOk c where
  asc : ∀ s ∈ c.names.l, ∀ b ∈ s, b < 128
theorem q7Y (hΓ : GOk Γ) (c : B9) (hc : COk c) : Aa Tryz.prog Γ 129 [.agg (tC c)] (tI (Do c)) := by
  refine Ac q3s rfl ?_
  have e := q6B hΓ c hc.toCirOk hc.asc
  simp [Xz, tC, Ab, Af, Am, As]
  refine A3 e rfl ?_
  simp
  simp [Y0]
def A6 (c : B9) : List Int := Ju [14] c.nodes.l 0
def mems (c : B9) : List Int := Ju [15] c.nodes.l 0
theorem q9p (c : B9) (hc : COk c) (k : Int) : Aa Tryz.prog Γ 80 [.agg (tC c), .sl [[tK k]] (some 1) (some false)] (.sl (Ak (Ju [k] c.nodes.l 0)) (some (Ju [k] c.nodes.l 0).length) none) := by
  have := qGJ (Γ := Γ) c hc.toCirOk [k] (some 1) (some false) (by simp)
  simpa [Ad] using this
theorem Dl (c : B9) (hc : COk c) : Ag Tryz.prog Γ 27 [.agg (tC c)] (.sl (Ak (A6 c)) (some (A6 c).length) none) := by
  refine Ap q33 rfl ?_
  simp [We, tC, Ab, Af, Am, As]
  refine A3 (q9p c hc 14) rfl ?_
  simp [Wg, A6]
def E5 (c : B9) : Int := if Do c ≠ 0 then Do c else if 0 < c.mems.l.length ∨ 0 < (mems c).length then 7 else 0
theorem qCD (hΓ : GOk Γ) (c : B9) (hc : COk c) : Aa Tryz.prog Γ 132 [.agg (tC c)] (tI (E5 c)) := by
  refine Ac q6W rfl ?_
  simp [q1v, tC, Ab, Af, Am, As]
  refine A3 (q7Y hΓ c hc) rfl ?_
  by_cases h1 : Do c = 0
  case neg =>
    have : E5 c = Do c := by unfold E5; rw [if_pos h1]
    simp [h1, K0, this]
  have hp : E5 c = if 0 < c.mems.l.length ∨ 0 < (mems c).length then 7 else 0 := by unfold E5; rw [if_neg (show ¬ (Do c ≠ 0) by simp [h1])]
  by_cases h2 : 0 < c.mems.l.length
  · rw [if_pos (.inl h2)] at hp
    have h2' : (0 : Int) < c.mems.l.length := by omega
    simp [h1, Ae, h2, h2', K0, hp]
  · have h2' : ¬ (0 : Int) < c.mems.l.length := by omega
    simp [h1, Ae, h2, h2']
    refine A3 (q9p c hc 15) rfl ?_
    have hml : c.mems.l = [] := List.eq_nil_of_length_eq_zero (by omega)
    by_cases h3 : 0 < (Ju [15] c.nodes.l 0).length
    · rw [if_pos (show 0 < c.mems.l.length ∨ 0 < (mems c).length from .inr h3)] at hp
      have h3' : (0 : Int) < (Ju [15] c.nodes.l 0).length := by omega
      have h4 : ¬ Ju [15] c.nodes.l 0 = [] := fun e => by rw [e] at h3; simp at h3
      simp [A0]
      simp [h3, h4, Bd, K0, hp]
    · have h3m : ¬ 0 < (mems c).length := h3
      rw [if_neg (show ¬ (0 < c.mems.l.length ∨ 0 < (mems c).length) by omega)] at hp
      have h4 : Ju [15] c.nodes.l 0 = [] := List.eq_nil_of_length_eq_zero (by omega)
      simp [A0, h4]
      simp [h4, Bd, K0, hp]
end Go.Lg
namespace Go.Lg
open Go Go.Proofs
def Bc (s : Sl (Sl Int)) : T := .sl (Ad As s.l) s.cap s.nl
def Sl.d : Sl Int := ⟨[], none, none⟩
def Uu (l : List Int) (a b : Nat) : List Int := (l.set a (l.getD b 0)).set b (l.getD a 0)
theorem Zs {l : List Int} {a b : Nat} : (Uu l a b).length = l.length := by simp [Uu]
theorem Cc {l : List Int} {i : Nat} (h : i < l.length) : l.getD i 0 = l[i] := by simp [List.getD_eq_getElem?_getD, h]
theorem qDk {l : List Int} {a b q : Nat} (ha : a < l.length) (hb : b < l.length) (hq : q < l.length) : (Uu l a b).getD q 0 = if q = b then l.getD a 0 else if q = a then l.getD b 0 else l.getD q 0 := by
  unfold Uu
  rw [Me (by simp; exact hb)]
  split
  · rfl
  · rw [Me ha]
theorem q42 {l : List Int} {a b : Nat} (ha : a < l.length) (hb : b < l.length) : (Uu l a b).Perm l := by
  unfold Uu
  rw [Cc ha, Cc hb]
  exact List.set_set_perm ha hb
theorem J0 (ks : List Int) : ∀ (l : List Nd) (i : Nat), (∀ j ∈ Ju ks l i, (i : Int) ≤ j) ∧ (Ju ks l i).Nodup
  | [], _ => ⟨fun j h => (by cases h), List.nodup_nil⟩
  | x :: l, i => by
    obtain ⟨h1, h2⟩ := J0 ks l (i + 1)
    simp only [Ju]
    split
    · refine ⟨fun j hj => ?_, List.nodup_cons.2 ⟨fun hm => ?_, h2⟩⟩
      · rcases List.mem_cons.1 hj with rfl | hj
        · omega
        · have := h1 j hj; omega
      · have := h1 _ hm; omega
    · exact ⟨fun j hj => by have := h1 j hj; omega, h2⟩
theorem q25 (ks : List Int) : ∀ (l : List Nd) (i : Nat), ∀ n ∈ Ju ks l i, (i : Int) ≤ n ∧ n < i + l.length ∧ ks.contains (l.getD (n.toNat - i) Nd.d).k = true
  | [], _, n, h => by cases h
  | x :: l, i, n, h => by
    have tail : n ∈ Ju ks l (i + 1) → (i : Int) ≤ n ∧ n < i + (x :: l).length ∧ ks.contains ((x :: l).getD (n.toNat - i) Nd.d).k = true := fun h => by
      obtain ⟨h1, h2, h3⟩ := q25 ks l (i + 1) n h
      refine ⟨by omega, by simp only [List.length_cons]; omega, ?_⟩
      have e : n.toNat - i = (n.toNat - (i + 1)) + 1 := by omega
      rw [e, List.getD_cons_succ]
      exact h3
    simp only [Ju] at h
    split at h
    · rename_i hk
      rcases List.mem_cons.1 h with rfl | h
      · refine ⟨by omega, by simp only [List.length_cons]; omega, ?_⟩
        have e : ((i : Int).toNat - i) = 0 := by omega
        rw [e, List.getD_cons_zero]
        exact hk
      · exact tail h
    · exact tail h
end Go.Lg
namespace Go.Lg
open Go
section
variable {P : Program} {Γ : Tables} {Q : AX → St → Prop} {s : St}
/- (probecard/probecardlaw03.C).Of (function 13) -/
abbrev q3S : IC := .gh (.seq (.seq (.reg [om 13 4, od 14 (fa 0 1), od 15 (ld 1 14), od 16 (.bin .rem (tm 15) (ku 4)), od 17 (.conv .i64 (tm 16)), od 18 (.bin .leq (tm 13) (tm 17))] [kp [1, 2, 3, 4, 18] [2, 3, 25, 144, 168]]) (.cond (tm 18) .skip
 (.exit 0))) (.seq (.block 1 (.reg [od 21 (fa 0 3), od 22 (ld 1 21), od 23 (.build [(1, (ku 0)), (1, kN), (1, (ki 0)), (1, (ki 0))]), od 24 (.bsl true 104 4 [(tm 23)]), od 25 (.app false 104 4 (tm 22) (tm 24)), od 26 (fa 0 3), on
 (.store 1 (tm 26) (tm 25))] [kp [1, 2, 3, 4] [2, 3, 25, 144, 168]])) (.reg [om 19 4, od 20 (.bin .add (tm 19) (ki 1)), om 4 20] [kp [1, 2, 3, 4] [2, 3, 25, 144, 168]]))) [kp [1, 2, 3, 4] [2, 3, 25, 144, 168]]
def Sj : IC := .loop q3S
abbrev q3T : IC := .gh (.seq (.seq (.reg [om 34 7, om 35 6, od 36 (.bin .lss (tm 34) (tm 35))] [kp [1, 2, 3, 5, 6, 7, 36] [2, 3, 25, 144, 168]]) (.cond (tm 36) .skip (.exit 2))) (.seq (.block 3 (.reg [od 39 (fa 0 3), od 40 (ld 1 39), od 41 (.bsl true
 3 1 [(ki 0)]), od 42 (.build [(1, (ku 14)), (1, (tm 41)), (1, (ki 0)), (1, (ki 0))]), od 43 (.bsl true 104 4 [(tm 42)]), oz 44 (.app false 104 4 (tm 40) (tm 43)) 25, od 45 (fa 0 3), on (.store 1 (tm 45) (tm 44))] [kp [1, 2, 3, 5,
 6, 7] [2, 3, 25, 144, 168]])) (.reg [om 37 7, od 38 (.bin .add (tm 37) (ki 1)), om 7 38] [kp [1, 2, 3, 5, 6, 7] [2, 3, 25, 144, 168]]))) [kp [1, 2, 3, 5, 6, 7] [2, 3, 25, 144, 168]]
def Sm : IC := .loop q3T
abbrev q3U : IC := .gh (.seq (.seq (.reg [om 55 8, od 56 (fa 10 1), od 57 (ld 1 56), od 58 (le 0 57), od 59 (.bin .lss (tm 55) (tm 58)), om 60 59, oT 61 (.mv (tm 8)) 60, oT 62 (.bin .lss (tm 61) (ki 8)) 60, od 63 (.pick (tm 60) (tm 62) kF)] [kp [1,
 2, 3, 5, 6, 8, 63] [2, 3, 25, 144, 168]]) (.cond (tm 63) .skip (.exit 4))) (.seq (.block 5 (.reg [od 66 (fa 0 3), od 67 (.ldR 3 1 false (tm 66)), od 68 (.ldT 12 true (tm 1)), od 69 (fa 10 1), od 70 (.ldT 1 false (tm 69)), om 71 8,
 od 72 (ia 4 70 71), od 73 (.ldT 4 true (tm 72)), od 74 (fa 0 3), od 75 (.ldR 3 1 false (tm 74)), od 76 (.call 49 [(tm 68), (tm 73), (tm 75)]), od 77 (.bsl true 104 4 [(tm 76)]), oz 78 (.app false 104 4 (tm 67) (tm 77)) 25, od 79
 (fa 0 3), on (.stR 3 1 (tm 79) (tm 78))] [kp [1, 2, 3, 5, 6, 8] [2, 3, 25, 144, 168]])) (.reg [om 64 8, od 65 (.bin .add (tm 64) (ki 1)), om 8 65] [kp [1, 2, 3, 5, 6, 8] [2, 3, 25, 144, 168]]))) [kp [1, 2, 3, 5, 6, 8] [2, 3, 25,
 144, 168]]
def Sr : IC := .loop q3U
abbrev q3V : IC := .gh (.seq (.seq (.reg [om 83 10, om 84 6, od 85 (.bin .lss (tm 83) (tm 84))] [kp [1, 2, 3, 5, 6, 9, 10, 85] [2, 3, 25, 144, 168]]) (.cond (tm 85) .skip (.exit 6))) (.seq (.block 7 (.reg [od 88 (fa 0 3), od 89 (.ldR 3 1 false (tm
 88)), om 90 5, om 91 10, od 92 (.bin .add (tm 90) (tm 91)), om 93 10, od 94 (fa 2 1), od 95 (.iadrA 2 1 (tm 94) (tm 93)), od 96 (.ldT 1 false (tm 95)), od 97 (.conv .i64 (tm 96)), om 98 9, od 99 (.bin .rem (tm 97) (tm 98)), od 100
 (.bsl true 3 1 [(tm 99)]), od 101 (ia 4 89 92), od 102 (fa 1 101), on (.store 1 (tm 102) (tm 100))] [kp [1, 2, 3, 5, 6, 9, 10] [2, 3, 25, 144, 168]])) (.reg [om 86 10, od 87 (.bin .add (tm 86) (ki 1)), om 10 87] [kp [1, 2, 3, 5, 6,
 9, 10] [2, 3, 25, 144, 168]]))) [kp [1, 2, 3, 5, 6, 9, 10] [2, 3, 25, 144, 168]]
def Ss : IC := .loop q3V
abbrev q3W : IC := .gh (.seq (.seq (.reg [om 134 11, om 135 9, od 136 (.bin .lss (tm 134) (tm 135))] [kp [1, 2, 3, 9, 11, 136] [2, 3, 25, 144, 168]]) (.cond (tm 136) .skip (.exit 8))) (.seq (.block 9 (.reg [od 139 (fa 1 3), od 140 (.ldR 3 1 false (tm
 139)), om 141 11, od 142 (.call 50 [(tm 141)]), od 143 (.bsl true 9 1 [(tm 142)]), od 144 (.app false 9 1 (tm 140) (tm 143)), od 145 (fa 1 3), on (.stR 3 1 (tm 145) (tm 144))] [kp [1, 2, 3, 9, 11] [2, 3, 25, 144, 168]])) (.reg [om
 137 11, od 138 (.bin .add (tm 137) (ki 1)), om 11 138] [kp [1, 2, 3, 9, 11] [2, 3, 25, 144, 168]]))) [kp [1, 2, 3, 9, 11] [2, 3, 25, 144, 168]]
def Su : IC := .loop q3W
abbrev q26 : IC := .gh (.seq (.seq (.reg [om 146 12, od 147 (fa 11 1), od 148 (ld 1 147), od 149 (le 0 148), od 150 (.bin .lss (tm 146) (tm 149)), om 151 150, oT 152 (.mv (tm 12)) 151, oT 153 (.bin .lss (tm 152) (ki 3)) 151, od 154 (.pick (tm 151)
 (tm 153) kF)] [kp [1, 2, 3, 9, 12, 154] [2, 3, 25, 144, 168]]) (.cond (tm 154) .skip (.exit 10))) (.seq (.block 11 (.reg [od 157 (fa 3 3), od 158 (.ldR 3 1 false (tm 157)), od 159 (fa 11 1), od 160 (.ldT 1 false (tm 159)), om 161
 12, od 162 (ia 1 160 161), od 163 (.ldT 1 false (tm 162)), od 164 (.conv .i64 (tm 163)), om 165 9, od 166 (.bin .rem (tm 164) (tm 165)), od 167 (.bsl true 3 1 [(tm 166)]), od 168 (.app false 3 1 (tm 158) (tm 167)), od 169 (fa 3 3),
 on (.stR 3 1 (tm 169) (tm 168))] [kp [1, 2, 3, 9, 12] [2, 3, 25, 144, 168]])) (.reg [om 155 12, od 156 (.bin .add (tm 155) (ki 1)), om 12 156] [kp [1, 2, 3, 9, 12] [2, 3, 25, 144, 168]]))) [kp [1, 2, 3, 9, 12] [2, 3, 25, 144, 168]]
def Q4 : IC := .loop q26
abbrev q3X : IC := (.seq (.reg [od 1 (.box true (tm 0)), od 2 (.alloc false [(.slice none 0 0), (.slice none 0 0), (.slice none 0 0), (.slice none 0 0)])] [kp [1, 2] [2, 25, 144, 168]]) (.seq (.reg [od 3 (.alloc false [(.slice none 0 0), (.slice none
 0 0), (.slice none 0 0), (.slice none 0 0)])] [.nlb 3 0 25 104 4, .nlb 3 1 144 9 1, .nlb 3 3 168 3 1, kp [1, 2, 3] [2, 3, 25, 144, 168]]) (.seq (.seq (.reg [od 4 (.mv (ki 0))] [kp [1, 2, 3, 4] [2, 3, 25, 144, 168]]) (.block 0
 Sj)) (.seq (.reg [od 27 (fa 0 3), od 28 (ld 1 27), od 29 (le 0 28), om 5 29] [kp [1, 2, 3, 5] [2, 3, 25, 144, 168]]) (.seq (.reg [od 30 (fa 1 1), od 31 (ld 1 30), od 32 (.bin .rem (tm 31) (ku 3)), od 33 (.conv .i64 (tm
 32)), om 6 33] [kp [1, 2, 3, 5, 6] [2, 3, 25, 144, 168]]) (.seq (.seq (.reg [od 7 (.mv (ki 0))] [kp [1, 2, 3, 5, 6, 7] [2, 3, 25, 144, 168]]) (.block 2 Sm)) (.seq (.seq (.reg [od 46 (fa 5 1), od 47 (ld 1 46)] [kp [1, 2,
 3, 5, 6, 47] [2, 3, 25, 144, 168]]) (.cond (tm 47) (.reg [od 48 (fa 0 3), od 49 (ld 1 48), od 50 (.build [(1, (ku 15)), (1, kN), (1, (ki 0)), (1, (ki 0))]), od 51 (.build [(1, (ku 15)), (1, kN), (1, (ki 0)), (1, (ki 1))]), od 52
 (.bsl true 104 4 [(tm 50), (tm 51)]), oz 53 (.app false 104 4 (tm 49) (tm 52)) 25, od 54 (fa 0 3), on (.store 1 (tm 54) (tm 53))] [kp [1, 2, 3, 5, 6] [2, 3, 25, 144, 168]]) .skip)) (.seq (.seq (.reg [od 8 (.mv (ki 0))] [kp [1, 2,
 3, 5, 6, 8] [2, 3, 25, 144, 168]]) (.block 4 Sr)) (.seq (.reg [od 80 (fa 0 3), od 81 (ld 1 80), od 82 (le 0 81), om 9 82] [kp [1, 2, 3, 5, 6, 9] [2, 3, 25, 144, 168]]) (.seq (.seq (.reg [od 10 (.mv (ki 0))] [kp [1, 2, 3,
 5, 6, 9, 10] [2, 3, 25, 144, 168]]) (.block 6 Ss)) (.seq (.seq (.reg [od 103 (fa 5 1), od 104 (ld 1 103)] [kp [1, 2, 3, 9, 104] [2, 3, 25, 144, 168]]) (.cond (tm 104) (.reg [od 105 (fa 6 1), od 106 (.iadrA 4 1 (tm 105)
 (ki 0)), od 107 (.ldT 1 false (tm 106)), od 108 (.conv .i64 (tm 107)), om 109 9, od 110 (.bin .rem (tm 108) (tm 109)), od 111 (.bsl true 3 1 [(tm 110)]), od 112 (fa 6 1), od 113 (.iadrA 4 1 (tm 112) (ki 1)), od 114 (.ldT 1 false
 (tm 113)), od 115 (.conv .i64 (tm 114)), om 116 9, od 117 (.bin .rem (tm 115) (tm 116)), od 118 (fa 6 1), od 119 (.iadrA 4 1 (tm 118) (ki 2)), od 120 (.ldT 1 false (tm 119)), od 121 (.conv .i64 (tm 120)), om 122 9, od 123 (.bin
 .rem (tm 121) (tm 122)), od 124 (.bsl true 3 1 [(tm 117), (tm 123)]), od 125 (fa 6 1), od 126 (.iadrA 4 1 (tm 125) (ki 3)), od 127 (.ldT 1 false (tm 126)), od 128 (.conv .i64 (tm 127)), om 129 9, od 130 (.bin .rem (tm 128) (tm
 129)), od 131 (.build [(1, (tm 111)), (1, (tm 124)), (1, (tm 130))]), od 132 (.bsl true 110 3 [(tm 131)]), od 133 (fa 2 3), on (.stR 3 1 (tm 133) (tm 132))] [kp [1, 2, 3, 9] [2, 3, 25, 144, 168]]) .skip)) (.seq (.seq (.reg [od 11
 (.mv (ki 0))] [kp [1, 2, 3, 9, 11] [2, 3, 25, 144, 168]]) (.block 8 Su)) (.seq (.seq (.reg [od 12 (.mv (ki 0))] [kp [1, 2, 3, 9, 12] [2, 3, 25, 144, 168]]) (.block 10 Q4)) (.seq (.reg [od 170 (fa 3 3), od 171
 (ld 1 170), om 172 9, od 173 (.bin .sub (tm 172) (ki 1)), od 174 (.bsl true 3 1 [(tm 173)]), oz 175 (.app false 3 1 (tm 171) (tm 174)) 168, od 176 (fa 3 3), on (.store 1 (tm 176) (tm 175))] [kp [2, 3] [2, 3, 25, 144, 168]]) (.seq
 (.reg [od 177 (lG 4 3), on (.store 4 (tm 2) (tm 177))] [kp [2] [2, 25, 144, 168]]) .ret)))))))))))))))
theorem Y8 (h : ∀ K : St → Prop, K = run P Γ Sj Q → run P Γ q3S (Ar K Q) s) : run P Γ Sj Q s := Ah h
theorem Y9 (h : ∀ K : St → Prop, K = run P Γ Sm Q → run P Γ q3T (Ar K Q) s) : run P Γ Sm Q s := Ah h
theorem Ya (h : ∀ K : St → Prop, K = run P Γ Sr Q → run P Γ q3U (Ar K Q) s) : run P Γ Sr Q s := Ah h
theorem Yb (h : ∀ K : St → Prop, K = run P Γ Ss Q → run P Γ q3V (Ar K Q) s) : run P Γ Ss Q s := Ah h
theorem Yc (h : ∀ K : St → Prop, K = run P Γ Su Q → run P Γ q3W (Ar K Q) s) : run P Γ Su Q s := Ah h
theorem X3 (h : ∀ K : St → Prop, K = run P Γ Q4 Q → run P Γ q26 (Ar K Q) s) : run P Γ Q4 Q s := Ah h
def Gj : List RV := [.cell 2 4 true]
/- (probecard/probecardlaw03.C).gate (function 49) -/
abbrev q0t : IC := .gh (.seq (.seq (.reg [om 37 12, om 38 7, od 39 (.bin .lss (tm 37) (tm 38))] [kp [2, 3, 4, 6, 7, 8, 9, 10, 11, 12, 39] [6, 51, 70, 79, 86, 94, 105, 126, 142, 156]]) (.cond (tm 39) .skip (.exit 0))) (.seq (.block 1 (.seq (.reg [om
 42 2, om 43 12, od 44 (ia 4 42 43), od 45 (fa 0 44), od 46 (ld 1 45), od 47 (.bin .eql (tm 46) (ku 12))] [kp [2, 3, 4, 6, 7, 8, 9, 10, 11, 12, 47] [6, 51, 70, 79, 86, 94, 105, 126, 142, 156]]) (.cond (tm 47) (.reg [om 48 11, om 49
 12, od 50 (.bsl true 3 1 [(tm 49)]), od 51 (.app false 3 1 (tm 48) (tm 50)), om 11 51] [kp [2, 3, 4, 6, 7, 8, 9, 10, 11, 12] [6, 51, 70, 79, 86, 94, 105, 126, 142, 156]]) .skip))) (.reg [om 40 12, od 41 (.bin .add (tm 40) (ki 1)),
 om 12 41] [kp [2, 3, 4, 6, 7, 8, 9, 10, 11, 12] [6, 51, 70, 79, 86, 94, 105, 126, 142, 156]]))) [kp [2, 3, 4, 6, 7, 8, 9, 10, 11, 12] [6, 51, 70, 79, 86, 94, 105, 126, 142, 156]]
def Na : IC := .loop q0t
abbrev q0u : IC := (.seq (.reg [od 3 (.box true (tm 0)), od 4 (.box true (tm 1)), od 6 (.alloc false [(.int .u8 0), (.slice none 0 0), (.int .i64 0), (.int .i64 0)])] [kp [2, 3, 4, 6] [6, 70, 79, 86, 94, 105, 126, 142, 156]]) (.seq (.reg [om 17 2, od
 18 (le 0 17), om 7 18] [kp [2, 3, 4, 6, 7] [6, 70, 79, 86, 94, 105, 126, 142, 156]]) (.seq (.reg [od 19 (fa 1 4), od 20 (.iadrA 3 1 (tm 19) (ki 0)), od 21 (ld 1 20), od 22 (.conv .i64 (tm 21)), om 23 7, od 24 (.bin .rem (tm 22) (tm
 23)), od 25 (fa 1 4), od 26 (.iadrA 3 1 (tm 25) (ki 1)), od 27 (ld 1 26), od 28 (.conv .i64 (tm 27)), om 29 7, od 30 (.bin .rem (tm 28) (tm 29)), od 31 (fa 1 4), od 32 (.iadrA 3 1 (tm 31) (ki 2)), od 33 (ld 1 32), od 34 (.conv .i64
 (tm 33)), om 35 7, od 36 (.bin .rem (tm 34) (tm 35)), om 8 24, om 9 30, om 10 36] [kp [2, 3, 4, 6, 7, 8, 9, 10] [6, 70, 79, 86, 94, 105, 126, 142, 156]]) (.seq (.reg [od 11 (.mv kN)] [.nl 11 51 3 1, kp [2, 3, 4, 6, 7, 8, 9, 10, 11]
 [6, 51, 70, 79, 86, 94, 105, 126, 142, 156]]) (.seq (.seq (.reg [od 12 (.mv (ki 0))] [kp [2, 3, 4, 6, 7, 8, 9, 10, 11, 12] [6, 51, 70, 79, 86, 94, 105, 126, 142, 156]]) (.block 0 Na)) (.seq (.reg [od 52 (fa 0 4), od 53
 (ld 1 52), od 54 (.bin .rem (tm 53) (ku 9)), od 55 (.conv .i64 (tm 54)), om 13 55] [kp [3, 4, 6, 8, 9, 10, 11, 13] [6, 51, 70, 79, 86, 94, 105, 126, 142, 156]]) (.seq (.seq (.reg [od 56 (fa 4 3), od 57 (ld 1 56)] [kp [4, 6, 8, 9,
 10, 11, 13, 57] [6, 51, 70, 79, 86, 94, 105, 126, 142, 156]]) (.cond (tm 57) (.reg [od 58 (fa 0 4), od 59 (ld 1 58), od 60 (.bin .rem (tm 59) (ku 13)), od 61 (.conv .i64 (tm 60)), om 13 61] [kp [4, 6, 8, 9, 10, 11, 13] [6, 51, 70,
 79, 86, 94, 105, 126, 142, 156]]) .skip)) (.seq (.block 2 (.seq (.reg [om 63 13, od 64 (.bin .lss (tm 63) (ki 6)), om 62 64] [kp [4, 6, 8, 9, 10, 11, 13, 62] [6, 51, 70, 79, 86, 94, 105, 126, 142, 156]]) (.cond (tm 62) (.seq (.reg
 [om 65 13, od 66 (.conv .u8 (tm 65)), od 67 (.bin .add (ku 5) (tm 66)), om 68 8, om 69 9, od 70 (.bsl false 3 1 [(tm 68), (tm 69)]), od 71 (.build [(1, (tm 67)), (1, (tm 70)), (1, (ki 0)), (1, (ki 0))]), od 14 (.alloc false [(.int
 .u8 0), (.slice none 0 0), (.int .i64 0), (.int .i64 0)]), on (.store 4 (tm 14) (tm 71))] [kp [4, 6, 10, 14] [6, 14, 70, 79, 86, 94, 105, 126, 142, 156]]) (.seq (.seq (.reg [od 72 (fa 0 4), od 73 (ld 1 72), od 74 (.bin .geq (tm 73)
 (ku 128))] [kp [6, 10, 14, 74] [6, 14, 70, 79, 86, 94, 105, 126, 142, 156]]) (.cond (tm 74) (.reg [od 75 (fa 1 14), od 76 (ld 1 75), om 77 10, od 78 (.bsl true 3 1 [(tm 77)]), od 79 (.app false 3 1 (tm 76) (tm 78)), od 80 (fa 1
 14), on (.store 1 (tm 80) (tm 79))] [kp [6, 14] [6, 14, 70, 79, 86, 94, 105, 126, 142, 156]]) .skip)) (.seq (.reg [od 81 (lG 4 14), on (.store 4 (tm 6) (tm 81))] [kp [6] [6, 70, 79, 86, 94, 105, 126, 142, 156]]) .ret))) (.seq (.reg
 [om 83 13, od 84 (.bin .eql (tm 83) (ki 6)), om 82 84] [kp [4, 6, 8, 9, 10, 11, 13, 82] [6, 51, 70, 79, 86, 94, 105, 126, 142, 156]]) (.cond (tm 82) (.seq (.reg [om 85 8, od 86 (.bsl false 3 1 [(tm 85)]), od 87 (.build [(1, (ku
 4)), (1, (tm 86)), (1, (ki 0)), (1, (ki 0))]), on (.store 4 (tm 6) (tm 87))] [kp [6] [6, 70, 79, 86, 94, 105, 126, 142, 156]]) .ret) (.seq (.reg [om 89 13, od 90 (.bin .eql (tm 89) (ki 7)), om 88 90] [kp [4, 6, 8, 9, 10, 11, 13,
 88] [6, 51, 70, 79, 86, 94, 105, 126, 142, 156]]) (.cond (tm 88) (.seq (.reg [om 91 8, om 92 9, om 93 10, od 94 (.bsl false 3 1 [(tm 91), (tm 92), (tm 93)]), od 95 (.build [(1, (ku 11)), (1, (tm 94)), (1, (ki 0)), (1, (ki 0))]), on
 (.store 4 (tm 6) (tm 95))] [kp [6] [6, 70, 79, 86, 94, 105, 126, 142, 156]]) .ret) (.seq (.reg [om 97 13, od 98 (.bin .eql (tm 97) (ki 9)), om 99 98, oF 100 (.mv (tm 13)) 99, oF 101 (.bin .eql (tm 100) (ki 10)) 99, od 102 (.pick
 (tm 99) kT (tm 101)), om 96 102] [kp [4, 6, 8, 9, 11, 13, 96] [6, 51, 70, 79, 86, 94, 105, 126, 142, 156]]) (.cond (tm 96) (.seq (.reg [om 103 8, om 104 9, od 105 (.bsl false 3 1 [(tm 103), (tm 104)]), od 106 (.build [(1, (ku 12)),
 (1, (tm 105)), (1, (ki 0)), (1, (ki 0))]), on (.store 4 (tm 6) (tm 106))] [kp [6] [6, 70, 79, 86, 94, 105, 126, 142, 156]]) .ret) (.seq (.reg [om 108 13, od 109 (.bin .gtr (tm 108) (ki 10)), om 110 109, oT 111 (.mv (tm 11)) 110, oT
 112 (le 0 111) 110, oT 113 (.bin .gtr (tm 112) (ki 0)) 110, od 114 (.pick (tm 110) (tm 113) kF), om 107 114] [kp [4, 6, 8, 11, 107] [6, 51, 70, 79, 86, 94, 105, 126, 142, 156]]) (.cond (tm 107) (.seq (.reg [od 115 (fa 1 4), od 116
 (.iadrA 3 1 (tm 115) (ki 0)), od 117 (ld 1 116), od 118 (.conv .i64 (tm 117)), om 119 11, od 120 (le 0 119), od 121 (.bin .rem (tm 118) (tm 120)), om 15 121] [kp [6, 11, 15] [6, 51, 70, 79, 86, 94, 105, 126, 142, 156]]) (.seq (.reg
 [om 122 11, om 123 15, od 124 (ia 1 122 123), od 125 (ld 1 124), od 126 (.bsl false 3 1 [(tm 125)]), od 127 (.build [(1, (ku 13)), (1, (tm 126)), (1, (ki 0)), (1, (ki 0))]), od 16 (.alloc false [(.int .u8 0), (.slice none 0 0),
 (.int .i64 0), (.int .i64 0)]), on (.store 4 (tm 16) (tm 127))] [kp [6, 11, 15, 16] [6, 16, 51, 70, 79, 86, 94, 105, 126, 142, 156]]) (.seq (.seq (.reg [om 128 11, od 129 (le 0 128), od 130 (.bin .gtr (tm 129) (ki 1))] [kp [6, 11,
 15, 16, 130] [6, 16, 51, 70, 79, 86, 94, 105, 126, 142, 156]]) (.cond (tm 130) (.reg [od 131 (fa 1 16), od 132 (.ldR 16 1 false (tm 131)), om 133 11, om 134 15, od 135 (.bin .add (tm 134) (ki 1)), om 136 11, od 137 (le 0 136), od
 138 (.bin .rem (tm 135) (tm 137)), od 139 (ia 1 133 138), od 140 (.ldR 51 1 false (tm 139)), od 141 (.bsl true 3 1 [(tm 140)]), od 142 (.app false 3 1 (tm 132) (tm 141)), od 143 (fa 1 16), on (.stR 16 1 (tm 143) (tm 142))] [kp [6,
 16] [6, 16, 70, 79, 86, 94, 105, 126, 142, 156]]) .skip)) (.seq (.reg [od 144 (lG 4 16), on (.store 4 (tm 6) (tm 144))] [kp [6] [6, 70, 79, 86, 94, 105, 126, 142, 156]]) .ret)))) (.seq (.reg [od 146 (fa 0 4), od 147 (ld 1 146), od
 148 (.bin .gtr (tm 147) (ku 240)), om 145 148] [kp [4, 6, 8, 145] [6, 70, 79, 86, 94, 105, 126, 142, 156]]) (.cond (tm 145) (.seq (.reg [od 149 (fa 1 4), od 150 (.iadrA 3 1 (tm 149) (ki 0)), od 151 (ld 1 150), od 152 (.bin .rem (tm
 151) (ku 2)), od 153 (.bin .add (ku 1) (tm 152)), od 154 (.build [(1, (tm 153)), (1, kN), (1, (ki 0)), (1, (ki 0))]), on (.store 4 (tm 6) (tm 154))] [kp [6] [6, 70, 79, 86, 94, 105, 126, 142, 156]]) .ret) .skip))))))))))))) (.seq
 (.reg [om 155 8, od 156 (.bsl false 3 1 [(tm 155)]), od 157 (.build [(1, (ku 3)), (1, (tm 156)), (1, (ki 0)), (1, (ki 0))]), on (.store 4 (tm 6) (tm 157))] [kp [6] [6, 70, 79, 86, 94, 105, 126, 142, 156]]) .ret)))))))))
theorem Uw (h : ∀ K : St → Prop, K = run P Γ Na Q → run P Γ q0t (Ar K Q) s) : run P Γ Na Q s := Ah h
def B0 : List RV := [.cell 6 4 true]
/- probecard/probecardlaw03.name (function 50) -/
abbrev q3Y : IC := (.seq (.reg [od 2 (.mv (.const (sV [])))] [kp [0] []]) (.seq (.reg [om 3 0, od 4 (.bin .quo (tm 3) (ki 10)), od 5 (.bin .add (ki 48) (tm 4)), od 6 (.conv .u8 (tm 5)), om 7 0, od 8 (.bin .rem (tm 7) (ki 10)), od 9 (.bin .add (ki 48)
 (tm 8)), od 10 (.conv .u8 (tm 9)), od 11 (.bsl true 5 1 [(ku 110), (tm 6), (tm 10)]), od 12 (.bytesStr (tm 11)), om 2 12] [kp [2] []]) .ret))
def q3Z : List RV := [.tmp 2]
end
end Go.Lg
namespace Go.Lg
open Go Go.Proofs
theorem q7Z : Aw Tryz.prog 13 q3X 178 1 Gj = true := by kernel_rfl
theorem q5U : Aw Tryz.prog 49 q0u 158 3 B0 = true := by kernel_rfl
theorem q7a : Aw Tryz.prog 50 q3Y 13 1 q3Z = true := by kernel_rfl
end Go.Lg
namespace Go.Lg
open Go Go.Proofs
variable {Γ : Tables}
structure Gd where
  k : Int
  a : Int
  b : Int
  d : Int
def tGd (g : Gd) : List T := [tK g.k, tK g.a, tK g.b, tK g.d]
structure CD where
  i : Int
  f : Int
  d0 : Int
  d1 : Int
  bus : Bool
  mem : Bool
  p0 : Int
  p1 : Int
  p2 : Int
  p3 : Int
  gates : Sl Gd
  outs : Sl Int
def Ir (x : CD) : List T := [tK x.i, tK x.f, tK x.d0, tK x.d1, tB x.bus, tB x.mem, tK x.p0, tK x.p1, tK x.p2, tK x.p3, .sl (Az tGd x.gates.l) x.gates.cap x.gates.nl, .sl (Ad tK x.outs.l) x.outs.cap x.outs.nl]
def Qq (n : Int) : Prop := 0 ≤ n ∧ n ≤ 255
def q7b (g : Gd) : Prop := Qq g.k ∧ Qq g.a ∧ Qq g.b ∧ Qq g.d
def Le (i : Nat) : List UInt8 := [110, UInt8.ofNat (48 + i / 10), UInt8.ofNat (48 + i % 10)]
theorem qDl (i : Nat) (hi : i < 100) : Aa Tryz.prog Γ 50 [tI i] (tS (Le i)) := by
  refine Ac q7a rfl ?_
  have h1 : (i : Int).tdiv 10 = ((i / 10 : Nat) : Int) := by rw [Int.tdiv_eq_ediv_of_nonneg (by omega)]; omega
  have h2 : (i : Int).tmod 10 = ((i % 10 : Nat) : Int) := by rw [Int.tmod_eq_emod_of_nonneg (by omega)]; omega
  have h3 : i / 10 < 10 := by omega
  have h4 : i % 10 < 10 := by omega
  generalize hq : i / 10 = q at *
  generalize hr : i % 10 = r at *
  have e1 : (48 + (q : Int)).toNat = 48 + q := by omega
  have e2 : (48 + (r : Int)).toNat = 48 + r := by omega
  simp (disch := omega) [q3Y, sV, h1, h2, A5, Bl, Vd]
  simp [q3Z, Le, hq, hr, tS, sV, e1, e2]
def q39 (nodes : List Nd) : List Int := Ju [12] nodes 0
def q7c (bus : Bool) (g : Gd) (a b d : Int) (t : List Int) : Nd :=
  let kind := if bus then g.k.tmod 13 else g.k.tmod 9
  if kind < 6 then ⟨5 + kind, if 128 ≤ g.k then ⟨[a, b, d], none, none⟩ else ⟨[a, b], none, none⟩, 0, 0⟩
  else if kind = 6 then ⟨4, ⟨[a], none, none⟩, 0, 0⟩
  else if kind = 7 then ⟨11, ⟨[a, b, d], none, none⟩, 0, 0⟩
  else if kind = 9 ∨ kind = 10 then ⟨12, ⟨[a, b], none, none⟩, 0, 0⟩
  else if 10 < kind ∧ 0 < t.length then
    let k := g.a.tmod t.length
    ⟨13, if 1 < t.length then ⟨[t.getD k.toNat 0, t.getD ((k + 1).tmod t.length).toNat 0], none, none⟩ else ⟨[t.getD k.toNat 0], none, none⟩, 0, 0⟩
  else if 240 < g.k then ⟨1 + g.a.tmod 2, ⟨[], some 0, some true⟩, 0, 0⟩
  else ⟨3, ⟨[a], none, none⟩, 0, 0⟩
def Yd (bus : Bool) (g : Gd) (nodes : List Nd) : Nd := q7c bus g (g.a.tmod nodes.length) (g.b.tmod nodes.length) (g.d.tmod nodes.length) (q39 nodes)
theorem q91 {Q : AX → St → Prop} (nodes : List Nd) (cap : Option Nat) (nl : Option Bool) (hl : nodes.length ≤ 100) (a3 a4 a8 a9 a10 : T) (r6 : List T)
    (h0 : Q (.exit 0) ⟨[(2, .t (.sl (Az Bw nodes) cap nl)), (3, .t a3), (4, .t a4), (6, .lp 6 0 0), (7, .t (tI nodes.length)), (8, .t a8), (9, .t a9), (10, .t a10), (11, .ls 51 0 (q39 nodes).length none), (12, .t (tI nodes.length)), (39, .t (tB false))], [(6, .bx (r6.map AV.t)), (51, .sl 3 1 (Ak (q39 nodes)))]⟩) : ∀ (k i : Nat), k + i = nodes.length →
    run Tryz.prog Γ Na Q ⟨[(2, .t (.sl (Az Bw nodes) cap nl)), (3, .t a3), (4, .t a4), (6, .lp 6 0 0), (7, .t (tI nodes.length)), (8, .t a8), (9, .t a9), (10, .t a10), (11, .ls 51 0 (q39 (nodes.take i)).length none), (12, .t (tI i))], [(6, .bx (r6.map AV.t)), (51, .sl 3 1 (Ak (q39 (nodes.take i))))]⟩
  | 0, i, h => by
    refine Uw fun K hK => ?_
    have h2 : ¬ i < nodes.length := by omega
    have h3 : i = nodes.length := by omega
    simp [h2]
    subst h3
    simpa using h0
  | k + 1, i, h => by
    refine Uw fun K hK => ?_
    have h2 : i < nodes.length := by omega
    have ht : nodes.take (i + 1) = nodes.take i ++ [nodes[i]] := by rw [List.take_add_one]; simp [h2]
    have hlen := Vj [12] (nodes.take i) 0
    have htl : (nodes.take i).length = i := by simp; omega
    have hal : q39 (nodes.take (i + 1)) = if nodes[i].k = 12 then q39 (nodes.take i) ++ [(i : Int)] else q39 (nodes.take i) := by
      simp only [q39]
      rw [ht, Vi, htl]
      simp only [Ju, Nat.zero_add, List.contains_cons, List.contains_nil, Bool.or_false, q9l, decide_eq_true_eq]
      split <;> simp
    have ih := q91 nodes cap nl hl a3 a4 a8 a9 a10 r6 h0 k (i + 1) (by omega)
    rw [hal] at ih
    simp only [q39] at ih ⊢
    by_cases h5 : nodes[i].k = 12
    · rw [if_pos h5] at ih
      have hw : E1 1 [[tI (i : Int)]] := by intro e he; simp at he; subst he; rfl
      simp (disch := omega) [h2, Ae, D3 Nd.d, Ba, Bw, As, h5, A5, A0, A9, hw]
      rw [hK]
      simp at ih
      rw [Bq (f := tI) (x := (i : Int))]
      exact ⟨by omega, ih⟩
    · rw [if_neg h5] at ih
      simp (disch := omega) [h2, Ae, D3 Nd.d, Ba, Bw, As, h5, A5]
      rw [hK]
      simpa using ih
theorem Bm {a : Int} {n : Nat} (h0 : 0 ≤ a) (h1 : 0 < n) : 0 ≤ a.tmod n ∧ a.tmod n < n := by
  rw [Int.tmod_eq_emod_of_nonneg h0]
  exact ⟨Int.emod_nonneg _ (by omega), Int.emod_lt_of_pos _ (by omega)⟩
theorem C6 {ty s : Nat} {es : List (List T)} : N9 (.sl ty s es) = ∀ e ∈ es, ∀ t ∈ e, Aq t = true := rfl
set_option maxHeartbeats 4000000 in
theorem qDm (x : CD) (g : Gd) (hg : q7b g) (nodes : List Nd) (cap : Option Nat) (nl : Option Bool) (h0 : 1 ≤ nodes.length) (h1 : nodes.length ≤ 100) :
    Aa Tryz.prog Γ 49 [.agg (Ir x), .agg (tGd g), .sl (Az Bw nodes) cap nl] (.agg (Bw (Yd x.bus g nodes))) := by
  refine Ac q5U rfl ?_
  obtain ⟨⟨hk0, hk1⟩, ⟨ha0, ha1⟩, ⟨hb0, hb1⟩, ⟨hd0, hd1⟩⟩ := hg
  have hn0 : ¬ (nodes.length : Int) = 0 := by omega
  have hn1 : (nodes.length : Int) ≠ 0 := by omega
  have hne : ¬ nodes = [] := fun e => by subst e; simp at h0
  have hlp := fun Q a3 a4 a8 a9 a10 r6 h0 => q91 (Γ := Γ) (Q := Q) nodes cap nl h1 a3 a4 a8 a9 a10 r6 h0 nodes.length 0 (by omega)
  have ht := Vj [12] nodes 0
  simp only [q39, List.take_zero, Ju, List.length_nil, C9] at hlp
  simp (disch := omega) [q0u, Ir, tGd, Ae, A5, hn0]
  refine ⟨hne, hlp _ _ _ _ _ _ [_, _, _, _] ?_⟩
  clear hlp
  unfold Yd
  simp only [q39]
  generalize Ju [12] nodes 0 = t at *
  have m13 : 0 ≤ g.k.tmod 13 ∧ g.k.tmod 13 < 13 := Bm (n := 13) hk0 (by omega)
  have m9 : 0 ≤ g.k.tmod 9 ∧ g.k.tmod 9 < 9 := Bm (n := 9) hk0 (by omega)
  have ma : 0 ≤ g.a.tmod 2 ∧ g.a.tmod 2 < 2 := Bm (n := 2) ha0 (by omega)
  generalize g.a.tmod nodes.length = a
  generalize g.b.tmod nodes.length = b
  generalize g.d.tmod nodes.length = d
  unfold q7c
  cases x.bus
  · generalize hkk : g.k.tmod 9 = kk at *
    by_cases k1 : kk < 6
    · by_cases k2 : 128 ≤ g.k
      · simp (disch := omega) [hkk, k1, k2, A5, Bl, Bd, B0, Bw, As, Ad, E1, Aj, C6]
      · simp (disch := omega) [hkk, k1, k2, A5, Bl, Bd, B0, Bw, As, Ad, E1, Aj, C6]
    by_cases k3 : kk = 6
    · simp (disch := omega) [hkk, k1, k3, A5, Bl, Bd, B0, Bw, As, Ad, E1, Aj, C6]
    by_cases k4 : kk = 7
    · simp (disch := omega) [hkk, k1, k4, A5, Bl, Bd, B0, Bw, As, Ad, E1, Aj, C6]
    have k5 : kk = 8 := by omega
    by_cases k6 : 240 < g.k
    · simp (disch := omega) [hkk, k5, k6, A5, Bl, Bd, B0, Bw, As, Ad, E1, Aj, C6]
    · simp (disch := omega) [hkk, k5, k6, A5, Bl, Bd, B0, Bw, As, Ad, E1, Aj, C6]
  · generalize hkk : g.k.tmod 13 = kk at *
    by_cases k1 : kk < 6
    · by_cases k2 : 128 ≤ g.k
      · simp (disch := omega) [hkk, k1, k2, A5, Bl, Bd, B0, Bw, As, Ad, E1, Aj, C6]
      · simp (disch := omega) [hkk, k1, k2, A5, Bl, Bd, B0, Bw, As, Ad, E1, Aj, C6]
    by_cases k3 : kk = 6
    · simp (disch := omega) [hkk, k1, k3, A5, Bl, Bd, B0, Bw, As, Ad, E1, Aj, C6]
    by_cases k4 : kk = 7
    · simp (disch := omega) [hkk, k1, k4, A5, Bl, Bd, B0, Bw, As, Ad, E1, Aj, C6]
    by_cases k8 : kk = 9
    · simp (disch := omega) [hkk, k8, A5, Bl, Bd, B0, Bw, As, Ad, E1, Aj, C6]
    by_cases k9 : kk = 10
    · simp (disch := omega) [hkk, k9, A5, Bl, Bd, B0, Bw, As, Ad, E1, Aj, C6]
    by_cases k10 : 10 < kk ∧ 0 < t.length
    · obtain ⟨k11, k10⟩ := k10
      have htn : ¬ (t.length : Int) = 0 := by omega
      have htne : ¬ t = [] := fun e => by subst e; simp at k10
      have htp : (0 : Int) < t.length := by omega
      have mt := Bm (n := t.length) ha0 k10
      generalize hq : g.a.tmod t.length = q at *
      have mt2 := Bm (a := q + 1) (n := t.length) (by omega) k10
      have hq0 : q.toNat < t.length := by omega
      generalize hq2 : (q + 1).tmod t.length = q2 at *
      have hq20 : q2.toNat < t.length := by omega
      have e1 := B1 (f := tI) 0 hq0
      have e2 := B1 (f := tI) 0 hq20
      by_cases k12 : 1 < t.length
      · have k12' : (1 : Int) < t.length := by omega
        simp (disch := omega) [hkk, k1, k3, k4, k8, k9, k11, k10, htp, htn, k12, k12', hq, hq2, e1, e2, hq0, hq20, mt.1, mt.2, mt2.1, mt2.2, htne, A0, A9, A5, Bl, Bd, Bw, As, Aj, C6, B0]
        simp [E1, Ad]
      · have k12' : ¬ (1 : Int) < t.length := by omega
        simp (disch := omega) [hkk, k1, k3, k4, k8, k9, k11, k10, htp, htn, k12, k12', hq, hq2, e1, e2, hq0, hq20, mt.1, mt.2, mt2.1, mt2.2, htne, A0, A9, A5, Bl, Bd, Bw, As, Aj, C6, B0]
        simp [E1, Ad]
    · by_cases k11 : 10 < kk
      · have k10' : t = [] := List.eq_nil_of_length_eq_zero (by omega)
        subst k10'
        by_cases k6 : 240 < g.k
        · simp (disch := omega) [hkk, k1, k3, k4, k8, k9, k11, k6, A5, Bl, Bd, B0, Bw, As, Ad, E1, Aj, C6]
        · simp (disch := omega) [hkk, k1, k3, k4, k8, k9, k11, k6, A5, Bl, Bd, B0, Bw, As, Ad, E1, Aj, C6]
      · have k5 : kk = 8 := by omega
        by_cases k6 : 240 < g.k
        · simp (disch := omega) [hkk, k5, k6, A5, Bl, Bd, B0, Bw, As, Ad, E1, Aj, C6]
        · simp (disch := omega) [hkk, k5, k6, A5, Bl, Bd, B0, Bw, As, Ad, E1, Aj, C6]
def q1U : T := .sl [] (some 0) (some true)
def Ry (nodes : List Nd) (names : List (List UInt8)) (m : T) (outs : List Int) : List (Nat × Bf) :=
  [(2, .bx [.t q1U, .t q1U, .t q1U, .t q1U]), (3, .bx [.ls 25 0 nodes.length none, .ls 144 0 names.length none, .t m, .ls 168 0 outs.length none]), (25, .sl 104 4 (Az Bw nodes)), (144, .sl 9 1 (Ad tS names)), (168, .sl 3 1 (Ak outs))]
def He : Nd := ⟨0, ⟨[], some 0, some true⟩, 0, 0⟩
def q4j (l : Int) : Nd := ⟨14, ⟨[l], some 1, some false⟩, 0, 0⟩
def q43 (b : Int) : Nd := ⟨15, ⟨[], some 0, some true⟩, 0, b⟩
theorem q92 {Q : AX → St → Prop} (x : CD) (hx : Qq x.i) (R : List Nd)
    (h0 : Q (.exit 0) ⟨[(1, .t (.ip (Ir x) 0)), (2, .lp 2 0 0), (3, .lp 3 0 0), (4, .t (tI (x.i.tmod 4 + 1))), (18, .t (tB false))], Ry R [] q1U []⟩) : ∀ (k : Nat) (i : Int) (ns : List Nd), k + i = x.i.tmod 4 + 1 → ns ++ List.replicate k He = R → ns.length + k ≤ 100 →
    run Tryz.prog Γ Sj Q ⟨[(1, .t (.ip (Ir x) 0)), (2, .lp 2 0 0), (3, .lp 3 0 0), (4, .t (tI i))], Ry ns [] q1U []⟩
  | 0, i, ns, h, hR, hl => by
    refine Y8 fun K hK => ?_
    have m4 : 0 ≤ x.i.tmod 4 ∧ x.i.tmod 4 < 4 := Bm (n := 4) hx.1 (by omega)
    have h2 : ¬ i ≤ x.i.tmod 4 := by omega
    have h3 : i = x.i.tmod 4 + 1 := by omega
    simp only [List.replicate_zero, List.append_nil] at hR
    subst hR
    simp (disch := omega) [h2, Ir, Ry, A5, Bl]
    subst h3
    simpa [Ir, Ry] using h0
  | k + 1, i, ns, h, hR, hl => by
    refine Y8 fun K hK => ?_
    have m4 : 0 ≤ x.i.tmod 4 ∧ x.i.tmod 4 < 4 := Bm (n := 4) hx.1 (by omega)
    have h2 : i ≤ x.i.tmod 4 := by omega
    have ih := q92 x hx R h0 k (i + 1) (ns ++ [He]) (by omega) (by rw [← hR]; simp [List.replicate_succ]) (by simp; omega)
    have q : Az Bw ns ++ [[tK 0, .sl [] (some 0) (some true), tI 0, tI 0]] = Az Bw (ns ++ [He]) := Rw (f := Bw) (x := He)
    have hw4 : E1 4 [[tK 0, .sl [] (some 0) (some true), tI 0, tI 0]] := by intro e he; simp at he; subst he; rfl
    have ht : (Az Bw ns).take ns.length = Az Bw ns := List.take_of_length_le (by simp [Az])
    simp (disch := omega) [h2, Ir, Ry, A5, Bl, Ae, hw4, Ba, ht, q]
    rw [hK]
    simp [Ir, Ry] at ih
    exact ⟨by omega, ih⟩
theorem qCq {Q : AX → St → Prop} (x : CD) (hx : Qq x.f) (first : Int) (R : List Nd)
    (h0 : Q (.exit 2) ⟨[(1, .t (.ip (Ir x) 0)), (2, .lp 2 0 0), (3, .lp 3 0 0), (5, .t (tI first)), (6, .t (tI (x.f.tmod 3))), (7, .t (tI (x.f.tmod 3))), (36, .t (tB false))], Ry R [] q1U []⟩) : ∀ (k : Nat) (i : Int) (ns : List Nd), k + i = x.f.tmod 3 → ns ++ List.replicate k (q4j 0) = R → ns.length + k ≤ 100 →
    run Tryz.prog Γ Sm Q ⟨[(1, .t (.ip (Ir x) 0)), (2, .lp 2 0 0), (3, .lp 3 0 0), (5, .t (tI first)), (6, .t (tI (x.f.tmod 3))), (7, .t (tI i))], Ry ns [] q1U []⟩
  | 0, i, ns, h, hR, hl => by
    refine Y9 fun K hK => ?_
    have m3 : 0 ≤ x.f.tmod 3 ∧ x.f.tmod 3 < 3 := Bm (n := 3) hx.1 (by omega)
    have h2 : ¬ i < x.f.tmod 3 := by omega
    have h3 : i = x.f.tmod 3 := by omega
    simp only [List.replicate_zero, List.append_nil] at hR
    subst hR
    simp (disch := omega) [h2, Ir, Ry, A5, Bl]
    subst h3
    simpa [Ir, Ry] using h0
  | k + 1, i, ns, h, hR, hl => by
    refine Y9 fun K hK => ?_
    have m3 : 0 ≤ x.f.tmod 3 ∧ x.f.tmod 3 < 3 := Bm (n := 3) hx.1 (by omega)
    have h2 : i < x.f.tmod 3 := by omega
    have ih := qCq x hx first R h0 k (i + 1) (ns ++ [q4j 0]) (by omega) (by rw [← hR]; simp [List.replicate_succ]) (by simp; omega)
    have q : Az Bw ns ++ [[tK 14, .sl [[tI 0]] (some 1) (some false), tI 0, tI 0]] = Az Bw (ns ++ [q4j 0]) := Rw (f := Bw) (x := q4j 0)
    have hw4 : E1 4 [[tK 14, .sl [[tI 0]] (some 1) (some false), tI 0, tI 0]] := by intro e he; simp at he; subst he; rfl
    have ht : (Az Bw ns).take ns.length = Az Bw ns := List.take_of_length_le (by simp [Az])
    simp (disch := omega) [h2, Ir, Ry, A5, Bl, Ae, hw4, Ba, ht, q]
    rw [hK]
    simp [Ir, Ry] at ih
    exact ⟨by omega, ih⟩
def K5 (bus : Bool) : List Gd → List Nd → List Nd
  | [], ns => ns
  | g :: l, ns => K5 bus l (ns ++ [Yd bus g ns])
theorem qGP {l : List Gd} : E1 4 (Az tGd l) := q4Z fun _ => rfl
def Gd.z : Gd := ⟨0, 0, 0, 0⟩
theorem qAo {Q : AX → St → Prop} (x : CD) (hx : ∀ g ∈ x.gates.l, q7b g) (first dffs : Int) (R : List Nd)
    (h0 : Q (.exit 4) ⟨[(1, .t (.ip (Ir x) 0)), (2, .lp 2 0 0), (3, .lp 3 0 0), (5, .t (tI first)), (6, .t (tI dffs)), (8, .t (tI (min x.gates.l.length 8 : Nat))), (63, .t (tB false))], Ry R [] q1U []⟩) : ∀ (k i : Nat) (ns : List Nd), k + i = min x.gates.l.length 8 → K5 x.bus ((x.gates.l.take 8).drop i) ns = R → 1 ≤ ns.length → ns.length + k ≤ 100 →
    run Tryz.prog Γ Sr Q ⟨[(1, .t (.ip (Ir x) 0)), (2, .lp 2 0 0), (3, .lp 3 0 0), (5, .t (tI first)), (6, .t (tI dffs)), (8, .t (tI i))], Ry ns [] q1U []⟩
  | 0, i, ns, h, hR, hl1, hl => by
    refine Ya fun K hK => ?_
    rw [List.drop_of_length_le (by simp; omega)] at hR
    simp only [K5] at hR
    subst hR
    have hi : i = min x.gates.l.length 8 := by omega
    by_cases h2 : i < x.gates.l.length
    · have h3 : ¬ (i : Int) < 8 := by omega
      have h3' : ¬ i < 8 := by omega
      simp (disch := omega) [h2, h3, h3', Ir, Ry, Ae]
      subst hi
      simpa [Ir, Ry] using h0
    · simp (disch := omega) [h2, Ir, Ry, Ae]
      subst hi
      simpa [Ir, Ry] using h0
  | k + 1, i, ns, h, hR, hl1, hl => by
    refine Ya fun K hK => ?_
    have h2 : i < x.gates.l.length := by omega
    have h3 : i < 8 := by omega
    have h3' : (i : Int) < 8 := by omega
    rw [List.drop_eq_getElem_cons (by simp; omega)] at hR
    simp only [K5, List.getElem_take] at hR
    have ih := qAo x hx first dffs R h0 k (i + 1) (ns ++ [Yd x.bus x.gates.l[i] ns]) (by omega) hR (by simp) (by simp; omega)
    have hg := qDm (Γ := Γ) x x.gates.l[i] (hx _ (List.getElem_mem h2)) ns none none hl1 (by omega)
    generalize Yd x.bus x.gates.l[i] ns = gn at *
    have q : Az Bw ns ++ [Bw gn] = Az Bw (ns ++ [gn]) := Rw (f := Bw) (x := gn)
    have hw4 : E1 4 [Bw gn] := by intro e he; simp at he; subst he; rfl
    have ht : (Az Bw ns).take ns.length = Az Bw ns := List.take_of_length_le (by simp [Az])
    have hget := D3 (f := tGd) Gd.z h2
    simp (disch := omega) [h2, h3, h3', Ir, Ry, A5, Ae, hget, qGP, tGd]
    refine A3 hg (by simp [Aj, Ir, ht, tGd]) ?_
    simp [Bw] at q hw4
    simp (disch := omega) [Bw, A5, Ae, hw4, Ba, ht, q]
    rw [hK]
    simp [Ir, Ry] at ih
    exact ⟨rfl, by omega, ih⟩
def ddN (x : CD) (i : Nat) : Int := if i = 0 then x.d0 else x.d1
def Hf (ns : List Nd) (j : Nat) (v : Int) : List Nd := ns.set j ⟨(ns.getD j Nd.d).k, ⟨[v], some 1, some false⟩, (ns.getD j Nd.d).mem, (ns.getD j Nd.d).bit⟩
def Ux (x : CD) (first : Nat) : Nat → Nat → List Nd → List Nd
  | 0, _, ns => ns
  | k + 1, i, ns => Ux x first k (i + 1) (Hf ns (first + i) ((ddN x i).tmod ns.length))
theorem Ou {ns : List Nd} {j : Nat} {v : Int} : (Hf ns j v).length = ns.length := by simp [Hf]
theorem Ov {x : CD} {f : Nat} : ∀ {k i : Nat} {ns : List Nd}, (Ux x f k i ns).length = ns.length
  | 0, _, _ => rfl
  | k + 1, i, ns => by simp only [Ux]; rw [Ov, Ou]
theorem qI7 {ns : List Nd} {j : Nat} {v : Int} (hj : j < ns.length) : (Az Bw ns).set j (((Az Bw ns)[j]?.getD []).take 1 ++ T.sl [[tI v]] (some 1) (some false) :: ((Az Bw ns)[j]?.getD []).drop 2) = Az Bw (Hf ns j v) := by
  rw [D3 (f := Bw) Nd.d hj]
  unfold Hf Az
  rw [List.map_set]
  rfl
theorem qCr {Q : AX → St → Prop} (x : CD) (h0' : Qq x.d0) (h1' : Qq x.d1) (first dn n : Nat) (hdn : dn ≤ 2) (hn : 1 ≤ n ∧ n ≤ 100) (hf : first + dn ≤ n) (R : List Nd)
    (h0 : Q (.exit 6) ⟨[(1, .t (.ip (Ir x) 0)), (2, .lp 2 0 0), (3, .lp 3 0 0), (5, .t (tI first)), (6, .t (tI dn)), (9, .t (tI n)), (10, .t (tI dn)), (85, .t (tB false))], Ry R [] q1U []⟩) : ∀ (k i : Nat) (ns : List Nd), k + i = dn → Ux x first k i ns = R → ns.length = n →
    run Tryz.prog Γ Ss Q ⟨[(1, .t (.ip (Ir x) 0)), (2, .lp 2 0 0), (3, .lp 3 0 0), (5, .t (tI first)), (6, .t (tI dn)), (9, .t (tI n)), (10, .t (tI i))], Ry ns [] q1U []⟩
  | 0, i, ns, h, hR, hl => by
    refine Yb fun K hK => ?_
    simp only [Ux] at hR
    subst hR
    have h2 : ¬ i < dn := by omega
    have h3 : i = dn := by omega
    simp (disch := omega) [h2, Ir, Ry]
    subst h3
    simpa [Ir, Ry] using h0
  | k + 1, i, ns, h, hR, hl => by
    refine Yb fun K hK => ?_
    have h2 : i < dn := by omega
    simp only [Ux] at hR
    have ih := qCr x h0' h1' first dn n hdn hn hf R h0 k (i + 1) _ (by omega) hR (by rw [Ou]; exact hl)
    have hi : i = 0 ∨ i = 1 := by omega
    have hj : first + i < ns.length := by omega
    have hn0 : ¬ (n : Int) = 0 := by omega
    have hget := D3 (f := Bw) Nd.d hj
    obtain ⟨h01, h02⟩ := h0'
    obtain ⟨h11, h12⟩ := h1'
    have hs := fun v => qI7 (v := v) hj
    have hn' : ¬ n = 0 := by omega
    have hfi : first + i < n := by omega
    rcases hi with rfl | rfl
    · have hdd : ddN x 0 = x.d0 := rfl
      have h2' : (0 : Int) < dn := by omega
      rw [hdd, hl] at ih
      simp only [Nat.add_zero] at hs hfi ih
      simp (disch := omega) [h2, h2', Ir, Ry, A5, Ae, Ba, hn0, hl, hs, hn', hfi]
      rw [hK]
      simp [Ir, Ry, Ou, hl] at ih
      exact ih
    · have hdd : ddN x 1 = x.d1 := rfl
      have h2' : (1 : Int) < dn := by omega
      rw [hdd, hl] at ih
      have hfn : ((first : Int) + 1).toNat = first + 1 := by omega
      have hfi' : (first : Int) + 1 < n := by omega
      simp (disch := omega) [h2, h2', Ir, Ry, A5, Ae, Ba, hn0, hl, hs, hn', hfi, hfn, hfi']
      rw [hK]
      simp [Ir, Ry, Ou, hl] at ih
      exact ⟨by omega, ih⟩
theorem qAp {Q : AX → St → Prop} (x : CD) (n : Nat) (hn : n ≤ 100) (ns : List Nd) (m : T) (R : List (List UInt8))
    (h0 : Q (.exit 8) ⟨[(1, .t (.ip (Ir x) 0)), (2, .lp 2 0 0), (3, .lp 3 0 0), (9, .t (tI n)), (11, .t (tI n)), (136, .t (tB false))], Ry ns R m []⟩) : ∀ (k i : Nat) (nms : List (List UInt8)), k + i = n → nms ++ (List.range' i k).map Le = R → nms.length = i →
    run Tryz.prog Γ Su Q ⟨[(1, .t (.ip (Ir x) 0)), (2, .lp 2 0 0), (3, .lp 3 0 0), (9, .t (tI n)), (11, .t (tI i))], Ry ns nms m []⟩
  | 0, i, nms, h, hR, hl => by
    refine Yc fun K hK => ?_
    simp only [List.range'_zero, List.map_nil, List.append_nil] at hR
    subst hR
    have h2 : ¬ i < n := by omega
    have h3 : i = n := by omega
    simp (disch := omega) [h2, Ir, Ry]
    subst h3
    simpa [Ir, Ry] using h0
  | k + 1, i, nms, h, hR, hl => by
    refine Yc fun K hK => ?_
    have h2 : i < n := by omega
    rw [List.range'_succ, List.map_cons] at hR
    have ih := qAp x n hn ns m R h0 k (i + 1) (nms ++ [Le i]) (by omega) (by rw [← hR]; simp) (by simp; omega)
    have e := qDl (Γ := Γ) i (by omega)
    have q : Ad tS nms ++ [[tS (Le i)]] = Ad tS (nms ++ [Le i]) := Bq
    have ht : (Ad tS nms).take i = Ad tS nms := List.take_of_length_le (by simp [Ad]; omega)
    generalize Le i = nm at *
    have hw : E1 1 [[tS nm]] := by intro e he; simp at he; subst he; rfl
    simp (disch := omega) [h2, Ir, Ry, A5, hl]
    refine A3 e rfl ?_
    simp only [tS, sV] at q hw
    simp (disch := omega) [tS, sV, A5, A0, hw, A9, ht, q, hl]
    rw [hK]
    simp [Ir, Ry, hl] at ih
    exact ⟨by omega, ih⟩
theorem qCs {Q : AX → St → Prop} (x : CD) (hx : ∀ b ∈ x.outs.l, Qq b) (n : Nat) (hn : 1 ≤ n ∧ n ≤ 100) (ns : List Nd) (nms : List (List UInt8)) (m : T) (R : List Int)
    (h0 : Q (.exit 10) ⟨[(1, .t (.ip (Ir x) 0)), (2, .lp 2 0 0), (3, .lp 3 0 0), (9, .t (tI n)), (12, .t (tI (min x.outs.l.length 3 : Nat))), (154, .t (tB false))], Ry ns nms m R⟩) : ∀ (k i : Nat) (os : List Int), k + i = min x.outs.l.length 3 → os ++ ((x.outs.l.take 3).drop i).map (fun b => b.tmod n) = R → os.length = i →
    run Tryz.prog Γ Q4 Q ⟨[(1, .t (.ip (Ir x) 0)), (2, .lp 2 0 0), (3, .lp 3 0 0), (9, .t (tI n)), (12, .t (tI i))], Ry ns nms m os⟩
  | 0, i, os, h, hR, hl => by
    refine X3 fun K hK => ?_
    rw [List.drop_of_length_le (by simp; omega)] at hR
    simp only [List.map_nil, List.append_nil] at hR
    subst hR
    have hi : i = min x.outs.l.length 3 := by omega
    by_cases h2 : i < x.outs.l.length
    · have h3 : ¬ (i : Int) < 3 := by omega
      have h3' : ¬ i < 3 := by omega
      simp (disch := omega) [h2, h3, h3', Ir, Ry, A0]
      subst hi
      simpa [Ir, Ry] using h0
    · simp (disch := omega) [h2, Ir, Ry, A0]
      subst hi
      simpa [Ir, Ry] using h0
  | k + 1, i, os, h, hR, hl => by
    refine X3 fun K hK => ?_
    have h2 : i < x.outs.l.length := by omega
    have h3 : i < 3 := by omega
    have h3' : (i : Int) < 3 := by omega
    rw [List.drop_eq_getElem_cons (by simp; omega)] at hR
    simp only [List.map_cons, List.getElem_take] at hR
    have hb := hx _ (List.getElem_mem h2)
    obtain ⟨hb0, hb1⟩ := hb
    have hget := B1 (f := tK) 0 h2
    have hg2 : x.outs.l[i]?.getD 0 = x.outs.l[i] := by simp [h2]
    rw [hg2] at hget
    generalize x.outs.l[i] = b at *
    have hn0 : ¬ (n : Int) = 0 := by omega
    have hn0' : ¬ n = 0 := by omega
    have ih := qCs x hx n hn ns nms m R h0 k (i + 1) (os ++ [b.tmod n]) (by omega) (by rw [← hR]; simp) (by simp; omega)
    have q : Ad tI os ++ [[tI (b.tmod n)]] = Ad tI (os ++ [b.tmod n]) := Bq
    have ht : (Ad tI os).take i = Ad tI os := List.take_of_length_le (by simp [Ad]; omega)
    have hw : E1 1 [[tI (b.tmod n)]] := by intro e he; simp at he; subst he; rfl
    simp (disch := omega) [h2, h3, h3', Ir, Ry, A5, A0, A9, hget, hn0, hn0', hw, ht, q, hl]
    rw [hK]
    simp [Ir, Ry, hl] at ih
    exact ⟨by omega, ih⟩
def Dq (x : CD) : List Nd := List.replicate (x.i.tmod 4 + 1).toNat He
def C7 (x : CD) : List Nd := Dq x ++ List.replicate (x.f.tmod 3).toNat (q4j 0)
def C5 (x : CD) : List Nd := if x.mem then C7 x ++ [q43 0, q43 1] else C7 x
def Be (x : CD) : List Nd := K5 x.bus (x.gates.l.take 8) (C5 x)
def Bt (x : CD) : List Nd := Ux x (Dq x).length (x.f.tmod 3).toNat 0 (Be x)
def q8R (x : CD) (n : Int) : List Mm := if x.mem then [⟨⟨[x.p0.tmod n], some 1, some false⟩, ⟨[x.p1.tmod n, x.p2.tmod n], some 2, some false⟩, x.p3.tmod n⟩] else []
def K6 (x : CD) : B9 :=
  ⟨⟨Bt x, none, none⟩, ⟨(List.range' 0 (Be x).length).map Le, none, none⟩, ⟨q8R x (Be x).length, some (if x.mem then 1 else 0), some (!x.mem)⟩, ⟨(x.outs.l.take 3).map (fun b => b.tmod (Be x).length) ++ [((Be x).length : Int) - 1], none, none⟩⟩
structure q1V (x : CD) : Prop where
  i : Qq x.i
  f : Qq x.f
  d0 : Qq x.d0
  d1 : Qq x.d1
  p0 : Qq x.p0
  p1 : Qq x.p1
  p2 : Qq x.p2
  p3 : Qq x.p3
  gates : ∀ g ∈ x.gates.l, q7b g
  outs : ∀ b ∈ x.outs.l, Qq b
theorem Nx {bus : Bool} : ∀ {l : List Gd} {ns : List Nd}, (K5 bus l ns).length = ns.length + l.length
  | [], ns => rfl
  | g :: l, ns => by simp only [K5]; rw [Nx]; simp; omega
set_option maxHeartbeats 4000000 in
theorem qGQ (x : CD) (hx : q1V x) : Ag Tryz.prog Γ 13 [.agg (Ir x)] (.agg (tC (K6 x))) := by
  refine Ap q7Z rfl ?_
  have m4 : 0 ≤ x.i.tmod 4 ∧ x.i.tmod 4 < 4 := Bm (n := 4) hx.i.1 (by omega)
  have m3 : 0 ≤ x.f.tmod 3 ∧ x.f.tmod 3 < 3 := Bm (n := 3) hx.f.1 (by omega)
  have l1 : (Dq x).length = (x.i.tmod 4 + 1).toNat := by simp [Dq]
  have l2 : (C7 x).length = (x.i.tmod 4 + 1).toNat + (x.f.tmod 3).toNat := by simp [C7, Dq]
  have l3 : (C7 x).length ≤ (C5 x).length ∧ (C5 x).length ≤ 8 := by unfold C5; split <;> simp <;> omega
  have l4 : (Be x).length = (C5 x).length + min 8 x.gates.l.length := by unfold Be; rw [Nx]; simp
  have l5 : (Bt x).length = (Be x).length := Ov
  have e1 := fun Q h0 => q92 (Γ := Γ) (Q := Q) x hx.i (Dq x) h0 (x.i.tmod 4 + 1).toNat 0 [] (by omega) rfl (by simp; omega)
  have e2 := fun Q h0 => qCq (Γ := Γ) (Q := Q) x hx.f (Dq x).length (C7 x) h0 (x.f.tmod 3).toNat 0 (Dq x) (by omega) rfl (by omega)
  have e3 := fun Q h0 => qAo (Γ := Γ) (Q := Q) x hx.gates (Dq x).length (x.f.tmod 3) (Be x) h0 (min x.gates.l.length 8) 0 (C5 x) (by omega) rfl (by omega) (by omega)
  have e4 := fun Q h0 => qCr (Γ := Γ) (Q := Q) x hx.d0 hx.d1 (Dq x).length (x.f.tmod 3).toNat (Be x).length (by omega) (by omega) (by omega) (Bt x) h0 (x.f.tmod 3).toNat 0 (Be x) (by omega) rfl rfl
  have e5 := fun Q m h0 => qAp (Γ := Γ) (Q := Q) x (Be x).length (by omega) (Bt x) m _ h0 (Be x).length 0 [] (by omega) rfl rfl
  have e6 := fun Q nms m h0 => qCs (Γ := Γ) (Q := Q) x hx.outs (Be x).length (by omega) (Bt x) nms m _ h0 (min x.outs.l.length 3) 0 [] (by omega) rfl rfl
  have hc : ((x.f.tmod 3).toNat : Int) = x.f.tmod 3 := by omega
  rw [hc] at e4
  have hk1 := fun {s : Nat} {e : List (List T)} {n : Nat} (h : e.length ≤ n) => List.take_of_length_le h
  have a33 : ∀ {os : List Int}, Ad tI os ++ [[tI (((Be x).length : Int) - 1)]] = Ad tI (os ++ [((Be x).length : Int) - 1]) := Bq
  have hw1 : E1 1 [[tI (((Be x).length : Int) - 1)]] := by intro e he; simp at he; subst he; rfl
  have hol : ((x.outs.l.take 3).map (fun b => b.tmod ((Be x).length : Int))).length = min 3 x.outs.l.length := by simp
  have hnl : ((List.range' 0 (Be x).length).map Le).length = (Be x).length := by simp
  simp only [List.nil_append, List.drop_zero] at e5 e6
  generalize hN : Be x = N4 at *
  generalize hO : (x.outs.l.take 3).map (fun b => b.tmod (N4.length : Int)) = O at *
  generalize hNm : (List.range' 0 N4.length).map Le = Nm at *
  simp (config := { maxSteps := 2000000 }) [q3X, Ir]
  refine e1 _ ?_
  simp (config := { maxSteps := 2000000 }) (disch := omega) [Ir, Ry, A5, Bl, Ae]
  refine e2 _ ?_
  cases hm : x.mem
  · have h3 : C5 x = C7 x := by simp [C5, hm]
    rw [h3] at e3 l3 l4
    simp only [Ir, Ry, hm] at e3 e4 e5 e6
    simp (config := { maxSteps := 2000000 }) (disch := omega) [Ir, Ry, A5, Bl, Ae, A0, q1r, Ba, A9, hm]
    refine e3 _ ?_
    simp (config := { maxSteps := 2000000 }) (disch := omega) [Ir, Ry, A5, Bl, Ae, A0, q1r, Ba, A9, hm]
    refine e4 _ ?_
    simp (config := { maxSteps := 2000000 }) (disch := omega) [Ir, Ry, A5, Bl, Ae, A0, q1r, Ba, A9, hm]
    refine e5 _ _ ?_
    simp (config := { maxSteps := 2000000 }) (disch := omega) [Ir, Ry, A5, Bl, Ae, A0, q1r, Ba, A9, hm]
    refine e6 _ _ _ ?_
    have ht : (Ad tI O).take O.length = Ad tI O := List.take_of_length_le (by simp [Ad])
    simp (config := { maxSteps := 2000000 }) (disch := omega) [Ir, Ry, A5, Bl, Ae, A0, q1r, Ba, A9, hm, ht, hw1, a33, Gj, Aj, q1U]
    have ht2 : (Ad tI (O ++ [(N4.length : Int) - 1])).take (O.length + 1) = Ad tI (O ++ [(N4.length : Int) - 1]) := List.take_of_length_le (by simp [Ad])
    refine ⟨by omega, ?_⟩
    rw [ht2]
    simp [tC, K6, q8R, hm, Ab, Af, Am, As, hN, hO, hNm, Az]
  · have h3 : C5 x = C7 x ++ [q43 0, q43 1] := by simp [C5, hm]
    have l3' : (C5 x).length = (C7 x).length + 2 := by rw [h3]; simp
    have q : Az Bw (C7 x) ++ [[tK 15, .sl [] (some 0) (some true), tI 0, tI 0], [tK 15, .sl [] (some 0) (some true), tI 0, tI 1]] = Az Bw (C5 x) := by rw [h3]; simp [Az, q43, Bw, As, Ad]
    have hw4 : E1 4 [[tK 15, .sl [] (some 0) (some true), tI 0, tI 0], [tK 15, .sl [] (some 0) (some true), tI 0, tI 1]] := by intro e he; simp at he; rcases he with rfl | rfl <;> rfl
    have ht0 : (Az Bw (C7 x)).take (C7 x).length = Az Bw (C7 x) := List.take_of_length_le (by simp [Az])
    have ht : (Ad tI O).take O.length = Ad tI O := List.take_of_length_le (by simp [Ad])
    have hn0 : ¬ (N4.length : Int) = 0 := by omega
    have hn0' : ¬ N4 = [] := fun e => by rw [e] at l4; simp at l4; omega
    obtain ⟨b00, b01⟩ := hx.p0
    obtain ⟨b10, b11⟩ := hx.p1
    obtain ⟨b20, b21⟩ := hx.p2
    obtain ⟨b30, b31⟩ := hx.p3
    simp only [Ir, Ry, hm] at e3 e4 e5 e6
    simp (config := { maxSteps := 2000000 }) (disch := omega) [Ir, Ry, A5, Bl, Ae, A0, Ba, A9, hm, ht, ht0, hw1, hw4, q, hn0, hn0', a33, Gj, Aj, q1U]
    refine ⟨by omega, ?_⟩
    rw [← l3']
    refine e3 _ ?_
    simp (config := { maxSteps := 2000000 }) (disch := omega) [Ir, Ry, A5, Bl, Ae, A0, Ba, A9, hm, ht, ht0, hw1, hw4, q, hn0, hn0', a33, Gj, Aj, q1U]
    refine e4 _ ?_
    simp (config := { maxSteps := 2000000 }) (disch := omega) [Ir, Ry, A5, Bl, Ae, A0, Ba, A9, hm, ht, ht0, hw1, hw4, q, hn0, hn0', a33, Gj, Aj, q1U]
    refine e5 _ _ ?_
    simp (config := { maxSteps := 2000000 }) (disch := omega) [Ir, Ry, A5, Bl, Ae, A0, Ba, A9, hm, ht, ht0, hw1, hw4, q, hn0, hn0', a33, Gj, Aj, q1U]
    refine e6 _ _ _ ?_
    simp (config := { maxSteps := 2000000 }) (disch := omega) [Ir, Ry, A5, Bl, Ae, A0, Ba, A9, hm, ht, ht0, hw1, hw4, q, hn0, hn0', a33, Gj, Aj, q1U]
    have ht2 : (Ad tI (O ++ [(N4.length : Int) - 1])).take (O.length + 1) = Ad tI (O ++ [(N4.length : Int) - 1]) := List.take_of_length_le (by simp [Ad])
    refine ⟨by omega, ?_⟩
    rw [ht2]
    simp [tC, K6, q8R, hm, Ab, Af, Am, As, hN, hO, hNm, Az, tMm, Ad]
def q44 (x : Nd) : Prop := (0 ≤ x.k ∧ x.k ≤ 255) ∧ x.inn.l.length ≤ 1000000000
theorem qEs {bus : Bool} {g : Gd} {a b d : Int} {t : List Int} (hg : q7b g) : q44 (q7c bus g a b d t) := by
  have m13 : 0 ≤ g.k.tmod 13 ∧ g.k.tmod 13 < 13 := Bm (n := 13) hg.1.1 (by omega)
  have m9 : 0 ≤ g.k.tmod 9 ∧ g.k.tmod 9 < 9 := Bm (n := 9) hg.1.1 (by omega)
  have ma : 0 ≤ g.a.tmod 2 ∧ g.a.tmod 2 < 2 := Bm (n := 2) hg.2.1.1 (by omega)
  have hk : 0 ≤ (if bus then g.k.tmod 13 else g.k.tmod 9) ∧ (if bus then g.k.tmod 13 else g.k.tmod 9) < 13 := by cases bus <;> simp <;> omega
  unfold q7c
  simp only
  generalize (if bus = true then g.k.tmod 13 else g.k.tmod 9) = kk at *
  unfold q44
  split
  · refine ⟨⟨by simp; omega, by simp; omega⟩, ?_⟩
    simp only; split <;> simp
  split
  · simp
  split
  · simp
  split
  · simp
  split
  · simp only; split <;> simp
  split
  · simp; omega
  · simp
theorem q93 {bus : Bool} : ∀ {l : List Gd} {ns : List Nd}, (∀ g ∈ l, q7b g) → (∀ x ∈ ns, q44 x) → ∀ x ∈ K5 bus l ns, q44 x
  | [], ns, _, h => h
  | g :: l, ns, hg, h => by
    simp only [K5]
    refine q93 (fun y hy => hg y (List.mem_cons_of_mem _ hy)) fun y hy => ?_
    rcases List.mem_append.1 hy with hy | hy
    · exact h y hy
    · simp at hy; subst hy; exact qEs (hg g List.mem_cons_self)
theorem qEt {ns : List Nd} {j : Nat} {v : Int} (h : ∀ x ∈ ns, q44 x) : ∀ x ∈ Hf ns j v, q44 x := by
  intro x hx
  unfold Hf at hx
  rcases List.mem_or_eq_of_mem_set hx with hx | rfl
  · exact h x hx
  · refine ⟨?_, by simp⟩
    simp only [List.getD_eq_getElem?_getD]
    by_cases hj : j < ns.length
    · simp only [List.getElem?_eq_getElem hj, Option.getD_some]
      exact (h _ (List.getElem_mem hj)).1
    · simp [List.getElem?_eq_none (Nat.le_of_not_lt hj), Nd.d]
theorem qAq {c : CD} {f : Nat} : ∀ {k i : Nat} {ns : List Nd}, (∀ x ∈ ns, q44 x) → ∀ x ∈ Ux c f k i ns, q44 x
  | 0, _, _, h => h
  | k + 1, i, ns, h => by simp only [Ux]; exact qAq (qEt h)
theorem qDn {x : CD} (hx : q1V x) : ∀ n ∈ Bt x, q44 n := by
  have h1 : ∀ n ∈ Dq x, q44 n := fun n hn => by rw [(List.mem_replicate.1 hn).2]; simp [q44, He]
  have h2 : ∀ n ∈ C7 x, q44 n := fun n hn => by
    rcases List.mem_append.1 hn with hn | hn
    · exact h1 n hn
    · rw [(List.mem_replicate.1 hn).2]; simp [q44, q4j]
  have h3 : ∀ n ∈ C5 x, q44 n := by
    unfold C5
    split
    · intro n hn
      rcases List.mem_append.1 hn with hn | hn
      · exact h2 n hn
      · simp at hn; rcases hn with rfl | rfl <;> simp [q44, q43]
    · exact h2
  exact qAq (q93 (fun g hg => hx.gates g (List.mem_of_mem_take hg)) h3)
theorem q0X {x : CD} (hx : q1V x) : 1 ≤ (Be x).length ∧ (Be x).length ≤ 16 := by
  have m4 : 0 ≤ x.i.tmod 4 ∧ x.i.tmod 4 < 4 := Bm (n := 4) hx.i.1 (by omega)
  have m3 : 0 ≤ x.f.tmod 3 ∧ x.f.tmod 3 < 3 := Bm (n := 3) hx.f.1 (by omega)
  have l2 : (C7 x).length = (x.i.tmod 4 + 1).toNat + (x.f.tmod 3).toNat := by simp [C7, Dq]
  have l3 : (C7 x).length ≤ (C5 x).length ∧ (C5 x).length ≤ 8 := by unfold C5; split <;> simp <;> omega
  have l4 : (Be x).length = (C5 x).length + min 8 x.gates.l.length := by unfold Be; rw [Nx]; simp
  omega
theorem q45 {x : CD} (hx : q1V x) : (Bt x).length = (Be x).length := Ov
theorem q9q {x : CD} (hx : q1V x) : COk (K6 x) := by
  have l := q0X hx
  have l5 := q45 hx
  have hn := qDn hx
  refine ⟨⟨?_, ?_, ?_, ?_, fun n h => (hn n h).1, fun n h => (hn n h).2, ?_⟩, ?_⟩
  · simp only [K6]; omega
  · simp [K6]; omega
  · simp only [K6, q8R]; split <;> simp
  · simp [K6]; omega
  · intro m hm
    simp only [K6, q8R] at hm
    split at hm
    · simp at hm; subst hm; simp
    · cases hm
  · intro s hs b hb
    simp only [K6] at hs
    obtain ⟨i, hi, rfl⟩ := List.mem_map.1 hs
    have := (List.mem_range'_1.1 hi).2
    have h1 : i / 10 < 10 := by omega
    have h2 : i % 10 < 10 := by omega
    have key : ∀ q : Nat, q < 10 → UInt8.ofNat (48 + q) < 128 := by decide
    simp only [Le, List.mem_cons, List.not_mem_nil, or_false] at hb
    rcases hb with rfl | rfl | rfl
    · decide
    · exact key _ h1
    · exact key _ h2
end Go.Lg
namespace Go.Lg
open Go Go.Proofs
def Bn (v : Int) : Int := if v < 2 then v else 2
def q9r (v : Int) : Int := if 3 < v then 2 else v
def q5V (v : Int) : Bool := decide (v ≤ 1)
def Z5 (v : Int) : Int := if v ≤ 1 then 1 - v else 2
def N1 (low high : Int) : Int → List Int → Int
  | out, [] => out
  | out, v :: l => if v = low then low else if v ≠ high then N1 low high 2 l else N1 low high out l
def qEu (a b : Int) : Int := if a = b then 0 else 1
def q27 : Int → List Int → Int
  | out, [] => out
  | out, v :: l => if v ≤ 1 then q27 (qEu out v) l else 2
def q8S (s a b : Int) : Int := if s = 0 then Bn a else if s = 1 then Bn b else if a = b then Bn a else 2
def q9s (e d : Int) : Int := if e = 0 then 3 else if e = 1 then Bn d else 2
def q5W (l : List Int) : Bool := l.contains 0 && l.contains 1
def qDo (v : Int) : Bool := decide (q9r v = 2)
def qEv (v : Int) : Bool := decide (v ≠ 3)
def q7d (l : List Int) : Int := match l.findIdx? qEv with
  | none => 3
  | some i => if q5W l = true ∨ l.any qDo = true then 2 else l.getD i 0
def Eu (k : Int) (l : List Int) : Int :=
  if k = 1 then 0 else if k = 2 then 1 else if k = 3 then Bn (l.getD 0 0) else if k = 4 then Z5 (l.getD 0 0) else
  if k = 5 then N1 0 1 1 l else if k = 6 then Z5 (N1 0 1 1 l) else if k = 7 then N1 1 0 0 l else if k = 8 then Z5 (N1 1 0 0 l) else
  if k = 9 then q27 0 l else if k = 10 then Z5 (q27 0 l) else if k = 11 then q8S (l.getD 0 0) (l.getD 1 0) (l.getD 2 0) else
  if k = 12 then q9s (l.getD 0 0) (l.getD 1 0) else if k = 13 then q7d l else 2
def q7e (k : Int) (n : Nat) : Bool := decide ((n : Int) < (U4 k).1 ∨ (U4 k).2 < (n : Int))
def q4k (k : Int) (l : List Int) : Int := if q7e k l.length = true then 2 else Eu k l
theorem qDp (R : Int → Int → Prop) {k : Int} {l m : List Int} (h1 : k = 1 → R (0) (0)) (h2 : k = 2 → R (1) (1)) (h3 : k = 3 → R (Bn (l.getD 0 0)) (Bn (m.getD 0 0))) (h4 : k = 4 → R (Z5 (l.getD 0 0)) (Z5 (m.getD 0 0))) (h5 : k = 5 → R (N1 0 1 1 l) (N1 0 1 1 m)) (h6 : k = 6 → R (Z5 (N1 0 1 1 l)) (Z5 (N1 0 1 1 m))) (h7 : k = 7 → R (N1 1 0 0 l) (N1 1 0 0 m)) (h8 : k = 8 → R (Z5 (N1 1 0 0 l)) (Z5 (N1 1 0 0 m))) (h9 : k = 9 → R (q27 0 l) (q27 0 m)) (h10 : k = 10 → R (Z5 (q27 0 l)) (Z5 (q27 0 m))) (h11 : k = 11 → R (q8S (l.getD 0 0) (l.getD 1 0) (l.getD 2 0)) (q8S (m.getD 0 0) (m.getD 1 0) (m.getD 2 0))) (h12 : k = 12 → R (q9s (l.getD 0 0) (l.getD 1 0)) (q9s (m.getD 0 0) (m.getD 1 0))) (h13 : k = 13 → R (q7d l) (q7d m)) (h0 : k < 1 ∨ 13 < k → R 2 2) : R (Eu k l) (Eu k m) := by
  by_cases e1 : k = 1
  · subst e1; exact h1 rfl
  by_cases e2 : k = 2
  · subst e2; exact h2 rfl
  by_cases e3 : k = 3
  · subst e3; exact h3 rfl
  by_cases e4 : k = 4
  · subst e4; exact h4 rfl
  by_cases e5 : k = 5
  · subst e5; exact h5 rfl
  by_cases e6 : k = 6
  · subst e6; exact h6 rfl
  by_cases e7 : k = 7
  · subst e7; exact h7 rfl
  by_cases e8 : k = 8
  · subst e8; exact h8 rfl
  by_cases e9 : k = 9
  · subst e9; exact h9 rfl
  by_cases e10 : k = 10
  · subst e10; exact h10 rfl
  by_cases e11 : k = 11
  · subst e11; exact h11 rfl
  by_cases e12 : k = 12
  · subst e12; exact h12 rfl
  by_cases e13 : k = 13
  · subst e13; exact h13 rfl
  unfold Eu
  rw [if_neg e1, if_neg e2, if_neg e3, if_neg e4, if_neg e5, if_neg e6, if_neg e7, if_neg e8, if_neg e9, if_neg e10, if_neg e11, if_neg e12, if_neg e13]
  rw [if_neg e1, if_neg e2, if_neg e3, if_neg e4, if_neg e5, if_neg e6, if_neg e7, if_neg e8, if_neg e9, if_neg e10, if_neg e11, if_neg e12, if_neg e13]
  exact h0 (by omega)
def V4 (v : Int) : Prop := 0 ≤ v ∧ v ≤ 3
theorem q0Y {v : Int} (h : V4 v) : V4 (Bn v) := by unfold Bn V4 at *; split <;> omega
theorem q9t {v : Int} (h : V4 v) : V4 (Z5 v) := by unfold Z5 V4 at *; split <;> omega
theorem Zt {low high : Int} : ∀ {l : List Int} {out : Int}, out = 2 ∨ out = high → N1 low high out l = if low ∈ l then low else if out = high ∧ ∀ v ∈ l, v = high then high else 2
  | [], out, h => by
    simp only [N1, List.not_mem_nil, if_false]
    by_cases ho : out = high
    · simp [ho]
    · simp [ho]; omega
  | v :: l, out, h => by
    simp only [N1]
    by_cases h1 : v = low
    · subst h1; simp
    have h1' : ¬ low = v := fun e => h1 e.symm
    by_cases h2 : v = high
    · subst h2
      rw [if_neg h1, if_neg (by simp), Zt h]
      simp [h1']
    · rw [if_neg h1, if_pos h2, Zt (.inl rfl)]
      by_cases hl : low ∈ l
      · simp [hl]
      · have : ¬ (out = high ∧ ∀ u ∈ v :: l, u = high) := fun ⟨_, h⟩ => h2 (h v List.mem_cons_self)
        have hlv : ¬ low ∈ v :: l := by simp [h1', hl]
        rw [if_neg hl, if_neg hlv, if_neg this]
        split
        · rename_i h3; exact h3.1.symm
        · rfl
theorem qCE : ∀ {l : List Int} {out : Int}, V4 out → (∀ v ∈ l, V4 v) → V4 (q27 out l)
  | [], out, h, _ => h
  | v :: l, out, h, hl => by
    simp only [q27]
    split
    · exact qCE (by unfold qEu; split <;> simp [V4]) fun u hu => hl u (List.mem_cons_of_mem _ hu)
    · simp [V4]
theorem q5X {l : List Int} (h : ∀ v ∈ l, V4 v) (i : Nat) : V4 (l.getD i 0) := by
  rw [List.getD_eq_getElem?_getD]
  by_cases hi : i < l.length
  · rw [List.getElem?_eq_getElem hi]; exact h _ (List.getElem_mem hi)
  · rw [List.getElem?_eq_none (Nat.le_of_not_lt hi)]; simp [V4]
theorem qGR {k : Int} {l : List Int} (h : ∀ v ∈ l, V4 v) : V4 (q4k k l) := by
  have g := q5X h
  have d1 : V4 (N1 0 1 1 l) := by rw [Zt (.inr rfl)]; split; simp [V4]; split <;> simp [V4]
  have d2 : V4 (N1 1 0 0 l) := by rw [Zt (.inr rfl)]; split; simp [V4]; split <;> simp [V4]
  have x := qCE (out := 0) (by simp [V4]) h
  unfold q4k
  by_cases hw : q7e k l.length = true
  · rw [if_pos hw]; simp [V4]
  rw [if_neg hw]
  refine qDp (fun a _ => V4 a) (l := l) (m := l) (fun _ => by simp [V4]) (fun _ => by simp [V4]) (fun _ => q0Y (g 0)) (fun _ => q9t (g 0)) (fun _ => d1) (fun _ => q9t d1) (fun _ => d2) (fun _ => q9t d2) (fun _ => x) (fun _ => q9t x) (fun _ => ?_) (fun _ => ?_) (fun _ => ?_) (fun _ => by simp [V4])
  · unfold q8S; split
    · exact q0Y (g 1)
    split
    · exact q0Y (g 2)
    split
    · exact q0Y (g 1)
    · simp [V4]
  · unfold q9s; split
    · simp [V4]
    split
    · exact q0Y (g 1)
    · simp [V4]
  · unfold q7d; split
    · simp [V4]
    split
    · simp [V4]
    · exact g _
def Blw (a b : Int) : Prop := a = b ∨ a = 2
def qDq (l m : List Int) : Prop := l.length = m.length ∧ ∀ i, Blw (l.getD i 0) (m.getD i 0)
theorem Blw.refl (a : Int) : Blw a a := .inl rfl
theorem qDq.cons {a b : Int} {l m : List Int} (h : qDq (a :: l) (b :: m)) : Blw a b ∧ qDq l m :=
  ⟨by simpa using h.2 0, by simpa using h.1, fun i => by simpa using h.2 (i + 1)⟩
theorem qDq.eq : ∀ {l m : List Int}, qDq l m → (2 : Int) ∉ l → l = m
  | [], [], _, _ => rfl
  | [], _ :: _, h, _ => by have := h.1; simp at this
  | _ :: _, [], h, _ => by have := h.1; simp at this
  | a :: l, b :: m, h, h2 => by
    obtain ⟨hab, hlm⟩ := h.cons
    rcases hab with rfl | rfl
    · rw [qDq.eq hlm fun hm => h2 (List.mem_cons_of_mem _ hm)]
    · exact absurd List.mem_cons_self h2
end Go.Lg
