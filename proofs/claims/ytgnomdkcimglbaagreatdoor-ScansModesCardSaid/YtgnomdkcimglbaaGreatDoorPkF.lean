/- The abstract code of some functions, as the program gen.py prints it. Conditions: none. -/
import Derived.Test.YtgnomdkcimglbaaGreatDoorPkC
import Derived.Test.YtgnomdkcimglbaaGreatDoorProg
import Derived.KernelRfl
import Derived.Test.YtgnomdkcimglbaaGreatDoorPkD
import Derived.Test.YtgnomdkcimglbaaGreatDoorPkE
set_option linter.unusedVariables false
namespace Go.Lg
open Go
section
variable {P : Program} {Γ : Tables} {Q : AX → St → Prop} {s : St}
/- probecard/scans.Insert (function 29) -/
abbrev scans_Insert_g0 : IC := .gh (.seq (.reg [od 51 (.bin .lss (tm 50) (tm 49))] [kp [1, 2, 4, 7, 8, 48, 49, 50, 51] [4, 44, 46, 78, 90, 111, 157, 62040, 62052]]) (.seq (.cond (tm 51) .skip (.exit 0)) (.seq (.block 1 (.seq (.reg [od 52 (ia 1 48 50), od 53 (ld
 1 52), om 10 53] [kp [1, 2, 4, 7, 8, 10, 48, 49, 50] [4, 44, 46, 78, 90, 111, 157, 62040, 62052]]) (.reg [om 54 8, od 55 (.nck (tm 54)), od 56 (fa 4 55), od 57 (ld 1 56), om 58 10, on (.mup .str (tm 57) (tm 58) kT)] [kp [1, 2, 4,
 7, 8, 48, 49, 50] [4, 44, 46, 78, 90, 111, 157, 62040, 62052]]))) (.reg [od 59 (.bin .add (tm 50) (ki 1)), om 50 59] [kp [1, 2, 4, 7, 8, 48, 49, 50] [4, 44, 46, 78, 90, 111, 157, 62040, 62052]])))) [kp [1, 2, 4, 7, 8, 48, 49, 50]
 [4, 44, 46, 78, 90, 111, 157, 62040, 62052]]
def scans_Insert_l1 : IC := .loop scans_Insert_g0
abbrev scans_Insert_g2 : IC := .gh (.seq (.reg [od 95 (.bin .lss (tm 94) (tm 93))] [kp [2, 4, 7, 8, 11, 12, 15, 65, 66, 67, 92, 93, 94, 95] [4, 11, 44, 46, 64, 78, 90, 111, 157, 62040, 62052]]) (.seq (.cond (tm 95) .skip (.exit 4)) (.seq (.block 5 (.seq (.reg
 [od 96 (ia 1 92 94), od 97 (ld 1 96), om 17 97] [kp [2, 4, 7, 8, 11, 12, 15, 17, 65, 66, 67, 92, 93, 94] [4, 11, 44, 46, 64, 78, 90, 111, 157, 62040, 62052]]) (.reg [om 98 12, om 99 17, om 100 15, om 101 17, on (.mup (.int .i64)
 (tm 98) (tm 99) (tm 100)), om 15 101] [kp [2, 4, 7, 8, 11, 12, 15, 65, 66, 67, 92, 93, 94] [4, 11, 44, 46, 64, 78, 90, 111, 157, 62040, 62052]]))) (.reg [od 102 (.bin .add (tm 94) (ki 1)), om 94 102] [kp [2, 4, 7, 8, 11, 12, 15,
 65, 66, 67, 92, 93, 94] [4, 11, 44, 46, 64, 78, 90, 111, 157, 62040, 62052]])))) [kp [2, 4, 7, 8, 11, 12, 15, 65, 66, 67, 92, 93, 94] [4, 11, 44, 46, 64, 78, 90, 111, 157, 62040, 62052]]
def scans_Insert_l3 : IC := .loop scans_Insert_g2
abbrev scans_Insert_g4 : IC := .gh (.seq (.reg [od 68 (.bin .lss (tm 67) (tm 66))] [kp [2, 4, 7, 8, 11, 12, 65, 66, 67, 68] [4, 11, 44, 46, 64, 78, 90, 111, 157, 62040, 62052]]) (.seq (.cond (tm 68) .skip (.exit 2)) (.seq (.block 3 (.seq (.reg [om 69 67, od 70
 (ia 1 65 67), od 71 (ld 1 70), om 13 69, om 14 71] [kp [2, 4, 7, 8, 11, 12, 13, 14, 65, 66, 67] [4, 11, 44, 46, 64, 78, 90, 111, 157, 62040, 62052]]) (.seq (.reg [od 72 (fa 4 11), od 73 (.ldR 11 1 false (tm 72)), om 74 14, od 75
 (.call 86 [(tm 74)]), od 76 (.call 85 [(tm 75)]), od 77 (.bsl true 33 1 [(tm 76)]), od 78 (.app false 33 1 (tm 73) (tm 77)), od 79 (fa 4 11), on (.stR 11 1 (tm 79) (tm 78))] [kp [2, 4, 7, 8, 11, 12, 13, 14, 65, 66, 67] [4, 11, 44,
 46, 64, 78, 90, 111, 157, 62040, 62052]]) (.seq (.reg [om 80 8, od 81 (.build [(1, (ku 0)), (1, kN), (1, (ki 0)), (1, (ki 0))]), om 82 13, od 83 (.call 87 [(tm 82)]), od 84 (.bin .add (.const (sV [115, 105])) (tm 83)), od 85
 (.hcall 84 [(tm 80), (tm 81), (tm 84)] [44, 46, 111, 62040, 62052] 85000), om 15 85] [.ren 85040 62040, .ren 85052 62052, kp [2, 4, 7, 8, 11, 12, 14, 15, 65, 66, 67] [4, 11, 44, 46, 64, 78, 90, 111, 157, 62040, 62052]]) (.seq (.reg
 [od 86 (fa 6 11), od 87 (ld 1 86), om 88 15, od 89 (.bsl true 3 1 [(tm 88)]), od 90 (.app false 3 1 (tm 87) (tm 89)), od 91 (fa 6 11), on (.store 1 (tm 91) (tm 90))] [kp [2, 4, 7, 8, 11, 12, 14, 15, 65, 66, 67] [4, 11, 44, 46, 64,
 78, 90, 111, 157, 62040, 62052]]) (.seq (.seq (.reg [om 92 14, od 93 (le 0 92), od 94 (.mv (ki 0))] [kp [2, 4, 7, 8, 11, 12, 15, 65, 66, 67, 92, 93, 94] [4, 11, 44, 46, 64, 78, 90, 111, 157, 62040, 62052]]) (.block 4
 scans_Insert_l3)) (.reg [om 103 8, om 104 8, od 105 (.nck (tm 104)), od 106 (fa 0 105), od 107 (fa 3 106), od 108 (ld 1 107), om 109 15, od 110 (.bsl true 3 1 [(tm 109)]), od 111 (.app false 3 1 (tm 108) (tm 110)), od 112 (.nck (tm
 103)), od 113 (fa 0 112), od 114 (fa 3 113), on (.store 1 (tm 114) (tm 111))] [kp [2, 4, 7, 8, 11, 12, 65, 66, 67] [4, 11, 44, 46, 64, 78, 90, 111, 157, 62040, 62052]]))))))) (.reg [od 115 (.bin .add (tm 67) (ki 1)), om 67 115] [kp
 [2, 4, 7, 8, 11, 12, 65, 66, 67] [4, 11, 44, 46, 64, 78, 90, 111, 157, 62040, 62052]])))) [kp [2, 4, 7, 8, 11, 12, 65, 66, 67] [4, 11, 44, 46, 64, 78, 90, 111, 157, 62040, 62052]]
def scans_Insert_l5 : IC := .loop scans_Insert_g4
abbrev scans_Insert_g6 : IC := .gh (.seq (.reg [od 119 (.bin .lss (tm 118) (tm 117))] [kp [2, 4, 8, 11, 12, 116, 117, 118, 119] [4, 11, 44, 46, 64, 78, 90, 111, 157, 62040, 62052]]) (.seq (.cond (tm 119) .skip (.exit 6)) (.seq (.block 7 (.seq (.reg [om 120 118,
 od 121 (ia 1 116 118), od 122 (ld 1 121), om 18 120, om 19 122] [kp [2, 4, 8, 11, 12, 18, 19, 116, 117, 118] [4, 11, 44, 46, 64, 78, 90, 111, 157, 62040, 62052]]) (.seq (.reg [om 123 8, od 124 (fa 5 11), od 125 (ld 1 124), od 126
 (fa 0 2), od 127 (ld 1 126), om 128 19, od 129 (ia 4 127 128), od 130 (fa 1 129), od 131 (ld 1 130), od 132 (.iadr 1 (tm 131) (ki 0)), od 133 (ld 1 132), om 134 12, om 135 19, od 136 (.lkup (.int .i64) (.int .i64 0) false (tm 134)
 (tm 135)), od 137 (.bsl true 3 1 [(tm 125), (tm 133), (tm 136)]), od 138 (.build [(1, (ku 11)), (1, (tm 137)), (1, (ki 0)), (1, (ki 0))]), om 139 18, od 140 (.call 87 [(tm 139)]), od 141 (.bin .add (.const (sV [115, 109])) (tm
 140)), od 142 (.hcall 84 [(tm 123), (tm 138), (tm 141)] [44, 46, 111, 62040, 62052] 142000), om 20 142] [.ren 142040 62040, .ren 142052 62052, kp [2, 4, 8, 11, 12, 19, 20, 116, 117, 118] [4, 11, 44, 46, 64, 78, 90, 111, 157, 62040,
 62052]]) (.seq (.reg [om 143 8, od 144 (.nck (tm 143)), od 145 (fa 0 144), od 146 (fa 0 145), od 147 (ld 1 146), om 148 19, om 149 20, od 150 (.bsl true 3 1 [(tm 149)]), od 151 (ia 4 147 148), od 152 (fa 1 151), on (.store 1 (tm
 152) (tm 150))] [kp [2, 4, 8, 11, 12, 20, 116, 117, 118] [4, 11, 44, 46, 64, 78, 90, 111, 157, 62040, 62052]]) (.reg [od 153 (fa 7 11), od 154 (ld 1 153), om 155 20, od 156 (.bsl true 3 1 [(tm 155)]), od 157 (.app false 3 1 (tm
 154) (tm 156)), od 158 (fa 7 11), on (.store 1 (tm 158) (tm 157))] [kp [2, 4, 8, 11, 12, 116, 117, 118] [4, 11, 44, 46, 64, 78, 90, 111, 157, 62040, 62052]]))))) (.reg [od 159 (.bin .add (tm 118) (ki 1)), om 118 159] [kp [2, 4, 8,
 11, 12, 116, 117, 118] [4, 11, 44, 46, 64, 78, 90, 111, 157, 62040, 62052]])))) [kp [2, 4, 8, 11, 12, 116, 117, 118] [4, 11, 44, 46, 64, 78, 90, 111, 157, 62040, 62052]]
def scans_Insert_l7 : IC := .loop scans_Insert_g6
abbrev scans_Insert_ic : IC := (.seq (.reg [od 2 (.box true (tm 0)), od 4 (.alloc false [(.slice none 0 0), (.slice none 0 0), (.slice none 0 0), (.slice none 0 0), (.slice none 0 0), (.int .i64 0), (.slice none 0 0), (.slice none 0 0)]), od 5 (.mv (ki 0))] [kp
 [1, 2, 4] [4, 44, 78, 90, 111, 157, 62040, 62052]]) (.seq (.seq (.reg [od 21 (lG 4 2), om 22 1, od 23 (.call 82 [(tm 21), (tm 22)]), om 6 23] [kp [1, 2, 4, 6] [4, 44, 78, 90, 111, 157, 62040, 62052]]) (.seq (.reg [om 24 6, od 25
 (.bin .neq (tm 24) (ki 0))] [kp [1, 2, 4, 6, 25] [4, 44, 78, 90, 111, 157, 62040, 62052]]) (.cond (tm 25) (.seq (.reg [od 26 (.build [(4, (.const (.agg #[(.slice none 0 0), (.slice none 0 0), (.slice none 0 0), (.slice none 0
 0)]))), (1, kN), (1, (ki 0)), (1, kN), (1, kN)]), om 27 6, on (.store 8 (tm 4) (tm 26)), om 5 27] [kp [4, 5] [4, 44, 78, 90, 111, 157, 62040, 62052]]) .ret) .skip))) (.seq (.reg [od 28 (lG 4 2), od 29 (.call 27 [(tm 28)]), om 7 29]
 [kp [1, 2, 4, 7] [4, 44, 78, 90, 111, 157, 62040, 62052]]) (.seq (.seq (.reg [od 30 (fa 0 2), od 31 (ld 1 30), od 32 (le 0 31), od 33 (.bin .add (tm 32) (ki 1)), om 34 1, od 35 (le 0 34), od 36 (.bin .add (tm 33) (tm 35)), om 37 7,
 od 38 (le 0 37), od 39 (.bin .add (tm 36) (tm 38)), od 40 (.bin .gtr (tm 39) (ki 16384))] [kp [1, 2, 4, 7, 40] [4, 44, 78, 90, 111, 157, 62040, 62052]]) (.cond (tm 40) (.seq (.reg [od 41 (.build [(4, (.const (.agg #[(.slice none 0
 0), (.slice none 0 0), (.slice none 0 0), (.slice none 0 0)]))), (1, kN), (1, (ki 0)), (1, kN), (1, kN)]), on (.store 8 (tm 4) (tm 41)), od 5 (.mv (ki 3))] [kp [4, 5] [4, 44, 78, 90, 111, 157, 62040, 62052]]) .ret) .skip)) (.seq
 (.reg [od 42 (lG 4 2), od 43 (.call 83 [(tm 42)]), od 44 (.mkmap), od 45 (.build [(4, (tm 43)), (1, (tm 44)), (1, kF)]), od 46 (.box false (tm 45)), om 8 46] [kp [1, 2, 4, 7, 8] [4, 44, 46, 78, 90, 111, 157, 62040, 62052]]) (.seq
 (.seq (.reg [od 47 (fa 1 2), od 48 (ld 1 47), od 49 (le 0 48), od 50 (.mv (ki 0))] [kp [1, 2, 4, 7, 8, 48, 49, 50] [4, 44, 46, 78, 90, 111, 157, 62040, 62052]]) (.block 0 scans_Insert_l1)) (.seq (.reg [od 11 (.alloc false [(.slice
 none 0 0), (.slice none 0 0), (.slice none 0 0), (.slice none 0 0), (.slice none 0 0), (.int .i64 0), (.slice none 0 0), (.slice none 0 0)])] [.nlb 11 4 78 33 1, .nlb 11 6 90 3 1, .nlb 11 7 157 3 1, kp [1, 2, 4, 7, 8, 11] [4, 11,
 44, 46, 78, 90, 111, 157, 62040, 62052]]) (.seq (.reg [om 60 8, od 61 (.build [(1, (ku 0)), (1, kN), (1, (ki 0)), (1, (ki 0))]), od 62 (.hcall 84 [(tm 60), (tm 61), (.const (sV [115, 101]))] [44, 46, 111, 62040, 62052] 62000), od
 63 (fa 5 11), on (.store 1 (tm 63) (tm 62))] [kp [1, 2, 4, 7, 8, 11] [4, 11, 44, 46, 78, 90, 111, 157, 62040, 62052]]) (.seq (.reg [od 64 (.mkmap), om 12 64] [kp [1, 2, 4, 7, 8, 11, 12] [4, 11, 44, 46, 64, 78, 90, 111, 157, 62040,
 62052]]) (.seq (.seq (.reg [om 65 1, od 66 (le 0 65), od 67 (.mv (ki 0))] [kp [2, 4, 7, 8, 11, 12, 65, 66, 67] [4, 11, 44, 46, 64, 78, 90, 111, 157, 62040, 62052]]) (.block 2 scans_Insert_l5)) (.seq (.seq (.reg [om 116 7, od 117
 (le 0 116), od 118 (.mv (ki 0))] [kp [2, 4, 8, 11, 12, 116, 117, 118] [4, 11, 44, 46, 64, 78, 90, 111, 157, 62040, 62052]]) (.gh (.block 6 scans_Insert_l7) [.frz 62040, .frz 62052, .frz 111, .frz 78, .frz 90, .frz 157])) (.seq
 (.seq (.reg [om 160 8, od 161 (.nck (tm 160)), od 162 (fa 5 161), od 163 (ld 1 162)] [kp [4, 8, 11, 163] [4, 11, 44, 46, 78, 90, 111, 157, 62040, 62052]]) (.cond (tm 163) (.seq (.reg [od 164 (.build [(4, (.const (.agg #[(.slice
 none 0 0), (.slice none 0 0), (.slice none 0 0), (.slice none 0 0)]))), (1, kN), (1, (ki 0)), (1, kN), (1, kN)]), on (.store 8 (tm 4) (tm 164)), od 5 (.mv (ki 5))] [kp [4, 5] [4, 44, 78, 90, 111, 157, 62040, 62052]]) .ret) .skip))
 (.seq (.reg [om 165 8, om 166 8, om 167 8, om 168 8, od 169 (.nck (tm 168)), od 170 (fa 0 169), od 171 (fa 0 170), od 172 (.ldR 46 1 false (tm 171)), od 173 (.call 88 [(tm 172)]), om 174 8, od 175 (.nck (tm 174)), od 176 (fa 0
 175), od 177 (fa 1 176), od 178 (.ldR 46 1 false (tm 177)), od 179 (.call 89 [(tm 178)]), om 180 8, od 181 (.nck (tm 180)), od 182 (fa 0 181), od 183 (fa 3 182), od 184 (.ldR 46 1 false (tm 183)), od 185 (.call 85 [(tm 184)]), od
 186 (.nck (tm 165)), od 187 (fa 0 186), od 188 (fa 0 187), on (.stR 46 1 (tm 188) (tm 173)), od 189 (.nck (tm 166)), od 190 (fa 0 189), od 191 (fa 1 190), on (.stR 46 1 (tm 191) (tm 179)), od 192 (.nck (tm 167)), od 193 (fa 0 192),
 od 194 (fa 3 193), on (.stR 46 1 (tm 194) (tm 185))] [kp [4, 8, 11] [4, 11, 44, 46, 78, 90, 111, 157, 62040, 62052]]) (.seq (.reg [om 195 8, od 196 (.nck (tm 195)), od 197 (fa 0 196), od 198 (.ldR 46 4 true (tm 197)), od 199 (fa 4
 11), od 200 (.ldR 11 1 false (tm 199)), od 201 (.call 90 [(tm 200)]), od 202 (fa 6 11), od 203 (.ldR 11 1 false (tm 202)), od 204 (.call 85 [(tm 203)]), od 205 (fa 7 11), od 206 (.ldR 11 1 false (tm 205)), od 207 (.call 85 [(tm
 206)]), od 208 (fa 0 11), on (.stR 11 4 (tm 208) (tm 198)), od 209 (fa 4 11), on (.stR 11 1 (tm 209) (tm 201)), od 210 (fa 6 11), on (.stR 11 1 (tm 210) (tm 204)), od 211 (fa 7 11), on (.stR 11 1 (tm 211) (tm 207))] [kp [4, 11] [4,
 11, 44, 78, 90, 111, 157, 62040, 62052]]) (.seq (.reg [od 212 (lG 8 11), on (.store 8 (tm 4) (tm 212)), od 5 (.mv (ki 0))] [kp [4, 5] [4, 44, 78, 90, 111, 157, 62040, 62052]]) .ret)))))))))))))))
theorem scans_Insert_l1_run (h : ∀ K : St → Prop, K = run P Γ scans_Insert_l1 Q → run P Γ scans_Insert_g0 (thenX K Q) s) : run P Γ scans_Insert_l1 Q s := run_loop h
theorem scans_Insert_l3_run (h : ∀ K : St → Prop, K = run P Γ scans_Insert_l3 Q → run P Γ scans_Insert_g2 (thenX K Q) s) : run P Γ scans_Insert_l3 Q s := run_loop h
theorem scans_Insert_l5_run (h : ∀ K : St → Prop, K = run P Γ scans_Insert_l5 Q → run P Γ scans_Insert_g4 (thenX K Q) s) : run P Γ scans_Insert_l5 Q s := run_loop h
theorem scans_Insert_l7_run (h : ∀ K : St → Prop, K = run P Γ scans_Insert_l7 Q → run P Γ scans_Insert_g6 (thenX K Q) s) : run P Γ scans_Insert_l7 Q s := run_loop h
def scans_Insert_rv : List RV := [.cell 4 8 true, .tmp 5]

/- (*probecard/scans.builder).add (function 84) -/
abbrev scans_builder_add_g0 : IC := .gh (.seq (.seq (.reg [om 7 0, od 8 (.nck (tm 7)), od 9 (fa 4 8), od 10 (ld 1 9), om 11 2, od 12 (.lkup .str (.bool false) false (tm 10) (tm 11))] [kp [0, 2, 4, 12] [40, 52, 1000000, 1000001, 1000002, 1000003, 1000004]]) (.cond (tm
 12) .skip (.exit 0))) (.block 1 (.reg [om 13 2, od 14 (.bin .add (tm 13) (.const (sV [95]))), om 2 14] [kp [0, 2, 4] [40, 52, 1000000, 1000001, 1000002, 1000003, 1000004]]))) [kp [0, 2, 4] [40, 52, 1000000, 1000001, 1000002,
 1000003, 1000004]]
def scans_builder_add_l1 : IC := .loop scans_builder_add_g0
abbrev scans_builder_add_ic : IC := (.seq (.reg [od 4 (.box true (tm 1)), od 6 (.mv (ki 0))] [kp [0, 2, 4] [40, 52, 1000000, 1000001, 1000002, 1000003, 1000004]]) (.seq (.block 0 scans_builder_add_l1) (.seq (.reg [om 15 0, od 16 (.nck (tm 15)), od 17 (fa 4 16), od 18
 (ld 1 17), om 19 2, on (.mup .str (tm 18) (tm 19) kT)] [kp [0, 2, 4] [40, 52, 1000000, 1000001, 1000002, 1000003, 1000004]]) (.seq (.reg [om 20 0, om 21 0, od 22 (.nck (tm 21)), od 23 (fa 5 22), od 24 (ld 1 23), om 25 24, oF 26
 (.mv (tm 2)) 25, oF 27 (le 1 26) 25, oF 28 (.bin .gtr (tm 27) (ki 32)) 25, od 29 (.pick (tm 25) kT (tm 28)), od 30 (.nck (tm 20)), od 31 (fa 5 30), on (.store 1 (tm 31) (tm 29))] [kp [0, 2, 4] [40, 52, 1000000, 1000001, 1000002,
 1000003, 1000004]]) (.seq (.reg [om 32 0, om 33 0, od 34 (.nck (tm 33)), od 35 (fa 0 34), od 36 (fa 0 35), od 37 (.ldR 1000001 1 false (tm 36)), od 38 (.ldT 4 true (tm 4)), od 39 (.bsl true 104 4 [(tm 38)]), od 40 (.app false 104 4
 (tm 37) (tm 39)), od 41 (.nck (tm 32)), od 42 (fa 0 41), od 43 (fa 0 42), on (.stR 1000001 1 (tm 43) (tm 40))] [kp [0, 2] [40, 52, 1000000, 1000001, 1000002, 1000003, 1000004]]) (.seq (.reg [om 44 0, om 45 0, od 46 (.nck (tm 45)),
 od 47 (fa 0 46), od 48 (fa 1 47), od 49 (ld 1 48), om 50 2, od 51 (.bsl true 9 1 [(tm 50)]), od 52 (.app false 9 1 (tm 49) (tm 51)), od 53 (.nck (tm 44)), od 54 (fa 0 53), od 55 (fa 1 54), on (.store 1 (tm 55) (tm 52))] [kp [0]
 [40, 52, 1000000, 1000001, 1000002, 1000003, 1000004]]) (.seq (.reg [om 56 0, od 57 (.nck (tm 56)), od 58 (fa 0 57), od 59 (fa 0 58), od 60 (ld 1 59), od 61 (le 0 60), od 62 (.bin .sub (tm 61) (ki 1)), om 6 62] [kp [6] [40, 52,
 1000000, 1000001, 1000002, 1000003, 1000004]]) .ret)))))))
theorem scans_builder_add_l1_run (h : ∀ K : St → Prop, K = run P Γ scans_builder_add_l1 Q → run P Γ scans_builder_add_g0 (thenX K Q) s) : run P Γ scans_builder_add_l1 Q s := run_loop h
def scans_builder_add_rv : List RV := [.tmp 6]

/- probecard/netlists.Copy (function 83) -/
abbrev netlists_Copy_g0 : IC := .gh (.seq (.reg [od 25 (.bin .lss (tm 24) (tm 23))] [kp [2, 3, 22, 23, 24, 25] [2, 3, 14007]]) (.seq (.cond (tm 25) .skip (.exit 0)) (.seq (.block 1 (.seq (.reg [om 26 24, od 27 (ia 4 22 24), od 28 (lG 4 27), od 5 (.alloc false
 [(.int .u8 0), (.slice none 0 0), (.int .i64 0), (.int .i64 0)]), om 4 26, on (.store 4 (tm 5) (tm 28))] [kp [2, 3, 4, 5, 22, 23, 24] [2, 3, 5, 14007]]) (.reg [od 29 (fa 0 3), od 30 (.ldR 3 1 false (tm 29)), om 31 4, od 32 (fa 1
 5), od 33 (.ldR 5 1 false (tm 32)), od 34 (.callT 136 [(tm 33)]), od 35 (ia 4 30 31), od 36 (fa 1 35), on (.stR 14007 1 (tm 36) (tm 34))] [kp [2, 3, 22, 23, 24] [2, 3, 14007]]))) (.reg [od 37 (.bin .add (tm 24) (ki 1)), om 24 37]
 [kp [2, 3, 22, 23, 24] [2, 3, 14007]])))) [kp [2, 3, 22, 23, 24] [2, 3, 14007]]
def netlists_Copy_l1 : IC := .loop netlists_Copy_g0
abbrev netlists_Copy_g2 : IC := .gh (.seq (.reg [od 42 (.bin .lss (tm 41) (tm 40))] [kp [2, 3, 39, 40, 41, 42] [2, 3, 14007]]) (.seq (.cond (tm 42) .skip (.exit 2)) (.seq (.block 3 (.seq (.reg [om 43 41, od 44 (ia 3 39 41), od 45 (lG 3 44), od 7 (.alloc false
 [(.slice none 0 0), (.slice none 0 0), (.int .i64 0)]), om 6 43, on (.store 3 (tm 7) (tm 45))] [kp [2, 3, 6, 7, 39, 40, 41] [2, 3, 7, 14007]]) (.reg [od 46 (fa 2 3), od 47 (.ldR 3 1 false (tm 46)), om 48 6, od 49 (fa 2 3), od 50
 (.ldR 3 1 false (tm 49)), om 51 6, od 52 (fa 0 7), od 53 (.ldR 7 1 false (tm 52)), od 54 (.callT 136 [(tm 53)]), od 55 (fa 1 7), od 56 (.ldR 7 1 false (tm 55)), od 57 (.callT 136 [(tm 56)]), od 58 (ia 3 47 48), od 59 (fa 0 58), on
 (.stR 14007 1 (tm 59) (tm 54)), od 60 (ia 3 50 51), od 61 (fa 1 60), on (.stR 14007 1 (tm 61) (tm 57))] [kp [2, 3, 39, 40, 41] [2, 3, 14007]]))) (.reg [od 62 (.bin .add (tm 41) (ki 1)), om 41 62] [kp [2, 3, 39, 40, 41] [2, 3,
 14007]])))) [kp [2, 3, 39, 40, 41] [2, 3, 14007]]
def netlists_Copy_l3 : IC := .loop netlists_Copy_g2
abbrev netlists_Copy_ic : IC := (.seq (.reg [od 1 (.box true (tm 0)), od 2 (.alloc false [(.slice none 0 0), (.slice none 0 0), (.slice none 0 0), (.slice none 0 0)])] [kp [1, 2] [2, 14007]]) (.seq (.reg [od 8 (fa 0 1), od 9 (.ldT 1 false (tm 8)), od 10 (.ncall
 133 [(tm 9)] 10000), od 11 (fa 1 1), od 12 (.ldT 1 false (tm 11)), od 13 (.callT 134 [(tm 12)]), od 14 (fa 2 1), od 15 (.ldT 1 false (tm 14)), od 16 (.callT 135 [(tm 15)]), od 17 (fa 3 1), od 18 (.ldT 1 false (tm 17)), od 19
 (.callT 136 [(tm 18)]), od 20 (.build [(1, (tm 10)), (1, (tm 13)), (1, (tm 16)), (1, (tm 19))]), od 3 (.alloc false [(.slice none 0 0), (.slice none 0 0), (.slice none 0 0), (.slice none 0 0)]), on (.stR 3 4 (tm 3) (tm 20))] [kp
 [2, 3] [2, 3, 14007]]) (.seq (.seq (.reg [od 21 (fa 0 3), od 22 (ld 1 21), od 23 (le 0 22), od 24 (.mv (ki 0))] [kp [2, 3, 22, 23, 24] [2, 3, 14007]]) (.gh (.block 0 netlists_Copy_l1) [.frz 14007])) (.seq (.seq (.reg [od 38 (fa 2
 3), od 39 (ld 1 38), od 40 (le 0 39), od 41 (.mv (ki 0))] [kp [2, 3, 39, 40, 41] [2, 3, 14007]]) (.block 2 netlists_Copy_l3)) (.seq (.reg [od 63 (lG 4 3), on (.store 4 (tm 2) (tm 63))] [kp [2] [2, 14007]]) .ret)))))
theorem netlists_Copy_l1_run (h : ∀ K : St → Prop, K = run P Γ netlists_Copy_l1 Q → run P Γ netlists_Copy_g0 (thenX K Q) s) : run P Γ netlists_Copy_l1 Q s := run_loop h
theorem netlists_Copy_l3_run (h : ∀ K : St → Prop, K = run P Γ netlists_Copy_l3 Q → run P Γ netlists_Copy_g2 (thenX K Q) s) : run P Γ netlists_Copy_l3 Q s := run_loop h
def netlists_Copy_rv : List RV := [.cell 2 4 true]

/- probecard/netlists.copied[probecard/api.Node] (function 133) -/
abbrev netlists_copied_api_Node_ic : IC := (.seq (.reg [od 2 (.mv kN)] [kp [0] []]) (.seq (.reg [om 3 0, od 4 (.hcall 162 [(tm 3)] [] 4000), od 5 (.hcall 88 [(tm 4)] [4007] 5000), om 2 5] [kp [2] [4007]]) .ret))
def netlists_copied_api_Node_rv : List RV := [.tmp 2]

/- probecard/netlists.copied[string] (function 134) -/
abbrev netlists_copied_string_ic : IC := (.seq (.reg [od 2 (.mv kN)] [kp [0] []]) (.seq (.reg [om 3 0, od 4 (.call 163 [(tm 3)]), od 5 (.call 89 [(tm 4)]), om 2 5] [kp [2] []]) .ret))
def netlists_copied_string_rv : List RV := [.tmp 2]

/- probecard/netlists.copied[probecard/api.Memory] (function 135) -/
abbrev netlists_copied_api_Memory_ic : IC := (.seq (.reg [od 2 (.mv kN)] [kp [0] []]) (.seq (.reg [om 3 0, od 4 (.call 165 [(tm 3)]), od 5 (.call 164 [(tm 4)]), om 2 5] [kp [2] []]) .ret))
def netlists_copied_api_Memory_rv : List RV := [.tmp 2]

/- probecard/netlists.copied[int] (function 136) -/
abbrev netlists_copied_int_ic : IC := (.seq (.reg [od 2 (.mv kN)] [kp [0] []]) (.seq (.reg [om 3 0, od 4 (.call 86 [(tm 3)]), od 5 (.call 85 [(tm 4)]), om 2 5] [kp [2] []]) .ret))
def netlists_copied_int_rv : List RV := [.tmp 2]

/- slices.Clone[[]probecard/api.Node,probecard/api.Node] (function 162) -/
abbrev slices_Clone_api_Node_ic : IC := (.seq (.reg [od 2 (.mv kN)] [kp [0] []]) (.seq (.seq (.reg [om 3 0, od 4 (.isNil true (tm 3))] [kp [0, 4] []]) (.cond (tm 4) (.seq (.reg [od 2 (.mv kN)] [kp [2] [7]]) .ret) .skip)) (.seq (.reg [od 5 (.bsl true 104 4 []), om 6 0, od
 7 (.app false 104 4 (tm 5) (tm 6)), om 2 7] [kp [2] [7]]) .ret)))
def slices_Clone_api_Node_rv : List RV := [.tmp 2]

/- slices.Clone[[]string,string] (function 163) -/
abbrev slices_Clone_string_ic : IC := (.seq (.reg [od 2 (.mv kN)] [kp [0] []]) (.seq (.seq (.reg [om 3 0, od 4 (.isNil true (tm 3))] [kp [0, 4] []]) (.cond (tm 4) (.seq (.reg [od 2 (.mv kN)] [kp [2] []]) .ret) .skip)) (.seq (.reg [od 5 (.bsl true 9 1 []), om 6 0, od 7
 (.appT 9 1 (tm 5) (tm 6)), om 2 7] [kp [2] []]) .ret)))
def slices_Clone_string_rv : List RV := [.tmp 2]

/- slices.Clone[[]probecard/api.Memory,probecard/api.Memory] (function 165) -/
abbrev slices_Clone_api_Memory_ic : IC := (.seq (.reg [od 2 (.mv kN)] [kp [0] []]) (.seq (.seq (.reg [om 3 0, od 4 (.isNil true (tm 3))] [kp [0, 4] []]) (.cond (tm 4) (.seq (.reg [od 2 (.mv kN)] [kp [2] []]) .ret) .skip)) (.seq (.reg [od 5 (.bsl true 110 3 []), om 6 0, od
 7 (.appT 110 3 (tm 5) (tm 6)), om 2 7] [kp [2] []]) .ret)))
def slices_Clone_api_Memory_rv : List RV := [.tmp 2]

/- slices.Clip[[]probecard/api.Node,probecard/api.Node] (function 88) -/
abbrev slices_Clip_api_Node_ic : IC := (.seq (.reg [od 2 (.mv kN)] [kp [0] [1000000]]) (.seq (.reg [om 3 0, om 4 0, od 5 (le 0 4), om 6 0, od 7 (le 0 6), od 8 (.slice 4 (tm 3) none (some (tm 5)) (some (tm 7))), om 2 8] [kp [2] [1000000]]) .ret))
def slices_Clip_api_Node_rv : List RV := [.tmp 2]

/- slices.Clip[[]string,string] (function 89) -/
abbrev slices_Clip_string_ic : IC := (.seq (.reg [od 2 (.mv kN)] [kp [0] []]) (.seq (.reg [om 3 0, om 4 0, od 5 (le 0 4), om 6 0, od 7 (le 0 6), od 8 (.slice 1 (tm 3) none (some (tm 5)) (some (tm 7))), om 2 8] [kp [2] []]) .ret))
def slices_Clip_string_rv : List RV := [.tmp 2]

/- slices.Clip[[]probecard/api.Memory,probecard/api.Memory] (function 164) -/
abbrev slices_Clip_api_Memory_ic : IC := (.seq (.reg [od 2 (.mv kN)] [kp [0] []]) (.seq (.reg [om 3 0, om 4 0, od 5 (le 0 4), om 6 0, od 7 (le 0 6), od 8 (.slice 3 (tm 3) none (some (tm 5)) (some (tm 7))), om 2 8] [kp [2] []]) .ret))
def slices_Clip_api_Memory_rv : List RV := [.tmp 2]

/- strconv.Itoa (function 87) -/
abbrev strconv_Itoa_ic : IC := (.seq (.reg [od 2 (.mv (.const (sV [])))] [kp [0] []]) (.seq (.reg [om 3 0, od 4 (.call 137 [(tm 3)]), om 2 4] [kp [2] []]) .ret))
def strconv_Itoa_rv : List RV := [.tmp 2]

/- internal/strconv.Itoa (function 137) -/
abbrev i_strconv_Itoa_ic : IC := (.seq (.reg [od 2 (.mv (.const (sV [])))] [kp [0] []]) (.seq (.reg [om 3 0, od 4 (.call 166 [(tm 3), (ki 10)]), om 2 4] [kp [2] []]) .ret))
def i_strconv_Itoa_rv : List RV := [.tmp 2]

/- internal/strconv.FormatInt (function 166) -/
abbrev i_strconv_FormatInt_ic : IC := (.seq (.reg [od 4 (.mv (.const (sV [])))] [kp [0, 1] []]) (.seq (.seq (.reg [om 10 1, od 11 (.bin .eql (tm 10) (ki 10))] [kp [0, 1, 11] []]) (.cond (tm 11) (.seq (.seq (.reg [om 12 0, od 13 (.bin .leq (ki 0) (tm 12)), om 14 13, oT
 15 (.mv (tm 0)) 14, oT 16 (.bin .lss (tm 15) (ki 100)) 14, od 17 (.pick (tm 14) (tm 16) kF)] [kp [0, 17] []]) (.cond (tm 17) (.seq (.reg [om 18 0, od 19 (.call 183 [(tm 18)]), om 4 19] [kp [4] []]) .ret) .skip)) (.seq (.reg [od 5
 (.alloc false [(.int .u8 0), (.int .u8 0), (.int .u8 0), (.int .u8 0), (.int .u8 0), (.int .u8 0), (.int .u8 0), (.int .u8 0), (.int .u8 0), (.int .u8 0), (.int .u8 0), (.int .u8 0), (.int .u8 0), (.int .u8 0), (.int .u8 0), (.int
 .u8 0), (.int .u8 0), (.int .u8 0), (.int .u8 0), (.int .u8 0), (.int .u8 0), (.int .u8 0), (.int .u8 0), (.int .u8 0)])] [kp [0, 5] [5]]) (.seq (.reg [om 20 0, od 21 (.conv .u64 (tm 20)), om 6 21] [kp [0, 5, 6] [5]]) (.seq (.seq
 (.reg [om 22 0, od 23 (.bin .lss (tm 22) (ki 0))] [kp [0, 5, 6, 23] [5]]) (.cond (tm 23) (.reg [om 24 6, od 25 (.un .neg (tm 24)), om 6 25] [kp [0, 5, 6] [5]]) .skip)) (.seq (.reg [om 26 6, od 27 (.call 184 [(tm 26)]), om 7 27] [kp
 [0, 5, 6, 7] [5]]) .dead))))) .skip)) (.seq (.reg [om 45 0, od 46 (.conv .u64 (tm 45)), om 47 1, om 48 0, od 49 (.bin .lss (tm 48) (ki 0)), od 50 (.call 186 [kN, (tm 46), (tm 47), (tm 49), kF]), om 44 50, od 51 (ex 44 0), od 52 (ex
 44 1), om 8 51, om 9 52] [kp [9] []]) (.seq (.reg [om 53 9, om 4 53] [kp [4] []]) .ret))))
def i_strconv_FormatInt_rv : List RV := [.tmp 4]

/- internal/strconv.small (function 183) -/
abbrev i_strconv_small_ic : IC := (.seq (.reg [od 2 (.mv (.const (sV [])))] [kp [0] []]) (.seq (.seq (.reg [om 3 0, od 4 (.bin .lss (tm 3) (ki 10))] [kp [0, 4] []]) (.cond (tm 4) (.seq (.reg [om 5 0, om 6 0, od 7 (.bin .add (tm 6) (ki 1)), od 8 (.slice 0 (.const
 (sV [48, 49, 50, 51, 52, 53, 54, 55, 56, 57, 97, 98, 99, 100, 101, 102, 103, 104, 105, 106, 107, 108, 109, 110, 111, 112, 113, 114, 115, 116, 117, 118, 119, 120, 121, 122])) (some (tm 5)) (some (tm 7)) none), om 2 8] [kp [2] []])
 .ret) .skip)) (.seq (.reg [om 9 0, od 10 (.bin .mul (tm 9) (ki 2)), om 11 0, od 12 (.bin .mul (tm 11) (ki 2)), od 13 (.bin .add (tm 12) (ki 2)), od 14 (.slice 0 (.const (sV [48, 48, 48, 49, 48, 50, 48, 51, 48, 52, 48, 53, 48, 54,
 48, 55, 48, 56, 48, 57, 49, 48, 49, 49, 49, 50, 49, 51, 49, 52, 49, 53, 49, 54, 49, 55, 49, 56, 49, 57, 50, 48, 50, 49, 50, 50, 50, 51, 50, 52, 50, 53, 50, 54, 50, 55, 50, 56, 50, 57, 51, 48, 51, 49, 51, 50, 51, 51, 51, 52, 51, 53,
 51, 54, 51, 55, 51, 56, 51, 57, 52, 48, 52, 49, 52, 50, 52, 51, 52, 52, 52, 53, 52, 54, 52, 55, 52, 56, 52, 57, 53, 48, 53, 49, 53, 50, 53, 51, 53, 52, 53, 53, 53, 54, 53, 55, 53, 56, 53, 57, 54, 48, 54, 49, 54, 50, 54, 51, 54, 52,
 54, 53, 54, 54, 54, 55, 54, 56, 54, 57, 55, 48, 55, 49, 55, 50, 55, 51, 55, 52, 55, 53, 55, 54, 55, 55, 55, 56, 55, 57, 56, 48, 56, 49, 56, 50, 56, 51, 56, 52, 56, 53, 56, 54, 56, 55, 56, 56, 56, 57, 57, 48, 57, 49, 57, 50, 57, 51,
 57, 52, 57, 53, 57, 54, 57, 55, 57, 56, 57, 57])) (some (tm 10)) (some (tm 13)) none), om 2 14] [kp [2] []]) .ret)))
def i_strconv_small_rv : List RV := [.tmp 2]
end
end Go.Lg

/- The abstract code is that of the program (by the kernel). Conditions: none. -/
namespace Go.Lg
open Go Go.Proofs
theorem scans_Insert_chk : chkF Tryz.prog 29 scans_Insert_ic 213 2 scans_Insert_rv = true := by kernel_rfl
theorem scans_builder_add_chk : chkF Tryz.prog 84 scans_builder_add_ic 63 3 scans_builder_add_rv = true := by kernel_rfl
theorem netlists_Copy_chk : chkF Tryz.prog 83 netlists_Copy_ic 64 1 netlists_Copy_rv = true := by kernel_rfl
theorem netlists_copied_api_Node_chk : chkF Tryz.prog 133 netlists_copied_api_Node_ic 6 1 netlists_copied_api_Node_rv = true := by kernel_rfl
theorem netlists_copied_string_chk : chkF Tryz.prog 134 netlists_copied_string_ic 6 1 netlists_copied_string_rv = true := by kernel_rfl
theorem netlists_copied_api_Memory_chk : chkF Tryz.prog 135 netlists_copied_api_Memory_ic 6 1 netlists_copied_api_Memory_rv = true := by kernel_rfl
theorem netlists_copied_int_chk : chkF Tryz.prog 136 netlists_copied_int_ic 6 1 netlists_copied_int_rv = true := by kernel_rfl
theorem slices_Clone_api_Node_chk : chkF Tryz.prog 162 slices_Clone_api_Node_ic 8 1 slices_Clone_api_Node_rv = true := by kernel_rfl
theorem slices_Clone_string_chk : chkF Tryz.prog 163 slices_Clone_string_ic 8 1 slices_Clone_string_rv = true := by kernel_rfl
theorem slices_Clone_api_Memory_chk : chkF Tryz.prog 165 slices_Clone_api_Memory_ic 8 1 slices_Clone_api_Memory_rv = true := by kernel_rfl
theorem slices_Clip_api_Node_chk : chkF Tryz.prog 88 slices_Clip_api_Node_ic 9 1 slices_Clip_api_Node_rv = true := by kernel_rfl
theorem slices_Clip_string_chk : chkF Tryz.prog 89 slices_Clip_string_ic 9 1 slices_Clip_string_rv = true := by kernel_rfl
theorem slices_Clip_api_Memory_chk : chkF Tryz.prog 164 slices_Clip_api_Memory_ic 9 1 slices_Clip_api_Memory_rv = true := by kernel_rfl
theorem strconv_Itoa_chk : chkF Tryz.prog 87 strconv_Itoa_ic 5 1 strconv_Itoa_rv = true := by kernel_rfl
theorem i_strconv_Itoa_chk : chkF Tryz.prog 137 i_strconv_Itoa_ic 5 1 i_strconv_Itoa_rv = true := by kernel_rfl
theorem i_strconv_FormatInt_chk : chkF Tryz.prog 166 i_strconv_FormatInt_ic 54 2 i_strconv_FormatInt_rv = true := by kernel_rfl
theorem i_strconv_small_chk : chkF Tryz.prog 183 i_strconv_small_ic 15 1 i_strconv_small_rv = true := by kernel_rfl
end Go.Lg

/- Small numbers as text; copies of lists. Conditions: none. -/
set_option linter.unusedSimpArgs false
set_option linter.unusedVariables false
set_option maxRecDepth 100000
namespace Go.Lg
open Go Go.Proofs
variable {Γ : Tables}

def itoaL (i : Nat) : List UInt8 := if i < 10 then [UInt8.ofNat (48 + i)] else [UInt8.ofNat (48 + i / 10), UInt8.ofNat (48 + i % 10)]

def dig1 : List UInt8 := [48, 49, 50, 51, 52, 53, 54, 55, 56, 57, 97, 98, 99, 100, 101, 102, 103, 104, 105, 106, 107, 108, 109, 110, 111, 112, 113, 114, 115, 116, 117, 118, 119, 120, 121, 122]
def dig2 : List UInt8 := (List.range 100).flatMap fun i => [UInt8.ofNat (48 + i / 10), UInt8.ofNat (48 + i % 10)]
theorem dig1_at : ∀ i, i < 10 → ((ByteArray.mk dig1.toArray).extract i (i + 1)).data.toList = [UInt8.ofNat (48 + i)] := by decide +kernel
theorem dig2_at : ∀ i, i < 100 → ((ByteArray.mk dig2.toArray).extract (i * 2) (i * 2 + 2)).data.toList = [UInt8.ofNat (48 + i / 10), UInt8.ofNat (48 + i % 10)] := by decide +kernel
theorem ba_of {a : ByteArray} {l : List UInt8} (h : a.data.toList = l) : a = ByteArray.mk l.toArray := by
  cases a; simp only at h; subst h; rfl

theorem small_spec (i : Nat) (hi : i < 100) : FreshCalls Tryz.prog Γ 183 [tI i] (tS (itoaL i)) := by
  refine run_freshQ i_strconv_small_chk rfl ?_
  by_cases h : i < 10
  · have h' : (i : Int) < 10 := by omega
    have e := ba_of (dig1_at i h)
    simp only [dig1] at e
    simp (disch := omega) [i_strconv_small_ic, sV, h, h', wrap_i64]
    have e1 : ((i : Int) + 1).toNat = i + 1 := by omega
    simp [i_strconv_small_rv, e1, e, itoaL, h, tS, sV]
    omega
  · have h' : ¬ (i : Int) < 10 := by omega
    have e := ba_of (dig2_at i hi)
    have d2 : dig2 = [48, 48, 48, 49, 48, 50, 48, 51, 48, 52, 48, 53, 48, 54, 48, 55, 48, 56, 48, 57, 49, 48, 49, 49, 49, 50, 49, 51, 49, 52, 49, 53, 49, 54, 49, 55, 49, 56, 49, 57, 50, 48, 50, 49, 50, 50, 50, 51, 50, 52, 50, 53, 50, 54, 50, 55, 50, 56, 50, 57, 51, 48, 51, 49, 51, 50, 51, 51, 51, 52, 51, 53, 51, 54, 51, 55, 51, 56, 51, 57, 52, 48, 52, 49, 52, 50, 52, 51, 52, 52, 52, 53, 52, 54, 52, 55, 52, 56, 52, 57, 53, 48, 53, 49, 53, 50, 53, 51, 53, 52, 53, 53, 53, 54, 53, 55, 53, 56, 53, 57, 54, 48, 54, 49, 54, 50, 54, 51, 54, 52, 54, 53, 54, 54, 54, 55, 54, 56, 54, 57, 55, 48, 55, 49, 55, 50, 55, 51, 55, 52, 55, 53, 55, 54, 55, 55, 55, 56, 55, 57, 56, 48, 56, 49, 56, 50, 56, 51, 56, 52, 56, 53, 56, 54, 56, 55, 56, 56, 56, 57, 57, 48, 57, 49, 57, 50, 57, 51, 57, 52, 57, 53, 57, 54, 57, 55, 57, 56, 57, 57] := by decide +kernel
    rw [d2] at e
    simp (disch := omega) [i_strconv_small_ic, sV, h, h', wrap_i64]
    have e1 : ((i : Int) * 2).toNat = i * 2 := by omega
    have e2 : ((i : Int) * 2 + 2).toNat = i * 2 + 2 := by omega
    simp [i_strconv_small_rv, e1, e2, e, itoaL, h, tS, sV]
    omega

theorem itoa_spec (i : Nat) (hi : i < 100) : FreshCalls Tryz.prog Γ 87 [tI i] (tS (itoaL i)) := by
  have h1 : FreshCalls Tryz.prog Γ 166 [tI i, tI 10] (tS (itoaL i)) := by
    refine run_freshQ i_strconv_FormatInt_chk rfl ?_
    have h0 : (0 : Int) ≤ i := by omega
    have h2 : (i : Int) < 100 := by omega
    simp (disch := omega) [i_strconv_FormatInt_ic, h2]
    refine callK_fresh (small_spec i hi) rfl ?_
    simp [i_strconv_FormatInt_rv, tS, sV]
  have h2 : FreshCalls Tryz.prog Γ 137 [tI i] (tS (itoaL i)) := by
    refine run_freshQ i_strconv_Itoa_chk rfl ?_
    simp [i_strconv_Itoa_ic]
    refine callK_fresh h1 rfl ?_
    simp [i_strconv_Itoa_rv, tS, sV]
  refine run_freshQ strconv_Itoa_chk rfl ?_
  simp [strconv_Itoa_ic]
  refine callK_fresh h2 rfl ?_
  simp [strconv_Itoa_rv, tS, sV]
end Go.Lg

/- Copies of circuits. Conditions: none. -/
set_option linter.unusedSimpArgs false
set_option linter.unusedVariables false
set_option maxRecDepth 100000
namespace Go.Lg
open Go Go.Proofs
variable {Γ : Tables}

/-- What is known of a list tells whether it is nil. -/
def SlOk {α : Type} (s : Sl α) : Prop := (s.nl = some true → s.l = []) ∧ (s.nl = none → s.l ≠ []) ∧ s.l.length ≤ 1000000
def cpS (s : Sl Int) : Sl Int := ⟨s.l, some s.l.length, if s.nl = some true then some true else none⟩

theorem clone_int_a (s : Sl Int) (hs : SlOk s) : FreshCalls Tryz.prog Γ 86 [tSl s] (if s.nl = some true then .sl [] (some 0) (some true) else .sl (ints s.l) none none) := by
  refine run_freshQ slices_Clone_int_chk rfl ?_
  obtain ⟨l, cap, nl⟩ := s
  obtain ⟨h1, h2, h3⟩ := hs
  simp only at h1 h2 h3
  rcases nl with _ | _ | _
  · have h4 : ints l ≠ [] := by simpa [enc1] using h2 rfl
    simp (disch := omega) [slices_Clone_int_ic, slices_Clone_int_rv, enc1_wid, enc1_len, h4, Later, tSl]
    omega
  · simp (disch := omega) [slices_Clone_int_ic, slices_Clone_int_rv, enc1_wid, enc1_len, Later, tSl]
    omega
  · have := h1 rfl
    subst this
    simp [slices_Clone_int_ic, slices_Clone_int_rv, tSl]

theorem copied_int_spec (s : Sl Int) (hs : SlOk s) : PureCalls Tryz.prog Γ 136 [tSl s] (tSl (cpS s)) := by
  refine run_pureQ netlists_copied_int_chk rfl ?_
  have e1 := clone_int_a (Γ := Γ) s hs
  obtain ⟨l, cap, nl⟩ := s
  obtain ⟨h1, h2, h3⟩ := hs
  simp only at h1 h2 h3
  simp only at e1
  simp [netlists_copied_int_ic, tSl]
  refine callK_fresh e1 rfl ?_
  rcases nl with _ | _ | _
  · simp
    refine callK_pure (clip_int (ints l) none none enc1_wid) rfl ?_
    simp [netlists_copied_int_rv, cpS, enc1_len]
  · simp
    refine callK_pure (clip_int (ints l) none none enc1_wid) rfl ?_
    simp [netlists_copied_int_rv, cpS, enc1_len]
  · have := h1 rfl
    subst this
    simp
    refine callK_pure (clip_int [] (some 0) (some true) (by simp)) rfl ?_
    simp [netlists_copied_int_rv, cpS, enc1_len, enc1_nil]

theorem copied_names_spec (l : List (List UInt8)) (cap : Option Nat) (h : l ≠ []) (hl : l.length ≤ 1000000) : PureCalls Tryz.prog Γ 134 [.sl (enc1 tS l) cap none] (.sl (enc1 tS l) (some l.length) none) := by
  refine run_pureQ netlists_copied_string_chk rfl ?_
  have h4 : enc1 tS l ≠ [] := by simpa [enc1] using h
  have e1 : PureCalls Tryz.prog Γ 163 [.sl (enc1 tS l) cap none] (.sl (enc1 tS l) none none) := by
    refine run_pureQ slices_Clone_string_chk rfl ?_
    simp (disch := omega) [slices_Clone_string_ic, slices_Clone_string_rv, enc1_wid, enc1_len, h4, Later]
    omega
  have e2 : PureCalls Tryz.prog Γ 89 [.sl (enc1 tS l) none none] (.sl (enc1 tS l) (some l.length) none) := by
    refine run_pureQ slices_Clip_string_chk rfl ?_
    simp [slices_Clip_string_ic, slices_Clip_string_rv, enc1_wid, enc1_len]
  simp [netlists_copied_string_ic]
  refine callK_pure e1 rfl ?_
  simp
  refine callK_pure e2 rfl ?_
  simp [netlists_copied_string_rv]

theorem copied_mems_nil : PureCalls Tryz.prog Γ 135 [.sl [] (some 0) (some true)] (.sl [] (some 0) (some true)) := by
  refine run_pureQ netlists_copied_api_Memory_chk rfl ?_
  have e1 : PureCalls Tryz.prog Γ 165 [.sl [] (some 0) (some true)] (.sl [] (some 0) (some true)) := by
    refine run_pureQ slices_Clone_api_Memory_chk rfl ?_
    simp [slices_Clone_api_Memory_ic, slices_Clone_api_Memory_rv]
  have e2 : PureCalls Tryz.prog Γ 164 [.sl [] (some 0) (some true)] (.sl [] (some 0) (some true)) := by
    refine run_pureQ slices_Clip_api_Memory_chk rfl ?_
    simp [slices_Clip_api_Memory_ic, slices_Clip_api_Memory_rv]
  simp [netlists_copied_api_Memory_ic]
  refine callK_pure e1 rfl ?_
  simp
  refine callK_pure e2 rfl ?_
  simp [netlists_copied_api_Memory_rv]

theorem copied_nodes_h (l : List Nd) (cap : Option Nat) (h : l ≠ []) (hl : l.length ≤ 1000000) : HCalls Tryz.prog Γ 133 [] [.t (.sl (encN tNd l) cap none)] (.ls 4007 0 l.length (some l.length)) [(4007, .sl 104 4 (encN tNd l))] := by
  refine run_handQ netlists_copied_api_Node_chk rfl ?_
  have h4 : encN tNd l ≠ [] := by simpa [encN] using h
  have e1 : HCalls Tryz.prog Γ 162 [] [.t (.sl (encN tNd l) cap none)] (.ls 7 0 l.length none) [(7, .sl 104 4 (encN tNd l))] := by
    refine run_handQ slices_Clone_api_Node_chk rfl ?_
    simp (disch := omega) [slices_Clone_api_Node_ic, slices_Clone_api_Node_rv, tNd_wid, encN_len, h4, Later]
    omega
  have e2 : HCalls Tryz.prog Γ 88 [(1000000, .sl 104 4 (encN tNd l))] [.ls 1000000 0 l.length none] (.ls 1000000 0 l.length (some l.length)) [(1000000, .sl 104 4 (encN tNd l))] := by
    refine run_handQ slices_Clip_api_Node_chk rfl ?_
    simp [slices_Clip_api_Node_ic, slices_Clip_api_Node_rv, tNd_wid, encN_len]
  simp [netlists_copied_api_Node_ic]
  refine ⟨_, _, e1, ?_⟩
  simp
  refine ⟨_, _, e2, ?_⟩
  simp [netlists_copied_api_Node_rv]
end Go.Lg

/- netlists.Copy. Conditions: none. -/
set_option linter.unusedSimpArgs false
set_option linter.unusedVariables false
set_option maxRecDepth 100000
namespace Go.Lg
open Go Go.Proofs
variable {Γ : Tables}

theorem calltK_pure {f : FuncId} {as' : List AV} {ts : List T} {res : T} {K : T → Prop} (h : PureCalls Tryz.prog Γ f ts res) (ht : optAll (as'.map toT) = some ts) (hk : K res) : calltK Tryz.prog Γ f as' K ⟨⟩ := ⟨ts, res, ht, .inl h, hk⟩
theorem encN_set {α : Type} {f : α → List T} {l : List α} {n : Nat} {x : α} : (encN f l).set n (f x) = encN f (l.set n x) := by simp [encN, List.map_set]
theorem gN {l : List Nd} {i : Nat} (h : i < l.length) : (encN tNd l)[i]?.getD [] = tNd (l.getD i Nd.d) := by
  rw [encN_get Nd.d h]; rfl

def cpNd (x : Nd) : Nd := ⟨x.k, cpS x.inn, x.mem, x.bit⟩
def cpL : Nat → Nat → List Nd → List Nd
  | 0, _, L => L
  | k + 1, i, L => cpL k (i + 1) (L.set i (cpNd (L.getD i Nd.d)))
theorem cpL_eq : ∀ (k i : Nat) (L : List Nd), i + k = L.length → cpL k i L = L.take i ++ (L.drop i).map cpNd
  | 0, i, L, h => by rw [List.drop_of_length_le (by omega), List.take_of_length_le (by omega)]; simp [cpL]
  | k + 1, i, L, h => by
    have hi : i < L.length := by omega
    simp only [cpL]
    rw [cpL_eq k (i + 1) _ (by simp; omega), List.drop_eq_getElem_cons hi]
    have e : L.getD i Nd.d = L[i] := by simp [List.getD_eq_getElem?_getD, hi]
    rw [e]
    have h1 : (L.set i (cpNd L[i])).take (i + 1) = L.take i ++ [cpNd L[i]] := by
      rw [List.take_add_one, List.take_set_of_le (Nat.le_refl i)]
      simp [hi]
    rw [h1, List.drop_set_of_lt (by omega), List.map_cons, List.append_assoc]
    rfl

def cpH (n : Nat) (nm mm oo : T) (L : List Nd) : List (Nat × Reg) :=
  [(2, .bx [.t (.sl [] (some 0) (some true)), .t (.sl [] (some 0) (some true)), .t (.sl [] (some 0) (some true)), .t (.sl [] (some 0) (some true))]), (3, .bx [.ls 14007 0 n (some n), .t nm, .t mm, .t oo]), (14007, .sl 104 4 (encN tNd L))]

theorem copy_loop {Q : AX → St → Prop} (n : Nat) (hn : n ≤ 1000000) (nm mm oo : T) (R : List Nd)
    (h0 : Q (.exit 0) ⟨[(2, .lp 2 0 0), (3, .lp 3 0 0), (22, .ls 14007 0 n (some n)), (23, .t (tI n)), (24, .t (tI n)), (25, .t (tB false))], cpH n nm mm oo R⟩) :
    ∀ (k i : Nat) (L : List Nd), k + i = n → L.length = n → (∀ j, i ≤ j → j < n → SlOk (L.getD j Nd.d).inn) → cpL k i L = R →
    run Tryz.prog Γ netlists_Copy_l1 Q ⟨[(2, .lp 2 0 0), (3, .lp 3 0 0), (22, .ls 14007 0 n (some n)), (23, .t (tI n)), (24, .t (tI i))], cpH n nm mm oo L⟩
  | 0, i, L, h, hl, hs, hR => by
    refine netlists_Copy_l1_run fun K hK => ?_
    have h3 : i = n := by omega
    subst h3
    simp only [cpL] at hR
    subst hR
    simp [cpH]
    simpa [cpH] using h0
  | k + 1, i, L, h, hl, hs, hR => by
    refine netlists_Copy_l1_run fun K hK => ?_
    have h2 : i < n := by omega
    have hi : i < L.length := by omega
    simp only [cpL] at hR
    have e := gN hi
    have hx : SlOk (L.getD i Nd.d).inn := hs i (Nat.le_refl i) h2
    have e1 := copied_int_spec (Γ := Γ) _ hx
    have ih := copy_loop n hn nm mm oo R h0 k (i + 1) (L.set i (cpNd (L.getD i Nd.d))) (by omega) (by simp [hl]) (fun j hj hjn => by
      have : (L.set i (cpNd (L.getD i Nd.d))).getD j Nd.d = L.getD j Nd.d := by
        rw [List.getD_eq_getElem?_getD, List.getElem?_set, if_neg (by omega), ← List.getD_eq_getElem?_getD]
      rw [this]
      exact hs j (by omega) hjn) hR
    generalize L.getD i Nd.d = x at *
    have e' : ∀ h : i < (encN tNd L).length, (encN tNd L)[i] = tNd x := fun h => by rw [← e]; simp [hi, encN_len]
    have hset : (encN tNd L).set i [tK x.k, tSl (cpS x.inn), tI x.mem, tI x.bit] = encN tNd (L.set i (cpNd x)) := encN_set (f := tNd) (x := cpNd x)
    simp only [tSl] at e1 hset
    simp (disch := omega) [cpH, h2, encN_len, tNd_wid, e, e', hl, wrap_i64, tNd, tSl]
    refine calltK_pure e1 rfl ?_
    simp (disch := omega) [cpH, h2, hi, encN_len, tNd_wid, e, e', hl, wrap_i64, tNd, tSl, hset]
    rw [hK]
    simpa [cpH] using ih

def copyC (c : Cir) : Cir := ⟨⟨c.nodes.l.map cpNd, some c.nodes.l.length, none⟩, ⟨c.names.l, some c.names.l.length, none⟩, ⟨[], some 0, some true⟩, cpS c.outs⟩

/-- A circuit that can be copied: without memories, and what is empty is nil. -/
structure CpOk (c : Cir) : Prop where
  n0 : c.nodes.l ≠ []
  n1 : c.nodes.l.length ≤ 1000000
  nn : c.nodes.nl = none
  m0 : c.names.l ≠ []
  m1 : c.names.l.length ≤ 1000000
  mn : c.names.nl = none
  mems : c.mems = ⟨[], some 0, some true⟩
  inn : ∀ x ∈ c.nodes.l, SlOk x.inn
  outs : SlOk c.outs

theorem copy_spec (c : Cir) (hc : CpOk c) : PureCalls Tryz.prog Γ 83 [.agg (tC c)] (.agg (tC (copyC c))) := by
  refine run_pureQ netlists_Copy_chk rfl ?_
  have e1 := copied_nodes_h (Γ := Γ) c.nodes.l c.nodes.cap hc.n0 hc.n1
  have e2 := copied_names_spec (Γ := Γ) c.names.l c.names.cap hc.m0 hc.m1
  have e3 := copied_mems_nil (Γ := Γ)
  have e4 := copied_int_spec (Γ := Γ) c.outs hc.outs
  have hcp : cpL c.nodes.l.length 0 c.nodes.l = c.nodes.l.map cpNd := by rw [cpL_eq _ _ _ (by omega)]; simp
  have hn1 := hc.n1
  have g1 := fun Q nm mm oo h0 => copy_loop (Γ := Γ) (Q := Q) c.nodes.l.length hc.n1 nm mm oo _ h0 c.nodes.l.length 0 c.nodes.l (by omega) rfl (fun j _ hj => hc.inn _ (by rw [List.getD_eq_getElem?_getD, List.getElem?_eq_getElem hj]; exact List.getElem_mem hj)) hcp
  have hml : (encN tNd (c.nodes.l.map cpNd)).take c.nodes.l.length = encN tNd (c.nodes.l.map cpNd) := List.take_of_length_le (by simp [encN])
  simp [netlists_Copy_ic, tC, tNodes, tNames, tMems, tSl, hc.mems, hc.nn, hc.mn]
  refine ⟨_, _, e1, ?_⟩
  simp
  refine calltK_pure e2 rfl ?_
  simp
  refine calltK_pure e3 rfl ?_
  simp
  simp [tSl] at e4
  refine calltK_pure e4 rfl ?_
  simp
  simp [cpH] at g1
  refine g1 _ _ _ _ ?_
  simp [St.freeze, Reg.closed, frzRef, frz1, frz0, frzReg, del, reify, hml]
  refine netlists_Copy_l3_run fun K hK => ?_
  simp [netlists_Copy_rv, copyC, encN_len, enc1_nil, show encN tMm [] = [] from rfl]
end Go.Lg

/- The builder's add, for each state that it is called in. Conditions: none. -/
set_option linter.unusedSimpArgs false
set_option linter.unusedVariables false
set_option maxRecDepth 100000
namespace Go.Lg
open Go Go.Proofs
variable {Γ : Tables}

theorem add_tt (seen : List (List UInt8)) (nodes : List Nd) (names : List (List UInt8)) (ol : List Int) (oc : Option Nat) (on : Option Bool) (x : Nd) (nm : List UInt8) (hn : nodes.length ≤ 1000000) (hm : names.length ≤ 1000000) (hs : nm ∉ seen) (hl : nm.length ≤ 32) :
    HCalls Tryz.prog Γ 84 [(1000000, .mp (seenM seen)), (1000001, .bx [.t (.sl (encN tNd nodes) (some nodes.length) none), .t (.sl (enc1 tS names) (some names.length) none), .t (.sl [] (some 0) (some true)), .t (.sl (ints ol) oc on), .lm 1000000, .t (tB false)])] [.lp 1000001 0 0, .ag ((tNd x).map .t), .t (tS nm)] (.t (tI nodes.length))
      [(40, .sl 104 4 (encN tNd (nodes ++ [x]))), (52, .sl 9 1 (enc1 tS (names ++ [nm]))), (1000000, .mp (seenM (seen ++ [nm]))), (1000001, .bx [.ls 40 0 (nodes.length + 1) none, .ls 52 0 (names.length + 1) none, .t (.sl [] (some 0) (some true)), .t (.sl (ints ol) oc on), .lm 1000000, .t (tB false)])] := by
  refine run_handQ scans_builder_add_chk rfl ?_
  have q1 : encN tNd nodes ++ [[tK x.k, .sl (ints x.inn.l) x.inn.cap x.inn.nl, tI x.mem, tI x.bit]] = encN tNd (nodes ++ [x]) := encN_snoc (f := tNd) (x := x)
  have q2 : enc1 tS names ++ [[.v (sV nm)]] = enc1 tS (names ++ [nm]) := enc1_snoc
  have w1 : wid 4 [[tK x.k, .sl (ints x.inn.l) x.inn.cap x.inn.nl, tI x.mem, tI x.bit]] := by intro e he; simp at he; subst he; rfl
  have w2 : wid 1 [[T.v (sV nm)]] := by intro e he; simp at he; subst he; rfl
  have t1 : (encN tNd nodes).take nodes.length = encN tNd nodes := encN_take_len
  have t2 : (enc1 tS names).take names.length = enc1 tS names := enc1_take_len
  have f1 := seenM_find nm seen
  rw [if_neg hs] at f1
  have f2 := seenM_set nm seen hs
  have f3 := seenM_fit seen
  have h32 : ¬ 32 < nm.length := by omega
  have h32' : ¬ (32 : Int) < nm.length := by omega
  have hfit : KT.str.fits (sV nm) = true := rfl
  simp only [sV] at q2 w2 f1 f2 hfit
  simp [scans_builder_add_ic, tNd, tSl, tS, sV]
  refine scans_builder_add_l1_run fun K hK => ?_
  simp (maxSteps := 1000000) (disch := omega) [f1, f2, f3, hfit, h32, h32', q1, q2, w1, w2, t1, t2, encN_len, enc1_len, tNd_wid, enc1_wid, wrap_i64]
  simp (disch := omega) [scans_builder_add_rv, wrap_i64, hn, hm]
  omega

theorem add_rt (seen : List (List UInt8)) (nodes : List Nd) (names : List (List UInt8)) (ol : List Int) (oc : Option Nat) (on : Option Bool) (x : Nd) (nm : List UInt8) (hn : nodes.length ≤ 1000000) (hm : names.length ≤ 1000000) (hs : nm ∉ seen) (hl : nm.length ≤ 32) :
    HCalls Tryz.prog Γ 84 [(1000000, .mp (seenM seen)), (1000001, .bx [.ls 1000003 0 nodes.length none, .ls 1000004 0 names.length none, .t (.sl [] (some 0) (some true)), .t (.sl (ints ol) oc on), .lm 1000000, .t (tB false)]), (1000003, .sl 104 4 (encN tNd nodes)), (1000004, .sl 9 1 (enc1 tS names))] [.lp 1000001 0 0, .ag ((tNd x).map .t), .t (tS nm)] (.t (tI nodes.length))
      [(40, .sl 104 4 (encN tNd (nodes ++ [x]))), (52, .sl 9 1 (enc1 tS (names ++ [nm]))), (1000000, .mp (seenM (seen ++ [nm]))), (1000001, .bx [.ls 40 0 (nodes.length + 1) none, .ls 52 0 (names.length + 1) none, .t (.sl [] (some 0) (some true)), .t (.sl (ints ol) oc on), .lm 1000000, .t (tB false)])] := by
  refine run_handQ scans_builder_add_chk rfl ?_
  have q1 : encN tNd nodes ++ [[tK x.k, .sl (ints x.inn.l) x.inn.cap x.inn.nl, tI x.mem, tI x.bit]] = encN tNd (nodes ++ [x]) := encN_snoc (f := tNd) (x := x)
  have q2 : enc1 tS names ++ [[.v (sV nm)]] = enc1 tS (names ++ [nm]) := enc1_snoc
  have w1 : wid 4 [[tK x.k, .sl (ints x.inn.l) x.inn.cap x.inn.nl, tI x.mem, tI x.bit]] := by intro e he; simp at he; subst he; rfl
  have w2 : wid 1 [[T.v (sV nm)]] := by intro e he; simp at he; subst he; rfl
  have t1 : (encN tNd nodes).take nodes.length = encN tNd nodes := encN_take_len
  have t2 : (enc1 tS names).take names.length = enc1 tS names := enc1_take_len
  have f1 := seenM_find nm seen
  rw [if_neg hs] at f1
  have f2 := seenM_set nm seen hs
  have f3 := seenM_fit seen
  have h32 : ¬ 32 < nm.length := by omega
  have h32' : ¬ (32 : Int) < nm.length := by omega
  have hfit : KT.str.fits (sV nm) = true := rfl
  simp only [sV] at q2 w2 f1 f2 hfit
  simp [scans_builder_add_ic, tNd, tSl, tS, sV]
  refine scans_builder_add_l1_run fun K hK => ?_
  simp (maxSteps := 1000000) (disch := omega) [f1, f2, f3, hfit, h32, h32', q1, q2, w1, w2, t1, t2, encN_len, enc1_len, tNd_wid, enc1_wid, wrap_i64]
  simp (disch := omega) [scans_builder_add_rv, wrap_i64, hn, hm]
  omega

theorem add_rr (seen : List (List UInt8)) (nodes : List Nd) (names : List (List UInt8)) (ol : List Int) (x : Nd) (nm : List UInt8) (hn : nodes.length ≤ 1000000) (hm : names.length ≤ 1000000) (hs : nm ∉ seen) (hl : nm.length ≤ 32) :
    HCalls Tryz.prog Γ 84 [(1000000, .mp (seenM seen)), (1000001, .bx [.ls 1000003 0 nodes.length none, .ls 1000004 0 names.length none, .t (.sl [] (some 0) (some true)), .ls 1000002 0 ol.length none, .lm 1000000, .t (tB false)]), (1000002, .sl 3 1 (ints ol)), (1000003, .sl 104 4 (encN tNd nodes)), (1000004, .sl 9 1 (enc1 tS names))] [.lp 1000001 0 0, .ag ((tNd x).map .t), .t (tS nm)] (.t (tI nodes.length))
      [(40, .sl 104 4 (encN tNd (nodes ++ [x]))), (52, .sl 9 1 (enc1 tS (names ++ [nm]))), (1000000, .mp (seenM (seen ++ [nm]))), (1000001, .bx [.ls 40 0 (nodes.length + 1) none, .ls 52 0 (names.length + 1) none, .t (.sl [] (some 0) (some true)), .ls 1000002 0 ol.length none, .lm 1000000, .t (tB false)]), (1000002, .sl 3 1 (ints ol))] := by
  refine run_handQ scans_builder_add_chk rfl ?_
  have q1 : encN tNd nodes ++ [[tK x.k, .sl (ints x.inn.l) x.inn.cap x.inn.nl, tI x.mem, tI x.bit]] = encN tNd (nodes ++ [x]) := encN_snoc (f := tNd) (x := x)
  have q2 : enc1 tS names ++ [[.v (sV nm)]] = enc1 tS (names ++ [nm]) := enc1_snoc
  have w1 : wid 4 [[tK x.k, .sl (ints x.inn.l) x.inn.cap x.inn.nl, tI x.mem, tI x.bit]] := by intro e he; simp at he; subst he; rfl
  have w2 : wid 1 [[T.v (sV nm)]] := by intro e he; simp at he; subst he; rfl
  have t1 : (encN tNd nodes).take nodes.length = encN tNd nodes := encN_take_len
  have t2 : (enc1 tS names).take names.length = enc1 tS names := enc1_take_len
  have f1 := seenM_find nm seen
  rw [if_neg hs] at f1
  have f2 := seenM_set nm seen hs
  have f3 := seenM_fit seen
  have h32 : ¬ 32 < nm.length := by omega
  have h32' : ¬ (32 : Int) < nm.length := by omega
  have hfit : KT.str.fits (sV nm) = true := rfl
  simp only [sV] at q2 w2 f1 f2 hfit
  simp [scans_builder_add_ic, tNd, tSl, tS, sV]
  refine scans_builder_add_l1_run fun K hK => ?_
  simp (maxSteps := 1000000) (disch := omega) [f1, f2, f3, hfit, h32, h32', q1, q2, w1, w2, t1, t2, encN_len, enc1_len, tNd_wid, enc1_wid, wrap_i64]
  simp (disch := omega) [scans_builder_add_rv, wrap_i64, hn, hm]
  omega
end Go.Lg

/- scans.Insert: the loops over the names and along a chain. Conditions: none. -/
set_option linter.unusedSimpArgs false
set_option linter.unusedVariables false
set_option maxRecDepth 100000
namespace Go.Lg
open Go Go.Proofs
variable {Γ : Tables}

/-- A map from int to int. -/
def befM (l : List (Int × Int)) : List (Value × T) := l.map fun p => (.int .i64 p.1, tI p.2)
def befOf (l : List (Int × Int)) (n : Int) : Int := match l.find? (fun p => p.1 == n) with | some p => p.2 | none => 0
theorem befM_fit (l : List (Int × Int)) : keysFit (.int .i64) (befM l) := by
  intro e he; obtain ⟨s, _, rfl⟩ := List.mem_map.1 he; rfl
theorem befM_find (n : Int) : ∀ l : List (Int × Int), (findM (.int .i64 n) (befM l)).getD (tI 0) = tI (befOf l n)
  | [] => rfl
  | (a, p) :: l => by
    have ih := befM_find n l
    simp only [befM, befOf, List.map_cons, findM, keyEq, List.find?_cons] at ih ⊢
    by_cases h : n = a
    · simp [h]
    · have h' : ¬ a = n := fun e => h e.symm
      simp [h, h', ih]
theorem befM_set (n a : Int) : ∀ l : List (Int × Int), n ∉ l.map (·.1) → setM (.int .i64 n) (tI a) (befM l) = befM (l ++ [(n, a)])
  | [], _ => rfl
  | (b, p) :: l, h => by
    have ih := befM_set n a l (fun hm => h (by simp only [List.map_cons, List.mem_cons]; exact .inr hm))
    have hne : n ≠ b := fun e => h (by simp [e])
    simp only [befM, List.map_cons, setM, keyEq, List.cons_append] at ih ⊢
    simp [hne, ih]

def prevs : Int → List Int → List (Int × Int)
  | _, [] => []
  | a, n :: l => (n, a) :: prevs n l
def lastC : Int → List Int → Int
  | a, [] => a
  | _, n :: l => lastC n l
theorem prevs_keys : ∀ (l : List Int) (a : Int), (prevs a l).map (·.1) = l
  | [], _ => rfl
  | n :: l, a => by simp only [prevs, List.map_cons, prevs_keys l n]

def nilT : T := .sl [] (some 0) (some true)
def Z8 : List AV := [.t nilT, .t nilT, .t nilT, .t nilT, .t nilT, .t (tI 0), .t nilT, .t nilT]

theorem gi1 {f : Int → T} {l : List Int} {i : Nat} (hi : i < l.length) : (enc1 f l)[i]?.getD [] = [f (l.getD i 0)] := by
  rw [enc1_get 0 hi]; rfl
theorem ins_l1 {Q : AX → St → Prop} (t1 t7 : T) (c : Cir) (names : Sl (List UInt8)) (hl : names.l.length ≤ 1000000) (hnd : names.l.Nodup) (N M O : T)
    (h0 : Q (.exit 0) ⟨[(1, .t t1), (2, .t (.ip (tC c) 0)), (4, .lp 4 0 0), (7, .t t7), (8, .lp 46 0 0), (48, .t (tNames names)), (49, .t (tI names.l.length)), (50, .t (tI names.l.length)), (51, .t (tB false))], [(4, .bx Z8), (44, .mp (seenM names.l)), (46, .bx [.t N, .t M, .t nilT, .t O, .lm 44, .t (tB false)])]⟩) :
    ∀ (k i : Nat), k + i = names.l.length →
    run Tryz.prog Γ scans_Insert_l1 Q ⟨[(1, .t t1), (2, .t (.ip (tC c) 0)), (4, .lp 4 0 0), (7, .t t7), (8, .lp 46 0 0), (48, .t (tNames names)), (49, .t (tI names.l.length)), (50, .t (tI i))], [(4, .bx Z8), (44, .mp (seenM (names.l.take i))), (46, .bx [.t N, .t M, .t nilT, .t O, .lm 44, .t (tB false)])]⟩
  | 0, i, h => by
    refine scans_Insert_l1_run fun K hK => ?_
    have h3 : i = names.l.length := by omega
    subst h3
    rw [List.take_of_length_le (Nat.le_refl _)]
    simp [Z8]
    simpa [Z8] using h0
  | k + 1, i, h => by
    refine scans_Insert_l1_run fun K hK => ?_
    have h2 : i < names.l.length := by omega
    have ih := ins_l1 t1 t7 c names hl hnd N M O h0 k (i + 1) (by omega)
    have ht : names.l.take (i + 1) = names.l.take i ++ [names.l[i]] := by rw [List.take_add_one]; simp [h2]
    have hm : names.l[i] ∉ names.l.take i := fun hm => by
      obtain ⟨j, hj, e⟩ := List.getElem_of_mem hm
      simp at hj e
      have hji : j < i := by omega
      exact List.pairwise_iff_getElem.1 (List.nodup_iff_pairwise_ne.1 hnd) j i (by omega) h2 hji e
    have e := enc1_get (f := tS) [] h2
    have e2 : names.l[i]?.getD [] = names.l[i] := by simp [h2]
    rw [e2] at e
    rw [ht] at ih
    generalize names.l[i] = x at *
    have e' : ∀ h : i < (enc1 tS names.l).length, (enc1 tS names.l)[i] = [tS x] := fun h => by rw [← e]; simp [h]
    have f2 := seenM_set x _ hm
    have f3 := seenM_fit (names.l.take i)
    have hfit : KT.str.fits (sV x) = true := rfl
    simp only [tS, sV] at e e' f2 hfit
    simp [h2, tNames, enc1_len, enc1_wid, e, e', f2, f3, hfit, Z8]
    rw [wrap_i64 (by omega) (by omega), hK]
    simpa [tNames, Z8] using ih

def i3E (t2 t7 t65 t66 t67 t93 : T) (L : List Int) (lc : Option Nat) (ln : Option Bool) (last : Int) (i : Nat) : List (Nat × AV) :=
  [(2, .t t2), (4, .lp 4 0 0), (7, .t t7), (8, .lp 46 0 0), (11, .lp 11 0 0), (12, .lm 64), (15, .t (tI last)), (65, .t t65), (66, .t t66), (67, .t t67), (92, .t (.sl (ints L) lc ln)), (93, .t t93), (94, .t (tI i))]
def i3H (r11 r44 r46 r78 r90 r157 rN rM : Reg) (bef : List (Int × Int)) : List (Nat × Reg) :=
  [(4, .bx Z8), (11, r11), (44, r44), (46, r46), (64, .mp (befM bef)), (78, r78), (90, r90), (157, r157), (62040, rN), (62052, rM)]

theorem ins_l3 {Q : AX → St → Prop} (t2 t7 t65 t66 t67 : T) (r11 r44 r46 r78 r90 r157 rN rM : Reg) (L : List Int) (hL : L.length ≤ 1000000) (lc : Option Nat) (ln : Option Bool) (hnd : L.Nodup) (R : List (Int × Int)) (z : Int)
    (h0 : Q (.exit 4) ⟨i3E t2 t7 t65 t66 t67 (tI L.length) L lc ln z L.length ++ [(95, .t (tB false))], i3H r11 r44 r46 r78 r90 r157 rN rM R⟩) :
    ∀ (k i : Nat) (last : Int) (bef : List (Int × Int)), k + i = L.length → (∀ n ∈ L.drop i, n ∉ bef.map (·.1)) → bef ++ prevs last (L.drop i) = R → lastC last (L.drop i) = z →
    run Tryz.prog Γ scans_Insert_l3 Q ⟨i3E t2 t7 t65 t66 t67 (tI L.length) L lc ln last i, i3H r11 r44 r46 r78 r90 r157 rN rM bef⟩
  | 0, i, last, bef, h, hk, hR, hz => by
    refine scans_Insert_l3_run fun K hK => ?_
    have h3 : i = L.length := by omega
    subst h3
    rw [List.drop_of_length_le (Nat.le_refl _)] at hR hz
    simp only [prevs, lastC, List.append_nil] at hR hz
    subst hR; subst hz
    simp [i3E, i3H, Z8]
    simpa [i3E, i3H, Z8] using h0
  | k + 1, i, last, bef, h, hk, hR, hz => by
    refine scans_Insert_l3_run fun K hK => ?_
    have h2 : i < L.length := by omega
    have e := gi1 (f := tI) h2
    rw [getD_eq h2] at e
    have hd : L.drop (i + 1) = (L.drop i).tail := by simp
    rw [List.drop_eq_getElem_cons h2] at hR hz hk
    have hxm := List.pairwise_iff_getElem.1 (List.nodup_iff_pairwise_ne.1 hnd)
    have hnx : ∀ n ∈ L.drop (i + 1), n ≠ L[i] := fun n hn e => by
      obtain ⟨j, hj, rfl⟩ := List.getElem_of_mem hn
      simp at hj e
      exact hxm i (i + 1 + j) h2 (by omega) (by omega) e.symm
    generalize L[i] = x at *
    simp only [prevs, lastC] at hR hz
    have hx : x ∉ bef.map (·.1) := hk x List.mem_cons_self
    have ih := ins_l3 t2 t7 t65 t66 t67 r11 r44 r46 r78 r90 r157 rN rM L hL lc ln hnd R z h0 k (i + 1) x (bef ++ [(x, last)]) (by omega) (fun n hn => by
      rw [List.map_append, List.mem_append]
      rintro (h | h)
      · exact hk n (List.mem_cons_of_mem _ hn) h
      · simp at h; exact hnx n hn h) (by rw [List.append_assoc]; exact hR) hz
    have f2 := befM_set x last bef hx
    have f3 := befM_fit bef
    have hfit : (KT.int .i64).fits (.int .i64 x) = true := rfl
    have e' : ∀ h : i < (ints L).length, (ints L)[i] = [tI x] := fun h => by rw [← e]; simp [h]
    simp only [i3E, i3H] at ih ⊢
    simp [h2, enc1_len, enc1_wid, e, e', f2, f3, hfit]
    rw [wrap_i64 (by omega) (by omega), hK]
    simpa using ih
end Go.Lg

/- scans.Insert: the loop along a chain, with outputs of its own. Conditions: none. -/
set_option linter.unusedSimpArgs false
set_option linter.unusedVariables false
set_option maxRecDepth 100000
namespace Go.Lg
open Go Go.Proofs
variable {Γ : Tables}

def i3G (r11 r44 r46 r78 r90 r111 r157 rN rM : Reg) (bef : List (Int × Int)) : List (Nat × Reg) :=
  [(4, .bx Z8), (11, r11), (44, r44), (46, r46), (64, .mp (befM bef)), (78, r78), (90, r90), (111, r111), (157, r157), (62040, rN), (62052, rM)]

theorem ins_m3 {Q : AX → St → Prop} (t2 t7 t65 t66 t67 : T) (r11 r44 r46 r78 r90 r111 r157 rN rM : Reg) (L : List Int) (hL : L.length ≤ 1000000) (lc : Option Nat) (ln : Option Bool) (hnd : L.Nodup) (R : List (Int × Int)) (z : Int)
    (h0 : Q (.exit 4) ⟨i3E t2 t7 t65 t66 t67 (tI L.length) L lc ln z L.length ++ [(95, .t (tB false))], i3G r11 r44 r46 r78 r90 r111 r157 rN rM R⟩) :
    ∀ (k i : Nat) (last : Int) (bef : List (Int × Int)), k + i = L.length → (∀ n ∈ L.drop i, n ∉ bef.map (·.1)) → bef ++ prevs last (L.drop i) = R → lastC last (L.drop i) = z →
    run Tryz.prog Γ scans_Insert_l3 Q ⟨i3E t2 t7 t65 t66 t67 (tI L.length) L lc ln last i, i3G r11 r44 r46 r78 r90 r111 r157 rN rM bef⟩
  | 0, i, last, bef, h, hk, hR, hz => by
    refine scans_Insert_l3_run fun K hK => ?_
    have h3 : i = L.length := by omega
    subst h3
    rw [List.drop_of_length_le (Nat.le_refl _)] at hR hz
    simp only [prevs, lastC, List.append_nil] at hR hz
    subst hR; subst hz
    simp [i3E, i3G, Z8]
    simpa [i3E, i3G, Z8] using h0
  | k + 1, i, last, bef, h, hk, hR, hz => by
    refine scans_Insert_l3_run fun K hK => ?_
    have h2 : i < L.length := by omega
    have e := gi1 (f := tI) h2
    rw [getD_eq h2] at e
    have hd : L.drop (i + 1) = (L.drop i).tail := by simp
    rw [List.drop_eq_getElem_cons h2] at hR hz hk
    have hxm := List.pairwise_iff_getElem.1 (List.nodup_iff_pairwise_ne.1 hnd)
    have hnx : ∀ n ∈ L.drop (i + 1), n ≠ L[i] := fun n hn e => by
      obtain ⟨j, hj, rfl⟩ := List.getElem_of_mem hn
      simp at hj e
      exact hxm i (i + 1 + j) h2 (by omega) (by omega) e.symm
    generalize L[i] = x at *
    simp only [prevs, lastC] at hR hz
    have hx : x ∉ bef.map (·.1) := hk x List.mem_cons_self
    have ih := ins_m3 t2 t7 t65 t66 t67 r11 r44 r46 r78 r90 r111 r157 rN rM L hL lc ln hnd R z h0 k (i + 1) x (bef ++ [(x, last)]) (by omega) (fun n hn => by
      rw [List.map_append, List.mem_append]
      rintro (h | h)
      · exact hk n (List.mem_cons_of_mem _ hn) h
      · simp at h; exact hnx n hn h) (by rw [List.append_assoc]; exact hR) hz
    have f2 := befM_set x last bef hx
    have f3 := befM_fit bef
    have hfit : (KT.int .i64).fits (.int .i64 x) = true := rfl
    have e' : ∀ h : i < (ints L).length, (ints L)[i] = [tI x] := fun h => by rw [← e]; simp [h]
    simp only [i3E, i3G] at ih ⊢
    simp [h2, enc1_len, enc1_wid, e, e', f2, f3, hfit]
    rw [wrap_i64 (by omega) (by omega), hK]
    simpa using ih
end Go.Lg

/- scans.Insert: the loop over the chains. Conditions: none. -/
set_option linter.unusedSimpArgs false
set_option linter.unusedVariables false
set_option maxRecDepth 100000
namespace Go.Lg
open Go Go.Proofs
variable {Γ : Tables}

structure IS where
  nodes : List Nd
  names : List (List UInt8)
  cl : List (Sl Int)
  ins : List Int
  bef : List (Int × Int)
  outs : List Int
def siN (i : Nat) : List UInt8 := [115, 105] ++ itoaL i
def smN (i : Nat) : List UInt8 := [115, 109] ++ itoaL i
def stepCh (i : Nat) (s : Sl Int) (S : IS) : IS :=
  ⟨S.nodes ++ [inpN], S.names ++ [siN i], S.cl ++ [⟨s.l, some s.l.length, none⟩], S.ins ++ [(S.nodes.length : Int)], S.bef ++ prevs S.nodes.length s.l, S.outs ++ [lastC S.nodes.length s.l]⟩
def goCh : Nat → List (Sl Int) → IS → IS
  | _, [], S => S
  | i, s :: l, S => goCh (i + 1) l (stepCh i s S)
structure ISz (S : IS) : Prop where
  nodes : S.nodes.length ≤ 100000
  names : S.names.length ≤ 100000
  cl : S.cl.length ≤ 100000
  ins : S.ins.length ≤ 100000
  outs : S.outs.length ≤ 100000
structure ChOne (i : Nat) (s : Sl Int) (S : IS) : Prop where
  z : ISz S
  nm : siN i ∉ S.names
  i100 : i < 100
  ne : s.l ≠ []
  nl : s.nl ≠ some true
  len : s.l.length ≤ 1000000
  nd : s.l.Nodup
  key : ∀ n ∈ s.l, n ∉ S.bef.map (·.1)
def okCh : Nat → List (Sl Int) → IS → Prop
  | _, [], S => True
  | i, s :: l, S => ChOne i s S ∧ okCh (i + 1) l (stepCh i s S)

theorem wid1s {t : T} : wid 1 [[t]] = True := eq_true (by intro e he; simp at he; subst he; rfl)
theorem ba_cat (a b : List UInt8) : ByteArray.mk a.toArray ++ ByteArray.mk b.toArray = ByteArray.mk (a ++ b).toArray := by
  ext1; simp [ByteArray.data_append]
theorem siN_len {i : Nat} : (siN i).length ≤ 32 := by unfold siN itoaL; split <;> simp
theorem smN_len {i : Nat} : (smN i).length ≤ 32 := by unfold smN itoaL; split <;> simp

def i6E (c : Cir) (t7 : T) (chs : Sl (Sl Int)) (i : Nat) : List (Nat × AV) :=
  [(2, .t (.ip (tC c) 0)), (4, .lp 4 0 0), (7, .t t7), (8, .lp 46 0 0), (11, .lp 11 0 0), (12, .lm 64), (65, .t (.sl (enc1 tSl chs.l) chs.cap chs.nl)), (66, .t (tI chs.l.length)), (67, .t (tI i))]
def r11 (en : Int) (i : Nat) (k : Nat) : Reg := .bx [.t nilT, .t nilT, .t nilT, .t nilT, .ls 78 0 i none, .t (tI en), .ls 90 0 i none, .ls 157 0 k none]
def r46 (n m : Nat) (O : AV) : Reg := .bx [.ls 62040 0 n none, .ls 62052 0 m none, .t nilT, O, .lm 44, .t (tB false)]
def i6R (en : Int) (S : IS) : List (Nat × Reg) :=
  i3G (r11 en S.cl.length 0) (.mp (seenM S.names)) (r46 S.nodes.length S.names.length (.ls 111 0 S.outs.length none)) (.sl 33 1 (enc1 tSl S.cl)) (.sl 3 1 (ints S.ins)) (.sl 3 1 (ints S.outs)) (.sl 3 1 []) (.sl 104 4 (encN tNd S.nodes)) (.sl 9 1 (enc1 tS S.names)) S.bef
def i6T (en : Int) (ol : List Int) (oc : Option Nat) (on : Option Bool) (S : IS) : List (Nat × Reg) :=
  i3H (r11 en S.cl.length 0) (.mp (seenM S.names)) (r46 S.nodes.length S.names.length (.t (.sl (ints ol) oc on))) (.sl 33 1 (enc1 tSl S.cl)) (.sl 3 1 (ints S.ins)) (.sl 3 1 []) (.sl 104 4 (encN tNd S.nodes)) (.sl 9 1 (enc1 tS S.names)) S.bef

set_option maxHeartbeats 2000000 in
theorem ins_l5 {Q : AX → St → Prop} (c : Cir) (t7 : T) (chs : Sl (Sl Int)) (hcl : chs.l.length ≤ 100) (en : Int) (R : IS)
    (h0 : Q (.exit 2) ⟨i6E c t7 chs chs.l.length ++ [(68, .t (tB false))], i6R en R⟩) :
    ∀ (k i : Nat) (S : IS), k + i = chs.l.length → S.ins.length = S.cl.length → okCh i (chs.l.drop i) S → goCh i (chs.l.drop i) S = R →
    run Tryz.prog Γ scans_Insert_l5 Q ⟨i6E c t7 chs i, i6R en S⟩
  | 0, i, S, h, hic, hk, hR => by
    refine scans_Insert_l5_run fun K hK => ?_
    have h3 : i = chs.l.length := by omega
    subst h3
    rw [List.drop_of_length_le (Nat.le_refl _)] at hR
    simp only [goCh] at hR
    subst hR
    simp [i6E, i6R, i3G, Z8]
    simpa [i6E, i6R, i3G, Z8] using h0
  | k + 1, i, S, h, hic, hk, hR => by
    refine scans_Insert_l5_run fun K hK => ?_
    have h2 : i < chs.l.length := by omega
    rw [List.drop_eq_getElem_cons h2] at hR hk
    have e := enc1_get (f := tSl) ⟨[], none, none⟩ h2
    have e2 : chs.l[i]?.getD ⟨[], none, none⟩ = chs.l[i] := by simp [h2]
    rw [e2] at e
    generalize chs.l[i] = s at *
    obtain ⟨h1, h5⟩ := hk
    simp only [goCh] at hR
    have ih := ins_l5 c t7 chs hcl en R h0 k (i + 1) (stepCh i s S) (by omega) (by simp [stepCh, hic]) h5 hR
    have e' : ∀ h : i < (enc1 tSl chs.l).length, (enc1 tSl chs.l)[i] = [tSl s] := fun h => by rw [← e]; simp [h]
    have hz := h1.z
    have hso : SlOk s := ⟨fun h => absurd h h1.nl, fun _ => h1.ne, h1.len⟩
    have c1 := clone_int_a (Γ := Γ) s hso
    rw [if_neg h1.nl] at c1
    have c2 := clip_int (Γ := Γ) (ints s.l) none none enc1_wid
    have c3 := itoa_spec (Γ := Γ) i h1.i100
    have z1 := hz.nodes
    have z2 := hz.names
    have c4 := add_rr (Γ := Γ) S.names S.nodes S.names S.outs inpN (siN i) (by omega) (by omega) h1.nm siN_len
    have tk1 : (enc1 tSl S.cl).take S.cl.length = enc1 tSl S.cl := enc1_take_len
    have q1 : enc1 tSl S.cl ++ [[.sl (ints s.l) (some s.l.length) none]] = enc1 tSl (S.cl ++ [⟨s.l, some s.l.length, none⟩]) := enc1_snoc (f := tSl) (x := ⟨s.l, some s.l.length, none⟩)
    simp only [tSl] at c1 e e' q1
    simp [i6E, i6R, i3G, r11, r46, h2, enc1_len, enc1_wid, e, e']
    refine callK_fresh c1 rfl ?_
    simp
    refine callK_pure c2 rfl ?_
    simp [enc1_len, enc1_wid, tk1, q1, wid1s, Z8]
    have hcl2 : S.cl.length ≤ 2147483647 := by have := hz.cl; omega
    refine ⟨hcl2, ?_⟩
    refine callK_fresh c3 rfl ?_
    simp [tS, sV, ba_cat, List.idxOf_cons]
    have hil : 2 + (itoaL i).length ≤ 9223372036854775807 := by unfold itoaL; split <;> simp
    refine ⟨hil, ?_⟩
    simp [tNd, inpN, tSl, enc1_nil, tS, sV, siN] at c4
    have g3 := fun Q r11 r44 r46 r78 r90 r111 r157 rN rM h0 => ins_m3 (Γ := Γ) (Q := Q) (.ip (tC c) 0) t7 (.sl (enc1 tSl chs.l) chs.cap chs.nl) (tI chs.l.length) (tI i) r11 r44 r46 r78 r90 r111 r157 rN rM s.l h1.len s.cap s.nl h1.nd _ _ h0 s.l.length 0 S.nodes.length S.bef (by omega) h1.key rfl rfl
    simp [i3E, i3G, Z8] at g3
    have q2 : ints S.ins ++ [[tI S.nodes.length]] = ints (S.ins ++ [(S.nodes.length : Int)]) := enc1_snoc
    have tk2 : (ints S.ins).take S.cl.length = ints S.ins := by rw [← hic]; exact enc1_take_len
    have q3 : ints S.outs ++ [[tI (lastC S.nodes.length s.l)]] = ints (S.outs ++ [lastC S.nodes.length s.l]) := enc1_snoc
    have tk3 : (ints S.outs).take S.outs.length = ints S.outs := enc1_take_len
    refine ⟨_, _, c4, ?_⟩
    simp [List.idxOf_cons, renSt, wid1s, hcl2, tk2, q2, enc1_len]
    refine g3 _ _ _ _ _ _ _ _ _ _ ?_
    simp [wid1s, tk3, q3, enc1_len]
    refine ⟨by have := hz.outs; omega, ?_⟩
    rw [wrap_i64 (by omega) (by omega), hK]
    simpa [i6E, i6R, i3G, r11, r46, Z8, stepCh, nilT, inpN, siN, hic, tSl] using ih
end Go.Lg

/- scans.Insert: the loop over the chains, from its start. Conditions: none. -/
set_option linter.unusedSimpArgs false
set_option linter.unusedVariables false
set_option maxRecDepth 100000
namespace Go.Lg
open Go Go.Proofs
variable {Γ : Tables}

set_option maxHeartbeats 2000000 in
theorem ins_l5t {Q : AX → St → Prop} (c : Cir) (t7 : T) (chs : Sl (Sl Int)) (hcl : chs.l.length ≤ 100) (en : Int) (R : IS) (on : Option Bool) (S : IS)
    (h0 : chs.l ≠ [] → Q (.exit 2) ⟨i6E c t7 chs chs.l.length ++ [(68, .t (tB false))], i6R en R⟩)
    (h0t : chs.l = [] → Q (.exit 2) ⟨i6E c t7 chs 0 ++ [(68, .t (tB false))], i6T en S.outs (some S.outs.length) on S⟩)
    (hic : S.ins.length = S.cl.length) (hk : okCh 0 chs.l S) (hR : goCh 0 chs.l S = R) :
    run Tryz.prog Γ scans_Insert_l5 Q ⟨i6E c t7 chs 0, i6T en S.outs (some S.outs.length) on S⟩ := by
  by_cases hne : chs.l = []
  · have hh := h0t hne
    refine scans_Insert_l5_run fun K hK => ?_
    have hl0 : chs.l.length = 0 := by rw [hne]; rfl
    simp [i6E, i6T, i3H, Z8, hl0] at hh ⊢
    simpa [i6E, i6T, i3H, Z8] using hh
  · have h0 := h0 hne
    have hlen : 0 < chs.l.length := List.length_pos_iff.2 hne
    have step := fun S hs h1 h2 => ins_l5 (Γ := Γ) (Q := Q) c t7 chs hcl en R h0 (chs.l.length - 1) 1 S (by omega) hs h1 h2
    refine scans_Insert_l5_run fun K hK => ?_
    have hdr : chs.l = chs.l[0] :: chs.l.drop 1 := by
      have := List.drop_eq_getElem_cons hlen
      simpa using this
    rw [hdr] at hk hR
    have e := enc1_get (f := tSl) ⟨[], none, none⟩ hlen
    have e2 : chs.l[0]?.getD ⟨[], none, none⟩ = chs.l[0] := by simp [hlen]
    rw [e2] at e
    generalize chs.l[0] = s at *
    obtain ⟨h1, h5⟩ := hk
    simp only [goCh] at hR
    have ih := step (stepCh 0 s S) (by simp [stepCh, hic]) h5 hR
    have e' : ∀ h : 0 < (enc1 tSl chs.l).length, (enc1 tSl chs.l)[0] = [tSl s] := fun h => by rw [← e]; simp [h]
    have hz := h1.z
    have hso : SlOk s := ⟨fun h => absurd h h1.nl, fun _ => h1.ne, h1.len⟩
    have c1 := clone_int_a (Γ := Γ) s hso
    rw [if_neg h1.nl] at c1
    have c2 := clip_int (Γ := Γ) (ints s.l) none none enc1_wid
    have c3 := itoa_spec (Γ := Γ) 0 h1.i100
    have z1 := hz.nodes
    have z2 := hz.names
    have c4 := add_rt (Γ := Γ) S.names S.nodes S.names S.outs (some S.outs.length) on inpN (siN 0) (by omega) (by omega) h1.nm siN_len
    have tk1 : (enc1 tSl S.cl).take S.cl.length = enc1 tSl S.cl := enc1_take_len
    have q1 : enc1 tSl S.cl ++ [[.sl (ints s.l) (some s.l.length) none]] = enc1 tSl (S.cl ++ [⟨s.l, some s.l.length, none⟩]) := enc1_snoc (f := tSl) (x := ⟨s.l, some s.l.length, none⟩)
    have hlen' : chs.l.length ≠ 0 := by omega
    simp only [tSl] at c1 e e' q1
    simp [i6E, i6T, i3H, r11, r46, hlen, enc1_len, enc1_wid, e, e']
    refine callK_fresh c1 rfl ?_
    simp
    refine callK_pure c2 rfl ?_
    simp [enc1_len, enc1_wid, tk1, q1, wid1s, Z8]
    have hcl2 : S.cl.length ≤ 2147483647 := by have := hz.cl; omega
    refine ⟨hcl2, ?_⟩
    refine callK_fresh c3 rfl ?_
    simp [tS, sV, ba_cat, List.idxOf_cons]
    have hil : 2 + (itoaL 0).length ≤ 9223372036854775807 := by unfold itoaL; split <;> simp
    refine ⟨hil, ?_⟩
    simp [tNd, inpN, tSl, enc1_nil, tS, sV, siN] at c4
    have g3 := fun Q r11 r44 r46 r78 r90 r157 rN rM h0 => ins_l3 (Γ := Γ) (Q := Q) (.ip (tC c) 0) t7 (.sl (enc1 tSl chs.l) chs.cap chs.nl) (tI chs.l.length) (tI 0) r11 r44 r46 r78 r90 r157 rN rM s.l h1.len s.cap s.nl h1.nd _ _ h0 s.l.length 0 S.nodes.length S.bef (by omega) h1.key rfl rfl
    simp [i3E, i3H, Z8] at g3
    have q2 : ints S.ins ++ [[tI S.nodes.length]] = ints (S.ins ++ [(S.nodes.length : Int)]) := enc1_snoc
    have tk2 : (ints S.ins).take S.cl.length = ints S.ins := by rw [← hic]; exact enc1_take_len
    have q3 : ints S.outs ++ [[tI (lastC S.nodes.length s.l)]] = ints (S.outs ++ [lastC S.nodes.length s.l]) := enc1_snoc
    have tk3 : (ints S.outs).take S.outs.length = ints S.outs := enc1_take_len
    refine ⟨_, _, c4, ?_⟩
    simp [List.idxOf_cons, renSt, wid1s, hcl2, tk2, q2, enc1_len]
    refine g3 _ _ _ _ _ _ _ _ _ ?_
    simp [wid1s, tk3, q3, enc1_len, enc1_wid]
    refine ⟨by have := hz.outs; omega, ?_⟩
    rw [wrap_i64 (by omega) (by omega), hK]
    simpa [i6E, i6R, i3G, r11, r46, Z8, stepCh, nilT, inpN, siN, hic, tSl] using ih
end Go.Lg

/- scans.Insert: the loop over the states. Conditions: none. -/
set_option linter.unusedSimpArgs false
set_option linter.unusedVariables false
set_option maxRecDepth 100000
namespace Go.Lg
open Go Go.Proofs
variable {Γ : Tables}

structure JS where
  nodes : List Nd
  names : List (List UInt8)
  muxes : List Int
def muxN (e d b : Int) : Nd := ⟨11, ⟨[e, d, b], some 3, some false⟩, 0, 0⟩
def in0 (c : Cir) (n : Int) : Int := (innAt c n.toNat).getD 0 0
def stepSt (c : Cir) (en : Int) (bef : List (Int × Int)) (i : Nat) (n : Int) (J : JS) : JS :=
  ⟨setIn (J.nodes ++ [muxN en (in0 c n) (befOf bef n)]) n.toNat J.nodes.length, J.names ++ [smN i], J.muxes ++ [(J.nodes.length : Int)]⟩
def goSt (c : Cir) (en : Int) (bef : List (Int × Int)) : Nat → List Int → JS → JS
  | _, [], J => J
  | i, n :: l, J => goSt c en bef (i + 1) l (stepSt c en bef i n J)
structure StOne (c : Cir) (i : Nat) (n : Int) (J : JS) : Prop where
  nodes : J.nodes.length ≤ 100000
  names : J.names.length ≤ 100000
  muxes : J.muxes.length ≤ 100000
  nm : smN i ∉ J.names
  i100 : i < 100
  n0 : 0 ≤ n
  n1 : n < c.nodes.l.length
  n2 : n < J.nodes.length
  inn : innAt c n.toNat ≠ []
def okSt (c : Cir) (en : Int) (bef : List (Int × Int)) : Nat → List Int → JS → Prop
  | _, [], _ => True
  | i, n :: l, J => StOne c i n J ∧ okSt c en bef (i + 1) l (stepSt c en bef i n J)

def i8E (c : Cir) (st : List Int) (sc : Option Nat) (sn : Option Bool) (i : Nat) : List (Nat × AV) :=
  [(2, .t (.ip (tC c) 0)), (4, .lp 4 0 0), (8, .lp 46 0 0), (11, .lp 11 0 0), (12, .lm 64), (116, .t (.sl (ints st) sc sn)), (117, .t (tI st.length)), (118, .t (tI i))]
def i8R (en : Int) (S : IS) (J : JS) : List (Nat × Reg) :=
  i3G (r11 en S.cl.length J.muxes.length) (.mp (seenM J.names)) (r46 J.nodes.length J.names.length (.ls 111 0 S.outs.length none)) (.sl 33 1 (enc1 tSl S.cl)) (.sl 3 1 (ints S.ins)) (.sl 3 1 (ints S.outs)) (.sl 3 1 (ints J.muxes)) (.sl 104 4 (encN tNd J.nodes)) (.sl 9 1 (enc1 tS J.names)) S.bef

theorem nd_at {c : Cir} {n : Int} (h0 : 0 ≤ n) (h : n < c.nodes.l.length) : (encN tNd c.nodes.l)[n.toNat]?.getD [] = tNd (c.nodes.l.getD n.toNat Nd.d) := gN (by omega)

set_option maxHeartbeats 2000000 in
theorem ins_l7 {Q : AX → St → Prop} (c : Cir) (hcn : c.nodes.l.length ≤ 100000) (st : List Int) (hst : st.length ≤ 100) (sc : Option Nat) (sn : Option Bool) (en : Int) (S : IS) (R : JS)
    (h0 : Q (.exit 6) ⟨i8E c st sc sn st.length ++ [(119, .t (tB false))], i8R en S R⟩) :
    ∀ (k i : Nat) (J : JS), k + i = st.length → okSt c en S.bef i (st.drop i) J → goSt c en S.bef i (st.drop i) J = R →
    run Tryz.prog Γ scans_Insert_l7 Q ⟨i8E c st sc sn i, i8R en S J⟩
  | 0, i, J, h, hk, hR => by
    refine scans_Insert_l7_run fun K hK => ?_
    have h3 : i = st.length := by omega
    subst h3
    rw [List.drop_of_length_le (Nat.le_refl _)] at hR
    simp only [goSt] at hR
    subst hR
    simp [i8E, i8R, i3G, Z8]
    simpa [i8E, i8R, i3G, Z8] using h0
  | k + 1, i, J, h, hk, hR => by
    refine scans_Insert_l7_run fun K hK => ?_
    have h2 : i < st.length := by omega
    rw [List.drop_eq_getElem_cons h2] at hR hk
    have e := gi1 (f := tI) h2
    rw [getD_eq h2] at e
    generalize st[i] = n at *
    obtain ⟨h1, h5⟩ := hk
    simp only [goSt] at hR
    have ih := ins_l7 c hcn st hst sc sn en S R h0 k (i + 1) (stepSt c en S.bef i n J) (by omega) h5 hR
    have e' : ∀ h : i < (ints st).length, (ints st)[i] = [tI n] := fun h => by rw [← e]; simp [h]
    have n0 := h1.n0
    have n1 := h1.n1
    have n2 := h1.n2
    have n3 : n.toNat < c.nodes.l.length := by omega
    have n4 : n.toNat < J.nodes.length := by omega
    have en1 := nd_at (c := c) n0 n1
    have en1' : ∀ h : n.toNat < (encN tNd c.nodes.l).length, (encN tNd c.nodes.l)[n.toNat] = tNd (c.nodes.l.getD n.toNat Nd.d) := fun h => by rw [← en1]; simp [h]
    have hin : innAt c n.toNat = (c.nodes.l.getD n.toNat Nd.d).inn.l := rfl
    have hne := h1.inn
    have hd : (ints (c.nodes.l.getD n.toNat Nd.d).inn.l)[0]?.getD [] = [tI (in0 c n)] := by
      rw [← hin]
      cases hl : innAt c n.toNat with
      | nil => exact absurd hl hne
      | cons a l => simp [in0, hl, enc1]
    rw [hin] at hne
    have hlp : 0 < (c.nodes.l.getD n.toNat Nd.d).inn.l.length := List.length_pos_iff.2 hne
    generalize c.nodes.l.getD n.toNat Nd.d = x at *
    have hd' : ∀ h : 0 < (ints x.inn.l).length, (ints x.inn.l)[0] = [tI (in0 c n)] := fun h => by rw [← hd]; simp [h]
    have hb := befM_find n S.bef
    have hbf := befM_fit S.bef
    have c3 := itoa_spec (Γ := Γ) i h1.i100
    have z1 := h1.nodes
    have z2 := h1.names
    have c4 := add_rr (Γ := Γ) J.names J.nodes J.names S.outs (muxN en (in0 c n) (befOf S.bef n)) (smN i) (by omega) (by omega) h1.nm smN_len
    have hil : 2 + (itoaL i).length ≤ 9223372036854775807 := by unfold itoaL; split <;> simp
    have q1 : ints J.muxes ++ [[tI J.nodes.length]] = ints (J.muxes ++ [(J.nodes.length : Int)]) := enc1_snoc
    have tk1 : (ints J.muxes).take J.muxes.length = ints J.muxes := enc1_take_len
    simp [i8E, i8R, i3G, r11, r46, h2, enc1_len, enc1_wid, e, e', tC, tNodes, encN_len, tNd_wid, n0, n1, en1, en1', tNd, tSl, hd, hd', hlp, hb, hbf, KT.fits]
    refine callK_fresh c3 rfl ?_
    simp [tS, sV, ba_cat, List.idxOf_cons, Z8]
    refine ⟨hil, ?_⟩
    simp [tNd, muxN, tSl, enc1_nil, tS, sV, smN] at c4
    have hm : (⟨11, ⟨[en, in0 c n, befOf S.bef n], some 3, some false⟩, 0, 0⟩ : Nd) = muxN en (in0 c n) (befOf S.bef n) := rfl
    rw [hm] at c4
    have hLl : (J.nodes ++ [muxN en (in0 c n) (befOf S.bef n)]).length = J.nodes.length + 1 := by simp
    have y1 := gN (l := J.nodes ++ [muxN en (in0 c n) (befOf S.bef n)]) (i := n.toNat) (by omega)
    have y2 : ∀ y : Nd, (J.nodes ++ [muxN en (in0 c n) (befOf S.bef n)]).getD n.toNat Nd.d = y → (encN tNd (J.nodes ++ [muxN en (in0 c n) (befOf S.bef n)])).set n.toNat [tK y.k, .sl [[tI J.nodes.length]] (some 1) (some false), tI y.mem, tI y.bit] = encN tNd (setIn (J.nodes ++ [muxN en (in0 c n) (befOf S.bef n)]) n.toNat J.nodes.length) := fun y hy => by
      unfold setIn
      rw [hy]
      exact encN_set (f := tNd) (x := ⟨y.k, ⟨[(J.nodes.length : Int)], some 1, some false⟩, y.mem, y.bit⟩)
    have ihn : (stepSt c en S.bef i n J).nodes = setIn (J.nodes ++ [muxN en (in0 c n) (befOf S.bef n)]) n.toNat J.nodes.length := rfl
    have ihl : (setIn (J.nodes ++ [muxN en (in0 c n) (befOf S.bef n)]) n.toNat J.nodes.length).length = J.nodes.length + 1 := by unfold setIn; simp
    simp [i8E, i8R, i3G, r11, r46, Z8, ihn, ihl, tC, tNodes] at ih
    generalize J.nodes ++ [muxN en (in0 c n) (befOf S.bef n)] = L at *
    generalize setIn L n.toNat J.nodes.length = L2 at *
    have y3 := y2 _ rfl
    generalize L.getD n.toNat Nd.d = y at *
    have y1' : ∀ h : n.toNat < (encN tNd L).length, (encN tNd L)[n.toNat] = tNd y := fun h => by rw [← y1]; simp [h]
    have n5 : n < (J.nodes.length : Int) + 1 := by omega
    have n6 : n.toNat < J.nodes.length + 1 := by omega
    refine ⟨_, _, c4, ?_⟩
    simp [List.idxOf_cons, renSt, wid1s, tk1, q1, enc1_len, encN_len, hLl, n0, n5, n6, y1, y1', y3, tNd_wid, tNd, tSl]
    refine ⟨by have := h1.muxes; omega, ?_⟩
    rw [wrap_i64 (by omega) (by omega), hK]
    simpa [stepSt, nilT, smN, tSl] using ih
end Go.Lg

/- scans.Insert. Conditions: none. -/
set_option linter.unusedSimpArgs false
set_option linter.unusedVariables false
set_option maxRecDepth 100000
namespace Go.Lg
open Go Go.Proofs
variable {Γ : Tables}

def seN : List UInt8 := [115, 101]
def scS0 (c : Cir) : IS := ⟨c.nodes.l.map cpNd ++ [inpN], c.names.l ++ [seN], [], [], [], c.outs.l⟩
def scS (c : Cir) (chs : List (Sl Int)) : IS := goCh 0 chs (scS0 c)
def scJ (c : Cir) (chs : List (Sl Int)) : JS := goSt c c.nodes.l.length (scS c chs).bef 0 (states c) ⟨(scS c chs).nodes, (scS c chs).names, []⟩
def scC (c : Cir) (chs : List (Sl Int)) : Cir :=
  ⟨⟨(scJ c chs).nodes, some (scJ c chs).nodes.length, none⟩, ⟨(scJ c chs).names, some (scJ c chs).names.length, none⟩, ⟨[], some 0, some true⟩, ⟨(scS c chs).outs, some (scS c chs).outs.length, if chs = [] then (if c.outs.nl = some true then some true else none) else none⟩⟩

/-- A circuit and complete chains that Insert takes. -/
structure InsOk (c : Cir) (chs : Sl (Sl Int)) : Prop where
  ok : COk c
  cp : CpOk c
  names : c.names.l.Nodup
  se : seN ∉ c.names.l
  len : chs.l.length ≤ 100
  lens : ∀ s ∈ chs.l, s.l.length ≤ 1000000000
  n16 : c.nodes.l.length ≤ 1000
  n1 : c.names.l.length ≤ 1000
  s100 : (states c).length ≤ 100
  ch : okCh 0 chs.l (scS0 c)
  st : okSt c c.nodes.l.length (scS c chs.l).bef 0 (states c) ⟨(scS c chs.l).nodes, (scS c chs.l).names, []⟩
  both : chs.l = [] → states c = []
  err : checkErr c chs.l = 0

def tScan (c : Cir) (chs : List (Sl Int)) : T :=
  .agg (tC (scC c chs) ++ [.sl (enc1 tSl (scS c chs).cl) (some (scS c chs).cl.length) none, tI c.nodes.l.length, .sl (ints (scS c chs).ins) (some (scS c chs).ins.length) none, .sl (ints (scJ c chs).muxes) (some (scJ c chs).muxes.length) none])

theorem clip_node (es : List (List T)) (cap : Option Nat) (nl : Option Bool) (hw : wid 4 es) : PureCalls Tryz.prog Γ 88 [.sl es cap nl] (.sl es (some es.length) nl) := by
  refine run_pureQ slices_Clip_api_Node_chk rfl ?_
  simp [slices_Clip_api_Node_ic, slices_Clip_api_Node_rv, hw]
theorem clip_string (es : List (List T)) (cap : Option Nat) (nl : Option Bool) (hw : wid 1 es) : PureCalls Tryz.prog Γ 89 [.sl es cap nl] (.sl es (some es.length) nl) := by
  refine run_pureQ slices_Clip_string_chk rfl ?_
  simp [slices_Clip_string_ic, slices_Clip_string_rv, hw]
theorem goCh_len : ∀ {l : List (Sl Int)} {i : Nat} {S : IS}, S.ins.length = S.cl.length → (goCh i l S).ins.length = (goCh i l S).cl.length
  | [], _, _, h => h
  | s :: l, i, S, h => goCh_len (l := l) (by simp [stepCh, h])

set_option maxHeartbeats 4000000 in
theorem Insert_spec (hΓ : GOk Γ) (c : Cir) (chs : Sl (Sl Int)) (h : InsOk c chs) : PureCalls Tryz.prog Γ 29 [.agg (tC c), tChs chs] (.tup [tScan c chs.l, tI 0]) := by
  refine run_pureQ scans_Insert_chk rfl ?_
  have e1 := scheck_spec hΓ c h.ok chs (by have := h.len; omega) h.lens
  rw [h.err] at e1
  have e2 := states_spec (Γ := Γ) c h.ok
  have e3 := copy_spec (Γ := Γ) c h.cp
  have hn := h.n16
  have hn1 := h.n1
  have hm := h.len
  have hs := h.s100
  simp [scans_Insert_ic]
  simp [tC, tNodes, tNames, tMems, tSl, tChs] at e1 e2 e3
  simp [tC, tNodes, tNames, tMems, tSl, tChs]
  refine callK_fresh e1 rfl ?_
  simp
  refine callK_pure e2 rfl ?_
  have hlim : ¬ (16384 : Int) < (c.nodes.l.length : Int) + 1 + (chs.l.length : Int) + ((states c).length : Int) := by omega
  simp (disch := omega) [encN_len, enc1_len, wrap_i64, hlim]
  refine callK_pure e3 rfl ?_
  have g1 := fun Q N M O h0 => ins_l1 (Γ := Γ) (Q := Q) (.sl (enc1 tSl chs.l) chs.cap chs.nl) (.sl (ints (states c)) (some (states c).length) none) c c.names (by omega) h.names N M O h0 c.names.l.length 0 (by omega)
  simp [tC, tNodes, tNames, tMems, tSl, Z8, nilT, show seenM [] = [] from rfl] at g1
  simp [copyC, enc1_len, cpS, show encN tMm [] = [] from rfl, enc1_nil]
  refine g1 _ _ _ _ ?_
  simp [List.idxOf_cons, sV]
  have c4 := add_tt (Γ := Γ) c.names.l (c.nodes.l.map cpNd) c.names.l c.outs.l (some c.outs.l.length) (if c.outs.nl = some true then some true else none) inpN seN (by simp; omega) (by omega) h.se (by simp [seN])
  simp [tNd, inpN, tSl, enc1_nil, tS, sV, seN] at c4
  refine ⟨_, _, c4, ?_⟩
  simp [List.idxOf_cons, renSt]
  have g5 := fun Q h0 h0t => ins_l5t (Γ := Γ) (Q := Q) c (.sl (ints (states c)) (some (states c).length) none) chs h.len c.nodes.l.length (scS c chs.l) (if c.outs.nl = some true then some true else none) (scS0 c) h0 h0t rfl h.ch rfl
  have hst := h.st
  have hJ : scJ c chs.l = goSt c c.nodes.l.length (scS c chs.l).bef 0 (states c) ⟨(scS c chs.l).nodes, (scS c chs.l).names, []⟩ := rfl
  have hC : scC c chs.l = ⟨⟨(scJ c chs.l).nodes, some (scJ c chs.l).nodes.length, none⟩, ⟨(scJ c chs.l).names, some (scJ c chs.l).names.length, none⟩, ⟨[], some 0, some true⟩, ⟨(scS c chs.l).outs, some (scS c chs.l).outs.length, if chs.l = [] then (if c.outs.nl = some true then some true else none) else none⟩⟩ := rfl
  unfold tScan
  rw [hC]
  have hS0 : scS0 c = scS c [] := rfl
  have hSe : chs.l = [] → scS c chs.l = scS0 c := fun e => by rw [e]; rfl
  have hil : (scS c chs.l).ins.length = (scS c chs.l).cl.length := goCh_len rfl
  generalize scS c chs.l = S at *
  generalize scJ c chs.l = J at *
  have g7 := fun Q h0 => ins_l7 (Γ := Γ) (Q := Q) c (by omega) (states c) hs (some (states c).length) none c.nodes.l.length S J h0 (states c).length 0 ⟨S.nodes, S.names, []⟩ (by omega) hst hJ.symm
  simp [i6E, i6T, i6R, i3H, i3G, r11, r46, scS0, Z8, nilT, tC, tNodes, tNames, tMems, tSl, enc1_nil, inpN, seN, show befM [] = [] from rfl] at g5
  simp [i8E, i8R, i3G, r11, r46, Z8, nilT, tC, tNodes, tNames, tMems, tSl, enc1_nil] at g7
  simp [enc1_len]
  refine g5 _ (fun hne => ?_) (fun he => ?_)
  · simp [enc1_len]
    refine g7 _ ?_
    have k1 : (enc1 tSl S.cl).take S.cl.length = enc1 tSl S.cl := enc1_take_len
    have k2 : (ints S.ins).take S.cl.length = ints S.ins := by rw [← hil]; exact enc1_take_len
    have k3 : (ints S.outs).take S.outs.length = ints S.outs := enc1_take_len
    have k4 : (ints J.muxes).take J.muxes.length = ints J.muxes := enc1_take_len
    have k5 : (encN tNd J.nodes).take J.nodes.length = encN tNd J.nodes := encN_take_len
    have k6 : (enc1 tS J.names).take J.names.length = enc1 tS J.names := enc1_take_len
    simp [St.freeze, Reg.closed, frzRef, frz1, frz0, frzReg, del, reify, k1, k2, k3, k4, k5, k6]
    refine callK_pure (clip_node (encN tNd J.nodes) none none tNd_wid) rfl ?_
    simp
    refine callK_pure (clip_string (enc1 tS J.names) none none enc1_wid) rfl ?_
    simp
    refine callK_pure (clip_int (ints S.outs) none none enc1_wid) rfl ?_
    simp
    refine callK_pure (clip_ints (enc1 tSl S.cl) none none enc1_wid) rfl ?_
    simp
    refine callK_pure (clip_int (ints S.ins) none none enc1_wid) rfl ?_
    simp
    refine callK_pure (clip_int (ints J.muxes) none none enc1_wid) rfl ?_
    simp [scans_Insert_rv, tC, tNodes, tNames, tMems, tSl, encN_len, enc1_len, hne, show encN tMm [] = [] from rfl]
  · have hse : states c = [] := h.both he
    have hS := hSe he
    have hJe : J = ⟨S.nodes, S.names, []⟩ := by rw [hJ, hse]; rfl
    have hl0 : chs.l.length = 0 := by rw [he]; rfl
    subst hJe
    subst hS
    have k5 : (encN tNd (scS0 c).nodes).take (c.nodes.l.length + 1) = encN tNd (scS0 c).nodes := List.take_of_length_le (by simp [scS0, encN])
    have k6 : (enc1 tS (scS0 c).names).take (c.names.l.length + 1) = enc1 tS (scS0 c).names := List.take_of_length_le (by simp [scS0, enc1])
    simp [scS0, inpN, seN] at k5 k6
    simp [enc1_len, hse]
    refine scans_Insert_l7_run fun K hK => ?_
    simp [enc1_len, hse, St.freeze, Reg.closed, frzRef, frz1, frz0, frzReg, del, reify, k5, k6]
    refine callK_pure (clip_node _ none none tNd_wid) rfl ?_
    simp
    refine callK_pure (clip_string _ none none enc1_wid) rfl ?_
    simp
    refine callK_pure (clip_int (ints c.outs.l) (some c.outs.l.length) (if c.outs.nl = some true then some true else none) enc1_wid) rfl ?_
    simp
    refine callK_pure (clip_ints [] none none wid_nil) rfl ?_
    simp
    refine callK_pure (clip_int [] none none wid_nil) rfl ?_
    simp
    refine callK_pure (clip_int [] none none wid_nil) rfl ?_
    simp [scans_Insert_rv, tC, tNodes, tNames, tMems, tSl, encN_len, enc1_len, he, enc1_nil, show encN tMm [] = [] from rfl]
    simp [scS0, inpN, seN, enc1_nil]

end Go.Lg

/- What Insert lays, plainly: it may be called. Conditions: none. -/
set_option linter.unusedSimpArgs false
set_option linter.unusedVariables false
set_option maxRecDepth 100000
namespace Go.Lg
open Go Go.Proofs

theorem itoaL_inj : ∀ i, i < 100 → ∀ j, j < 100 → itoaL i = itoaL j → i = j := by decide +kernel
theorem siN_inj {i j : Nat} (hi : i < 100) (hj : j < 100) (h : siN i = siN j) : i = j := itoaL_inj i hi j hj (by simpa [siN] using h)
theorem smN_inj {i j : Nat} (hi : i < 100) (hj : j < 100) (h : smN i = smN j) : i = j := itoaL_inj i hi j hj (by simpa [smN] using h)


def befL : Int → List (Sl Int) → List (Int × Int)
  | _, [] => []
  | n, s :: l => prevs n s.l ++ befL (n + 1) l
def lastL : Int → List (Sl Int) → List Int
  | _, [] => []
  | n, s :: l => lastC n s.l :: lastL (n + 1) l
def insOf (n : Nat) (k : Nat) : List Int := (List.range' n k).map fun q : Nat => (q : Int)
theorem insOf_succ (n k : Nat) : insOf n (k + 1) = (n : Int) :: insOf (n + 1) k := by simp [insOf, List.range'_succ]

theorem goCh_eq : ∀ (l : List (Sl Int)) (i : Nat) (S : IS), goCh i l S = ⟨S.nodes ++ List.replicate l.length inpN, S.names ++ (List.range' i l.length).map siN, S.cl ++ l.map (fun s => ⟨s.l, some s.l.length, none⟩), S.ins ++ insOf S.nodes.length l.length, S.bef ++ befL S.nodes.length l, S.outs ++ lastL S.nodes.length l⟩
  | [], i, S => by simp [goCh, insOf, befL, lastL]
  | s :: l, i, S => by
    simp only [goCh]
    rw [goCh_eq l (i + 1)]
    simp [stepCh, List.replicate_succ, List.range'_succ, insOf_succ, befL, lastL]

theorem okCh_ind : ∀ (l : List (Sl Int)) (i : Nat) (S : IS) (base : List (List UInt8)), S.names = base ++ (List.range' 0 i).map siN → (∀ j, j < 100 → siN j ∉ base) → i + l.length ≤ 100 → S.nodes.length ≤ 2000 + i → S.names.length ≤ 2000 + i → S.cl.length = i → S.ins.length = i → S.outs.length ≤ 2000 + i →
    (S.bef.map (·.1) ++ elems l).Nodup → (∀ s ∈ l, s.l ≠ [] ∧ s.nl ≠ some true ∧ s.l.length ≤ 1000000) → okCh i l S
  | [], _, _, _, _, _, _, _, _, _, _, _, _, _ => trivial
  | s :: l, i, S, base, hn, hb, hi, h1, h2, h3, h4, h5, hnd, hs => by
    simp only [List.length_cons] at hi
    rw [elems_cons, ← List.append_assoc] at hnd
    have hnd2 := hnd
    rw [List.append_assoc] at hnd2
    obtain ⟨d1, d2, d3⟩ := List.nodup_append.1 hnd2
    obtain ⟨e1, e2, e3⟩ := List.nodup_append.1 d2
    obtain ⟨s1, s2, s3⟩ := hs s List.mem_cons_self
    refine ⟨⟨⟨by omega, by omega, by omega, by omega, by omega⟩, ?_, by omega, s1, s2, s3, e1, fun n hnl hm => d3 n hm n (List.mem_append_left _ hnl) rfl⟩, ?_⟩
    · rw [hn, List.mem_append]
      rintro (h | h)
      · exact hb i (by omega) h
      · obtain ⟨j, hj, e⟩ := List.mem_map.1 h
        simp at hj
        have := siN_inj (by omega) (by omega) e
        omega
    · refine okCh_ind l (i + 1) (stepCh i s S) base ?_ hb (by omega) (by simp [stepCh]; omega) (by simp [stepCh]; omega) (by simp [stepCh]; omega) (by simp [stepCh]; omega) (by simp [stepCh]; omega) ?_ fun x hx => hs x (List.mem_cons_of_mem _ hx)
      · simp only [stepCh, hn, List.append_assoc]
        rw [List.range'_concat]
        simp
      · simp only [stepCh, List.map_append, prevs_keys]
        exact hnd

theorem okSt_ind (c : Cir) (en : Int) (bef : List (Int × Int)) : ∀ (l : List Int) (i : Nat) (J : JS) (base : List (List UInt8)), J.names = base ++ (List.range' 0 i).map smN → (∀ j, j < 100 → smN j ∉ base) → i + l.length ≤ 100 → J.nodes.length ≤ 3000 + i → J.names.length ≤ 3000 + i → J.muxes.length = i →
    (∀ n ∈ l, 0 ≤ n ∧ n < c.nodes.l.length ∧ n < J.nodes.length ∧ innAt c n.toNat ≠ []) → okSt c en bef i l J
  | [], _, _, _, _, _, _, _, _, _, _ => trivial
  | n :: l, i, J, base, hn, hb, hi, h1, h2, h3, hs => by
    simp only [List.length_cons] at hi
    obtain ⟨s1, s2, s3, s4⟩ := hs n List.mem_cons_self
    have hlen : (stepSt c en bef i n J).nodes.length = J.nodes.length + 1 := by simp [stepSt, setIn]
    refine ⟨⟨by omega, by omega, by omega, ?_, by omega, s1, s2, s3, s4⟩, ?_⟩
    · rw [hn, List.mem_append]
      rintro (h | h)
      · exact hb i (by omega) h
      · obtain ⟨j, hj, e⟩ := List.mem_map.1 h
        simp at hj
        have := smN_inj (by omega) (by omega) e
        omega
    · refine okSt_ind c en bef l (i + 1) (stepSt c en bef i n J) base ?_ hb (by omega) (by omega) (by simp [stepSt]; omega) (by simp [stepSt]; omega) fun x hx => ?_
      · simp only [stepSt, hn, List.append_assoc]
        rw [List.range'_concat]
        simp
      · obtain ⟨a1, a2, a3, a4⟩ := hs x (List.mem_cons_of_mem _ hx)
        exact ⟨a1, a2, by omega, a4⟩
end Go.Lg

/- A circuit of C has at most 16 nodes. Conditions: none. -/
set_option linter.unusedSimpArgs false
set_option linter.unusedVariables false
set_option maxRecDepth 100000
namespace Go.Lg
open Go Go.Proofs

theorem nodes5_16 {x : CD} (hx : CDOk x) : (nodes5 x).length ≤ 16 := by
  have m4 : 0 ≤ x.i.tmod 4 ∧ x.i.tmod 4 < 4 := tmod_lt (n := 4) hx.i.1 (by omega)
  have m3 : 0 ≤ x.f.tmod 3 ∧ x.f.tmod 3 < 3 := tmod_lt (n := 3) hx.f.1 (by omega)
  have l2 : (nodes2 x).length = (x.i.tmod 4 + 1).toNat + (x.f.tmod 3).toNat := by simp [nodes2, nodes1]
  have l3 : (nodes2 x).length ≤ (nodes3 x).length ∧ (nodes3 x).length ≤ 8 := by unfold nodes3; split <;> simp <;> omega
  have l4 : (nodes4 x).length = (nodes3 x).length + min 8 x.gates.l.length := by unfold nodes4; rw [gatesN_len]; simp
  have l5 : (nodes5 x).length = (nodes4 x).length := dataN_len
  omega
end Go.Lg

/- What Insert lays, plainly: the circuit. Conditions: none. -/
set_option linter.unusedSimpArgs false
set_option linter.unusedVariables false
set_option maxRecDepth 100000
namespace Go.Lg
open Go Go.Proofs

theorem getN_app {a b : List Nd} {q : Nat} (h : q < a.length) : (a ++ b).getD q Nd.d = a.getD q Nd.d := by
  rw [List.getD_eq_getElem?_getD, List.getElem?_append_left h, ← List.getD_eq_getElem?_getD]
theorem getN_app2 {a b : List Nd} {q : Nat} (h : a.length ≤ q) : (a ++ b).getD q Nd.d = b.getD (q - a.length) Nd.d := by
  rw [List.getD_eq_getElem?_getD, List.getElem?_append_right h, ← List.getD_eq_getElem?_getD]
theorem getN_set {a : List Nd} {j q : Nat} {v : Int} (h : j < a.length) : (setIn a j v).getD q Nd.d = if q = j then ⟨(a.getD j Nd.d).k, ⟨[v], some 1, some false⟩, (a.getD j Nd.d).mem, (a.getD j Nd.d).bit⟩ else a.getD q Nd.d := by
  unfold setIn
  rw [List.getD_eq_getElem?_getD, List.getElem?_set]
  by_cases e : j = q
  · subst e; simp [h]
  · rw [if_neg e, if_neg (fun h => e h.symm), ← List.getD_eq_getElem?_getD]

/-- Nodes, names and the list of the Mux nodes. -/
theorem goSt_eq (c : Cir) (en : Int) (bef : List (Int × Int)) : ∀ (l : List Int) (i : Nat) (J : JS), l.Nodup → (∀ n ∈ l, 0 ≤ n ∧ n < J.nodes.length) →
    (goSt c en bef i l J).nodes.length = J.nodes.length + l.length ∧ (goSt c en bef i l J).names = J.names ++ (List.range' i l.length).map smN ∧ (goSt c en bef i l J).muxes = J.muxes ++ insOf J.nodes.length l.length ∧
    (∀ q, q < J.nodes.length → (q : Int) ∉ l → (goSt c en bef i l J).nodes.getD q Nd.d = J.nodes.getD q Nd.d) ∧
    (∀ k, k < l.length → (goSt c en bef i l J).nodes.getD (l.getD k 0).toNat Nd.d = ⟨(J.nodes.getD (l.getD k 0).toNat Nd.d).k, ⟨[((J.nodes.length + k : Nat) : Int)], some 1, some false⟩, (J.nodes.getD (l.getD k 0).toNat Nd.d).mem, (J.nodes.getD (l.getD k 0).toNat Nd.d).bit⟩) ∧
    (∀ k, k < l.length → (goSt c en bef i l J).nodes.getD (J.nodes.length + k) Nd.d = muxN en (in0 c (l.getD k 0)) (befOf bef (l.getD k 0)))
  | [], i, J, _, _ => ⟨rfl, by simp [goSt], by simp [goSt, insOf], fun q _ _ => rfl, fun k h => by simp at h, fun k h => by simp at h⟩
  | n :: l, i, J, hnd, hs => by
    obtain ⟨hn1, hn2⟩ := List.nodup_cons.1 hnd
    obtain ⟨n0, n1⟩ := hs n List.mem_cons_self
    have hlen : (stepSt c en bef i n J).nodes.length = J.nodes.length + 1 := by simp [stepSt, setIn]
    obtain ⟨a1, a2, a3, a4, a5, a6⟩ := goSt_eq c en bef l (i + 1) (stepSt c en bef i n J) hn2 fun x hx => by
      have := hs x (List.mem_cons_of_mem _ hx)
      exact ⟨this.1, by omega⟩
    have hlt : n.toNat < (J.nodes ++ [muxN en (in0 c n) (befOf bef n)]).length := by simp; omega
    have hst : ∀ q, (stepSt c en bef i n J).nodes.getD q Nd.d = if q = n.toNat then ⟨(J.nodes.getD n.toNat Nd.d).k, ⟨[(J.nodes.length : Int)], some 1, some false⟩, (J.nodes.getD n.toNat Nd.d).mem, (J.nodes.getD n.toNat Nd.d).bit⟩ else (J.nodes ++ [muxN en (in0 c n) (befOf bef n)]).getD q Nd.d := fun q => by
      simp only [stepSt]
      rw [getN_set hlt, getN_app (by omega)]
    simp only [goSt]
    refine ⟨by rw [a1, hlen]; simp; omega, ?_, ?_, ?_, ?_, ?_⟩
    · rw [a2]; simp [stepSt, List.range'_succ]
    · rw [a3, hlen]; simp only [stepSt, List.append_assoc, List.length_cons, insOf_succ]; rfl
    · intro q hq hm
      rw [a4 q (by omega) fun h => hm (List.mem_cons_of_mem _ h), hst, if_neg (fun e => hm (by have : (q : Int) = n := by omega
                                                                                               rw [this]; exact List.mem_cons_self)), getN_app hq]
    · intro k hk
      cases k with
      | zero =>
        simp only [List.getD_cons_zero]
        rw [a4 n.toNat (by omega) fun h => hn1 (by have : ((n.toNat : Nat) : Int) = n := by omega
                                                   rw [this] at h; exact h), hst, if_pos rfl]
        rfl
      | succ k =>
        simp only [List.getD_cons_succ]
        have hk' : k < l.length := by simpa using hk
        have hin : l.getD k 0 ∈ l := by rw [getD_eq hk']; exact List.getElem_mem _
        have hb := hs _ (List.mem_cons_of_mem _ hin)
        have hne : ¬ (l.getD k 0).toNat = n.toNat := fun e => hn1 (by have : l.getD k 0 = n := by omega
                                                                      rw [← this]; exact hin)
        rw [a5 k hk', hst, if_neg hne, getN_app (by omega), hlen]
        congr 4
        omega
    · intro k hk
      cases k with
      | zero =>
        simp only [List.getD_cons_zero, Nat.add_zero]
        rw [a4 J.nodes.length (by omega) fun h => by have := (hs _ (List.mem_cons_of_mem _ h)).2; omega, hst, if_neg (by omega), getN_app2 (Nat.le_refl _)]
        simp
      | succ k =>
        simp only [List.getD_cons_succ]
        have hk' : k < l.length := by simpa using hk
        rw [← a6 k hk', hlen]
        congr 1
        omega
end Go.Lg

/- What Insert lays, plainly: a valid circuit. Conditions: none. -/
set_option linter.unusedSimpArgs false
set_option linter.unusedVariables false
set_option maxRecDepth 100000
namespace Go.Lg
open Go Go.Proofs

theorem valid_of {c : Cir} (hg : GNs false c.nodes.l) (hm : c.mems.l = []) (hn : c.nodes.l.length ≤ 16384) (ho : c.outs.l.length ≤ 16384 ∧ ∀ p ∈ c.outs.l, 0 ≤ p ∧ p < c.nodes.l.length) (hnm : c.names.l.length = c.nodes.l.length) (hne : namesErr [] c.names.l = 0) : levErr c = 0 := by
  have hout : ∀ n, 0 ≤ n ∧ n < (c.nodes.l.length : Int) → outP c n = false := fun n h => by simp [outP]; omega
  have hnode : ∀ y ∈ c.nodes.l, nodeErr c y = 0 := by
    intro y hy
    obtain ⟨i, hi, rfl⟩ := List.getElem_of_mem hy
    have hn := hg i hi
    unfold nodeErr
    rw [if_neg (by have := hn.k; omega), if_neg (by have := hn.f; omega)]
    have h1 : c.nodes.l[i].inn.l.any (outP c) = false := List.any_eq_false.2 fun p hp => by rw [hout p (hn.inn p hp)]; simp
    rw [h1]
    have h2 : ¬ (c.nodes.l[i].k = 13 ∧ c.nodes.l[i].inn.l.any (notTri c) = true) := by
      rintro ⟨hk, ha⟩
      obtain ⟨p, hp, hq⟩ := List.any_eq_true.1 ha
      have := hn.bus hk p hp
      simp only [notTri, decide_eq_true_eq] at hq
      exact hq this
    rw [if_neg (by simp), if_neg h2]
    have h3 : bitOk c c.nodes.l[i] = true := by
      unfold bitOk
      by_cases hk : c.nodes.l[i].k = 15
      · have := (hn.mm.2 hk).1
        cases this
      · have := hn.mm.1 hk
        simp [hk, this]
    rw [h3]; simp
  have hs : shapeErr c = 0 := by
    unfold shapeErr
    rw [if_neg (by rw [hm]; simp; omega), if_neg (by simp [hnm]), if_neg (by rw [firstErr_all hnode]; simp), if_neg (by rw [hne]; simp), if_neg (by rw [hm]; simp [firstErr])]
    have : c.outs.l.any (outP c) = false := List.any_eq_false.2 fun p hp => by rw [hout p (ho.2 p hp)]; simp
    rw [this]; rfl
  have hd := levels_done c (shape_facts hs).2.1 (shape_in hs) (by
    intro i hi hc p hp
    have e : c.nodes.l.getD i Nd.d = c.nodes.l[i] := by simp [List.getD_eq_getElem?_getD, hi]
    simp only [kindAt, innAt, e] at hc hp
    exact (hg i hi).top (by simpa [combB] using hc) p hp)
  unfold levErr
  rw [if_neg (by simp [hs]), if_neg hd]

/-- A circuit without memory, and complete chains. -/
structure ScOk (c : Cir) (ch : List (Sl Int)) : Prop where
  ok : COk c
  cp : CpOk c
  good : GNs false c.nodes.l
  n1 : 1 ≤ c.nodes.l.length
  n2 : c.nodes.l.length ≤ 16
  nms : c.names.l = (List.range' 0 c.nodes.l.length).map nameL
  outs : c.outs.l.length ≤ 4 ∧ ∀ p ∈ c.outs.l, 0 ≤ p ∧ p < c.nodes.l.length
  perm : (elems ch).Perm (states c)
  ne : ∀ s ∈ ch, s.l ≠ [] ∧ s.nl ≠ some true

theorem nd_cases {B : Bool} {ns : List Nd} (h : GNs B ns) {i : Nat} (hi : i < ns.length) : NG B ns i (ns.getD i Nd.d) := by
  have := h i hi
  rwa [show ns.getD i Nd.d = ns[i] by simp [List.getD_eq_getElem?_getD, hi]]

/-! The nodes are lists that tell whether they are nil. -/
def SNs (ns : List Nd) : Prop := ∀ x ∈ ns, SlOk x.inn
theorem slok_none {l : List Int} (h : l ≠ []) (h2 : l.length ≤ 1000000) : SlOk (⟨l, none, none⟩ : Sl Int) := ⟨(fun h => nomatch h), (fun _ => h), h2⟩
theorem slok_some {l : List Int} {c : Option Nat} (h2 : l.length ≤ 1000000) : SlOk (⟨l, c, some false⟩ : Sl Int) := ⟨(fun h => nomatch h), (fun h => nomatch h), h2⟩
theorem slok_nil {c : Option Nat} : SlOk (⟨[], c, some true⟩ : Sl Int) := ⟨(fun _ => rfl), (fun h => nomatch h), by simp⟩
theorem sns_gate {bus : Bool} {g : Gd} {ns : List Nd} : SlOk (gateN bus g ns).inn := by
  unfold gateN gateT
  generalize (if bus = true then g.k.tmod 13 else g.k.tmod 9) = kk
  by_cases h1 : kk < 6
  · simp only [h1, if_true]
    split
    · exact slok_none (by simp) (by simp)
    · exact slok_none (by simp) (by simp)
  · simp only [h1, if_false]
    split
    · exact slok_none (by simp) (by simp)
    split
    · exact slok_none (by simp) (by simp)
    split
    · exact slok_none (by simp) (by simp)
    split
    · by_cases h2 : 1 < (triL ns).length
      · simp only [h2, if_true]
        exact slok_none (by simp) (by simp)
      · simp only [h2, if_false]
        exact slok_none (by simp) (by simp)
    split
    · exact slok_nil
    · exact slok_none (by simp) (by simp)
theorem sns_gates {bus : Bool} : ∀ {l : List Gd} {ns : List Nd}, SNs ns → SNs (gatesN bus l ns)
  | [], ns, h => h
  | g :: l, ns, h => by
    simp only [gatesN]
    refine sns_gates fun x hx => ?_
    rcases List.mem_append.1 hx with hx | hx
    · exact h x hx
    · simp at hx; subst hx; exact sns_gate
theorem sns_data {x : CD} {first : Nat} : ∀ {k i : Nat} {ns : List Nd}, SNs ns → SNs (dataN x first k i ns)
  | 0, _, _, h => h
  | k + 1, i, ns, h => by
    simp only [dataN]
    refine sns_data fun y hy => ?_
    rcases List.mem_or_eq_of_mem_set hy with hy | rfl
    · exact h y hy
    · exact slok_some (by simp)
theorem sns_nodes {x : CD} (hm : x.mem = false) : SNs (nodes5 x) := by
  unfold nodes5 nodes4 nodes3
  rw [hm]
  refine sns_data (sns_gates fun y hy => ?_)
  simp only [Bool.false_eq_true, if_false, nodes2, nodes1, List.mem_append, List.mem_replicate] at hy
  rcases hy with ⟨_, rfl⟩ | ⟨_, rfl⟩
  · exact slok_nil
  · exact slok_some (by simp)

theorem case_scok {y : CaseD} (hy : CaseOk y) : ScOk (caseC y) (caseCh y) := by
  have hx := noMemX_ok hy.x
  have hN : (caseC y).nodes.l = nodes5 (noMemX y.x) := rfl
  have hl4 := nodes4_len hx
  have h54 : (nodes5 (noMemX y.x)).length = (nodes4 (noMemX y.x)).length := dataN_len
  have h16 : (nodes5 (noMemX y.x)).length ≤ 16 := nodes5_16 hx
  have hpe := permS_perm (min (states (caseC y)).length y.keys.l.length) 0 y.keys.l (states (caseC y)) (by omega)
  have hmods : ∀ b, Byt b → 0 ≤ b.tmod (nodes4 (noMemX y.x)).length ∧ b.tmod (nodes4 (noMemX y.x)).length < ((nodes5 (noMemX y.x)).length : Int) := fun b hb => by
    have := tmod_lt (n := (nodes4 (noMemX y.x)).length) hb.1 (by omega); omega
  have hout : ∀ p ∈ (caseC y).outs.l, 0 ≤ p ∧ p < ((caseC y).nodes.l.length : Int) := fun p hp => by
    rw [hN]
    simp only [caseC, ofC, List.mem_append, List.mem_map, List.mem_singleton] at hp
    rcases hp with ⟨b, hb, rfl⟩ | rfl
    · exact hmods b (hx.outs b (List.mem_of_mem_take hb))
    · omega
  have hol : (caseC y).outs.l.length ≤ 4 := by simp [caseC, ofC]; omega
  have hne : (nodes5 (noMemX y.x)) ≠ [] := List.length_pos_iff.1 (by omega)
  have hnl : (caseC y).names.l.length = (nodes4 (noMemX y.x)).length := by simp [caseC, ofC]
  refine ⟨ofC_ok hx, ⟨hne, by rw [hN]; omega, rfl, List.length_pos_iff.1 (by omega), by omega, rfl, rfl, ?_, slok_none (by simp) (by simp; omega)⟩, nodes5_good hx, by rw [hN]; omega, by rw [hN]; omega, ?_, ⟨hol, hout⟩, ?_, cutS_ne _ _⟩
  · exact sns_nodes (x := noMemX y.x) rfl
  · show (List.range' 0 (nodes4 (noMemX y.x)).length).map nameL = (List.range' 0 (nodes5 (noMemX y.x)).length).map nameL
    rw [h54]
  · unfold caseCh; rw [cutS_elems]; exact hpe
end Go.Lg

/- What Insert lays, plainly: the parts of the circuit, and that it is valid. Conditions: none. -/
set_option linter.unusedSimpArgs false
set_option linter.unusedVariables false
set_option maxRecDepth 100000
namespace Go.Lg
open Go Go.Proofs

theorem prevs_val : ∀ (l : List Int) (a : Int), ∀ p ∈ prevs a l, p.2 = a ∨ p.2 ∈ l
  | [], a, p, h => by cases h
  | n :: l, a, p, h => by
    simp only [prevs, List.mem_cons] at h
    rcases h with rfl | h
    · exact .inl rfl
    · rcases prevs_val l n p h with e | e
      · exact .inr (by rw [e]; exact List.mem_cons_self)
      · exact .inr (List.mem_cons_of_mem _ e)
theorem befL_val : ∀ (l : List (Sl Int)) (b : Int), ∀ p ∈ befL b l, (b ≤ p.2 ∧ p.2 < b + l.length) ∨ p.2 ∈ elems l
  | [], b, p, h => by cases h
  | s :: l, b, p, h => by
    simp only [befL, List.mem_append] at h
    rw [elems_cons]
    rcases h with h | h
    · rcases prevs_val s.l b p h with e | e
      · exact .inl ⟨by omega, by simp; omega⟩
      · exact .inr (List.mem_append_left _ e)
    · rcases befL_val l (b + 1) p h with e | e
      · exact .inl ⟨by omega, by simp; omega⟩
      · exact .inr (List.mem_append_right _ e)
theorem befOf_val (l : List (Int × Int)) (n : Int) : befOf l n = 0 ∨ ∃ p ∈ l, befOf l n = p.2 := by
  unfold befOf
  cases h : l.find? (fun p => p.1 == n) with
  | none => exact .inl rfl
  | some p => exact .inr ⟨p, List.mem_of_find?_eq_some h, rfl⟩

def m0 (c : Cir) (ch : List (Sl Int)) : Nat := c.nodes.l.length + 1 + ch.length

theorem getN_map {l : List Nd} {q : Nat} (h : q < l.length) : (l.map cpNd).getD q Nd.d = cpNd (l.getD q Nd.d) := by
  simp [List.getD_eq_getElem?_getD, h]

/-- What is known of the circuit with scan chains. -/
structure ScF (c : Cir) (ch : List (Sl Int)) : Prop where
  chl : ch.length ≤ 16
  stl : (states c).length ≤ 16
  sn : (scS c ch).nodes = c.nodes.l.map cpNd ++ [inpN] ++ List.replicate ch.length inpN
  snl : (scS c ch).nodes.length = m0 c ch
  snm : (scS c ch).names = c.names.l ++ [seN] ++ (List.range' 0 ch.length).map siN
  cl : (scS c ch).cl = ch.map (fun s => ⟨s.l, some s.l.length, none⟩)
  ins : (scS c ch).ins = insOf (c.nodes.l.length + 1) ch.length
  bef : (scS c ch).bef = befL (c.nodes.l.length + 1 : Nat) ch
  outs : (scS c ch).outs = c.outs.l ++ lastL (c.nodes.l.length + 1 : Nat) ch
  len : (scJ c ch).nodes.length = m0 c ch + (states c).length
  nm : (scJ c ch).names = c.names.l ++ [seN] ++ (List.range' 0 ch.length).map siN ++ (List.range' 0 (states c).length).map smN
  mux : (scJ c ch).muxes = insOf (m0 c ch) (states c).length
  old : ∀ q, q < c.nodes.l.length → kindAt c q ≠ 14 → (scJ c ch).nodes.getD q Nd.d = cpNd (c.nodes.l.getD q Nd.d)
  dff : ∀ q, q < c.nodes.l.length → kindAt c q = 14 → (scJ c ch).nodes.getD q Nd.d = ⟨14, ⟨[((m0 c ch + rankK 14 c q : Nat) : Int)], some 1, some false⟩, (c.nodes.l.getD q Nd.d).mem, (c.nodes.l.getD q Nd.d).bit⟩
  inp : ∀ q, c.nodes.l.length ≤ q → q < m0 c ch → (scJ c ch).nodes.getD q Nd.d = inpN
  mx : ∀ k, k < (states c).length → (scJ c ch).nodes.getD (m0 c ch + k) Nd.d = muxN c.nodes.l.length (in0 c ((states c).getD k 0)) (befOf (befL (c.nodes.l.length + 1 : Nat) ch) ((states c).getD k 0))

theorem scF {c : Cir} {ch : List (Sl Int)} (h : ScOk c ch) : ScF c ch := by
  have hsl : (states c).length ≤ c.nodes.l.length := ofL_len _ _ _
  have hn2 := h.n2
  have hle := elems_le ch fun s hs => (h.ne s hs).1
  have hpl := h.perm.length_eq
  have hS : scS c ch = _ := goCh_eq ch 0 (scS0 c)
  have s1 : (scS c ch).nodes = c.nodes.l.map cpNd ++ [inpN] ++ List.replicate ch.length inpN := by rw [hS]; rfl
  have s2 : (scS c ch).nodes.length = m0 c ch := by rw [s1]; simp [m0]; omega
  have s3 : (scS c ch).names = c.names.l ++ [seN] ++ (List.range' 0 ch.length).map siN := by rw [hS]; rfl
  have l0 : (scS0 c).nodes.length = c.nodes.l.length + 1 := by simp [scS0]
  have s4 : (scS c ch).bef = befL (c.nodes.l.length + 1 : Nat) ch := by
    rw [hS]; show ([] : List (Int × Int)) ++ befL ((scS0 c).nodes.length) ch = _
    rw [l0]; rfl
  have hnd : (states c).Nodup := (ofL_nodup [14] c.nodes.l 0).2
  have hin : ∀ n ∈ states c, 0 ≤ n ∧ n < (scS c ch).nodes.length := fun n hn => by
    have := ofL_in (k := 14) (c := c) n hn
    rw [s2]; unfold m0; omega
  obtain ⟨a1, a2, a3, a4, a5, a6⟩ := goSt_eq c c.nodes.l.length (scS c ch).bef (states c) 0 ⟨(scS c ch).nodes, (scS c ch).names, []⟩ hnd hin
  have hJ : scJ c ch = goSt c c.nodes.l.length (scS c ch).bef 0 (states c) ⟨(scS c ch).nodes, (scS c ch).names, []⟩ := rfl
  rw [← hJ] at a1 a2 a3 a4 a5 a6
  simp only [s2] at a1 a3 a4 a5 a6
  have hg : ∀ q, q < c.nodes.l.length → (scS c ch).nodes.getD q Nd.d = cpNd (c.nodes.l.getD q Nd.d) := fun q hq => by
    rw [s1, List.append_assoc, getN_app (by simpa using hq), getN_map hq]
  refine ⟨by omega, by omega, s1, s2, s3, by rw [hS]; rfl, ?_, s4, ?_, a1, by rw [a2, s3], by rw [a3]; rfl, ?_, ?_, ?_, ?_⟩
  · rw [hS]; show ([] : List Int) ++ insOf (scS0 c).nodes.length ch.length = _
    rw [l0]; rfl
  · rw [hS]; show c.outs.l ++ lastL ((scS0 c).nodes.length) ch = _
    rw [l0]
  · intro q hq hk
    rw [a4 q (by unfold m0; omega) fun hm => hk ((mem_ofL hq).1 hm), hg q hq]
  · intro q hq hk
    obtain ⟨r1, r2⟩ := rank_at hq hk
    have := a5 (rankK 14 c q) r1
    have e : (states c).getD (rankK 14 c q) 0 = (q : Int) := r2
    rw [e] at this
    simp only [Int.toNat_natCast] at this
    rw [this, hg q hq]
    have hk' : (c.nodes.l.getD q Nd.d).k = 14 := hk
    simp only [cpNd, hk']
  · intro q h1 h2
    rw [a4 q h2 fun hm => by have := (ofL_in (k := 14) (c := c) _ hm).2.1; omega]
    rw [s1, List.append_assoc, getN_app2 (by simpa using h1)]
    simp only [List.length_map]
    have h3 : q - c.nodes.l.length < ([inpN] ++ List.replicate ch.length inpN).length := by simp; unfold m0 at h2; omega
    have : ∀ x ∈ [inpN] ++ List.replicate ch.length inpN, x = inpN := fun x hx => by
      rcases List.mem_append.1 hx with hx | hx
      · simpa using hx
      · exact (List.mem_replicate.1 hx).2
    rw [List.getD_eq_getElem?_getD, List.getElem?_eq_getElem h3]
    exact this _ (List.getElem_mem h3)
  · intro k hk
    rw [← s4]
    exact a6 k hk
end Go.Lg

/- What Insert lays, plainly: the circuit is valid, Insert may be called. Conditions: none. -/
set_option linter.unusedSimpArgs false
set_option linter.unusedVariables false
set_option maxRecDepth 100000
namespace Go.Lg
open Go Go.Proofs

variable {c : Cir} {ch : List (Sl Int)}

theorem bef_rng (h : ScOk c ch) (n : Int) : 0 ≤ befOf (befL (c.nodes.l.length + 1 : Nat) ch) n ∧ befOf (befL (c.nodes.l.length + 1 : Nat) ch) n < m0 c ch := by
  have hf := scF h
  unfold m0
  rcases befOf_val (befL (c.nodes.l.length + 1 : Nat) ch) n with e | ⟨p, hp, e⟩
  · rw [e]; omega
  · rw [e]
    rcases befL_val ch _ p hp with e2 | e2
    · omega
    · have := ofL_in (k := 14) (c := c) _ (h.perm.mem_iff.1 e2)
      omega

theorem st_inn (h : ScOk c ch) {n : Int} (hn : n ∈ states c) : ∃ v, innAt c n.toNat = [v] ∧ 0 ≤ v ∧ v < c.nodes.l.length ∧ in0 c n = v := by
  obtain ⟨n0, n1, nk⟩ := ofL_in (k := 14) (c := c) n hn
  have hg := nd_cases h.good (i := n.toNat) (by omega)
  have hk : (c.nodes.l.getD n.toNat Nd.d).k = 14 := nk
  have hf := hg.f
  rw [hk, show fan 14 = (1, 1) by rfl] at hf
  have hi : innAt c n.toNat = (c.nodes.l.getD n.toNat Nd.d).inn.l := rfl
  rw [← hi] at hf
  have hr := hg.inn
  rw [← hi] at hr
  match hl : innAt c n.toNat with
  | [] => rw [hl] at hf; simp at hf
  | [v] =>
    rw [hl] at hr
    have := hr v (by simp)
    exact ⟨v, rfl, this.1, this.2, by simp [in0, hl]⟩
  | _ :: _ :: _ => rw [hl] at hf; simp at hf; omega

theorem sc_kind (h : ScOk c ch) {q : Nat} (hq : q < c.nodes.l.length) : ((scJ c ch).nodes.getD q Nd.d).k = kindAt c q := by
  have hf := scF h
  by_cases hk : kindAt c q = 14
  · rw [hf.dff q hq hk]; exact hk.symm
  · rw [hf.old q hq hk]; rfl

theorem sc_good (h : ScOk c ch) : GNs false (scJ c ch).nodes := by
  have hf := scF h
  intro q hq
  have hql := hf.len
  have e : (scJ c ch).nodes[q] = (scJ c ch).nodes.getD q Nd.d := by simp [List.getD_eq_getElem?_getD, hq]
  rw [e]
  by_cases h1 : q < c.nodes.l.length
  · have hg := nd_cases h.good h1
    by_cases hk : kindAt c q = 14
    · obtain ⟨r1, r2⟩ := rank_at h1 hk
      have hk' : (c.nodes.l.getD q Nd.d).k = 14 := hk
      have hmm := hg.mm
      rw [hk'] at hmm
      have r1' : rankK 14 c q < (states c).length := r1
      rw [hf.dff q h1 hk]
      refine ⟨by simp, by simp [show fan 14 = (1, 1) by rfl], ?_, fun h => by simp at h, fun h => by simp at h, hmm⟩
      intro p hp
      simp at hp
      subst hp
      rw [hql]; omega
    · rw [hf.old q h1 hk]
      refine ⟨hg.k, hg.f, fun p hp => ?_, hg.top, fun hb p hp => ?_, hg.mm⟩
      · have := hg.inn p hp; rw [hql]; unfold m0; omega
      · have hr := hg.inn p hp
        rw [sc_kind h (by omega)]
        exact hg.bus hb p hp
  · by_cases h2 : q < m0 c ch
    · rw [hf.inp q (by omega) h2]
      exact ng_inp
    · obtain ⟨k, rfl⟩ : ∃ k, q = m0 c ch + k := ⟨q - m0 c ch, by omega⟩
      have hkl : k < (states c).length := by omega
      rw [hf.mx k hkl]
      have hm : (states c).getD k 0 ∈ states c := by rw [getD_eq hkl]; exact List.getElem_mem _
      obtain ⟨v, hv, v0, v1, v2⟩ := st_inn h hm
      have hb := bef_rng h ((states c).getD k 0)
      rw [v2]
      have hm0 : c.nodes.l.length < m0 c ch := by unfold m0; omega
      refine ⟨by simp [muxN], by simp [muxN, show fan 11 = (3, 3) by rfl], ?_, ?_, fun h => by simp [muxN] at h, by simp [muxN]⟩
      · intro p hp
        simp only [muxN, List.mem_cons, List.not_mem_nil, or_false] at hp
        rw [hql]
        rcases hp with rfl | rfl | rfl <;> omega
      · intro _ p hp
        simp only [muxN, List.mem_cons, List.not_mem_nil, or_false] at hp
        rcases hp with rfl | rfl | rfl <;> omega

theorem namesErr_zero : ∀ (l done : List (List UInt8)), (∀ s ∈ l, isName s = true) → (done ++ l).Nodup → namesErr done l = 0
  | [], _, _, _ => rfl
  | s :: l, done, h, hn => by
    have h1 := h s List.mem_cons_self
    have h2 : s ∉ done := fun hm => (List.nodup_append.1 hn).2.2 s hm s List.mem_cons_self rfl
    simp only [namesErr]
    rw [if_neg (by simp [h1, h2])]
    exact namesErr_zero l (done ++ [s]) (fun x hx => h x (List.mem_cons_of_mem _ hx)) (by rw [List.append_assoc]; exact hn)

theorem isName_n : ∀ i, i < 100 → isName (nameL i) = true ∧ isName (siN i) = true ∧ isName (smN i) = true := by decide +kernel
theorem asc_n : ∀ i, i < 100 → (∀ b ∈ nameL i, b < 128) ∧ (∀ b ∈ siN i, b < 128) ∧ ∀ b ∈ smN i, b < 128 := by decide +kernel
theorem nameL_inj : ∀ i, i < 100 → ∀ j, j < 100 → nameL i = nameL j → i = j := by decide +kernel

theorem map_nodup {α : Type} {f : Nat → α} {n : Nat} (hf : ∀ i, i < n → ∀ j, j < n → f i = f j → i = j) : ((List.range' 0 n).map f).Nodup := by
  rw [List.nodup_iff_pairwise_ne, List.pairwise_map]
  refine (List.Pairwise.imp_of_mem ?_ (List.nodup_iff_pairwise_ne.1 (List.nodup_range' (s := 0) (n := n) (step := 1))))
  intro a b ha hb hab e
  simp at ha hb
  exact hab (hf a (by omega) b (by omega) e)

theorem sc_names (h : ScOk c ch) : (scJ c ch).names.Nodup ∧ ∀ s ∈ (scJ c ch).names, isName s = true ∧ ∀ b ∈ s, b < 128 := by
  have hf := scF h
  have hn2 := h.n2
  have hc := hf.chl
  have hs := hf.stl
  rw [hf.nm, h.nms]
  constructor
  · have n1 : ((List.range' 0 c.nodes.l.length).map nameL).Nodup := map_nodup fun i hi j hj e => nameL_inj i (by omega) j (by omega) e
    have n2 : ((List.range' 0 ch.length).map siN).Nodup := map_nodup fun i hi j hj e => siN_inj (by omega) (by omega) e
    have n3 : ((List.range' 0 (states c).length).map smN).Nodup := map_nodup fun i hi j hj e => smN_inj (by omega) (by omega) e
    refine List.nodup_append.2 ⟨List.nodup_append.2 ⟨List.nodup_append.2 ⟨n1, by simp, ?_⟩, n2, ?_⟩, n3, ?_⟩
    · intro a ha b hb e
      obtain ⟨i, _, rfl⟩ := List.mem_map.1 ha
      simp at hb
      rw [hb] at e
      simp [nameL, seN] at e
    · intro a ha b hb e
      obtain ⟨j, _, rfl⟩ := List.mem_map.1 hb
      rcases List.mem_append.1 ha with ha | ha
      · obtain ⟨i, _, rfl⟩ := List.mem_map.1 ha
        simp [nameL, siN] at e
      · simp at ha
        rw [ha] at e
        simp [siN, seN] at e
    · intro a ha b hb e
      obtain ⟨j, _, rfl⟩ := List.mem_map.1 hb
      rcases List.mem_append.1 ha with ha | ha
      · rcases List.mem_append.1 ha with ha | ha
        · obtain ⟨i, _, rfl⟩ := List.mem_map.1 ha
          simp [nameL, smN] at e
        · simp at ha
          rw [ha] at e
          simp [smN, seN] at e
      · obtain ⟨i, _, rfl⟩ := List.mem_map.1 ha
        simp [siN, smN] at e
  · intro s hs'
    rcases List.mem_append.1 hs' with hs' | hs'
    · rcases List.mem_append.1 hs' with hs' | hs'
      · rcases List.mem_append.1 hs' with hs' | hs'
        · obtain ⟨i, hi, rfl⟩ := List.mem_map.1 hs'
          simp at hi
          exact ⟨(isName_n i (by omega)).1, (asc_n i (by omega)).1⟩
        · simp at hs'
          subst hs'
          exact ⟨by decide +kernel, by decide⟩
      · obtain ⟨i, hi, rfl⟩ := List.mem_map.1 hs'
        simp at hi
        exact ⟨(isName_n i (by omega)).2.1, (asc_n i (by omega)).2.1⟩
    · obtain ⟨i, hi, rfl⟩ := List.mem_map.1 hs'
      simp at hi
      exact ⟨(isName_n i (by omega)).2.2, (asc_n i (by omega)).2.2⟩
end Go.Lg

/- Insert may be called for complete chains; what it lays is valid. Conditions: none. -/
set_option linter.unusedSimpArgs false
set_option linter.unusedVariables false
set_option maxRecDepth 100000
namespace Go.Lg
open Go Go.Proofs

variable {c : Cir} {ch : List (Sl Int)}

theorem lastC_mem : ∀ (l : List Int) (a : Int), l ≠ [] → lastC a l = l.getLastD 0 ∧ lastC a l ∈ l
  | [], _, h => absurd rfl h
  | [n], a, _ => ⟨rfl, by simp [lastC]⟩
  | n :: m :: l, a, _ => by
    have := lastC_mem (m :: l) n (by simp)
    simp only [lastC] at this ⊢
    refine ⟨?_, List.mem_cons_of_mem _ this.2⟩
    rw [this.1]; simp [List.getLastD]
theorem lastL_eq : ∀ (l : List (Sl Int)) (b : Int), (∀ s ∈ l, s.l ≠ []) → lastL b l = l.map fun s => s.l.getLastD 0
  | [], _, _ => rfl
  | s :: l, b, h => by
    simp only [lastL, List.map_cons]
    rw [(lastC_mem s.l b (h s List.mem_cons_self)).1, lastL_eq l (b + 1) fun x hx => h x (List.mem_cons_of_mem _ hx)]

theorem last_in (h : ScOk c ch) {s : Sl Int} (hs : s ∈ ch) : s.l.getLastD 0 ∈ s.l ∧ 0 ≤ s.l.getLastD 0 ∧ s.l.getLastD 0 < c.nodes.l.length ∧ kindAt c (s.l.getLastD 0).toNat = 14 := by
  have h1 := lastC_mem s.l 0 (h.ne s hs).1
  rw [← h1.1]
  have hm : lastC 0 s.l ∈ elems ch := by
    unfold elems
    exact List.mem_flatten.2 ⟨s.l, List.mem_map.2 ⟨s, hs, rfl⟩, h1.2⟩
  have := ofL_in (k := 14) (c := c) _ (h.perm.mem_iff.1 hm)
  exact ⟨h1.2, this⟩

theorem sc_outs (h : ScOk c ch) : (scC c ch).outs.l = c.outs.l ++ ch.map fun s => s.l.getLastD 0 := by
  show (scS c ch).outs = _
  rw [(scF h).outs, lastL_eq _ _ fun s hs => (h.ne s hs).1]

theorem sc_valid (h : ScOk c ch) : levErr (scC c ch) = 0 := by
  have hf := scF h
  have hn2 := h.n2
  have ho := h.outs
  have hc := hf.chl
  have hs := hf.stl
  have hN : (scC c ch).nodes.l = (scJ c ch).nodes := rfl
  have hnl : (scC c ch).nodes.l.length = m0 c ch + (states c).length := hf.len
  refine valid_of (sc_good h) rfl (by rw [hnl]; unfold m0; omega) ⟨?_, ?_⟩ ?_ ?_
  · rw [sc_outs h]; simp; omega
  · intro p hp
    rw [sc_outs h] at hp
    rw [hnl]
    rcases List.mem_append.1 hp with hp | hp
    · have := ho.2 p hp; unfold m0; omega
    · obtain ⟨s, hs', rfl⟩ := List.mem_map.1 hp
      have := last_in h hs'
      unfold m0; omega
  · rw [hnl]
    show (scJ c ch).names.length = _
    rw [hf.nm, h.nms]; simp [m0]; omega
  · have := sc_names h
    exact namesErr_zero _ [] (fun s hs => (this.2 s hs).1) (by rw [List.nil_append]; exact this.1)

theorem sc_cok (h : ScOk c ch) : COk (scC c ch) := by
  have hf := scF h
  have hn2 := h.n2
  have ho := h.outs
  have hc := hf.chl
  have hs := hf.stl
  have hg := sc_good h
  have hN : (scC c ch).nodes.l = (scJ c ch).nodes := rfl
  have hnl : (scC c ch).nodes.l.length = m0 c ch + (states c).length := hf.len
  have hfl := fun k : Int => fan_le k
  refine ⟨⟨by rw [hnl]; unfold m0; omega, ?_, by show ([] : List Mm).length ≤ _; simp, by rw [sc_outs h]; simp; omega, ?_, ?_, fun m hm => by cases hm⟩, fun s hs => ((sc_names h).2 s hs).2⟩
  · show (scJ c ch).names.length ≤ _
    rw [hf.nm, h.nms]; simp; omega
  · intro x hx
    obtain ⟨i, hi, rfl⟩ := List.getElem_of_mem hx
    have := (hg i hi).k
    show 0 ≤ (scJ c ch).nodes[i].k ∧ (scJ c ch).nodes[i].k ≤ 255
    omega
  · intro x hx
    obtain ⟨i, hi, rfl⟩ := List.getElem_of_mem hx
    have := (hg i hi).f
    have h3 := hfl ((scJ c ch).nodes[i]'hi).k
    show (scJ c ch).nodes[i].inn.l.length ≤ _
    omega

theorem scOk_ins (h : ScOk c ch) (hp : plainErr c = 0) (cap : Option Nat) (nl : Option Bool) : InsOk c ⟨ch, cap, nl⟩ := by
  have hf := scF h
  have hn2 := h.n2
  have hc := hf.chl
  have hs := hf.stl
  have ho := h.outs
  have hle := elems_le ch fun s hs => (h.ne s hs).1
  have hpl := h.perm.length_eq
  have hnd : (elems ch).Nodup := h.perm.nodup_iff.2 (ofL_nodup [14] c.nodes.l 0).2
  have n1 : ((List.range' 0 c.nodes.l.length).map nameL).Nodup := map_nodup fun i hi j hj e => nameL_inj i (by omega) j (by omega) e
  have hnn : c.names.l.length = c.nodes.l.length := by rw [h.nms]; simp
  refine ⟨h.ok, h.cp, by rw [h.nms]; exact n1, ?_, by show ch.length ≤ _; omega, fun s hs => by have := hle.2 s hs; omega, by omega, by omega, by omega, ?_, ?_, ?_, ?_⟩
  · rw [h.nms]
    intro hm
    obtain ⟨i, _, e⟩ := List.mem_map.1 hm
    simp [nameL, seN] at e
  · refine okCh_ind ch 0 (scS0 c) (c.names.l ++ [seN]) (by simp [scS0]) ?_ (by omega) (by simp [scS0]; omega) (by simp [scS0]; omega) rfl rfl (by simp [scS0]; omega) (by simpa [scS0] using hnd) fun s hs => ⟨(h.ne s hs).1, (h.ne s hs).2, by have := hle.2 s hs; omega⟩
    intro j hj hm
    rw [h.nms] at hm
    rcases List.mem_append.1 hm with hm | hm
    · obtain ⟨i, _, e⟩ := List.mem_map.1 hm
      simp [nameL, siN] at e
    · simp [siN, seN] at hm
  · refine okSt_ind c c.nodes.l.length (scS c ch).bef (states c) 0 ⟨(scS c ch).nodes, (scS c ch).names, []⟩ (scS c ch).names (by simp) ?_ (by omega) ?_ ?_ rfl ?_
    · intro j hj hm
      rw [hf.snm, h.nms] at hm
      rcases List.mem_append.1 hm with hm | hm
      · rcases List.mem_append.1 hm with hm | hm
        · obtain ⟨i, _, e⟩ := List.mem_map.1 hm
          simp [nameL, smN] at e
        · simp [smN, seN] at hm
      · obtain ⟨i, _, e⟩ := List.mem_map.1 hm
        simp [siN, smN] at e
    · show (scS c ch).nodes.length ≤ _
      rw [hf.snl]; unfold m0; omega
    · show (scS c ch).names.length ≤ _
      rw [hf.snm]; simp; omega
    · intro n hn
      have := ofL_in (k := 14) (c := c) n hn
      obtain ⟨v, hv, _⟩ := st_inn h hn
      refine ⟨this.1, this.2.1, ?_, by rw [hv]; simp⟩
      show n < (scS c ch).nodes.length
      rw [hf.snl]; unfold m0; omega
  · intro he
    have he : ch = [] := he
    have : (elems ch).length = 0 := by rw [he]; rfl
    exact List.eq_nil_of_length_eq_zero (by omega)
  · exact check_perm hp (by show ch.length ≤ 64; omega) (fun s hs => (h.ne s hs).1) h.perm
theorem gI' {l : List Int} {i : Nat} (h0 : i < l.length) : ∀ h : i < (ints l).length, (ints l)[i] = [tI (l.getD i 0)] := fun h => by rw [← gi1 h0]; simp [h]
end Go.Lg

/- The nets of the circuit with scan chains: its old nodes have the nets of the circuit. Conditions: none. -/
set_option linter.unusedSimpArgs false
set_option linter.unusedVariables false
set_option maxRecDepth 100000
namespace Go.Lg
open Go Go.Proofs
variable {c : Cir} {ch : List (Sl Int)}

theorem ofL_congr (ks : List Int) : ∀ (a b : List Nd) (i : Nat), a.map (·.k) = b.map (·.k) → ofL ks a i = ofL ks b i
  | [], [], _, _ => rfl
  | [], _ :: _, _, h => by cases h
  | _ :: _, [], _, h => by cases h
  | x :: a, y :: b, i, h => by
    simp only [List.map_cons, List.cons.injEq] at h
    simp only [ofL, h.1, ofL_congr ks a b (i + 1) h.2]
theorem ofL_rep0 (ks : List Int) (x : Nd) (h : ks.contains x.k = false) : ∀ (m i : Nat), ofL ks (List.replicate m x) i = []
  | 0, _ => rfl
  | m + 1, i => by simp only [List.replicate_succ, ofL, h, ofL_rep0 ks x h m (i + 1)]; rfl
theorem ofL_rep1 (ks : List Int) (x : Nd) (h : ks.contains x.k = true) : ∀ (m i : Nat), ofL ks (List.replicate m x) i = insOf i m
  | 0, _ => rfl
  | m + 1, i => by simp only [List.replicate_succ, ofL, h, if_true, insOf_succ, ofL_rep1 ks x h m (i + 1)]
theorem mapk_getD (l : List Nd) (j : Nat) : (l.map (·.k)).getD j 0 = (l.getD j Nd.d).k := by
  rw [List.getD_eq_getElem?_getD, List.getD_eq_getElem?_getD, List.getElem?_map]
  cases l[j]? <;> rfl
theorem ext_getD0 {a b : List Int} (hl : a.length = b.length) (h : ∀ j, j < a.length → a.getD j 0 = b.getD j 0) : a = b := by
  refine List.ext_getElem hl fun i h1 h2 => ?_
  have := h i h1
  rwa [getD_eq h1, getD_eq h2] at this

/-- Nodes of the kinds of the circuit with scan chains. -/
def likeL (c : Cir) (ch : List (Sl Int)) : List Nd := c.nodes.l ++ (List.replicate (1 + ch.length) inpN ++ List.replicate (states c).length (muxN 0 0 0))
theorem sc_kinds (h : ScOk c ch) : (scC c ch).nodes.l.map (·.k) = (likeL c ch).map (·.k) := by
  have hf := scF h
  have hlen : (scC c ch).nodes.l.length = m0 c ch + (states c).length := hf.len
  have hll : (likeL c ch).length = m0 c ch + (states c).length := by simp [likeL, m0]; omega
  refine ext_getD0 (by simp [hlen, hll]) fun j hj => ?_
  rw [List.length_map, hlen] at hj
  rw [mapk_getD, mapk_getD]
  show ((scJ c ch).nodes.getD j Nd.d).k = _
  by_cases h1 : j < c.nodes.l.length
  · rw [sc_kind h h1]
    unfold likeL
    rw [List.getD_eq_getElem?_getD (l := c.nodes.l ++ _), List.getElem?_append_left h1, ← List.getD_eq_getElem?_getD]; rfl
  · unfold likeL
    rw [List.getD_eq_getElem?_getD (l := c.nodes.l ++ _), List.getElem?_append_right (by omega)]
    by_cases h2 : j < m0 c ch
    · rw [hf.inp j (by omega) h2, List.getElem?_append_left (by rw [List.length_replicate]; unfold m0 at h2; omega), List.getElem?_replicate, if_pos (by unfold m0 at h2; omega)]; rfl
    · obtain ⟨k, rfl⟩ : ∃ k, j = m0 c ch + k := ⟨j - m0 c ch, by omega⟩
      rw [hf.mx k (by omega), List.getElem?_append_right (by rw [List.length_replicate]; unfold m0 at h2 ⊢; omega), List.getElem?_replicate, if_pos (by rw [List.length_replicate]; unfold m0 at h2 hj ⊢; omega)]; rfl

theorem sc_inputs (h : ScOk c ch) : inputs (scC c ch) = inputs c ++ insOf c.nodes.l.length (1 + ch.length) := by
  show ofL [0] (scC c ch).nodes.l 0 = _
  rw [ofL_congr _ _ _ _ (sc_kinds h), likeL, ofL_app, ofL_app, ofL_rep1 [0] inpN rfl, ofL_rep0 [0] (muxN 0 0 0) rfl, List.append_nil, Nat.zero_add]
  rfl
theorem sc_states (h : ScOk c ch) : states (scC c ch) = states c := by
  show ofL [14] (scC c ch).nodes.l 0 = _
  rw [ofL_congr _ _ _ _ (sc_kinds h), likeL, ofL_app, ofL_app, ofL_rep0 [14] inpN rfl, ofL_rep0 [14] (muxN 0 0 0) rfl, List.append_nil, List.append_nil]
  rfl
theorem sc_take (h : ScOk c ch) (i : Nat) : ((scC c ch).nodes.l.take i).map (·.k) = ((likeL c ch).take i).map (·.k) := by
  rw [List.map_take, List.map_take, sc_kinds h]
theorem sc_rank (h : ScOk c ch) (k : Int) {i : Nat} (hi : i ≤ c.nodes.l.length) : rankK k (scC c ch) i = rankK k c i := by
  unfold rankK
  rw [ofL_congr _ _ _ _ (sc_take h i), likeL, List.take_append_of_le_length hi]
theorem insOf_len (n m : Nat) : (insOf n m).length = m := by simp [insOf]
theorem sc_rank_in (h : ScOk c ch) {q : Nat} (hq : q < 1 + ch.length) : rankK 0 (scC c ch) (c.nodes.l.length + q) = (inputs c).length + q := by
  unfold rankK
  rw [ofL_congr _ _ _ _ (sc_take h _), likeL, List.take_append, ofL_app, List.take_append, List.take_replicate]
  have e1 : c.nodes.l.length + q - c.nodes.l.length = q := by omega
  have e2 : min q (1 + ch.length) = q := by omega
  have e3 : q - (1 + ch.length) = 0 := by omega
  rw [List.length_replicate, e1, e2, e3, List.take_zero, List.append_nil, ofL_rep1 [0] inpN rfl, List.length_append, insOf_len, List.take_of_length_le (by omega)]
  rfl

theorem kind_in (h : ScOk c ch) {q : Nat} (h1 : c.nodes.l.length ≤ q) (h2 : q < m0 c ch) : kindAt (scC c ch) q = 0 := by
  show ((scJ c ch).nodes.getD q Nd.d).k = 0
  rw [(scF h).inp q h1 h2]; rfl
theorem inn_old (h : ScOk c ch) {q : Nat} (hq : q < c.nodes.l.length) (hk : kindAt c q ≠ 14) : innAt (scC c ch) q = innAt c q := by
  show ((scJ c ch).nodes.getD q Nd.d).inn.l = _
  rw [(scF h).old q hq hk]; rfl

/-- What the inputs of the circuit with scan chains are: those of the circuit, the enable, the chains' inputs. -/
theorem sc_len (h : ScOk c ch) : (scC c ch).nodes.l.length = c.nodes.l.length + 1 + ch.length + (states c).length := (scF h).len
theorem sc_inLen (h : ScOk c ch) {pin v : List Int} {e : Int} (h1 : pin.length = (inputs c).length) (hv : v.length = ch.length) : (pin ++ ([e] ++ v)).length = (inputs (scC c ch)).length := by
  rw [sc_inputs h, List.length_append, List.length_append, List.length_append, insOf_len, h1, hv]; simp

theorem sc_nets (h : ScOk c ch) (hp : levErr c = 0) {pin pst v : List Int} {e : Int} (h1 : pin.length = (inputs c).length) (h2 : pst.length = (states c).length) (hv : v.length = ch.length) :
    ∀ i, i < c.nodes.l.length → (netsL (scC c ch) (pin ++ ([e] ++ v)) pst).getD i 0 = (netsL c pin pst).getD i 0 := by
  have f1 := nets_fix (sc_valid h) (pin ++ ([e] ++ v)) pst
  have f2 := nets_fix hp pin pst
  have hl := sc_len h
  have hin := sc_inLen h (e := e) h1 hv
  have hst : pst.length = (states (scC c ch)).length := by rw [sc_states h]; exact h2
  refine lev_ind hp fun i hi hq => ?_
  have hi' : i < (scC c ch).nodes.l.length := by omega
  have hk : kindAt (scC c ch) i = kindAt c i := sc_kind h hi
  rw [f1.2 i hi', f2.2 i hi, hk]
  by_cases hc : combB (kindAt c i) = true
  · rw [if_pos hc, if_pos hc]
    have h14 : kindAt c i ≠ 14 := fun h => by rw [h] at hc; exact absurd hc (by decide)
    congr 1
    unfold inVals
    rw [inn_old h hi h14]
    exact List.map_congr_left fun p hp => (hq hc p hp).2
  · rw [if_neg hc, if_neg hc, load_at hin hst hi', load_at h1 h2 hi, hk]
    by_cases h0 : kindAt c i = 0
    · have hr := (rank_at hi h0).1
      have hr' : rankK 0 c i < pin.length := by rw [h1]; exact hr
      rw [if_pos h0, if_pos h0, sc_rank h 0 (by omega), List.getD_eq_getElem?_getD, List.getElem?_append_left hr', ← List.getD_eq_getElem?_getD]
    · rw [if_neg h0, if_neg h0, sc_rank h 14 (by omega)]

theorem sc_net_in (h : ScOk c ch) {pin pst v : List Int} {e : Int} (h1 : pin.length = (inputs c).length) (h2 : pst.length = (states c).length) (hv : v.length = ch.length) {q : Nat} (hq : q < 1 + ch.length) :
    (netsL (scC c ch) (pin ++ ([e] ++ v)) pst).getD (c.nodes.l.length + q) 0 = ([e] ++ v).getD q 0 := by
  have f1 := nets_fix (sc_valid h) (pin ++ ([e] ++ v)) pst
  have hl := sc_len h
  have hin := sc_inLen h (e := e) h1 hv
  have hst : pst.length = (states (scC c ch)).length := by rw [sc_states h]; exact h2
  have hi' : c.nodes.l.length + q < (scC c ch).nodes.l.length := by omega
  have hk : kindAt (scC c ch) (c.nodes.l.length + q) = 0 := kind_in h (by omega) (by unfold m0; omega)
  rw [f1.2 _ hi', hk, if_neg (by decide), load_at hin hst hi', if_pos hk, sc_rank_in h hq, List.getD_eq_getElem?_getD, List.getElem?_append_right (by omega), ← List.getD_eq_getElem?_getD]
  congr 1; omega
theorem sc_net_mx (h : ScOk c ch) {pin pst : List Int} {k : Nat} (hk : k < (states c).length) :
    (netsL (scC c ch) pin pst).getD (m0 c ch + k) 0 = evalL 11 [(netsL (scC c ch) pin pst).getD c.nodes.l.length 0, (netsL (scC c ch) pin pst).getD (in0 c ((states c).getD k 0)).toNat 0, (netsL (scC c ch) pin pst).getD (befOf (befL (c.nodes.l.length + 1 : Nat) ch) ((states c).getD k 0)).toNat 0] := by
  have f1 := nets_fix (sc_valid h) pin pst
  have hl := sc_len h
  have hi' : m0 c ch + k < (scC c ch).nodes.l.length := by unfold m0; omega
  have hm : (scC c ch).nodes.l.getD (m0 c ch + k) Nd.d = _ := (scF h).mx k hk
  have hkd : kindAt (scC c ch) (m0 c ch + k) = 11 := by unfold kindAt; rw [hm]; rfl
  have hin : innAt (scC c ch) (m0 c ch + k) = [(c.nodes.l.length : Int), in0 c ((states c).getD k 0), befOf (befL (c.nodes.l.length + 1 : Nat) ch) ((states c).getD k 0)] := by unfold innAt; rw [hm]; rfl
  have h2 := f1.2 _ hi'
  rw [hkd, if_pos (by decide)] at h2
  rw [h2]
  unfold inVals
  rw [hin]
  rfl
end Go.Lg

/- Patterns of plain data; SimsUnique. Conditions: none. -/
set_option linter.unusedSimpArgs false
set_option linter.unusedVariables false
set_option maxRecDepth 100000
namespace Go.Lg
open Go Go.Proofs
variable {Γ : Tables}

/-- What is known of a circuit of plain data without memory. -/
structure NOk (c : Cir) : Prop where
  ok : COk c
  lev : levErr c = 0
  mm : c.mems.l = []
  m0 : mems c = []
  n1 : 1 ≤ c.nodes.l.length
  n2 : c.nodes.l.length ≤ 16
  k : ∀ i, i < c.nodes.l.length → 0 ≤ kindAt c i ∧ kindAt c i ≤ 14

theorem NOk_of {x : CD} (hx : CDOk x) (hm : x.mem = false) : NOk (ofC x) := by
  have hl := nodes4_len hx
  have h5 := nodes5_len hx
  have hN : (ofC x).nodes.l = nodes5 x := rfl
  have hp := ofC_plain hx hm
  have hv := ofC_valid hx
  have h1 : (ofC x).mems.l = [] := by simp [ofC, memM, hm]
  have h2 : mems (ofC x) = [] := by
    unfold plainErr at hp
    rw [if_neg (by simp [hv])] at hp
    split at hp
    · cases hp
    · rename_i h; exact List.eq_nil_of_length_eq_zero (by omega)
  refine ⟨ofC_ok hx, hv, h1, h2, by rw [hN]; omega, by rw [hN]; omega, fun i hi => ?_⟩
  have hs := (levErr_zero hv).1
  have hn := (shape_facts hs).2.2.1 _ (List.getElem_mem hi)
  have hk : kindAt (ofC x) i = (ofC x).nodes.l[i].k := by simp [kindAt, hi]
  have hkk := (ofC_ok hx).kind _ (List.getElem_mem hi)
  have h15 : ¬ kindAt (ofC x) i = 15 := fun e => by
    have : (i : Int) ∈ mems (ofC x) := (mem_ofL hi).2 e
    rw [h2] at this; cases this
  have hle : ¬ 15 < (ofC x).nodes.l[i].k := fun h => by
    unfold nodeErr at hn
    rw [if_pos h] at hn; cases hn
  rw [hk] at h15 ⊢
  omega

theorem taken_4 {l : List Int} {n : Nat} {most : Int} (hl : ∀ v ∈ l, 0 ≤ v) (hm : 0 < most ∧ most ≤ 4) : ∀ v ∈ takenL l n most, V4 v := by
  intro v hv
  obtain ⟨i, _, rfl⟩ := List.mem_map.1 hv
  split
  · simp [V4]
  · rename_i h
    have hpos : 0 < l.length := List.length_pos_iff.2 h
    have h0 : 0 ≤ l.getD (i % l.length) 0 := by
      rw [getD_eq (Nat.mod_lt _ hpos)]; exact hl _ (List.getElem_mem _)
    generalize l.getD (i % l.length) 0 = u at *
    rw [Int.tmod_eq_emod_of_nonneg h0]
    have := Int.emod_nonneg u (show most ≠ 0 by omega)
    have := Int.emod_lt_of_pos u hm.1
    unfold V4; omega

/-- A pattern fits. -/
structure POk (c : Cir) (p : Pat) : Prop where
  i : p.inn.l.length = (inputs c).length
  s : p.st.l.length = (states c).length
  vi : ∀ v ∈ p.inn.l, V4 v
  vs : ∀ v ∈ p.st.l, V4 v

theorem patOf_ok {q : PD} (hq : PDOk q) (c : Cir) : POk c (patOf q c) :=
  ⟨takenL_len, takenL_len, taken_4 (fun v hv => (hq.1 v hv).1) (by omega), taken_4 (fun v hv => (hq.2 v hv).1) (by omega)⟩

theorem fits_zero {c : Cir} (hc : NOk c) {p : Pat} (hp : POk c p) : runErr c p = 0 := by
  unfold runErr
  rw [if_neg (by simp [hc.lev])]
  unfold fitsErr
  have a1 : ∀ {l : List Int}, (∀ v ∈ l, V4 v) → l.any aboveV = false := fun h => List.any_eq_false.2 fun v hv => by have := (h v hv).2; simp [aboveV]; omega
  rw [if_neg (by rw [hc.mm, hc.m0]; simp), if_neg (by simp [hp.i, hp.s]), a1 hp.vi, a1 hp.vs]
  simp

theorem Run_ok (hΓ : GOk Γ) {c : Cir} (hc : NOk c) {p : Pat} (hp : POk c p) :
    PureCalls Tryz.prog Γ 15 [.agg (tC c), .agg (tP p)] (.tup [.agg [tVs (outL c (netsL c p.inn.l p.st.l)), tVs (nextsL c (netsL c p.inn.l p.st.l))], .sl (vals (netsL c p.inn.l p.st.l)) (some c.nodes.l.length) none, tI 0]) := by
  have hcn := hc.n2
  have h := Run_spec hΓ c hc.ok (by omega) p ⟨by rw [hp.i]; have := inputs_len c; omega, by rw [hp.s]; have := states_len' c; omega⟩ ⟨fun v hv => (hp.vi v hv).1, fun v hv => (hp.vs v hv).1⟩
  unfold runRes at h
  rwa [if_pos (fits_zero hc hp)] at h

theorem nets_len {c : Cir} {a b : List Int} : (netsL c a b).length = c.nodes.l.length := by unfold netsL; rw [runL_len, loadL_len]
end Go.Lg

/- The next states of the circuit with scan chains, and its outputs. Conditions: none. -/
set_option linter.unusedSimpArgs false
set_option linter.unusedVariables false
set_option maxRecDepth 100000
namespace Go.Lg
open Go Go.Proofs
variable {c : Cir} {ch : List (Sl Int)}

theorem befOf_hit {x a : Int} {rest : List (Int × Int)} : befOf ((x, a) :: rest) x = a := by simp [befOf]
theorem befOf_miss {x y a : Int} {rest : List (Int × Int)} (h : y ≠ x) : befOf ((y, a) :: rest) x = befOf rest x := by simp [befOf, h]
theorem befOf_skip {x : Int} {rest : List (Int × Int)} : ∀ {A : List (Int × Int)}, (∀ p ∈ A, p.1 ≠ x) → befOf (A ++ rest) x = befOf rest x
  | [], _ => rfl
  | (y, a) :: A, h => by
    rw [List.cons_append, befOf_miss (h (y, a) List.mem_cons_self), befOf_skip fun p hp => h p (List.mem_cons_of_mem _ hp)]
theorem befOf_prevs {rest : List (Int × Int)} : ∀ (l : List Int) (a : Int), l.Nodup → ∀ m, m < l.length → befOf (prevs a l ++ rest) (l.getD m 0) = if m = 0 then a else l.getD (m - 1) 0
  | [], _, _, _, h => absurd h (by simp)
  | n :: l, a, hn, 0, _ => by simp only [prevs, List.cons_append, List.getD_cons_zero, befOf_hit, if_true]
  | n :: l, a, hn, m + 1, hm => by
    obtain ⟨h1, h2⟩ := List.nodup_cons.1 hn
    have hm' : m < l.length := by simpa using hm
    have hne : n ≠ l.getD m 0 := fun e => h1 (by rw [e, getD_eq hm']; exact List.getElem_mem _)
    rw [List.getD_cons_succ]
    simp only [prevs, List.cons_append]
    rw [befOf_miss hne, befOf_prevs l n h2 m hm', if_neg (show ¬ (m + 1 = 0) by omega)]
    by_cases h0 : m = 0
    · subst h0; rfl
    · obtain ⟨q, rfl⟩ : ∃ q, m = q + 1 := ⟨m - 1, by omega⟩
      rw [if_neg (show ¬ (q + 1 = 0) by omega)]; rfl
def slD : Sl Int := ⟨[], none, none⟩
theorem bef_at : ∀ (l : List (Sl Int)) (b : Int), (elems l).Nodup → ∀ k, k < l.length → ∀ m, m < (l.getD k slD).l.length → befOf (befL b l) ((l.getD k slD).l.getD m 0) = if m = 0 then b + k else (l.getD k slD).l.getD (m - 1) 0
  | [], _, _, _, h, _, _ => absurd h (by simp)
  | s :: l, b, hn, 0, _, m, hm => by
    rw [elems_cons, List.nodup_append] at hn
    simp only [List.getD_cons_zero] at hm ⊢
    simp only [befL]
    rw [befOf_prevs s.l b hn.1 m hm]
    simp
  | s :: l, b, hn, k + 1, hk, m, hm => by
    rw [elems_cons, List.nodup_append] at hn
    simp only [List.getD_cons_succ] at hm ⊢
    simp only [befL]
    have hk' : k < l.length := by simpa using hk
    have hmem : (l.getD k slD).l.getD m 0 ∈ elems l := by
      rw [getD_eq hm]
      unfold elems
      refine List.mem_flatten.2 ⟨(l.getD k slD).l, List.mem_map.2 ⟨l.getD k slD, ?_, rfl⟩, List.getElem_mem _⟩
      rw [List.getD_eq_getElem?_getD, List.getElem?_eq_getElem hk']
      exact List.getElem_mem _
    rw [befOf_skip fun p hp e => by
      have h1 : p.1 ∈ (prevs b s.l).map (·.1) := List.mem_map.2 ⟨p, hp, rfl⟩
      rw [prevs_keys] at h1
      exact hn.2.2 p.1 h1 _ hmem e]
    rw [bef_at l (b + 1) hn.2.1 k hk' m hm]
    split
    · push_cast; omega
    · rfl

theorem mux0 {a b : Int} : evalL 11 [0, a, b] = readV a := by
  have h : widBad 11 ([0, a, b] : List Int).length = false := rfl
  unfold evalL; rw [h]; rfl
theorem mux1 {a b : Int} : evalL 11 [1, a, b] = readV b := by
  have h : widBad 11 ([1, a, b] : List Int).length = false := rfl
  unfold evalL; rw [h]; rfl
theorem read_clean {v : Int} : readV (cleanV v) = readV v := by unfold readV cleanV; split <;> split <;> (try split) <;> omega
theorem read_read {v : Int} : readV (readV v) = readV v := by unfold readV; split <;> (try split) <;> omega

theorem getD_nodup {l : List Int} (h : l.Nodup) {a b : Nat} (ha : a < l.length) (hb : b < l.length) (e : l.getD a 0 = l.getD b 0) : a = b := by
  rw [getD_eq ha, getD_eq hb] at e
  exact (List.getElem_inj h).1 e
theorem st_rank {q : Nat} (hq : q < (states c).length) : rankK 14 c ((states c).getD q 0).toNat = q := by
  have hm := ofL_in (k := 14) (c := c) ((states c).getD q 0) (by rw [getD_eq hq]; exact List.getElem_mem _)
  obtain ⟨r1, r2⟩ := rank_at (c := c) (i := ((states c).getD q 0).toNat) (by omega) hm.2.2
  refine getD_nodup (ofL_nodup [14] c.nodes.l 0).2 r1 hq ?_
  rw [r2]
  have : (((states c).getD q 0).toNat : Int) = (states c).getD q 0 := by omega
  exact this
theorem st_net (hp : levErr c = 0) {pin pst : List Int} (h1 : pin.length = (inputs c).length) (h2 : pst.length = (states c).length) {q : Nat} (hq : q < (states c).length) : (netsL c pin pst).getD ((states c).getD q 0).toNat 0 = pst.getD q 0 := by
  have f := nets_fix hp pin pst
  have hm := ofL_in (k := 14) (c := c) ((states c).getD q 0) (by rw [getD_eq hq]; exact List.getElem_mem _)
  have hi : ((states c).getD q 0).toNat < c.nodes.l.length := by omega
  rw [f.2 _ hi, hm.2.2, if_neg (by decide), load_at h1 h2 hi, hm.2.2, if_neg (by decide), if_pos rfl, st_rank hq]

theorem nexts_getD {c : Cir} {N : List Int} {q : Nat} (hq : q < (states c).length) : (nextsL c N).getD q 0 = nextL c N ((states c).getD q 0) := by
  unfold nextsL
  rw [List.getD_eq_getElem?_getD, List.getElem?_map, List.getElem?_eq_getElem hq, getD_eq hq]; rfl

/-- The next state of the circuit with scan chains is what the mux reads. -/
theorem sc_next (h : ScOk c ch) {pin pst : List Int} {q : Nat} (hq : q < (states c).length) :
    (nextsL (scC c ch) (netsL (scC c ch) pin pst)).getD q 0 = readV (evalL 11 [(netsL (scC c ch) pin pst).getD c.nodes.l.length 0, (netsL (scC c ch) pin pst).getD (in0 c ((states c).getD q 0)).toNat 0, (netsL (scC c ch) pin pst).getD (befOf (befL (c.nodes.l.length + 1 : Nat) ch) ((states c).getD q 0)).toNat 0]) := by
  have hm := ofL_in (k := 14) (c := c) ((states c).getD q 0) (by rw [getD_eq hq]; exact List.getElem_mem _)
  have hi : ((states c).getD q 0).toNat < c.nodes.l.length := by omega
  have hl := sc_len h
  rw [nexts_getD (by rw [sc_states h]; exact hq), sc_states h]
  have hin : innAt (scC c ch) ((states c).getD q 0).toNat = [((m0 c ch + q : Nat) : Int)] := by
    show ((scJ c ch).nodes.getD _ Nd.d).inn.l = _
    rw [(scF h).dff _ hi hm.2.2, st_rank hq]
  unfold nextL
  rw [hin, if_pos (show ([((m0 c ch + q : Nat) : Int)] : List Int).length = 1 from rfl)]
  have hN : (netsL (scC c ch) pin pst).length = (scC c ch).nodes.l.length := nets_len
  have hv : valueL (netsL (scC c ch) pin pst) (([((m0 c ch + q : Nat) : Int)] : List Int).getD 0 0) = cleanV ((netsL (scC c ch) pin pst).getD (m0 c ch + q) 0) := by
    unfold valueL
    rw [if_neg (by rw [hN, hl]; show ¬ ((((m0 c ch + q : Nat) : Int)) < 0 ∨ ((_ : Nat) : Int) ≤ ((m0 c ch + q : Nat) : Int)); unfold m0; omega)]
    rfl
  rw [hv, read_clean, sc_net_mx h hq]

theorem sc_next0 (h : ScOk c ch) (hp : levErr c = 0) {pin pst v : List Int} (h1 : pin.length = (inputs c).length) (h2 : pst.length = (states c).length) (hv : v.length = ch.length) :
    nextsL (scC c ch) (netsL (scC c ch) (pin ++ ([0] ++ v)) pst) = nextsL c (netsL c pin pst) := by
  refine ext_getD0 (by unfold nextsL; rw [List.length_map, List.length_map, sc_states h]) fun q hq => ?_
  have hq' : q < (states c).length := by unfold nextsL at hq; rwa [List.length_map, sc_states h] at hq
  rw [sc_next h hq']
  have e0 : (netsL (scC c ch) (pin ++ ([0] ++ v)) pst).getD c.nodes.l.length 0 = 0 := sc_net_in h h1 h2 hv (q := 0) (by omega)
  obtain ⟨x, hx, x0, x1, x2⟩ := st_inn h (n := (states c).getD q 0) (by rw [getD_eq hq']; exact List.getElem_mem _)
  rw [e0, mux0, read_read, x2, sc_nets h hp h1 h2 hv x.toNat (by omega), nexts_getD hq']
  unfold nextL
  rw [hx, if_pos (show ([x] : List Int).length = 1 from rfl)]
  have hN : (netsL c pin pst).length = c.nodes.l.length := nets_len
  have : valueL (netsL c pin pst) (([x] : List Int).getD 0 0) = cleanV ((netsL c pin pst).getD x.toNat 0) := by
    unfold valueL
    rw [if_neg (by rw [hN]; show ¬ (x < 0 ∨ _ ≤ x); omega)]
    rfl
  rw [this, read_clean]

theorem sc_next1 (h : ScOk c ch) {pin pst v : List Int} (h1 : pin.length = (inputs c).length) (h2 : pst.length = (states c).length) (hv : v.length = ch.length) {q : Nat} (hq : q < (states c).length) :
    (nextsL (scC c ch) (netsL (scC c ch) (pin ++ ([1] ++ v)) pst)).getD q 0 = readV ((netsL (scC c ch) (pin ++ ([1] ++ v)) pst).getD (befOf (befL (c.nodes.l.length + 1 : Nat) ch) ((states c).getD q 0)).toNat 0) := by
  have e0 : (netsL (scC c ch) (pin ++ ([1] ++ v)) pst).getD c.nodes.l.length 0 = 1 := sc_net_in h h1 h2 hv (q := 0) (by omega)
  rw [sc_next h hq, e0, mux1, read_read]

/-- What a node of a chain takes over. -/
def befV (ch : List (Sl Int)) (st pst v : List Int) (k m : Nat) : Int := readV (if m = 0 then v.getD k 0 else pst.getD (st.idxOf ((ch.getD k slD).l.getD (m - 1) 0)) 0)
theorem sc_shift (h : ScOk c ch) (hp : levErr c = 0) {pin pst v : List Int} (h1 : pin.length = (inputs c).length) (h2 : pst.length = (states c).length) (hv : v.length = ch.length) {k m q : Nat} (hk : k < ch.length) (hm : m < (ch.getD k slD).l.length) (hq : q < (states c).length) (he : (states c).getD q 0 = (ch.getD k slD).l.getD m 0) :
    (nextsL (scC c ch) (netsL (scC c ch) (pin ++ ([1] ++ v)) pst)).getD q 0 = befV ch (states c) pst v k m := by
  have hnd : (elems ch).Nodup := h.perm.nodup_iff.2 (ofL_nodup [14] c.nodes.l 0).2
  rw [sc_next1 h h1 h2 hv hq, he, bef_at ch _ hnd k hk m hm]
  unfold befV
  congr 1
  by_cases h0 : m = 0
  · rw [if_pos h0, if_pos h0]
    have := sc_net_in (e := 1) h h1 h2 hv (q := 1 + k) (by omega)
    have e : ((c.nodes.l.length + 1 : Nat) + k : Int).toNat = c.nodes.l.length + (1 + k) := by omega
    rw [e, this, Nat.add_comm 1 k]; rfl
  · rw [if_neg h0, if_neg h0]
    have hmem : (ch.getD k slD).l.getD (m - 1) 0 ∈ states c := by
      refine h.perm.mem_iff.1 ?_
      rw [getD_eq (by omega)]
      unfold elems
      refine List.mem_flatten.2 ⟨(ch.getD k slD).l, List.mem_map.2 ⟨ch.getD k slD, ?_, rfl⟩, List.getElem_mem _⟩
      rw [List.getD_eq_getElem?_getD, List.getElem?_eq_getElem hk]
      exact List.getElem_mem _
    have hx := List.idxOf_lt_length_iff.2 hmem
    have hy : (states c).getD ((states c).idxOf ((ch.getD k slD).l.getD (m - 1) 0)) 0 = (ch.getD k slD).l.getD (m - 1) 0 := by rw [getD_eq hx]; exact List.getElem_idxOf hx
    have hb := ofL_in (k := 14) (c := c) _ hmem
    rw [sc_nets h hp h1 h2 hv _ (by omega), ← st_net hp h1 h2 hx, hy]

/-- The outputs: those of the circuit, then the last nodes of the chains. -/
theorem sc_out (h : ScOk c ch) (hp : levErr c = 0) {pin pst v : List Int} {e : Int} (h1 : pin.length = (inputs c).length) (h2 : pst.length = (states c).length) (hv : v.length = ch.length) :
    outL (scC c ch) (netsL (scC c ch) (pin ++ ([e] ++ v)) pst) = outL c (netsL c pin pst) ++ ch.map fun s => cleanV (pst.getD ((states c).idxOf (s.l.getLastD 0)) 0) := by
  have hl := sc_len h
  have hN : (netsL (scC c ch) (pin ++ ([e] ++ v)) pst).length = (scC c ch).nodes.l.length := nets_len
  have hM : (netsL c pin pst).length = c.nodes.l.length := nets_len
  have key : ∀ p, 0 ≤ p → p < (c.nodes.l.length : Int) → valueL (netsL (scC c ch) (pin ++ ([e] ++ v)) pst) p = valueL (netsL c pin pst) p := fun p p0 p1 => by
    unfold valueL
    rw [if_neg (by rw [hN, hl]; omega), if_neg (by rw [hM]; omega), sc_nets h hp h1 h2 hv _ (by omega)]
  unfold outL
  rw [sc_outs h, List.map_append, List.map_map]
  congr 1
  · exact List.map_congr_left fun p hp' => key p (h.outs.2 p hp').1 (h.outs.2 p hp').2
  · refine List.map_congr_left fun s hs => ?_
    obtain ⟨l1, l2, l3, l4⟩ := last_in h hs
    show valueL _ (s.l.getLastD 0) = _
    rw [key _ l2 l3]
    have hmem : s.l.getLastD 0 ∈ states c := by
      have := (mem_ofL (c := c) (k := 14) (i := (s.l.getLastD 0).toNat) (by omega)).2 l4
      rwa [show (((s.l.getLastD 0).toNat : Nat) : Int) = s.l.getLastD 0 by omega] at this
    have hx := List.idxOf_lt_length_iff.2 hmem
    have hy : (states c).getD ((states c).idxOf (s.l.getLastD 0)) 0 = s.l.getLastD 0 := by rw [getD_eq hx]; exact List.getElem_idxOf hx
    unfold valueL
    rw [if_neg (by rw [hM]; omega)]
    congr 1
    rw [← st_net hp h1 h2 hx, hy]
end Go.Lg

/- A circuit of plain data has an input. Conditions: none. -/
set_option linter.unusedSimpArgs false
set_option linter.unusedVariables false
set_option maxRecDepth 100000
namespace Go.Lg
open Go Go.Proofs

theorem dataN_kind {x : CD} {first : Nat} : ∀ {k i : Nat} {ns : List Nd} {q : Nat}, ((dataN x first k i ns).getD q Nd.d).k = (ns.getD q Nd.d).k
  | 0, _, _, _ => rfl
  | k + 1, i, ns, q => by
    simp only [dataN]
    rw [dataN_kind, setIn_kind]

end Go.Lg

/- A circuit of C without memory has at most two Dff nodes; with scan chains it has at most 19 nodes. Conditions: none. -/
set_option linter.unusedSimpArgs false
set_option linter.unusedVariables false
set_option maxRecDepth 100000
namespace Go.Lg
open Go Go.Proofs

theorem gate_k {bus : Bool} {g : Gd} {ns : List Nd} (hg : GdOk g) : (gateN bus g ns).k ≠ 14 := by
  have hk : 0 ≤ g.k := hg.1.1
  have t2 : 0 ≤ g.a.tmod 2 ∧ g.a.tmod 2 < 2 := tmod_lt (n := 2) hg.2.1.1 (by omega)
  have t9 : 0 ≤ g.k.tmod 9 ∧ g.k.tmod 9 < 9 := tmod_lt (n := 9) hk (by omega)
  have t13 : 0 ≤ g.k.tmod 13 ∧ g.k.tmod 13 < 13 := tmod_lt (n := 13) hk (by omega)
  unfold gateN gateT
  obtain ⟨kk, hkk⟩ : ∃ kk, kk = (if bus = true then g.k.tmod 13 else g.k.tmod 9) := ⟨_, rfl⟩
  have hb : 0 ≤ kk ∧ kk < 13 := by rw [hkk]; split <;> omega
  rw [← hkk]
  by_cases h1 : kk < 6
  · simp only [h1, if_true]
    omega
  · simp only [h1, if_false]
    split
    · simp <;> omega
    split
    · simp <;> omega
    split
    · simp <;> omega
    split
    · by_cases h2 : 1 < (triL ns).length
      · simp only [h2, if_true]; simp <;> omega
      · simp only [h2, if_false]; simp <;> omega
    split
    · simp <;> omega
    · simp <;> omega
theorem gates_st {bus : Bool} : ∀ {l : List Gd} {ns : List Nd}, (∀ g ∈ l, GdOk g) → ofL [14] (gatesN bus l ns) 0 = ofL [14] ns 0
  | [], ns, _ => rfl
  | g :: l, ns, h => by
    simp only [gatesN]
    have hk : (gateN bus g ns).k ≠ 14 := gate_k (h g List.mem_cons_self)
    rw [gates_st fun x hx => h x (List.mem_cons_of_mem _ hx), ofL_app]
    simp [ofL, hk]
theorem data_kinds {x : CD} {first k i : Nat} {ns : List Nd} : (dataN x first k i ns).map (·.k) = ns.map (·.k) := by
  refine ext_getD0 (by rw [List.length_map, List.length_map, dataN_len]) fun j hj => ?_
  rw [mapk_getD, mapk_getD, dataN_kind]
theorem ofC_small {x : CD} (hx : CDOk x) (hm : x.mem = false) : (ofC x).nodes.l.length ≤ 14 ∧ (states (ofC x)).length ≤ 2 := by
  have m4 : 0 ≤ x.i.tmod 4 ∧ x.i.tmod 4 < 4 := tmod_lt (n := 4) hx.i.1 (by omega)
  have m3 : 0 ≤ x.f.tmod 3 ∧ x.f.tmod 3 < 3 := tmod_lt (n := 3) hx.f.1 (by omega)
  have l2 : (nodes2 x).length = (x.i.tmod 4 + 1).toNat + (x.f.tmod 3).toNat := by simp [nodes2, nodes1]
  have l3 : nodes3 x = nodes2 x := by unfold nodes3; rw [hm]; rfl
  have l4 : (nodes4 x).length = (nodes3 x).length + min 8 x.gates.l.length := by unfold nodes4; rw [gatesN_len]; simp
  have l5 : (nodes5 x).length = (nodes4 x).length := dataN_len
  refine ⟨?_, ?_⟩
  · show (nodes5 x).length ≤ 14
    rw [l5, l4, l3, l2]; omega
  · have e : states (ofC x) = ofL [14] (nodes2 x) 0 := by
      show ofL [14] (nodes5 x) 0 = _
      rw [ofL_congr [14] (nodes5 x) (nodes4 x) 0 data_kinds]
      unfold nodes4
      rw [gates_st (fun g hg => hx.gates g (List.mem_of_mem_take hg)), l3]
    rw [e]
    unfold nodes2
    rw [ofL_app]
    have e1 : ofL [14] (nodes1 x) 0 = [] := by unfold nodes1; exact ofL_rep0 [14] _ rfl _ _
    rw [e1, ofL_rep1 [14] (dffN 0) rfl]
    simp [insOf]; omega
theorem case_small {y : CaseD} (hy : CaseOk y) : (scC (caseC y) (caseCh y)).nodes.l.length ≤ 19 := by
  have hs := ofC_small (noMemX_ok hy.x) rfl
  have h := case_scok hy
  have hl := sc_len h
  have hle := elems_le (caseCh y) fun s hs => (h.ne s hs).1
  have hpl := h.perm.length_eq
  have e : caseC y = ofC (noMemX y.x) := rfl
  rw [← e] at hs
  omega
end Go.Lg

/- Run of the circuit with scan chains. Conditions: none. -/
set_option linter.unusedSimpArgs false
set_option linter.unusedVariables false
set_option maxRecDepth 100000
namespace Go.Lg
open Go Go.Proofs
variable {Γ : Tables}

theorem sc_mem0 {c : Cir} {ch : List (Sl Int)} (h : ScOk c ch) (hm : mems c = []) : mems (scC c ch) = [] := by
  show ofL [15] (scC c ch).nodes.l 0 = _
  rw [ofL_congr _ _ _ _ (sc_kinds h), likeL, ofL_app, ofL_app, ofL_rep0 [15] inpN rfl, ofL_rep0 [15] (muxN 0 0 0) rfl, List.append_nil, List.append_nil]
  exact hm
theorem sc_Run (hΓ : GOk Γ) {c : Cir} {ch : List (Sl Int)} (h : ScOk c ch) (hc : NOk c) (hn : (scC c ch).nodes.l.length ≤ 19) (hmm : (scC c ch).mems.l = []) {p : Pat} (hp : POk (scC c ch) p) :
    PureCalls Tryz.prog Γ 15 [.agg (tC (scC c ch)), .agg (tP p)] (.tup [.agg [tVs (outL (scC c ch) (netsL (scC c ch) p.inn.l p.st.l)), tVs (nextsL (scC c ch) (netsL (scC c ch) p.inn.l p.st.l))], .sl (vals (netsL (scC c ch) p.inn.l p.st.l)) (some (scC c ch).nodes.l.length) none, tI 0]) := by
  have hr := Run_spec hΓ (scC c ch) (sc_cok h) hn p ⟨by rw [hp.i]; have := inputs_len (scC c ch); omega, by rw [hp.s]; have := states_len' (scC c ch); omega⟩ ⟨fun v hv => (hp.vi v hv).1, fun v hv => (hp.vs v hv).1⟩
  unfold runRes at hr
  have a1 : ∀ {l : List Int}, (∀ v ∈ l, V4 v) → l.any aboveV = false := fun h => List.any_eq_false.2 fun v hv => by have := (h v hv).2; simp [aboveV]; omega
  have hz : runErr (scC c ch) p = 0 := by
    unfold runErr
    rw [if_neg (by simp [sc_valid h])]
    unfold fitsErr
    rw [if_neg (by rw [hmm, sc_mem0 h hc.m0]; simp), if_neg (by simp [hp.i, hp.s]), a1 hp.vi, a1 hp.vs]
    simp
  rwa [if_pos hz] at hr

/-- The pattern of a mode fits the circuit with scan chains. -/
theorem sc_pok {c : Cir} {ch : List (Sl Int)} (h : ScOk c ch) {p : Pat} (hp : POk c p) {e : Int} (he : V4 e) {v : List Int} (hv : v.length = ch.length) (hv4 : ∀ x ∈ v, V4 x) (k1 k2 : Option Nat) (n1 n2 : Option Bool) :
    POk (scC c ch) ⟨⟨p.inn.l ++ ([e] ++ v), k1, n1⟩, ⟨p.st.l, k2, n2⟩⟩ :=
  ⟨sc_inLen h hp.i hv, by rw [sc_states h]; exact hp.s, fun x hx => by
    rcases List.mem_append.1 hx with hx | hx
    · exact hp.vi x hx
    · rcases List.mem_append.1 hx with hx | hx
      · simp at hx; subst hx; exact he
      · exact hv4 x hx, hp.vs⟩
end Go.Lg

/- The abstract code of some functions, as the program gen.py prints it. Conditions: none. -/
set_option linter.unusedVariables false
namespace Go.Lg
open Go
section
variable {P : Program} {Γ : Tables} {Q : AX → St → Prop} {s : St}
/- probecard/scans.Pattern (function 30) -/
abbrev scans_Pattern_ic : IC := (.seq (.reg [od 4 (.box true (tm 0)), od 5 (.box true (tm 1)), od 8 (.alloc false [(.slice none 0 0), (.slice none 0 0)]), od 9 (.mv (ki 0))] [kp [2, 3, 4, 5, 8] [8]]) (.seq (.reg [od 12 (fa 0 5), od 13 (ld 1 12), om 14 2, od 15
 (.bsl true 68 1 [(tm 14)]), om 16 3, od 17 (.bsl true 37 1 [(tm 13), (tm 15), (tm 16)]), od 18 (.call 91 [(tm 17)]), om 10 18] [kp [4, 5, 8, 10] [8]]) (.seq (.seq (.reg [om 19 10, od 20 (le 0 19), od 21 (fa 0 4), od 22 (lG 4 21),
 od 23 (.call 41 [(tm 22)]), od 24 (le 0 23), od 25 (.bin .neq (tm 20) (tm 24))] [kp [5, 8, 10, 25] [8]]) (.cond (tm 25) (.seq (.reg [od 26 (.build [(1, kN), (1, kN)]), on (.store 2 (tm 8) (tm 26)), od 9 (.mv (ki 8))] [kp [8, 9]
 [8]]) .ret) .skip)) (.seq (.seq (.reg [od 11 (.mv (.func 92))] [kp [5, 8, 10, 11] [8]]) (.seq (.reg [om 27 10, om 28 11, od 29 (.call 76 [(tm 27), (tm 28)]), om 30 29, oF 31 (fa 1 5) 30, oF 32 (ld 1 31) 30, oF 33 (.mv (tm 11)) 30,
 oF 34 (.call 76 [(tm 32), (tm 33)]) 30, od 35 (.pick (tm 30) kT (tm 34))] [kp [5, 8, 10, 35] [8]]) (.cond (tm 35) (.seq (.reg [od 36 (.build [(1, kN), (1, kN)]), on (.store 2 (tm 8) (tm 36)), od 9 (.mv (ki 1))] [kp [8, 9] [8]])
 .ret) .skip))) (.seq (.reg [om 37 10, od 38 (.call 74 [(tm 37)]), od 39 (fa 1 5), od 40 (.ldT 1 false (tm 39)), od 41 (.call 93 [(tm 40)]), od 42 (.call 74 [(tm 41)]), od 43 (.build [(1, (tm 38)), (1, (tm 42))]), on (.stR 8 2 (tm
 8) (tm 43)), od 9 (.mv (ki 0))] [kp [8, 9] [8]]) .ret)))))
def scans_Pattern_rv : List RV := [.cell 8 2 true, .tmp 9]

/- probecard/scans.Pattern$1 (function 92) -/
abbrev scans_Pattern_1_ic : IC := (.seq (.reg [od 2 (.mv kF)] [kp [0] []]) (.seq (.reg [om 3 0, od 4 (.bin .gtr (tm 3) (ku 3)), om 2 4] [kp [2] []]) .ret))
def scans_Pattern_1_rv : List RV := [.tmp 2]

/- slices.Concat[[]probecard/api.Value,probecard/api.Value] (function 91) -/
abbrev slices_Concat_api_Value_g0 : IC := .gh (.seq (.reg [od 12 (.bin .lss (tm 11) (tm 10))] [kp [0, 3, 9, 10, 11, 12] []]) (.seq (.cond (tm 12) .skip (.exit 0)) (.seq (.block 1 (.seq (.reg [od 13 (ia 1 9 11), od 14 (ld 1 13), om 5 14] [kp [0, 3, 5, 9, 10, 11] []]) (.seq
 (.reg [om 15 3, om 16 5, od 17 (le 0 16), od 18 (.bin .add (tm 15) (tm 17)), om 3 18] [kp [0, 3, 9, 10, 11] []]) (.seq (.reg [om 19 3, od 20 (.bin .lss (tm 19) (ki 0))] [kp [0, 3, 9, 10, 11, 20] []]) (.cond (tm 20) .dead .skip)))))
 (.reg [od 22 (.bin .add (tm 11) (ki 1)), om 11 22] [kp [0, 3, 9, 10, 11] []])))) [kp [0, 3, 9, 10, 11] []]
def slices_Concat_api_Value_l1 : IC := .loop slices_Concat_api_Value_g0
abbrev slices_Concat_api_Value_g2 : IC := .gh (.seq (.reg [od 28 (.bin .lss (tm 27) (tm 26))] [kp [6, 25, 26, 27, 28] [24022]]) (.seq (.cond (tm 28) .skip (.exit 2)) (.seq (.block 3 (.seq (.reg [od 29 (ia 1 25 27), od 30 (ld 1 29), om 8 30] [kp [6, 8, 25, 26, 27] [24022]])
 (.reg [om 31 6, om 32 8, oz 33 (.app false 68 1 (tm 31) (tm 32)) 24022, om 6 33] [kp [6, 25, 26, 27] [24022]]))) (.reg [od 34 (.bin .add (tm 27) (ki 1)), om 27 34] [kp [6, 25, 26, 27] [24022]])))) [kp [6, 25, 26, 27] [24022]]
def slices_Concat_api_Value_l3 : IC := .loop slices_Concat_api_Value_g2
abbrev slices_Concat_api_Value_ic : IC := (.seq (.reg [od 2 (.mv kN)] [kp [0] []]) (.seq (.reg [od 3 (.mv (ki 0))] [kp [0, 3] []]) (.seq (.seq (.reg [om 9 0, od 10 (le 0 9), od 11 (.mv (ki 0))] [kp [0, 3, 9, 10, 11] []]) (.block 0 slices_Concat_api_Value_l1)) (.seq (.reg
 [om 23 3, od 24 (.hcall 138 [kN, (tm 23)] [] 24000), om 6 24] [kp [0, 6] [24022]]) (.seq (.seq (.reg [om 25 0, od 26 (le 0 25), od 27 (.mv (ki 0))] [kp [6, 25, 26, 27] [24022]]) (.block 2 slices_Concat_api_Value_l3)) (.seq (.reg
 [om 35 6, om 2 35] [kp [2] [24022]]) .ret))))))
theorem slices_Concat_api_Value_l1_run (h : ∀ K : St → Prop, K = run P Γ slices_Concat_api_Value_l1 Q → run P Γ slices_Concat_api_Value_g0 (thenX K Q) s) : run P Γ slices_Concat_api_Value_l1 Q s := run_loop h
theorem slices_Concat_api_Value_l3_run (h : ∀ K : St → Prop, K = run P Γ slices_Concat_api_Value_l3 Q → run P Γ slices_Concat_api_Value_g2 (thenX K Q) s) : run P Γ slices_Concat_api_Value_l3 Q s := run_loop h
def slices_Concat_api_Value_rv : List RV := [.tmp 2]

/- slices.Clone[[]probecard/api.Value,probecard/api.Value] (function 93) -/
abbrev slices_Clone_api_Value_ic : IC := (.seq (.reg [od 2 (.mv kN)] [kp [0] []]) (.seq (.seq (.reg [om 3 0, od 4 (.isNil true (tm 3))] [kp [0, 4] []]) (.cond (tm 4) (.seq (.reg [od 2 (.mv kN)] [kp [2] []]) .ret) .skip)) (.seq (.reg [od 5 (.bsl true 68 1 []), om 6 0, od 7
 (.appT 68 1 (tm 5) (tm 6)), om 2 7] [kp [2] []]) .ret)))
def slices_Clone_api_Value_rv : List RV := [.tmp 2]

/- slices.Grow[[]probecard/api.Value,probecard/api.Value] (function 138) -/
abbrev slices_Grow_api_Value_ic : IC := (.seq (.reg [od 4 (.mv kN)] [kp [0, 1] [22]]) (.seq (.seq (.reg [om 5 1, od 6 (.bin .lss (tm 5) (ki 0))] [kp [0, 1, 6] [22]]) (.cond (tm 6) .dead .skip)) (.seq (.seq (.reg [om 8 1, om 9 0, od 10 (.cap (tm 9)), om 11 0, od 12 (le 0
 11), od 13 (.bin .sub (tm 10) (tm 12)), od 14 (.bin .sub (tm 8) (tm 13)), om 1 14] [kp [0, 1] [22]]) (.seq (.reg [om 15 1, od 16 (.bin .gtr (tm 15) (ki 0))] [kp [0, 1, 16] [22]]) (.cond (tm 16) (.reg [om 17 0, om 18 0, od 19 (.cap
 (tm 18)), od 20 (.slice 1 (tm 17) none (some (tm 19)) none), om 21 1, od 22 (.appZ 68 1 [(.int .u8 0)] (tm 20) (tm 21)), om 23 0, od 24 (le 0 23), od 25 (.slice 1 (tm 22) none (some (tm 24)) none), om 0 25] [kp [0] [22]]) .skip)))
 (.seq (.reg [om 26 0, om 4 26] [kp [4] [22]]) .ret))))
def slices_Grow_api_Value_rv : List RV := [.tmp 4]
end
end Go.Lg

/- The abstract code is that of the program (by the kernel). Conditions: none. -/
namespace Go.Lg
open Go Go.Proofs
theorem scans_Pattern_chk : chkF Tryz.prog 30 scans_Pattern_ic 44 4 scans_Pattern_rv = true := by kernel_rfl
theorem scans_Pattern_1_chk : chkF Tryz.prog 92 scans_Pattern_1_ic 5 1 scans_Pattern_1_rv = true := by kernel_rfl
theorem slices_Concat_api_Value_chk : chkF Tryz.prog 91 slices_Concat_api_Value_ic 36 1 slices_Concat_api_Value_rv = true := by kernel_rfl
theorem slices_Clone_api_Value_chk : chkF Tryz.prog 93 slices_Clone_api_Value_ic 8 1 slices_Clone_api_Value_rv = true := by kernel_rfl
theorem slices_Grow_api_Value_chk : chkF Tryz.prog 138 slices_Grow_api_Value_ic 27 2 slices_Grow_api_Value_rv = true := by kernel_rfl
end Go.Lg

/- slices.Concat of values. Conditions: none. -/
set_option linter.unusedSimpArgs false
set_option linter.unusedVariables false
set_option maxRecDepth 100000
namespace Go.Lg
open Go Go.Proofs
variable {Γ : Tables}

theorem grow_h (n : Nat) (h0 : 0 < n) (hn : n ≤ 1000000000) : HCalls Tryz.prog Γ 138 [] [.t (.sl [] (some 0) (some true)), .t (tI n)] (.ls 22 0 0 none) [(22, .sl 68 1 (List.replicate n [tK 0]))] := by
  refine run_handQ slices_Grow_api_Value_chk rfl ?_
  have h1 : (0 : Int) < n := by omega
  have h2 : ¬ (n : Int) < 0 := by omega
  have h3 : (n : Int) ≤ 2147483648 := by omega
  simp (disch := omega) [slices_Grow_api_Value_ic, slices_Grow_api_Value_rv, h1, h2, h3, h0, wrap_i64]

theorem concat_l1 {Q : AX → St → Prop} (ss : List (Sl Int)) (cap : Option Nat) (nl : Option Bool) (hs : ss.length ≤ 1000) (hl : ∀ s ∈ ss, s.l.length ≤ 1000000) (N : Nat)
    (h0 : Q (.exit 0) ⟨[(0, .t (.sl (enc1 tV ss) cap nl)), (3, .t (tI N)), (9, .t (.sl (enc1 tV ss) cap nl)), (10, .t (tI ss.length)), (11, .t (tI ss.length)), (12, .t (tB false))], []⟩) :
    ∀ (k i m : Nat), k + i = ss.length → m ≤ i * 1000000 → m + ((ss.drop i).flatMap (·.l)).length = N →
    run Tryz.prog Γ slices_Concat_api_Value_l1 Q ⟨[(0, .t (.sl (enc1 tV ss) cap nl)), (3, .t (tI m)), (9, .t (.sl (enc1 tV ss) cap nl)), (10, .t (tI ss.length)), (11, .t (tI i))], []⟩
  | 0, i, m, h, hm, hN => by
    refine slices_Concat_api_Value_l1_run fun K hK => ?_
    have h3 : i = ss.length := by omega
    subst h3
    rw [List.drop_of_length_le (Nat.le_refl _)] at hN
    simp at hN
    subst hN
    simp
    exact h0
  | k + 1, i, m, h, hm, hN => by
    refine slices_Concat_api_Value_l1_run fun K hK => ?_
    have h2 : i < ss.length := by omega
    rw [List.drop_eq_getElem_cons h2] at hN
    have e := enc1_get (f := tV) ⟨[], none, none⟩ h2
    have e2 : ss[i]?.getD ⟨[], none, none⟩ = ss[i] := by simp [h2]
    rw [e2] at e
    have hsl := hl _ (List.getElem_mem h2)
    generalize ss[i] = s at *
    simp at hN
    have ih := concat_l1 ss cap nl hs hl N h0 k (i + 1) (m + s.l.length) (by omega) (by omega) (by simp; omega)
    have e' : ∀ h : i < (enc1 tV ss).length, (enc1 tV ss)[i] = [tV s] := fun h => by rw [← e]; simp [h]
    have w1 : IntKind.i64.wrap ((m : Int) + (s.l.length : Int)) = ((m + s.l.length : Nat) : Int) := by rw [wrap_i64] <;> omega
    have w2 : ¬ ((m : Int) + (s.l.length : Int)) < 0 := by omega
    have w1' : IntKind.i64.wrap ((m : Int) + (s.l.length : Int)) = (m : Int) + (s.l.length : Int) := by rw [wrap_i64] <;> omega
    simp only [tV] at e e'
    simp [h2, enc1_len, enc1_wid, e, e', w1', w2]
    rw [wrap_i64 (by omega) (by omega), hK]
    simpa [tV] using ih

theorem concat_l3 {Q : AX → St → Prop} (ss : List (Sl Int)) (cap : Option Nat) (nl : Option Bool) (hs : ss.length ≤ 1000) (hl : ∀ s ∈ ss, s.l.length ≤ 1000000) (R : List Int)
    (h0 : ∀ E : List (List T), E.take R.length = vals R → flatReg (.sl 68 1 E) → Q (.exit 2) ⟨[(6, .ls 24022 0 R.length none), (25, .t (.sl (enc1 tV ss) cap nl)), (26, .t (tI ss.length)), (27, .t (tI ss.length)), (28, .t (tB false))], [(24022, .sl 68 1 E)]⟩) :
    ∀ (k i : Nat) (acc : List Int) (E : List (List T)), k + i = ss.length → acc.length ≤ i * 1000000 → E.take acc.length = vals acc → flatReg (.sl 68 1 E) → acc ++ (ss.drop i).flatMap (·.l) = R →
    run Tryz.prog Γ slices_Concat_api_Value_l3 Q ⟨[(6, .ls 24022 0 acc.length none), (25, .t (.sl (enc1 tV ss) cap nl)), (26, .t (tI ss.length)), (27, .t (tI i))], [(24022, .sl 68 1 E)]⟩
  | 0, i, acc, E, h, hm, hE, hF, hR => by
    refine slices_Concat_api_Value_l3_run fun K hK => ?_
    have h3 : i = ss.length := by omega
    subst h3
    rw [List.drop_of_length_le (Nat.le_refl _)] at hR
    simp at hR
    subst hR
    simp
    exact h0 E hE hF
  | k + 1, i, acc, E, h, hm, hE, hF, hR => by
    refine slices_Concat_api_Value_l3_run fun K hK => ?_
    have h2 : i < ss.length := by omega
    rw [List.drop_eq_getElem_cons h2] at hR
    have e := enc1_get (f := tV) ⟨[], none, none⟩ h2
    have e2 : ss[i]?.getD ⟨[], none, none⟩ = ss[i] := by simp [h2]
    rw [e2] at e
    have hsl := hl _ (List.getElem_mem h2)
    generalize ss[i] = s at *
    have q : vals acc ++ vals s.l = vals (acc ++ s.l) := enc1_app
    have ih := concat_l3 ss cap nl hs hl R h0 k (i + 1) (acc ++ s.l) (vals (acc ++ s.l)) (by omega) (by simp; omega) enc1_take_len (flatReg_enc1 fun _ => rfl) (by rw [← hR]; simp)
    have e' : ∀ h : i < (enc1 tV ss).length, (enc1 tV ss)[i] = [tV s] := fun h => by rw [← e]; simp [h]
    simp only [tV] at e e'
    have hm : min acc.length E.length = acc.length := by have := congrArg List.length hE; simpa [enc1_len] using this
    simp [h2, enc1_len, enc1_wid, e, e', hE, q, hm]
    refine ⟨by omega, ?_⟩
    rw [wrap_i64 (by omega) (by omega), hK]
    simpa [tV] using ih

theorem concat_spec (ss : List (Sl Int)) (cap : Option Nat) (nl : Option Bool) (hs : ss.length ≤ 1000) (hl : ∀ s ∈ ss, s.l.length ≤ 1000000) (h0 : 0 < (ss.flatMap (·.l)).length) :
    FreshCalls Tryz.prog Γ 91 [.sl (enc1 tV ss) cap nl] (.sl (vals (ss.flatMap (·.l))) none none) := by
  refine run_freshQ slices_Concat_api_Value_chk rfl ?_
  have hb : ∀ l : List (Sl Int), (∀ s ∈ l, s.l.length ≤ 1000000) → (l.flatMap (·.l)).length ≤ l.length * 1000000 := by
    intro l
    induction l with
    | nil => intro _; simp
    | cons s l ih =>
      intro h
      have h1 := h s List.mem_cons_self
      have h2 := ih fun x hx => h x (List.mem_cons_of_mem _ hx)
      simp at h2 ⊢
      omega
  have hb := hb ss hl
  have g1 := fun Q h0 => concat_l1 (Γ := Γ) (Q := Q) ss cap nl hs hl (ss.flatMap (·.l)).length h0 ss.length 0 0 (by omega) (by omega) (by simp)
  have g2 := grow_h (Γ := Γ) (ss.flatMap (·.l)).length h0 (by omega)
  have g3 := fun Q h0 E hE hF => concat_l3 (Γ := Γ) (Q := Q) ss cap nl hs hl (ss.flatMap (·.l)) h0 ss.length 0 [] E (by omega) (by simp) hE hF (by simp)
  generalize ss.flatMap (·.l) = R at *
  simp [slices_Concat_api_Value_ic, enc1_len]
  refine g1 _ ?_
  simp
  refine ⟨_, _, g2, ?_⟩
  simp [enc1_len]
  refine g3 _ (fun E hE hF => ?_) _ (by simp [enc1]) (fun e he t ht => by rw [List.eq_of_mem_replicate he] at ht; simp at ht; subst ht; rfl)
  simp [slices_Concat_api_Value_rv, hE]
  exact hF
end Go.Lg

/- scans.Pattern. Conditions: none. -/
set_option linter.unusedSimpArgs false
set_option linter.unusedVariables false
set_option maxRecDepth 100000
namespace Go.Lg
open Go Go.Proofs
variable {Γ : Tables}

theorem pat1_spec (v : Int) : FreshCalls Tryz.prog Γ 92 [tK v] (tB (aboveV v)) := by
  refine run_freshQ scans_Pattern_1_chk rfl ?_
  simp [scans_Pattern_1_ic, scans_Pattern_1_rv, aboveV]

theorem clone_val (s : Sl Int) (hs : SlOk s) : PureCalls Tryz.prog Γ 93 [tV s] (if s.nl = some true then .sl [] (some 0) (some true) else .sl (vals s.l) none none) := by
  refine run_pureQ slices_Clone_api_Value_chk rfl ?_
  obtain ⟨l, cap, nl⟩ := s
  obtain ⟨h1, h2, h3⟩ := hs
  simp only at h1 h2 h3
  rcases nl with _ | _ | _
  · have h4 : vals l ≠ [] := by simpa [enc1] using h2 rfl
    simp (disch := omega) [slices_Clone_api_Value_ic, slices_Clone_api_Value_rv, enc1_wid, enc1_len, h4, Later, tV]
    omega
  · simp (disch := omega) [slices_Clone_api_Value_ic, slices_Clone_api_Value_rv, enc1_wid, enc1_len, Later, tV]
    omega
  · have := h1 rfl
    subst this
    simp [slices_Clone_api_Value_ic, slices_Clone_api_Value_rv, tV]

def patAll (p : Pat) (en : Int) (inn : Sl Int) : List Int := p.inn.l ++ ([en] ++ inn.l)
def patErr (c : Cir) (p : Pat) (en : Int) (inn : Sl Int) : Int := if (patAll p en inn).length ≠ (inputs c).length then 8 else if (patAll p en inn).any aboveV = true ∨ p.st.l.any aboveV = true then 1 else 0
def patRes (c : Cir) (p : Pat) (en : Int) (inn : Sl Int) : T := if patErr c p en inn = 0 then .tup [.agg [tVs (patAll p en inn), tV (cpS p.st)], tI 0] else .tup [.agg [.sl [] (some 0) (some true), .sl [] (some 0) (some true)], tI (patErr c p en inn)]

theorem Pattern_spec (c : Cir) (hc : COk c) (s4 s6 s7 : List (List T)) (k4 k6 k7 : Option Nat) (n4 n6 n7 : Option Bool) (i5 : Int) (p : Pat) (en : Int) (inn : Sl Int) (hp : p.inn.l.length ≤ 100000 ∧ inn.l.length ≤ 100000) (hst : SlOk p.st) :
    PureCalls Tryz.prog Γ 30 [.agg (tC c ++ [.sl s4 k4 n4, tI i5, .sl s6 k6 n6, .sl s7 k7 n7]), .agg (tP p), tK en, tV inn] (patRes c p en inn) := by
  refine run_pureQ scans_Pattern_chk rfl ?_
  have hal : (patAll p en inn).length = p.inn.l.length + (1 + inn.l.length) := by simp [patAll]; omega
  have e1 := concat_spec (Γ := Γ) [p.inn, ⟨[en], some 1, some false⟩, inn] (some 3) (some false) (by simp) (by simp; omega) (by simp; omega)
  have hfl : ([p.inn, ⟨[en], some 1, some false⟩, inn] : List (Sl Int)).flatMap (·.l) = patAll p en inn := by simp [patAll]
  rw [hfl] at e1
  have e2 := inputs_spec (Γ := Γ) c hc
  have e3 := containsfunc_val (Γ := Γ) (patAll p en inn) none none 92 [] aboveV (fun x _ => pat1_spec x) (by omega)
  have e4 := containsfunc_val (Γ := Γ) p.st.l p.st.cap p.st.nl 92 [] aboveV (fun x _ => pat1_spec x) (by have := hst.2.2; omega)
  have e5 := clone_val (Γ := Γ) p.st hst
  have e6 := clip_val (Γ := Γ) (vals (patAll p en inn)) none none enc1_wid
  unfold patRes patErr
  generalize hA : patAll p en inn = A at *
  have e1' : FreshCalls Tryz.prog Γ 91 [.sl [[.sl (vals p.inn.l) p.inn.cap p.inn.nl], [.sl [[tK en]] (some 1) (some false)], [.sl (vals inn.l) inn.cap inn.nl]] (some 3) (some false)] (.sl (vals A) none none) := e1
  simp [scans_Pattern_ic, tC, tNodes, tNames, tMems, tSl, tP, tV]
  refine callK_fresh e1' (by simp) ?_
  simp [tC, tNodes, tNames, tMems, tSl] at e2
  simp
  refine callK_pure e2 rfl ?_
  by_cases hl : A.length = (inputs c).length
  · have hl' : ((A.length : Int) = ((inputs c).length : Int)) := by omega
    simp [hl, hl', enc1_len]
    refine callK_fresh e3 rfl ?_
    cases h3 : A.any aboveV
    · simp [h3]
      refine callK_fresh e4 rfl ?_
      cases h4 : p.st.l.any aboveV
      · simp [h4]
        refine callK_pure e6 rfl ?_
        simp
        refine callK_pure e5 rfl ?_
        by_cases hn : p.st.nl = some true
        · have h0 := hst.1 hn
          have e7 := clip_val (Γ := Γ) [] (some 0) (some true) wid_nil
          simp [hn]
          refine callK_pure e7 rfl ?_
          simp [scans_Pattern_rv, hl, h3, h4, h0, hn, cpS, tVs, tV, enc1_len, enc1]
        · have e7 := clip_val (Γ := Γ) (vals p.st.l) none none enc1_wid
          simp [hn]
          refine callK_pure e7 rfl ?_
          simp [scans_Pattern_rv, hl, h3, h4, hn, cpS, tVs, tV, enc1_len]
      · simp [h4, scans_Pattern_rv, hl]
    · simp [h3, scans_Pattern_rv, hl]
  · have hl' : ¬ ((A.length : Int) = ((inputs c).length : Int)) := by omega
    simp [hl, hl', enc1_len, scans_Pattern_rv]
end Go.Lg

/- Patterns that tell truly whether they are nil; read, index. Conditions: none. -/
set_option linter.unusedSimpArgs false
set_option linter.unusedVariables false
set_option maxRecDepth 100000
namespace Go.Lg
open Go Go.Proofs
variable {Γ : Tables}

def takS (l : List Int) (n : Nat) (most : Int) : Sl Int := if n = 0 then ⟨[], some 0, some true⟩ else ⟨takenL l n most, none, none⟩
theorem takS_l {l : List Int} {n : Nat} {most : Int} : (takS l n most).l = takenL l n most := by
  unfold takS
  split
  · rename_i h; subst h; rfl
  · rfl
theorem takS_ok {l : List Int} {n : Nat} {most : Int} (hn : n ≤ 1000000) : SlOk (takS l n most) := by
  unfold takS
  split
  · exact ⟨fun _ => rfl, (fun h => nomatch h), Nat.zero_le _⟩
  · rename_i h
    refine ⟨(fun h => nomatch h), fun _ e => h (by have := congrArg List.length (show takenL l n most = [] from e); rwa [takenL_len] at this), by show (takenL l n most).length ≤ _; rw [takenL_len]; exact hn⟩
theorem takS_spec (l : Sl Int) (n : Nat) (hn : n ≤ 1000000000) (most : Int) (hm : 0 < most) : FreshCalls Tryz.prog Γ 51 [tV l, tI n, tK most] (tV (takS l.l n most)) := by
  by_cases h : n = 0
  · subst h
    refine run_freshQ law06_taken0_chk rfl ?_
    simp [law06_taken0_ic]
    refine law06_taken0_l1_run fun K hK => ?_
    simp [law06_taken0_rv, takS, tV, enc1_nil]
  · have := taken_spec (Γ := Γ) l n hn most hm
    simpa [takS, h, tV] using this

def patOf2 (q : PD) (c : Cir) : Pat := ⟨takS q.i.l (inputs c).length 4, takS q.s.l (states c).length 3⟩
theorem pat2_i {q : PD} {c : Cir} : (patOf2 q c).inn.l = patI q c := takS_l
theorem pat2_s {q : PD} {c : Cir} : (patOf2 q c).st.l = patS q c := takS_l
theorem pat2_ok {q : PD} (hq : PDOk q) (c : Cir) : POk c (patOf2 q c) := by
  have h := patOf_ok hq c
  exact ⟨by rw [pat2_i]; exact h.i, by rw [pat2_s]; exact h.s, by rw [pat2_i]; exact h.vi, by rw [pat2_s]; exact h.vs⟩
theorem P_Of2_spec (q : PD) (hq : PDOk q) (c : Cir) (hc : COk c) : PureCalls Tryz.prog Γ 14 [.agg (tPD q), .agg (tC c)] (.agg (tP (patOf2 q c))) := by
  refine run_pureQ law06_P_Of0_chk rfl ?_
  have h1 := takS_spec (Γ := Γ) q.i (inputs c).length (Nat.le_trans (inputs_len c) hc.nodes) 4 (by omega)
  have h2 := takS_spec (Γ := Γ) q.s (states c).length (Nat.le_trans (states_len' c) hc.nodes) 3 (by omega)
  simp only [patOf2, tP]
  generalize takS q.i.l (inputs c).length 4 = A at *
  generalize takS q.s.l (states c).length 3 = B at *
  simp [law06_P_Of0_ic, tC, tNodes, tNames, tMems, tSl, tPD, tV]
  refine callK_fresh (count_spec c hc 0) rfl ?_
  simp
  refine callK_fresh h1 rfl ?_
  simp
  refine callK_fresh (count_spec c hc 14) rfl ?_
  simp
  refine callK_fresh h2 rfl ?_
  simp [law06_P_Of0_rv, tV]

theorem readL_spec (v : Int) (h : 0 ≤ v) : FreshCalls Tryz.prog Γ 31 [tK v] (tK (readV v)) := by
  refine run_freshQ law34_read_chk rfl ?_
  by_cases h0 : v = 0
  · subst h0; simp [law34_read_ic, law34_read_rv, readV]
  by_cases h1 : v = 1
  · subst h1; simp [law34_read_ic, law34_read_rv, readV]
  have h2 : ¬ v < 2 := by omega
  simp [law34_read_ic, law34_read_rv, readV, h0, h1, h2]

theorem index_loop {Q : AX → St → Prop} (l : Sl Int) (hl : l.l.length ≤ 1000000000) (n : Int) (q : Nat) (hq : q < l.l.length) (hn : l.l.getD q 0 = n) (hb : ∀ j, j < q → l.l.getD j 0 ≠ n)
    (h0 : Q .ret ⟨[(4, .t (tI q))], []⟩) : ∀ (k i : Nat), k + i = q → run Tryz.prog Γ law34_index_l1 Q ⟨[(0, .t (tSl l)), (1, .t (tI n)), (5, .t (tI i))], []⟩
  | 0, i, h => by
    refine law34_index_l1_run fun K hK => ?_
    have h2 : i = q := by omega
    subst h2
    have e := gi1 (f := tI) hq
    have e' := gI' hq
    rw [hn] at e e'
    simp [tSl, enc1_len, enc1_wid, hq, e, e']
    exact h0
  | k + 1, i, h => by
    refine law34_index_l1_run fun K hK => ?_
    have h2 : i < q := by omega
    have h3 : i < l.l.length := by omega
    have e := gi1 (f := tI) h3
    have e' := gI' h3
    have hne := hb i h2
    generalize l.l.getD i 0 = v at *
    have ih := index_loop l hl n q hq hn hb h0 k (i + 1) (by omega)
    simp [tSl, enc1_len, enc1_wid, h3, e, e', hne]
    rw [wrap_i64 (by omega) (by omega), hK]
    simpa [tSl] using ih
theorem indexL_spec (l : Sl Int) (hl : l.l.length ≤ 1000000000) (q : Nat) (hq : q < l.l.length) (hd : l.l.Nodup) : FreshCalls Tryz.prog Γ 32 [tSl l, tI (l.l.getD q 0)] (tI q) := by
  refine run_freshQ law34_index_chk rfl ?_
  have g := fun Q h0 => index_loop (Γ := Γ) (Q := Q) l hl (l.l.getD q 0) q hq rfl (fun j hj e => by have := getD_nodup hd (by omega) hq e; omega) h0 q 0 (by omega)
  simp [tSl] at g
  simp [law34_index_ic, tSl]
  refine g _ ?_
  simp [law34_index_rv]
end Go.Lg

/- ScansModes: its loops. Conditions: none. -/
set_option linter.unusedSimpArgs false
set_option linter.unusedVariables false
set_option maxRecDepth 100000
namespace Go.Lg
open Go Go.Proofs
variable {Γ : Tables}

theorem gE' {α : Type} {f : α → T} {l : List α} {i : Nat} (d : α) (h0 : i < l.length) : ∀ h : i < (enc1 f l).length, (enc1 f l)[i] = [f (l.getD i d)] := fun h => by
  have := enc1_get (f := f) d h0
  rw [List.getElem?_eq_getElem h] at this
  simpa [List.getD_eq_getElem?_getD] using this
theorem gE {α : Type} {f : α → T} {l : List α} {i : Nat} (d : α) (h0 : i < l.length) : (enc1 f l)[i]?.getD [] = [f (l.getD i d)] := by
  rw [List.getElem?_eq_getElem (by rw [enc1_len]; exact h0)]
  exact gE' d h0 _

def smE (ch : List (Sl Int)) (vT : T) : List (Nat × AV) := [(8, .t (.sl (enc1 tSl ch) none none)), (11, .lp 11 0 0), (12, .t vT), (18, .lp 18 0 0), (21, .lp 21 0 0), (24, .lp 24 0 0)]
def smS (st : List Int) : T := .sl (ints st) (some st.length) none
def smH (p0 a0 a1 b0 b1 d0 : T) (ps : Sl Int) (dN : List Int) : List (Nat × Reg) := [(11, .bx [.t p0, .t (tV ps)]), (18, .bx [.t a0, .t a1]), (21, .bx [.t b0, .t b1]), (24, .bx [.t d0, .t (tVs dN)])]

theorem sm_l7 {Q : AX → St → Prop} (ch : List (Sl Int)) (vT p0 a0 a1 b0 b1 d0 : T) (ps : Sl Int) (dN st : List Int) (hst : st.length ≤ 1000000) (hps : ps.l.length = st.length) (hdN : dN.length = st.length) (hv : ∀ v ∈ ps.l, 0 ≤ v) (k m r : Nat) (hk : k < ch.length) (hm : m < (ch.getD k slD).l.length) (hr : r < st.length)
    (hnd : st.Nodup) (he : st.getD r 0 = (ch.getD k slD).l.getD m 0) (B : Int) (hB : dN.getD r 0 = B)
    (h0 : Q (.exit 10) ⟨smE ch vT ++ [(29, .t (smS st)), (30, .t (tI k)), (31, .t (tK (readV (ps.l.getD r 0)))), (32, .t (tI m)), (33, .t (tI st.length)), (221, .t (tB false))], smH p0 a0 a1 b0 b1 d0 ps dN⟩) :
    ∀ (n q : Nat) (bef : Int), n + q = st.length → (q ≤ r → bef = B) → (r < q → bef = readV (ps.l.getD r 0)) →
    run Tryz.prog Γ law34_ScansModes_l7 Q ⟨smE ch vT ++ [(29, .t (smS st)), (30, .t (tI k)), (31, .t (tK bef)), (32, .t (tI m)), (33, .t (tI q))], smH p0 a0 a1 b0 b1 d0 ps dN⟩
  | 0, q, bef, h, hb1, hb2 => by
    refine law34_ScansModes_l7_run fun K hK => ?_
    have h2 : q = st.length := by omega
    subst h2
    have := hb2 hr
    subst this
    simp [smE, smS, smH, enc1_len]
    simpa [smE, smS, smH] using h0
  | n + 1, q, bef, h, hb1, hb2 => by
    refine law34_ScansModes_l7_run fun K hK => ?_
    have h2 : q < st.length := by omega
    have e1 := gE (f := tI) 0 h2
    have e1' := gE' (f := tI) 0 h2
    have e2 := gE (f := tSl) slD hk
    have e2' := gE' (f := tSl) slD hk
    have e3 := gE (f := tI) 0 hm
    have e3' := gE' (f := tI) 0 hm
    by_cases hq : q = r
    · subst hq
      have hb := hb1 (Nat.le_refl _)
      subst hb
      have e4 := gE (f := tK) 0 (by omega : q < dN.length)
      have e4' := gE' (f := tK) 0 (by omega : q < dN.length)
      have e5 := gE (f := tK) 0 (by omega : q < ps.l.length)
      have e5' := gE' (f := tK) 0 (by omega : q < ps.l.length)
      have hpos : 0 ≤ ps.l.getD q 0 := by rw [getD_eq (by omega)]; exact hv _ (List.getElem_mem _)
      have ih := sm_l7 ch vT p0 a0 a1 b0 b1 d0 ps dN st hst hps hdN hv k m q hk hm hr hnd he bef hB h0 n (q + 1) _ (by omega) (fun h => absurd h (by omega)) (fun _ => rfl)
      rw [he] at e1 e1'
      rw [hB] at e4 e4'
      generalize ch.getD k slD = s at *
      generalize s.l.getD m 0 = x at *
      generalize ps.l.getD q 0 = y at *
      simp [smE, smS, smH, tV, tVs, tSl, hdN] at ih
      simp only [tSl] at e2 e2'
      simp [smE, smS, smH, tV, tVs, tSl, enc1_len, enc1_wid, h2, hk, hm, hps, hdN, e1, e1', e2, e2', e3, e3', e4, e4', e5, e5']
      refine callK_fresh (readL_spec _ hpos) rfl ?_
      simp
      rw [wrap_i64 (by omega) (by omega), hK]
      simpa using ih
    · have hne : ¬ st.getD q 0 = (ch.getD k slD).l.getD m 0 := fun e => hq (getD_nodup hnd h2 hr (e.trans he.symm))
      have ih := sm_l7 ch vT p0 a0 a1 b0 b1 d0 ps dN st hst hps hdN hv k m r hk hm hr hnd he B hB h0 n (q + 1) bef (by omega) (fun h => hb1 (by omega)) (fun h => hb2 (by omega))
      generalize ch.getD k slD = s at *
      generalize s.l.getD m 0 = x at *
      generalize st.getD q 0 = y at *
      simp [smE, smS, smH, tV, tVs, tSl] at ih
      simp only [tSl] at e2 e2'
      simp [smE, smS, smH, tV, tVs, tSl, enc1_len, enc1_wid, h2, hk, hm, e1, e1', e2, e2', e3, e3', hne]
      rw [wrap_i64 (by omega) (by omega), hK]
      simpa using ih

theorem befV_zero {ch : List (Sl Int)} {st pst v : List Int} {k : Nat} : befV ch st pst v k 0 = readV (v.getD k 0) := rfl
theorem befV_succ {ch : List (Sl Int)} {st pst v : List Int} {k m r : Nat} (hr : r < st.length) (hnd : st.Nodup) (he : st.getD r 0 = (ch.getD k slD).l.getD m 0) : befV ch st pst v k (m + 1) = readV (pst.getD r 0) := by
  unfold befV
  rw [if_neg (by omega), Nat.add_sub_cancel, ← he, getD_eq hr, hnd.idxOf_getElem]

theorem sm_l9 {Q : AX → St → Prop} (ch : List (Sl Int)) (hch : ∀ s ∈ ch, s.l.length ≤ 1000000) (vT p0 a0 a1 b0 b1 d0 : T) (ps : Sl Int) (dN st v : List Int) (hst : st.length ≤ 1000000) (hps : ps.l.length = st.length) (hdN : dN.length = st.length) (hv : ∀ v ∈ ps.l, 0 ≤ v) (k : Nat) (hk : k < ch.length)
    (hnd : st.Nodup) (hin : ∀ m, m < (ch.getD k slD).l.length → ∃ r, r < st.length ∧ st.getD r 0 = (ch.getD k slD).l.getD m 0)
    (hB : ∀ m r, m < (ch.getD k slD).l.length → r < st.length → st.getD r 0 = (ch.getD k slD).l.getD m 0 → dN.getD r 0 = befV ch st ps.l v k m)
    (h0 : ∀ x : T, Q (.exit 8) ⟨smE ch vT ++ [(29, .t (smS st)), (30, .t (tI k)), (31, .t x), (32, .t (tI (ch.getD k slD).l.length)), (215, .t (tB false))], smH p0 a0 a1 b0 b1 d0 ps dN⟩) :
    ∀ (n m : Nat), n + m = (ch.getD k slD).l.length →
    run Tryz.prog Γ law34_ScansModes_l9 Q ⟨smE ch vT ++ [(29, .t (smS st)), (30, .t (tI k)), (31, .t (tK (befV ch st ps.l v k m))), (32, .t (tI m))], smH p0 a0 a1 b0 b1 d0 ps dN⟩
  | 0, m, h => by
    refine law34_ScansModes_l9_run fun K hK => ?_
    have h2 : m = (ch.getD k slD).l.length := by omega
    subst h2
    have := h0 (tK (befV ch st ps.l v k (ch.getD k slD).l.length))
    have e2 := gE (f := tSl) slD hk
    have e2' := gE' (f := tSl) slD hk
    generalize befV ch st ps.l v k _ = B at *
    generalize ch.getD k slD = s at *
    simp only [tSl] at e2 e2'
    simp [smE, smS, smH, tV, tVs, tSl] at this
    simp [smE, smS, smH, tV, tVs, tSl, enc1_len, enc1_wid, hk, e2, e2']
    simpa using this
  | n + 1, m, h => by
    refine law34_ScansModes_l9_run fun K hK => ?_
    have h2 : m < (ch.getD k slD).l.length := by omega
    have hle : (ch.getD k slD).l.length ≤ 1000000 := by
      rw [show ch.getD k slD = ch[k] by simp [List.getD_eq_getElem?_getD, hk]]; exact hch _ (List.getElem_mem _)
    obtain ⟨r, hr, he⟩ := hin m h2
    have ih := sm_l9 ch hch vT p0 a0 a1 b0 b1 d0 ps dN st v hst hps hdN hv k hk hnd hin hB h0 n (m + 1) (by omega)
    rw [befV_succ hr hnd he] at ih
    have hb := hB m r h2 hr he
    have g := fun Q h0 => sm_l7 (Γ := Γ) (Q := Q) ch vT p0 a0 a1 b0 b1 d0 ps dN st hst hps hdN hv k m r hk h2 hr hnd he _ hb h0 st.length 0 _ (by omega) (fun _ => rfl) (fun h => absurd h (by omega))
    have e2 := gE (f := tSl) slD hk
    have e2' := gE' (f := tSl) slD hk
    generalize befV ch st ps.l v k m = B at *
    generalize ch.getD k slD = s at *
    generalize ps.l.getD r 0 = y at *
    simp only [tSl] at e2 e2'
    simp [smE, smS, smH, tV, tVs, tSl] at ih g
    simp [smE, smS, smH, tV, tVs, tSl, enc1_len, enc1_wid, hk, e2, e2', h2]
    refine g _ ?_
    simp
    rw [wrap_i64 (by omega) (by omega), hK]
    simpa using ih
end Go.Lg

/- ScansModes: its outer loops. Conditions: none. -/
set_option linter.unusedSimpArgs false
set_option linter.unusedVariables false
set_option maxRecDepth 100000
namespace Go.Lg
open Go Go.Proofs
variable {Γ : Tables}

theorem sm_l11 {Q : AX → St → Prop} (ch : List (Sl Int)) (hcl : ch.length ≤ 1000000) (hch : ∀ s ∈ ch, s.l.length ≤ 1000000) (p0 a1 b1 d0 : T) (aO bO : List Int) (ps : Sl Int) (dN st v : List Int) (hao : aO.length ≤ 1000000) (hbo : bO.length = aO.length + ch.length) (hvl : v.length = ch.length) (hv0 : ∀ x ∈ v, 0 ≤ x) (hst : st.length ≤ 1000000) (hps : ps.l.length = st.length) (hdN : dN.length = st.length) (hv : ∀ v ∈ ps.l, 0 ≤ v)
    (hnd : st.Nodup) (hin : ∀ k m, k < ch.length → m < (ch.getD k slD).l.length → ∃ r, r < st.length ∧ st.getD r 0 = (ch.getD k slD).l.getD m 0)
    (hB : ∀ k m r, k < ch.length → m < (ch.getD k slD).l.length → r < st.length → st.getD r 0 = (ch.getD k slD).l.getD m 0 → dN.getD r 0 = befV ch st ps.l v k m)
    (hne : ∀ k, k < ch.length → (ch.getD k slD).l ≠ []) (hL : ∀ k r, k < ch.length → r < st.length → st.getD r 0 = (ch.getD k slD).l.getD ((ch.getD k slD).l.length - 1) 0 → bO.getD (aO.length + k) 0 = ps.l.getD r 0)
    (h0 : Q (.exit 6) ⟨smE ch (.sl (vals v) none none) ++ [(29, .t (smS st)), (30, .t (tI ch.length)), (201, .t (tB false))], smH p0 (tVs aO) a1 (tVs bO) b1 d0 ps dN⟩) :
    ∀ (n k : Nat), n + k = ch.length →
    run Tryz.prog Γ law34_ScansModes_l11 Q ⟨smE ch (.sl (vals v) none none) ++ [(29, .t (smS st)), (30, .t (tI k))], smH p0 (tVs aO) a1 (tVs bO) b1 d0 ps dN⟩
  | 0, k, h => by
    refine law34_ScansModes_l11_run fun K hK => ?_
    have h2 : k = ch.length := by omega
    subst h2
    simp [smE, smS, smH, enc1_len]
    simpa [smE, smS, smH] using h0
  | n + 1, k, h => by
    refine law34_ScansModes_l11_run fun K hK => ?_
    have hk : k < ch.length := by omega
    have hle : (ch.getD k slD).l.length ≤ 1000000 := by
      rw [show ch.getD k slD = ch[k] by simp [List.getD_eq_getElem?_getD, hk]]; exact hch _ (List.getElem_mem _)
    have hpos : 0 < (ch.getD k slD).l.length := List.length_pos_iff.2 (hne k hk)
    have ih := sm_l11 ch hcl hch p0 a1 b1 d0 aO bO ps dN st v hao hbo hvl hv0 hst hps hdN hv hnd hin hB hne hL h0 n (k + 1) (by omega)
    have g := fun Q h0 => sm_l9 (Γ := Γ) (Q := Q) ch hch (.sl (vals v) none none) p0 (tVs aO) a1 (tVs bO) b1 d0 ps dN st v hst hps hdN hv k hk hnd (fun m hm => hin k m hk hm) (fun m r hm hr he => hB k m r hk hm hr he) h0 (ch.getD k slD).l.length 0 (by omega)
    obtain ⟨r, hr, he⟩ := hin k ((ch.getD k slD).l.length - 1) hk (by omega)
    have hl := hL k r hk hr he
    have ei := indexL_spec (Γ := Γ) ⟨st, some st.length, none⟩ (by show st.length ≤ _; omega) r hr hnd
    simp only [tSl] at ei
    rw [he] at ei
    have e2 := gE (f := tSl) slD hk
    have e2' := gE' (f := tSl) slD hk
    have e3 := gE (f := tK) 0 (by omega : k < v.length)
    have e3' := gE' (f := tK) 0 (by omega : k < v.length)
    have e4 := gE (f := tK) 0 (by omega : aO.length + k < bO.length)
    have e4' := gE' (f := tK) 0 (by omega : aO.length + k < bO.length)
    have e5 := gE (f := tK) 0 (by omega : r < ps.l.length)
    have e5' := gE' (f := tK) 0 (by omega : r < ps.l.length)
    rw [hl] at e4 e4'
    rw [befV_zero] at g
    have hp0 : 0 ≤ v.getD k 0 := by rw [getD_eq (by omega)]; exact hv0 _ (List.getElem_mem _)
    have e6 := gE (f := tI) 0 (by omega : (ch.getD k slD).l.length - 1 < (ch.getD k slD).l.length)
    have e6' := gE' (f := tI) 0 (by omega : (ch.getD k slD).l.length - 1 < (ch.getD k slD).l.length)
    generalize ch.getD k slD = s at *
    generalize s.l.getD (s.l.length - 1) 0 = x at *
    generalize ps.l.getD r 0 = y at *
    generalize v.getD k 0 = z at *
    simp only [tSl] at e2 e2'
    have w1 : IntKind.i64.wrap ((aO.length : Int) + k) = ((aO.length + k : Nat) : Int) := by rw [wrap_i64] <;> omega
    have w2 : IntKind.i64.wrap ((s.l.length : Int) - 1) = ((s.l.length - 1 : Nat) : Int) := by rw [wrap_i64] <;> omega
    have q1 : aO.length + k < aO.length + ch.length := by omega
    have q2 : s.l.length - 1 < s.l.length := by omega
    simp [smE, smS, smH, tV, tVs, tSl, hbo, hdN] at ih g
    simp [smE, smS, smH, tV, tVs, tSl, enc1_len, enc1_wid, hk, hvl, hbo, hdN, e3, e3']
    refine callK_fresh (readL_spec _ hp0) rfl ?_
    simp
    refine g _ fun w => ?_
    simp [enc1_len, enc1_wid, hk, e2, e2', w1, w2, q1, q2, hbo, e4, e4', e6, e6', -Int.natCast_add]
    refine callK_fresh ei rfl ?_
    simp [enc1_len, enc1_wid, hps, hr, e5, e5']
    rw [wrap_i64 (by omega) (by omega), hK]
    simpa using ih
end Go.Lg

/- ScansModes: the chains' inputs, the two comparisons. Conditions: none. -/
set_option linter.unusedSimpArgs false
set_option linter.unusedVariables false
set_option maxRecDepth 100000
namespace Go.Lg
open Go Go.Proofs
variable {Γ : Tables}

def snE (inn : Sl Int) (chT : T) : List (Nat × AV) := [(2, .t (tV inn)), (7, .lp 7 0 0), (8, .t chT), (9, .lp 9 0 0), (10, .t (tI 0)), (11, .lp 11 0 0)]
def snH (c0 c1 c2 c3 s0 s1 s2 s3 s4 s5 s6 s7 p0 p1 : T) (out : List Int) : List (Nat × Reg) := [(7, .bx [.t c0, .t c1, .t c2, .t c3]), (9, .bx [.t s0, .t s1, .t s2, .t s3, .t s4, .t s5, .t s6, .t s7]), (11, .bx [.t p0, .t p1]), (59, .sl 68 1 (vals out))]

theorem sm_l1 {Q : AX → St → Prop} (inn : Sl Int) (ch : List (Sl Int)) (hn : ch.length ≤ 1000000) (c0 c1 c2 c3 s0 s1 s2 s3 s4 s5 s6 s7 p0 p1 : T) (R : List Int)
    (h0 : Q (.exit 0) ⟨snE inn (.sl (enc1 tSl ch) none none) ++ [(12, .ls 59 0 ch.length none), (13, .t (tI ch.length)), (51, .t (tB false))], snH c0 c1 c2 c3 s0 s1 s2 s3 s4 s5 s6 s7 p0 p1 R⟩) :
    ∀ (k i : Nat) (out : List Int), k + i = ch.length → out.length = i → out ++ (List.range' i k).map (fun i => if inn.l = [] then 2 else (inn.l.getD (i % inn.l.length) 0).tmod 4) = R →
    run Tryz.prog Γ law34_ScansModes_l1 Q ⟨snE inn (.sl (enc1 tSl ch) none none) ++ [(12, .ls 59 0 i none), (13, .t (tI i))], snH c0 c1 c2 c3 s0 s1 s2 s3 s4 s5 s6 s7 p0 p1 out⟩
  | 0, i, out, h, hi, hR => by
    refine law34_ScansModes_l1_run fun K hK => ?_
    have h2 : i = ch.length := by omega
    subst h2
    simp only [List.range'_zero, List.map_nil, List.append_nil] at hR
    subst hR
    simp [snE, snH, enc1_len]
    simpa [snE, snH] using h0
  | k + 1, i, out, h, hi, hR => by
    refine law34_ScansModes_l1_run fun K hK => ?_
    have h2 : i < ch.length := by omega
    rw [List.range'_succ, List.map_cons] at hR
    have vt : (vals out).take i = vals out := by rw [← hi]; exact vals_take
    have w1 : IntKind.i64.wrap ((i : Int) + 1) = (i : Int) + 1 := by rw [wrap_i64] <;> omega
    by_cases h1 : inn.l = []
    · have ih := sm_l1 inn ch hn c0 c1 c2 c3 s0 s1 s2 s3 s4 s5 s6 s7 p0 p1 R h0 k (i + 1) (out ++ [2]) (by omega) (by simp [hi]) (by rw [← hR]; simp [h1])
      have vs := vals_snoc (l := out) (v := 2)
      simp [snE, snH, tV, h1] at ih
      simp [snE, snH, h2, tV, enc1_len, h1, w1, vt, vs, hi]
      refine ⟨by omega, ?_⟩
      rw [hK]
      simpa using ih
    · have hpos : 0 < inn.l.length := List.length_pos_iff.2 h1
      have hlt : i % inn.l.length < inn.l.length := Nat.mod_lt _ hpos
      have hmod : (i : Int).tmod (inn.l.length : Int) = ((i % inn.l.length : Nat) : Int) := by rw [Int.natCast_emod]; exact Int.tmod_eq_emod_of_nonneg (by omega)
      rw [if_neg h1] at hR
      have e := ge1 (f := tK) hlt
      have e' := gE' (f := tK) 0 hlt
      generalize hj : i % inn.l.length = j at *
      generalize inn.l.getD j 0 = v at *
      have ih := sm_l1 inn ch hn c0 c1 c2 c3 s0 s1 s2 s3 s4 s5 s6 s7 p0 p1 R h0 k (i + 1) (out ++ [v.tmod 4]) (by omega) (by simp [hi]) (by rw [← hR]; simp)
      have vs := vals_snoc (l := out) (v := v.tmod 4)
      have hne : ¬ (inn.l.length : Int) = 0 := by omega
      simp [snE, snH, tV] at ih
      simp [snE, snH, h2, tV, enc1_len, enc1_wid, h1, hne, hmod, hlt, e, e', w1, vt, vs, hi, -Int.natCast_emod]
      refine ⟨by omega, ?_⟩
      rw [hK]
      simpa using ih

def soE (chT vT : T) : List (Nat × AV) := [(7, .lp 7 0 0), (8, .t chT), (11, .lp 11 0 0), (12, .t vT), (18, .lp 18 0 0), (21, .lp 21 0 0), (24, .lp 24 0 0)]
def soH (c0 c1 c2 c3 p0 p1 a0 a1 b0 b1 d0 d1 : T) : List (Nat × Reg) := [(7, .bx [.t c0, .t c1, .t c2, .t c3]), (11, .bx [.t p0, .t p1]), (18, .bx [.t a0, .t a1]), (21, .bx [.t b0, .t b1]), (24, .bx [.t d0, .t d1])]

theorem sm_l3 {Q : AX → St → Prop} (chT vT c0 c1 c2 c3 p0 p1 a1 b1 d0 d1 : T) (a b : List Int) (ha : a.length ≤ 1000000) (hb : a.length ≤ b.length) (he : ∀ i, i < a.length → b.getD i 0 = a.getD i 0)
    (h0 : Q (.exit 2) ⟨soE chT vT ++ [(27, .t (tI a.length)), (164, .t (tB false))], soH c0 c1 c2 c3 p0 p1 (tVs a) a1 (tVs b) b1 d0 d1⟩) :
    ∀ (k i : Nat), k + i = a.length → run Tryz.prog Γ law34_ScansModes_l3 Q ⟨soE chT vT ++ [(27, .t (tI i))], soH c0 c1 c2 c3 p0 p1 (tVs a) a1 (tVs b) b1 d0 d1⟩
  | 0, i, h => by
    refine law34_ScansModes_l3_run fun K hK => ?_
    have h2 : i = a.length := by omega
    subst h2
    simp [soE, soH, tVs, enc1_len]
    simpa [soE, soH, tVs] using h0
  | k + 1, i, h => by
    refine law34_ScansModes_l3_run fun K hK => ?_
    have h2 : i < a.length := by omega
    have h3 : i < b.length := by omega
    have ih := sm_l3 chT vT c0 c1 c2 c3 p0 p1 a1 b1 d0 d1 a b ha hb he h0 k (i + 1) (by omega)
    have e1 := gE (f := tK) 0 h2
    have e1' := gE' (f := tK) 0 h2
    have e2 := gE (f := tK) 0 h3
    have e2' := gE' (f := tK) 0 h3
    rw [he i h2] at e2 e2'
    generalize a.getD i 0 = x at *
    simp [soE, soH, tVs] at ih
    simp [soE, soH, tVs, enc1_len, enc1_wid, h2, h3, e1, e1', e2, e2']
    rw [wrap_i64 (by omega) (by omega), hK]
    simpa using ih
theorem sm_l5 {Q : AX → St → Prop} (chT vT c0 c1 c2 c3 p0 p1 a0 b0 d0 d1 : T) (a : List Int) (ha : a.length ≤ 1000000)
    (h0 : Q (.exit 4) ⟨soE chT vT ++ [(28, .t (tI a.length)), (182, .t (tB false))], soH c0 c1 c2 c3 p0 p1 a0 (tVs a) b0 (tVs a) d0 d1⟩) :
    ∀ (k i : Nat), k + i = a.length → run Tryz.prog Γ law34_ScansModes_l5 Q ⟨soE chT vT ++ [(28, .t (tI i))], soH c0 c1 c2 c3 p0 p1 a0 (tVs a) b0 (tVs a) d0 d1⟩
  | 0, i, h => by
    refine law34_ScansModes_l5_run fun K hK => ?_
    have h2 : i = a.length := by omega
    subst h2
    simp [soE, soH, tVs, enc1_len]
    simpa [soE, soH, tVs] using h0
  | k + 1, i, h => by
    refine law34_ScansModes_l5_run fun K hK => ?_
    have h2 : i < a.length := by omega
    have ih := sm_l5 chT vT c0 c1 c2 c3 p0 p1 a0 b0 d0 d1 a ha h0 k (i + 1) (by omega)
    have e1 := gE (f := tK) 0 h2
    have e1' := gE' (f := tK) 0 h2
    generalize a.getD i 0 = x at *
    simp [soE, soH, tVs] at ih
    simp [soE, soH, tVs, enc1_len, enc1_wid, h2, e1, e1']
    rw [wrap_i64 (by omega) (by omega), hK]
    simpa using ih
end Go.Lg

/- ScansModes, walked to its end. Conditions: none. -/
set_option linter.unusedSimpArgs false
set_option linter.unusedVariables false
set_option maxRecDepth 100000
namespace Go.Lg
open Go Go.Proofs
variable {Γ : Tables}

theorem clean4 {v : Int} (h : V4 v) : cleanV v = v := by unfold cleanV; rw [if_neg (by have := h.2; omega)]

theorem pat_good {c : Cir} {ch : List (Sl Int)} (h : ScOk c ch) {p : Pat} (hp : POk c p) {e : Int} (he : V4 e) {v : List Int} (hv : v.length = ch.length) (hv4 : ∀ x ∈ v, V4 x) (k : Option Nat) (n : Option Bool) :
    patRes (scC c ch) p e ⟨v, k, n⟩ = .tup [.agg [tVs (p.inn.l ++ ([e] ++ v)), tV (cpS p.st)], tI 0] := by
  have hk := sc_pok h hp he hv hv4 none none none none
  have a1 : ∀ {l : List Int}, (∀ v ∈ l, V4 v) → l.any aboveV = false := fun h => List.any_eq_false.2 fun v hv => by have := (h v hv).2; simp [aboveV]; omega
  have hE : patErr (scC c ch) p e ⟨v, k, n⟩ = 0 := by
    unfold patErr
    rw [if_neg (fun hh => hh hk.i), if_neg (by rw [show patAll p e ⟨v, k, n⟩ = p.inn.l ++ ([e] ++ v) from rfl, a1 hk.vi, a1 hk.vs]; simp)]
  unfold patRes
  rw [if_pos hE]; rfl

set_option maxHeartbeats 4000000 in
theorem lawModes_spec (hΓ : GOk Γ) (y : CaseD) (hy : CaseOk y) (q : PD) (hq : PDOk q) (inn : Sl Int) (hin : ∀ b ∈ inn.l, Byt b) : PureCalls Tryz.prog Γ 5 [.agg (tCase y), .agg (tPD q), tV inn] (tB true) := by
  refine run_pureQ law34_ScansModes_chk rfl ?_
  have hx := noMemX_ok hy.x
  have hpl : plainErr (caseC y) = 0 := ofC_plain hx rfl
  have hc : NOk (caseC y) := NOk_of hx rfl
  have e1 := CaseOf_spec (Γ := Γ) y hy
  have hsc := case_scok hy
  have hsm := case_small hy
  generalize caseC y = c at *
  generalize caseCh y = ch at *
  have hn2 := hsc.n2
  have hP := pat2_ok hq c
  have ep := P_Of2_spec (Γ := Γ) q hq c hsc.ok
  have hps : SlOk (patOf2 q c).st := takS_ok (by have := states_len' c; omega)
  generalize patOf2 q c = p at *
  have hle := elems_le ch fun s hs => (hsc.ne s hs).1
  have hpe := hsc.perm.length_eq
  have hsl := states_len' c
  have hil := inputs_len c
  have hvl : (takenL inn.l ch.length 4).length = ch.length := takenL_len
  have hv4 : ∀ v ∈ takenL inn.l ch.length 4, V4 v := taken_4 (fun v hv => (hin v hv).1) (by omega)
  have g1 := fun Q c0 c1 c2 c3 s0 s1 s2 s3 s4 s5 s6 s7 p0 p1 h0 => sm_l1 (Γ := Γ) (Q := Q) inn ch (by omega) c0 c1 c2 c3 s0 s1 s2 s3 s4 s5 s6 s7 p0 p1 (takenL inn.l ch.length 4) h0 ch.length 0 [] (by omega) rfl (by simp [takenL])
  generalize takenL inn.l ch.length 4 = v at *
  have e2 := Insert_spec (Γ := Γ) hΓ c ⟨ch, none, none⟩ (scOk_ins hsc hpl none none)
  have z0 : V4 0 := by simp [V4]
  have z1 : V4 1 := by simp [V4]
  have hcok := sc_cok hsc
  have e3 := Pattern_spec (Γ := Γ) (scC c ch) hcok (enc1 tSl (scS c ch).cl) (ints (scS c ch).ins) (ints (scJ c ch).muxes) (some (scS c ch).cl.length) (some (scS c ch).ins.length) (some (scJ c ch).muxes.length) none none none c.nodes.l.length p 0 ⟨v, none, none⟩ ⟨by rw [hP.i]; omega, by show v.length ≤ _; omega⟩ hps
  have e4 := Pattern_spec (Γ := Γ) (scC c ch) hcok (enc1 tSl (scS c ch).cl) (ints (scS c ch).ins) (ints (scJ c ch).muxes) (some (scS c ch).cl.length) (some (scS c ch).ins.length) (some (scJ c ch).muxes.length) none none none c.nodes.l.length p 1 ⟨v, none, none⟩ ⟨by rw [hP.i]; omega, by show v.length ≤ _; omega⟩ hps
  rw [pat_good hsc hP z0 hvl hv4] at e3
  rw [pat_good hsc hP z1 hvl hv4] at e4
  have e5 := Run_ok (Γ := Γ) hΓ hc hP
  have e6 := sc_Run (Γ := Γ) hΓ hsc hc hsm rfl (sc_pok hsc hP z0 hvl hv4 (some (p.inn.l ++ ([0] ++ v)).length) (cpS p.st).cap none (cpS p.st).nl)
  have e7 := sc_Run (Γ := Γ) hΓ hsc hc hsm rfl (sc_pok hsc hP z1 hvl hv4 (some (p.inn.l ++ ([1] ++ v)).length) (cpS p.st).cap none (cpS p.st).nl)
  have e8 := states_spec (Γ := Γ) c hsc.ok
  have r1 := sc_next0 hsc hc.lev hP.i hP.s hvl
  have r2 := sc_out hsc hc.lev (e := 0) hP.i hP.s hvl
  have r3 := fun k m q hk hm hq he => sc_shift hsc hc.lev hP.i hP.s hvl (k := k) (m := m) (q := q) hk hm hq he
  simp only at e6 e7
  rw [r1, r2] at e6
  have hnd : (states c).Nodup := (ofL_nodup [14] c.nodes.l 0).2
  have hmem : ∀ k m, k < ch.length → m < (ch.getD k slD).l.length → (ch.getD k slD).l.getD m 0 ∈ states c := fun k m hk hm => by
    refine hsc.perm.mem_iff.1 ?_
    rw [getD_eq hm]
    unfold elems
    refine List.mem_flatten.2 ⟨(ch.getD k slD).l, List.mem_map.2 ⟨ch.getD k slD, ?_, rfl⟩, List.getElem_mem _⟩
    rw [List.getD_eq_getElem?_getD, List.getElem?_eq_getElem hk]
    exact List.getElem_mem _
  have hkm : ∀ k, k < ch.length → ch.getD k slD ∈ ch := fun k hk => by
    rw [List.getD_eq_getElem?_getD, List.getElem?_eq_getElem hk]; exact List.getElem_mem _
  have hst0 : ∀ v ∈ p.st.l, 0 ≤ v := fun v hv => (hP.vs v hv).1
  have hao : (outL c (netsL c p.inn.l p.st.l)).length ≤ 4 := by unfold outL; rw [List.length_map]; exact hsc.outs.1
  have han : (nextsL c (netsL c p.inn.l p.st.l)).length = (states c).length := by unfold nextsL; rw [List.length_map]
  have hdn : (nextsL (scC c ch) (netsL (scC c ch) (p.inn.l ++ ([1] ++ v)) p.st.l)).length = (states c).length := by unfold nextsL; rw [List.length_map, sc_states hsc]
  have hbL : ∀ k r, k < ch.length → r < (states c).length → (states c).getD r 0 = (ch.getD k slD).l.getD ((ch.getD k slD).l.length - 1) 0 → (outL c (netsL c p.inn.l p.st.l) ++ ch.map fun s => cleanV (p.st.l.getD ((states c).idxOf (s.l.getLastD 0)) 0)).getD ((outL c (netsL c p.inn.l p.st.l)).length + k) 0 = p.st.l.getD r 0 := fun k r hk hr he => by
    rw [List.getD_eq_getElem?_getD, List.getElem?_append_right (by omega), Nat.add_sub_cancel_left, List.getElem?_map, List.getElem?_eq_getElem hk]
    have hg : (ch.getD k slD) = ch[k] := by simp [List.getD_eq_getElem?_getD, hk]
    have hne := (hsc.ne _ (hkm k hk)).1
    rw [hg] at he hne
    have hpos := List.length_pos_iff.2 hne
    have hl : ch[k].l.getLastD 0 = ch[k].l.getD (ch[k].l.length - 1) 0 := by
      rw [List.getLastD_eq_getLast?, List.getLast?_eq_getElem?, List.getD_eq_getElem?_getD]
    show cleanV _ = _
    rw [hl, ← he, getD_eq hr, hnd.idxOf_getElem]
    refine clean4 ?_
    rw [getD_eq (by rw [hP.s]; exact hr)]
    exact hP.vs _ (List.getElem_mem _)
  generalize nextsL (scC c ch) (netsL (scC c ch) (p.inn.l ++ ([1] ++ v)) p.st.l) = dN at *
  generalize outL (scC c ch) (netsL (scC c ch) (p.inn.l ++ ([1] ++ v)) p.st.l) = dO at *
  have hbl : (outL c (netsL c p.inn.l p.st.l) ++ ch.map fun s => cleanV (p.st.l.getD ((states c).idxOf (s.l.getLastD 0)) 0)).length = (outL c (netsL c p.inn.l p.st.l)).length + ch.length := by simp
  have hba : ∀ i, i < (outL c (netsL c p.inn.l p.st.l)).length → (outL c (netsL c p.inn.l p.st.l) ++ ch.map fun s => cleanV (p.st.l.getD ((states c).idxOf (s.l.getLastD 0)) 0)).getD i 0 = (outL c (netsL c p.inn.l p.st.l)).getD i 0 := fun i hi => by
    rw [List.getD_eq_getElem?_getD, List.getElem?_append_left hi, ← List.getD_eq_getElem?_getD]
  generalize (outL c (netsL c p.inn.l p.st.l) ++ ch.map fun s => cleanV (p.st.l.getD ((states c).idxOf (s.l.getLastD 0)) 0)) = bO at *
  generalize outL c (netsL c p.inn.l p.st.l) = aO at *
  generalize nextsL c (netsL c p.inn.l p.st.l) = aN at *
  generalize netsL c p.inn.l p.st.l = N at *
  have hcs := hP.s
  have g3 := fun Q c0 c1 c2 c3 p0 p1 a1 b1 d0 d1 h0 => sm_l3 (Γ := Γ) (Q := Q) (.sl (enc1 tSl ch) none none) (.sl (vals v) none none) c0 c1 c2 c3 p0 p1 a1 b1 d0 d1 aO bO (by omega) (by omega) hba h0 aO.length 0 (by omega)
  have g5 := fun Q c0 c1 c2 c3 p0 p1 a0 b0 d0 d1 h0 => sm_l5 (Γ := Γ) (Q := Q) (.sl (enc1 tSl ch) none none) (.sl (vals v) none none) c0 c1 c2 c3 p0 p1 a0 b0 d0 d1 aN (by omega) h0 aN.length 0 (by omega)
  have g11 := fun Q p0 a1 b1 d0 h0 => sm_l11 (Γ := Γ) (Q := Q) ch (by omega) (fun s hs => by have := hle.2 s hs; omega) p0 a1 b1 d0 aO bO p.st dN (states c) v (by omega) hbl hvl (fun x hx => (hv4 x hx).1) (by omega) hcs hdn hst0 hnd
    (fun k m hk hm => ⟨_, List.idxOf_lt_length_iff.2 (hmem k m hk hm), by rw [getD_eq (List.idxOf_lt_length_iff.2 (hmem k m hk hm))]; exact List.getElem_idxOf _⟩) r3 (fun k hk => (hsc.ne _ (hkm k hk)).1) hbL h0 ch.length 0 (by omega)
  simp only [tScan] at e2
  generalize enc1 tSl (scS c ch).cl = s4 at *
  generalize ints (scS c ch).ins = s6 at *
  generalize ints (scJ c ch).muxes = s7 at *
  generalize scC c ch = D at *
  generalize netsL D (p.inn.l ++ ([0] ++ v)) p.st.l = N0 at *
  generalize netsL D (p.inn.l ++ ([1] ++ v)) p.st.l = N1 at *
  have vt : (vals v).take ch.length = vals v := by rw [← hvl]; exact vals_take
  have hbl' : ((bO.length : Int) = (aO.length : Int) + ch.length) := by omega
  have w1 : IntKind.i64.wrap ((aO.length : Int) + ch.length) = (aO.length : Int) + ch.length := by rw [wrap_i64] <;> omega
  simp [snE, snH, tV, tSl] at g1
  simp [soE, soH, tVs, hbl, han, hdn] at g3 g5
  simp [smE, smH, smS, tVs, tV, hbl, hdn] at g11
  simp [law34_ScansModes_ic, tCase, tCD, tPD, tV]
  simp [tCase, tCD] at e1
  refine callK_pure e1 rfl ?_
  simp [tC, tNodes, tNames, tMems, tSl, tChs]
  simp [tC, tNodes, tNames, tMems, tSl, tChs] at e2 e3 e4 e5 e6 e7 e8 ep
  refine callK_pure e2 rfl ?_
  simp
  simp [tPD, tV] at ep
  refine callK_pure ep rfl ?_
  simp [tP, tV]
  simp [tP, tV, tVs, cpS] at e3 e4 e5 e6 e7
  refine g1 _ _ _ _ _ _ _ _ _ _ _ _ _ _ _ ?_
  simp [St.freeze, Reg.closed, frzRef, frz1, frz0, frzReg, del, reify, vt]
  refine callK_pure e3 rfl ?_
  simp
  refine callK_pure e4 rfl ?_
  simp
  refine callK_pure e5 rfl ?_
  simp [tVs]
  refine callK_pure e6 rfl ?_
  simp [tVs]
  refine callK_pure e7 rfl ?_
  simp [tVs, enc1_len, hbl, hbl', w1, han, hdn]
  refine g3 _ _ _ _ _ _ _ _ _ _ _ ?_
  simp
  refine g5 _ _ _ _ _ _ _ _ _ _ _ ?_
  simp
  refine callK_pure e8 rfl ?_
  simp
  refine g11 _ _ _ _ _ ?_
  simp
  refine callK_fresh (lives_spec hΓ) rfl ?_
  simp [law34_ScansModes_rv, reify]
end Go.Lg
