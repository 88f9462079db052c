/- The abstract code of some functions, as the program gen.py prints it. Conditions: none. -/
import Derived.Test.YtafhjckfgmcphaaGreatDoorPkC
import Derived.Test.YtafhjckfgmcphaaGreatDoorProg
import Derived.KernelRfl
import Derived.Test.YtafhjckfgmcphaaGreatDoorPkE
import Derived.Test.YtafhjckfgmcphaaGreatDoorPkD
import Derived.Laws.IdiomRangeMap
import Derived.Shelf.Sort.Plain
import Derived.Shelf.Slices.In.SortNone
set_option linter.unusedVariables false
namespace Go.Lg
open Go
section
variable {P:Program} {Γ:Tables} {Q:AX->St->Prop} {s:St}
/- probecard/probecardref01.Choices (function 213) -/
abbrev Gu:IC:=(.seq (.reg [od 4 (.mv kN)] [kp [0,1] []]) (.seq (.seq (.reg [om 5 0,od 6 (.bin .eql (tm 5) (ku 0))] [kp [0,1,6] []]) (.cond (tm 6) (.seq (.reg [od 7 (.bsl true 3 1 [(ki 0)]),om 4 7] [kp [4] []]) .ret) .skip)) (.seq (.seq
 (.reg [om 8 0,od 9 (.bin .eql (tm 8) (ku 1))] [kp [0,1,9] []]) (.cond (tm 9) (.seq (.reg [od 10 (.bsl true 3 1 [(ki 1)]),om 4 10] [kp [4] []]) .ret) .skip)) (.seq (.seq (.reg [om 11 1,om 12 11,oT 13 (.mv (tm 0)) 12,oT 14
 (.bin .eql (tm 13) (ku 3)) 12,od 15 (.pick (tm 12) (tm 14) kF)] [kp [1,15] []]) (.cond (tm 15) (.seq (.reg [od 16 (.bsl true 3 1 [(ki 2)]),om 4 16] [kp [4] []]) .ret) .skip)) (.seq (.seq (.reg [om 17 1] [kp [17] []]) (.cond (tm
 17) (.seq (.reg [od 18 (.bsl true 3 1 [(ki 0),(ki 1),(ki 2)]),om 4 18] [kp [4] []]) .ret) .skip)) (.seq (.reg [od 19 (.bsl true 3 1 [(ki 0),(ki 1)]),om 4 19] [kp [4] []]) .ret))))))
def Gv:List RV:=[.tmp 4]
/- probecard/probecardref01.count (function 223) -/
abbrev q4C:IC:=.gh (.seq (.seq (.reg [om 7 6,om 8 0,od 9 (le 0 8),od 10 (.bin .lss (tm 7) (tm 9))] [kp [0,1,5,6,10] []]) (.cond (tm 10) .skip (.exit 0))) (.seq (.block 1 (.seq (.reg [om 13 0,om 14 6,od 15 (ia 1 13 14),od 16 (ld 1 15),
 om 17 1,od 18 (.bin .eql (tm 16) (tm 17))] [kp [0,1,5,6,18] []]) (.cond (tm 18) (.reg [om 19 5,od 20 (.bin .add (tm 19) (ki 1)),om 5 20] [kp [0,1,5,6] []]) .skip))) (.reg [om 11 6,od 12 (.bin .add (tm 11) (ki 1)),om 6
 12] [kp [0,1,5,6] []]))) [kp [0,1,5,6] []]
def Tj:IC:=.loop q4C
abbrev q4D:IC:=(.seq (.reg [od 4 (.mv (ki 0))] [kp [0,1] []]) (.seq (.reg [od 5 (.mv (ki 0))] [kp [0,1,5] []]) (.seq (.seq (.reg [od 6 (.mv (ki 0))] [kp [0,1,5,6] []]) (.block 0 Tj)) (.seq (.reg [om 21 5,om 4 21] [kp [4] []])
 .ret))))
theorem Zq (h:∀ K:St->Prop,K=run P Γ Tj Q->run P Γ q4C (Aw K Q) s):run P Γ Tj Q s:=Ah h
def q4E:List RV:=[.tmp 4]
/- probecard/probecardref01.bit (function 224) -/
abbrev q7A:IC:=(.seq (.reg [od 2 (.mv (ki 0))] [kp [0] []]) (.seq (.seq (.reg [om 3 0] [kp [3] []]) (.cond (tm 3) (.seq (.reg [od 2 (.mv (ki 1))] [kp [2] []]) .ret) .skip)) (.seq (.reg [od 2 (.mv (ki 0))] [kp [2] []]) .ret)))
def q7B:List RV:=[.tmp 2]
/- probecard/probecardref01.Function (function 214) -/
abbrev Bt:IC:=(.seq (.reg [od 4 (.mv (ki 0))] [kp [0,1] []]) (.seq (.reg [om 7 1,od 8 (.call 223 [(tm 7),(ki 1)]),om 5 8] [kp [0,1,5] []]) (.seq (.reg [om 9 1,od 10 (.call 223 [(tm 9),(ki 0)]),om 6 10] [kp [0,1,5,6] []]) (.seq
 (.block 0 (.seq (.reg [om 12 0,od 13 (.bin .eql (tm 12) (ku 1)),om 14 13,oF 15 (.mv (tm 0)) 14,oF 16 (.bin .eql (tm 15) (ku 2)) 14,od 17 (.pick (tm 14) kT (tm 16)),om 11 17] [kp [0,1,5,6,11] []]) (.cond (tm 11) (.seq
 (.reg [om 18 0,od 19 (.bin .eql (tm 18) (ku 2)),od 20 (.call 224 [(tm 19)]),om 4 20] [kp [4] []]) .ret) (.seq (.reg [om 22 0,od 23 (.bin .eql (tm 22) (ku 3)),om 24 23,oF 25 (.mv (tm 0)) 24,oF 26 (.bin .eql (tm 25) (ku 4))
 24,od 27 (.pick (tm 24) kT (tm 26)),om 21 27] [kp [0,1,5,6,21] []]) (.cond (tm 21) (.seq (.reg [om 28 1,od 29 (.iadr 1 (tm 28) (ki 0)),od 30 (ld 1 29),od 31 (.bin .eql (tm 30) (ki 1)),om 32 0,od 33 (.bin .eql (tm 32) (ku
 3)),od 34 (.eqb true (tm 31) (tm 33)),od 35 (.call 224 [(tm 34)]),om 4 35] [kp [4] []]) .ret) (.seq (.reg [om 37 0,od 38 (.bin .eql (tm 37) (ku 5)),om 39 38,oF 40 (.mv (tm 0)) 39,oF 41 (.bin .eql (tm 40) (ku 6)) 39,od 42
 (.pick (tm 39) kT (tm 41)),om 36 42] [kp [0,1,5,6,36] []]) (.cond (tm 36) (.seq (.reg [om 43 6,od 44 (.bin .eql (tm 43) (ki 0)),om 45 0,od 46 (.bin .eql (tm 45) (ku 5)),od 47 (.eqb true (tm 44) (tm 46)),od 48 (.call 224
 [(tm 47)]),om 4 48] [kp [4] []]) .ret) (.seq (.reg [om 50 0,od 51 (.bin .eql (tm 50) (ku 7)),om 52 51,oF 53 (.mv (tm 0)) 52,oF 54 (.bin .eql (tm 53) (ku 8)) 52,od 55 (.pick (tm 52) kT (tm 54)),om 49 55] [kp [0,1,5,6,49]
 []]) (.cond (tm 49) (.seq (.reg [om 56 5,od 57 (.bin .gtr (tm 56) (ki 0)),om 58 0,od 59 (.bin .eql (tm 58) (ku 7)),od 60 (.eqb true (tm 57) (tm 59)),od 61 (.call 224 [(tm 60)]),om 4 61] [kp [4] []]) .ret) (.seq (.reg [om 63
 0,od 64 (.bin .eql (tm 63) (ku 9)),om 65 64,oF 66 (.mv (tm 0)) 65,oF 67 (.bin .eql (tm 66) (ku 10)) 65,od 68 (.pick (tm 65) kT (tm 67)),om 62 68] [kp [0,1,5,6,62] []]) (.cond (tm 62) (.seq (.reg [om 69 5,od 70 (.bin .rem
 (tm 69) (ki 2)),od 71 (.bin .eql (tm 70) (ki 1)),om 72 0,od 73 (.bin .eql (tm 72) (ku 9)),od 74 (.eqb true (tm 71) (tm 73)),od 75 (.call 224 [(tm 74)]),om 4 75] [kp [4] []]) .ret) (.seq (.reg [om 77 0,od 78 (.bin .eql (tm
 77) (ku 11)),om 79 78,oT 80 (.mv (tm 1)) 79,oT 81 (.iadr 1 (tm 80) (ki 0)) 79,oT 82 (ld 1 81) 79,oT 83 (.bin .eql (tm 82) (ki 0)) 79,od 84 (.pick (tm 79) (tm 83) kF),om 76 84] [kp [0,1,5,6,76] []]) (.cond (tm 76) (.seq
 (.reg [om 85 1,od 86 (.iadr 1 (tm 85) (ki 1)),od 87 (ld 1 86),om 4 87] [kp [4] []]) .ret) (.seq (.reg [om 89 0,od 90 (.bin .eql (tm 89) (ku 11)),om 88 90] [kp [0,1,5,6,88] []]) (.cond (tm 88) (.seq (.reg [om 91 1,od 92
 (.iadr 1 (tm 91) (ki 2)),od 93 (ld 1 92),om 4 93] [kp [4] []]) .ret) (.seq (.reg [om 95 0,od 96 (.bin .eql (tm 95) (ku 12)),om 97 96,oT 98 (.mv (tm 1)) 97,oT 99 (.iadr 1 (tm 98) (ki 0)) 97,oT 100 (ld 1 99) 97,oT 101 (.bin
 .eql (tm 100) (ki 0)) 97,od 102 (.pick (tm 97) (tm 101) kF),om 103 102,oF 104 (.mv (tm 0)) 103,oF 105 (.bin .eql (tm 104) (ku 13)) 103,oF 106 (.mv (tm 105)) 103,oT 107 (.mv (tm 5)) 106,oT 108 (.mv (tm 6)) 106,oT 109 (.bin
 .add (tm 107) (tm 108)) 106,oT 110 (.bin .eql (tm 109) (ki 0)) 106,oF 111 (.pick (tm 106) (tm 110) kF) 103,od 112 (.pick (tm 103) kT (tm 111)),om 94 112] [kp [0,1,5,6,94] []]) (.cond (tm 94) (.seq (.reg [od 4 (.mv (ki 2))]
 [kp [4] []]) .ret) (.seq (.reg [om 114 0,od 115 (.bin .eql (tm 114) (ku 12)),om 113 115] [kp [0,1,5,6,113] []]) (.cond (tm 113) (.seq (.reg [om 116 1,od 117 (.iadr 1 (tm 116) (ki 1)),od 118 (ld 1 117),om 4 118] [kp [4]
 []]) .ret) (.seq (.reg [om 120 0,od 121 (.bin .eql (tm 120) (ku 13)),om 122 121,oT 123 (.mv (tm 5)) 122,oT 124 (.bin .gtr (tm 123) (ki 0)) 122,od 125 (.pick (tm 122) (tm 124) kF),om 126 125,oT 127 (.mv (tm 6)) 126,oT 128
 (.bin .gtr (tm 127) (ki 0)) 126,od 129 (.pick (tm 126) (tm 128) kF),om 119 129] [kp [5,119] []]) (.cond (tm 119) (.seq (.reg [od 4 (.mv (ki 3))] [kp [4] []]) .ret) .skip))))))))))))))))))))) (.seq (.reg [om 130 5,od 131 (.bin
 .gtr (tm 130) (ki 0)),od 132 (.call 224 [(tm 131)]),om 4 132] [kp [4] []]) .ret)))))
def B5:List RV:=[.tmp 4]
/- probecard/probecardref01.Allowed (function 180) -/
abbrev Fb:IC:=(.seq (.reg [od 4 (.mv kF)] [kp [0,1] []]) (.seq (.block 0 (.seq (.reg [om 6 0,od 7 (.bin .eql (tm 6) (ku 1)),om 8 7,oF 9 (.mv (tm 0)) 8,oF 10 (.bin .eql (tm 9) (ku 2)) 8,od 11 (.pick (tm 8) kT (tm 10)),om 5 11] [kp [0,1,
 5] []]) (.cond (tm 5) (.seq (.reg [om 12 1,od 13 (.bin .eql (tm 12) (ki 0)),om 4 13] [kp [4] []]) .ret) (.seq (.reg [om 15 0,od 16 (.bin .eql (tm 15) (ku 3)),om 17 16,oF 18 (.mv (tm 0)) 17,oF 19 (.bin .eql (tm 18) (ku 4)) 17,
 od 20 (.pick (tm 17) kT (tm 19)),om 14 20] [kp [0,1,14] []]) (.cond (tm 14) (.seq (.reg [om 21 1,od 22 (.bin .eql (tm 21) (ki 1)),om 4 22] [kp [4] []]) .ret) (.seq (.reg [om 24 0,od 25 (.bin .eql (tm 24) (ku 11)),om 23 25]
 [kp [0,1,23] []]) (.cond (tm 23) (.seq (.reg [om 26 1,od 27 (.bin .eql (tm 26) (ki 3)),om 4 27] [kp [4] []]) .ret) (.seq (.reg [om 29 0,od 30 (.bin .eql (tm 29) (ku 12)),om 28 30] [kp [0,1,28] []]) (.cond (tm 28) (.seq
 (.reg [om 31 1,od 32 (.bin .eql (tm 31) (ki 2)),om 4 32] [kp [4] []]) .ret) (.seq (.reg [om 34 0,od 35 (.bin .eql (tm 34) (ku 13)),om 33 35] [kp [0,1,33] []]) (.cond (tm 33) (.seq (.reg [om 36 1,od 37 (.bin .geq (tm 36) (ki
 1)),om 38 37,oT 39 (.mv (tm 1)) 38,oT 40 (.bin .leq (tm 39) (ki 16)) 38,od 41 (.pick (tm 38) (tm 40) kF),om 4 41] [kp [4] []]) .ret) .skip))))))))))) (.seq (.reg [om 42 0,od 43 (.bin .geq (tm 42) (ku 5)),om 44 43,oT 45 (.mv
 (tm 0)) 44,oT 46 (.bin .leq (tm 45) (ku 10)) 44,od 47 (.pick (tm 44) (tm 46) kF),om 48 47,oT 49 (.mv (tm 1)) 48,oT 50 (.bin .geq (tm 49) (ki 2)) 48,od 51 (.pick (tm 48) (tm 50) kF),om 52 51,oT 53 (.mv (tm 1)) 52,oT 54
 (.bin .leq (tm 53) (ki 16)) 52,od 55 (.pick (tm 52) (tm 54) kF),om 4 55] [kp [4] []]) .ret)))
def Fe:List RV:=[.tmp 4]
/- probecard/probecardref01.Results (function 204) -/
abbrev q1V:IC:=.gh (.seq (.seq (.reg [om 27 9,om 28 8,od 29 (le 0 28),od 30 (.bin .lss (tm 27) (tm 29))] [kp [0,1,2,7,8,9,30] [45]]) (.cond (tm 30) .skip (.exit 0))) (.seq (.block 1 (.reg [om 33 7,om 34 0,om 35 1,om 36 2,od 37 (.appN
 3 1 (tm 36)),om 38 8,om 39 9,od 40 (.iadT 1 (tm 38) (tm 39)),od 41 (.ldT 1 false (tm 40)),od 42 (.bsl true 3 1 [(tm 41)]),od 43 (.app false 3 1 (tm 37) (tm 42)),od 44 (.call 204 [(tm 34),(tm 35),(tm 43)]),od 45 (.app
 false 3 1 (tm 33) (tm 44)),om 7 45] [kp [0,1,2,7,8,9] [45]])) (.reg [om 31 9,od 32 (.bin .add (tm 31) (ki 1)),om 9 32] [kp [0,1,2,7,8,9] [45]]))) [kp [0,1,2,7,8,9] [45]]
def O6:IC:=.loop q1V
abbrev Ux:IC:=(.seq (.reg [od 6 (.mv kN)] [kp [0,1,2] []]) (.seq (.seq (.reg [om 10 2,od 11 (le 0 10),om 12 1,od 13 (le 0 12),od 14 (.bin .eql (tm 11) (tm 13))] [kp [0,1,2,14] []]) (.cond (tm 14) (.seq (.reg [om 15 0,om 16 2,od 17
 (.call 214 [(tm 15),(tm 16)]),od 18 (.bsl false 3 1 [(tm 17)]),om 6 18] [kp [6] [18,45]]) .ret) .skip)) (.seq (.reg [od 7 (.mv kN)] [.nl 7 45 3 1,kp [0,1,2,7] [45]]) (.seq (.reg [om 19 1,om 20 2,od 21 (le 0 20),od 22 (ia
 1 19 21),od 23 (ld 1 22),om 24 0,od 25 (.bin .eql (tm 24) (ku 13)),od 26 (.call 213 [(tm 23),(tm 25)]),om 8 26] [kp [0,1,2,7,8] [45]]) (.seq (.seq (.reg [od 9 (.mv (ki 0))] [kp [0,1,2,7,8,9] [45]]) (.block 0
 O6)) (.seq (.reg [om 46 7,om 6 46] [kp [6] [18,45]]) .ret))))))
theorem Wc (h:∀ K:St->Prop,K=run P Γ O6 Q->run P Γ q1V (Aw K Q) s):run P Γ O6 Q s:=Ah h
def Uy:List RV:=[.tmp 6]
/- probecard/probecardref01.counted (function 203) -/
abbrev q1W:IC:=.gh (.seq (.seq (.reg [om 58 13,om 59 7,od 60 (le 0 59),od 61 (.bin .lss (tm 58) (tm 60))] [kp [0,1,5,6,7,8,9,10,11,12,13,61] [11,78]]) (.cond (tm 61) .skip (.exit 6))) (.seq (.block 7 (.reg [om 64 12,om 65 64,oF
 66 (.mv (tm 7)) 65,oF 67 (.mv (tm 13)) 65,oF 68 (ia 3 66 67) 65,oF 69 (lG 3 68) 65,oF 70 (lG 3 11) 65,oF 71 (.eqg true [(some .i64),(some .i64),(some .i64)] (tm 69) (tm 70)) 65,od 72 (.pick (tm 65) kT (tm 71)),om 12 72]
 [kp [0,1,5,6,7,8,9,10,11,12,13] [11,78]])) (.reg [om 62 13,od 63 (.bin .add (tm 62) (ki 1)),om 13 63] [kp [0,1,5,6,7,8,9,10,11,12,13] [11,78]]))) [kp [0,1,5,6,7,8,9,10,11,12,13] [11,78]]
def O7:IC:=.loop q1W
abbrev q1X:IC:=.gh (.seq (.seq (.reg [om 40 10,om 41 8,od 42 (le 0 41),od 43 (.bin .lss (tm 40) (tm 42))] [kp [0,1,5,6,7,8,9,10,43] [78]]) (.cond (tm 43) .skip (.exit 4))) (.seq (.block 5 (.seq (.reg [om 46 5,om 47 9,od 48 (ia 3 46
 47),od 49 (lG 3 48),od 11 (.alloc false [(.int .i64 0),(.int .i64 0),(.int .i64 0)]),on (.store 3 (tm 11) (tm 49))] [kp [0,1,5,6,7,8,9,10,11] [11,78]]) (.seq (.reg [om 50 8,om 51 10,od 52 (ia 1 50 51),od 53 (ld 1
 52),od 54 (.iadrA 3 1 (tm 11) (tm 53)),od 55 (ld 1 54),od 56 (.bin .add (tm 55) (ki 1)),od 57 (.iadrA 3 1 (tm 11) (tm 53)),on (.store 1 (tm 57) (tm 56))] [kp [0,1,5,6,7,8,9,10,11] [11,78]]) (.seq (.reg [od 12 (.mv
 kF)] [kp [0,1,5,6,7,8,9,10,11,12] [11,78]]) (.seq (.seq (.reg [od 13 (.mv (ki 0))] [kp [0,1,5,6,7,8,9,10,11,12,13] [11,78]]) (.block 6 O7)) (.seq (.reg [om 73 12,od 74 (.un .not (tm 73))] [kp [0,
 1,5,6,7,8,9,10,11,74] [11,78]]) (.cond (tm 74) (.reg [om 75 7,od 76 (lG 3 11),od 77 (.bsl true 257 3 [(tm 76)]),od 78 (.app false 257 3 (tm 75) (tm 77)),om 7 78] [kp [0,1,5,6,7,8,9,10] [78]]) .skip))))))) (.reg
 [om 44 10,od 45 (.bin .add (tm 44) (ki 1)),om 10 45] [kp [0,1,5,6,7,8,9,10] [78]]))) [kp [0,1,5,6,7,8,9,10] [78]]
def O8:IC:=.loop q1X
abbrev q1Y:IC:=.gh (.seq (.seq (.reg [om 34 9,om 35 5,od 36 (le 0 35),od 37 (.bin .lss (tm 34) (tm 36))] [kp [0,1,5,6,7,8,9,37] [78]]) (.cond (tm 37) .skip (.exit 2))) (.seq (.block 3 (.seq (.reg [od 10 (.mv (ki 0))] [kp [0,1,5,6,7,
 8,9,10] [78]]) (.block 4 O8))) (.reg [om 38 9,od 39 (.bin .add (tm 38) (ki 1)),om 9 39] [kp [0,1,5,6,7,8,9] [78]]))) [kp [0,1,5,6,7,8,9] [78]]
def O9:IC:=.loop q1Y
abbrev q1Z:IC:=.gh (.seq (.seq (.reg [om 21 6,om 22 1,od 23 (le 0 22),od 24 (.bin .lss (tm 21) (tm 23))] [kp [0,1,5,6,24] [78]]) (.cond (tm 24) .skip (.exit 0))) (.seq (.block 1 (.seq (.reg [od 7 (.mv kN)] [.nl 7 78 257 3,kp [0,1,5,6,
 7] [78]]) (.seq (.reg [om 27 1,om 28 6,od 29 (ia 1 27 28),od 30 (ld 1 29),om 31 0,od 32 (.bin .eql (tm 31) (ku 13)),od 33 (.call 213 [(tm 30),(tm 32)]),om 8 33] [kp [0,1,5,6,7,8] [78]]) (.seq (.seq (.reg [od 9 (.mv (ki
 0))] [kp [0,1,5,6,7,8,9] [78]]) (.block 2 O9)) (.reg [om 79 7,om 5 79] [.frz 78,kp [0,1,5,6] [78]]))))) (.reg [om 25 6,od 26 (.bin .add (tm 25) (ki 1)),om 6 26] [kp [0,1,5,6] [78]]))) [kp [0,1,5,6]
 [78]]
def Oa:IC:=.loop q1Z
abbrev q1a:IC:=.gh (.seq (.seq (.reg [om 90 18,om 91 5,om 92 15,om 93 17,od 94 (ia 3 91 92),od 95 (.iadrA 3 1 (tm 94) (tm 93)),od 96 (ld 1 95),od 97 (.bin .lss (tm 90) (tm 96))] [kp [0,5,14,15,16,17,18,97] [78,103,109]]) (.cond
 (tm 97) .skip (.exit 12))) (.seq (.block 13 (.reg [om 100 16,om 101 17,od 102 (.bsl true 3 1 [(tm 101)]),od 103 (.app false 3 1 (tm 100) (tm 102)),om 16 103] [kp [0,5,14,15,16,17,18] [78,103,109]])) (.reg [om 98 18,od
 99 (.bin .add (tm 98) (ki 1)),om 18 99] [kp [0,5,14,15,16,17,18] [78,103,109]]))) [kp [0,5,14,15,16,17,18] [78,103,109]]
def Ob:IC:=.loop q1a
abbrev q0N:IC:=.gh (.seq (.seq (.reg [om 86 17,od 87 (.bin .lss (tm 86) (ki 3))] [kp [0,5,14,15,16,17,87] [78,103,109]]) (.cond (tm 87) .skip (.exit 10))) (.seq (.block 11 (.seq (.reg [od 18 (.mv (ki 0))] [kp [0,5,14,15,16,17,18]
 [78,103,109]]) (.block 12 Ob))) (.reg [om 88 17,od 89 (.bin .add (tm 88) (ki 1)),om 17 89] [kp [0,5,14,15,16,17] [78,103,109]]))) [kp [0,5,14,15,16,17] [78,103,109]]
def Ly:IC:=.loop q0N
abbrev q0O:IC:=.gh (.seq (.seq (.reg [om 80 15,om 81 5,od 82 (le 0 81),od 83 (.bin .lss (tm 80) (tm 82))] [kp [0,5,14,15,83] [78,109]]) (.cond (tm 83) .skip (.exit 8))) (.seq (.block 9 (.seq (.reg [od 16 (.mv kN)] [.nl 16 103 3 1,kp [0,
 5,14,15,16] [78,103,109]]) (.seq (.seq (.reg [od 17 (.mv (ki 0))] [kp [0,5,14,15,16,17] [78,103,109]]) (.block 10 Ly)) (.reg [om 104 14,om 105 0,om 106 16,od 107 (.call 214 [(tm 105),(tm 106)]),od
 108 (.bsl true 3 1 [(tm 107)]),od 109 (.app false 3 1 (tm 104) (tm 108)),om 14 109] [kp [0,5,14,15] [78,109]])))) (.reg [om 84 15,od 85 (.bin .add (tm 84) (ki 1)),om 15 85] [kp [0,5,14,15] [78,109]]))) [kp [0,5,14,
 15] [78,109]]
def M1:IC:=.loop q0O
abbrev q1b:IC:=(.seq (.reg [od 4 (.mv kN)] [kp [0,1] []]) (.seq (.reg [od 19 (.build [(3,(.const (.agg #[(.int .i64 0),(.int .i64 0),(.int .i64 0)])))]),od 20 (.bsl true 257 3 [(tm 19)]),om 5 20] [kp [0,1,5] [78]]) (.seq (.seq (.reg [od 6
 (.mv (ki 0))] [kp [0,1,5,6] [78]]) (.block 0 Oa)) (.seq (.reg [od 14 (.mv kN)] [.nl 14 109 3 1,kp [0,5,14] [78,109]]) (.seq (.seq (.reg [od 15 (.mv (ki 0))] [kp [0,5,14,15] [78,109]]) (.block 8
 M1)) (.seq (.reg [om 110 14,om 4 110] [kp [4] [109]]) .ret))))))
theorem We (h:∀ K:St->Prop,K=run P Γ O7 Q->run P Γ q1W (Aw K Q) s):run P Γ O7 Q s:=Ah h
theorem Wg (h:∀ K:St->Prop,K=run P Γ O8 Q->run P Γ q1X (Aw K Q) s):run P Γ O8 Q s:=Ah h
theorem Wh (h:∀ K:St->Prop,K=run P Γ O9 Q->run P Γ q1Y (Aw K Q) s):run P Γ O9 Q s:=Ah h
theorem Wi (h:∀ K:St->Prop,K=run P Γ Oa Q->run P Γ q1Z (Aw K Q) s):run P Γ Oa Q s:=Ah h
theorem Wj (h:∀ K:St->Prop,K=run P Γ Ob Q->run P Γ q1a (Aw K Q) s):run P Γ Ob Q s:=Ah h
theorem Ha (h:∀ K:St->Prop,K=run P Γ Ly Q->run P Γ q0N (Aw K Q) s):run P Γ Ly Q s:=Ah h
theorem Ua (h:∀ K:St->Prop,K=run P Γ M1 Q->run P Γ q0O (Aw K Q) s):run P Γ M1 Q s:=Ah h
def q1c:List RV:=[.tmp 4]
/- probecard/probecardref01.Apply (function 181) -/
abbrev q4F:IC:=.gh (.seq (.seq (.reg [om 24 6,om 25 5,od 26 (le 0 25),od 27 (.bin .lss (tm 24) (tm 26))] [kp [5,6,27] []]) (.cond (tm 27) .skip (.exit 0))) (.seq (.block 1 (.seq (.reg [om 30 5,om 31 6,od 32 (ia 1 30 31),od 33 (ld 1 32),
 om 34 5,od 35 (.iadr 1 (tm 34) (ki 0)),od 36 (ld 1 35),od 37 (.bin .neq (tm 33) (tm 36))] [kp [5,6,37] []]) (.cond (tm 37) (.seq (.reg [od 4 (.mv (ku 2))] [kp [4] []]) .ret) .skip))) (.reg [om 28 6,od 29 (.bin .add (tm 28)
 (ki 1)),om 6 29] [kp [5,6] []]))) [kp [5,6] []]
def Nn:IC:=.loop q4F
abbrev Np:IC:=(.seq (.reg [od 4 (.mv (ku 0))] [kp [0,1] []]) (.seq (.reg [od 7 (.bsl true 3 1 []),om 5 7] [kp [0,1] []]) (.seq (.seq (.reg [om 8 0,od 9 (.bin .geq (tm 8) (ku 5)),om 10 9,oT 11 (.mv (tm 0)) 10,oT 12 (.bin .leq (tm 11) (ku
 10)) 10,od 13 (.pick (tm 10) (tm 12) kF),om 14 13,oF 15 (.mv (tm 0)) 14,oF 16 (.bin .eql (tm 15) (ku 13)) 14,od 17 (.pick (tm 14) kT (tm 16))] [kp [0,1,17] []]) (.cond (tm 17) (.reg [om 18 0,om 19 1,od 20 (.call 203 [(tm
 18),(tm 19)]),om 5 20] [kp [5] []]) (.reg [om 21 0,om 22 1,od 23 (.call 204 [(tm 21),(tm 22),kN]),om 5 23] [kp [5] []]))) (.seq (.seq (.reg [od 6 (.mv (ki 0))] [kp [5,6] []]) (.block 0 Nn)) (.seq (.reg [od 38
 (.bsl true 65 1 [(ku 0),(ku 1),(ku 3),(ku 2)]),om 39 5,od 40 (.iadr 1 (tm 39) (ki 0)),od 41 (ld 1 40),od 42 (ia 1 38 41),od 43 (ld 1 42),om 4 43] [kp [4] []]) .ret)))))
theorem Zr (h:∀ K:St->Prop,K=run P Γ Nn Q->run P Γ q4F (Aw K Q) s):run P Γ Nn Q s:=Ah h
def Nq:List RV:=[.tmp 4]
/- probecard/probecardref01.Eval (function 114) -/
abbrev q0k:IC:=(.seq (.reg [od 4 (.mv (ku 0))] [kp [0,1] []]) (.seq (.seq (.reg [om 5 0,om 6 1,od 7 (le 0 6),od 8 (.call 180 [(tm 5),(tm 7)]),od 9 (.un .not (tm 8))] [kp [0,1,9] []]) (.cond (tm 9) (.seq (.reg [od 4 (.mv (ku 2))] [kp [4]
 []]) .ret) .skip)) (.seq (.reg [om 10 0,om 11 1,od 12 (.call 181 [(tm 10),(tm 11)]),om 4 12] [kp [4] []]) .ret)))
def q0l:List RV:=[.tmp 4]
/- probecard/probecardref03.Comb (function 113) -/
abbrev q0m:IC:=(.seq (.reg [od 2 (.mv kF)] [kp [0] []]) (.seq (.reg [om 3 0,od 4 (.bin .geq (tm 3) (ku 1)),om 5 4,oT 6 (.mv (tm 0)) 5,oT 7 (.bin .leq (tm 6) (ku 13)) 5,od 8 (.pick (tm 5) (tm 7) kF),om 2 8] [kp [2] []]) .ret))
def q0n:List RV:=[.tmp 2]
/- probecard/probecardref03.Of (function 59) -/
abbrev q8s:IC:=.gh (.seq (.seq (.reg [om 7 6,od 8 (fa 0 2),od 9 (ld 1 8),od 10 (le 0 9),od 11 (.bin .lss (tm 7) (tm 10))] [kp [1,2,5,6,11] [25]]) (.cond (tm 11) .skip (.exit 0))) (.seq (.block 1 (.seq (.reg [od 14 (fa 0 2),od 15 (ld 1
 14),om 16 6,od 17 (ia 4 15 16),od 18 (fa 0 17),od 19 (ld 1 18),om 20 1,od 21 (.bin .eql (tm 19) (tm 20))] [kp [1,2,5,6,21] [25]]) (.cond (tm 21) (.reg [om 22 5,om 23 6,od 24 (.bsl true 3 1 [(tm 23)]),od 25 (.app false
 3 1 (tm 22) (tm 24)),om 5 25] [kp [1,2,5,6] [25]]) .skip))) (.reg [om 12 6,od 13 (.bin .add (tm 12) (ki 1)),om 6 13] [kp [1,2,5,6] [25]]))) [kp [1,2,5,6] [25]]
def q0P:IC:=.loop q8s
abbrev q8t:IC:=(.seq (.reg [od 2 (.box true (tm 0)),od 4 (.mv kN)] [kp [1,2] []]) (.seq (.reg [od 5 (.mv kN)] [.nl 5 25 3 1,kp [1,2,5] [25]]) (.seq (.seq (.reg [od 6 (.mv (ki 0))] [kp [1,2,5,6] [25]]) (.block 0 q0P)) (.seq (.reg
 [om 26 5,om 4 26] [kp [4] [25]]) .ret))))
theorem q2j (h:∀ K:St->Prop,K=run P Γ q0P Q->run P Γ q8s (Aw K Q) s):run P Γ q0P Q s:=Ah h
def q8u:List RV:=[.tmp 4]
/- probecard/probecardref03.Levels (function 179) -/
abbrev q2k:IC:=.gh (.seq (.seq (.reg [om 33 9,od 34 (fa 1 8),od 35 (ld 1 34),od 36 (le 0 35),od 37 (.bin .lss (tm 33) (tm 36)),om 38 37,oT 39 (fa 0 8) 38,oT 40 (ld 1 39) 38,oT 41 (.call 113 [(tm 40)]) 38,od 42 (.pick (tm 38) (tm 41) kF)]
 [kp [1,4,5,6,7,8,9,42] [8,13]]) (.cond (tm 42) .skip (.exit 4))) (.seq (.block 5 (.seq (.reg [om 45 4,om 46 7,od 47 (ia 1 45 46),od 48 (ld 1 47),om 49 4,od 50 (fa 1 8),od 51 (ld 1 50),om 52 9,od 53 (ia 1 51 52),od
 54 (ld 1 53),od 55 (ia 1 49 54),od 56 (ld 1 55),od 57 (.bin .add (tm 56) (ki 1)),od 58 (.bin .lss (tm 48) (tm 57))] [kp [1,4,5,6,7,8,9,58] [8,13]]) (.cond (tm 58) (.seq (.reg [om 59 4,om 60 7,om 61 4,od 62 (fa 1 8),
 od 63 (ld 1 62),om 64 9,od 65 (ia 1 63 64),od 66 (ld 1 65),od 67 (ia 1 61 66),od 68 (ld 1 67),od 69 (.bin .add (tm 68) (ki 1)),od 70 (ia 1 59 60),on (.store 1 (tm 70) (tm 69))] [kp [1,4,5,7,8,9] [8,13]]) (.reg [od 6
 (.mv kT)] [kp [1,4,5,6,7,8,9] [8,13]])) .skip))) (.reg [om 43 9,od 44 (.bin .add (tm 43) (ki 1)),om 9 44] [kp [1,4,5,6,7,8,9] [8,13]]))) [kp [1,4,5,6,7,8,9] [8,13]]
def Pv:IC:=.loop q2k
abbrev q2l:IC:=.gh (.seq (.seq (.reg [om 21 7,od 22 (fa 0 1),od 23 (ld 1 22),od 24 (le 0 23),od 25 (.bin .lss (tm 21) (tm 24))] [kp [1,4,5,6,7,25] [13]]) (.cond (tm 25) .skip (.exit 2))) (.seq (.block 3 (.seq (.reg [od 28 (fa 0 1),od 29
 (ld 1 28),om 30 7,od 31 (ia 4 29 30),od 32 (lG 4 31),od 8 (.alloc false [(.int .u8 0),(.slice none 0 0),(.int .i64 0),(.int .i64 0)]),on (.store 4 (tm 8) (tm 32))] [kp [1,4,5,6,7,8] [8,13]]) (.seq (.reg [od 9 (.mv (ki
 0))] [kp [1,4,5,6,7,8,9] [8,13]]) (.block 4 Pv)))) (.reg [om 26 7,od 27 (.bin .add (tm 26) (ki 1)),om 7 27] [kp [1,4,5,6,7] [13]]))) [kp [1,4,5,6,7] [13]]
def Px:IC:=.loop q2l
abbrev q2m:IC:=.gh (.seq (.seq (.reg [om 14 5,od 15 (fa 0 1),od 16 (ld 1 15),od 17 (le 0 16),od 18 (.bin .leq (tm 14) (tm 17))] [kp [1,4,5,18] [13]]) (.cond (tm 18) .skip (.exit 0))) (.seq (.block 1 (.seq (.reg [od 6 (.mv kF)] [kp [1,4,
 5,6] [13]]) (.seq (.seq (.reg [od 7 (.mv (ki 0))] [kp [1,4,5,6,7] [13]]) (.block 2 Px)) (.seq (.reg [om 71 6,od 72 (.un .not (tm 71))] [kp [1,4,5,72] [13]]) (.cond (tm 72) (.seq (.reg [om 73 4,om 2 73,od 3
 (.mv kT)] [kp [2,3] [13]]) .ret) .skip))))) (.reg [om 19 5,od 20 (.bin .add (tm 19) (ki 1)),om 5 20] [kp [1,4,5] [13]]))) [kp [1,4,5] [13]]
def Py:IC:=.loop q2m
abbrev q2n:IC:=(.seq (.reg [od 1 (.box true (tm 0)),od 2 (.mv kN),od 3 (.mv kF)] [kp [1] []]) (.seq (.reg [od 10 (fa 0 1),od 11 (ld 1 10),od 12 (le 0 11),od 13 (.mk 3 1 [(.int .i64 0)] (tm 12) (tm 12)),om 4 13] [kp [1,4] [13]]) (.seq (.seq
 (.reg [od 5 (.mv (ki 0))] [kp [1,4,5] [13]]) (.block 0 Py)) (.seq (.reg [od 2 (.mv kN),od 3 (.mv kF)] [kp [2,3] [13]]) .ret))))
theorem Iw (h:∀ K:St->Prop,K=run P Γ Pv Q->run P Γ q2k (Aw K Q) s):run P Γ Pv Q s:=Ah h
theorem Xs (h:∀ K:St->Prop,K=run P Γ Px Q->run P Γ q2l (Aw K Q) s):run P Γ Px Q s:=Ah h
theorem q4r (h:∀ K:St->Prop,K=run P Γ Py Q->run P Γ q2m (Aw K Q) s):run P Γ Py Q s:=Ah h
def q2o:List RV:=[.tmp 2,.tmp 3]
/- probecard/probecardref03.Order (function 112) -/
abbrev q4G:IC:=.gh (.seq (.seq (.reg [om 21 7,od 22 (fa 0 1),od 23 (ld 1 22),od 24 (le 0 23),od 25 (.bin .lss (tm 21) (tm 24))] [kp [1,3,5,6,7,25] [37]]) (.cond (tm 25) .skip (.exit 2))) (.seq (.block 3 (.seq (.reg [om 28 3,om 29 7,od
 30 (ia 1 28 29),od 31 (ld 1 30),om 32 6,od 33 (.bin .eql (tm 31) (tm 32))] [kp [1,3,5,6,7,33] [37]]) (.cond (tm 33) (.reg [om 34 5,om 35 7,od 36 (.bsl true 3 1 [(tm 35)]),od 37 (.app false 3 1 (tm 34) (tm 36)),om 5 37]
 [kp [1,3,5,6,7] [37]]) .skip))) (.reg [om 26 7,od 27 (.bin .add (tm 26) (ki 1)),om 7 27] [kp [1,3,5,6,7] [37]]))) [kp [1,3,5,6,7] [37]]
def Tm:IC:=.loop q4G
abbrev q4H:IC:=.gh (.seq (.seq (.reg [om 13 5,od 14 (le 0 13),od 15 (fa 0 1),od 16 (ld 1 15),od 17 (le 0 16),od 18 (.bin .lss (tm 14) (tm 17))] [kp [1,3,5,6,18] [37]]) (.cond (tm 18) .skip (.exit 0))) (.seq (.block 1 (.seq (.reg [od 7
 (.mv (ki 0))] [kp [1,3,5,6,7] [37]]) (.block 2 Tm))) (.reg [om 19 6,od 20 (.bin .add (tm 19) (ki 1)),om 6 20] [kp [1,3,5,6] [37]]))) [kp [1,3,5,6] [37]]
def Tn:IC:=.loop q4H
abbrev q4I:IC:=(.seq (.reg [od 1 (.box true (tm 0)),od 2 (.mv kN)] [kp [1] []]) (.seq (.reg [od 9 (lG 4 1),od 10 (.call 179 [(tm 9)]),om 8 10,od 11 (ex 8 0),od 12 (ex 8 1),om 3 11,om 4 12] [kp [1,3] []]) (.seq (.reg [od 5 (.mv kN)] [.nl 5
 37 3 1,kp [1,3,5] [37]]) (.seq (.seq (.reg [od 6 (.mv (ki 0))] [kp [1,3,5,6] [37]]) (.block 0 Tn)) (.seq (.reg [om 38 5,om 2 38] [kp [2] [37]]) .ret)))))
theorem Zs (h:∀ K:St->Prop,K=run P Γ Tm Q->run P Γ q4G (Aw K Q) s):run P Γ Tm Q s:=Ah h
theorem q6A (h:∀ K:St->Prop,K=run P Γ Tn Q->run P Γ q4H (Aw K Q) s):run P Γ Tn Q s:=Ah h
def q4J:List RV:=[.tmp 2]
/- probecard/probecardref06.value (function 67) -/
abbrev q2p:IC:=.gh (.seq (.seq (.reg [om 29 10,od 30 (fa 1 8),od 31 (ld 1 30),od 32 (le 0 31),od 33 (.bin .lss (tm 29) (tm 32))] [kp [2,5,6,7,8,9,10,33] [8,12,46]]) (.cond (tm 33) .skip (.exit 2))) (.seq (.block 3 (.reg [om 36 9,om
 37 5,od 38 (fa 1 8),od 39 (ld 1 38),om 40 10,od 41 (ia 1 39 40),od 42 (ld 1 41),od 43 (ia 1 37 42),od 44 (ld 1 43),od 45 (.bsl true 65 1 [(tm 44)]),od 46 (.app false 65 1 (tm 36) (tm 45)),om 9 46] [kp [2,5,6,7,8,9,
 10] [8,12,46]])) (.reg [om 34 10,od 35 (.bin .add (tm 34) (ki 1)),om 10 35] [kp [2,5,6,7,8,9,10] [8,12,46]]))) [kp [2,5,6,7,8,9,10] [8,12,46]]
def Pz:IC:=.loop q2p
abbrev q2q:IC:=.gh (.seq (.seq (.reg [om 15 7,om 16 6,od 17 (le 0 16),od 18 (.bin .lss (tm 15) (tm 17))] [kp [2,5,6,7,18] [12]]) (.cond (tm 18) .skip (.exit 0))) (.seq (.block 1 (.seq (.reg [od 21 (fa 0 2),od 22 (.ldT 1 false (tm 21)),om
 23 6,om 24 7,od 25 (ia 1 23 24),od 26 (.ldT 1 false (tm 25)),od 27 (ia 4 22 26),od 28 (.ldT 4 true (tm 27)),od 8 (.alloc false [(.int .u8 0),(.slice none 0 0),(.int .i64 0),(.int .i64 0)]),on (.stR 8 4 (tm 8) (tm 28))]
 [kp [2,5,6,7,8] [8,12]]) (.seq (.reg [od 9 (.mv kN)] [.nl 9 46 65 1,kp [2,5,6,7,8,9] [8,12,46]]) (.seq (.seq (.reg [od 10 (.mv (ki 0))] [kp [2,5,6,7,8,9,10] [8,12,46]]) (.block 2 Pz)) (.seq (.reg
 [od 47 (fa 0 8),od 48 (ld 1 47),od 49 (.call 113 [(tm 48)])] [kp [2,5,6,7,8,9,49] [8,12,46]]) (.cond (tm 49) (.reg [om 50 5,om 51 6,om 52 7,od 53 (ia 1 51 52),od 54 (.ldT 1 false (tm 53)),od 55 (fa 0 8),od 56 (.ldR
 8 1 false (tm 55)),om 57 9,od 58 (.call 114 [(tm 56),(tm 57)]),od 59 (ia 1 50 54),on (.stR 12 1 (tm 59) (tm 58))] [kp [2,5,6,7] [12]]) .skip)))))) (.reg [om 19 7,od 20 (.bin .add (tm 19) (ki 1)),om 7 20] [kp [2,5,6,7]
 [12]]))) [kp [2,5,6,7] [12]]
def Q0:IC:=.loop q2q
abbrev q2r:IC:=(.seq (.reg [od 2 (.box true (tm 0)),od 4 (.mv kN)] [kp [1,2] []]) (.seq (.reg [om 11 1,od 12 (.app false 65 1 kN (tm 11)),om 5 12] [kp [2,5] [12]]) (.seq (.reg [od 13 (lG 4 2),od 14 (.call 112 [(tm 13)]),om 6 14] [kp [2,5,
 6] [12]]) (.seq (.seq (.reg [od 7 (.mv (ki 0))] [kp [2,5,6,7] [12]]) (.block 0 Q0)) (.seq (.reg [om 60 5,om 4 60] [kp [4] [12]]) .ret)))))
theorem Xt (h:∀ K:St->Prop,K=run P Γ Pz Q->run P Γ q2p (Aw K Q) s):run P Γ Pz Q s:=Ah h
theorem Xu (h:∀ K:St->Prop,K=run P Γ Q0 Q->run P Γ q2q (Aw K Q) s):run P Γ Q0 Q s:=Ah h
def q2s:List RV:=[.tmp 4]
/- probecard/probecardref06.Nets (function 21) -/
abbrev q5K:IC:=.gh (.seq (.seq (.reg [om 15 7,om 16 6,od 17 (le 0 16),od 18 (.bin .lss (tm 15) (tm 17))] [kp [2,3,5,6,7,18] [12]]) (.cond (tm 18) .skip (.exit 0))) (.seq (.block 1 (.reg [om 21 5,om 22 6,om 23 7,od 24 (ia 1 22 23),od
 25 (.ldT 1 false (tm 24)),od 26 (fa 0 3),od 27 (.ldT 1 false (tm 26)),om 28 7,od 29 (ia 1 27 28),od 30 (.ldT 1 false (tm 29)),od 31 (ia 1 21 25),on (.stR 12 1 (tm 31) (tm 30))] [kp [2,3,5,6,7] [12]])) (.reg [om 19 7,od
 20 (.bin .add (tm 19) (ki 1)),om 7 20] [kp [2,3,5,6,7] [12]]))) [kp [2,3,5,6,7] [12]]
def Vh:IC:=.loop q5K
abbrev q5L:IC:=.gh (.seq (.seq (.reg [om 34 8,om 35 6,od 36 (le 0 35),od 37 (.bin .lss (tm 34) (tm 36))] [kp [2,3,5,6,8,37] [12]]) (.cond (tm 37) .skip (.exit 2))) (.seq (.block 3 (.reg [om 40 5,om 41 6,om 42 8,od 43 (ia 1 41 42),od
 44 (.ldT 1 false (tm 43)),od 45 (fa 1 3),od 46 (.ldT 1 false (tm 45)),om 47 8,od 48 (ia 1 46 47),od 49 (.ldT 1 false (tm 48)),od 50 (ia 1 40 44),on (.stR 12 1 (tm 50) (tm 49))] [kp [2,3,5,6,8] [12]])) (.reg [om 38 8,od
 39 (.bin .add (tm 38) (ki 1)),om 8 39] [kp [2,3,5,6,8] [12]]))) [kp [2,3,5,6,8] [12]]
def Vi:IC:=.loop q5L
abbrev q5M:IC:=(.seq (.reg [od 2 (.box true (tm 0)),od 3 (.box true (tm 1)),od 4 (.mv kN)] [kp [2,3] []]) (.seq (.reg [od 9 (fa 0 2),od 10 (ld 1 9),od 11 (le 0 10),od 12 (.mk 65 1 [(.int .u8 0)] (tm 11) (tm 11)),om 5 12] [kp [2,3,5]
 [12]]) (.seq (.reg [od 13 (lG 4 2),od 14 (.call 59 [(tm 13),(ku 0)]),om 6 14] [kp [2,3,5,6] [12]]) (.seq (.seq (.reg [od 7 (.mv (ki 0))] [kp [2,3,5,6,7] [12]]) (.block 0 Vh)) (.seq (.reg [od 32 (lG 4 2),od 33
 (.call 59 [(tm 32),(ku 14)]),om 6 33] [kp [2,3,5,6] [12]]) (.seq (.seq (.reg [od 8 (.mv (ki 0))] [kp [2,3,5,6,8] [12]]) (.block 2 Vi)) (.seq (.reg [od 51 (lG 4 2),om 52 5,od 53 (.call 60 [(tm 51),(tm 52)]),
 om 4 53] [kp [4] []]) .ret)))))))
theorem q0Q (h:∀ K:St->Prop,K=run P Γ Vh Q->run P Γ q5K (Aw K Q) s):run P Γ Vh Q s:=Ah h
theorem q0R (h:∀ K:St->Prop,K=run P Γ Vi Q->run P Γ q5L (Aw K Q) s):run P Γ Vi Q s:=Ah h
def q5N:List RV:=[.tmp 4]
end
end Go.Lg
namespace Go.Lg
open Go Go.Proofs
theorem q7C:Ba Tryz.prog 213 Gu 20 2 Gv=true:=by kernel_rfl
theorem q9C:Ba Tryz.prog 223 q4D 22 2 q4E=true:=by kernel_rfl
theorem qBT:Ba Tryz.prog 224 q7A 4 1 q7B=true:=by kernel_rfl
theorem q6B:Ba Tryz.prog 214 Bt 133 2 B5=true:=by kernel_rfl
theorem q7D:Ba Tryz.prog 180 Fb 56 2 Fe=true:=by kernel_rfl
theorem q0S:Ba Tryz.prog 204 Ux 47 3 Uy=true:=by kernel_rfl
theorem q7E:Ba Tryz.prog 203 q1b 111 2 q1c=true:=by kernel_rfl
theorem q9D:Ba Tryz.prog 181 Np 44 2 Nq=true:=by kernel_rfl
theorem qAj:Ba Tryz.prog 114 q0k 13 2 q0l=true:=by kernel_rfl
theorem qAk:Ba Tryz.prog 113 q0m 9 1 q0n=true:=by kernel_rfl
theorem qD1:Ba Tryz.prog 59 q8t 27 2 q8u=true:=by kernel_rfl
theorem q8C:Ba Tryz.prog 179 q2n 74 1 q2o=true:=by kernel_rfl
theorem q9E:Ba Tryz.prog 112 q4I 39 1 q4J=true:=by kernel_rfl
theorem q8D:Ba Tryz.prog 60 q2r 61 2 q2s=true:=by kernel_rfl
theorem qAl:Ba Tryz.prog 21 q5M 54 2 q5N=true:=by kernel_rfl
end Go.Lg
set_option linter.unusedSimpArgs false
set_option maxRecDepth 100000
namespace Go.Lg
open Go Go.Proofs
theorem q9O {y:Int} {ys l:List Int} (h4:∀ v∈l,V4 v) (h:Chs true ys l) (hy:y=0\/y=1) (hm:y∈ys):y∈l\/2∈l:=by
 obtain⟨v,hv,hc⟩:=q79 h hm
 have:=h4 v hv
 unfold V4 at this
 have h4':v=0\/v=1\/v=2\/v=3:=by omega
 rcases h4' with rfl|rfl|rfl|rfl
 ·rw[ch0 _ hc];exact .inl hv
 ·rw[ch1 _ hc];exact .inl hv
 ·exact .inr hv
 ·simp[J6]at hc;omega
theorem qLB {l:List Int} (h4:∀ v∈l,V4 v):q69 (Ni 13 l)=q82 l:=by
 have hk':5<=(13:Int)/\(13:Int)<=10\/(13:Int)=13:=by omega
 have hf:∀ z o,q0j 13 z o=if o+z=0 then 2 else if 0<o/\0<z then 3 else Kz (decide (0<o)):=fun z o=>by unfold q0j;simp
 have hd:decide ((13:Int)=13)=true:=rfl
 unfold q82
 cases hfi:l.findIdx? qE2 with
 | none =>
  have hz:∀ v∈l,v=3:=fun v hv=>by
   have:=List.findIdx?_eq_none_iff.1 hfi v hv
   simpa[qE2]using this
  rw[Tf (a:=2) (Yb hk') fun x hx=>by
   obtain⟨ys,hc,rfl⟩:=(Fz hk').1 hx
   rw[hd]at hc
   have n0:Bo ys 0=0:=Ti.2 fun hm=>by
    rcases q9O h4 hc (.inl rfl) hm with h|h<;>have:=hz _ h<;>omega
   have n1:Bo ys 1=0:=Ti.2 fun hm=>by
    rcases q9O h4 hc (.inr rfl) hm with h|h<;>have:=hz _ h<;>omega
   rw[n0,n1,hf];rfl]
  rfl
 | some i =>
  obtain⟨hi,hdi,_⟩:=List.findIdx?_eq_some_iff_getElem.1 hfi
  have hm:l[i]∈l:=xqj hi
  have hgi:l.getD i 0=l[i]:=Be hi
  simp only[hgi]
  have hdi:¬ l[i]=3:=by simpa[qE2]using hdi
  have hconf:q3d l=true↔(0:Int)∈l/\(1:Int)∈l:=by simp[q3d]
  have hunk:l.any qE1=true↔(2:Int)∈l:=by
   rw[xz1]
   constructor
   ·rintro⟨v,hv,h⟩
    have:=h4 v hv
    unfold V4 at this
    have hcl:F4 v=v:=by unfold F4;rw[if_neg (by omega)]
    have h2:F4 v=2:=of_decide_eq_true h
    rw[hcl]at h2
    exact h2 ▸ hv
   ·intro h;exact⟨2,h,by simp[qE1,F4]⟩
  by_cases hc:(0:Int)∈l/\(1:Int)∈l
  ·rw[if_pos (.inl (hconf.2 hc)),Tf (a:=3) (Yb hk') fun x hx=>by
    obtain⟨ys,hcs,rfl⟩:=(Fz hk').1 hx
    have n0:=Pq.2 (q2R hcs ch0 hc.1)
    have n1:=Pq.2 (q2R hcs ch1 hc.2)
    rw[hf,if_neg (by omega),if_pos ⟨n1,n0⟩]]
   rfl
  by_cases hu:(2:Int)∈l
  ·rw[if_pos (.inr (hunk.2 hu))]
   have m0:q0j 13 (Bo (l.map to0) 0) (Bo (l.map to0) 1)∈Ni 13 l:=(Fz hk').2 ⟨_,Vg fun v _=>qNX,rfl⟩
   have m1:q0j 13 (Bo (l.map to1) 0) (Bo (l.map to1) 1)∈Ni 13 l:=(Fz hk').2 ⟨_,Vg fun v _=>qNY,rfl⟩
   have a0:0<Bo (l.map to0) 0:=Pq.2 (xqy.2 ⟨2,hu,rfl⟩)
   have a1:0<Bo (l.map to1) 1:=Pq.2 (xqy.2 ⟨2,hu,rfl⟩)
   have b1:0<Bo (l.map to0) 1↔(1:Int)∈l:=by
    rw[Pq,xqy]
    constructor
    ·rintro⟨v,hv,e⟩
     unfold to0 at e
     split at e
     ·rename_i h;exact h ▸ hv
     ·split at e<;>omega
    ·intro h;exact⟨1,h,rfl⟩
   have b0:0<Bo (l.map to1) 0↔(0:Int)∈l:=by
    rw[Pq,xqy]
    constructor
    ·rintro⟨v,hv,e⟩
     unfold to1 at e
     split at e
     ·rename_i h;exact h ▸ hv
     ·split at e<;>omega
    ·intro h;exact⟨0,h,rfl⟩
   refine q78 m0 m1 ?_
   have A0:=hf (Bo (l.map to0) 0) (Bo (l.map to0) 1)
   have B0:=hf (Bo (l.map to1) 0) (Bo (l.map to1) 1)
   rw[if_neg (show ¬ Bo (l.map to0) 1+Bo (l.map to0) 0=0 by omega)]at A0
   rw[if_neg (show ¬ Bo (l.map to1) 1+Bo (l.map to1) 0=0 by omega)]at B0
   by_cases h1:(1:Int)∈l
   ·have h0:¬ (0:Int)∈l:=fun h=>hc ⟨h,h1⟩
    have c1:=b1.2 h1
    have c0:¬ 0<Bo (l.map to1) 0:=fun h=>h0 (b0.1 h)
    rw[if_pos (show 0<Bo (l.map to0) 1/\0<Bo (l.map to0) 0 from⟨c1,a0⟩)]at A0
    rw[if_neg (show ¬ (0<Bo (l.map to1) 1/\0<Bo (l.map to1) 0) from fun h=>c0 h.2)]at B0
    rw[A0,B0]
    simp[Kz,a1]
   ·have c1:¬ 0<Bo (l.map to0) 1:=fun h=>h1 (b1.1 h)
    rw[if_neg (show ¬ (0<Bo (l.map to0) 1/\0<Bo (l.map to0) 0) from fun h=>c1 h.1)]at A0
    by_cases h0:(0:Int)∈l
    ·rw[if_pos (show 0<Bo (l.map to1) 1/\0<Bo (l.map to1) 0 from⟨a1,b0.2 h0⟩)]at B0
     rw[A0,B0]
     simp[Kz,c1]
    ·rw[if_neg (show ¬ (0<Bo (l.map to1) 1/\0<Bo (l.map to1) 0) from fun h=>h0 (b0.1 h.2))]at B0
     rw[A0,B0]
     simp[Kz,c1,a1]
  ·rw[if_neg (fun h=>h.elim (fun h=>hc (hconf.1 h)) fun h=>hu (hunk.1 h))]
   have h4i:=h4 _ hm
   unfold V4 at h4i
   have h2:¬ l[i]=2:=fun e=>hu (e ▸ hm)
   have h01:l[i]=0\/l[i]=1:=by omega
   generalize l[i]=a at *
   rw[Tf (a:=a) (Yb hk') fun x hx=>by
    obtain⟨ys,hcs,rfl⟩:=(Fz hk').1 hx
    rw[hd]at hcs
    rcases h01 with rfl|rfl
    ·have n0:=Pq.2 (q2R hcs ch0 hm)
     have n1:Bo ys 1=0:=Ti.2 fun h=>(q9O h4 hcs (.inr rfl) h).elim (fun h=>hc ⟨hm,h⟩) hu
     rw[n1,hf,if_neg (by omega),if_neg (by omega)];rfl
    ·have n1:=Pq.2 (q2R hcs ch1 hm)
     have n0:Bo ys 0=0:=Ti.2 fun h=>(q9O h4 hcs (.inl rfl) h).elim (fun h=>hc ⟨h,hm⟩) hu
     rw[n0,hf,if_neg (by omega),if_neg (by omega)]
     simp[Kz,n1]]
   rcases h01 with rfl|rfl<;>rfl
def X2 (k:Int) (ins:List Int):Nat->List Int->List Int
 | 0,l=>[Kw k l]
 | n+1,l=>(J6 (ins.getD l.length 0) (decide (k=13))).flatMap fun y=>X2 k ins n (l++[y])
def L6 (k:Int) (n:Nat):Bool :=
 if k=1\/k=2 then decide (n=0)else if k=3\/k=4 then decide (n=1)else if k=11 then decide (n=3)else if k=12 then decide (n=2) else
 if k=13 then decide (1<=n/\n<=16)else decide (5<=k/\k<=10/\2<=n/\n<=16)
def qLC (k:Int) (l:List Int):Int:=if L6 k l.length then q69 (if 5<=k/\k<=10\/k=13 then Ni k l else X2 k l l.length [])else 2
theorem Zt {v:Int} (h:V4 v):v=0\/v=1\/v=2\/v=3:=by unfold V4 at h;omega
theorem qLD {k:Int} (hk:0<=k/\k<=15) {l:List Int} (h4:∀ v∈l,V4 v):qLC k l=Gs k l:=by
 have hkc:k=0\/k=1\/k=2\/k=3\/k=4\/k=5\/k=6\/k=7\/k=8\/k=9\/k=10\/k=11\/k=12\/k=13\/k=14\/k=15:=by omega
 unfold qLC Gs
 rcases hkc with rfl|rfl|rfl|rfl|rfl|rfl|rfl|rfl|rfl|rfl|rfl|rfl|rfl|rfl|rfl|rfl
 ·simp[L6,I8,Oy,Uk,E8]
 ·cases l with
  | nil=>rfl
  | cons a l=>simp[L6,I8,Oy,Uk]
 ·cases l with
  | nil=>rfl
  | cons a l=>simp[L6,I8,Oy,Uk]
 ·match l,h4 with
  | [],_=>rfl
  | [a],h4=>rcases Zt (h4 a (by simp))with rfl|rfl|rfl|rfl<;>rfl
  | a::b::l,_=>simp[L6,I8,Oy,Uk];omega
 ·match l,h4 with
  | [],_=>rfl
  | [a],h4=>rcases Zt (h4 a (by simp))with rfl|rfl|rfl|rfl<;>rfl
  | a::b::l,_=>simp[L6,I8,Oy,Uk];omega
 ·have e:=qGp (k:=5) (.inl rfl) h4
  simp[L6,I8,Oy,Uk,E8,e];(repeat' split)<;>first|rfl|omega
 ·have e:=qGp (k:=6) (.inr rfl) h4
  simp[L6,I8,Oy,Uk,E8,e];(repeat' split)<;>first|rfl|omega
 ·have e:=qJP (k:=7) (.inl rfl) h4
  simp[L6,I8,Oy,Uk,E8,e];(repeat' split)<;>first|rfl|omega
 ·have e:=qJP (k:=8) (.inr rfl) h4
  simp[L6,I8,Oy,Uk,E8,e];(repeat' split)<;>first|rfl|omega
 ·have e:=qGq (k:=9) (.inl rfl) h4
  simp[L6,I8,Oy,Uk,E8,e];(repeat' split)<;>first|rfl|omega
 ·have e:=qGq (k:=10) (.inr rfl) h4
  simp[L6,I8,Oy,Uk,E8,e];(repeat' split)<;>first|rfl|omega
 ·match l,h4 with
  | [],_=>rfl
  | [a],_=>rfl
  | [a,b],_=>rfl
  | [a,b,d],h4 =>
   rcases Zt (h4 a (by simp))with rfl|rfl|rfl|rfl<;>rcases Zt (h4 b (by simp))with rfl|rfl|rfl|rfl<;>rcases Zt (h4 d (by simp))with rfl|rfl|rfl|rfl<;>rfl
  | a::b::d::e::l,_=>simp[L6,I8,Oy,Uk];omega
 ·match l,h4 with
  | [],_=>rfl
  | [a],_=>rfl
  | [a,b],h4 =>
   rcases Zt (h4 a (by simp))with rfl|rfl|rfl|rfl<;>rcases Zt (h4 b (by simp))with rfl|rfl|rfl|rfl<;>rfl
  | a::b::d::l,_=>simp[L6,I8,Oy,Uk];omega
 ·have e:=qLB h4
  simp[L6,I8,Oy,Uk,E8,e];(repeat' split)<;>first|rfl|omega
 ·simp[L6,I8,Oy,Uk,E8]
 ·simp[L6,I8,Oy,Uk,E8]
def H8 (i:Nat):List Int->List Int->Bool->List Int×Bool
 | [],out,b=>(out,b)
 | p::l,out,b=>if out.getD i 0<out.getD p.toNat 0+1 then H8 i l (out.set i (out.getD p.toNat 0+1)) true else H8 i l out b
def P1 (c:Bi) (i:Nat) (s:List Int×Bool):List Int×Bool:=if C2 (Aj c i)then H8 i (D4 c i) s.1 s.2 else s
def M3 (c:Bi):Nat->Nat->List Int×Bool->List Int×Bool
 | 0,_,s=>s
 | k+1,i,s=>M3 c k (i+1) (P1 c i s)
def q5O (c:Bi) (out:List Int):List Int×Bool:=M3 c c.nodes.l.length 0 (out,false)
def qCK (c:Bi):Nat->List Int->List Int
 | 0,out=>out
 | f+1,out=>if(q5O c out).2 then qCK c f (q5O c out).1 else(q5O c out).1
def X3 (c:Bi):List Int:=qCK c (c.nodes.l.length+1) (List.replicate c.nodes.l.length 0)
def q7F (c:Bi) (out:List Int) (i:Nat):Prop:=C2 (Aj c i)=true->∀ p∈D4 c i,out.getD p.toNat 0+1<=out.getD i 0
theorem q8E {i:Nat}:∀ {l out:List Int} {b:Bool},i<out.length->(∀ p∈l,p.toNat≠i) ->
  (H8 i l out b).1.length=out.length/\(∀ j,j≠i->(H8 i l out b).1.getD j 0=out.getD j 0)/\out.getD i 0<=(H8 i l out b).1.getD i 0/\(∀ p∈l,out.getD p.toNat 0+1<=(H8 i l out b).1.getD i 0) /\
  ((∀ p∈l,out.getD p.toNat 0+1<=out.getD i 0)->H8 i l out b=(out,b))/\((H8 i l out b).2=false->(H8 i l out b).1=out/\b=false)
 | [],out,b,hi,hp=>⟨rfl,fun _ _=>rfl,Int.le_refl _,fun _ h=>by simp at h,fun _=>rfl,fun h=>⟨rfl,h⟩⟩
 | p::l,out,b,hi,hp=>by
  have hpi:=hp p xqh
  have hpl:=fun q hq=>hp q (xqf p hq)
  by_cases h:out.getD i 0<out.getD p.toNat 0+1
  ·obtain⟨h1,h2,h3,h4,h5,h6⟩:=q8E (l:=l) (out:=out.set i (out.getD p.toNat 0+1)) (b:=true) (by rw[List.length_set];exact hi) hpl
   have e:H8 i (p::l) out b=H8 i l (out.set i (out.getD p.toNat 0+1)) true:=by simp only[H8];rw[if_pos h]
   have hs:(out.set i (out.getD p.toNat 0+1)).getD i 0=out.getD p.toNat 0+1:=by rw[E4 hi,if_pos rfl]
   have ho:∀ j,j≠i->(out.set i (out.getD p.toNat 0+1)).getD j 0=out.getD j 0:=fun j hj=>by rw[E4 hi,if_neg hj]
   rw[e]
   rw[hs]at h3
   refine⟨by rw[h1,List.length_set],fun j hj=>by rw[h2 j hj,ho j hj],by omega,fun q hq=>?_,fun hall=>?_,fun hf=>?_⟩
   ·rcases xqv.1 hq with rfl|hq
    ·omega
    ·have:=h4 q hq
     rwa [ho _ (hpl q hq)]at this
   ·have:=hall p xqh
    omega
   ·have:=(h6 hf).2
    cases this
  ·obtain⟨h1,h2,h3,h4,h5,h6⟩:=q8E (l:=l) (out:=out) (b:=b) hi hpl
   have e:H8 i (p::l) out b=H8 i l out b:=by simp only[H8];rw[if_neg h]
   rw[e]
   refine⟨h1,h2,h3,fun q hq=>?_,fun hall=>h5 fun q hq=>hall q (xqf _ hq),h6⟩
   rcases xqv.1 hq with rfl|hq
   ·omega
   ·exact h4 q hq
structure Plc (c:Bi) (φ:Nat->Nat):Prop where
 lt:∀ i,i<c.nodes.l.length->φ i<c.nodes.l.length
 dn:∀ i,i<c.nodes.l.length->C2 (Aj c i)=true->∀ p∈D4 c i,p.toNat<c.nodes.l.length/\φ p.toNat<φ i
theorem Plc.ne {c:Bi} {φ:Nat->Nat} (h:Plc c φ) {i:Nat} (hi:i<c.nodes.l.length) (hc:C2 (Aj c i)=true):∀ p∈D4 c i,p.toNat≠i:=fun p hp e=>by
 have:=(h.dn i hi hc p hp).2
 rw[e]at this
 omega
theorem qCL {c:Bi} {φ:Nat->Nat} (h:Plc c φ) {i:Nat} (hi:i<c.nodes.l.length) {out:List Int} {b:Bool} (hl:out.length=c.nodes.l.length) :
  (P1 c i (out,b)).1.length=c.nodes.l.length/\(∀ j,j≠i->(P1 c i (out,b)).1.getD j 0=out.getD j 0)/\q7F c (P1 c i (out,b)).1 i/\(q7F c out i->P1 c i (out,b)=(out,b))/\((P1 c i (out,b)).2=false->(P1 c i (out,b)).1=out/\b=false) /\
  ((∀ j,j<c.nodes.l.length->0<=out.getD j 0/\out.getD j 0<=φ j)->∀ j,j<c.nodes.l.length->0<=(P1 c i (out,b)).1.getD j 0/\(P1 c i (out,b)).1.getD j 0<=φ j):=by
 unfold P1
 by_cases hc:C2 (Aj c i)=true
 ·rw[if_pos hc]
  have hne:=h.ne hi hc
  obtain⟨h1,h2,h3,h4,h5,h6⟩:=q8E (i:=i) (l:=D4 c i) (out:=out) (b:=b) (by omega) hne
  refine⟨by rw[h1,hl],h2,fun _ p hp=>?_,fun hs=>h5 (hs hc),h6,fun hb j hj=>?_⟩
  ·have:=h4 p hp
   rw[h2 _ (hne p hp)]
   exact this
  ·by_cases hji:j=i
   ·subst hji
    refine⟨Int.le_trans (hb j hj).1 h3,?_⟩
    have key:∀ (l o:List Int) (b:Bool),j<o.length->(∀ p∈l,p.toNat≠j)->(∀ p∈l,o.getD p.toNat 0+1<=φ j)->o.getD j 0<=φ j->(H8 j l o b).1.getD j 0<=φ j:=by
     intro l
     induction l with
     | nil=>intro o b _ _ _ h;exact h
     | cons p l ih =>
      intro o b ho hp hq hoj
      simp only[H8]
      split
      ·refine ih _ _ (by rw[List.length_set];exact ho) (fun q hq'=>hp q (xqf _ hq')) (fun q hq'=>?_) ?_
       ·rw[E4 ho,if_neg (hp q (xqf _ hq'))]
        exact hq q (xqf _ hq')
       ·rw[E4 ho,if_pos rfl]
        exact hq p xqh
      ·exact ih _ _ ho (fun q hq'=>hp q (xqf _ hq')) (fun q hq'=>hq q (xqf _ hq')) hoj
    refine key _ _ _ (by show j<out.length;omega) hne (fun p hp=>?_) (hb j hj).2
    obtain⟨d1,d2⟩:=h.dn j hj hc p hp
    have:=(hb _ d1).2
    show out.getD p.toNat 0+1<=φ j
    omega
   ·rw[h2 j hji];exact hb j hj
 ·rw[if_neg hc]
  exact⟨hl,fun _ _=>rfl,fun hh=>absurd hh hc,fun _=>rfl,fun hf=>⟨rfl,hf⟩,fun hb=>hb⟩
theorem qLE {c:Bi} {φ:Nat->Nat} (h:Plc c φ) {i j:Nat} (hj:j<c.nodes.l.length) (hji:j≠i) (hφ:φ j<=φ i) {a b:List Int} (hab:∀ q,q≠i->b.getD q 0=a.getD q 0) (hs:q7F c a j):q7F c b j:=fun hc p hp=>by
 have hd:=h.dn j hj hc p hp
 have hpi:p.toNat≠i:=fun e=>by rw[e]at hd;omega
 rw[hab _ hpi,hab _ hji]
 exact hs hc p hp
theorem q6C {c:Bi} {φ:Nat->Nat} (h:Plc c φ) (r:Nat) (o0:List Int) (h0:∀ j,j<c.nodes.l.length->φ j<r->q7F c o0 j):∀ (k i:Nat) (out:List Int) (b:Bool),k+i=c.nodes.l.length->out.length=c.nodes.l.length ->
  (∀ j,j<c.nodes.l.length->φ j<r->out.getD j 0=o0.getD j 0)->(∀ j,j<i->φ j<r+1->q7F c out j)->(∀ j,j<c.nodes.l.length->0<=out.getD j 0/\out.getD j 0<=φ j)->(b=false->∀ j,j<i->q7F c out j) ->
  (M3 c k i (out,b)).1.length=c.nodes.l.length/\(∀ j,j<c.nodes.l.length->φ j<r->(M3 c k i (out,b)).1.getD j 0=o0.getD j 0)/\(∀ j,j<c.nodes.l.length->φ j<r+1->q7F c (M3 c k i (out,b)).1 j) /\
  (∀ j,j<c.nodes.l.length->0<=(M3 c k i (out,b)).1.getD j 0/\(M3 c k i (out,b)).1.getD j 0<=φ j)/\((M3 c k i (out,b)).2=false->∀ j,j<c.nodes.l.length->q7F c (M3 c k i (out,b)).1 j)/\((∀ j,j<c.nodes.l.length->q7F c out j)->M3 c k i (out,b)=(out,b))
 | 0,i,out,b,hk,hl,h1,h2,h3,h4=>⟨hl,h1,fun j hj hφ=>h2 j (by omega) hφ,h3,fun hf j hj=>h4 hf j (by omega),fun _=>rfl⟩
 | k+1,i,out,b,hk,hl,h1,h2,h3,h4=>by
  have hi:i<c.nodes.l.length:=by omega
  obtain⟨n1,n2,n3,n4,n5,n6⟩:=qCL h hi (out:=out) (b:=b) hl
  simp only[M3]
  have hφr:φ i<r->q7F c out i:=fun hφ hc p hp=>by
   have hd:=h.dn i hi hc p hp
   rw[h1 _ hd.1 (by omega),h1 _ hi hφ]
   exact h0 i hi hφ hc p hp
  have:=q6C h r o0 h0 k (i+1) (P1 c i (out,b)).1 (P1 c i (out,b)).2 (by omega) n1 (fun j hj hφ=>by
   by_cases hji:j=i
   ·subst hji
    rw[n4 (hφr hφ)]
    exact h1 j hj hφ
   ·rw[n2 j hji];exact h1 j hj hφ) (fun j hj hφ=>by
   by_cases hji:j=i
   ·subst hji;exact n3
   ·have hj':j<i:=by omega
    by_cases hir:φ i<r
    ·rw[n4 (hφr hir)];exact h2 j hj' hφ
    ·exact qLE h (by omega) hji (by omega) n2 (h2 j hj' hφ)) (n6 h3) (fun hf j hj=>by
   obtain⟨e1,e2⟩:=n5 hf
   by_cases hji:j=i
   ·subst hji;exact n3
   ·rw[e1];exact h4 e2 j (by omega))
  obtain⟨m1,m2,m3,m4,m5,m6⟩:=this
  refine⟨m1,m2,m3,m4,m5,fun hall=>?_⟩
  have e:=n4 (hall i hi)
  rw[e]at m6 ⊢
  exact m6 hall
structure qHy (c:Bi) (L:List Int):Prop where
 len:L.length=c.nodes.l.length
 rg:∀ j,j<c.nodes.l.length->0<=L.getD j 0/\L.getD j 0<c.nodes.l.length
 sat:∀ j,j<c.nodes.l.length->q7F c L j
theorem qEP {c:Bi} {φ:Nat->Nat} (h:Plc c φ):∀ (f r:Nat) (out:List Int),c.nodes.l.length+1<=f+r->r<=c.nodes.l.length->out.length=c.nodes.l.length->(∀ j,j<c.nodes.l.length->0<=out.getD j 0/\out.getD j 0<=φ j)->(∀ j,j<c.nodes.l.length->φ j<r->q7F c out j)->qHy c (qCK c f out)
 | 0,r,out,hf,hr,_,_,_=>by omega
 | f+1,r,out,hf,hr,hl,hb,hs=>by
  obtain⟨m1,m2,m3,m4,m5,m6⟩:=q6C h r out hs c.nodes.l.length 0 out false (by omega) hl (fun _ _ _=>rfl) (fun j hj=>absurd hj (Nat.not_lt_zero _)) hb (fun _ j hj=>absurd hj (Nat.not_lt_zero _))
  simp only[qCK]
  split
  ·rename_i ht
   by_cases hrn:r=c.nodes.l.length
   ·have:=m6 fun j hj=>hs j hj (by rw[hrn];exact h.lt j hj)
    unfold q5O at ht
    rw[this]at ht
    cases ht
   ·exact qEP h f (r+1) _ (by omega) (by omega) m1 m4 m3
  ·rename_i ht
   have hf2:(q5O c out).2=false:=Bool.eq_false_iff.2 ht
   exact⟨m1,fun j hj=>⟨(m4 j hj).1,by
    have h1:(q5O c out).1.getD j 0<=φ j:=(m4 j hj).2
    have:=h.lt j hj
    omega⟩,m5 hf2⟩
theorem qD2 {l:List Int} {x:Int} (h:x∈l):∃ hi:l.idxOf x<l.length,l[l.idxOf x]=x:=⟨List.idxOf_lt_length_iff.2 h,List.getElem_idxOf _⟩
theorem qJU {c:Bi} (h:Cf c=0):Plc c fun i=>(I9 c).idxOf (i:Int):=by
 obtain⟨_,_,h1⟩:=q2C h
 obtain⟨hp,hs⟩:=Qs c
 have hlen:(I9 c).length=c.nodes.l.length:=by rw[hp.length_eq,Hv]
 have hmem:∀ i:Nat,i<c.nodes.l.length->(i:Int)∈I9 c:=fun i hi=>hp.mem_iff.2 (Lm.2 ⟨by omega,by omega⟩)
 refine⟨fun i hi=>by have:=(qD2 (hmem i hi)).1;omega,fun i hi hc p hpi=>?_⟩
 obtain⟨hr,hl⟩:=h1 i hi hc p hpi
 have hpn:p.toNat<c.nodes.l.length:=by omega
 refine⟨hpn,?_⟩
 obtain⟨a1,a2⟩:=qD2 (hmem i hi)
 obtain⟨b1,b2⟩:=qD2 (hmem p.toNat hpn)
 refine Nat.lt_of_not_le fun hle=>?_
 show False
 have hle:(I9 c).idxOf (i:Int)<=(I9 c).idxOf ((p.toNat:Nat):Int):=hle
 rcases Nat.lt_or_eq_of_le hle with hlt|heq
 ·have:=hs _ _ hlt (by omega)
  simp only[Be a1,Be b1,a2,b2,xzl]at this
  omega
 ·have e:(i:Int)=((p.toNat:Nat):Int):=by rw[<- a2,<- b2];simp only[heq]
  have:i=p.toNat:=by omega
  rw[<- this]at hl
  omega
theorem q8F {c:Bi} (h:Cf c=0):qHy c (X3 c):=by
 refine qEP (qJU h) (c.nodes.l.length+1) 0 _ (by omega) (Nat.zero_le _) (by simp) (fun j hj=>?_) (fun j _ h=>absurd h (Nat.not_lt_zero _))
 have:(List.replicate c.nodes.l.length (0:Int)).getD j 0=0:=by rw[xqe,xz3];split<;>rfl
 rw[this]
 omega
def qJV (L:List Int) (n:Nat) (v:Nat):List Int:=(rng n).filter fun i=>decide (L.getD i.toNat 0=(v:Int))
def Di (L:List Int) (n:Nat):Nat->List Int
 | 0=>[]
 | v+1=>Di L n v++qJV L n v
theorem Jx {L:List Int} {n:Nat} {x:Int}:∀ {v:Nat},x∈Di L n v↔x∈rng n/\0<=L.getD x.toNat 0/\L.getD x.toNat 0<v
 | 0=>by simp[Di]
 | v+1=>by
  simp only[Di,xzg,Jx (v:=v),qJV,xzi,xqu]
  constructor
  ·rintro(⟨a,b,d⟩|⟨a,b⟩)
   ·exact⟨a,b,by omega⟩
   ·exact⟨a,by omega,by omega⟩
  ·rintro⟨a,b,d⟩
   by_cases h:L.getD x.toNat 0<v
   ·exact .inl ⟨a,b,h⟩
   ·exact .inr ⟨a,by omega⟩
theorem Oc {L:List Int} {n:Nat}:∀ {v:Nat},(Di L n v).Nodup
 | 0=>List.nodup_nil
 | v+1=>by
  simp only[Di]
  refine List.nodup_append.2 ⟨Oc,q1A.filter _,fun a ha b hb e=>?_⟩
  subst e
  have h1:=(Jx.1 ha).2.2
  simp only[qJV,xzi,xqu]at hb
  omega
theorem q5P {L:List Int} {n:Nat}:∀ {v:Nat},(Di L n v).Pairwise fun x y=>L.getD x.toNat 0<=L.getD y.toNat 0
 | 0=>List.Pairwise.nil
 | v+1=>by
  simp only[Di]
  refine List.pairwise_append.2 ⟨q5P,?_,fun a ha b hb=>?_⟩
  ·refine List.pairwise_of_forall_mem_list fun a ha b hb=>?_
   simp only[qJV,xzi,xqu]at ha hb
   omega
  ·have h1:=(Jx.1 ha).2.2
   simp only[qJV,xzi,xqu]at hb
   omega
theorem qFf {c:Bi} {L:List Int} (h:qHy c L) {v:Nat} (hv:c.nodes.l.length<=(Di L c.nodes.l.length v).length):(Di L c.nodes.l.length v).Perm (rng c.nodes.l.length):=by
 refine(List.perm_ext_iff_of_nodup Oc q1A).2 fun x=>⟨fun hx=>(Jx.1 hx).1,fun hx=>?_⟩
 refine Classical.byContradiction fun hn=>?_
 have hsub:(x::Di L c.nodes.l.length v).Nodup:=xzj.2 ⟨hn,Oc⟩
 have:=q4Z (N:=c.nodes.l.length) hsub fun j hj=>by
  have hj':j∈rng c.nodes.l.length:=by
   rcases xqv.1 hj with rfl|hj
   ·exact hx
   ·exact(Jx.1 hj).1
  have:=Lm.1 hj'
  exact⟨j.toNat,by omega,by omega⟩
 simp at this
 omega
theorem qAm {L:List Int} {n v:Nat}:(Di L n v).length<=n:=q4Z Oc fun j hj=>by
 have:=Lm.1 (Jx.1 hj).1
 exact⟨j.toNat,by omega,by omega⟩
theorem qEQ {c:Bi} {L:List Int} (h:qHy c L) {v:Nat} (hv:(Di L c.nodes.l.length v).length<c.nodes.l.length):v<c.nodes.l.length:=by
 refine Nat.lt_of_not_le fun hle=>?_
 have hp:(Di L c.nodes.l.length v).Perm (rng c.nodes.l.length):=by
  refine(List.perm_ext_iff_of_nodup Oc q1A).2 fun x=>⟨fun hx=>(Jx.1 hx).1,fun hx=>Jx.2 ⟨hx,?_⟩⟩
  have:=Lm.1 hx
  have:=h.rg x.toNat (by omega)
  omega
 have:=hp.length_eq
 rw[Hv]at this
 omega
theorem qFg {c:Bi} (h:Cf c=0) {L:List Int} (hL:qHy c L) {v:Nat} (hv:c.nodes.l.length<=(Di L c.nodes.l.length v).length) {init:List Int} (hi:init.length=c.nodes.l.length):qFW c init (q4m c (Di L c.nodes.l.length v) init):=by
 obtain⟨_,_,h1⟩:=q2C h
 have hp:=qFf hL hv
 have hmem:∀ n,n∈Di L c.nodes.l.length v↔0<=n/\n<c.nodes.l.length:=fun n=>by rw[hp.mem_iff,Lm]
 have hlt:∀ x,x∈Di L c.nodes.l.length v->C2 (Aj c x.toNat)=true->∀ p∈D4 c x.toNat,(0<=p/\p<c.nodes.l.length)/\L.getD p.toNat 0<L.getD x.toNat 0:=fun x hx hc p hpp=>by
  have hx':=(hmem x).1 hx
  have:=hL.sat x.toNat (by omega) hc p hpp
  exact⟨(h1 x.toNat (by omega) hc p hpp).1,by omega⟩
 obtain⟨_,a2⟩:=qCr (c:=c) (o:=Di L c.nodes.l.length v) (nets:=init) hi Oc (fun n hn=>(hmem n).1 hn) (q5P.imp_of_mem fun{x y} hx hy hxy hc hm=>by
  have:=(hlt x hx hc y hm).2
  omega) (fun x hx hc=>⟨fun hm=>by have:=(hlt x hx hc x hm).2;omega,fun p hpp=>(hlt x hx hc p hpp).1.1⟩)
 exact⟨by rw[q1B];exact hi,fun i hi=>a2 i ((hmem i).2 (by omega))⟩
end Go.Lg
namespace Go.Lg
open Go Go.Proofs
variable {Γ:Tables}
theorem Hm (b:Bool):A8 Tryz.prog Γ 224 [tB b] (tI (Kz b)):=by
 refine Ae qBT rfl ?_
 cases b<;>simp[q7A,q7B,Kz]
theorem q7G (v:Int) (b:Bool):Az Tryz.prog Γ 213 [tK v,tB b] (.sl (Af (J6 v b)) (some (J6 v b).length) (some false)):=by
 refine Bz q7C rfl ?_
 unfold J6
 by_cases h0:v=0
 ·simp[Gu,Gv,h0,Au,Em]
 by_cases h1:v=1
 ·simp[Gu,Gv,h0,h1,Au,Em]
 cases b
 ·simp[Gu,Gv,h0,h1,Au,Em]
 by_cases h3:v=3
 ·simp[Gu,Gv,h0,h1,h3,Au,Em]
 ·simp[Gu,Gv,h0,h1,h3,Au,Em]
theorem qHz {l:List Int} {v:Int} {i:Nat} (h:i<l.length):Bo (l.take (i+1)) v=Bo (l.take i) v+if l.getD i 0=v then 1 else 0:=by
 rw[<- List.take_append_getElem h,q77,Be h]
 congr 1
 unfold Bo
 simp[List.countP_cons]
theorem qER {Q:AX->St->Prop} (l:Sl Int) (v:Int) (hl:l.l.length<=1000000)
  (h0:Q (.exit 0) ⟨[(0,.t (As l)),(1,.t (tI v)),(5,.t (tI (Bo l.l v))),(6,.t (tI l.l.length)),(10,.t (tB false))],[]⟩) :
  ∀ (k i:Nat),k+i=l.l.length->run Tryz.prog Γ Tj Q ⟨[(0,.t (As l)),(1,.t (tI v)),(5,.t (tI (Bo (l.l.take i) v))),(6,.t (tI i))],[]⟩
 | 0,i,h=>by
  refine Zq fun K hK=>?_
  have h2:i=l.l.length:=by omega
  subst h2
  rw[xzn]
  simp[As,A6]
  simpa[As]using h0
 | k+1,i,h=>by
  refine Zq fun K hK=>?_
  have h2:i<l.l.length:=by omega
  have ih:=qER l v hl h0 k (i+1) (by omega)
  rw[qHz h2]at ih
  have hc:Bo (l.l.take i) v<=i:=Nat.le_trans List.countP_le_length (by rw[xzf];exact Nat.min_le_left _ _)
  have e1:=gE (f:=tI) 0 h2
  have e1':=gE' (f:=tI) 0 h2
  generalize l.l.getD i 0=x at *
  generalize Bo (l.l.take i) v=n at *
  have w1:IntKind.i64.wrap ((i:Int)+1)=(i:Int)+1:=by rw[A7]<;>omega
  have w2:IntKind.i64.wrap ((n:Int)+1)=(n:Int)+1:=by rw[A7]<;>omega
  simp[As]at ih
  by_cases hx:x=v
  ·simp[hx]at ih
   simp[As,A6,A9,h2,e1,e1',hx,w1,w2]
   rw[hK]
   simpa using ih
  ·simp[hx]at ih
   simp[As,A6,A9,h2,e1,e1',hx,w1,w2]
   rw[hK]
   simpa using ih
theorem qES (l:Sl Int) (v:Int) (hl:l.l.length<=1000000):A8 Tryz.prog Γ 223 [As l,tI v] (tI (Bo l.l v)):=by
 refine Ae q9C rfl ?_
 have g:=fun Q h0=>qER (Γ:=Γ) (Q:=Q) l v hl h0 l.l.length 0 (by omega)
 simp[As,Bo]at g
 simp[q4D,As]
 refine g _ ?_
 simp[q4E,Bo]
set_option maxHeartbeats 2000000 in
theorem q5Q (k:Int) (hk:1<=k/\k<=13) (l:Sl Int) (hl:l.l.length<=1000000) (h1:k=3\/k=4->1<=l.l.length) (h2:k=12->2<=l.l.length) (h3:k=11->3<=l.l.length):A8 Tryz.prog Γ 214 [tK k,As l] (tI (Kw k l.l)):=by
 refine Ae q6B rfl ?_
 have c1:=qES (Γ:=Γ) l 1 hl
 have c0:=qES (Γ:=Γ) l 0 hl
 have n1:Bo l.l 1<=l.l.length:=List.countP_le_length
 have n0:Bo l.l 0<=l.l.length:=List.countP_le_length
 have hkc:k=1\/k=2\/k=3\/k=4\/k=5\/k=6\/k=7\/k=8\/k=9\/k=10\/k=11\/k=12\/k=13:=by omega
 rcases hkc with rfl|rfl|rfl|rfl|rfl|rfl|rfl|rfl|rfl|rfl|rfl|rfl|rfl
 ·simp[As]at c1 c0
  simp[Bt,As]
  refine A4 c1 rfl ?_
  simp
  refine A4 c0 rfl ?_
  simp
  refine A4 (Hm _) rfl ?_
  simp[B5,Kw]
 ·simp[As]at c1 c0
  simp[Bt,As]
  refine A4 c1 rfl ?_
  simp
  refine A4 c0 rfl ?_
  simp
  refine A4 (Hm _) rfl ?_
  simp[B5,Kw]
 ·simp[As]at c1 c0
  simp[Bt,As]
  refine A4 c1 rfl ?_
  simp
  refine A4 c0 rfl ?_
  have h9:0<l.l.length:=h1 (by omega)
  have e1:=gE (f:=tI) 0 h9
  have e1':=gE' (f:=tI) 0 h9
  have hgx:l.l[0]?.getD 0=l.l.getD 0 0:=(xqe ..).symm
  generalize hx:l.l.getD 0 0=x at *
  have hx':=hgx
  simp[A6,A9,h9,e1,e1']
  refine A4 (Hm _) rfl ?_
  by_cases hh:x=1<;>simp[B5,Kw,hx,hx',hh]
 ·simp[As]at c1 c0
  simp[Bt,As]
  refine A4 c1 rfl ?_
  simp
  refine A4 c0 rfl ?_
  have h9:0<l.l.length:=h1 (by omega)
  have e1:=gE (f:=tI) 0 h9
  have e1':=gE' (f:=tI) 0 h9
  have hgx:l.l[0]?.getD 0=l.l.getD 0 0:=(xqe ..).symm
  generalize hx:l.l.getD 0 0=x at *
  have hx':=hgx
  simp[A6,A9,h9,e1,e1']
  refine A4 (Hm _) rfl ?_
  by_cases hh:x=1<;>simp[B5,Kw,hx,hx',hh]
 ·simp[As]at c1 c0
  simp[Bt,As]
  refine A4 c1 rfl ?_
  simp
  refine A4 c0 rfl ?_
  generalize hx:Bo l.l 0=x at *
  simp
  refine A4 (Hm _) rfl ?_
  by_cases hh:x=0<;>simp[B5,Kw,hx,hh]
 ·simp[As]at c1 c0
  simp[Bt,As]
  refine A4 c1 rfl ?_
  simp
  refine A4 c0 rfl ?_
  generalize hx:Bo l.l 0=x at *
  simp
  refine A4 (Hm _) rfl ?_
  by_cases hh:x=0<;>simp[B5,Kw,hx,hh]
 ·simp[As]at c1 c0
  simp[Bt,As]
  refine A4 c1 rfl ?_
  simp
  refine A4 c0 rfl ?_
  generalize hx:Bo l.l 1=x at *
  simp
  refine A4 (Hm _) rfl ?_
  by_cases hh:0<x<;>simp[B5,Kw,hx,hh]
 ·simp[As]at c1 c0
  simp[Bt,As]
  refine A4 c1 rfl ?_
  simp
  refine A4 c0 rfl ?_
  generalize hx:Bo l.l 1=x at *
  simp
  refine A4 (Hm _) rfl ?_
  by_cases hh:0<x<;>simp[B5,Kw,hx,hh]
 ·simp[As]at c1 c0
  simp[Bt,As]
  refine A4 c1 rfl ?_
  simp
  refine A4 c0 rfl ?_
  generalize hx:Bo l.l 1=x at *
  have hm:(x:Int).tmod 2=((x % 2:Nat):Int):=by rw[Int.natCast_emod];exact Int.tmod_eq_emod_of_nonneg (by omega)
  simp[hm,-Int.natCast_emod]
  refine A4 (Hm _) rfl ?_
  rcases Nat.mod_two_eq_zero_or_one x with hh|hh<;>simp[B5,Kw,hx,hh]
 ·simp[As]at c1 c0
  simp[Bt,As]
  refine A4 c1 rfl ?_
  simp
  refine A4 c0 rfl ?_
  generalize hx:Bo l.l 1=x at *
  have hm:(x:Int).tmod 2=((x % 2:Nat):Int):=by rw[Int.natCast_emod];exact Int.tmod_eq_emod_of_nonneg (by omega)
  simp[hm,-Int.natCast_emod]
  refine A4 (Hm _) rfl ?_
  rcases Nat.mod_two_eq_zero_or_one x with hh|hh<;>simp[B5,Kw,hx,hh]
 ·simp[As]at c1 c0
  simp[Bt,As]
  refine A4 c1 rfl ?_
  simp
  refine A4 c0 rfl ?_
  have h9:=h3 rfl
  have e1:=gE (f:=tI) 0 (show 0<l.l.length by omega)
  have e1':=gE' (f:=tI) 0 (show 0<l.l.length by omega)
  have e2:=gE (f:=tI) 0 (show 1<l.l.length by omega)
  have e2':=gE' (f:=tI) 0 (show 1<l.l.length by omega)
  have e3:=gE (f:=tI) 0 (show 2<l.l.length by omega)
  have e3':=gE' (f:=tI) 0 (show 2<l.l.length by omega)
  have q0:0<l.l.length:=by omega
  have q1:1<l.l.length:=by omega
  have q2:2<l.l.length:=by omega
  have q1':(1:Int)<l.l.length:=by omega
  have q2':(2:Int)<l.l.length:=by omega
  have hgx:l.l[0]?.getD 0=l.l.getD 0 0:=(xqe ..).symm
  generalize hx:l.l.getD 0 0=x at *
  have hx':=hgx
  have hgy:l.l[1]?.getD 0=l.l.getD 1 0:=(xqe ..).symm
  generalize hy:l.l.getD 1 0=y at *
  have hy':=hgy
  have hgz:l.l[2]?.getD 0=l.l.getD 2 0:=(xqe ..).symm
  generalize hz:l.l.getD 2 0=z at *
  have hz':=hgz
  by_cases hh:x=0
  ·simp[B5,A6,A9,q0,q1,q2,q1',q2',e1,e1',e2,e2',e3,e3',hh]
   simp[Kw,hx,hy,hz,hx',hy',hz',hh]
  ·simp[B5,A6,A9,q0,q1,q2,q1',q2',e1,e1',e2,e2',e3,e3',hh]
   simp[Kw,hx,hy,hz,hx',hy',hz',hh]
 ·simp[As]at c1 c0
  simp[Bt,As]
  refine A4 c1 rfl ?_
  simp
  refine A4 c0 rfl ?_
  have h9:=h2 rfl
  have e1:=gE (f:=tI) 0 (show 0<l.l.length by omega)
  have e1':=gE' (f:=tI) 0 (show 0<l.l.length by omega)
  have e2:=gE (f:=tI) 0 (show 1<l.l.length by omega)
  have e2':=gE' (f:=tI) 0 (show 1<l.l.length by omega)
  have q0:0<l.l.length:=by omega
  have q1:1<l.l.length:=by omega
  have q1':(1:Int)<l.l.length:=by omega
  have hgx:l.l[0]?.getD 0=l.l.getD 0 0:=(xqe ..).symm
  generalize hx:l.l.getD 0 0=x at *
  have hx':=hgx
  have hgy:l.l[1]?.getD 0=l.l.getD 1 0:=(xqe ..).symm
  generalize hy:l.l.getD 1 0=y at *
  have hy':=hgy
  by_cases hh:x=0
  ·simp[B5,A6,A9,q0,q1,q1',e1,e1',e2,e2',hh]
   simp[Kw,hx,hy,hx',hy',hh]
  ·simp[B5,A6,A9,q0,q1,q1',e1,e1',e2,e2',hh]
   simp[Kw,hx,hy,hx',hy',hh]
 ·simp[As]at c1 c0
  simp[Bt,As]
  refine A4 c1 rfl ?_
  simp
  refine A4 c0 rfl ?_
  generalize hx:Bo l.l 1=x at *
  generalize hy:Bo l.l 0=y at *
  have w:IntKind.i64.wrap ((x:Int)+y)=(x:Int)+y:=by rw[A7]<;>omega
  have hx2:x=0\/0<x:=by omega
  have hy2:y=0\/0<y:=by omega
  rcases hx2 with rfl|hx2
  ·rcases hy2 with rfl|hy2
   ·have w0:IntKind.i64.wrap 0=0:=by decide
    simp[B5,w0]
    simp[Kw,hx,hy]
   ·have ha':¬ (y:Int)=0:=by omega
    have hyn:¬ y=0:=by omega
    have w0:IntKind.i64.wrap (y:Int)=y:=by rw[A7]<;>omega
    simp[w0,ha',hyn]
    refine A4 (Hm _) rfl ?_
    simp[B5,Kw,hx,hy,hyn]
  ·have hxn:¬ x=0:=by omega
   rcases hy2 with rfl|hy2
   ·have w0:IntKind.i64.wrap (x:Int)=x:=by rw[A7]<;>omega
    have ha':¬ (x:Int)=0:=by omega
    simp[w0,ha',hx2,hxn]
    refine A4 (Hm _) rfl ?_
    simp[B5,Kw,hx,hy,hx2,hxn]
   ·have ha':¬ (x:Int)+y=0:=by omega
    have ha:¬ x+y=0:=by omega
    simp[B5,w,ha',hx2,hy2,hxn]
    simp[Kw,hx,hy,hx2,hy2,ha,hxn]
theorem qD3 (k:Int) (hk:0<=k/\k<=15) (n:Nat):A8 Tryz.prog Γ 180 [tK k,tI n] (tB (L6 k n)):=by
 refine Ae q7D rfl ?_
 have hkc:k=0\/k=1\/k=2\/k=3\/k=4\/k=5\/k=6\/k=7\/k=8\/k=9\/k=10\/k=11\/k=12\/k=13\/k=14\/k=15:=by omega
 by_cases h0:n=0
 ·subst h0
  rcases hkc with rfl|rfl|rfl|rfl|rfl|rfl|rfl|rfl|rfl|rfl|rfl|rfl|rfl|rfl|rfl|rfl<;>simp[Fb,Fe,L6]
 by_cases h16:n<=16
 ·have h16':(n:Int)<=16:=by omega
  by_cases h1:n=1
  ·subst h1
   rcases hkc with rfl|rfl|rfl|rfl|rfl|rfl|rfl|rfl|rfl|rfl|rfl|rfl|rfl|rfl|rfl|rfl<;>simp[Fb,Fe,L6]
  have h2:2<=n:=by omega
  have h2':(2:Int)<=n:=by omega
  have h1':(1:Int)<=n:=by omega
  have h1n:1<=n:=by omega
  have g0:¬ (n:Int)=0:=by omega
  have g1:¬ (n:Int)=1:=by omega
  by_cases h3:n=3
  ·subst h3
   rcases hkc with rfl|rfl|rfl|rfl|rfl|rfl|rfl|rfl|rfl|rfl|rfl|rfl|rfl|rfl|rfl|rfl<;>simp[Fb,Fe,L6]
  have g3:¬ (n:Int)=3:=by omega
  by_cases h4:n=2
  ·subst h4
   rcases hkc with rfl|rfl|rfl|rfl|rfl|rfl|rfl|rfl|rfl|rfl|rfl|rfl|rfl|rfl|rfl|rfl<;>simp[Fb,Fe,L6]
  have g2:¬ (n:Int)=2:=by omega
  rcases hkc with rfl|rfl|rfl|rfl|rfl|rfl|rfl|rfl|rfl|rfl|rfl|rfl|rfl|rfl|rfl|rfl<;>simp[Fb,Fe,L6,h0,h1,h2,h3,h4,h1',h1n,h2',h16,h16',g0,g1,g2,g3]
 ·have h16':¬ (n:Int)<=16:=by omega
  have h2':(2:Int)<=n:=by omega
  have h1':(1:Int)<=n:=by omega
  have g0:¬ (n:Int)=0:=by omega
  have g1:¬ (n:Int)=1:=by omega
  have g2:¬ (n:Int)=2:=by omega
  have g3:¬ (n:Int)=3:=by omega
  have f1:¬ n=1:=by omega
  have f2:¬ n=2:=by omega
  have f3:¬ n=3:=by omega
  rcases hkc with rfl|rfl|rfl|rfl|rfl|rfl|rfl|rfl|rfl|rfl|rfl|rfl|rfl|rfl|rfl|rfl<;>simp[Fb,Fe,L6,h0,h16,h16',h1',h2',g0,g1,g2,g3,f1,f2,f3]
theorem q2S (k:Int):A8 Tryz.prog Γ 113 [tK k] (tB (C2 k)):=by
 refine Ae qAk rfl ?_
 unfold C2
 by_cases h1:1<=k
 ·by_cases h2:k<=13<;>simp[q0m,q0n,h1,h2]
 ·simp[q0m,q0n,h1]
theorem q7H {v:Int} {b:Bool}:(J6 v b).length<=3:=by unfold J6;split;simp;split;simp;split;simp;split<;>simp
theorem q4K {F:Int->List Int} {m:Nat} (hF:∀ y,(F y).length<=m):∀ l:List Int,(l.flatMap F).length<=m*l.length
 | []=>by simp
 | x::l=>by
  have:=q4K hF l
  have:=hF x
  rw[List.flatMap_cons,xq6,xq8,Nat.mul_add,Nat.mul_one]
  omega
theorem qAn {k:Int} {ins:List Int}:∀ (n:Nat) (l:List Int),(X2 k ins n l).length<=3 ^ n
 | 0,l=>by simp[X2]
 | n+1,l=>by
  simp only[X2]
  have:=q4K (F:=fun y=>X2 k ins n (l++[y])) (fun y=>qAn n (l++[y])) (J6 (ins.getD l.length 0) (decide (k=13)))
  have h3:=q7H (v:=ins.getD l.length 0) (b:=decide (k=13))
  refine Nat.le_trans this ?_
  rw[Nat.pow_succ]
  exact Nat.mul_le_mul_left _ h3
theorem qET {Q:AX->St->Prop} (k:Int) (ins l:Sl Int) (F:Int->List Int) (hF:∀ y,(F y).length<=1000) (hcall:∀ y,A8 Tryz.prog Γ 204 [tK k,tV ins,As ⟨l.l++[y],none,none⟩] (.sl (Af (F y)) none none)) (hl:l.l.length<=1000) (cs:List Int) (hcs:cs.length<=3) (cc:Option Nat) (cn:Option Bool)
  (h0:Q (.exit 0) ⟨[(0,.t (tK k)),(1,.t (tV ins)),(2,.t (As l)),(7,.ls 45 0 (cs.flatMap F).length none),(8,.t (.sl (Af cs) cc cn)),(9,.t (tI cs.length)),(30,.t (tB false))],[(45,.sl 3 1 (Af (cs.flatMap F)))]⟩) :
  ∀ (f i:Nat),f+i=cs.length->run Tryz.prog Γ O6 Q ⟨[(0,.t (tK k)),(1,.t (tV ins)),(2,.t (As l)),(7,.ls 45 0 ((cs.take i).flatMap F).length none),(8,.t (.sl (Af cs) cc cn)),(9,.t (tI i))],[(45,.sl 3 1 (Af ((cs.take i).flatMap F)))]⟩
 | 0,i,h=>by
  refine Wc fun K hK=>?_
  have h2:i=cs.length:=by omega
  subst h2
  rw[xzn]
  simp[tV,As,A6,-List.length_flatMap]at h0
  simp[tV,As,A6,-List.length_flatMap]
  simpa[-List.length_flatMap]using h0
 | f+1,i,h=>by
  refine Wc fun K hK=>?_
  have h2:i<cs.length:=by omega
  have ih:=qET k ins l F hF hcall hl cs hcs cc cn h0 f (i+1) (by omega)
  rw[<- List.take_append_getElem h2,List.flatMap_append,List.flatMap_cons,List.flatMap_nil,List.append_nil]at ih
  have hol:=q4K hF (cs.take i)
  rw[xzf]at hol
  have e1:=gE (f:=tI) 0 h2
  have e1':=gE' (f:=tI) 0 h2
  rw[Be h2]at e1 e1'
  generalize cs[i]=x at *
  generalize (cs.take i).flatMap F=out at *
  have hx:=hcall x
  have hxl:=hF x
  generalize F x=fx at *
  have w1:IntKind.i64.wrap ((i:Int)+1)=(i:Int)+1:=by rw[A7]<;>omega
  have vt:(Af out).take out.length=Af out:=Dq
  have va:Af out++Af fx=Af (out++fx):=by simp[Au]
  have lt:(Af l.l).take l.l.length=Af l.l:=Dq
  have ls:Af l.l++[[tI x]]=Af (l.l++[x]):=E0
  have lt2:(Af (l.l++[x])).take (l.l.length+1)=Af (l.l++[x]):=xqw (by rw[A6];simp)
  have hol3:out.length<=3000:=by omega
  simp[tV,As]at ih hx
  simp[tV,As,A6,A9,h2,e1,e1',lt,ls,w1,-qCj,-q7s]
  refine⟨by omega,?_⟩
  rw[q7s,qCj]
  generalize hKK:(fun(q:AV) (st1:St)=>asK _ _ _)=KK
  simp[lt,ls,A6]
  refine⟨by omega,?_⟩
  rw[<- hKK]
  simp[-qCj,-q7s]
  refine A4 hx (by simp[Ai,lt2]) ?_
  simp[A6,A9,vt,va,w1]
  refine⟨by omega,?_⟩
  rw[hK]
  simpa using ih
theorem q7I (k:Int) (hk:1<=k/\k<=4\/k=11\/k=12) (ins:Sl Int) (hi:L6 k ins.l.length=true) (hi3:ins.l.length<=3):∀ (n:Nat) (l:Sl Int),n+l.l.length=ins.l.length->A8 Tryz.prog Γ 204 [tK k,tV ins,As l] (.sl (Af (X2 k ins.l n l.l)) none none)
 | 0,l,h=>by
  have hl:l.l.length=ins.l.length:=by omega
  have hf:=q5Q (Γ:=Γ) k (by omega) l (by omega) (fun hh=>by rcases hh with rfl|rfl<;>simp[L6]at hi<;>omega) (fun hh=>by subst hh;simp[L6]at hi;omega) (fun hh=>by subst hh;simp[L6]at hi;omega)
  refine Ae q0S rfl ?_
  simp only[X2]
  generalize Kw k l.l=r at *
  have hl':(l.l.length:Int)=ins.l.length:=by omega
  simp[As]at hf
  simp[Ux,tV,As,A6,hl,hl']
  refine A4 hf rfl ?_
  have hf1:Af [r]=[[tI r]]:=rfl
  have hfl:Ru (.sl 3 1 (Af [r]))=True:=qHb
  rw[hf1]at hfl
  simp[Uy,Au,Ai,hfl,Em]
 | n+1,l,h=>by
  have hlt:l.l.length<ins.l.length:=by omega
  have hne:¬ (l.l.length:Int)=ins.l.length:=by omega
  have hne':¬ l.l.length=ins.l.length:=by omega
  have e1:=gE (f:=tK) 0 hlt
  have e1':=gE' (f:=tK) 0 hlt
  have hF:∀ y,(X2 k ins.l n (l.l++[y])).length<=1000:=fun y=>by
   refine Nat.le_trans (qAn n _) ?_
   have:n<=2:=by omega
   have:n=0\/n=1\/n=2:=by omega
   rcases this with rfl|rfl|rfl<;>decide
  have hcall:=fun y=>q7I k hk ins hi hi3 n ⟨l.l++[y],none,none⟩ (by simp;omega)
  have hd:decide (k=13)=false:=by simp;omega
  refine Ae q0S rfl ?_
  simp only[X2]
  generalize ins.l.getD l.l.length 0=v at *
  have hc:=q7G (Γ:=Γ) v (decide (k=13))
  have hcl:=q7H (v:=v) (b:=decide (k=13))
  generalize J6 v (decide (k=13))=cs at *
  have g:=fun Q cc cn h0=>qET (Γ:=Γ) (Q:=Q) k ins l (fun y=>X2 k ins.l n (l.l++[y])) hF hcall (by omega) cs hcl cc cn h0 cs.length 0 (by omega)
  have ht:(Af (cs.flatMap fun y=>X2 k ins.l n (l.l++[y]))).take (cs.flatMap fun y=>X2 k ins.l n (l.l++[y])).length=Af (cs.flatMap fun y=>X2 k ins.l n (l.l++[y])):=Dq
  simp only[List.take_zero,List.flatMap_nil,xq9,Gy]at g
  clear hcall hF
  generalize (cs.flatMap fun y=>X2 k ins.l n (l.l++[y]))=R at *
  rw[hd]at hc
  simp[tV,As]at g
  simp[Ux,tV,As,A6,A9,hne,hne',hlt,e1,e1',hd]
  refine Aq hc rfl ?_
  simp
  refine g _ _ _ ?_
  simp[Uy,Ai,ht]
def tT3 (t:T3):List T:=[tI t.a,tI t.b,tI t.d]
theorem M4 {L:List T3}:Em 3 (Bc tT3 L):=q0y fun _=>rfl
def Sm (B:Nat) (t:T3):Prop:=(0<=t.a/\t.a<=B)/\(0<=t.b/\t.b<=B)/\(0<=t.d/\t.d<=B)
theorem qFh {n:Int} (h0:0<=n) (h1:n<=1000000):(Lit.int .i64 n).wf=true:=by
 have a:IntKind.i64.min = -9223372036854775808:=by decide
 have b:IntKind.i64.max=9223372036854775807:=by decide
 simp only[Lit.wf,a,b,xqc,xqu]
 omega
theorem qLy {B:Nat} (hB:B<=1000) {t:T3} (h:Sm B t):q2v [some .i64,some .i64,some .i64] [.int .i64 t.a,.int .i64 t.b,.int .i64 t.d]:=by
 obtain⟨⟨a0,a1⟩,⟨b0,b1⟩,⟨d0,d1⟩⟩:=h
 exact⟨⟨rfl,qFh a0 (by omega)⟩,⟨rfl,qFh b0 (by omega)⟩,⟨rfl,qFh d0 (by omega)⟩,trivial⟩
theorem qPd {t x:T3}:q2w [.int .i64 t.a,.int .i64 t.b,.int .i64 t.d] [.int .i64 x.a,.int .i64 x.b,.int .i64 x.d]=decide (t=x):=by
 obtain⟨a,b,d⟩:=t
 obtain⟨a',b',d'⟩:=x
 simp[q2w,qKL,T3.mk.injEq,Bool.and_assoc]
def cdE (k:Int) (ins:Sl Int) (S:List T3) (sc:Option Nat) (sn:Option Bool) (i:Nat):List (Nat×AV):=[(0,.t (tK k)),(1,.t (tV ins)),(5,.t (.sl (Bc tT3 S) sc sn)),(6,.t (tI i))]
theorem qLz {Q:AX->St->Prop} (k:Int) (ins:Sl Int) (S:List T3) (sc:Option Nat) (sn:Option Bool) (i a b:Nat) (cs:List Int) (cc:Option Nat) (cn:Option Bool) (L:List T3) (hL:L.length<=200000000) (B:Nat) (hB:B<=1000) (hLs:∀ t∈L,Sm B t) (x:T3) (hx:Sm B x)
  (h0:Q (.exit 6) ⟨cdE k ins S sc sn i++[(7,.ls 78 0 L.length none),(8,.t (.sl (Af cs) cc cn)),(9,.t (tI a)),(10,.t (tI b)),(11,.lp 11 0 0),(12,.t (tB (decide (x∈L)))),(13,.t (tI L.length)),(61,.t (tB false))],[(11,.bx [.t (tI x.a),.t (tI x.b),.t (tI x.d)]),(78,.sl 257 3 (Bc tT3 L))]⟩) :
  ∀ (f n:Nat),f+n=L.length->run Tryz.prog Γ O7 Q ⟨cdE k ins S sc sn i++[(7,.ls 78 0 L.length none),(8,.t (.sl (Af cs) cc cn)),(9,.t (tI a)),(10,.t (tI b)),(11,.lp 11 0 0),(12,.t (tB (decide (x∈L.take n)))),(13,.t (tI n))],[(11,.bx [.t (tI x.a),.t (tI x.b),.t (tI x.d)]),(78,.sl 257 3 (Bc tT3 L))]⟩
 | 0,n,h=>by
  refine We fun K hK=>?_
  have h2:n=L.length:=by omega
  subst h2
  rw[xzn]
  simp[cdE,tV,Ab]at h0
  simp[cdE,tV,Ab]
  simpa using h0
 | f+1,n,h=>by
  refine We fun K hK=>?_
  have h2:n<L.length:=by omega
  have ih:=qLz k ins S sc sn i a b cs cc cn L hL B hB hLs x hx h0 f (n+1) (by omega)
  have w1:IntKind.i64.wrap ((n:Int)+1)=(n:Int)+1:=by rw[A7]<;>omega
  have hmem:x∈L.take (n+1)↔x∈L.take n\/L[n]=x:=by
   rw[<- List.take_append_getElem h2,xzg,xzh]
   exact or_congr_right ⟨fun h=>h.symm,fun h=>h.symm⟩
  have hs1:=qLy hB (hLs _ (xqj h2))
  have hs2:=qLy hB hx
  have he:=qPd (t:=L[n]) (x:=x)
  have e1:(Bc tT3 L)[n]?.getD []=tT3 L[n]:=by simp[Bc,h2]
  have e1':∀ h,(Bc tT3 L)[n]'h=tT3 L[n]:=fun h=>by simp[Bc]
  generalize L[n]=t at *
  simp[cdE,tV]at ih
  by_cases hm:x∈L.take n
  ·have hm2:=hmem.2 (.inl hm)
   simp[hm2]at ih
   simp[cdE,tV,Ab,M4,h2,hm,w1]
   rw[hK]
   simpa using ih
  ·have hm2:decide (x∈L.take (n+1))=decide (t=x):=by
    rw[decide_eq_decide,hmem]
    exact⟨fun h=>h.resolve_left hm,.inr⟩
   rw[hm2]at ih
   simp[cdE,tV,Ab,M4,h2,hm,e1,e1',tT3,qDJ,qKN,qKM,Ak,he,w1]
   refine⟨⟨hs1,hs2⟩,?_⟩
   rw[hK]
   simpa using ih
theorem qEU {L:List T3} {t:T3}:(q76 L t).length<=L.length+1:=by unfold q76;split<;>simp
theorem qLF {B:Nat} {L:List T3} {t:T3} (h:∀ x∈L,Sm B x) (ht:Sm B t):∀ x∈q76 L t,Sm B x:=fun x hx=>by
 rcases qEK.1 hx with hx|rfl
 ·exact h x hx
 ·exact ht
theorem qD4 {B:Nat} {t:T3} {y:Int} (h:Sm B t) (hy:y=0\/y=1\/y=2):Sm (B+1) (q75 t y):=by
 obtain⟨⟨a0,a1⟩,⟨b0,b1⟩,⟨d0,d1⟩⟩:=h
 rcases hy with rfl|rfl|rfl
 ·exact⟨⟨by show 0<=t.a+1;omega,by show t.a+1<=_;omega⟩,⟨b0,by show t.b<=_;omega⟩,⟨d0,by show t.d<=_;omega⟩⟩
 ·exact⟨⟨a0,by show t.a<=_;omega⟩,⟨by show 0<=t.b+1;omega,by show t.b+1<=_;omega⟩,⟨d0,by show t.d<=_;omega⟩⟩
 ·exact⟨⟨a0,by show t.a<=_;omega⟩,⟨b0,by show t.b<=_;omega⟩,⟨by show 0<=t.d+1;omega,by show t.d+1<=_;omega⟩⟩
theorem Sm.mono {B C:Nat} (hBC:B<=C) {t:T3} (h:Sm B t):Sm C t:=by
 obtain⟨⟨a0,a1⟩,⟨b0,b1⟩,⟨d0,d1⟩⟩:=h
 exact⟨⟨a0,by omega⟩,⟨b0,by omega⟩,⟨d0,by omega⟩⟩
theorem qJW {B:Nat} {t:T3} (ht:Sm B t):∀ {cs:List Int} {L:List T3},(∀ y∈cs,y=0\/y=1\/y=2)->(∀ x∈L,Sm (B+1) x)->∀ x∈Xq t cs L,Sm (B+1) x:=fun{cs L} hc hL x hx=>by
 rcases q88.1 hx with h|⟨v,hv,rfl⟩
 ·exact hL x h
 ·exact qD4 ht (hc v hv)
theorem q8G {t:T3}:∀ {cs:List Int} {L:List T3},(Xq t cs L).length<=L.length+cs.length
 | [],L=>xzo _
 | v::l,L=>by
  simp only[Xq]
  have:=q8G (t:=t) (cs:=l) (L:=q76 L (q75 t v))
  have:=qEU (L:=L) (t:=q75 t v)
  rw[xq8]
  omega
theorem q8H {cs:List Int}:∀ {S L:List T3},(Xr cs S L).length<=L.length+S.length*cs.length
 | [],L=>by simp[Xr]
 | t::S,L=>by
  simp only[Xr]
  have:=q8H (cs:=cs) (S:=S) (L:=Xq t cs L)
  have:=q8G (t:=t) (cs:=cs) (L:=L)
  rw[xq8,Nat.add_mul,Nat.one_mul]
  omega
set_option maxHeartbeats 1000000 in
theorem qM0 {Q:AX->St->Prop} (k:Int) (ins:Sl Int) (S:List T3) (sc:Option Nat) (sn:Option Bool) (i a:Nat) (ha:a<S.length) (hS:S.length<=100000000) (t:T3) (ht:S.getD a ⟨0,0,0⟩=t) (B:Nat) (hB:B+1<=1000) (hSm:Sm B t) (cs:List Int) (hcs:cs.length<=3) (h012:∀ y∈cs,y=0\/y=1\/y=2) (cc:Option Nat) (cn:Option Bool) (R:List T3)
  (h0:Q (.exit 4) ⟨cdE k ins S sc sn i++[(7,.ls 78 0 R.length none),(8,.t (.sl (Af cs) cc cn)),(9,.t (tI a)),(10,.t (tI cs.length)),(43,.t (tB false))],[(78,.sl 257 3 (Bc tT3 R))]⟩) :
  ∀ (f b:Nat) (L:List T3),f+b=cs.length->L.length+f<=200000000->(∀ x∈L,Sm (B+1) x)->Xq t (cs.drop b) L=R ->
  run Tryz.prog Γ O8 Q ⟨cdE k ins S sc sn i++[(7,.ls 78 0 L.length none),(8,.t (.sl (Af cs) cc cn)),(9,.t (tI a)),(10,.t (tI b))],[(78,.sl 257 3 (Bc tT3 L))]⟩
 | 0,b,L,h,hl,hs,hR=>by
  refine Wg fun K hK=>?_
  have h2:b=cs.length:=by omega
  subst h2
  rw[xq2 (xzo _)]at hR
  have hR:L=R:=hR
  subst hR
  simp[cdE,tV,A6]at h0
  simp[cdE,tV,A6]
  simpa using h0
 | f+1,b,L,h,hl,hs,hR=>by
  refine Wg fun K hK=>?_
  have h2:b<cs.length:=by omega
  rw[xqq h2]at hR
  simp only[Xq]at hR
  have hy:=h012 _ (xqj h2)
  have hxs:=qD4 hSm hy
  have hpl:=qEU (L:=L) (t:=q75 t cs[b])
  have ih:=qM0 k ins S sc sn i a ha hS t ht B hB hSm cs hcs h012 cc cn R h0 f (b+1) (q76 L (q75 t cs[b])) (by omega) (by omega) (qLF hs hxs) hR
  have e1:=gE (f:=tI) 0 h2
  have e1':=gE' (f:=tI) 0 h2
  rw[Be h2]at e1 e1'
  generalize cs[b]=y at *
  have hLb:L.length<=200000000:=by omega
  have hLz:L.length+0=L.length:=rfl
  have g:=fun Q h0=>qLz (Γ:=Γ) (Q:=Q) k ins S sc sn i a b cs cc cn L hLb (B+1) hB hs (q75 t y) hxs h0 L.length 0 hLz
  have e2:(Bc tT3 S)[a]?.getD []=tT3 t:=by rw[<- ht];simp[Bc,ha,xqe]
  have e2':∀ h,(Bc tT3 S)[a]'h=tT3 t:=fun h=>by rw[<- ht];simp[Bc,ha,xqe]
  have w1:IntKind.i64.wrap ((b:Int)+1)=(b:Int)+1:=by rw[A7]<;>omega
  have vt:(Bc tT3 L).take L.length=Bc tT3 L:=qBF
  have vs:∀ x,Bc tT3 L++[tT3 x]=Bc tT3 (L++[x]):=fun x=>q0z
  obtain⟨⟨a0,a1⟩,⟨b0,b1⟩,⟨d0,d1⟩⟩:=hSm
  have wa:IntKind.i64.wrap (t.a+1)=t.a+1:=by rw[A7]<;>omega
  have wb:IntKind.i64.wrap (t.b+1)=t.b+1:=by rw[A7]<;>omega
  have wd:IntKind.i64.wrap (t.d+1)=t.d+1:=by rw[A7]<;>omega
  rcases hy with rfl|rfl|rfl
  ·have hx:q75 t 0=⟨t.a+1,t.b,t.d⟩:=rfl
   rw[hx]at ih g
   have vx:=vs ⟨t.a+1,t.b,t.d⟩
   simp only[tT3]at vx e2 e2'
   simp[cdE,tV]at g ih
   simp[cdE,tV,A6,A9,Ab,M4,h2,ha,e1,e1',e2,e2',wa,wb,wd]
   refine g _ ?_
   by_cases hm:(⟨t.a+1,t.b,t.d⟩:T3)∈L
   ·simp[q76,hm]at ih
    simp[hm,w1]
    rw[hK]
    simpa using ih
   ·simp[q76,hm]at ih
    simp[hm,Ab,M4,vt,vx,w1]
    refine⟨by omega,?_⟩
    rw[hK]
    simpa using ih
  ·have hx:q75 t 1=⟨t.a,t.b+1,t.d⟩:=rfl
   rw[hx]at ih g
   have vx:=vs ⟨t.a,t.b+1,t.d⟩
   simp only[tT3]at vx e2 e2'
   simp[cdE,tV]at g ih
   simp[cdE,tV,A6,A9,Ab,M4,h2,ha,e1,e1',e2,e2',wa,wb,wd]
   refine g _ ?_
   by_cases hm:(⟨t.a,t.b+1,t.d⟩:T3)∈L
   ·simp[q76,hm]at ih
    simp[hm,w1]
    rw[hK]
    simpa using ih
   ·simp[q76,hm]at ih
    simp[hm,Ab,M4,vt,vx,w1]
    refine⟨by omega,?_⟩
    rw[hK]
    simpa using ih
  ·have hx:q75 t 2=⟨t.a,t.b,t.d+1⟩:=rfl
   rw[hx]at ih g
   have vx:=vs ⟨t.a,t.b,t.d+1⟩
   simp only[tT3]at vx e2 e2'
   simp[cdE,tV]at g ih
   simp[cdE,tV,A6,A9,Ab,M4,h2,ha,e1,e1',e2,e2',wa,wb,wd]
   refine g _ ?_
   by_cases hm:(⟨t.a,t.b,t.d+1⟩:T3)∈L
   ·simp[q76,hm]at ih
    simp[hm,w1]
    rw[hK]
    simpa using ih
   ·simp[q76,hm]at ih
    simp[hm,Ab,M4,vt,vx,w1]
    refine⟨by omega,?_⟩
    rw[hK]
    simpa using ih
theorem qM1 {Q:AX->St->Prop} (k:Int) (ins:Sl Int) (S:List T3) (sc:Option Nat) (sn:Option Bool) (i:Nat) (hS:S.length<=50000000) (B:Nat) (hB:B+1<=1000) (hSm:∀ t∈S,Sm B t) (cs:List Int) (hcs:cs.length<=3) (h012:∀ y∈cs,y=0\/y=1\/y=2) (cc:Option Nat) (cn:Option Bool) (R:List T3)
  (h0:Q (.exit 2) ⟨cdE k ins S sc sn i++[(7,.ls 78 0 R.length none),(8,.t (.sl (Af cs) cc cn)),(9,.t (tI S.length)),(37,.t (tB false))],[(78,.sl 257 3 (Bc tT3 R))]⟩) :
  ∀ (f a:Nat) (L:List T3),f+a=S.length->L.length+3*f<=200000000->(∀ x∈L,Sm (B+1) x)->Xr cs (S.drop a) L=R ->
  run Tryz.prog Γ O9 Q ⟨cdE k ins S sc sn i++[(7,.ls 78 0 L.length none),(8,.t (.sl (Af cs) cc cn)),(9,.t (tI a))],[(78,.sl 257 3 (Bc tT3 L))]⟩
 | 0,a,L,h,hl,hs,hR=>by
  refine Wh fun K hK=>?_
  have h2:a=S.length:=by omega
  subst h2
  rw[xq2 (xzo _)]at hR
  have hR:L=R:=hR
  subst hR
  simp[cdE,tV,Ab]at h0
  simp[cdE,tV,Ab]
  simpa using h0
 | f+1,a,L,h,hl,hs,hR=>by
  refine Wh fun K hK=>?_
  have h2:a<S.length:=by omega
  rw[xqq h2]at hR
  simp only[Xr]at hR
  have hSa:=hSm _ (xqj h2)
  have hsl:=q8G (t:=S[a]) (cs:=cs) (L:=L)
  have ih:=qM1 k ins S sc sn i hS B hB hSm cs hcs h012 cc cn R h0 f (a+1) (Xq S[a] cs L) (by omega) (by omega) (qJW hSa h012 hs) hR
  have hSb:S.length<=100000000:=by omega
  have hSg:S.getD a ⟨0,0,0⟩=S[a]:=by simp[xqe,h2]
  have hcz:cs.length+0=cs.length:=rfl
  have hlb:L.length+cs.length<=200000000:=by omega
  have hsd:Xq S[a] (cs.drop 0) L=Xq S[a] cs L:=by rw[xzt]
  generalize S[a]=t at *
  have g:=fun Q h0=>qM0 (Γ:=Γ) (Q:=Q) k ins S sc sn i a h2 hSb t hSg B hB hSa cs hcs h012 cc cn (Xq t cs L) h0 cs.length 0 L hcz hlb hs hsd
  have w1:IntKind.i64.wrap ((a:Int)+1)=(a:Int)+1:=by rw[A7]<;>omega
  generalize Xq t cs L=L2 at *
  simp[cdE,tV]at g ih
  simp[cdE,tV,Ab,h2]
  refine g _ ?_
  simp[w1]
  rw[hK]
  simpa using ih
theorem qEV {B:Nat} {cs:List Int} {S L:List T3} (hS:∀ t∈S,Sm B t) (hc:∀ y∈cs,y=0\/y=1\/y=2) (hL:∀ x∈L,Sm (B+1) x):∀ x∈Xr cs S L,Sm (B+1) x:=fun x hx=>by
 rcases q4c.1 hx with h|⟨t,ht,v,hv,rfl⟩
 ·exact hL x h
 ·exact qD4 (hS t ht) (hc v hv)
theorem qM2 {Q:AX->St->Prop} (k:Int) (ins:Sl Int) (hi:ins.l.length<=16) (R:List T3)
  (h0:∀ sc sn,Q (.exit 0) ⟨cdE k ins R sc sn ins.l.length++[(24,.t (tB false))],[]⟩) :
  ∀ (f i:Nat) (S:List T3) (sc:Option Nat) (sn:Option Bool),f+i=ins.l.length->S.length<=3 ^ i->(∀ t∈S,Sm i t)->Zp (decide (k=13)) (ins.l.drop i) S=R ->
  run Tryz.prog Γ Oa Q ⟨cdE k ins S sc sn i,[]⟩
 | 0,i,S,sc,sn,h,hl,hs,hR=>by
  refine Wi fun K hK=>?_
  have h2:i=ins.l.length:=by omega
  subst h2
  rw[xq2 (xzo _)]at hR
  have hR:S=R:=hR
  subst hR
  have h0:=h0 sc sn
  simp[cdE,tV,A6]at h0
  simp[cdE,tV,A6]
  simpa using h0
 | f+1,i,S,sc,sn,h,hl,hs,hR=>by
  refine Wi fun K hK=>?_
  have h2:i<ins.l.length:=by omega
  rw[xqq h2]at hR
  simp only[Zp]at hR
  have h3:3 ^ i<=3 ^ 15:=Nat.pow_le_pow_right (by omega) (by omega)
  have h15:3 ^ 15=14348907:=by decide
  have hcl:=q7H (v:=ins.l[i]) (b:=decide (k=13))
  have h012:∀ y∈J6 ins.l[i] (decide (k=13)),y=0\/y=1\/y=2:=fun y hy=>qCy hy
  have hc:=q7G (Γ:=Γ) ins.l[i] (decide (k=13))
  have e1:=gE (f:=tK) 0 h2
  have e1':=gE' (f:=tK) 0 h2
  rw[Be h2]at e1 e1'
  generalize J6 ins.l[i] (decide (k=13))=cs at *
  generalize ins.l[i]=v at *
  have hsl:=q8H (cs:=cs) (S:=S) (L:=[])
  have hmul:S.length*cs.length<=3 ^ i*3:=Nat.mul_le_mul hl hcl
  have hss:=qEV (L:=[]) hs h012 (fun x hx=>by cases hx)
  have ih:=fun sc sn=>qM2 k ins hi R h0 f (i+1) (Xr cs S []) sc sn (by omega) (by rw[Nat.pow_succ];simp only[xq9]at hsl;omega) hss hR
  have g:=fun Q cc cn h0=>qM1 (Γ:=Γ) (Q:=Q) k ins S sc sn i (by omega) i (by omega) hs cs hcl h012 cc cn (Xr cs S []) h0 S.length 0 [] (by omega) (by simp only[xq9];omega) (fun x hx=>by cases hx) (by rw[xzt])
  have hz:Bc tT3 ([]:List T3)=[]:=rfl
  have w1:IntKind.i64.wrap ((i:Int)+1)=(i:Int)+1:=by rw[A7]<;>omega
  generalize Xr cs S []=L2 at *
  simp only[xq9,hz]at g
  simp[cdE,tV]at g ih
  by_cases h13:k=13
  ·subst h13
   simp at hc
   simp[cdE,tV,A6,A9,h2,e1,e1']
   refine Aq hc rfl ?_
   simp
   refine g _ _ _ ?_
   simp[St.freeze,B9.closed,Cb,frz1,frz0,Ei,del,Ai,w1]
   rw[hK]
   simpa using ih _ _
  ·simp[h13]at hc
   simp[cdE,tV,A6,A9,h2,e1,e1',h13]
   refine Aq hc rfl ?_
   simp
   refine g _ _ _ ?_
   simp[St.freeze,B9.closed,Cb,frz1,frz0,Ei,del,Ai,w1]
   rw[hK]
   simpa using ih _ _
def ceE (k:Int) (S:List T3) (sc:Option Nat) (sn:Option Bool) (out:List Int) (s:Nat):List (Nat×AV):=[(0,.t (tK k)),(5,.t (.sl (Bc tT3 S) sc sn)),(14,.ls 109 0 out.length none),(15,.t (tI s))]
theorem qGr {Q:AX->St->Prop} (k:Int) (S:List T3) (sc:Option Nat) (sn:Option Bool) (out:List Int) (s:Nat) (hs:s<S.length) (hS:S.length<=100000000) (t:T3) (ht:S.getD s ⟨0,0,0⟩=t) (v c:Int) (hv:(v=0/\c=t.a)\/(v=1/\c=t.b)\/(v=2/\c=t.d)) (hc:0<=c/\c<=1000) (l0:List Int) (hl0:l0.length<=10000)
  (h0:Q (.exit 12) ⟨ceE k S sc sn out s++[(16,.ls 103 0 (l0++List.replicate c.toNat v).length none),(17,.t (tI v)),(18,.t (tI c.toNat)),(97,.t (tB false))],[(103,.sl 3 1 (Af (l0++List.replicate c.toNat v))),(109,.sl 3 1 (Af out))]⟩) :
  ∀ (f n:Nat),f+n=c.toNat->run Tryz.prog Γ Ob Q ⟨ceE k S sc sn out s++[(16,.ls 103 0 (l0++List.replicate n v).length none),(17,.t (tI v)),(18,.t (tI n))],[(103,.sl 3 1 (Af (l0++List.replicate n v))),(109,.sl 3 1 (Af out))]⟩
 | 0,n,h=>by
  refine Wj fun K hK=>?_
  have h2:n=c.toNat:=by omega
  subst h2
  have e2:(Bc tT3 S)[s]?.getD []=tT3 t:=by rw[<- ht];simp[Bc,hs,xqe]
  have e2':∀ h,(Bc tT3 S)[s]'h=tT3 t:=fun h=>by rw[<- ht];simp[Bc,hs,xqe]
  simp only[tT3]at e2 e2'
  have hcc:((c.toNat:Nat):Int)=c:=by omega
  have hcm:max c 0=c:=by omega
  simp[ceE]at h0
  rcases hv with⟨rfl,rfl⟩|⟨rfl,rfl⟩|⟨rfl,rfl⟩
  ·simp[ceE,Ab,M4,hs,e2,e2',hcm]
   simpa[hcm]using h0
  ·simp[ceE,Ab,M4,hs,e2,e2',hcm]
   simpa[hcm]using h0
  ·simp[ceE,Ab,M4,hs,e2,e2',hcm]
   simpa[hcm]using h0
 | f+1,n,h=>by
  refine Wj fun K hK=>?_
  have h2:(n:Int)<c:=by omega
  have ih:=qGr k S sc sn out s hs hS t ht v c hv hc l0 hl0 h0 f (n+1) (by omega)
  rw[List.replicate_succ',<- List.append_assoc]at ih
  have e2:(Bc tT3 S)[s]?.getD []=tT3 t:=by rw[<- ht];simp[Bc,hs,xqe]
  have e2':∀ h,(Bc tT3 S)[s]'h=tT3 t:=fun h=>by rw[<- ht];simp[Bc,hs,xqe]
  simp only[tT3]at e2 e2'
  have hll:(l0++List.replicate n v).length<=20000:=by simp;omega
  generalize l0++List.replicate n v=l at *
  have w1:IntKind.i64.wrap ((n:Int)+1)=(n:Int)+1:=by rw[A7]<;>omega
  have vt:(Af l).take l.length=Af l:=Dq
  have vs:Af l++[[tI v]]=Af (l++[v]):=E0
  simp[ceE]at ih
  rcases hv with⟨rfl,rfl⟩|⟨rfl,rfl⟩|⟨rfl,rfl⟩
  ·simp[ceE,Ab,M4,hs,e2,e2',h2,A6,A9,vt,vs,w1]
   refine⟨by omega,?_⟩
   rw[hK]
   simpa using ih
  ·simp[ceE,Ab,M4,hs,e2,e2',h2,A6,A9,vt,vs,w1]
   refine⟨by omega,?_⟩
   rw[hK]
   simpa using ih
  ·simp[ceE,Ab,M4,hs,e2,e2',h2,A6,A9,vt,vs,w1]
   refine⟨by omega,?_⟩
   rw[hK]
   simpa using ih
theorem qNa {Q:AX->St->Prop} (k:Int) (S:List T3) (sc:Option Nat) (sn:Option Bool) (out:List Int) (s:Nat) (hs:s<S.length) (hS:S.length<=100000000) (t:T3) (ht:S.getD s ⟨0,0,0⟩=t) (hSm:Sm 1000 t)
  (h0:Q (.exit 10) ⟨ceE k S sc sn out s++[(16,.ls 103 0 (Ya t).length none),(17,.t (tI 3)),(87,.t (tB false))],[(103,.sl 3 1 (Af (Ya t))),(109,.sl 3 1 (Af out))]⟩) :
  run Tryz.prog Γ Ly Q ⟨ceE k S sc sn out s++[(16,.ls 103 0 0 none),(17,.t (tI 0))],[(103,.sl 3 1 []),(109,.sl 3 1 (Af out))]⟩:=by
 obtain⟨ha,hb,hd⟩:=hSm
 have g0:=fun Q h0=>qGr (Γ:=Γ) (Q:=Q) k S sc sn out s hs hS t ht 0 t.a (.inl ⟨rfl,rfl⟩) (by omega) [] (by simp) h0 t.a.toNat 0 (by omega)
 have g1:=fun Q h0=>qGr (Γ:=Γ) (Q:=Q) k S sc sn out s hs hS t ht 1 t.b (.inr (.inl ⟨rfl,rfl⟩)) (by omega) (List.replicate t.a.toNat 0) (by simp;omega) h0 t.b.toNat 0 (by omega)
 have g2:=fun Q h0=>qGr (Γ:=Γ) (Q:=Q) k S sc sn out s hs hS t ht 2 t.d (.inr (.inr ⟨rfl,rfl⟩)) (by omega) (List.replicate t.a.toNat 0++List.replicate t.b.toNat 1) (by simp;omega) h0 t.d.toNat 0 (by omega)
 simp only[List.append_assoc]at g2
 rw[show List.replicate t.a.toNat (0:Int)++(List.replicate t.b.toNat 1++List.replicate t.d.toNat 2)=Ya t from rfl]at g2
 simp only[List.replicate_zero,List.nil_append,List.append_nil,xq9,Gy]at g0 g1 g2
 generalize Ya t=A3 at *
 generalize List.replicate t.a.toNat (0:Int)++List.replicate t.b.toNat 1=A2 at *
 generalize List.replicate t.a.toNat (0:Int)=A1 at *
 simp[ceE]at g0 g1 g2 h0
 have wl1:IntKind.i64.wrap 1=1:=by decide
 have wl2:IntKind.i64.wrap 2=2:=by decide
 have wl3:IntKind.i64.wrap 3=3:=by decide
 simp only[ceE,List.cons_append,List.nil_append]
 refine Ha fun K hK=>?_
 simp[wl1,wl2,wl3]
 refine g0 _ ?_
 simp[wl1,wl2,wl3]
 rw[hK]
 refine Ha fun K hK=>?_
 simp[wl1,wl2,wl3]
 refine g1 _ ?_
 simp[wl1,wl2,wl3]
 rw[hK]
 refine Ha fun K hK=>?_
 simp[wl1,wl2,wl3]
 refine g2 _ ?_
 simp[wl1,wl2,wl3]
 rw[hK]
 refine Ha fun K hK=>?_
 simp[wl1,wl2,wl3]
 simpa using h0
theorem qJX {B:Nat} {t:T3} (h:Sm B t):(Ya t).length<=3*B:=by
 obtain⟨ha,hb,hd⟩:=h
 simp[Ya]
 omega
theorem qJY {Q:AX->St->Prop} (k:Int) (hk:5<=k/\k<=10\/k=13) (S:List T3) (sc:Option Nat) (sn:Option Bool) (hS:S.length<=100000000) (hSm:∀ t∈S,Sm 1000 t)
  (h0:Q (.exit 8) ⟨ceE k S sc sn (S.map fun t=>Kw k (Ya t)) S.length++[(83,.t (tB false))],[(109,.sl 3 1 (Af (S.map fun t=>Kw k (Ya t))))]⟩) :
  ∀ (f s:Nat),f+s=S.length->run Tryz.prog Γ M1 Q ⟨ceE k S sc sn ((S.take s).map fun t=>Kw k (Ya t)) s,[(109,.sl 3 1 (Af ((S.take s).map fun t=>Kw k (Ya t))))]⟩
 | 0,s,h=>by
  refine Ua fun K hK=>?_
  have h2:s=S.length:=by omega
  subst h2
  rw[xzn]
  simp[ceE,Ab]at h0
  simp[ceE,Ab]
  simpa using h0
 | f+1,s,h=>by
  refine Ua fun K hK=>?_
  have h2:s<S.length:=by omega
  have ih:=qJY k hk S sc sn hS hSm h0 f (s+1) (by omega)
  rw[<- List.take_append_getElem h2,List.map_append,xqm,xq3]at ih
  have hol:((S.take s).map fun t=>Kw k (Ya t)).length=s:=by simp;omega
  generalize ((S.take s).map fun t=>Kw k (Ya t))=out at *
  have hSs:=hSm _ (xqj h2)
  have hll:=qJX hSs
  have hSg:S.getD s ⟨0,0,0⟩=S[s]:=by simp[xqe,h2]
  generalize S[s]=t at *
  have g:=fun Q h0=>qNa (Γ:=Γ) (Q:=Q) k S sc sn out s h2 hS t hSg hSs h0
  have hf:=q5Q (Γ:=Γ) k (by omega) ⟨Ya t,none,none⟩ (by show(Ya t).length<=_;omega) (fun h=>by omega) (fun h=>by omega) (fun h=>by omega)
  simp only at hf
  generalize Kw k (Ya t)=r at *
  generalize Ya t=l at *
  have w1:IntKind.i64.wrap ((s:Int)+1)=(s:Int)+1:=by rw[A7]<;>omega
  have lt:(Af l).take l.length=Af l:=Dq
  have vt:(Af out).take s=Af out:=by rw[<- hol];exact Dq
  have vs:Af out++[[tI r]]=Af (out++[r]):=E0
  simp[As]at hf
  simp[ceE]at g ih
  simp[ceE,Ab,h2,hol]
  rw[hol]at g
  refine g _ ?_
  simp
  refine A4 hf (by simp[Ai,lt]) ?_
  simp[A6,A9,vt,vs,hol,w1]
  refine⟨by omega,?_⟩
  rw[hK]
  simpa[hol]using ih
theorem qEW {b:Bool}:∀ {l:List Int} {S:List T3} {B:Nat},(∀ t∈S,Sm B t)->∀ t∈Zp b l S,Sm (B+l.length) t
 | [],S,B,h=>by simpa only[Zp,xq9,xzp]using h
 | v::l,S,B,h=>by
  simp only[Zp]
  have:=qEW (b:=b) (l:=l) (S:=Xr (J6 v b) S []) (B:=B+1) (qEV h (fun y hy=>qCy hy) (fun x hx=>by cases hx))
  intro t ht
  have:=this t ht
  rwa [xq8,Nat.add_comm l.length,<- Nat.add_assoc]
theorem q8I {b:Bool}:∀ {l:List Int} {S:List T3},(Zp b l S).length<=S.length*3 ^ l.length
 | [],S=>by simp[Zp]
 | v::l,S=>by
  simp only[Zp]
  have h1:=q8I (b:=b) (l:=l) (S:=Xr (J6 v b) S [])
  have h2:=q8H (cs:=J6 v b) (S:=S) (L:=[])
  have h3:=q7H (v:=v) (b:=b)
  have h4:S.length*(J6 v b).length<=S.length*3:=Nat.mul_le_mul_left _ h3
  simp only[xq9,xjc]at h2
  refine Nat.le_trans h1 ?_
  rw[xq8,Nat.pow_succ,Nat.mul_comm (3 ^ l.length) 3,<- Nat.mul_assoc]
  exact Nat.mul_le_mul_right _ (Nat.le_trans h2 h4)
theorem qD5 (k:Int) (hk:5<=k/\k<=10\/k=13) (ins:Sl Int) (hi:ins.l.length<=16):Az Tryz.prog Γ 203 [tK k,tV ins] (.sl (Af (Ni k ins.l)) none none):=by
 refine Bz q7E rfl ?_
 have hz:Sm 0 ⟨0,0,0⟩:=⟨⟨Int.le_refl _,Int.le_refl _⟩,⟨Int.le_refl _,Int.le_refl _⟩,⟨Int.le_refl _,Int.le_refl _⟩⟩
 have hz':∀ t∈[(⟨0,0,0⟩:T3)],Sm 0 t:=fun t ht=>by simp at ht;subst ht;exact hz
 have hsm:=qEW (b:=decide (k=13)) (l:=ins.l) hz'
 have hsl:=q8I (b:=decide (k=13)) (l:=ins.l) (S:=[⟨0,0,0⟩])
 have h3:3 ^ ins.l.length<=3 ^ 16:=Nat.pow_le_pow_right (by omega) hi
 have h16:3 ^ 16=43046721:=by decide
 simp only[xq8,xq9,xjc,Nat.one_mul]at hsl
 have g7:=fun Q sc sn h0=>qM2 (Γ:=Γ) (Q:=Q) k ins hi (Zp (decide (k=13)) ins.l [⟨0,0,0⟩]) h0 ins.l.length 0 [⟨0,0,0⟩] sc sn (by omega) (by simp) hz' (by rw[xzt])
 unfold Ni
 generalize Zp (decide (k=13)) ins.l [⟨0,0,0⟩]=S at *
 have g13:=fun Q sc sn h0=>qJY (Γ:=Γ) (Q:=Q) k hk S sc sn (by omega) (fun t ht=>(hsm t ht).mono (by omega)) h0 S.length 0 (by omega)
 simp only[List.take_zero,xq3,Gy]at g13
 have hRl:(S.map fun t=>Kw k (Ya t)).length=S.length:=by simp
 have ht:(Af (S.map fun t=>Kw k (Ya t))).take S.length=Af (S.map fun t=>Kw k (Ya t)):=xqw (by rw[A6,hRl];exact xzo _)
 generalize (S.map fun t=>Kw k (Ya t))=R at *
 simp[cdE,ceE,tV,Bc,tT3]at g7
 simp[ceE]at g13
 simp[q1b,tV]
 refine g7 _ _ _ (fun sc sn=>?_)
 simp
 refine g13 _ _ _ ?_
 simp[q1c,Ai,hRl,ht]
theorem qM3 {Q:AX->St->Prop} (L:List Int) (lc:Option Nat) (ln:Option Bool) (hL:L.length<=100000000) (hne:0<L.length)
  (h0:(∀ x∈L,x=L.getD 0 0)->Q (.exit 0) ⟨[(5,.t (.sl (Af L) lc ln)),(6,.t (tI L.length)),(27,.t (tB false))],[]⟩) (h1:(¬ ∀ x∈L,x=L.getD 0 0)->Q .ret ⟨[(4,.t (tK 2))],[]⟩) :
  ∀ (f i:Nat),f+i=L.length->(∀ j,j<i->L.getD j 0=L.getD 0 0)->run Tryz.prog Γ Nn Q ⟨[(5,.t (.sl (Af L) lc ln)),(6,.t (tI i))],[]⟩
 | 0,i,h,hj=>by
  refine Zr fun K hK=>?_
  have h2:i=L.length:=by omega
  subst h2
  have:=h0 fun x hx=>by
   obtain⟨j,hjl,rfl⟩:=xqt hx
   rw[<- Be hjl]
   exact hj j hjl
  simp[A6]
  simpa using this
 | f+1,i,h,hj=>by
  refine Zr fun K hK=>?_
  have h2:i<L.length:=by omega
  have e1:=gE (f:=tI) 0 h2
  have e1':=gE' (f:=tI) 0 h2
  have e0:=gE (f:=tI) 0 hne
  have e0':=gE' (f:=tI) 0 hne
  have w1:IntKind.i64.wrap ((i:Int)+1)=(i:Int)+1:=by rw[A7]<;>omega
  by_cases hx:L.getD i 0=L.getD 0 0
  ·have ih:=qM3 L lc ln hL hne h0 h1 f (i+1) (by omega) (fun j hj'=>by
    rcases Nat.lt_succ_iff_lt_or_eq.1 hj' with h|rfl
    ·exact hj j h
    ·exact hx)
   rw[hx]at e1 e1'
   generalize L.getD 0 0=x0 at *
   simp at ih
   simp[A6,A9,h2,hne,e1,e1',e0,e0',w1]
   rw[hK]
   simpa using ih
  ·have h9:=h1 fun hall=>hx (hall _ (by rw[Be h2];exact xqj h2))
   clear h1 h0
   generalize L.getD i 0=x at *
   generalize L.getD 0 0=x0 at *
   simp[A6,A9,h2,hne,e1,e1',e0,e0',hx,w1]
   simpa using h9
theorem qAo {b:Bool}:0<=Kz b/\Kz b<=3:=by cases b<;>simp[Kz]
theorem qNb {k:Int} {z o:Nat}:0<=q0j k z o/\q0j k z o<=3:=by
 unfold q0j
 split
 ·exact qAo
 split
 ·exact qAo
 split
 ·exact qAo
 split
 ·omega
 split
 ·omega
 ·exact qAo
theorem qNc {k:Int} (hk:5<=k/\k<=10\/k=13) {l:List Int}:∀ x∈Ni k l,0<=x/\x<=3:=fun x hx=>by
 obtain⟨ys,_,rfl⟩:=(Fz hk).1 hx
 exact qNb
theorem qGs {l:List Int} {i:Nat} (h:∀ y∈l,0<=y/\y<=3):0<=l.getD i 0/\l.getD i 0<=3:=by
 rw[xqe]
 cases e:l[i]? with
 | none=>simp
 | some x=>exact h x (xqp e)
theorem qNd {k:Int} {l:List Int} (h:∀ y∈l,0<=y/\y<=3):0<=Kw k l/\Kw k l<=3:=by
 unfold Kw
 repeat' split
 all_goals first|exact qAo|exact qGs h|omega
theorem qJZ {k:Int} {ins:List Int}:∀ {n:Nat} {l:List Int},(∀ y∈l,0<=y/\y<=3)->∀ x∈X2 k ins n l,0<=x/\x<=3
 | 0,l,h,x,hx=>by
  simp[X2]at hx
  subst hx
  exact qNd h
 | n+1,l,h,x,hx=>by
  simp only[X2,List.mem_flatMap]at hx
  obtain⟨y,hy,hx⟩:=hx
  refine qJZ (fun z hz=>?_) x hx
  rcases xzg.1 hz with hz|hz
  ·exact h z hz
  ·simp at hz
   subst hz
   rcases qCy hy with rfl|rfl|rfl<;>omega
theorem qLG {v:Int} {b:Bool}:J6 v b≠[]:=by unfold J6;split;simp;split;simp;split;simp;split<;>simp
theorem qGt {k:Int} {ins:List Int}:∀ {n:Nat} {l:List Int},X2 k ins n l≠[]
 | 0,l=>by simp[X2]
 | n+1,l=>by
  simp only[X2]
  intro h
  rw[List.flatMap_eq_nil_iff]at h
  obtain⟨y,hy⟩:=List.exists_mem_of_ne_nil _ (qLG (v:=ins.getD l.length 0) (b:=decide (k=13)))
  exact qGt (h y hy)
theorem qEX (k:Int) (hk:1<=k/\k<=13) (ins:Sl Int) (hi:L6 k ins.l.length=true) (hi16:ins.l.length<=16):A8 Tryz.prog Γ 181 [tK k,tV ins] (tK (q69 (if 5<=k/\k<=10\/k=13 then Ni k ins.l else X2 k ins.l ins.l.length []))):=by
 refine Ae q9D rfl ?_
 have key:∀ (L:List Int),L.length<=100000000->0<L.length->(∀ x∈L,0<=x/\x<=3)->∀ (Q:AX->St->Prop),(∀ v,v=q69 L->Q .ret ⟨[(4,.t (tK v))],[]⟩)->∀ lc ln,run Tryz.prog Γ Nn (Me 0 (Aw (run Tryz.prog Γ (.seq (.reg [od 38 (.bsl true 65 1 [(ku 0),(ku 1),(ku 3),(ku 2)]),om 39 5,od 40 (.iadr 1 (tm 39) (ki 0)),od 41 (ld 1 40),od 42 (ia 1 38 41),od 43 (ld 1 42),om 4 43] [kp [4] []]) .ret) Q) Q)) ⟨[(5,.t (.sl (Af L) lc ln)),(6,.t (tI 0))],[]⟩:=by
  intro L hL hne h3 Q hQ lc ln
  have e0:=gE (f:=tI) 0 hne
  have e0':=gE' (f:=tI) 0 hne
  have hx:=qGs (i:=0) h3
  have g:=fun Q h0 h1=>qM3 (Γ:=Γ) (Q:=Q) L lc ln hL hne h0 h1 L.length 0 (by omega) (fun j hj=>absurd hj (Nat.not_lt_zero _))
  refine g _ (fun hall=>?_) (fun hall=>?_)
  ·have hc:q69 L=[0,1,3,2].getD (L.getD 0 0).toNat 0:=Tf (List.ne_nil_of_length_pos hne) hall
   rw[hc]at hQ
   clear hc hall
   generalize L.getD 0 0=x at *
   have hx4:x=0\/x=1\/x=2\/x=3:=by omega
   rcases hx4 with rfl|rfl|rfl|rfl
   ·simp[A6,A9,hne,e0,e0',Em]
    exact⟨A9,hQ _ rfl⟩
   ·simp[A6,A9,hne,e0,e0',Em]
    exact⟨A9,hQ _ rfl⟩
   ·simp[A6,A9,hne,e0,e0',Em]
    exact⟨A9,hQ _ rfl⟩
   ·simp[A6,A9,hne,e0,e0',Em]
    exact⟨A9,hQ _ rfl⟩
  ·have:q69 L=2:=by
    unfold q69
    rw[if_neg]
    intro h
    rw[xqz]at h
    exact hall fun x hx=>by simpa using h x hx
   simp
   exact hQ 2 this.symm
 by_cases hc:5<=k/\k<=10\/k=13
 ·rw[if_pos hc]
  have h1:=qD5 (Γ:=Γ) k hc ins hi16
  have hl:(Ni k ins.l).length<=100000000:=by
   unfold Ni
   rw[xq4]
   have hsl:=q8I (b:=decide (k=13)) (l:=ins.l) (S:=[⟨0,0,0⟩])
   have h3:3 ^ ins.l.length<=3 ^ 16:=Nat.pow_le_pow_right (by omega) hi16
   have h16:3 ^ 16=43046721:=by decide
   simp only[xq8,xq9,xjc,Nat.one_mul]at hsl
   omega
  have key:=key _ hl (xza.2 (Yb hc)) (qNc hc)
  generalize Ni k ins.l=L at *
  simp[tV]at h1
  rcases hc with hc|rfl
  ·have a1:=hc.1
   have a2:=hc.2
   simp[Np,tV,a1,a2]
   refine Aq h1 rfl ?_
   simp
   refine key _ (fun v hv=>?_) _ _
   simp[Nq,hv]
  ·simp[Np,tV]
   refine Aq h1 rfl ?_
   simp
   refine key _ (fun v hv=>?_) _ _
   simp[Nq,hv]
 ·rw[if_neg hc]
  have hk':1<=k/\k<=4\/k=11\/k=12:=by omega
  have hi3:ins.l.length<=3:=by
   have hkc:k=1\/k=2\/k=3\/k=4\/k=11\/k=12:=by omega
   have key:∀ n,L6 k n=true->n<=3:=by
    intro n hn
    rcases hkc with rfl|rfl|rfl|rfl|rfl|rfl<;>simp[L6]at hn<;>omega
   exact key _ hi
  have h1:=q7I (Γ:=Γ) k hk' ins hi hi3 ins.l.length ⟨[],some 0,some true⟩ (by simp)
  have hl:(X2 k ins.l ins.l.length []).length<=100000000:=by
   refine Nat.le_trans (qAn _ _) ?_
   have h3:3 ^ ins.l.length<=3 ^ 3:=Nat.pow_le_pow_right (by omega) hi3
   have:3 ^ 3=27:=by decide
   omega
  have key:=key _ hl (xza.2 qGt) (qJZ (fun y hy=>by cases hy))
  simp only at h1
  generalize X2 k ins.l ins.l.length []=L at *
  simp[tV,As,Gy]at h1
  have a1:¬ (5<=k/\k<=10):=fun h=>hc (.inl h)
  have a2:¬ k=13:=fun h=>hc (.inr h)
  by_cases a3:5<=k
  ·have a4:¬ k<=10:=fun h=>a1 ⟨a3,h⟩
   simp[Np,tV,a2,a3,a4]
   refine A4 h1 rfl ?_
   simp
   refine key _ (fun v hv=>?_) _ _
   simp[Nq,hv]
  ·simp[Np,tV,a2,a3]
   refine A4 h1 rfl ?_
   simp
   refine key _ (fun v hv=>?_) _ _
   simp[Nq,hv]
theorem qD6 (k:Int) (hk:0<=k/\k<=15) (ins:Sl Int) (hi:ins.l.length<=1000000):A8 Tryz.prog Γ 114 [tK k,tV ins] (tK (qLC k ins.l)):=by
 refine Ae qAj rfl ?_
 have ha:=qD3 (Γ:=Γ) k hk ins.l.length
 unfold qLC
 cases hb:L6 k ins.l.length with
 | false =>
  rw[hb]at ha
  simp[q0k,tV,A6]
  refine A4 ha rfl ?_
  simp[q0l]
 | true =>
  rw[hb]at ha
  have hkc:1<=k/\k<=13:=by
   have h:k=0\/k=14\/k=15\/(1<=k/\k<=13):=by omega
   rcases h with rfl|rfl|rfl|h
   ·simp[L6]at hb
   ·simp[L6]at hb
   ·simp[L6]at hb
   ·exact h
  have h16:ins.l.length<=16:=by
   have key:∀ n,L6 k n=true->n<=16:=by
    intro n hn
    unfold L6 at hn
    repeat' split at hn
    all_goals simp at hn;omega
   exact key _ hb
  have hap:=qEX (Γ:=Γ) k hkc ins hb h16
  generalize q69 (if 5<=k/\k<=10\/k=13 then Ni k ins.l else X2 k ins.l ins.l.length [])=r at *
  simp[tV]at hap
  simp[q0k,tV,A6]
  refine A4 ha rfl ?_
  simp
  refine A4 hap rfl ?_
  simp[q0l]
theorem q7J {c:Bi} {n:Int} (h0:0<=n) (h:n<c.nodes.l.length):∀ h':n.toNat<(Bc Dl c.nodes.l).length,(Bc Dl c.nodes.l)[n.toNat]'h'=Dl (nd c n):=fun h'=>by
 have:=q3u h0 h
 rw[xqg h']at this
 simpa using this
theorem qJa {Q:AX->St->Prop} (c:Bi) (hc:COk c) (k:Int) (hn:c.nodes.l.length<=1000000)
  (h0:Q (.exit 0) ⟨[(1,.t (tK k)),(2,.t (.ip (tC c) 0)),(5,.ls 25 0 (N8 [k] c.nodes.l 0).length none),(6,.t (tI c.nodes.l.length)),(11,.t (tB false))],[(25,.sl 3 1 (Af (N8 [k] c.nodes.l 0)))]⟩) :
  ∀ (f i:Nat),f+i=c.nodes.l.length->run Tryz.prog Γ q0P Q ⟨[(1,.t (tK k)),(2,.t (.ip (tC c) 0)),(5,.ls 25 0 (N8 [k] (c.nodes.l.take i) 0).length none),(6,.t (tI i))],[(25,.sl 3 1 (Af (N8 [k] (c.nodes.l.take i) 0)))]⟩
 | 0,i,h=>by
  refine q2j fun K hK=>?_
  have h2:i=c.nodes.l.length:=by omega
  subst h2
  rw[xzn]
  simp[tC,Aa,Ad,Ag,As]at h0
  simp[tC,Aa,Ad,Ag,As,Ab]
  simpa using h0
 | f+1,i,h=>by
  refine q2j fun K hK=>?_
  have h2:i<c.nodes.l.length:=by omega
  have ih:=qJa c hc k hn h0 f (i+1) (by omega)
  rw[qEE h2]at ih
  have hget:=q3u (c:=c) (n:=(i:Int)) (by omega) (by omega)
  have hget':=q7J (c:=c) (n:=(i:Int)) (by omega) (by omega)
  have hk:(nd c i).k=Aj c i:=by simp[nd,Aj]
  simp only[xzl]at hget hget'
  have hle:=q06 [k] (c.nodes.l.take i) 0
  rw[xzf]at hle
  generalize nd c i=x at *
  generalize N8 [k] (c.nodes.l.take i) 0=out at *
  have w1:IntKind.i64.wrap ((i:Int)+1)=(i:Int)+1:=by rw[A7]<;>omega
  have vt:(Af out).take out.length=Af out:=Dq
  have vs:Af out++[[tI i]]=Af (out++[(i:Int)]):=E0
  by_cases h1:x.k=k
  ·have hkk:[k].contains (Aj c i)=true:=by rw[<- hk,h1];simp
   rw[hkk,if_pos rfl]at ih
   simp[tC,Aa,Ad,Ag,As]at ih
   simp[tC,Aa,Ad,Ag,As,Ab,h2,Bq,hget,hget',Dl,h1,A6,A9,vt,vs,w1]
   refine⟨by omega,?_⟩
   rw[hK]
   simpa using ih
  ·have hkk:[k].contains (Aj c i)=false:=by rw[<- hk];simp;exact h1
   rw[hkk,if_neg (by simp),List.append_nil]at ih
   simp[tC,Aa,Ad,Ag,As]at ih
   simp[tC,Aa,Ad,Ag,As,Ab,h2,Bq,hget,hget',Dl,h1,w1]
   rw[hK]
   simpa using ih
theorem qAp (c:Bi) (hc:COk c) (k:Int) (hn:c.nodes.l.length<=1000000):Az Tryz.prog Γ 59 [.agg (tC c),tK k] (.sl (Af (N8 [k] c.nodes.l 0)) none none):=by
 refine Bz qD1 rfl ?_
 have g:=fun Q h0=>qJa (Γ:=Γ) (Q:=Q) c hc k hn h0 c.nodes.l.length 0 (by omega)
 have ht:(Af (N8 [k] c.nodes.l 0)).take (N8 [k] c.nodes.l 0).length=Af (N8 [k] c.nodes.l 0):=Dq
 have hz:N8 [k] (c.nodes.l.take 0) 0=[]:=rfl
 rw[hz]at g
 simp only[xq9,Gy]at g
 generalize N8 [k] c.nodes.l 0=R at *
 simp[tC,Aa,Ad,Ag,As]at g
 simp[q8t,tC,Aa,Ad,Ag,As]
 refine g _ ?_
 simp[q8u,Ai,ht]
def rlE (c:Bi) (n r:Nat) (b:Bool):List (Nat×AV):=[(1,.t (.ip (tC c) 0)),(4,.ls 13 0 n none),(5,.t (tI r)),(6,.t (tB b))]
def Bnd (φ:Nat->Nat) (n:Nat) (out:List Int):Prop:=∀ q,q<n->0<=out.getD q 0/\out.getD q 0<=φ q
theorem qM4 {Q:AX->St->Prop} (c:Bi) (φ:Nat->Nat) (n:Nat) (hn:n<=1000000) (hφ:∀ q,q<n->φ q<n) (r i:Nat) (hi:i<n) (x:Nd) (hcb:C2 x.k=true) (hxl:x.inn.l.length<=1000000) (hin:∀ p∈x.inn.l,0<=p/\p.toNat<n/\φ p.toNat<φ i) (R:List Int×Bool)
  (h0:Q (.exit 4) ⟨rlE c n r R.2++[(7,.t (tI i)),(8,.lp 8 0 0),(9,.t (tI x.inn.l.length)),(42,.t (tB false))],[(8,.bx ((Dl x).map .t)),(13,.sl 3 1 (Af R.1))]⟩) :
  ∀ (f j:Nat) (out:List Int) (b:Bool),f+j=x.inn.l.length->out.length=n->Bnd φ n out->H8 i (x.inn.l.drop j) out b=R ->
  run Tryz.prog Γ Pv Q ⟨rlE c n r b++[(7,.t (tI i)),(8,.lp 8 0 0),(9,.t (tI j))],[(8,.bx ((Dl x).map .t)),(13,.sl 3 1 (Af out))]⟩
 | 0,j,out,b,h,ho,hb,hR=>by
  refine Iw fun K hK=>?_
  have h2:j=x.inn.l.length:=by omega
  subst h2
  rw[xq2 (xzo _)]at hR
  have hR:(out,b)=R:=hR
  subst hR
  simp[rlE,Dl,As]at h0
  simp[rlE,Dl,As,A6]
  simpa using h0
 | f+1,j,out,b,h,ho,hb,hR=>by
  refine Iw fun K hK=>?_
  have h2:j<x.inn.l.length:=by omega
  rw[xqq h2]at hR
  simp only[H8]at hR
  obtain⟨p0,p1,p2⟩:=hin _ (xqj h2)
  have e1:=gE (f:=tI) 0 h2
  have e1':=gE' (f:=tI) 0 h2
  rw[Be h2]at e1 e1'
  have ih:=fun o' b' hl hb' hR'=>qM4 c φ n hn hφ r i hi x hcb hxl hin R h0 f (j+1) o' b' (by omega) hl hb' hR'
  generalize x.inn.l[j]=p at *
  have hi':i<out.length:=by omega
  have hq':p.toNat<out.length:=by omega
  have e2:=gE (f:=tI) 0 hi'
  have e2':=gE' (f:=tI) 0 hi'
  have e3:=gE (f:=tI) 0 hq'
  have e3':=gE' (f:=tI) 0 hq'
  have b1:=hb i hi
  have b2:=hb p.toNat p1
  have f1:=hφ i hi
  have hp1:p<n:=by omega
  have hcmb:=q2S (Γ:=Γ) x.k
  rw[hcb]at hcmb
  have w1:IntKind.i64.wrap ((j:Int)+1)=(j:Int)+1:=by rw[A7]<;>omega
  have w2:IntKind.i64.wrap (out.getD p.toNat 0+1)=out.getD p.toNat 0+1:=by rw[A7]<;>omega
  have hs:(Af out).set i [tI (out.getD p.toNat 0+1)]=Af (out.set i (out.getD p.toNat 0+1)):=Gf
  by_cases hlt:out.getD i 0<out.getD p.toNat 0+1
  ·rw[if_pos hlt]at hR
   have ih:=ih _ _ (by rw[List.length_set];exact ho) (fun q hq=>by
    rw[E4 hi']
    split
    ·rename_i e;subst e;omega
    ·exact hb q hq) hR
   generalize out.getD i 0=u at *
   generalize out.getD p.toNat 0=v at *
   simp[rlE,Dl,As]at ih
   simp[rlE,Dl,As,A6,A9,h2]
   refine A4 hcmb rfl ?_
   simp[h2,hi,ho,p0,p1,hp1,e1,e1',e2,e2',e3,e3',w1,w2,hlt,hs,A6,A9]
   rw[hK]
   simpa using ih
  ·rw[if_neg hlt]at hR
   have ih:=ih _ _ ho hb hR
   generalize out.getD i 0=u at *
   generalize out.getD p.toNat 0=v at *
   simp[rlE,Dl,As]at ih
   simp[rlE,Dl,As,A6,A9,h2]
   refine A4 hcmb rfl ?_
   simp[h2,hi,ho,p0,p1,hp1,e1,e1',e2,e2',e3,e3',w1,w2,hlt,A6,A9]
   rw[hK]
   simpa using ih
theorem qM5 {Q:AX->St->Prop} (c:Bi) (H:ROk c) (φ:Nat->Nat) (hpl:Plc c φ) (hn:c.nodes.l.length<=1000000) (r:Nat) (R:List Int×Bool)
  (h0:Q (.exit 2) ⟨rlE c c.nodes.l.length r R.2++[(7,.t (tI c.nodes.l.length)),(25,.t (tB false))],[(13,.sl 3 1 (Af R.1))]⟩) :
  ∀ (f i:Nat) (out:List Int) (b:Bool),f+i=c.nodes.l.length->out.length=c.nodes.l.length->Bnd φ c.nodes.l.length out->M3 c f i (out,b)=R ->
  run Tryz.prog Γ Px Q ⟨rlE c c.nodes.l.length r b++[(7,.t (tI i))],[(13,.sl 3 1 (Af out))]⟩
 | 0,i,out,b,h,ho,hb,hR=>by
  refine Xs fun K hK=>?_
  have h2:i=c.nodes.l.length:=by omega
  subst h2
  have hR:(out,b)=R:=hR
  subst hR
  simp[rlE,tC,Aa,Ad,Ag,As]at h0
  simp[rlE,tC,Aa,Ad,Ag,As,Ab]
  simpa using h0
 | f+1,i,out,b,h,ho,hb,hR=>by
  refine Xs fun K hK=>?_
  have h2:i<c.nodes.l.length:=by omega
  simp only[M3]at hR
  obtain⟨n1,n2,n3,n4,n5,n6⟩:=qCL hpl h2 (out:=out) (b:=b) ho
  have ih:=qM5 c H φ hpl hn r R h0 f (i+1) (P1 c i (out,b)).1 (P1 c i (out,b)).2 (by omega) n1 (n6 hb) hR
  have hget:=q3u (c:=c) (n:=(i:Int)) (by omega) (by omega)
  have hget':=q7J (c:=c) (n:=(i:Int)) (by omega) (by omega)
  have hmem:=qCt (c:=c) (n:=(i:Int)) (by omega) (by omega)
  have hxi:=H.inn _ hmem
  have hk:(nd c i).k=Aj c i:=by simp[nd,Aj]
  have hin:D4 c i=(nd c i).inn.l:=by simp[nd,D4]
  simp only[xzl]at hget hget'
  have hsw:P1 c i (out,b)=if C2 (nd c i).k then H8 i (nd c i).inn.l out b else(out,b):=by unfold P1;rw[hk,hin]
  have hdn:=fun hc=>hpl.dn i h2 hc
  rw[hin,<- hk]at hdn
  rw[hsw]at ih
  clear n1 n2 n3 n4 n5 n6 hR
  generalize nd c i=x at *
  have w1:IntKind.i64.wrap ((i:Int)+1)=(i:Int)+1:=by rw[A7]<;>omega
  by_cases hc:C2 x.k=true
  ·rw[if_pos hc]at ih
   have g:=fun Q h0=>qM4 (Γ:=Γ) (Q:=Q) c φ c.nodes.l.length hn (fun q hq=>hpl.lt q hq) r i h2 x hc (by omega) (fun p hp=>⟨(hxi.2 p hp).1,(hdn hc p hp).1,(hdn hc p hp).2⟩) (H8 i x.inn.l out b) h0 x.inn.l.length 0 out b (by omega) ho hb (by rw[xzt])
   generalize H8 i x.inn.l out b=R1 at *
   obtain⟨o1,b1⟩:=R1
   simp[rlE,tC,Aa,Ad,Ag,As,Dl]at ih g
   simp[rlE,tC,Aa,Ad,Ag,As,Ab,h2,Bq,hget,hget',Dl]
   refine g _ ?_
   simp[w1]
   rw[hK]
   simpa using ih
  ·rw[if_neg hc]at ih
   have hcmb:=q2S (Γ:=Γ) x.k
   simp only[xzm]at hc
   rw[hc]at hcmb
   simp[rlE,tC,Aa,Ad,Ag,As,Dl]at ih
   by_cases he:0<x.inn.l.length
   ·simp[rlE,tC,Aa,Ad,Ag,As,Ab,h2,Bq,hget,hget',Dl]
    refine Iw fun K2 hK2=>?_
    simp[A6,he]
    refine A4 hcmb rfl ?_
    simp[w1]
    rw[hK]
    simpa using ih
   ·simp[rlE,tC,Aa,Ad,Ag,As,Ab,h2,Bq,hget,hget',Dl]
    refine Iw fun K2 hK2=>?_
    simp[A6,he]
    simp[w1]
    rw[hK]
    simpa using ih
theorem qM6 {Q:AX->St->Prop} (c:Bi) (H:ROk c) (φ:Nat->Nat) (hpl:Plc c φ) (hn:c.nodes.l.length<=1000000) (R:List Int)
  (h0:Q .ret ⟨[(2,.ls 13 0 c.nodes.l.length none),(3,.t (tB true))],[(13,.sl 3 1 (Af R))]⟩) :
  ∀ (f r:Nat) (out:List Int),f+r=c.nodes.l.length+1->r<=c.nodes.l.length->out.length=c.nodes.l.length->Bnd φ c.nodes.l.length out->(∀ j,j<c.nodes.l.length->φ j<r->q7F c out j)->qCK c f out=R ->
  run Tryz.prog Γ Py Q ⟨[(1,.t (.ip (tC c) 0)),(4,.ls 13 0 c.nodes.l.length none),(5,.t (tI r))],[(13,.sl 3 1 (Af out))]⟩
 | 0,r,out,h,hr,_,_,_,_=>by omega
 | f+1,r,out,h,hr,ho,hb,hs,hR=>by
  refine q4r fun K hK=>?_
  simp only[qCK]at hR
  obtain⟨m1,m2,m3,m4,m5,m6⟩:=q6C hpl r out hs c.nodes.l.length 0 out false (by omega) ho (fun _ _ _=>rfl) (fun j hj=>absurd hj (Nat.not_lt_zero _)) hb (fun _ j hj=>absurd hj (Nat.not_lt_zero _))
  have g:=fun Q h0=>qM5 (Γ:=Γ) (Q:=Q) c H φ hpl hn r (q5O c out) h0 c.nodes.l.length 0 out false (by omega) ho hb rfl
  have ih:=fun hr'=>qM6 c H φ hpl hn R h0 f (r+1) (q5O c out).1 (by omega) hr' m1 m4 m3
  have hlast:r=c.nodes.l.length->(q5O c out).2=false:=fun e=>by
   have:=m6 fun j hj=>hs j hj (by rw[e];exact hpl.lt j hj)
   show(M3 c c.nodes.l.length 0 (out,false)).2=false
   rw[this]
  clear m1 m2 m3 m4 m5 m6
  generalize q5O c out=S at *
  obtain⟨o1,b1⟩:=S
  simp only at hR ih hlast
  have w1:IntKind.i64.wrap ((r:Int)+1)=(r:Int)+1:=by rw[A7]<;>omega
  have hr':(r:Int)<=c.nodes.l.length:=by omega
  cases b1 with
  | false =>
   rw[if_neg (by simp)]at hR
   subst hR
   simp[rlE,tC,Aa,Ad,Ag,As]at g
   simp[tC,Aa,Ad,Ag,As,Ab,hr,hr']
   refine g _ ?_
   simp
   simpa using h0
  | true =>
   rw[if_pos rfl]at hR
   have hlt:r+1<=c.nodes.l.length:=by
    rcases Nat.lt_or_eq_of_le hr with h|h
    ·omega
    ·exact absurd (hlast h) (by simp)
   have ih:=ih hlt hR
   simp[rlE,tC,Aa,Ad,Ag,As]at g ih
   simp[tC,Aa,Ad,Ag,As,Ab,hr,hr']
   refine g _ ?_
   simp[w1]
   rw[hK]
   simpa using ih
theorem qAq (c:Bi) (hc:COk c) (h:Cf c=0) (hn:c.nodes.l.length<=1000000):Az Tryz.prog Γ 179 [.agg (tC c)] (.tup [.sl (Af (X3 c)) none none,tB true]):=by
 refine Bz q8C rfl ?_
 have hpl:=qJU h
 have hrep:∀ j,(List.replicate c.nodes.l.length (0:Int)).getD j 0=0:=fun j=>by rw[xqe,xz3];split<;>rfl
 have g:=fun Q h0=>qM6 (Γ:=Γ) (Q:=Q) c (q3v hc h) _ hpl hn (X3 c) h0 (c.nodes.l.length+1) 0 (List.replicate c.nodes.l.length 0) (by omega) (Nat.zero_le _) (by simp) (fun q hq=>by rw[hrep];exact⟨Int.le_refl _,by omega⟩) (fun j _ hj=>absurd hj (Nat.not_lt_zero _)) rfl
 have hL:=(q8F h).len
 have ht:(Af (X3 c)).take c.nodes.l.length=Af (X3 c):=by rw[<- hL];exact Dq
 have hz:Af (List.replicate c.nodes.l.length (0:Int))=List.replicate c.nodes.l.length [tI 0]:=by simp[Au]
 rw[hz]at g
 generalize X3 c=L at *
 simp[tC,Aa,Ad,Ag,As]at g
 simp[q2n,tC,Aa,Ad,Ag,As,Ab]
 refine⟨by omega,g _ ?_⟩
 simp[q2o,Ai,ht]
theorem qM7 {Q:AX->St->Prop} (c:Bi) (L:List Int) (lc:Option Nat) (hL:L.length=c.nodes.l.length) (hn:c.nodes.l.length<=1000000) (v:Nat) (out0:List Int) (ho0:out0.length<=1000000) (R:List Int)
  (h0:Q (.exit 2) ⟨[(1,.t (.ip (tC c) 0)),(3,.t (.sl (Af L) lc none)),(5,.ls 37 0 R.length none),(6,.t (tI v)),(7,.t (tI c.nodes.l.length)),(25,.t (tB false))],[(37,.sl 3 1 (Af R))]⟩) :
  ∀ (f i:Nat) (out:List Int),f+i=c.nodes.l.length->out.length+f<=3000000->out++((rng c.nodes.l.length).drop i).filter (fun j=>decide (L.getD j.toNat 0=(v:Int)))=R ->
  run Tryz.prog Γ Tm Q ⟨[(1,.t (.ip (tC c) 0)),(3,.t (.sl (Af L) lc none)),(5,.ls 37 0 out.length none),(6,.t (tI v)),(7,.t (tI i))],[(37,.sl 3 1 (Af out))]⟩
 | 0,i,out,h,hl,hR=>by
  refine Zs fun K hK=>?_
  have h2:i=c.nodes.l.length:=by omega
  subst h2
  rw[xq2 (by rw[Hv];exact xzo _),List.filter_nil,List.append_nil]at hR
  subst hR
  simp[tC,Aa,Ad,Ag,As]at h0
  simp[tC,Aa,Ad,Ag,As,Ab]
  simpa using h0
 | f+1,i,out,h,hl,hR=>by
  refine Zs fun K hK=>?_
  have h2:i<c.nodes.l.length:=by omega
  have h3:i<L.length:=by omega
  have hr:(rng c.nodes.l.length).drop i=(i:Int)::(rng c.nodes.l.length).drop (i+1):=by
   rw[xqq (by rw[Hv];exact h2)]
   congr 1
   simp[rng]
  rw[hr,xzu,xzl]at hR
  have e1:=gE (f:=tI) 0 h3
  have e1':=gE' (f:=tI) 0 h3
  have ih:=fun o' hl' hR'=>qM7 c L lc hL hn v out0 ho0 R h0 f (i+1) o' (by omega) hl' hR'
  generalize L.getD i 0=u at *
  have w1:IntKind.i64.wrap ((i:Int)+1)=(i:Int)+1:=by rw[A7]<;>omega
  have vt:(Af out).take out.length=Af out:=Dq
  have vs:Af out++[[tI i]]=Af (out++[(i:Int)]):=E0
  by_cases hu:u=v
  ·rw[if_pos (by simpa using hu)]at hR
   have ih:=ih (out++[(i:Int)]) (by simp;omega) (by rw[List.append_assoc];exact hR)
   simp[tC,Aa,Ad,Ag,As]at ih
   simp[tC,Aa,Ad,Ag,As,Ab,h2,h3,A6,A9,e1,e1',hu,vt,vs,w1]
   refine⟨by omega,?_⟩
   rw[hK]
   simpa using ih
  ·rw[if_neg (by simpa using hu)]at hR
   have ih:=ih out (by omega) hR
   simp[tC,Aa,Ad,Ag,As]at ih
   simp[tC,Aa,Ad,Ag,As,Ab,h2,h3,A6,A9,e1,e1',hu,w1]
   rw[hK]
   simpa using ih
theorem qM8 {Q:AX->St->Prop} (c:Bi) (L:List Int) (lc:Option Nat) (hL:qHy c L) (hn:c.nodes.l.length<=1000000)
  (h0:∀ v,c.nodes.l.length<=(Di L c.nodes.l.length v).length->Q (.exit 0) ⟨[(1,.t (.ip (tC c) 0)),(3,.t (.sl (Af L) lc none)),(5,.ls 37 0 (Di L c.nodes.l.length v).length none),(6,.t (tI v)),(18,.t (tB false))],[(37,.sl 3 1 (Af (Di L c.nodes.l.length v)))]⟩) :
  ∀ (f v:Nat),f+v=c.nodes.l.length ->
  run Tryz.prog Γ Tn Q ⟨[(1,.t (.ip (tC c) 0)),(3,.t (.sl (Af L) lc none)),(5,.ls 37 0 (Di L c.nodes.l.length v).length none),(6,.t (tI v))],[(37,.sl 3 1 (Af (Di L c.nodes.l.length v)))]⟩
 | f,v,h=>by
  refine q6A fun K hK=>?_
  have hle:=qAm (L:=L) (n:=c.nodes.l.length) (v:=v)
  by_cases hlt:(Di L c.nodes.l.length v).length<c.nodes.l.length
  ·have hvn:=qEQ hL hlt
   match f,h with
   | 0,h=>omega
   | f+1,h =>
    have ih:=qM8 c L lc hL hn h0 f (v+1) (by omega)
    have g:=fun Q h0=>qM7 (Γ:=Γ) (Q:=Q) c L lc hL.len hn v [] (by simp) (Di L c.nodes.l.length (v+1)) h0 c.nodes.l.length 0 (Di L c.nodes.l.length v) (by omega) (by omega) (by rw[xzt];rfl)
    have w1:IntKind.i64.wrap ((v:Int)+1)=(v:Int)+1:=by rw[A7]<;>omega
    generalize Di L c.nodes.l.length (v+1)=R at *
    generalize Di L c.nodes.l.length v=out at *
    simp[tC,Aa,Ad,Ag,As]at g ih
    simp[tC,Aa,Ad,Ag,As,Ab,hlt]
    refine g _ ?_
    simp[w1]
    rw[hK]
    simpa using ih
  ·have h0:=h0 v (by omega)
   generalize Di L c.nodes.l.length v=out at *
   simp[tC,Aa,Ad,Ag,As]at h0
   simp[tC,Aa,Ad,Ag,As,Ab,hlt]
   simpa using h0
theorem qBU (c:Bi) (hc:COk c) (h:Cf c=0) (hn:c.nodes.l.length<=1000000):∃ o,(∃ v,o=Di (X3 c) c.nodes.l.length v/\c.nodes.l.length<=o.length)/\Az Tryz.prog Γ 112 [.agg (tC c)] (.sl (Af o) none none):=by
 have hL:=q8F h
 have e1:=qAq (Γ:=Γ) c hc h hn
 have:∃ r,Az Tryz.prog Γ 112 [.agg (tC c)] r/\∃ o,r=.sl (Af o) none none/\∃ v,o=Di (X3 c) c.nodes.l.length v/\c.nodes.l.length<=o.length:=by
  refine run_pure q9E rfl ?_
  have g:=fun Q h0=>qM8 (Γ:=Γ) (Q:=Q) c (X3 c) none hL hn h0 c.nodes.l.length 0 (by omega)
  simp only[Di,xq9,Gy]at g
  simp[tC,Aa,Ad,Ag,As]at e1 g
  simp[q4I,tC,Aa,Ad,Ag,As]
  refine Aq e1 rfl ?_
  simp
  refine g _ (fun v hv=>?_)
  have ht:(Af (Di (X3 c) c.nodes.l.length v)).take (Di (X3 c) c.nodes.l.length v).length=Af (Di (X3 c) c.nodes.l.length v):=Dq
  simp[q4J,Ai,ht]
  exact⟨_,rfl,⟨v,rfl⟩,hv⟩
 obtain⟨r,h1,o,rfl,h2⟩:=this
 exact⟨o,h2,h1⟩
structure Stt where
 dff:Sl Int
 words:Sl (Sl (Sl Int))
 read:Sl (Sl Int)
def Stt.rd (s:Stt):List (List Int):=s.read.l.map (·.l)
def Stt.ws (s:Stt):List (List (List Int)):=s.words.l.map fun w=>w.l.map (·.l)
def Sl.zz:Sl (Sl Int):=⟨[],none,none⟩
def G1 (nets:List Int) (l:List Int):List Int:=l.map fun k=>nets.getD k.toNat 0
def hW (D:Ci) (n:Nat) (W:WS) (ν:Nat->Nat):List (Nat×B9) :=
 (1000000,.bx [.lp 1000001 0 0,.lm 1000004,.ls 1000003 0 n none,.ls (ν 999) 0 W.ch.length none])::(1000001,.bx (Bg D 1000002 n W.ev))::(1000002,.sl 65 1 (Ar W.nets))::(1000003,.sl 4 1 (Au tB W.q))::(1000004,.mr (F9 ν W.wl))::Wq ν W
def NuC (c:Nat) (ν:Nat->Nat):Prop:=∀ u,u<1000->ν u=1000005+u\/ν u=c+u
abbrev Nu9 (ν:Nat->Nat):Prop:=NuC 900000 ν
theorem NuC.ok {c:Nat} {ν:Nat->Nat} (h:NuC c ν) (hc:800000<=c:=by omega) (hc2:c<=900000:=by omega):q85 ν:=⟨fun u v hu hv e=>by have:=h u hu;have:=h v hv;omega,fun u hu=>by have:=h u hu;omega⟩
def q1d (D:Ci) (k:Int):Nat:=(D.lev.l.getD k.toNat 0).toNat
def G8 (D:Ci) (W:WS) (k:Int):WS:=if W.q.getD k.toNat true then W else{ W with q:=W.q.set k.toNat true,wl:=Us (q1d D k) k W.wl }
structure q5R (D:Ci) (n:Nat):Prop where
 ln:D.lev.l.length=n
 lv:∀ v∈D.lev.l,0<=v/\v<999
 rn:D.rdr.l.length=n
 rr:∀ r∈D.rdr.l,r.l.length<=1000000/\∀ k∈r.l,0<=k/\k<n
structure WOk (n:Nat) (W:WS):Prop where
 nl:W.nets.length=n
 ql:W.q.length=n
 wl:Wa W.wl
 wn:∀ p∈W.wl,p.2.length+W.q.count false<=n
theorem q8J {k:Nat}:∀ {q:List Bool},k<q.length->q.getD k true=false->(q.set k true).count false+1=q.count false
 | [],h,_=>by simp at h
 | b::q,h,hb=>by
  cases k with
  | zero=>simp at hb;subst hb;simp
  | succ k =>
   have ih:=q8J (k:=k) (q:=q) (by simpa using h) (by simpa using hb)
   cases b<;>simp[List.count_cons]<;>omega
theorem q8K {lv:Nat} {k:Int}:∀ {wl:List (Nat×List Int)} {p:Nat×List Int},p∈Us lv k wl->p∈wl\/p=(lv,[k])\/∃ l,(lv,l)∈wl/\p=(lv,l++[k])
 | [],p,h=>by simp[Us]at h;exact .inr (.inl h)
 | (m,l)::wl,p,h=>by
  simp only[Us]at h
  split at h
  ·rename_i e
   subst e
   rcases xqv.1 h with rfl|h
   ·exact .inr (.inr ⟨l,xqh,rfl⟩)
   ·exact .inl (xqf _ h)
  ·rcases xqv.1 h with rfl|h
   ·exact .inl xqh
   ·rcases q8K h with h|h|⟨l',h,e⟩
    ·exact .inl (xqf _ h)
    ·exact .inr (.inl h)
    ·exact .inr (.inr ⟨l',xqf _ h,e⟩)
theorem WOk.enq {n:Nat} {W:WS} {k:Nat} {x:Int} {m:Nat} (hw:WOk n W) (hk:k<n) (hq:W.q.getD k true=false) (hm:m<999):WOk n { W with q:=W.q.set k true,wl:=Us m x W.wl }:=by
 have hc:=q8J (k:=k) (q:=W.q) (by rw[hw.ql];exact hk) hq
 have hle:W.q.count false<=n:=by rw[<- hw.ql];exact List.count_le_length
 refine⟨hw.nl,by simpa using hw.ql,hw.wl.add hm,fun p hp=>?_⟩
 simp only at hp ⊢
 rcases q8K hp with hp|rfl|⟨l,hl,rfl⟩
 ·have:=hw.wn p hp;omega
 ·simp;omega
 ·have:=hw.wn _ hl
  simp at this ⊢;omega
theorem J4 {α:Type} {t:Nat} {x:α}:∀ {l:List (Nat×α)},A5 l t=some x->(t,x)∈l
 | [],h=>by simp[A5]at h
 | (k,v)::l,h=>by
  simp only[A5]at h
  split at h
  ·rename_i e;subst e;simp only[xqa]at h;subst h;exact xqh
  ·exact xqf _ (J4 h)
def Gq (ν:Nat->Nat) (m b:Nat) (u:Nat):Nat:=if u=m then b else ν u
theorem qD7 {ν:Nat->Nat} {b m len:Nat} {k:Int} {F G:AV->AV} {X:AV}:∀ {wl:List (Nat×List Int)},(wl.map (·.1)).Nodup->len=((A5 wl m).getD []).length+1->(∀ p∈wl,p.1≠m->G (F (.ls (ν p.1) 0 p.2.length none))=.ls (ν p.1) 0 p.2.length none)->G X=.ls b 0 len none ->
  (q5a (.int .i64 (m:Int)) X ((F9 ν wl).map fun e=>(e.1,F e.2))).map (fun e=>(e.1,G e.2))=F9 (Gq ν m b) (Us m k wl)
 | [],_,hl,_,hx=>by
  simp only[A5,Option.getD_none,xq9]at hl
  simp[F9,q5a,Us,hx,Gq,hl]
 | (q,l)::wl,hn,hl,hf,hx=>by
  simp only[xqm,xzj]at hn
  simp only[F9,xqm,q5a,q86,Us]
  by_cases hm:m=q
  ·subst hm
   simp only[A5,if_true,xzy]at hl
   simp only[decide_true,if_true,xqm,hx,Gq]
   rw[List.cons.injEq]
   refine⟨by simp[hl],?_⟩
   simp only[xq5]
   refine xq1 fun p hp=>?_
   have hpm:p.1≠m:=fun e=>hn.1 (e ▸ xzk hp)
   simp only[Function.comp,if_neg hpm]
   rw[hf p (xqf _ hp) hpm]
  ·have hm2:¬ q=m:=fun e=>hm e.symm
   simp only[A5,if_neg hm2]at hl
   have ih:=qD7 (k:=k) hn.2 hl (fun p hp=>hf p (xqf _ hp)) hx
   simp only[F9]at ih
   simp only[hm,decide_false,xqn,if_false,if_neg hm2,xqm,ih,Gq]
   rw[hf (q,l) xqh hm2]
theorem qD8 {ν:Nat->Nat} {m:Nat} (h:Nu9 ν):Nu9 (Gq ν m (900000+m)):=fun u hu=>by
 unfold Gq
 split
 ·rename_i e;subst e;exact .inr rfl
 ·exact h u hu
theorem q0T {K i a b:Nat} (h:¬ i=K):Am K (.lp i a b)=.lp i a b:=by simp[Am,kill1,h]
theorem q0U {K i:Nat} (h:¬ i=K):Am K (.lm i)=.lm i:=by simp[Am,kill1,h]
theorem M5 {K i a b:Nat} {c:Option Nat} (h:¬ i=K):Am K (.ls i a b c)=.ls i a b c:=by simp[Am,kill1,h]
theorem Zu {K a b:Nat} {c:Option Nat}:Am K (.ls K a b c)=.dead:=by simp[Am,kill1]
theorem q7K {K:Nat} {x:T}:Am K (.t x)=.t x:=rfl
theorem q6D {K:Nat}:Am K .dead=.dead:=rfl
theorem Yd {K:Nat} {cs:List AV}:Bn K (.bx cs)=.bx (cs.map (Am K)):=rfl
theorem q2T {K t s:Nat} {es:List (List T)}:Bn K (.sl t s es)=.sl t s es:=rfl
theorem q9P {K:Nat} {es:List (Value×AV)}:Bn K (.mr es)=.mr (es.map fun e=>(e.1,Am K e.2)):=rfl
theorem qAr {E:List (Nat×AV)} {D:Ci} {n m:Nat} {W W':WS} {ν:Nat->Nat} {es:List (Value×AV)} {LS:List (Nat×B9)} {L:List Int} {c0:AV} {a:Nat} (ha:a<1000) (hν:Nu9 ν) (hm:m<1000) (hw':Wa W'.wl) (hE:E.map (fun p=>(p.1,Ac (B1 a (900000+m)) p.2))=E)
  (h1:∀ u,u<1000->u≠m->A5 LS (ν u)=(J5 W' u).map fun l=>.sl 3 1 (Af l)) (h2:∀ t,(∀ u,u<1000->u≠m->t≠ν u)->A5 LS t=none) (hc:J5 W' m=some L) (he:W'.ev=W.ev)
  (hes:es.map (fun e=>(e.1,Ac (B1 a (900000+m)) e.2))=F9 (Gq ν m (900000+m)) W'.wl) (hc0:Ac (B1 a (900000+m)) c0=.ls (Gq ν m (900000+m) 999) 0 W'.ch.length none) :
  Imp Γ ⟨E,(a,.sl 3 1 (Af L))::(1000000,.bx [.lp 1000001 0 0,.lm 1000004,.ls 1000003 0 n none,c0])::(1000001,.bx (Bg D 1000002 n W.ev))::(1000002,.sl 65 1 (Ar W'.nets))::(1000003,.sl 4 1 (Au tB W'.q))::(1000004,.mr es)::LS⟩
   ⟨E,hW D n W' (Gq ν m (900000+m))⟩:=by
 have hν':=qD8 (m:=m) hν
 have q0:¬ 1000000=a:=by omega
 have q1:¬ 1000001=a:=by omega
 have q2:¬ 1000002=a:=by omega
 have q3:¬ 1000003=a:=by omega
 have q4:¬ 1000004=a:=by omega
 have q0':¬ a=1000000:=by omega
 have q1':¬ a=1000001:=by omega
 have q2':¬ a=1000002:=by omega
 have q3':¬ a=1000003:=by omega
 have q4':¬ a=1000004:=by omega
 have hb:A5 LS (900000+m)=none:=h2 _ fun u hu hum e=>by have:=hν u hu;omega
 have h100:A5 LS a=none:=h2 _ fun u hu hum e=>by have:=hν u hu;omega
 have hbig:∀ j,j<5->A5 LS (1000000+j)=none:=fun j hj=>h2 _ fun u hu hum e=>by have:=hν u hu;omega
 refine Imp.trans (Imp.gh (.ren a (900000+m)) _) ?_
 have hr:Gh.run (.ren a (900000+m)) ⟨E,(a,.sl 3 1 (Af L))::(1000000,.bx [.lp 1000001 0 0,.lm 1000004,.ls 1000003 0 n none,c0])::(1000001,.bx (Bg D 1000002 n W.ev))::(1000002,.sl 65 1 (Ar W'.nets))::(1000003,.sl 4 1 (Au tB W'.q))::(1000004,.mr es)::LS⟩ =
   ⟨E,K6 a (900000+m) ((a,.sl 3 1 (Af L))::(1000000,.bx [.lp 1000001 0 0,.lm 1000004,.ls 1000003 0 n none,c0])::(1000001,.bx (Bg D 1000002 n W.ev))::(1000002,.sl 65 1 (Ar W'.nets))::(1000003,.sl 4 1 (Au tB W'.q))::(1000004,.mr es)::LS)⟩:=by
  simp only[Gh.run,X8]
  rw[if_pos,hE]
  have e1:¬ a=900000+m:=by omega
  have e2:¬ 1000000=900000+m:=by omega
  have e3:¬ 1000001=900000+m:=by omega
  have e4:¬ 1000002=900000+m:=by omega
  have e5:¬ 1000003=900000+m:=by omega
  have e6:¬ 1000004=900000+m:=by omega
  have e7:900000+m<1000000:=by omega
  simp[A5,e1,e2,e3,e4,e5,e6,hb,e7];omega
 rw[hr]
 refine Imp.like (fun t a h=>h) fun t=>?_
 rw[q1z (by
  have e1:¬ a=900000+m:=by omega
  have e2:¬ 1000000=900000+m:=by omega
  have e3:¬ 1000001=900000+m:=by omega
  have e4:¬ 1000002=900000+m:=by omega
  have e5:¬ 1000003=900000+m:=by omega
  have e6:¬ 1000004=900000+m:=by omega
  simp[A5,e1,e2,e3,e4,e5,e6,hb]) (by omega)]
 have hlk:=fun u (hu:u<1000)=>Kv (ν:=Gq ν m (900000+m)) (W:=W') hν'.ok hw' hu
 have hlo:=fun t h=>Dt (ν:=Gq ν m (900000+m)) (W:=W') (t:=t) hw' h
 have hcell:∀ i,i≠a->B1 a (900000+m) i=some i:=fun i hi=>by unfold B1;rw[if_neg hi]
 have hlsC:∀ t,(t<1000000\/1000005<=t)->A5 (hW D n W' (Gq ν m (900000+m))) t=A5 (Wq (Gq ν m (900000+m)) W') t:=fun t ht=>by
  simp only[hW,A5]
  rw[if_neg (by omega),if_neg (by omega),if_neg (by omega),if_neg (by omega),if_neg (by omega)]
 by_cases ht:t=900000+m
 ·subst ht
  rw[if_pos rfl,hlsC _ (by omega)]
  have:=hlk m hm
  rw[show Gq ν m (900000+m) m=900000+m by simp[Gq],hc]at this
  rw[this]
  simp[A5,B7]
 rw[if_neg ht]
 by_cases ht1:t=a
 ·subst ht1
  rw[if_pos rfl,hlsC _ (by omega)]
  exact hlo _ fun u hu e=>by have:=hν' u hu;omega
 rw[if_neg ht1]
 by_cases ht2:1000000<=t/\t<1000005
 ·obtain⟨j,hj,rfl⟩:∃ j,j<5/\t=1000000+j:=⟨t-1000000,by omega,by omega⟩
  have:j=0\/j=1\/j=2\/j=3\/j=4:=by omega
  rcases this with rfl|rfl|rfl|rfl|rfl
  ·have r1:Ac (B1 a (900000+m)) (.lp 1000001 0 0)=.lp 1000001 0 0:=by simp[Ac,ren1,ren0,B1,q0,q1,q2,q3,q4,q0',q1',q2',q3',q4']
   have r2:Ac (B1 a (900000+m)) (.lm 1000004)=.lm 1000004:=by simp[Ac,ren1,ren0,B1,q0,q1,q2,q3,q4,q0',q1',q2',q3',q4']
   have r3:Ac (B1 a (900000+m)) (.ls 1000003 0 n none)=.ls 1000003 0 n none:=by simp[Ac,ren1,ren0,B1,q0,q1,q2,q3,q4,q0',q1',q2',q3',q4']
   simp only[hW,A5,xzp,if_true,<- hc0,q0',if_false,xql,B7,xqm,xq3,r1,r2,r3]
  ·simp[hW,A5,B7,q0',q1',q2',q3',q4',Ac,ren1,ren0,B1,q0,q1,q2,q3,q4,q0',q1',q2',q3',q4',Bg,he]
  ·simp[hW,A5,B7,q0',q1',q2',q3',q4']
  ·simp[hW,A5,B7,q0',q1',q2',q3',q4']
  ·simp[hW,A5,B7,<- hes,q0',q1',q2',q3',q4']
 ·rw[hlsC _ (by omega)]
  have hlook:A5 ((a,B9.sl 3 1 (Af L))::(1000000,.bx [.lp 1000001 0 0,.lm 1000004,.ls 1000003 0 n none,c0])::(1000001,.bx (Bg D 1000002 n W.ev))::(1000002,.sl 65 1 (Ar W'.nets))::(1000003,.sl 4 1 (Au tB W'.q))::(1000004,.mr es)::LS) t=A5 LS t:=by
   simp only[A5]
   rw[if_neg (by omega),if_neg (by omega),if_neg (by omega),if_neg (by omega),if_neg (by omega),if_neg (by omega)]
  rw[hlook]
  by_cases hu:∃ u,u<1000/\u≠m/\t=ν u
  ·obtain⟨u,hu,hum,rfl⟩:=hu
   rw[h1 u hu hum]
   have:=hlk u hu
   rw[show Gq ν m (900000+m) u=ν u by simp[Gq,hum]]at this
   rw[this]
   cases J5 W' u<;>rfl
  ·rw[h2 t fun u hu' hum e=>hu ⟨u,hu',hum,e⟩]
   simp only[xzx]
   refine hlo _ fun u hu' e=>?_
   unfold Gq at e
   split at e
   ·exact ht e
   ·rename_i hum;exact hu ⟨u,hu',hum,e⟩
def Kp (ν:Nat->Nat) (W:WS) (ν':Nat->Nat) (W':WS):Prop:=∀ u,u<1000->ν' u=1000005+u->ν u=1000005+u/\J5 W' u=J5 W u
theorem Kp.refl (ν:Nat->Nat) (W:WS):Kp ν W ν W:=fun u _ h=>⟨h,rfl⟩
theorem Kp.upd {ν0 ν:Nat->Nat} {W0 W W':WS} {m:Nat} (h:Kp ν0 W0 ν W) (hc:∀ u,u≠m->J5 W' u=J5 W u):Kp ν0 W0 (Gq ν m (900000+m)) W':=fun u hu e=>by
 unfold Gq at e
 split at e
 ·omega
 ·rename_i hum;rw[hc u hum];exact h u hu e
def qAs (row:Sl Int) (i:Nat):List (Nat×AV):=[(0,.lp 1000000 0 0),(49,.t (As row)),(50,.t (tI row.l.length)),(51,.t (tI i))]
theorem qD9 {Q:AX->St->Prop} (D:Ci) (n:Nat) (hD:q5R D n) (hn:n<=1000000) (row:Sl Int) (hr:row.l.length<=1000000) (hin:∀ k∈row.l,0<=k/\k<n) (R:WS)
  (ν0:Nat->Nat) (W0:WS) (h0:∀ ν,Nu9 ν->Kp ν0 W0 ν R->Q (.exit 0) ⟨qAs row row.l.length++[(52,.t (tB false))],hW D n R ν⟩) :
  ∀ (j i:Nat) (W:WS) (ν:Nat->Nat),j+i=row.l.length->Nu9 ν->Kp ν0 W0 ν W->WOk n W->(row.l.drop i).foldl (G8 D) W=R ->
  run Tryz.prog Γ Jt Q ⟨qAs row i,hW D n W ν⟩
 | 0,i,W,ν,h,hν,hkp,hW',hR=>by
  refine T8 fun K hK=>?_
  have h2:i=row.l.length:=by omega
  subst h2
  rw[xzs]at hR
  subst hR
  have:=h0 ν hν hkp
  simp[qAs,hW,As]at this
  simp[qAs,hW,As]
  simpa using this
 | j+1,i,W,ν,h,hν,hkp,hw,hR=>by
  refine T8 fun K hK=>?_
  have h2:i<row.l.length:=by omega
  rw[xqq h2]at hR
  have e:=gE (f:=tI) 0 h2
  have e':=gE' (f:=tI) 0 h2
  have hq:=hin _ (xqj h2)
  rw[Be h2]at e e'
  generalize row.l[i]=k at *
  simp only[xz4]at hR
  have hkn:k.toNat<n:=by omega
  have hkq:k.toNat<W.q.length:=by rw[hw.ql];exact hkn
  have hkl:k.toNat<D.lev.l.length:=by rw[hD.ln];exact hkn
  have eq:=gE (f:=tB) true hkq
  have eq':=gE' (f:=tB) true hkq
  have el:=gE (f:=tI) 0 hkl
  have el':=gE' (f:=tI) 0 hkl
  have hlv:=hD.lv _ (xqj hkl)
  have hlw:q1d D k=(D.lev.l.getD k.toNat 0).toNat:=rfl
  rw[Be hkl]at el el' hlw
  have w1:=Nl (i:=i) (by omega)
  by_cases hb:W.q.getD k.toNat true=true
  ·have hen:G8 D W k=W:=by unfold G8;rw[hb];rfl
   rw[hb]at eq eq'
   rw[hen]at hR
   have ih:=qD9 D n hD hn row hr hin R ν0 W0 h0 j (i+1) W ν (by omega) hν hkp hw hR
   simp[qAs,hW,As,Bg]at ih
   simp[qAs,hW,As,Bg,h2,A6,A9,e,e',eq,eq',hq,hw.ql,hkn,hb,w1]
   rw[hK]
   simpa using ih
  ·have hen:G8 D W k={ W with q:=W.q.set k.toNat true,wl:=Us (q1d D k) k W.wl }:=by unfold G8;rw[if_neg hb]
   rw[hen]at hR
   simp only[xzm]at hb
   rw[hb]at eq eq'
   generalize D.lev.l[k.toNat]=lv at *
   have hlt:q1d D k<999:=by omega
   have hlc:lv=((q1d D k:Nat):Int):=by omega
   generalize q1d D k=m at *
   subst hlc
   have hx:=hν m (by omega)
   have hx9:=hν 999 (by omega)
   have hne:¬ ν 999=ν m:=by omega
   have bs:(Au tB W.q).set k.toNat [tB true]=Au tB (W.q.set k.toNat true):=Gf
   have hfind:=qAZ (ν:=ν) (lv:=m) (wl:=W.wl)
   have hfit:=qAa (ν:=ν) (wl:=W.wl)
   have ih:=qD9 D n hD hn row hr hin R ν0 W0 h0 j (i+1) { W with q:=W.q.set k.toNat true,wl:=Us m k W.wl }
   have ho9:A5 (Wq ν W) 100=none:=Dt hw.wl fun u hu e=>by have:=hν u hu;omega
   have hk9:=Kv hν.ok hw.wl (u:=m) (by omega)
   simp only[J5,if_neg (show ¬ m=999 by omega)]at hk9
   cases hl:A5 W.wl m with
   | none =>
    rw[hl]at hfind hk9
    simp only[xzx]at hfind hk9
    simp[qAs,hW,As,Bg]at ih
    simp[qAs,hW,As,Bg,h2,A6,A9,e,e',eq,eq',el,el',hq,hw.ql,hkn,hb,w1,hD.ln,bs,hfind,hfit,ho9]
    refine⟨rfl,_,qAr (D:=D) (n:=n) (m:=m) (W:=W) (W':={ W with q:=W.q.set k.toNat true,wl:=Us m k W.wl }) (L:=[k]) (a:=100) (by omega) hν (by omega) (hw.wl.add hlt) (by simp[Ac,ren1,ren0,B1]) (fun u hu hum=>?_) (fun t ht=>?_) ?_ rfl ?_ ?_,?_⟩
    ·rw[Kv hν.ok hw.wl hu]
     simp only[J5,Re,if_neg hum]
    ·by_cases htm:t=ν m
     ·rw[htm];exact hk9
     ·refine Dt hw.wl fun u hu e=>?_
      by_cases hum:u=m
      ·subst hum;exact htm e
      ·exact ht u hu hum e
    ·simp only[J5,if_neg (show ¬ m=999 by omega),Re,if_true,hl,Option.getD_none,List.nil_append]
    ·have:=qD7 (ν:=ν) (b:=900000+m) (m:=m) (len:=1) (k:=k) (F:=fun a=>a) (G:=Ac (B1 100 (900000+m))) (X:=.ls 100 0 1 none) hw.wl.nd (by rw[hl];rfl) (fun p hp hpm=>by
      have h9:=hν p.1 (by have:=hw.wl.lt p hp;omega)
      have:¬ ν p.1=100:=by omega
      simp[Ac,ren1,ren0,B1,this]) (by simp[Ac,ren1,ren0,B1])
     simpa using this
    ·have:¬ ν 999=100:=by omega
     have h8:¬ 999=m:=by omega
     simp[Ac,ren1,ren0,B1,this,Gq,h8]
    ·simp[w1]
     rw[hK]
     have:=ih (Gq ν m (900000+m)) (by omega) (qD8 hν) (hkp.upd fun u hum=>by simp only[J5,Re,if_neg hum]) (hw.enq hkn hb hlt) hR
     simpa[hW,Bg,As]using this
   | some l =>
    rw[hl]at hfind hk9
    simp only[xql]at hfind hk9
    have hll:=hw.wn (m,l) (by
     have:=J4 hl
     exact this)
    simp only at hll
    simp[qAs,hW,As,Bg]at ih
    have f0:¬ 1000000=ν m:=by omega
    have f1:¬ 1000001=ν m:=by omega
    have f2:¬ 1000002=ν m:=by omega
    have f3:¬ 1000003=ν m:=by omega
    have f4:¬ 1000004=ν m:=by omega
    have hkl:∀ t,A5 (List.map (fun p:Nat×B9=>(p.1,Bn (ν m) p.2)) (List.filter (fun p=>p.1 != ν m) (Wq ν W))) t=if t=ν m then none else A5 (Wq ν W) t:=fun t=>by
     have:=Nx (st:=⟨[],Wq ν W⟩) (ν m) t
     refine Eq.trans this ?_
     split
     ·rfl
     ·have key:∀ r,A5 (Wq ν W) t=some r->Bn (ν m) r=r:=fun r hr=>by
       by_cases hu:∃ u,u<1000/\t=ν u
       ·obtain⟨u,hu,rfl⟩:=hu
        rw[Kv hν.ok hw.wl hu]at hr
        cases hcu:J5 W u with
        | none=>rw[hcu]at hr;cases hr
        | some x=>rw[hcu]at hr;cases hr;rfl
       ·rw[Dt hw.wl fun u hu' e=>hu ⟨u,hu',e⟩]at hr;cases hr
      show(A5 (Wq ν W) t).map (Bn (ν m))=A5 (Wq ν W) t
      cases hr:A5 (Wq ν W) t with
      | none=>rfl
      | some r=>simp only[xql,key r hr]
    have hk100:=hkl 100
    rw[if_neg (by omega),ho9]at hk100
    have e9:Af l++[[tI k]]=Af (l++[k]):=E0
    simp[-Bn,-Am,-kill1,q0T,q0U,M5,Zu,q7K,q6D,Yd,q2T,q9P,qAs,hW,As,Bg,h2,A6,A9,e,e',eq,eq',el,el',hq,hw.ql,hkn,hb,w1,hD.ln,bs,hfind,hfit,ho9,hk9,f0,f1,f2,f3,f4,hne,hk100,e9]
    refine⟨rfl,by omega,⟨rfl,fun p hp=>?_⟩,_,qAr (D:=D) (n:=n) (m:=m) (W:=W) (W':={ W with q:=W.q.set k.toNat true,wl:=Us m k W.wl }) (L:=l++[k]) (a:=100) (by omega) hν (by omega) (hw.wl.add hlt) (by simp[Ac,ren1,ren0,B1]) (fun u hu hum=>?_) (fun t ht=>?_) ?_ rfl ?_ ?_,?_⟩
    ·obtain⟨q,hq',rfl⟩:=xqy.1 hp
     exact hfit q hq'
    ·rw[hkl,if_neg (fun e=>hum (hν.ok.inj u m hu (by omega) e)),Kv hν.ok hw.wl hu]
     simp only[J5,Re,if_neg hum]
    ·rw[hkl]
     by_cases htm:t=ν m
     ·rw[if_pos htm]
     ·rw[if_neg htm]
      refine Dt hw.wl fun u hu e=>?_
      by_cases hum:u=m
      ·subst hum;exact htm e
      ·exact ht u hu hum e
    ·simp only[J5,if_neg (show ¬ m=999 by omega),Re,if_true,hl,xzy]
    ·exact qD7 (ν:=ν) (b:=900000+m) (m:=m) (len:=l.length+1) (k:=k) (F:=Am (ν m)) (G:=Ac (B1 100 (900000+m))) (X:=.ls 100 0 (l.length+1) none) hw.wl.nd (by rw[hl];rfl) (fun p hp hpm=>by
      have h8:=hw.wl.lt p hp
      have h9:=hν p.1 (by omega)
      have h7:¬ ν p.1=ν m:=fun e=>hpm (hν.ok.inj _ _ (by omega) (by omega) e)
      have:¬ ν p.1=100:=by omega
      rw[M5 h7]
      simp[Ac,ren1,ren0,B1,this]) (by simp[Ac,ren1,ren0,B1])
    ·have:¬ ν 999=100:=by omega
     have h8:¬ 999=m:=by omega
     simp[Ac,ren1,ren0,B1,this,Gq,h8]
    ·simp[w1]
     rw[hK]
     have:=ih (Gq ν m (900000+m)) (by omega) (qD8 hν) (hkp.upd fun u hum=>by simp only[J5,Re,if_neg hum]) (hw.enq hkn hb hlt) hR
     simpa[hW,Bg,As]using this
def Hj (D:Ci) (W:WS) (n:Int) (v:Int):WS:=if W.nets.getD n.toNat 0=v then W else(D.rdr.l.getD n.toNat Sl.z).l.foldl (G8 D) { W with nets:=W.nets.set n.toNat v,ch:=W.ch++[n] }
def D9 (u:Nat):Nat:=1000005+u
theorem q2U:Nu9 D9:=fun u _=>.inl rfl
theorem qJb {ν:Nat->Nat} {W:WS} (hν:q85 ν) (hw:Wa W.wl) (K t:Nat):A5 (List.map (fun p:Nat×B9=>(p.1,Bn K p.2)) (List.filter (fun p=>p.1 != K) (Wq ν W))) t=if t=K then none else A5 (Wq ν W) t:=by
 have:=Nx (st:=⟨[],Wq ν W⟩) K t
 refine Eq.trans this ?_
 split
 ·rfl
 ·have key:∀ r,A5 (Wq ν W) t=some r->Bn K r=r:=fun r hr=>by
   by_cases hu:∃ u,u<1000/\t=ν u
   ·obtain⟨u,hu,rfl⟩:=hu
    rw[Kv hν hw hu]at hr
    cases hcu:J5 W u with
    | none=>rw[hcu]at hr;cases hr
    | some x=>rw[hcu]at hr;cases hr;rfl
   ·rw[Dt hw fun u hu' e=>hu ⟨u,hu',e⟩]at hr;cases hr
  show(A5 (Wq ν W) t).map (Bn K)=A5 (Wq ν W) t
  cases hr:A5 (Wq ν W) t with
  | none=>rfl
  | some r=>simp only[xql,key r hr]
def hWX:=hW
theorem qFi (D:Ci) (n:Nat) (hD:q5R D n) (hn:n<=1000000) (W:WS) (hw:WOk n W) (hc:W.ch.length<=1000000) (x v:Int) (hx:0<=x/\x<n) (ν:Nat->Nat) (hν:Nu9 ν) :
  ∃ ν',Nu9 ν'/\Kp ν W ν' (Hj D W x v)/\Bm Tryz.prog Γ 44 (hW D n W ν) [.lp 1000000 0 0,.t (tI x),.t (tK v)] (.t (.tup [])) (hW D n (Hj D W x v) ν'):=by
 have key:∃ res hp',Bm Tryz.prog Γ 44 (hW D n W ν) [.lp 1000000 0 0,.t (tI x),.t (tK v)] res hp'/\(res=.t (.tup [])/\∃ ν',Nu9 ν'/\Kp ν W ν' (Hj D W x v)/\hp'=hWX D n (Hj D W x v) ν'):=by
  refine q6U q4q rfl ?_
  have hxn:x.toNat<n:=by omega
  have hxl:x.toNat<W.nets.length:=by rw[hw.nl];exact hxn
  have hxr:x.toNat<D.rdr.l.length:=by rw[hD.rn];exact hxn
  have e:=gE (f:=tK) 0 hxl
  have e':=gE' (f:=tK) 0 hxl
  have er:=gE (f:=As) Sl.z hxr
  have er':=gE' (f:=As) Sl.z hxr
  have hrow:D.rdr.l.getD x.toNat Sl.z∈D.rdr.l:=by
   have:D.rdr.l.getD x.toNat Sl.z=D.rdr.l[x.toNat]:=by simp[xqe,hxr]
   rw[this];exact xqj hxr
  obtain⟨hr1,hr2⟩:=hD.rr _ hrow
  have hset:Hj D W x v=if W.nets.getD x.toNat 0=v then W else(D.rdr.l.getD x.toNat Sl.z).l.foldl (G8 D) { W with nets:=W.nets.set x.toNat v,ch:=W.ch++[x] }:=rfl
  rw[hset]
  generalize D.rdr.l.getD x.toNat Sl.z=row at *
  generalize hnv:W.nets.getD x.toNat 0=u at *
  by_cases huv:u=v
  ·rw[if_pos huv]
   subst huv
   simp[Qc,Ju,hW,Bg,As,A6,A9,hx,hxn,hw.nl,e,e']
   exact⟨ν,hν,Kp.refl _ _,rfl⟩
  ·rw[if_neg huv]
   have vs:(Ar W.nets).set x.toNat [tK v]=Ar (W.nets.set x.toNat v):=Gf
   have hx9:=hν 999 (by omega)
   have hk9:=Kv hν.ok hw.wl (u:=999) (by omega)
   simp only[J5,if_true,xql]at hk9
   have f0:¬ 1000000=ν 999:=by omega
   have f1:¬ 1000001=ν 999:=by omega
   have f2:¬ 1000002=ν 999:=by omega
   have f3:¬ 1000003=ν 999:=by omega
   have f4:¬ 1000004=ν 999:=by omega
   have f5:¬ 37=ν 999:=by omega
   have hkl:=qJb hν.ok hw.wl (ν 999)
   have ho9:A5 (Wq ν W) 37=none:=Dt hw.wl fun u hu e=>by have:=hν u hu;omega
   have hk37:=hkl 37
   rw[if_neg f5,ho9]at hk37
   have e9:Af W.ch++[[tI x]]=Af (W.ch++[x]):=E0
   have hrd:row.l=[]\/True:=.inr trivial
   simp[-Bn,-Am,-kill1,q0T,q0U,M5,Zu,q7K,q6D,Yd,q2T,q9P,Qc,Ju,hW,Bg,As,A6,A9,hx,hxn,hw.nl,e,e',huv,vs,hk9,f0,f1,f2,f3,f4,hk37,e9]
   refine⟨by omega,_,qAr (D:=D) (n:=n) (m:=999) (W:=W) (W':={ W with nets:=W.nets.set x.toNat v,ch:=W.ch++[x] }) (L:=W.ch++[x]) (a:=37) (by omega) hν (by omega) hw.wl (by simp[Ac,ren1,ren0,B1]) (fun u hu hum=>?_) (fun t ht=>?_) ?_ rfl ?_ ?_,?_⟩
   ·rw[hkl,if_neg (fun e=>hum (hν.ok.inj u 999 hu (by omega) e)),Kv hν.ok hw.wl hu]
    simp only[J5,if_neg hum]
   ·rw[hkl]
    by_cases htm:t=ν 999
    ·rw[if_pos htm]
    ·rw[if_neg htm]
     refine Dt hw.wl fun u hu e=>?_
     by_cases hum:u=999
     ·subst hum;exact htm e
     ·exact ht u hu hum e
   ·simp only[J5,if_true]
   ·simp only[F9,xq5]
    refine xq1 fun p hp=>?_
    have h8:=hw.wl.lt p hp
    have h9:=hν p.1 (by omega)
    have h7:¬ ν p.1=ν 999:=by omega
    have h6:¬ ν p.1=37:=by omega
    have h5:¬ p.1=999:=by omega
    simp only[Function.comp,M5 h7]
    simp[Ac,ren1,ren0,B1,h6,Gq,h5]
   ·simp[Ac,ren1,ren0,B1,Gq]
   ·have hw2:WOk n { W with nets:=W.nets.set x.toNat v,ch:=W.ch++[x] }:=⟨by simpa using hw.nl,hw.ql,hw.wl,hw.wn⟩
    have hl:=fun Q h0=>qD9 (Γ:=Γ) (Q:=Q) D n hD hn row hr1 hr2 (row.l.foldl (G8 D) { W with nets:=W.nets.set x.toNat v,ch:=W.ch++[x] }) ν W h0 row.l.length 0 { W with nets:=W.nets.set x.toNat v,ch:=W.ch++[x] } (Gq ν 999 (900000+999)) (by omega) (qD8 hν) ((Kp.refl ν W).upd fun u hum=>by simp only[J5,if_neg hum]) hw2 rfl
    generalize (row.l.foldl (G8 D) { W with nets:=W.nets.set x.toNat v,ch:=W.ch++[x] })=RW at *
    simp[hW,Bg,As,qAs]at hl
    simp[hW,Bg,As,qJC,er,er',A6,A9,hx,hxn,hD.rn]
    refine hl _ fun ν' hν' hk'=>?_
    simp[Ju]
    exact⟨ν',hν',hk',rfl⟩
 obtain⟨res,hp',h,rfl,ν',hν',hk',rfl⟩:=key
 exact⟨ν',hν',hk',h⟩
def hG (J:Nat->Nat) (D:Ci) (n:Nat) (W:WS) (ν:Nat->Nat):List (Nat×B9) :=
 (J 0,.bx [.lp (J 1) 0 0,.lm (J 4),.ls (J 3) 0 n none,.ls (ν 999) 0 W.ch.length none])::(J 1,.bx (Bg D (J 2) n W.ev))::(J 2,.sl 65 1 (Ar W.nets))::(J 3,.sl 4 1 (Au tB W.q))::(J 4,.mr (F9 ν W.wl))::Wq ν W
structure JOk (J ν:Nat->Nat):Prop where
 ji:∀ i j,i<5->j<5->J i=J j->i=j
 ni:∀ u v,u<1000->v<1000->ν u=ν v->u=v
 jn:∀ i u,i<5->u<1000->J i≠ν u
def Q1 (J ν:Nat->Nat):List Nat:=(List.range 5).map J++(List.range 1000).map ν
theorem qDA {J ν:Nat->Nat}:(Q1 J ν).length=1005:=by simp[Q1]
theorem qM9 {J ν:Nat->Nat} {i:Nat} (h:i<5):(Q1 J ν)[i]? = some (J i):=by
 unfold Q1
 rw[xzd (by simpa using h)]
 simp[h]
theorem qJc {J ν:Nat->Nat} {u:Nat} (h:u<1000):(Q1 J ν)[5+u]? = some (ν u):=by
 unfold Q1
 rw[xze (by simp)]
 simp[h]
theorem Fg {J ν:Nat->Nat} {t:Nat}:t∈Q1 J ν↔(∃ i,i<5/\t=J i)\/∃ u,u<1000/\t=ν u:=by
 unfold Q1
 simp only[xzg,xqy,List.mem_range]
 constructor
 ·rintro(⟨i,hi,rfl⟩|⟨u,hu,rfl⟩)
  ·exact .inl ⟨i,hi,rfl⟩
  ·exact .inr ⟨u,hu,rfl⟩
 ·rintro(⟨i,hi,rfl⟩|⟨u,hu,rfl⟩)
  ·exact .inl ⟨i,hi,rfl⟩
  ·exact .inr ⟨u,hu,rfl⟩
theorem q5S {f:Nat->Nat} {l:List Nat} (hl:l.Nodup) (hf:∀ a∈l,∀ b∈l,f a=f b->a=b):(l.map f).Nodup:=by
 rw[List.Nodup,List.pairwise_map]
 exact List.Pairwise.imp_of_mem (fun ha hb hne e=>hne (hf _ ha _ hb e)) hl
theorem qFj {J ν:Nat->Nat} (h:JOk J ν):(Q1 J ν).Nodup:=by
 unfold Q1
 rw[List.nodup_append]
 refine⟨?_,?_,?_⟩
 ·refine q5S List.nodup_range fun a ha b hb e=>?_
  exact h.ji a b (List.mem_range.1 ha) (List.mem_range.1 hb) e
 ·refine q5S List.nodup_range fun a ha b hb e=>?_
  exact h.ni a b (List.mem_range.1 ha) (List.mem_range.1 hb) e
 ·intro a ha b hb
  obtain⟨i,hi,rfl⟩:=xqy.1 ha
  obtain⟨u,hu,rfl⟩:=xqy.1 hb
  exact h.jn i u (List.mem_range.1 hi) (List.mem_range.1 hu)
theorem qAt {l:List Nat} (hn:l.Nodup) {k t:Nat} (h:l[k]? = some t):l.idxOf t=k:=by
 obtain⟨hk,rfl⟩:=xqi.1 h
 exact hn.idxOf_getElem k hk
theorem qGu {J ν:Nat->Nat} (h:JOk J ν) {i:Nat} (hi:i<5):(Q1 J ν).idxOf (J i)=i:=qAt (qFj h) (qM9 hi)
theorem qJd {J ν:Nat->Nat} (h:JOk J ν) {u:Nat} (hu:u<1000):(Q1 J ν).idxOf (ν u)=5+u:=qAt (qFj h) (qJc hu)
theorem qCM {J ν:Nat->Nat} (h:JOk J ν) {i:Nat} (hi:i<5):To (Q1 J ν) (J i)=some (1000000+i):=by
 unfold To
 rw[if_pos (by simpa using Fg.2 (.inl ⟨i,hi,rfl⟩)),qGu h hi]
theorem qMA {J ν:Nat->Nat} (h:JOk J ν) {u:Nat} (hu:u<1000):To (Q1 J ν) (ν u)=some (1000005+u):=by
 unfold To
 rw[if_pos (by simpa using Fg.2 (.inr ⟨u,hu,rfl⟩)),qJd h hu]
 congr 1;omega
theorem Uz {J ν:Nat->Nat} {D:Ci} {n:Nat} {W:WS} (h:JOk J ν):A5 (hG J D n W ν) (J 0)=some (.bx [.lp (J 1) 0 0,.lm (J 4),.ls (J 3) 0 n none,.ls (ν 999) 0 W.ch.length none])/\A5 (hG J D n W ν) (J 1)=some (.bx (Bg D (J 2) n W.ev)) /\
  A5 (hG J D n W ν) (J 2)=some (.sl 65 1 (Ar W.nets))/\A5 (hG J D n W ν) (J 3)=some (.sl 4 1 (Au tB W.q))/\A5 (hG J D n W ν) (J 4)=some (.mr (F9 ν W.wl)):=by
 have hne:∀ i j,i<5->j<5->i≠j->¬ J i=J j:=fun i j hi hj hij e=>hij (h.ji i j hi hj e)
 refine⟨?_,?_,?_,?_,?_⟩<;>simp[hG,A5,hne]
theorem V0 {J ν:Nat->Nat} {D:Ci} {n:Nat} {W:WS} (h:JOk J ν) (hν:q85 ν) (hw:Wa W.wl) {u:Nat} (hu:u<1000):A5 (hG J D n W ν) (ν u)=(J5 W u).map fun l=>.sl 3 1 (Af l):=by
 have hne:∀ i,i<5->¬ J i=ν u:=fun i hi=>h.jn i u hi hu
 rw[<- Kv hν hw hu]
 simp[hG,A5,hne]
theorem Dp {J ν:Nat->Nat} {D:Ci} {n:Nat} {W:WS} (hw:Wa W.wl) {t:Nat} (h1:∀ i,i<5->t≠J i) (h2:∀ u,u<1000->t≠ν u):A5 (hG J D n W ν) t=none:=by
 have hne:∀ i,i<5->¬ J i=t:=fun i hi e=>h1 i hi e.symm
 rw[<- Dt hw h2]
 simp[hG,A5,hne]
theorem qAu {D:Ci} {n:Nat} {W:WS} {ν:Nat->Nat}:hW D n W ν=hG (fun i=>1000000+i) D n W ν:=rfl
theorem kJ {c:Nat} {ν:Nat->Nat} (hν:NuC c ν) (hc:800000<=c:=by omega) (hc2:c<=900000:=by omega):JOk (fun i=>1000000+i) ν:=⟨fun i j hi hj e=>by omega,hν.ok.inj,fun i u hi hu e=>by have:=hν u hu;omega⟩
theorem qI0 {J ν:Nat->Nat} {D:Ci} {n:Nat} {W:WS} {hp:List (Nat×B9)} (h:JOk J ν) (hν:q85 ν) (hw:Wa W.wl) (hl:∀ t,t∈Q1 J ν->A5 hp t=A5 (hG J D n W ν) t) (t:Nat):A5 (C6 (Q1 J ν) hp) t=A5 (hW D n W D9) t:=by
 obtain⟨g0,g1,g2,g3,g4⟩:=Uz (D:=D) (n:=n) (W:=W) h
 obtain⟨k0,k1,k2,k3,k4⟩:=Uz (D:=D) (n:=n) (W:=W) (kJ q2U)
 have hJ:∀ i,i<5->J i∈Q1 J ν:=fun i hi=>Fg.2 (.inl ⟨i,hi,rfl⟩)
 have hN:∀ u,u<1000->ν u∈Q1 J ν:=fun u hu=>Fg.2 (.inr ⟨u,hu,rfl⟩)
 have hat:∀ i r,i<5->A5 (hG J D n W ν) (J i)=some r->A5 (C6 (Q1 J ν) hp) (1000000+i)=some (B7 (To (Q1 J ν)) r):=fun i r hi hr=>by
  have:=q1s (hJ i hi) ((hl _ (hJ i hi)).trans hr)
  rwa [qGu h hi]at this
 rw[qAu]
 by_cases ht:1000000<=t/\t<1000005
 ·obtain⟨j,hj,rfl⟩:∃ j,j<5/\t=1000000+j:=⟨t-1000000,by omega,by omega⟩
  have fJ:=fun i hi=>qCM h (i:=i) hi
  have f9:=qMA h (u:=999) (by omega)
  have:j=0\/j=1\/j=2\/j=3\/j=4:=by omega
  rcases this with rfl|rfl|rfl|rfl|rfl
  ·rw[hat 0 _ (by omega) g0,k0]
   simp[-To,B7,Ac,ren1,ren0,fJ,f9,D9]
  ·rw[hat 1 _ (by omega) g1,k1]
   simp[-To,B7,Ac,ren1,ren0,fJ,f9,Bg]
  ·rw[hat 2 _ (by omega) g2,k2];rfl
  ·rw[hat 3 _ (by omega) g3,k3];rfl
  ·rw[hat 4 _ (by omega) g4,k4]
   simp only[B7,F9,xq5]
   congr 2
   refine xq1 fun p hp=>?_
   have h8:=hw.lt p hp
   simp[-To,Function.comp,Ac,ren1,ren0,qMA h (u:=p.1) (by omega),D9]
 ·by_cases hu:∃ u,u<1000/\t=1000005+u
  ·obtain⟨u,hu,rfl⟩:=hu
   have e:=V0 (D:=D) (n:=n) h hν hw hu
   have e2:=V0 (D:=D) (n:=n) (kJ q2U) q2U.ok hw hu
   rw[show D9 u=1000005+u from rfl]at e2
   rw[e2]
   cases hc:J5 W u with
   | none =>
    rw[hc]at e
    cases hh:A5 (C6 (Q1 J ν) hp) (1000005+u) with
    | none=>rfl
    | some r =>
     obtain⟨i,q,h1,h2,h3,h4⟩:=q4T hh
     have hi:i=ν u:=by
      have h5:=(xqi.1 (qJc (J:=J) (ν:=ν) hu))
      have h6:=List.getElem_idxOf (List.idxOf_lt_length_of_mem h1)
      rw[<- h6]
      have:(Q1 J ν).idxOf i=5+u:=by omega
      simp only[this]
      exact h5.2
     rw[hi,hl _ (hN u hu),e]at h2
     cases h2
   | some l =>
    rw[hc]at e
    have:=q1s (hN u hu) ((hl _ (hN u hu)).trans e)
    rw[qJd h hu,show 1000000+(5+u)=1000005+u by omega]at this
    rw[this];rfl
  ·rw[Dp (ν:=D9) hw (fun i hi e=>ht ⟨by omega,by omega⟩) (fun u hu' e=>hu ⟨u,hu',e⟩)]
   cases hh:A5 (C6 (Q1 J ν) hp) t with
   | none=>rfl
   | some r =>
    obtain⟨i,q,h1,h2,h3,h4⟩:=q4T hh
    have:=List.idxOf_lt_length_of_mem h1
    rw[qDA]at this
    exfalso
    by_cases h5:(Q1 J ν).idxOf i<5
    ·exact ht ⟨by omega,by omega⟩
    ·exact hu ⟨(Q1 J ν).idxOf i-5,by omega,by omega⟩
def Dc (ν ν':Nat->Nat) (base u:Nat):Nat:=if ν' u=1000005+u then ν u else base+ν' u
theorem qMB {J ν:Nat->Nat} {base i:Nat} (hi:i<5):X4 (Q1 J ν) base (1000000+i)=J i:=by
 unfold X4
 rw[if_neg (by omega),show 1000000+i-1000000=i by omega,xqe,qM9 hi];rfl
theorem qJe {c:Nat} (hc2:c<=900000) {J ν ν':Nat->Nat} {base u:Nat} (hν':NuC c ν') (hu:u<1000):X4 (Q1 J ν) base (ν' u)=Dc ν ν' base u:=by
 unfold X4 Dc
 rcases hν' u hu with e|e
 ·rw[e,if_neg (by omega),if_pos rfl,show 1000005+u-1000000=5+u by omega,xqe,qJc hu];rfl
 ·rw[e,if_pos (by omega),if_neg (by omega)]
theorem qGv {rs:List Nat} {base:Nat} {hp:List (Nat×B9)}:∀ {l:List (Nat×B9)},(∀ p∈l,if p.1<1000000 then A5 hp (base+p.1)=none/\base+p.1<1000000 else p.1-1000000<rs.length/\(A5 hp (rs.getD (p.1-1000000) 0)).map B9.sh=some p.2.sh)->X5 rs base hp l
 | [],_=>trivial
 | (j,r)::l,h=>⟨h (j,r) xqh,qGv fun p hp=>h p (xqf _ hp)⟩
theorem q9Q {ν:Nat->Nat} {W:WS} (hw:Wa W.wl) {p:Nat×B9} (h:p∈Wq ν W):∃ u l,u<1000/\J5 W u=some l/\p=(ν u,.sl 3 1 (Af l)):=by
 rcases xqv.1 h with rfl|h
 ·exact⟨999,W.ch,by omega,by simp[J5],rfl⟩
 ·obtain⟨q,hq,rfl⟩:=xqy.1 h
  have hlt:=hw.lt q hq
  refine⟨q.1,q.2,by omega,?_,rfl⟩
  simp only[J5,if_neg (show ¬ q.1=999 by omega)]
  have key:∀ wl:List (Nat×List Int),(wl.map (·.1)).Nodup->q∈wl->A5 wl q.1=some q.2:=by
   intro wl
   induction wl with
   | nil=>intro _ h;cases h
   | cons a wl ih =>
    intro hn hm
    simp only[xqm,xzj]at hn
    simp only[A5]
    rcases xqv.1 hm with rfl|hm
    ·simp
    ·have:¬ a.1=q.1:=fun e=>hn.1 (e ▸ xzk hm)
     rw[if_neg this]
     exact ih hn.2 hm
  exact key W.wl hw.nd hq
theorem qJf {c:Nat} (hc1:800000<=c) (hc2:c<=900000) {J ν ν':Nat->Nat} {D:Ci} {n base:Nat} {W W':WS} {hp:List (Nat×B9)} (h:JOk J ν) (hν:q85 ν) (hw:WOk n W) (hw':WOk n W') (hν':NuC c ν') (hk:Kp D9 W ν' W') (hl:∀ t,t∈Q1 J ν->A5 hp t=A5 (hG J D n W ν) t)
  (hf:∀ u,u<1000->A5 hp (base+(c+u))=none) (hb:base+c<=999000):X5 (Q1 J ν) base hp (hW D n W' ν'):=by
 obtain⟨g0,g1,g2,g3,g4⟩:=Uz (D:=D) (n:=n) (W:=W) h
 have hJ:∀ i r,i<5->A5 (hG J D n W ν) (J i)=some r->∀ q:B9,q.sh=r.sh->(if(1000000+i,q).1<1000000 then A5 hp (base+(1000000+i,q).1)=none/\base+(1000000+i,q).1<1000000 else(1000000+i,q).1-1000000<(Q1 J ν).length/\(A5 hp ((Q1 J ν).getD ((1000000+i,q).1-1000000) 0)).map B9.sh=some (1000000+i,q).2.sh):=fun i r hi hr q hq=>by
  simp only
  rw[if_neg (by omega),qDA]
  refine⟨by omega,?_⟩
  have:=qMB (J:=J) (ν:=ν) (base:=base) hi
  unfold X4 at this
  rw[if_neg (by omega)]at this
  rw[this,hl _ (Fg.2 (.inl ⟨i,hi,rfl⟩)),hr,hq];rfl
 have vl:(Ar W'.nets).length=(Ar W.nets).length:=by rw[A6,A6,hw.nl,hw'.nl]
 have ql:(Au tB W'.q).length=(Au tB W.q).length:=by rw[A6,A6,hw.ql,hw'.ql]
 refine qGv fun p hp'=>?_
 unfold hW at hp'
 rcases xqv.1 hp' with rfl|hp'
 ·exact hJ 0 _ (by omega) g0 _ rfl
 rcases xqv.1 hp' with rfl|hp'
 ·exact hJ 1 _ (by omega) g1 _ rfl
 rcases xqv.1 hp' with rfl|hp'
 ·exact hJ 2 _ (by omega) g2 _ (by simp[B9.sh,vl])
 rcases xqv.1 hp' with rfl|hp'
 ·exact hJ 3 _ (by omega) g3 _ (by simp[B9.sh,ql])
 rcases xqv.1 hp' with rfl|hp'
 ·exact hJ 4 _ (by omega) g4 _ rfl
 obtain⟨u,l,hu,hc,rfl⟩:=q9Q hw'.wl hp'
 simp only
 rcases hν' u hu with e|e
 ·rw[e,if_neg (by omega),qDA]
  refine⟨by omega,?_⟩
  have:=qJe hc2 (J:=J) (ν:=ν) (base:=base) hν' hu
  unfold X4 Dc at this
  rw[e,if_neg (by omega),if_pos rfl]at this
  rw[this,hl _ (Fg.2 (.inr ⟨u,hu,rfl⟩)),V0 h hν hw.wl hu,<- (hk u hu e).2,hc];rfl
 ·rw[e,if_pos (by omega)]
  exact⟨hf u hu,by omega⟩
theorem qI1 {c:Nat} (hc1:800000<=c) (hc2:c<=900000) {J ν ν':Nat->Nat} {D:Ci} {n base:Nat} {W W':WS} {hp:List (Nat×B9)} {E:List (Nat×AV)} (h:JOk J ν) (hν:q85 ν) (hw:WOk n W) (hw':WOk n W') (hν':NuC c ν') (hk:Kp D9 W ν' W') (hl:∀ t,t∈Q1 J ν->A5 hp t=A5 (hG J D n W ν) t)
  (hf:∀ u,u<1000->A5 hp (base+(c+u))=none) (hnb:∀ u v,u<1000->v<1000->ν u≠base+(c+v)) (hJb:∀ i v,i<5->v<1000->J i≠base+(c+v)) (t:Nat) :
  ((t∈Q1 J ν\/(∃ u,u<1000/\t=base+(c+u)))->A5 (Ep (Q1 J ν) base (hW D n W' ν') ⟨E,hp⟩).hp t=A5 (hG J D n W' (Dc ν ν' base)) t) /\
  (¬ (t∈Q1 J ν\/(∃ u,u<1000/\t=base+(c+u)))->A5 (Ep (Q1 J ν) base (hW D n W' ν') ⟨E,hp⟩).hp t=(A5 hp t).map (B7 (Ot (Q1 J ν) (hW D n W' ν')))):=by
 obtain⟨g0,g1,g2,g3,g4⟩:=Uz (D:=D) (n:=n) (W:=W) h
 obtain⟨k0,k1,k2,k3,k4⟩:=Uz (D:=D) (n:=n) (W:=W') (kJ hν')
 rw[<- qAu]at k0 k1 k2 k3 k4
 have hJ'':JOk J (Dc ν ν' base):=by
  refine⟨h.ji,fun u v hu hv e=>?_,fun i u hi hu e=>?_⟩
  ·unfold Dc at e
   split at e<;>split at e
   ·exact h.ni u v hu hv e
   ·rename_i h1 h2
    have:=hν' v hv
    exact absurd (e.trans (by omega:base+ν' v=base+(c+v))) (hnb u v hu hv)
   ·rename_i h1 h2
    have:=hν' u hu
    exact absurd (e.symm.trans (by omega:base+ν' u=base+(c+u))) (hnb v u hv hu)
   ·rename_i h1 h2
    have:=hν' u hu
    have:=hν' v hv
    omega
  ·unfold Dc at e
   split at e
   ·exact h.jn i u hi hu e
   ·have:=hν' u hu
    exact hJb i u hi hu (e.trans (by omega))
 have hν'':∀ u,u<1000->A5 (hG J D n W' (Dc ν ν' base)) (Dc ν ν' base u)=(J5 W' u).map fun l=>.sl 3 1 (Af l):=by
  intro u hu
  have hne:∀ i,i<5->¬ J i=Dc ν ν' base u:=fun i hi=>hJ''.jn i u hi hu
  have key:∀ wl:List (Nat×List Int),(∀ p∈wl,p.1<999)->A5 (wl.map fun p=>(Dc ν ν' base p.1,B9.sl 3 1 (Af p.2))) (Dc ν ν' base u)=(A5 wl u).map fun l=>.sl 3 1 (Af l):=by
   intro wl
   induction wl with
   | nil=>intro _;rfl
   | cons q wl ih =>
    obtain⟨m,l⟩:=q
    intro hlt
    simp only[xqm,A5]
    by_cases hm:m=u
    ·subst hm;simp
    ·have h2:¬ Dc ν ν' base m=Dc ν ν' base u:=fun e=>hm (hJ''.ni m u (by have:=hlt (m,l) xqh;simp at this;omega) hu e)
     rw[if_neg h2,if_neg hm]
     exact ih fun p hp=>hlt p (xqf _ hp)
  have:A5 (Wq (Dc ν ν' base) W') (Dc ν ν' base u)=(J5 W' u).map fun l=>.sl 3 1 (Af l):=by
   simp only[Wq,A5,J5]
   by_cases hm:u=999
   ·subst hm;simp
   ·have h2:¬ Dc ν ν' base 999=Dc ν ν' base u:=fun e=>hm (hJ''.ni 999 u (by omega) hu e).symm
    rw[if_neg h2,if_neg hm]
    exact key W'.wl hw'.wl.lt
  rw[<- this]
  simp[hG,A5,hne]
 have hout:∀ t,(∀ i,i<5->t≠J i)->(∀ u,u<1000->t≠Dc ν ν' base u)->A5 (hG J D n W' (Dc ν ν' base)) t=none:=fun t h1 h2=>Dp hw'.wl h1 h2
 have hsmall:∀ q,q<1000000->(∀ u,u<1000->q≠c+u)->A5 (hW D n W' ν') q=none:=fun q hq h1=>by
  rw[qAu]
  exact Dp hw'.wl (fun i hi e=>by omega) fun u hu e=>by
   rcases hν' u hu with e2|e2
   ·omega
   ·exact h1 u hu (by omega)
 have hcu:∀ u,u<1000->A5 (hW D n W' ν') (ν' u)=(J5 W' u).map fun l=>.sl 3 1 (Af l):=fun u hu=>by rw[qAu];exact V0 (kJ hν') hν'.ok hw'.wl hu
 have hnews:(∀ u,u<1000->t≠base+(c+u))->A5 (L9 (Q1 J ν) base (hW D n W' ν')) t=none:=fun h1=>by
  rw[q0x]
  split
  ·rename_i h2
   rw[hsmall (t-base) h2.2 fun u hu e=>h1 u hu (by omega)];rfl
  ·rfl
 have hbk:A5 (Ep (Q1 J ν) base (hW D n W' ν') ⟨E,hp⟩).hp t=(A5 (L9 (Q1 J ν) base (hW D n W' ν')) t).or (A5 (q4t (Q1 J ν) base (hW D n W' ν') hp) t):=D1
 rw[hbk]
 by_cases hb:∃ u,u<1000/\t=base+(c+u)
 ·refine⟨fun _=>?_,fun hn=>absurd (Or.inr hb) hn⟩
  obtain⟨u,hu,rfl⟩:=hb
  have hnr:base+(c+u)∉Q1 J ν:=fun hm=>by
   rcases Fg.1 hm with⟨i,hi,e⟩|⟨v,hv,e⟩
   ·exact hJb i u hi hu e.symm
   ·exact hnb v u hv hu e.symm
  have hol:A5 (q4t (Q1 J ν) base (hW D n W' ν') hp) (base+(c+u))=none:=by
   rw[Kx,if_neg (by simpa using hnr),hf u hu];rfl
  rw[hol,Option.or_none,q0x]
  by_cases hb2:c+u<1000000
  ·rw[if_pos ⟨by omega,by omega⟩,show base+(c+u)-base=c+u by omega]
   rcases hν' u hu with e|e
   ·have h1:A5 (hW D n W' ν') (c+u)=none:=by
     rw[qAu]
     exact Dp hw'.wl (fun i hi e=>by omega) fun v hv e2=>by
      rcases hν' v hv with e3|e3
      ·omega
      ·have:v=u:=by omega
       subst this;omega
    rw[h1]
    refine(hout _ (fun i hi e2=>hJb i u hi hu e2.symm) fun v hv e2=>?_).symm
    unfold Dc at e2
    split at e2
    ·exact hnb v u hv hu e2.symm
    ·rename_i h3
     have:=hν' v hv
     have:v=u:=by omega
     subst this;exact h3 e
   ·have:=hν'' u hu
    rw[show Dc ν ν' base u=base+(c+u)by unfold Dc;rw[if_neg (by omega),e]]at this
    rw[this,<- e,hcu u hu]
    cases J5 W' u<;>rfl
  ·omega
 ·have hb':∀ u,u<1000->t≠base+(c+u):=fun u hu e=>hb ⟨u,hu,e⟩
  rw[hnews hb',Option.none_or,Kx]
  by_cases hm:t∈Q1 J ν
  ·refine⟨fun _=>?_,fun hn=>absurd (Or.inl hm) hn⟩
   rw[if_pos (by simpa using hm)]
   rcases Fg.1 hm with⟨i,hi,rfl⟩|⟨u,hu,rfl⟩
   ·rw[qGu h hi,hl _ hm]
    have b9:=qJe hc2 (J:=J) (ν:=ν) (base:=base) hν' (show 999<1000 by omega)
    have bJ:=fun i hi=>qMB (J:=J) (ν:=ν) (base:=base) (i:=i) hi
    have b1:=bJ 1 (by omega)
    have b2:=bJ 2 (by omega)
    have b3:=bJ 3 (by omega)
    have b4:=bJ 4 (by omega)
    simp only[Nat.reduceAdd]at b1 b2 b3 b4
    obtain⟨p0,p1,p2,p3,p4⟩:=Uz (D:=D) (n:=n) (W:=W') hJ''
    have:i=0\/i=1\/i=2\/i=3\/i=4:=by omega
    rcases this with rfl|rfl|rfl|rfl|rfl
    ·rw[g0,k0,p0]
     simp[-X4,B7,Ac,ren1,ren0,b1,b3,b4,b9]
    ·rw[g1,k1,p1]
     simp[-X4,B7,Ac,ren1,ren0,b2,Bg]
    ·rw[g2,k2,p2];rfl
    ·rw[g3,k3,p3];rfl
    ·rw[g4,k4,p4]
     simp only[xqs,xql,B7,F9,xq5]
     congr 2
     refine xq1 fun p hp=>?_
     have h8:=hw'.wl.lt p hp
     have b8:=qJe hc2 (J:=J) (ν:=ν) (base:=base) hν' (show p.1<1000 by omega)
     simp[-X4,Function.comp,Ac,ren1,ren0,b8]
   ·rw[qJd h hu,hl _ hm,V0 h hν hw.wl hu,show 1000000+(5+u)=1000005+u by omega]
    rcases hν' u hu with e|e
    ·have hc':=(hk u hu e).2
     have:=hν'' u hu
     rw[show Dc ν ν' base u=ν u by unfold Dc;rw[if_pos e]]at this
     have h2:=hcu u hu
     rw[e]at h2
     rw[this,h2,<- hc']
     cases J5 W' u<;>rfl
    ·have h1:A5 (hW D n W' ν') (1000005+u)=none:=by
      rw[qAu]
      exact Dp hw'.wl (fun i hi e=>by omega) fun v hv e2=>by
       rcases hν' v hv with e3|e3
       ·have:v=u:=by omega
        subst this;omega
       ·omega
     rw[h1]
     have h3:A5 (hG J D n W' (Dc ν ν' base)) (ν u)=none:=hout _ (fun i hi e2=>h.jn i u hi hu e2.symm) fun v hv e2=>by
      unfold Dc at e2
      split at e2
      ·rename_i e3
       have:=h.ni u v hu hv e2
       subst this;omega
      ·have:=hν' v hv
       exact hnb u v hu hv (by omega)
     rw[h3]
     cases J5 W u<;>rfl
  ·refine⟨fun hn=>(hn.elim hm hb).elim,fun _=>?_⟩
   rw[if_neg (by simpa using hm)]
theorem qLH {rs:List Nat} {hp':List (Nat×B9)} {i:Nat} (h:A5 hp' (1000000+rs.idxOf i)≠none):Ot rs hp' i=some i:=by
 unfold Ot
 rw[if_neg]
 cases hl:A5 hp' (1000000+rs.idxOf i) with
 | none=>exact absurd hl h
 | some r=>simp
theorem q8L {J ν ν':Nat->Nat} {D:Ci} {n:Nat} {W':WS} {c:Nat} (hc1:800000<=c) (hc2:c<=900000) (h:JOk J ν) (hν':NuC c ν') {i:Nat} (hi:i<5):Ot (Q1 J ν) (hW D n W' ν') (J i)=some (J i):=by
 refine qLH ?_
 rw[qGu h hi]
 obtain⟨k0,k1,k2,k3,k4⟩:=Uz (D:=D) (n:=n) (W:=W') (kJ hν')
 rw[qAu]
 have:i=0\/i=1\/i=2\/i=3\/i=4:=by omega
 rcases this with rfl|rfl|rfl|rfl|rfl
 ·rw[k0];simp
 ·rw[k1];simp
 ·rw[k2];simp
 ·rw[k3];simp
 ·rw[k4];simp
theorem qJg {rs:List Nat} {hp':List (Nat×B9)} {i:Nat} (h:i∉rs):Ot rs hp' i=some i:=by
 unfold Ot
 rw[if_neg]
 simp[h]
theorem Yl {c:Nat} (hc1:800000<=c) (hc2:c<=900000) {P:Program} {f:FuncId} {J ν ν':Nat->Nat} {D:Ci} {n base:Nat} {W W':WS} {hp:List (Nat×B9)} {E:List (Nat×AV)} {args:List AV} {lst:List Nat->List AV} {res:T} {K:AV->St->Prop} (h:JOk J ν) (hν:q85 ν) (hw:WOk n W) (hw':WOk n W') (hν':NuC c ν') (hk:Kp D9 W ν' W') (hl:∀ t,t∈Q1 J ν->A5 hp t=A5 (hG J D n W ν) t)
  (hf:∀ u,u<1000->A5 hp (base+(c+u))=none) (hb:base+c<=999000) (hnb:∀ u v,u<1000->v<1000->ν u≠base+(c+v)) (hJb:∀ i v,i<5->v<1000->J i≠base+(c+v))
  (hs:Bm P Γ f (hW D n W D9) args (.t res) (hW D n W' ν')) (has:lst (Q1 J ν)=args) (hE:E.map (fun p=>(p.1,Ac (Ot (Q1 J ν) (hW D n W' ν')) p.2))=E)
  (hK:∀ Bh,(∀ t,(t∈Q1 J ν\/(∃ u,u<1000/\t=base+(c+u)))->A5 Bh t=A5 (hG J D n W' (Dc ν ν' base)) t)->(∀ t,¬ (t∈Q1 J ν\/∃ u,u<1000/\t=base+(c+u))->A5 Bh t=(A5 hp t).map (B7 (Ot (Q1 J ν) (hW D n W' ν'))))->K (.t res) ⟨E,Bh⟩) :
  ∃ rs,rs.Nodup/\Yq P Γ ⟨E,hp⟩ f rs base (C6 rs hp) (lst rs) K ⟨⟩:=by
 refine⟨Q1 J ν,qFj h,.t res,hW D n W' ν',?_,qJf hc1 hc2 h hν hw hw' hν' hk hl hf hb,?_⟩
 ·rw[has]
  exact hs.alike fun t=>qI0 h hν hw.wl hl t
 ·have hB:=qI1 (E:=E) hc1 hc2 h hν hw hw' hν' hk hl hf hnb hJb
  have:=hK (Ep (Q1 J ν) base (hW D n W' ν') ⟨E,hp⟩).hp (fun t ht=>(hB t).1 ht) (fun t ht=>(hB t).2 ht)
  have e:Ep (Q1 J ν) base (hW D n W' ν') ⟨E,hp⟩=⟨E,(Ep (Q1 J ν) base (hW D n W' ν') ⟨E,hp⟩).hp⟩:=by
   show(⟨E.map (fun p=>(p.1,Ac (Ot (Q1 J ν) (hW D n W' ν')) p.2)),_⟩:St)=_
   rw[hE];rfl
  rw[e]
  exact this
theorem qJh {ν:Nat->Nat} {W:WS} {K:Nat} (hν:q85 ν) (hw:Wa W.wl) (hK:K<800000):List.map (fun p:Nat×B9=>(p.1,Bn K p.2)) (List.filter (fun p=>p.1 != K) (Wq ν W))=Wq ν W:=by
 have hne:∀ p∈Wq ν W,p.1≠K/\Bn K p.2=p.2:=fun p hp=>by
  obtain⟨u,l,hu,_,rfl⟩:=q9Q hw hp
  have:=hν.rg u hu
  exact⟨by simp only;omega,rfl⟩
 rw[List.filter_eq_self.2 fun p hp=>by simpa using(hne p hp).1]
 conv=>rhs;rw[<- List.map_id (Wq ν W)]
 refine xq1 fun p hp=>?_
 rw[(hne p hp).2];rfl
theorem qJi {ν:Nat->Nat} {wl:List (Nat×List Int)} {K:Nat} (hν:q85 ν) (hw:Wa wl) (hK:K<800000):List.map (fun e:Value×AV=>(e.1,Am K e.2)) (F9 ν wl)=F9 ν wl:=by
 simp only[F9,xq5]
 refine xq1 fun p hp=>?_
 have:=hν.rg p.1 (by have:=hw.lt p hp;omega)
 simp only[Function.comp]
 rw[M5 (by omega)]
theorem kJk:JOk (fun i=>1000000+i) D9:=kJ q2U
theorem qLI {J ν:Nat->Nat} {D:Ci} {n:Nat} {W:WS} {K t:Nat} (h:JOk J ν) (hw:Wa W.wl) (hK:∀ i,i<5->J i≠K) (hK2:∀ u,u<1000->ν u≠K):(A5 (hG J D n W ν) t).map (Bn K)=A5 (hG J D n W ν) t:=by
 have hJ:=fun i hi=>hK i hi
 have e9:Am K (.ls (ν 999) 0 W.ch.length none)=.ls (ν 999) 0 W.ch.length none:=M5 (hK2 999 (by omega))
 have e0:Bn K (.bx [.lp (J 1) 0 0,.lm (J 4),.ls (J 3) 0 n none,.ls (ν 999) 0 W.ch.length none])=.bx [.lp (J 1) 0 0,.lm (J 4),.ls (J 3) 0 n none,.ls (ν 999) 0 W.ch.length none]:=by
  simp only[Yd,xqm,xq3,e9,q0T (hK 1 (by omega)),q0U (hK 4 (by omega)),M5 (hK 3 (by omega))]
 have e1:Bn K (.bx (Bg D (J 2) n W.ev))=.bx (Bg D (J 2) n W.ev):=by
  simp only[Yd,Bg,xqm,xq3,q7K,M5 (hK 2 (by omega))]
 have e4:Bn K (.mr (F9 ν W.wl))=.mr (F9 ν W.wl):=by
  simp only[q9P,F9,xq5]
  congr 1
  refine xq1 fun p hp=>?_
  simp only[Function.comp]
  rw[M5 (hK2 p.1 (by have:=hw.lt p hp;omega))]
 have e5:∀ l:List (Nat×B9),(∀ p∈l,Bn K p.2=p.2)->(A5 l t).map (Bn K)=A5 l t:=by
  intro l
  induction l with
  | nil=>intro _;rfl
  | cons p l ih =>
   intro h
   simp only[A5]
   split
   ·simp only[xql];rw[h p xqh]
   ·exact ih fun q hq=>h q (xqf _ hq)
 refine e5 _ fun p hp=>?_
 unfold hG at hp
 rcases xqv.1 hp with rfl|hp
 ·exact e0
 rcases xqv.1 hp with rfl|hp
 ·exact e1
 rcases xqv.1 hp with rfl|hp
 ·rfl
 rcases xqv.1 hp with rfl|hp
 ·rfl
 rcases xqv.1 hp with rfl|hp
 ·exact e4
 obtain⟨u,l,_,_,rfl⟩:=q9Q hw hp
 rfl
theorem qNe {ν':Nat->Nat} {W W':WS} (h:Nu9 ν') (hk:Kp D9 W ν' W'):Nu9 (Dc D9 ν' 0)/\Kp D9 W (Dc D9 ν' 0) W':=by
 have e:∀ u,Dc D9 ν' 0 u=ν' u:=fun u=>by
  unfold Dc
  split
  ·rename_i e;rw[e];rfl
  ·omega
 have:Dc D9 ν' 0=ν':=funext e
 rw[this];exact⟨h,hk⟩
def Nr (D:Ci) (W:WS) (x:Int):WS:=Hj D { W with ev:=W.ev+1 } x (Gs (nd D.c x).k (G1 W.nets (nd D.c x).inn.l))
theorem q7L {D:Ci} {n:Nat} (hD:q5R D n) {W:WS} (hw:WOk n W) {x v:Int} (hx:0<=x/\x<n):WOk n (Hj D W x v):=by
 unfold Hj
 split
 ·exact hw
 ·have key:∀ (l:List Int) (W:WS),WOk n W->(∀ k∈l,0<=k/\k<n)->WOk n (l.foldl (G8 D) W):=by
   intro l
   induction l with
   | nil=>exact fun W h _=>h
   | cons k l ih =>
    intro W h hk
    refine ih _ ?_ fun q hq=>hk q (xqf _ hq)
    unfold G8
    split
    ·exact h
    ·rename_i hq
     have hkn:=hk k xqh
     have hkl:k.toNat<D.lev.l.length:=by rw[hD.ln];omega
     refine h.enq (by omega) (by simpa using hq) ?_
     have:=hD.lv _ (xqj hkl)
     unfold q1d
     rw[Be hkl];omega
  have hxr:x.toNat<D.rdr.l.length:=by rw[hD.rn];omega
  refine key _ _ ⟨by simpa using hw.nl,hw.ql,hw.wl,hw.wn⟩ ?_
  have:D.rdr.l.getD x.toNat Sl.z=D.rdr.l[x.toNat]:=by simp[xqe,hxr]
  rw[this]
  exact(hD.rr _ (xqj hxr)).2
theorem qMC {Q:AX->St->Prop} (D:Ci) (n:Nat) (hn:n<=1000000) (W:WS) (hw:WOk n W) (x:Int) (inn:Sl Int) (hi:inn.l.length<=1000000) (hin:∀ k∈inn.l,0<=k/\k<n) (ν:Nat->Nat) (hν:q85 ν) (R:List Int)
  (h0:Q (.exit 0) ⟨[(0,.lp 1000000 0 0),(1,.t (tI x)),(4,.ls 46 0 inn.l.length none),(28,.t (As inn)),(29,.t (tI inn.l.length)),(30,.t (tI inn.l.length)),(31,.t (tB false))],(46,.sl 65 1 (Ar R))::hW D n W ν⟩) :
  ∀ (j i:Nat) (out:List Int),j+i=inn.l.length->out.length=i->out++G1 W.nets (inn.l.drop i)=R ->
  run Tryz.prog Γ Ir Q ⟨[(0,.lp 1000000 0 0),(1,.t (tI x)),(4,.ls 46 0 i none),(28,.t (As inn)),(29,.t (tI inn.l.length)),(30,.t (tI i))],(46,.sl 65 1 (Ar out))::hW D n W ν⟩
 | 0,i,out,h,ho,hR=>by
  refine Qz fun K hK=>?_
  have h2:i=inn.l.length:=by omega
  subst h2
  rw[xzs]at hR
  simp only[G1,xq3,List.append_nil]at hR
  subst hR
  simp[hW,Bg,As]at h0
  simp[hW,Bg,As]
  simpa using h0
 | j+1,i,out,h,ho,hR=>by
  refine Qz fun K hK=>?_
  have h2:i<inn.l.length:=by omega
  rw[xqq h2]at hR
  have e:=gE (f:=tI) 0 h2
  have e':=gE' (f:=tI) 0 h2
  have hq:=hin _ (xqj h2)
  rw[Be h2]at e e'
  generalize inn.l[i]=k at *
  have hkn:k.toNat<n:=by omega
  have hkl:k.toNat<W.nets.length:=by rw[hw.nl];exact hkn
  have ek:=gE (f:=tK) 0 hkl
  have ek':=gE' (f:=tK) 0 hkl
  have hva:G1 W.nets (k::inn.l.drop (i+1))=W.nets.getD k.toNat 0::G1 W.nets (inn.l.drop (i+1)):=rfl
  rw[hva]at hR
  generalize W.nets.getD k.toNat 0=v at *
  have ih:=qMC D n hn W hw x inn hi hin ν hν R h0 j (i+1) (out++[v]) (by omega) (by simp[ho]) (by rw[<- hR];simp)
  have vs:Ar out++[[tK v]]=Ar (out++[v]):=Ur
  have vt:(Ar out).take i=Ar out:=by rw[<- ho];exact C4
  have w1:=Nl (i:=i) (by omega)
  simp[hW,Bg,As]at ih
  have f9:¬ ν 999=46:=by have:=hν.rg 999 (by omega);omega
  have k1:=qJh (W:=W) (K:=46) hν hw.wl (by omega)
  have k2:=qJi (K:=46) hν hw.wl (by omega)
  have l46:A5 (Wq ν W) 46=none:=Dt hw.wl fun u hu e=>by have:=hν.rg u hu;omega
  simp[-Bn,-Am,-kill1,q0T,q0U,M5,Zu,q7K,q6D,Yd,q2T,q9P,hW,Bg,As,h2,A6,A9,e,e',ek,ek',hq,hw.nl,hkn,w1,vs,vt,ho,f9,k1,k2,l46]
  refine⟨by omega,?_⟩
  rw[hK]
  simpa[ho]using ih
theorem qNf (hΓ:GOk Γ) (D:Ci) (n:Nat) (hD:q5R D n) (hn:n<=1000000) (H:ROk D.c) (hcn:D.c.nodes.l.length=n) (W:WS) (hw:WOk n W) (hv:∀ v∈W.nets,V4 v) (hc:W.ch.length<=1000000) (hev:0<=W.ev/\W.ev<=1000000) (x:Int) (hx:0<=x/\x<n) :
  ∃ ν',Nu9 ν'/\Kp D9 W ν' (Nr D W x)/\Bm Tryz.prog Γ 47 (hW D n W D9) [.lp 1000000 0 0,.t (tI x)] (.t (.tup [])) (hW D n (Nr D W x) ν'):=by
 have key:∃ res hp',Bm Tryz.prog Γ 47 (hW D n W D9) [.lp 1000000 0 0,.t (tI x)] res hp'/\(res=.t (.tup [])/\∃ ν',Nu9 ν'/\Kp D9 W ν' (Nr D W x)/\hp'=hWX D n (Nr D W x) ν'):=by
  refine q6U q48 rfl ?_
  have hx0:=hx.1
  have hx1:x<D.c.nodes.l.length:=by rw[hcn];exact hx.2
  have hget:=q3u hx0 hx1
  have hget':=q7J hx0 hx1
  have hmem:=qCt hx0 hx1
  have hxi:=H.inn _ hmem
  have hkk:=H.ok.kind _ hmem
  have hw1:WOk n { W with ev:=W.ev+1 }:=⟨hw.nl,hw.ql,hw.wl,hw.wn⟩
  have hlR:(G1 W.nets (nd D.c x).inn.l).length=(nd D.c x).inn.l.length:=by simp[G1]
  have hvR:∀ v∈G1 W.nets (nd D.c x).inn.l,V4 v:=fun v hv'=>by
   obtain⟨q,hq,rfl⟩:=xqy.1 hv'
   exact q2B hv _
  have hevl:=qC7 hΓ (nd D.c x).k hkk (G1 W.nets (nd D.c x).inn.l) none none (by rw[hlR];omega) hvR
  have hdef:Nr D W x=Hj D { W with ev:=W.ev+1 } x (Gs (nd D.c x).k (G1 W.nets (nd D.c x).inn.l)):=rfl
  obtain⟨ν',hν',hk',hs⟩:=qFi (Γ:=Γ) D n hD hn { W with ev:=W.ev+1 } hw1 hc x (Gs (nd D.c x).k (G1 W.nets (nd D.c x).inn.l)) hx D9 q2U
  have hw2:=q7L (v:=Gs (nd D.c x).k (G1 W.nets (nd D.c x).inn.l)) hD hw1 hx
  rw[<- hdef]at hk' hs hw2
  have hl:=fun Q h0=>qMC (Γ:=Γ) (Q:=Q) D n hn { W with ev:=W.ev+1 } hw1 x (nd D.c x).inn (by omega) (by rw[<- hcn];exact hxi.2) D9 q2U.ok (G1 W.nets (nd D.c x).inn.l) h0 (nd D.c x).inn.l.length 0 [] (by omega) rfl (by simp)
  generalize Gs (nd D.c x).k (G1 W.nets (nd D.c x).inn.l)=EV at *
  generalize Nr D W x=RW at *
  generalize G1 W.nets (nd D.c x).inn.l=VA at *
  generalize hX:nd D.c x=X at *
  have hx2:x.toNat<D.c.nodes.l.length:=by omega
  have wev:IntKind.i64.wrap (W.ev+1)=W.ev+1:=by rw[A7]<;>omega
  have htk:(Ar VA).take X.inn.l.length=Ar VA:=by rw[<- hlR];exact C4
  have l46:A5 (Wq D9 W) 46=none:=Dt hw.wl fun u hu e=>by unfold D9 at e;omega
  have hlc:Wq D9 { W with ev:=W.ev+1 }=Wq D9 W:=rfl
  simp[hW,Bg,As,Aa,Gy,hlc]at hl
  simp[Xj,hW,Bg,As,Aa,Ab,A6,Bq,hx0,hx1,hx2,hget,hget',Dl,wev,l46]
  refine hl _ ?_
  simp[hx0,hx1,hx2,hget,hget',Dl,Ab,Bq]
  refine A4 hevl (by simp[Ai,htk]) ?_
  simp[-C6,-Ac,-To,-B7]
  have gJ:=fun i hi=>q8L (J:=fun i=>1000000+i) (ν:=D9) (ν':=ν') (D:=D) (n:=n) (W':=RW) (c:=900000) (by omega) (by omega) kJk hν' (i:=i) hi
  have g0:=gJ 0 (by omega)
  have g1:=gJ 1 (by omega)
  have n46:46∉Q1 (fun i=>1000000+i) D9:=fun hm=>by
   rcases Fg.1 hm with⟨i,hi,e⟩|⟨u,hu,e⟩
   ·omega
   ·unfold D9 at e;omega
  have g46:=qJg (hp':=hW D n RW ν') n46
  have fJ0:=qCM (J:=fun i=>1000000+i) (ν:=D9) kJk (i:=0) (by omega)
  simp only[xzp,Nat.reduceAdd]at g0 g1 fJ0
  have hlk:∀ t,t≠46->A5 ((46,B9.sl 65 1 (Ar VA))::hW D n { W with ev:=W.ev+1 } D9) t=A5 (hG (fun i=>1000000+i) D n { W with ev:=W.ev+1 } D9) t:=fun t ht=>by
   simp only[A5];rw[if_neg (fun e=>ht e.symm)];rfl
  refine Yl (base:=0) (c:=900000) (by omega) (by omega) (J:=fun i=>1000000+i) (ν:=D9) (ν':=ν') (D:=D) (n:=n) (W:={ W with ev:=W.ev+1 }) (W':=RW) kJk q2U.ok hw1 hw2 hν' hk' (fun t ht=>?_) (fun u hu=>?_) (by omega) (fun u v hu hv e=>by unfold D9 at e;omega) (fun i v hi hv e=>by omega) hs ?_ ?_ fun Bh hB1 hB2=>?_
  ·have:=hlk t (fun e=>n46 (e ▸ ht))
   exact this
  ·have h1:=hlk (0+(900000+u)) (by omega)
   have h2:A5 (hG (fun i=>1000000+i) D n { W with ev:=W.ev+1 } D9) (0+(900000+u))=none:=Dp (t:=0+(900000+u)) (J:=fun i=>1000000+i) (ν:=D9) (W:={ W with ev:=W.ev+1 }) hw.wl (fun i hi e=>by omega) fun v hv e=>by unfold D9 at e;omega
   rw[h2]at h1
   exact h1
  ·simp[-To,Ac,ren1,ren0,fJ0]
  ·simp[-Ot,Ac,ren1,ren0,g0,g1,g46]
  ·simp
   obtain⟨b1,b2⟩:=qNe hν' hk'
   have hJ9:JOk (fun i=>1000000+i) (Dc D9 ν' 0):=kJ b1
   refine⟨⟨[],hW D n RW (Dc D9 ν' 0)⟩,?_,?_⟩
   ·refine Imp.trans (Imp.gh (.drop [46]) ⟨[],Bh⟩) ?_
    show Imp Γ (St.kill 46 ⟨[],Bh⟩) _
    refine Imp.like (fun t a h=>by simp[A5]at h) fun t=>?_
    refine Eq.trans ?_ (Nx (st:=⟨[],Bh⟩) 46 t).symm
    have hno:∀ t,¬ (t∈Q1 (fun i=>1000000+i) D9\/(∃ u,u<1000/\t=0+(900000+u)))->A5 (hG (fun i=>1000000+i) D n RW (Dc D9 ν' 0)) t=none:=fun t ht=>by
     refine Dp hw2.wl (fun i hi e=>ht (.inl (Fg.2 (.inl ⟨i,hi,e⟩)))) fun u hu e=>?_
     rcases b1 u hu with e2|e2
     ·exact ht (.inl (Fg.2 (.inr ⟨u,hu,by rw[e,e2];rfl⟩)))
     ·exact ht (.inr ⟨u,hu,by omega⟩)
    split
    ·rename_i e
     subst e
     exact hno 46 (by rintro(h|⟨u,_,h⟩);exact n46 h;omega)
    ·rename_i hne
     by_cases ht:(t∈Q1 (fun i=>1000000+i) D9\/(∃ u,u<1000/\t=0+(900000+u)))
     ·show _=(A5 Bh t).map (Bn 46)
      rw[hB1 t ht,qLI hJ9 hw2.wl (fun i hi=>by omega) (fun u hu=>by have:=b1 u hu;omega)]
      rfl
     ·show _=(A5 Bh t).map (Bn 46)
      rw[hB2 t ht]
      refine(hno t ht).trans ?_
      have h1:=hlk t hne
      have h2:A5 (hG (fun i=>1000000+i) D n { W with ev:=W.ev+1 } D9) t=none:=Dp (J:=fun i=>1000000+i) (ν:=D9) (W:={ W with ev:=W.ev+1 }) hw.wl (fun i hi e=>ht (.inl (Fg.2 (.inl ⟨i,hi,e⟩)))) fun u hu e=>ht (.inl (Fg.2 (.inr ⟨u,hu,e⟩)))
      rw[h2]at h1
      have h3:A5 ((46,B9.sl 65 1 (Ar VA))::hW D n { W with ev:=W.ev+1 } D9) t=none:=h1
      refine Eq.symm (Eq.trans (congrArg (fun q=>Option.map (Bn 46) (Option.map _ q)) h3) rfl)
   ·simp[Xk]
    exact⟨_,b1,b2,rfl⟩
 obtain⟨res,hp',h,rfl,ν',hν',hk',rfl⟩:=key
 exact⟨ν',hν',hk',h⟩
theorem qI2 {ν:Nat->Nat} {u:Nat}:Gq ν u (ν u)=ν:=funext fun v=>by unfold Gq;split;rename_i e;rw[e];rfl
theorem qEY {a b:Nat} {ν:Nat->Nat} {u:Nat} (hni:∀ u v,u<1000->v<1000->ν u=ν v->u=v) (hu:u<1000) (ha:a=ν u):∀ (wl:List (Nat×List Int)),(∀ p∈wl,p.1<999)->K6 a b (wl.map fun p=>(ν p.1,B9.sl 3 1 (Af p.2)))=wl.map fun p=>(Gq ν u b p.1,B9.sl 3 1 (Af p.2))
 | [],_=>rfl
 | p::wl,h=>by
  have ih:=qEY (b:=b) hni hu ha wl fun q hq=>h q (xqf _ hq)
  have hp:=h p xqh
  simp only[xqm,K6,ih,B7]
  congr 2
  unfold Gq
  by_cases e:p.1=u
  ·rw[if_pos (by rw[e,ha]),if_pos e]
  ·rw[if_neg (fun e2=>e (hni p.1 u (by omega) hu (e2.trans ha))),if_neg e]
theorem qJj {J ν:Nat->Nat} {D:Ci} {n u b:Nat} {W:WS} (h:JOk J ν) (hw:Wa W.wl) (hu:u<1000):K6 (ν u) b (hG J D n W ν)=hG J D n W (Gq ν u b):=by
 have hJ:∀ i,i<5->¬ J i=ν u:=fun i hi=>h.jn i u hi hu
 have hJ':∀ i,i<5->¬ ν u=J i:=fun i hi e=>h.jn i u hi hu e.symm
 have hcell:∀ v len,v<1000->Ac (B1 (ν u) b) (.ls (ν v) 0 len none)=.ls (Gq ν u b v) 0 len none:=fun v len hv=>by
  unfold Gq
  by_cases e:v=u
  ·subst e;simp[Ac,ren1,ren0,B1]
  ·have:¬ ν v=ν u:=fun e2=>e (h.ni v u hv hu e2)
   simp[Ac,ren1,ren0,B1,this,e]
 have r1:Ac (B1 (ν u) b) (.lp (J 1) 0 0)=.lp (J 1) 0 0:=by simp[Ac,ren1,ren0,B1,hJ]
 have r4:Ac (B1 (ν u) b) (.lm (J 4))=.lm (J 4):=by simp[Ac,ren1,ren0,B1,hJ]
 have r3:Ac (B1 (ν u) b) (.ls (J 3) 0 n none)=.ls (J 3) 0 n none:=by simp[Ac,ren1,ren0,B1,hJ]
 have r2:Ac (B1 (ν u) b) (.ls (J 2) 0 n (some n))=.ls (J 2) 0 n (some n):=by simp[Ac,ren1,ren0,B1,hJ]
 have rt:∀ x,Ac (B1 (ν u) b) (.t x)=.t x:=fun x=>rfl
 have hes:(F9 ν W.wl).map (fun e=>(e.1,Ac (B1 (ν u) b) e.2))=F9 (Gq ν u b) W.wl:=by
  simp only[F9,xq5]
  refine xq1 fun p hp=>?_
  simp only[Function.comp]
  rw[hcell p.1 _ (by have:=hw.lt p hp;omega)]
 have hls:K6 (ν u) b (Wq ν W)=Wq (Gq ν u b) W:=by
  simp only[Wq,K6,B7]
  rw[qEY h.ni hu rfl W.wl hw.lt]
  congr 2
  unfold Gq
  by_cases e:999=u
  ·subst e;rw[if_pos rfl,if_pos rfl]
  ·rw[if_neg (fun e2=>e (h.ni 999 u (by omega) hu e2)),if_neg e]
 simp only[hG,K6,hls,B7,xqm,xq3,r1,r4,r3,hcell 999 _ (by omega),hes,Bg,rt,r2,if_neg (hJ 0 (by omega)),if_neg (hJ 1 (by omega)),if_neg (hJ 2 (by omega)),if_neg (hJ 3 (by omega)),if_neg (hJ 4 (by omega))]
theorem qLJ {E:List (Nat×AV)} {J ν:Nat->Nat} {D:Ci} {n u b:Nat} {W:WS} (h:JOk J ν) (hν:q85 ν) (hw:Wa W.wl) (hu:u<1000) (ha:ν u<1000000) (hb:b<1000000) (hbJ:∀ i,i<5->b≠J i) (hbN:∀ v,v<1000->b≠ν v) (hE:E.map (fun p=>(p.1,Ac (B1 (ν u) b) p.2))=E) :
  Imp Γ ⟨E,hG J D n W ν⟩ ⟨E,hG J D n W (Gq ν u b)⟩:=by
 have hlb:A5 (hG J D n W ν) b=none:=Dp hw hbJ hbN
 cases hc:J5 W u with
 | none =>
  have hu9:¬ u=999:=fun e=>by subst e;simp[J5]at hc
  simp only[J5,if_neg hu9]at hc
  have hk:∀ p∈W.wl,Gq ν u b p.1=ν p.1:=fun p hp=>by unfold Gq;rw[if_neg (Pe hc p hp)]
  have h9:Gq ν u b 999=ν 999:=by unfold Gq;rw[if_neg (fun e=>hu9 e.symm)]
  have e1:F9 (Gq ν u b) W.wl=F9 ν W.wl:=xq1 fun p hp=>by rw[hk p hp]
  have e2:Wq (Gq ν u b) W=Wq ν W:=by
   unfold Wq
   rw[h9]
   congr 1
   exact xq1 fun p hp=>by rw[hk p hp]
  have:hG J D n W (Gq ν u b)=hG J D n W ν:=by simp only[hG,e1,e2,h9]
  rw[this];exact Imp.refl _
 | some l =>
  have hla:=V0 (D:=D) (n:=n) h hν hw hu
  rw[hc]at hla
  refine Imp.trans (Imp.gh (.ren (ν u) b) _) ?_
  have:Gh.run (.ren (ν u) b) ⟨E,hG J D n W ν⟩=⟨E,hG J D n W (Gq ν u b)⟩:=by
   simp only[Gh.run,X8]
   rw[if_pos,hE,qJj h hw hu]
   simp[hlb,hla,ha,hb]
  rw[this]
  exact Imp.refl _
def q4s (k:Nat) (ν2 ν:Nat->Nat) (u:Nat):Nat:=if u<k then ν2 u else ν u
theorem qJk {J ν ν2:Nat->Nat} {D:Ci} {n:Nat} {W:WS} (hw:Wa W.wl) (h:∀ u,u<1000->ν u=ν2 u):hG J D n W ν=hG J D n W ν2:=by
 have e1:F9 ν W.wl=F9 ν2 W.wl:=xq1 fun p hp=>by rw[h p.1 (by have:=hw.lt p hp;omega)]
 have e2:Wq ν W=Wq ν2 W:=by
  unfold Wq
  rw[h 999 (by omega)]
  congr 1
  exact xq1 fun p hp=>by rw[h p.1 (by have:=hw.lt p hp;omega)]
 simp only[hG,e1,e2,h 999 (by omega)]
theorem qEZ {E:List (Nat×AV)} {J ν ν2:Nat->Nat} {D:Ci} {n:Nat} {W:WS} (hw:Wa W.wl) (hJ:∀ i,i<5->(J i<800000\/(1000000<=J i/\J i<1000005))/\∀ j,j<5->J i=J j->i=j)
  (h1:∀ u,u<1000->ν u=1000005+u\/ν u=800000+u\/ν u=900000+u) (h2:∀ u,u<1000->ν2 u=ν u\/(ν u=900000+u/\ν2 u=800000+u)) (hE:∀ u,u<1000->E.map (fun p=>(p.1,Ac (B1 (900000+u) (800000+u)) p.2))=E) :
  Imp Γ ⟨E,hG J D n W ν⟩ ⟨E,hG J D n W ν2⟩:=by
 have key:∀ k,k<=1000->Imp Γ ⟨E,hG J D n W ν⟩ ⟨E,hG J D n W (q4s k ν2 ν)⟩:=by
  intro k
  induction k with
  | zero=>intro _;exact Imp.refl _
  | succ k ih =>
   intro hk
   refine Imp.trans (ih (by omega)) ?_
   have hn:∀ u,u<1000->q4s k ν2 ν u=1000005+u\/q4s k ν2 ν u=800000+u\/q4s k ν2 ν u=900000+u:=fun u hu=>by
    unfold q4s
    split
    ·rcases h2 u hu with e|⟨_,e⟩
     ·rw[e];exact h1 u hu
     ·exact .inr (.inl e)
    ·exact h1 u hu
   have hnk:q85 (q4s k ν2 ν):=⟨fun u v hu hv e=>by have:=hn u hu;have:=hn v hv;omega,fun u hu=>by have:=hn u hu;omega⟩
   have hjk:JOk J (q4s k ν2 ν):=⟨fun i j hi hj e=>(hJ i hi).2 j hj e,hnk.inj,fun i u hi hu e=>by have:=hn u hu;have:=(hJ i hi).1;omega⟩
   have hkk:q4s k ν2 ν k=ν k:=by unfold q4s;rw[if_neg (by omega)]
   have e0:q4s (k+1) ν2 ν=Gq (q4s k ν2 ν) k (ν2 k):=funext fun u=>by
    unfold Gq q4s
    by_cases e:u=k
    ·subst e;rw[if_pos (by omega),if_pos rfl]
    ·rw[if_neg e]
     by_cases hlt:u<k
     ·rw[if_pos hlt,if_pos (by omega)]
     ·rw[if_neg hlt,if_neg (by omega)]
   rw[e0]
   rcases h2 k (by omega)with e|⟨e1,e2⟩
   ·have:Gq (q4s k ν2 ν) k (ν2 k)=q4s k ν2 ν:=by rw[e,<- hkk];exact qI2
    rw[this];exact Imp.refl _
   ·refine qLJ hjk hnk hw (by omega) (by rw[hkk,e1];omega) (by rw[e2];omega) (fun i hi=>by have:=(hJ i hi).1;omega) (fun v hv e=>?_) ?_
    ·have:=hn v hv
     by_cases hvk:v=k
     ·subst hvk;omega
     ·omega
    ·rw[hkk,e1,e2]
     exact hE k (by omega)
 have e:hG J D n W (q4s 1000 ν2 ν)=hG J D n W ν2:=qJk hw fun u hu=>by unfold q4s;rw[if_pos hu]
 rw[<- e]
 exact key 1000 (by omega)
def Ub (D:Ci) (W:WS) (l:List Int):WS:=l.foldl (Nr D) W
structure EvB (D:Ci) (n m:Nat) (W:WS):Prop where
 ok:WOk n W
 v4:∀ v∈W.nets,V4 v
 ch:W.ch.length+m<=1000000
 e0:0<=W.ev
 e1:W.ev+m<=1000000
theorem q8M {D:Ci} {W:WS} {x v:Int}:(Hj D W x v).ev=W.ev/\((Hj D W x v).nets=W.nets\/(Hj D W x v).nets=W.nets.set x.toNat v)/\(Hj D W x v).ch.length<=W.ch.length+1:=by
 unfold Hj
 split
 ·exact⟨rfl,.inl rfl,by omega⟩
 ·have key:∀ (l:List Int) (W:WS),(l.foldl (G8 D) W).ev=W.ev/\(l.foldl (G8 D) W).nets=W.nets/\(l.foldl (G8 D) W).ch=W.ch:=by
   intro l
   induction l with
   | nil=>exact fun W=>⟨rfl,rfl,rfl⟩
   | cons k l ih =>
    intro W
    have h:=ih (G8 D W k)
    have h2:(G8 D W k).ev=W.ev/\(G8 D W k).nets=W.nets/\(G8 D W k).ch=W.ch:=by unfold G8;split<;>exact⟨rfl,rfl,rfl⟩
    exact⟨h.1.trans h2.1,h.2.1.trans h2.2.1,h.2.2.trans h2.2.2⟩
  obtain⟨h1,h2,h3⟩:=key (D.rdr.l.getD x.toNat Sl.z).l { W with nets:=W.nets.set x.toNat v,ch:=W.ch++[x] }
  exact⟨h1,.inr h2,by rw[h3];simp⟩
theorem qJl {D:Ci} {W:WS} {x v:Int} (h:∀ u∈W.nets,V4 u) (hv:V4 v):∀ u∈(Hj D W x v).nets,V4 u:=fun u hu=>by
 rcases(q8M (D:=D) (W:=W) (x:=x) (v:=v)).2.1 with e|e
 ·rw[e]at hu;exact h u hu
 ·rw[e]at hu
  rcases xz9 hu with hu|rfl
  ·exact h u hu
  ·exact hv
theorem EvB.eval {D:Ci} {n m:Nat} {W:WS} (hD:q5R D n) (h:EvB D n (m+1) W) {x:Int} (hx:0<=x/\x<n):EvB D n m (Nr D W x):=by
 have hv:V4 (Gs (nd D.c x).k (G1 W.nets (nd D.c x).inn.l)):=qCq fun u hu=>by
  obtain⟨q,_,rfl⟩:=xqy.1 hu
  exact q2B h.v4 _
 have hf:=q8M (D:=D) (W:={ W with ev:=W.ev+1 }) (x:=x) (v:=Gs (nd D.c x).k (G1 W.nets (nd D.c x).inn.l))
 have h1:=h.ch
 have h2:=h.e0
 have h3:=h.e1
 refine⟨q7L (W:={ W with ev:=W.ev+1 }) hD ⟨h.ok.nl,h.ok.ql,h.ok.wl,h.ok.wn⟩ hx,qJl (W:={ W with ev:=W.ev+1 }) h.v4 hv,?_,?_,?_⟩
 ·have:=hf.2.2;unfold Nr;simp only at this ⊢;omega
 ·have:=hf.1;unfold Nr;simp only at this ⊢;omega
 ·have:=hf.1;unfold Nr;simp only at this ⊢;omega
theorem qGw {Q:AX->St->Prop} (hΓ:GOk Γ) (D:Ci) (n:Nat) (hD:q5R D n) (hn:n<=1000000) (H:ROk D.c) (hcn:D.c.nodes.l.length=n) (l:Sl Int) (hl:l.l.length<=1000000) (hin:∀ k∈l.l,0<=k/\k<n) (W0:WS) (R:WS)
  (h0:∀ ν,NuC 800000 ν->Kp D9 W0 ν R->Q (.exit 0) ⟨[(1,.fn (47+1000000000) [.lp 1000000 0 0]),(6,.t (As l)),(7,.t (tI l.l.length)),(8,.t (tI l.l.length)),(9,.t (tB false))],hW D n R ν⟩) :
  ∀ (j i:Nat) (W:WS) (ν:Nat->Nat),j+i=l.l.length->NuC 800000 ν->Kp D9 W0 ν W->EvB D n j W->Ub D W (l.l.drop i)=R ->
  run Tryz.prog Γ T9 Q ⟨[(1,.fn (47+1000000000) [.lp 1000000 0 0]),(6,.t (As l)),(7,.t (tI l.l.length)),(8,.t (tI i))],hW D n W ν⟩
 | 0,i,W,ν,h,hν,hk,hB,hR=>by
  refine Zm fun K hK=>?_
  have h2:i=l.l.length:=by omega
  subst h2
  rw[xzs]at hR
  have hR:W=R:=hR
  subst hR
  have:=h0 ν hν hk
  simp[hW,Bg,As]at this
  simp[hW,Bg,As]
  simpa using this
 | j+1,i,W,ν,h,hν,hk,hB,hR=>by
  refine Zm fun K hK=>?_
  have h2:i<l.l.length:=by omega
  rw[xqq h2]at hR
  have e:=gE (f:=tI) 0 h2
  have e':=gE' (f:=tI) 0 h2
  have hq:=hin _ (xqj h2)
  rw[Be h2]at e e'
  generalize l.l[i]=x at *
  have hR:Ub D (Nr D W x) (l.l.drop (i+1))=R:=hR
  have hB2:=hB.eval hD hq
  obtain⟨ν',hν',hk',hs⟩:=qNf hΓ D n hD hn H hcn W hB.ok hB.v4 (by have:=hB.ch;omega) ⟨hB.e0,by have:=hB.e1;omega⟩ x hq
  have ih:=fun ν=>qGw hΓ D n hD hn H hcn l hl hin W0 R h0 j (i+1) (Nr D W x) ν (by omega)
  have hJ8:JOk (fun i=>1000000+i) ν:=kJ hν
  have gJ:=fun i hi=>q8L (J:=fun i=>1000000+i) (ν:=ν) (ν':=ν') (D:=D) (n:=n) (W':=Nr D W x) (c:=900000) (by omega) (by omega) hJ8 hν' (i:=i) hi
  have g0:=gJ 0 (by omega)
  have fJ0:=qCM (J:=fun i=>1000000+i) (ν:=ν) hJ8 (i:=0) (by omega)
  simp only[xzp]at g0 fJ0
  have w1:=Nl (i:=i) (by omega)
  generalize Nr D W x=RW at *
  simp[-C6,-Ac,-To,-B7,hW,Bg,As,h2,A6,A9,e,e']
  refine Yl (base:=0) (c:=900000) (by omega) (by omega) (J:=fun i=>1000000+i) (ν:=ν) (ν':=ν') (D:=D) (n:=n) (W:=W) (W':=RW) hJ8 hν.ok hB.ok hB2.ok hν' hk' (fun t ht=>rfl) (fun u hu=>?_) (by omega) (fun u v hu hv e=>by have:=hν u hu;omega) (fun i v hi hv e=>by omega) hs ?_ ?_ fun Bh hB1 hB3=>?_
  ·exact Dp (t:=0+(900000+u)) (J:=fun i=>1000000+i) (ν:=ν) hB.ok.wl (fun i hi e=>by omega) fun v hv e=>by have:=hν v hv;omega
  ·simp[-To,Ac,ren1,ren0,fJ0]
  ·simp[-Ot,Ac,ren1,ren0,g0]
  ·simp
   have hn2:∀ u,u<1000->Dc ν ν' 0 u=1000005+u\/Dc ν ν' 0 u=800000+u\/Dc ν ν' 0 u=900000+u:=fun u hu=>by
    unfold Dc
    have:=hν u hu
    have:=hν' u hu
    split<;>omega
   have hν2:NuC 800000 (fun u=>if ν' u=1000005+u then ν u else 800000+u):=fun u hu=>by
    simp only
    have:=hν u hu
    split<;>omega
   have hk2:Kp D9 W0 (fun u=>if ν' u=1000005+u then ν u else 800000+u) RW:=fun u hu e=>by
    simp only at e
    split at e
    ·rename_i e2
     exact⟨rfl,((hk' u hu e2).2).trans (hk u hu e).2⟩
    ·omega
   refine⟨⟨_,hW D n RW (fun u=>if ν' u=1000005+u then ν u else 800000+u)⟩,Imp.trans (Imp.like (fun t a h=>h) fun t=>?_) (qEZ (J:=fun i=>1000000+i) (ν:=Dc ν ν' 0) (ν2:=fun u=>if ν' u=1000005+u then ν u else 800000+u) (D:=D) (n:=n) (W:=RW) hB2.ok.wl (fun i hi=>⟨.inr ⟨by omega,by omega⟩,fun j hj e=>by omega⟩) hn2 (fun u hu=>?_) fun u hu=>?_),?_⟩
   ·by_cases ht:(t∈Q1 (fun i=>1000000+i) ν\/(∃ u,u<1000/\t=0+(900000+u)))
    ·exact(hB1 t ht).symm
    ·rw[hB3 t ht]
     have h3:A5 (hG (fun i=>1000000+i) D n W ν) t=none:=Dp hB.ok.wl (fun i hi e=>ht (.inl (Fg.2 (.inl ⟨i,hi,e⟩)))) fun u hu e=>ht (.inl (Fg.2 (.inr ⟨u,hu,e⟩)))
     refine Eq.trans ?_ (congrArg (Option.map _) h3).symm
     refine Dp hB2.ok.wl (fun i hi e=>ht (.inl (Fg.2 (.inl ⟨i,hi,e⟩)))) fun u hu e=>?_
     unfold Dc at e
     have:=hν' u hu
     split at e
     ·exact ht (.inl (Fg.2 (.inr ⟨u,hu,e⟩)))
     ·exact ht (.inr ⟨u,hu,by omega⟩)
   ·unfold Dc
    have:=hν' u hu
    split
    ·exact .inl rfl
    ·exact .inr ⟨by omega,rfl⟩
   ·have:¬ 1000000=900000+u:=by omega
    simp[Ac,ren1,ren0,B1,this]
   ·simp[w1]
    rw[hK]
    have:=ih _ hν2 hk2 hB2 hR
    simpa[hW,Bg,As]using this
theorem qNg (hΓ:GOk Γ) (D:Ci) (n:Nat) (hD:q5R D n) (hn:n<=1000000) (H:ROk D.c) (hcn:D.c.nodes.l.length=n) (l:Sl Int) (hl:l.l.length<=1000000) (hin:∀ k∈l.l,0<=k/\k<n) (W:WS) (hB:EvB D n l.l.length W) :
  ∃ ν',NuC 800000 ν'/\Kp D9 W ν' (Ub D W l.l)/\Bm Tryz.prog Γ 46 (hW D n W D9) [.t (As l),.fn (47+1000000000) [.lp 1000000 0 0]] (.t (.tup [])) (hW D n (Ub D W l.l) ν'):=by
 have key:∃ res hp',Bm Tryz.prog Γ 46 (hW D n W D9) [.t (As l),.fn (47+1000000000) [.lp 1000000 0 0]] res hp'/\(res=.t (.tup [])/\∃ ν',NuC 800000 ν'/\Kp D9 W ν' (Ub D W l.l)/\hp'=hWX D n (Ub D W l.l) ν'):=by
  refine q6U q9A rfl ?_
  have hl1:=fun Q h0=>qGw (Γ:=Γ) (Q:=Q) hΓ D n hD hn H hcn l hl hin W (Ub D W l.l) h0 l.l.length 0 W D9 (by omega) (fun u hu=>.inl rfl) (Kp.refl _ _) hB (by rw[xzt])
  generalize Ub D W l.l=RW at *
  simp[hW,Bg,As]at hl1
  simp[q46,hW,Bg,As,A6]
  refine hl1 _ fun ν' hν' hk'=>?_
  simp[q47]
  exact⟨ν',hν',hk',rfl⟩
 obtain⟨res,hp',h,rfl,ν',hν',hk',rfl⟩:=key
 exact⟨ν',hν',hk',h⟩
end Go.Lg
namespace Go.Lg
open Go Go.Proofs
section
variable {P:Program} {Γ:Tables} {w0:World} {B:Nat} {κ:Df} {X0:Nat->Prop} {N:Nat} {a:Act} {w:World}
theorem qCN {Q:Exit->Act->World->Prop} {ops:List Oper} (hN:N<=1000000):∀ {ros:List RO} {os rest:List Oper} {st st2:St} {a:Act} {w:World},X6 Γ w0 B κ X0 N st a w->X7 P N ops ros os=true->Md P Γ ros st st2->(∀ a' w',X6 Γ w0 B κ X0 N st2 a' w'->wpList P ops.toArray Q rest a' w')->wpList P ops.toArray Q (os++rest) a w
 | [],[],rest,st,st2,a,w,hI,hc,hs,hQ=>by
  simp only[Md]at hs;subst hs
  exact hQ a w hI
 | [],_::_,_,_,_,_,_,_,hc,_,_=>by simp[X7]at hc
 | _::_,[],_,_,_,_,_,_,hc,_,_=>by simp[X7]at hc
 | ro::ros,o::os,rest,st,st2,a,w,hI,hc,hs,hQ=>by
  simp only[X7,xqc]at hc
  obtain⟨st1,h1,h2⟩:=hs
  exact q5j hI hN hc.1 h1 fun a' w' hI'=>qCN hN hI' hc.2 h2 hQ
def Ye (o:Oper) (d:Nat) (f:Op->Bool):Bool:=o.dst==some d&&o.guard.isNone&&f o.op
theorem q2t {Q:Exit->Act->World->Prop} {ops:Array Oper} {o:Oper} {rest:List Oper} {d:Nat} {f:Op->Bool} {v:Value} {w':World} (ho:Ye o d f=true) (hr:(execOp a.eval o).run P w=.ok (.value v) w') (hK:wpList P ops Q rest (a.put (some d) v) w'):wpList P ops Q (o::rest) a w:=by
 simp only[Ye,xqc,Option.isNone_iff_eq_none,xz0]at ho
 have hw:Region.wanted o (yielded ops a.tmps)=true:=by simp[Region.wanted,ho.1.2]
 unfold wpList
 rw[if_pos hw]
 refine .inl ?_
 unfold Oper.wp
 rw[hr]
 show wpList P ops Q rest (a.put o.dst v) w'
 rw[ho.1.1]
 exact hK
def mvB (t:Nat):Op->Bool | .move (.tmp s) | .assign (.tmp s)=>s==t|_=>false
theorem q9R {t:Nat} {o:Oper} (h:mvB t o.op=true):(execOp a.eval o).run P w=.ok (.value (a.tmps.getD t undef)) w:=by
 unfold mvB at h
 split at h<;>simp only[xz0,xqn]at h
 ·rename_i s hs;subst h;simp[execOp,hs,Act.eval]
 ·rename_i s hs;subst h;simp[execOp,hs,Act.eval]
def qI3 (t i:Nat):Op->Bool | .extract (.tmp s) j=>s==t&&j==i|_=>false
theorem qAv {t i:Nat} {o:Oper} {xs:Array Value} {y:Value} (h:qI3 t i o.op=true) (hx:a.tmps.getD t undef=.tuple xs) (hy:xs[i]? = some y):(execOp a.eval o).run P w=.ok (.value y) w:=by
 unfold qI3 at h
 split at h<;>simp only[xqc,xz0,xqn]at h
 rename_i s j hs
 obtain⟨rfl,rfl⟩:=h
 simp[execOp,hs,Act.eval,hx,Instr.extract,hy]
def qLK (t u:Nat):Op->Bool
 | .call c=>(match c.callee,c.args.toList with | .builtin .min,[.tmp x,.tmp y]=>x==t&&y==u|_,_=>false)
 | _=>false
theorem qJm {t u:Nat} {o:Oper} {k:IntKind} {x y:Int} (h:qLK t u o.op=true) (hx:a.tmps.getD t undef=.int k x) (hy:a.tmps.getD u undef=.int k y):(execOp a.eval o).run P w=.ok (.value (.int k (if y<x then y else x))) w:=by
 unfold qLK at h
 generalize hop:o.op=op at h
 split at h
 case h_2=>cases h
 rename_i c
 split at h
 case h_2=>cases h
 rename_i x' y' h1 h2
 simp only[xqc,xz0]at h
 obtain⟨rfl,rfl⟩:=h
 have ha:c.args.map a.eval=#[.int k x,.int k y]:=by
  apply Array.toList_inj.1
  simp[h2,Act.eval,hx,hy]
 simp[execOp,hop,resolve,h1,invoke,builtin,ha,Builtin.min_,Builtin.min2]
def qGx (t:Nat):Op->Bool | .next (.tmp s) b=>s==t && !b|_=>false
def qLL (t:Nat):Op->Bool | .entry (.tmp s)=>s==t|_=>false
def qNh (P:Program) (t:Nat):Op->Bool | .range ty (.tmp s)=>s==t&&(q3A P ty).isSome|_=>false
theorem qJn {r g since c0 clock:Nat} {seen:Array Nat} {es:Array MapEntry} {ty:TypeId} (hr:w.heap[r]? = some (.mapIter (some g) since seen c0)) (hg:w.heap[g]? = some (.map es clock)) (hold:∀ x∈es.toList,x.born<since) (hsc:since<=c0) :
  ((_root_.Go.leftOf es seen).size=0/\(Instr.next (.pointer (some ⟨r,0,none⟩)) false ty).run P w=.ok (.tuple #[.bool false]) w) \/
  ∃ e∈(_root_.Go.leftOf es seen).toList,∃ dr,(Instr.next (.pointer (some ⟨r,0,none⟩)) false ty).run P w=.ok (.tuple #[.bool true,e.key,e.val]) { w with drawn:=dr,heap:=w.heap.setIfInBounds r (.mapIter (some g) since (seen.push e.born) clock) }:=by
 have htest:=next_test_false seen es since c0 hold hsc
 have hmem:∀ x∈(_root_.Go.leftOf es seen).toList,x.born<since:=fun x hx=>hold x (_root_.Go.mem_left hx).1
 have e1:(_root_.Go.leftOf es seen).filter (fun x=>decide (x.born<since))=_root_.Go.leftOf es seen:=Array.filter_eq_self.2 (fun x hx=>by simpa using hmem x (by simpa using hx))
 have e2:(_root_.Go.leftOf es seen).filter (fun x=>decide (x.born ≥ since))=#[]:=by
  rw[Array.filter_eq_empty_iff]
  intro x hx
  have:=hmem x (by simpa using hx)
  simp only[ge_iff_le,xqu];omega
 simp only[Instr.next,getObj,Sem.run_bind,Sem.run,hr,hg,Result.andThen,htest,xqn,if_false]
 unfold _root_.Go.leftOf at hmem e1 e2 ⊢
 generalize Array.filter (fun e=>!seen.contains e.born) es=L at *
 simp only[e1,e2,Array.append_empty]
 by_cases h0:L.size=0
 ·left
  have:L=#[]:=Array.eq_empty_of_size_eq_zero h0
  subst this
  refine⟨rfl,?_⟩
  simp[choose,Sem.run,Question.forced]
 ·right
  have hne:L.isEmpty=false:=by simp[Array.isEmpty,h0]
  simp only[hne,xqn,if_false,Array.empty_append,Array.size_map]
  have hch:∃ (j dr:Nat),j<L.size/\(choose (Question.mapNext L.size)).run P w=.ok j { w with drawn:=dr }:=by
   by_cases hf:L.size<=1
   ·exact⟨0,w.drawn,by omega,by simp[choose,Sem.run,Question.forced,hf]⟩
   ·exact⟨_,_,Nat.mod_lt _ (by omega),by
     simp only[choose,Sem.run,Question.forced,xqu,hf,if_false,Question.cut]
     rfl⟩
  obtain⟨j,dr,hj,hrun⟩:=hch
  refine⟨L[j],by simp,dr,?_⟩
  simp only[hrun,Array.getElem?_map,xzw hj,xql,Sem.run_bind,setObj,Sem.run,hr,Result.andThen]
  rfl
theorem qI4 {r g since clock:Nat} {seen:Array Nat} {es:Array MapEntry} {e:MapEntry} (hr:w.heap[r]? = some (.mapIter (some g) since (seen.push e.born) clock)) (hg:w.heap[g]? = some (.map es clock)) (he:e∈es.toList) (hn:(es.toList.map (·.born)).Nodup) :
  (Instr.entry (.pointer (some ⟨r,0,none⟩))).run P w=.ok (.tuple #[e.key,e.val]) w:=by
 have hf:es.find? (·.born==e.born)=some e:=by rw[<- Array.find?_toList];exact find_born e es.toList hn he
 simp only[Instr.entry,getObj,Sem.run_bind,Sem.run,hr,hg,Result.andThen,Array.back?_push,bne_self_eq_false,xqn,if_false,hf]
 rfl
end
section
variable {P:Program} {Γ:Tables} {N:Nat}
theorem qPe {f:FuncId} {ic:IC} {n:Nat} {rvs:List RV} {args:List AV} {hp hp':List (Nat×B9)} {res:AV} (hc:Ba P f ic N n rvs=true) (hn:args.length=n)
  (h:∀ (w:World) (X:Nat->Prop) (κ:Df) (c:Code) (a:Act),N<=1000000->P.follows .mixedOrders=true->Uj P N ic c=true->(P.funcs[f]?).bind (·.body)=some c->X6 Γ w w.heap.size κ X N ⟨q8y 0 args,hp⟩ a w->∀ Qw:Exit->Act->World->Prop,
   (∀ rest d2 s' a' w',Uj P N rest d2=true->X6 Γ w w.heap.size κ X N s' a' w'->awp P Γ rest (qGJ rvs res hp') s'->d2.wp P Qw a' w')->c.wp P Qw a w):Bm P Γ f hp args res hp':=by
 intro w X κ vs hg hk hs hts
 refine .inl ⟨q3M hc _,?_⟩
 unfold Ba at hc
 split at hc
 case h_2=>cases hc
 rename_i fn hf
 simp only[xqc,Bool.not_eq_true',xqu,xz0]at hc
 obtain⟨⟨⟨⟨⟨⟨h1,h2⟩,h3⟩,h4⟩,h5⟩,h6⟩,h7⟩:=hc
 cases hb:fn.body with
 | none=>rw[hb]at h1;cases h1
 | some c =>
  rw[hb]at h1
  subst h3
  refine calls_of_wp hf hb ?_
  have hlen:vs.length<=fn.ntmps:=by rw[<- hts.1,hn];exact h5
  have hI:X6 Γ w w.heap.size κ X fn.ntmps ⟨q8y 0 args,hp⟩ { tmps:=vs.toArray++Array.replicate (fn.ntmps-vs.toArray.size) undef,defers:=[] } w:=by
   refine⟨X,κ,⟨?_,hs.reg,hs.inj,hs.loc,hs.kap,hs.kbig,hs.xlt,rfl,rfl,rfl,xzo _,fun _ _ _=>rfl⟩,hg,fun _ h=>h,fun _ h=>.inl h,?_,rfl⟩
   ·intro t a ht
    obtain⟨_,hu⟩:=qBq ht
    obtain⟨x,h1,h2⟩:=hts.get hu
    simp only[Nat.sub_zero]at h1
    have hlt:t<vs.length:=(xqi.1 h1).1
    have:(vs.toArray++Array.replicate (fn.ntmps-vs.toArray.size) undef).getD t undef=x:=by
     rw[Array.getD_eq_getD_getElem?,Array.getElem?_append_left (by simpa using hlt)]
     simp[h1]
    rw[this];exact h2
   ·simp;omega
  refine h w X κ c _ h4 h7 h1 (by rw[hf];exact hb) hI _ fun rest d2 s' a' w' hr hI' hq=>?_
  refine wp_mono (E9 h4 h7 hr hI' hq) ?_
  rintro e a w' ⟨x,s,rfl,⟨X',μ',hsim,hg',h0,hbd,hsz,hds⟩,hq⟩
  have fin:∀ c,q7p s rvs=some (c,res)->c->s.hp=hp'->a.defers=[]/\∃ v,(results fn a.tmps).run P w'=.ok v w'/\∃ u,Ending.returned v=.returned u /\
    ∃ X' μ',Sim w w.heap.size κ X' μ' ⟨[],hp'⟩ #[] w'/\AR w' X' μ' (St.sh ⟨[],hp'⟩) res u/\(∀ b,X b->X' b)/\(∀ b,X' b->X b\/w.heap.size<=b\/∃ id n,κ id=some (b,n)):=by
   intro c hr hcc hh
   obtain⟨v,h8,h9⟩:=qGK hsim h6 hr hcc
   subst hh
   exact⟨hds,v,h8,v,rfl,X',μ',⟨fun t a ht=>by simp[A5]at ht,hsim.reg,hsim.inj,hsim.loc,hsim.kap,hsim.kbig,hsim.xlt,hsim.os,hsim.tape,hsim.output,hsim.size,hsim.fr⟩,h9,h0,hbd⟩
  cases x with
  | normal=>obtain⟨c,hr,hcc,hh⟩:=hq;exact fin c hr hcc hh
  | ret=>obtain⟨c,hr,hcc,hh⟩:=hq;exact fin c hr hcc hh
  | exit i=>exact hq.elim
end
def Jy (n:Nat) (wl:List (Nat×List Int)):Nat:=wl.foldl (fun m p=>min m p.1) n
theorem q7M:∀ {wl:List (Nat×List Int)} {n:Nat},Jy n wl<=n/\∀ p∈wl,Jy n wl<=p.1
 | [],n=>⟨xzo _,fun p hp=>by cases hp⟩
 | q::wl,n=>by
  obtain⟨h1,h2⟩:=q7M (wl:=wl) (n:=min n q.1)
  refine⟨Nat.le_trans h1 (Nat.min_le_left _ _),fun p hp=>?_⟩
  rcases xqv.1 hp with rfl|hp
  ·exact Nat.le_trans h1 (Nat.min_le_right _ _)
  ·exact h2 p hp
theorem qDB:∀ {wl:List (Nat×List Int)} {n:Nat},Jy n wl=n\/∃ p∈wl,Jy n wl=p.1
 | [],n=>.inl rfl
 | q::wl,n=>by
  rcases qDB (wl:=wl) (n:=min n q.1)with h|⟨p,hp,h⟩
  ·have:Jy n (q::wl)=min n q.1:=h
   rw[this]
   rcases Nat.le_total n q.1 with h2|h2
   ·exact .inl (Nat.min_eq_left h2)
   ·exact .inr ⟨q,xqh,Nat.min_eq_right h2⟩
  ·exact .inr ⟨p,xqf _ hp,h⟩
abbrev qCO:IC:=.reg [od 2 (.mv (ki 0))] [.keepE [0]]
abbrev qCP:IC:=.reg [om 5 0,od 6 (.nck (tm 5)),od 7 (fa 0 6),od 8 (ld 1 7),od 9 (.nck (tm 8)),od 10 (fa 0 9),od 11 (fa 0 10),od 12 (ld 1 11),od 13 (le 0 12),om 3 13] [.keepE [0,3]]
abbrev qCQ:IC:=.reg [om 26 3,om 2 26] [.keepE [2]]
abbrev qI5:IC:=.seq qCO (.seq qCP (.seq .dead (.seq qCQ .ret)))
theorem qFk:Ba Tryz.prog 45 qI5 27 1 [.tmp 2]=true:=by kernel_rfl
abbrev qNi:List RO:=[om 14 0,od 15 (.nck (tm 14)),od 16 (fa 1 15),od 17 (ld 1 16)]
def qPf (P:Program) (N:Nat):Code->Bool
 | .seq (.region _ ops2 false) (.block 0 (.loop (.seq (.region _ ops3 false) (.seq (.cond (.tmp 20) .skip (.exit 0)) (.block 1 (.seq (.region _ ops4 false) (.region _ ops5 false))))))) =>
  (match ops2.toList,ops3.toList,ops4.toList,ops5.toList with
  | [a1,a2,a3,a4,a5],[b1,b2],[c1,c2,c3],[d1,d2,d3,d4]=>X7 P N ops2.toList qNi [a1,a2,a3,a4]&&Ye a5 18 (qNh P 17)&&Ye b1 19 (qGx 18)&&Ye b2 20 (qI3 19 0)&&Ye c1 21 (qLL 18)&&Ye c2 22 (qI3 21 0)&&Ye c3 4 (mvB 22) &&
    Ye d1 23 (mvB 3)&&Ye d2 24 (mvB 4)&&Ye d3 25 (qLK 23 24)&&Ye d4 3 (mvB 25)
  | _,_,_,_=>false)
 | _=>false
def qGy (P:Program):Option Code->Bool
 | some (.seq _ (.seq _ (.seq d _)))=>qPf P 27 d
 | _=>false
theorem qEa:qGy Tryz.prog ((Tryz.prog.funcs[(45:Nat)]?).bind (·.body))=true:=by kernel_rfl
section
variable {P:Program} {Γ:Tables} {w0:World} {B:Nat} {κ:Df} {X0:Nat->Prop}
structure qNj (wb:World) (g clock n:Nat) (ms:List MapEntry) (a:Act) (w:World):Prop where
 sz:a.tmps.size=27
 ds:a.defers=[]
 it:a.tmps.getD 18 undef=.pointer (some ⟨wb.heap.size,0,none⟩)
 os:w.os=wb.os
 tape:w.tape=wb.tape
 out:w.output=wb.output
 ex:∃ (seen:Array Nat) (c0:Nat) (m:Nat),a.tmps.getD 3 undef=.int .i64 (m:Int)/\w.heap=wb.heap.push (.mapIter (some g) clock seen c0)/\clock<=c0/\m<=n/\(∀ e∈ms,seen.contains e.born=true->∃ k:Nat,e.key=.int .i64 (k:Int)/\m<=k)/\(m=n\/∃ e∈ms,e.key=.int .i64 (m:Int))
theorem C9 {a:Act} {d k:Nat} {v:Value} (hd:d<a.tmps.size):(a.put (some d) v).tmps.getD k undef=if k=d then v else a.tmps.getD k undef:=by
 show(a.tmps.setIfInBounds d v).getD k undef=_
 by_cases h:k=d
 ·subst h;simp[Array.getD,hd]
 ·rw[if_neg h]
  simp[Array.getD_eq_getD_getElem?,Array.getElem?_setIfInBounds,Ne.symm h]
theorem qEb {e e':MapEntry}:∀ {ms:List MapEntry},(ms.map (·.born)).Nodup->e∈ms->e' ∈ ms->e.born=e'.born->e=e'
 | [],_,h1,_,_=>by cases h1
 | x::ms,hn,h1,h2,hb=>by
  simp only[xqm,xzj]at hn
  rcases xqv.1 h1 with e1|m1<;>rcases xqv.1 h2 with e2|m2
  ·rw[e1,e2]
  ·exact absurd (e1 ▸ hb ▸ xzk m2) hn.1
  ·exact absurd (e2 ▸ hb ▸ xzk m1) hn.1
  ·exact qEb hn.2 m1 m2 hb
theorem qJo {wb:World} {g clock n:Nat} {ms:List MapEntry} (hg:wb.heap[g]? = some (.map ms.toArray clock)) (hb:q7T ms clock) (hk:∀ e∈ms,∃ k:Nat,e.key=.int .i64 (k:Int)) {id3 id4 id5:Nat} {b1 b2 c1 c2 c3 d1 d2 d3 d4:Oper} {ops3 ops4 ops5:Array Oper}
  (o3:ops3.toList=[b1,b2]) (o4:ops4.toList=[c1,c2,c3]) (o5:ops5.toList=[d1,d2,d3,d4]) (h1:Ye b1 19 (qGx 18)=true) (h2:Ye b2 20 (qI3 19 0)=true) (h3:Ye c1 21 (qLL 18)=true) (h4:Ye c2 22 (qI3 21 0)=true) (h5:Ye c3 4 (mvB 22)=true)
  (h6:Ye d1 23 (mvB 3)=true) (h7:Ye d2 24 (mvB 4)=true) (h8:Ye d3 25 (qLK 23 24)=true) (h9:Ye d4 3 (mvB 25)=true) {Q:Exit->Act->World->Prop} {a:Act} {w:World} (hI:qNj wb g clock n ms a w)
  (hK:∀ a' w' (m:Nat),a'.tmps.size=27->a'.defers=[]->a'.tmps.getD 3 undef=.int .i64 (m:Int)->(∃ it,w'.heap=wb.heap.push it)->w'.os=wb.os->w'.tape=wb.tape->w'.output=wb.output->m<=n->(∀ e∈ms,∃ k:Nat,e.key=.int .i64 (k:Int)/\m<=k)->(m=n\/∃ e∈ms,e.key=.int .i64 (m:Int))->Q (.exit 0) a' w') :
  (Code.loop (.seq (.region id3 ops3 false) (.seq (.cond (.tmp 20) .skip (.exit 0)) (.block 1 (.seq (.region id4 ops4 false) (.region id5 ops5 false)))))).wp P Q a w:=by
 have hop:∀ {o:Oper} {d:Nat} {f:Op->Bool},Ye o d f=true->f o.op=true:=fun h=>by simp only[Ye,xqc]at h;exact h.2
 have hlt:g<wb.heap.size:=(Array.getElem?_eq_some_iff.1 hg).1
 refine wp_loop (fun a w=>qNj wb g clock n ms a w) (fun a w=>(_root_.Go.leftOf ms.toArray (w.iterSeen wb.heap.size)).size) hI fun a w hI=>?_
 obtain⟨hsz,hds,hit,hos,htape,hout,seen,c0,m,hm3,hheap,hcc,hmn,hall,hat⟩:=hI
 have hr:w.heap[wb.heap.size]? = some (.mapIter (some g) clock seen c0):=by rw[hheap];simp
 have hgm:w.heap[g]? = some (.map ms.toArray clock):=by
  rw[hheap,xzv hlt]
  rw[xzw hlt]at hg
  exact hg
 have hseen:w.iterSeen wb.heap.size=seen:=by unfold World.iterSeen;rw[hr]
 have hnx:qGx 18 b1.op=true:=hop h1
 have hnext:=fun ty=>qJn (P:=P) (w:=w) (ty:=ty) hr hgm (fun x hx=>hb.1 x (by simpa using hx)) hcc
 have hrunN:∀ {v:Value} {w':World},(∀ ty,(Instr.next (.pointer (some ⟨wb.heap.size,0,none⟩)) false ty).run P w=.ok v w')->(execOp a.eval b1).run P w=.ok (.value v) w':=fun hv=>by
  unfold qGx at hnx
  split at hnx<;>simp only[xqc,xz0,xqn,Bool.not_eq_true']at hnx
  rename_i s b hs
  obtain⟨rfl,rfl⟩:=hnx
  simp[execOp,hs,Act.eval,hit,hv]
 refine wp_seq (wp_region_list ?_)
 rw[o3]
 rcases hnext 0 with⟨hz,_⟩|⟨e0,he0,dr0,hrun0⟩
 ·have hrun:∀ ty,(Instr.next (.pointer (some ⟨wb.heap.size,0,none⟩)) false ty).run P w=.ok (.tuple #[.bool false]) w:=fun ty=>by
   rcases hnext ty with⟨_,h⟩|⟨e,he,_⟩
   ·exact h
   ·exfalso
    have:(_root_.Go.leftOf ms.toArray seen).toList=[]:=by
     apply xqo
     simpa using hz
    rw[this]at he;cases he
  refine q2t h1 (hrunN hrun) ?_
  have g19:(a.put (some 19) (.tuple #[.bool false])).tmps.getD 19 undef=.tuple #[.bool false]:=by rw[C9 (by omega),if_pos rfl]
  refine q2t h2 (qAv (y:=.bool false) (hop h2) g19 (by rfl)) ?_
  have s1:(a.put (some 19) (.tuple #[.bool false])).tmps.size=27:=by show(a.tmps.setIfInBounds _ _).size=27;simpa using hsz
  have g20:((a.put (some 19) (.tuple #[.bool false])).put (some 20) (.bool false)).tmps.getD 20 undef=.bool false:=by rw[C9 (by omega),if_pos rfl]
  show((Code.seq _ _).wp P _ _ _)
  refine wp_seq (wp_cond_split (t:=false) g20 (fun h=>by cases h) fun _=>wp_exit ?_)
  refine hK _ _ m ?_ hds ?_ ⟨_,hheap⟩ hos htape hout hmn ?_ hat
  ·show((a.tmps.setIfInBounds _ _).setIfInBounds _ _).size=27;simpa using hsz
  ·rw[C9 (by omega),if_neg (by omega),C9 (by omega),if_neg (by omega)];exact hm3
  ·intro e he
   refine hall e he ?_
   cases hc:seen.contains e.born with
   | true=>rfl
   | false =>
    exfalso
    have:e∈_root_.Go.leftOf ms.toArray seen:=Array.mem_filter.2 ⟨by simpa using he,by rw[hc];rfl⟩
    have h0:_root_.Go.leftOf ms.toArray seen=#[]:=Array.eq_empty_of_size_eq_zero hz
    rw[h0]at this;simp at this
 ·have hrun:∀ ty,(Instr.next (.pointer (some ⟨wb.heap.size,0,none⟩)) false ty).run P w=.ok (.tuple #[.bool true,e0.key,e0.val]) { w with drawn:=dr0,heap:=w.heap.setIfInBounds wb.heap.size (.mapIter (some g) clock (seen.push e0.born) clock) }:=fun ty=>hrun0
  obtain⟨hem,hns⟩:=_root_.Go.mem_left he0
  have hem':e0∈ms:=by simpa using hem
  obtain⟨k,hkey⟩:=hk e0 hem'
  have hh2:∀ y:Obj,(wb.heap.push (.mapIter (some g) clock seen c0)).setIfInBounds wb.heap.size y=wb.heap.push y:=fun y=>by
   apply Array.toList_inj.1
   simp
  generalize hw2:({ w with drawn:=dr0,heap:=w.heap.setIfInBounds wb.heap.size (.mapIter (some g) clock (seen.push e0.born) clock) }:World)=w2 at hrun
  have hheap2:w2.heap=wb.heap.push (.mapIter (some g) clock (seen.push e0.born) clock):=by
   rw[<- hw2]
   show w.heap.setIfInBounds _ _=_
   rw[hheap,hh2]
  have hos2:w2.os=wb.os:=by rw[<- hw2];exact hos
  have htape2:w2.tape=wb.tape:=by rw[<- hw2];exact htape
  have hout2:w2.output=wb.output:=by rw[<- hw2];exact hout
  refine q2t h1 (hrunN hrun) ?_
  have s19:(a.put (some 19) (.tuple #[.bool true,e0.key,e0.val])).tmps.size=27:=by show(a.tmps.setIfInBounds _ _).size=27;simpa using hsz
  have g19:(a.put (some 19) (.tuple #[.bool true,e0.key,e0.val])).tmps.getD 19 undef=.tuple #[.bool true,e0.key,e0.val]:=by rw[C9 (by omega),if_pos rfl]
  have g18:(a.put (some 19) (.tuple #[.bool true,e0.key,e0.val])).tmps.getD 18 undef=.pointer (some ⟨wb.heap.size,0,none⟩):=by rw[C9 (by omega),if_neg (by omega)];exact hit
  have g3:(a.put (some 19) (.tuple #[.bool true,e0.key,e0.val])).tmps.getD 3 undef=.int .i64 (m:Int):=by rw[C9 (by omega),if_neg (by omega)];exact hm3
  have d19:(a.put (some 19) (.tuple #[.bool true,e0.key,e0.val])).defers=[]:=hds
  generalize a.put (some 19) (.tuple #[.bool true,e0.key,e0.val])=a1 at *
  refine q2t h2 (qAv (y:=.bool true) (hop h2) g19 (by rfl)) ?_
  have s20:(a1.put (some 20) (.bool true)).tmps.size=27:=by show(a1.tmps.setIfInBounds _ _).size=27;simpa using s19
  have k20:(a1.put (some 20) (.bool true)).tmps.getD 20 undef=.bool true:=by rw[C9 (by omega),if_pos rfl]
  have k18:(a1.put (some 20) (.bool true)).tmps.getD 18 undef=.pointer (some ⟨wb.heap.size,0,none⟩):=by rw[C9 (by omega),if_neg (by omega)];exact g18
  have k3:(a1.put (some 20) (.bool true)).tmps.getD 3 undef=.int .i64 (m:Int):=by rw[C9 (by omega),if_neg (by omega)];exact g3
  have d20:(a1.put (some 20) (.bool true)).defers=[]:=d19
  generalize a1.put (some 20) (.bool true)=a2 at *
  show((Code.seq _ _).wp P _ _ _)
  refine wp_seq (wp_cond_split (t:=true) k20 (fun _=>wp_skip ?_) fun h=>by cases h)
  show((Code.block 1 _).wp P _ _ _)
  refine wp_block (wp_seq (wp_region_list ?_))
  rw[o4]
  have hr2:w2.heap[wb.heap.size]? = some (.mapIter (some g) clock (seen.push e0.born) clock):=by rw[hheap2];simp
  have hgm2:w2.heap[g]? = some (.map ms.toArray clock):=by
   rw[hheap2,xzv hlt]
   rw[xzw hlt]at hg
   exact hg
  have hent:=qI4 (P:=P) (w:=w2) hr2 hgm2 hem (by simpa using hb.2)
  have hrunE:(execOp a2.eval c1).run P w2=.ok (.value (.tuple #[e0.key,e0.val])) w2:=by
   have hx:qLL 18 c1.op=true:=hop h3
   unfold qLL at hx
   split at hx<;>simp only[xz0,xqn]at hx
   rename_i s hs
   subst hx
   simp[execOp,hs,Act.eval,k18,hent]
  refine q2t h3 hrunE ?_
  have g21:(a2.put (some 21) (.tuple #[e0.key,e0.val])).tmps.getD 21 undef=.tuple #[e0.key,e0.val]:=by rw[C9 (by omega),if_pos rfl]
  have s21:(a2.put (some 21) (.tuple #[e0.key,e0.val])).tmps.size=27:=by show(a2.tmps.setIfInBounds _ _).size=27;simpa using s20
  have l18:(a2.put (some 21) (.tuple #[e0.key,e0.val])).tmps.getD 18 undef=.pointer (some ⟨wb.heap.size,0,none⟩):=by rw[C9 (by omega),if_neg (by omega)];exact k18
  have l3:(a2.put (some 21) (.tuple #[e0.key,e0.val])).tmps.getD 3 undef=.int .i64 (m:Int):=by rw[C9 (by omega),if_neg (by omega)];exact k3
  have d21:(a2.put (some 21) (.tuple #[e0.key,e0.val])).defers=[]:=d20
  generalize a2.put (some 21) (.tuple #[e0.key,e0.val])=a3 at *
  refine q2t h4 (qAv (y:=.int .i64 (k:Int)) (hop h4) g21 (by simp[hkey])) ?_
  have g22:(a3.put (some 22) (.int .i64 (k:Int))).tmps.getD 22 undef=.int .i64 (k:Int):=by rw[C9 (by omega),if_pos rfl]
  have s22:(a3.put (some 22) (.int .i64 (k:Int))).tmps.size=27:=by show(a3.tmps.setIfInBounds _ _).size=27;simpa using s21
  have m18:(a3.put (some 22) (.int .i64 (k:Int))).tmps.getD 18 undef=.pointer (some ⟨wb.heap.size,0,none⟩):=by rw[C9 (by omega),if_neg (by omega)];exact l18
  have m3:(a3.put (some 22) (.int .i64 (k:Int))).tmps.getD 3 undef=.int .i64 (m:Int):=by rw[C9 (by omega),if_neg (by omega)];exact l3
  have d22:(a3.put (some 22) (.int .i64 (k:Int))).defers=[]:=d21
  generalize a3.put (some 22) (.int .i64 (k:Int))=a4 at *
  refine q2t h5 (q9R (hop h5)) ?_
  rw[g22]
  have g4:(a4.put (some 4) (.int .i64 (k:Int))).tmps.getD 4 undef=.int .i64 (k:Int):=by rw[C9 (by omega),if_pos rfl]
  have s4:(a4.put (some 4) (.int .i64 (k:Int))).tmps.size=27:=by show(a4.tmps.setIfInBounds _ _).size=27;simpa using s22
  have n18:(a4.put (some 4) (.int .i64 (k:Int))).tmps.getD 18 undef=.pointer (some ⟨wb.heap.size,0,none⟩):=by rw[C9 (by omega),if_neg (by omega)];exact m18
  have n3:(a4.put (some 4) (.int .i64 (k:Int))).tmps.getD 3 undef=.int .i64 (m:Int):=by rw[C9 (by omega),if_neg (by omega)];exact m3
  have d4':(a4.put (some 4) (.int .i64 (k:Int))).defers=[]:=d22
  generalize a4.put (some 4) (.int .i64 (k:Int))=a5 at *
  show((Code.region _ _ _).wp P _ _ _)
  refine wp_region_list ?_
  rw[o5]
  refine q2t h6 (q9R (hop h6)) ?_
  rw[n3]
  have g23:(a5.put (some 23) (.int .i64 (m:Int))).tmps.getD 23 undef=.int .i64 (m:Int):=by rw[C9 (by omega),if_pos rfl]
  have s23:(a5.put (some 23) (.int .i64 (m:Int))).tmps.size=27:=by show(a5.tmps.setIfInBounds _ _).size=27;simpa using s4
  have p18:(a5.put (some 23) (.int .i64 (m:Int))).tmps.getD 18 undef=.pointer (some ⟨wb.heap.size,0,none⟩):=by rw[C9 (by omega),if_neg (by omega)];exact n18
  have p4:(a5.put (some 23) (.int .i64 (m:Int))).tmps.getD 4 undef=.int .i64 (k:Int):=by rw[C9 (by omega),if_neg (by omega)];exact g4
  have d23:(a5.put (some 23) (.int .i64 (m:Int))).defers=[]:=d4'
  generalize a5.put (some 23) (.int .i64 (m:Int))=a6 at *
  refine q2t h7 (q9R (hop h7)) ?_
  rw[p4]
  have g24:(a6.put (some 24) (.int .i64 (k:Int))).tmps.getD 24 undef=.int .i64 (k:Int):=by rw[C9 (by omega),if_pos rfl]
  have s24:(a6.put (some 24) (.int .i64 (k:Int))).tmps.size=27:=by show(a6.tmps.setIfInBounds _ _).size=27;simpa using s23
  have q18:(a6.put (some 24) (.int .i64 (k:Int))).tmps.getD 18 undef=.pointer (some ⟨wb.heap.size,0,none⟩):=by rw[C9 (by omega),if_neg (by omega)];exact p18
  have q23:(a6.put (some 24) (.int .i64 (k:Int))).tmps.getD 23 undef=.int .i64 (m:Int):=by rw[C9 (by omega),if_neg (by omega)];exact g23
  have d24:(a6.put (some 24) (.int .i64 (k:Int))).defers=[]:=d23
  generalize a6.put (some 24) (.int .i64 (k:Int))=a7 at *
  refine q2t h8 (qJm (hop h8) q23 g24) ?_
  have hmin:(if(k:Int)<(m:Int) then(k:Int) else(m:Int))=((min m k:Nat):Int):=by split<;>omega
  rw[hmin]
  have g25:(a7.put (some 25) (.int .i64 ((min m k:Nat):Int))).tmps.getD 25 undef=.int .i64 ((min m k:Nat):Int):=by rw[C9 (by omega),if_pos rfl]
  have s25:(a7.put (some 25) (.int .i64 ((min m k:Nat):Int))).tmps.size=27:=by show(a7.tmps.setIfInBounds _ _).size=27;simpa using s24
  have r18:(a7.put (some 25) (.int .i64 ((min m k:Nat):Int))).tmps.getD 18 undef=.pointer (some ⟨wb.heap.size,0,none⟩):=by rw[C9 (by omega),if_neg (by omega)];exact q18
  have d25:(a7.put (some 25) (.int .i64 ((min m k:Nat):Int))).defers=[]:=d24
  generalize a7.put (some 25) (.int .i64 ((min m k:Nat):Int))=a8 at *
  refine q2t h9 (q9R (hop h9)) ?_
  rw[g25]
  show qNj wb g clock n ms _ w2/\_
  refine⟨⟨?_,d25,?_,hos2,htape2,hout2,seen.push e0.born,clock,min m k,?_,hheap2,xzo _,by omega,fun e he hc=>?_,?_⟩,?_⟩
  ·show(a8.tmps.setIfInBounds _ _).size=27;simpa using s25
  ·rw[C9 (by omega),if_neg (by omega)];exact r18
  ·rw[C9 (by omega),if_pos rfl]
  ·rw[_root_.Go.contains_push]at hc
   rcases Bool.or_eq_true_iff.1 hc with hc|hc
   ·obtain⟨j,hj,hle⟩:=hall e he hc
    exact⟨j,hj,by omega⟩
   ·have hee:e=e0:=by
     have hbn:e.born=e0.born:=by simpa using hc
     exact qEb hb.2 he hem' hbn
    subst hee
    exact⟨k,hkey,by omega⟩
  ·rcases Nat.le_total m k with h|h
   ·rw[Nat.min_eq_left h];exact hat
   ·rw[Nat.min_eq_right h];exact .inr ⟨e0,hem',hkey⟩
  ·have hseen2:w2.iterSeen wb.heap.size=seen.push e0.born:=by unfold World.iterSeen;rw[hr2]
   show(_root_.Go.leftOf ms.toArray (w2.iterSeen wb.heap.size)).size<(_root_.Go.leftOf ms.toArray (w.iterSeen wb.heap.size)).size
   rw[hseen2,hseen]
   exact _root_.Go.left_shrinks _ _ _ he0
end
section
variable {Γ:Tables}
theorem qJp (D:Ci) (n:Nat) (hcn:D.c.nodes.l.length=n) (W:WS) (hw:WOk n W) :
  Bm Tryz.prog Γ 45 (hW D n W D9) [.lp 1000000 0 0] (.t (tI (Jy n W.wl))) (hW D n W D9):=by
 refine qPe qFk rfl fun w X κ c a hN hm hc hcode hI Qw hQ=>?_
 have hcd:=qEa
 rw[hcode]at hcd
 unfold qGy at hcd
 split at hcd
 case h_2=>cases hcd
 rename_i x0 x1 dd x2 hcc
 simp only[xqa]at hcc
 subst hcc
 simp only[Uj,xqc]at hc
 obtain⟨hc0,hc1,hcD,hcR⟩:=hc
 have hR0:awp Tryz.prog Γ qCO (fun e s=>e=.normal/\s=⟨[(0,.lp 1000000 0 0)],hW D n W D9⟩) ⟨q8y 0 [.lp 1000000 0 0],hW D n W D9⟩:=by
  refine Ik ?_
  simp
 have hR1:awp Tryz.prog Γ qCP (fun e s=>e=.normal/\s=⟨[(0,.lp 1000000 0 0),(3,.t (tI n))],hW D n W D9⟩) ⟨[(0,.lp 1000000 0 0)],hW D n W D9⟩:=by
  refine Ik ?_
  simp[hW,Bg,Aa,Ab,hcn]
 refine wp_seq (wp_mono (E9 hN hm hc0 hI hR0) ?_)
 rintro e a1 w1 ⟨x,s,rfl,hI1,rfl,rfl⟩
 show(Code.seq _ _).wp Tryz.prog Qw a1 w1
 refine wp_seq (wp_mono (E9 hN hm hc1 hI1 hR1) ?_)
 rintro e a2 w2 ⟨x,s,rfl,hI2,rfl,rfl⟩
 show(Code.seq _ _).wp Tryz.prog Qw a2 w2
 unfold qPf at hcd
 split at hcd
 case h_2=>cases hcd
 rename_i id2 ops2 id3 ops3 id4 ops4 id5 ops5
 split at hcd
 case h_2=>cases hcd
 rename_i b1 b2 b3 b4 b5 d1 d2 e1 e2 e3 f1 f2 f3 f4 o2 o3 o4 o5
 simp only[xqc]at hcd
 obtain⟨⟨⟨⟨⟨⟨⟨⟨⟨⟨hch,hr5⟩,hn1⟩,hn2⟩,hn3⟩,hn4⟩,hn5⟩,hn6⟩,hn7⟩,hn8⟩,hn9⟩:=hcd
 refine wp_seq (wp_seq (wp_region_list ?_))
 have hst:∃ s1,Md Tryz.prog Γ qNi ⟨[(0,.lp 1000000 0 0),(3,.t (tI n))],hW D n W D9⟩ s1/\s1=⟨[(17,.lm 1000004),(16,.lp 1000000 0 1),(15,.lp 1000000 0 0),(14,.lp 1000000 0 0),(0,.lp 1000000 0 0),(3,.t (tI n))],hW D n W D9⟩:=by
  have:awp Tryz.prog Γ (.reg qNi []) (fun e s=>s=⟨[(17,.lm 1000004),(16,.lp 1000000 0 1),(15,.lp 1000000 0 0),(14,.lp 1000000 0 0),(0,.lp 1000000 0 0),(3,.t (tI n))],hW D n W D9⟩) ⟨[(0,.lp 1000000 0 0),(3,.t (tI n))],hW D n W D9⟩:=by
   refine Ik ?_
   simp[hW,Bg]
  exact this
 obtain⟨_,hst,rfl⟩:=hst
 have hpre:=fun Q K=>qCN (Q:=Q) (ops:=ops2.toList) (rest:=[b5]) hN hI2 hch hst K
 rw[xz5]at hpre
 rw[o2]
 refine hpre _ fun a3 w3 hI3=>?_
 obtain⟨X',μ,hsim,hgl,hx0,hbd,hsz,hds⟩:=hI3
 obtain⟨g,mm,hs,hmu,he⟩:=(hsim.env 17 _ rfl).lm_inv
 obtain⟨g',n',clock,ms,hm',hh,hbo,hlen,hr⟩:=hsim.reg 1000004 (.mr (F9 D9 W.wl)) (by simp[hW,A5])
 rw[hmu]at hm';cases hm'
 have h3:=(hsim.env 3 _ rfl).t_inv.v_inv
 have hky:∀ e∈ms,∃ p∈W.wl,e.key=.int .i64 (p.1:Int):=fun e he=>by
  obtain⟨i,hi,rfl⟩:=xqt he
  have hi2:i<(F9 D9 W.wl).length:=by rw[hlen];exact hi
  have hi3:i<W.wl.length:=by simpa[F9]using hi2
  have:=(hr i (F9 D9 W.wl)[i] ms[i] (by simp[hi2]) (by simp[hi])).1
  exact⟨W.wl[i],xqj hi3,by simpa[F9]using this⟩
 have hky2:∀ p∈W.wl,∃ e∈ms,e.key=.int .i64 (p.1:Int):=fun p hp=>by
  obtain⟨i,hi3,rfl⟩:=xqt hp
  have hi2:i<(F9 D9 W.wl).length:=by simpa[F9]using hi3
  have hi:i<ms.length:=by rw[<- hlen];exact hi2
  have:=(hr i (F9 D9 W.wl)[i] ms[i] (by simp[hi2]) (by simp[hi])).1
  exact⟨ms[i],xqj hi,by simpa[F9]using this⟩
 have hrunR:(execOp a3.eval b5).run Tryz.prog w3=.ok (.value (.pointer (some ⟨w3.heap.size,0,none⟩))) (w3.alloc (.mapIter (some g) clock #[] clock)):=by
  have hx:qNh Tryz.prog 17 b5.op=true:=by simp only[Ye,xqc]at hr5;exact hr5.2
  unfold qNh at hx
  split at hx<;>simp only[xqc,xz0,xqn,Option.isSome_iff_exists]at hx
  rename_i ty s hop
  obtain⟨rfl,⟨k,e⟩,hmo⟩:=hx
  have:=_root_.Go.run_range_map (P:=Tryz.prog) w3 ty k e g ms.toArray clock (G3 hmo) hh
  simp[execOp,hop,Act.eval,he,this]
 refine q2t hr5 hrunR ?_
 show(Code.block 0 _).wp Tryz.prog _ _ _
 refine wp_block (qJo (wb:=w3) (n:=n) hh hbo (fun e he=>by obtain⟨p,_,h⟩:=hky e he;exact⟨p.1,h⟩) o3 o4 o5 hn1 hn2 hn3 hn4 hn5 hn6 hn7 hn8 hn9 ⟨?_,hds,?_,rfl,rfl,rfl,#[],clock,n,?_,rfl,xzo _,xzo _,(fun e he hc=>by simp at hc),.inl rfl⟩ fun a' w' m k1 k2 k3 k4 k5 k6 k7 k8 k9 k10=>?_)
 ·show(a3.tmps.setIfInBounds _ _).size=27;simpa using hsz
 ·rw[C9 (by omega),if_pos rfl]
 ·rw[C9 (by omega),if_neg (by omega)];exact h3
 show x2.wp Tryz.prog Qw a' w'
 obtain⟨it,k4⟩:=k4
 have hml:m=Jy n W.wl:=by
  refine Nat.le_antisymm ?_ ?_
  ·rcases qDB (wl:=W.wl) (n:=n)with h|⟨p,hp,h⟩
   ·rw[h];exact k8
   ·obtain⟨e,he,hk⟩:=hky2 p hp
    obtain⟨k,hk2,hle⟩:=k9 e he
    rw[hk]at hk2
    simp only[Value.int.injEq,true_and]at hk2
    omega
  ·rcases k10 with h|⟨e,he,hk⟩
   ·rw[h];exact q7M.1
   ·obtain⟨p,hp,hk2⟩:=hky e he
    rw[hk]at hk2
    simp only[Value.int.injEq,true_and]at hk2
    have:=(q7M (n:=n)).2 p hp
    omega
 subst hml
 have hbel:RowKit.Below w3.heap.size w3 w':=⟨k5,k6,k7,by rw[k4];simp,fun k hk=>by rw[k4,xzv hk,xzw hk]⟩
 have hsim2:=hsim.grow hbel (X':=X') (fun _ h=>h) (fun _ h=>.inl h)
 have hsim3:Sim w w.heap.size κ X' μ ⟨[(3,.t (tI (Jy n W.wl)))],hW D n W D9⟩ a'.tmps w':=by
  have h0:Sim w w.heap.size κ X' μ ⟨[],hW D n W D9⟩ a'.tmps w':=⟨fun t a ht=>by simp[A5]at ht,hsim2.reg,hsim2.inj,hsim2.loc,hsim2.kap,hsim2.kbig,hsim2.xlt,hsim2.os,hsim2.tape,hsim2.output,hsim2.size,hsim2.fr⟩
  exact h0.slot (t:=3) (b:=.t (tI (Jy n W.wl))) (by rw[k3];exact .t _ _ (.v _))
 refine hQ (.seq qCQ .ret) x2 ⟨[(3,.t (tI (Jy n W.wl)))],hW D n W D9⟩ a' w' hcR ⟨X',μ,hsim3,hgl.mono (fun b hb=>hbel.block b (hsim.xlt b hb)) (fun _ h=>h),hx0,hbd,k1,k2⟩ ?_
 refine Ik ?_
 simp[qGJ,q7p,q8x]
 exact⟨True,trivial⟩
end
end Go.Lg
namespace Go.Lg
open Go Go.Proofs Go.Shelf
def soR:Go.Shelf.Ren:=⟨fun|189=>48|125=>108|257=>107|128=>174|129=>175|294=>165|295=>166|296=>167|297=>168|298=>169|299=>170|216=>171|300=>172|301=>173|328=>197|329=>198|330=>199|331=>200|332=>201|215=>183|343=>212|n=>n,fun|28=>33|3=>3|46=>178|0=>0|51=>219|53=>221|4=>4|183=>211|182=>210|131=>216|5=>5|9=>9|218=>240|222=>244|228=>255|229=>186|n=>n,fun n=>n⟩
theorem soL:Lays.n189 Tryz.prog soR where
 mixed:=by kernel_rfl
 f125:=Tryz.func108.trans (congrArg some (by kernel_rfl))
 f128:=Tryz.func174.trans (congrArg some (by kernel_rfl))
 f129:=Tryz.func175.trans (congrArg some (by kernel_rfl))
 f189:=Tryz.func48.trans (congrArg some (by kernel_rfl))
 f215:=Tryz.func183.trans (congrArg some (by kernel_rfl))
 f216:=Tryz.func171.trans (congrArg some (by kernel_rfl))
 f257:=Tryz.func107.trans (congrArg some (by kernel_rfl))
 f294:=Tryz.func165.trans (congrArg some (by kernel_rfl))
 f295:=Tryz.func166.trans (congrArg some (by kernel_rfl))
 f296:=Tryz.func167.trans (congrArg some (by kernel_rfl))
 f297:=Tryz.func168.trans (congrArg some (by kernel_rfl))
 f298:=Tryz.func169.trans (congrArg some (by kernel_rfl))
 f299:=Tryz.func170.trans (congrArg some (by kernel_rfl))
 f300:=Tryz.func172.trans (congrArg some (by kernel_rfl))
 f301:=Tryz.func173.trans (congrArg some (by kernel_rfl))
 f328:=Tryz.func197.trans (congrArg some (by kernel_rfl))
 f329:=Tryz.func198.trans (congrArg some (by kernel_rfl))
 f330:=Tryz.func199.trans (congrArg some (by kernel_rfl))
 f331:=Tryz.func200.trans (congrArg some (by kernel_rfl))
 f332:=Tryz.func201.trans (congrArg some (by kernel_rfl))
 f343:=Tryz.func212.trans (congrArg some (by kernel_rfl))
 t0:=Tryz.underlying0
 a0:=Tryz.isAgg0
 z0:=Tryz.sizeOf0
 v0:=Tryz.zeroValue0
 t3:=Tryz.underlying3
 a3:=Tryz.isAgg3
 z3:=Tryz.sizeOf3
 v3:=Tryz.zeroValue3
 t4:=Tryz.underlying4
 a4:=Tryz.isAgg4
 z4:=Tryz.sizeOf4
 v4:=Tryz.zeroValue4
 t5:=Tryz.underlying5
 a5:=Tryz.isAgg5
 z5:=Tryz.sizeOf5
 v5:=Tryz.zeroValue5
 t9:=Tryz.underlying9
 a9:=Tryz.isAgg9
 z9:=Tryz.sizeOf9
 v9:=Tryz.zeroValue9
 t28:=Tryz.underlying33
 a28:=Tryz.isAgg33
 z28:=Tryz.sizeOf33
 v28:=Tryz.zeroValue33
 t46:=Tryz.underlying178
 a46:=Tryz.isAgg178
 z46:=Tryz.sizeOf178
 v46:=Tryz.zeroValue178
 t51:=Tryz.underlying219
 a51:=Tryz.isAgg219
 z51:=Tryz.sizeOf219
 v51:=Tryz.zeroValue219
 t53:=Tryz.underlying221
 a53:=Tryz.isAgg221
 z53:=Tryz.sizeOf221
 v53:=Tryz.zeroValue221
 t131:=Tryz.underlying216
 a131:=Tryz.isAgg216
 z131:=Tryz.sizeOf216
 v131:=Tryz.zeroValue216
 t182:=Tryz.underlying210
 a182:=Tryz.isAgg210
 z182:=Tryz.sizeOf210
 v182:=Tryz.zeroValue210
 t183:=Tryz.underlying211
 a183:=Tryz.isAgg211
 z183:=Tryz.sizeOf211
 v183:=Tryz.zeroValue211
 t218:=Tryz.underlying240
 a218:=Tryz.isAgg240
 z218:=Tryz.sizeOf240
 v218:=Tryz.zeroValue240
 t222:=Tryz.underlying244
 a222:=Tryz.isAgg244
 z222:=Tryz.sizeOf244
 v222:=Tryz.zeroValue244
 t228:=Tryz.underlying255
 a228:=Tryz.isAgg255
 z228:=Tryz.sizeOf255
 v228:=Tryz.zeroValue255
 t229:=Tryz.underlying186
 a229:=Tryz.isAgg186
 z229:=Tryz.sizeOf186
 v229:=Tryz.zeroValue186
variable {Γ:Tables}
def Xv (l:List Int):List Int:=l.mergeSort fun x y=>decide (x<=y)
theorem V1 {l:List Int}:(Xv l).length=l.length:=List.length_mergeSort l
theorem qEc (vs:Array Value) (w:World):(callFunc 48 vs).run Tryz.prog w=.ok (.enter 48 vs) w:=enters_of Tryz.func48 (by kernel_rfl) rfl vs w
theorem qLM (ty:Nat) (l:List Int) (hl:l.length<=1000000) (cap:Option Nat):Bm Tryz.prog Γ 48 [(1000000,.sl ty 1 (Af l))] [.ls 1000000 0 l.length cap] (.t (.tup [])) [(1000000,.sl ty 1 (Af (Xv l)))]:=by
 intro w X κ vs hg hk hs ha
 refine .inl ⟨qEc _ _,?_⟩
 have hsh:St.sh ⟨[],[(1000000,.sl ty 1 (Af (Xv l)))]⟩=St.sh ⟨[],[(1000000,.sl ty 1 (Af l))]⟩:=funext fun t=>by
  simp only[St.sh,A5]
  split
  ·simp[B9.sh,Af,A6,V1]
  ·rfl
 have hreg:=hs.reg 1000000 (.sl ty 1 (Af l)) (by simp[A5])
 obtain⟨v,rfl⟩:∃ v,vs=[v]:=by
  have:=ha.1
  match vs,this with
  | [v],_=>exact⟨v,rfl⟩
 have hv:=ha.2 0 _ v rfl rfl
 generalize hn:l.length=n at hv
 cases hv with
 | lsnil _ s m h1 h2 a cp hc =>
  have hl0:l=[]:=xqo hn
  subst hl0
  have hso:Xv ([]:List Int)=[]:=xqo V1
  rw[hso]
  refine(Any.slices_Sort_int_none soL a 0 w).mono fun e w' ⟨he,hw⟩=>?_
  subst hw
  exact⟨_,he,X,κ,hs,.t _ _ (.tup _ _ rfl fun k t x h=>by cases h),fun b h=>h,fun b h=>.inl h⟩
 | ls _ off len s m g q c cp h1 h2 hle hlc hcm hfit hfull hc a haa =>
  have haa:=haa (.inr rfl)
  subst haa
  have hx:X=X:=rfl
  have hrr:∃ arr,κ 1000000=some (g,arr.size)/\w.heap[g]? = some (.cells arr ty (0,0))/\n<=arr.size/\∀ (i:Nat) (k:Int),l[i]? = some k->arr[i]? = some (.int .i64 k):=by
   obtain⟨_,h|⟨g',arr,k1,k2,k3,k4⟩⟩:=hreg
   ·rw[h2]at h;exact absurd h.2 (by simp)
   ·rw[k1]at h2
    cases h2
    rw[A6,hn]at k3
    refine⟨arr,k1,k2,by omega,fun i k hi=>?_⟩
    have hi2:i<n:=by rw[<- hn];exact(xqi.1 hi).1
    have hi3:i<arr.size:=by omega
    have:=k4 i 0 [tI k] (tI k) arr[i] (by simp[Af,Au,hi]) rfl (by rw[Nat.mul_one,xzp,xzw hi3])
    rw[xzw hi3,this.v_inv]
  obtain⟨arr,k1,k2,k3,k4⟩:=hrr
  have hgl:g<w.heap.size:=(Array.getElem?_eq_some_iff.1 k2).1
  have hH:Go.Sort.Holds (Value.int .i64) w g 0 l.toArray:=fun j hj=>by
   have hj2:j<l.length:=by simpa using hj
   have:=k4 j l[j] (by simp[hj2])
   constructor
   ·simp only[World.cell?,k2,xjc]
    simp[this,hj2]
   ·simp[World.frozen?,k2]
  have hcall:=Any.slices_Sort_int soL g 0 c l w hH hgl (by omega)
  rw[hn]at hcall
  rw[show 0*s=0 by omega]
  refine hcall.mono fun e w' ⟨he,nd,os,hw⟩=>?_
  refine⟨_,he,X,κ,?_,.t _ _ (.tup _ _ rfl fun k t x h=>by cases h),fun b h=>h,fun b h=>.inl h⟩
  have hsz:w'.heap.size=w.heap.size+os.size:=by
   rw[hw];simp[Go.Sort.grow,Go.Sort.putRow,Go.Sort.mapBlock,Go.Sort.ahead]
  have hoth:∀ k,k<w.heap.size->k≠g->w'.heap[k]? = w.heap[k]? := fun k hk hkg=>by
   rw[hw]
   simp only[Go.Sort.grow,Go.Sort.putRow,Go.Sort.mapBlock,Go.Sort.ahead]
   rw[Array.getElem?_append_left (by simpa using hk),Array.getElem?_modify,if_neg (fun e=>hkg e.symm)]
  have hat:∃ arr',w'.heap[g]? = some (.cells arr' ty (0,0))/\arr'.size=arr.size/\∀ (i:Nat) (k:Int),(Xv l)[i]? = some k->i<arr.size->arr'[i]? = some (.int .i64 k):=by
   refine⟨Go.Sort.putCells (Value.int .i64) 0 (Xv l).toArray arr,?_,by simp[Go.Sort.putCells],fun i k hi hia=>?_⟩
   ·rw[hw]
    simp only[Go.Sort.grow,Go.Sort.putRow,Go.Sort.mapBlock,Go.Sort.ahead]
    rw[Array.getElem?_append_left (by simpa using hgl),Array.getElem?_modify,if_pos rfl,k2]
    rfl
   ·have hil:i<(Xv l).length:=(xqi.1 hi).1
    have e:=(xqi.1 hi).2
    simp[Go.Sort.putCells,hia,hil,e]
  obtain⟨arr',a1,a2,a3⟩:=hat
  refine⟨fun t a ht=>by simp[A5]at ht,fun id r hr=>?_,?_,?_,?_,hs.kbig,fun b hb=>by rw[hsz];have:=hs.xlt b hb;omega,?_,?_,?_,by rw[hsz];omega,fun k hk hkk=>?_⟩
  ·rw[hsh]
   simp only[A5]at hr
   split at hr
   ·rename_i e
    subst e
    cases hr
    refine⟨fun i e hi=>?_,.inr ⟨g,arr',by rw[a2];exact k1,a1,by rw[A6,V1,hn,a2];omega,fun i k e t x h1 h2 h3=>?_⟩⟩
    ·obtain⟨q,hq,rfl⟩:=xqy.1 (xqp hi)
     refine⟨rfl,fun k t ht=>?_⟩
     match k,ht with
     | 0,ht=>cases ht;rfl
    ·simp only[Af,Au,xqr,xqb]at h1
     obtain⟨q,hq,rfl⟩:=h1
     match k,h2 with
     | 0,h2 =>
      cases h2
      have hil:i<(Xv l).length:=(xqi.1 hq).1
      rw[V1,hn]at hil
      have:=a3 i q hq (by omega)
      rw[Nat.mul_one,xzp,this]at h3
      cases h3
      exact .v _
   ·cases hr
  ·rw[hsh];exact hs.inj
  ·rw[hsh]
   intro id g' n' h1 h2
   have:=hs.loc id g' n' h1 h2
   exact⟨this.1,by rw[hsz];omega,this.2.2⟩
  ·rw[hsh];exact hs.kap
  ·rw[hw];rfl
  ·rw[hw];rfl
  ·rw[hw];rfl
  ·exact hoth k hk fun e=>hkk 1000000 _ (by rw[e];exact k1)
end Go.Lg
