/- The abstract code of some functions, as the program gen.py prints it. Conditions: none. -/
import Derived.Test.YtjhbkddcmcfpaaaGreatDoorPkE
import Derived.Test.YtjhbkddcmcfpaaaGreatDoorProg
import Derived.KernelRfl
import Derived.Test.YtjhbkddcmcfpaaaGreatDoorPkG
import Derived.Test.YtjhbkddcmcfpaaaGreatDoorPkF
set_option linter.unusedVariables false
namespace Go.Lg
open Go
section
variable {P:Program} {Γ:Tables} {Q:AX->St->Prop} {s:St}
/- probecard/probecardlaw28.Of (function 6) -/
abbrev q4L:IC:=.gh (.seq (.seq (.reg [om 14 7,om 15 1,od 16 (le 0 15),od 17 (.bin .lss (tm 14) (tm 16))] [kp [1,4,5,6,7,17] [4,5,36,49]]) (.cond (tm 17) .skip (.exit 0))) (.seq (.block 1 (.seq (.reg [om 20 1,om 21 7,od 22 (ia 1 20
 21),od 23 (ld 1 22),od 24 (.conv .i64 (tm 23)),od 25 (fa 0 5),od 26 (ld 1 25),od 27 (.bin .mul (ki 2) (tm 26)),od 28 (.bin .add (tm 27) (ki 1)),od 29 (.bin .rem (tm 24) (tm 28)),om 8 29] [kp [1,4,5,6,7,8] [4,5,36,
 49]]) (.seq (.seq (.reg [om 30 8,od 31 (.bin .eql (tm 30) (ki 0))] [kp [1,4,5,6,7,8,31] [4,5,36,49]]) (.cond (tm 31) (.seq (.pre [.frz 49] (.reg [od 32 (fa 1 5),od 33 (ld 1 32),om 34 6,od 35 (.bsl true 37 1 [(tm 34)]),
 od 36 (.app false 37 1 (tm 33) (tm 35)),od 37 (fa 1 5),on (.store 1 (tm 37) (tm 36))] [kp [1,4,5,7] [4,5,36]])) (.seq (.reg [od 6 (.mv kN)] [.nl 6 49 3 1,kp [1,4,5,6,7] [4,5,36,49]]) (.exit 1))) .skip)) (.seq (.seq
 (.reg [om 38 8,od 39 (fa 0 5),od 40 (ld 1 39),od 41 (.bin .gtr (tm 38) (tm 40))] [kp [1,4,5,6,7,8,41] [4,5,36,49]]) (.cond (tm 41) (.reg [od 42 (fa 0 5),od 43 (ld 1 42),om 44 8,od 45 (.bin .sub (tm 43) (tm 44)),om 8
 45] [kp [1,4,5,6,7,8] [4,5,36,49]]) .skip)) (.reg [om 46 6,om 47 8,od 48 (.bsl true 3 1 [(tm 47)]),od 49 (.app false 3 1 (tm 46) (tm 48)),om 6 49] [kp [1,4,5,6,7] [4,5,36,49]]))))) (.reg [om 18 7,od 19 (.bin
 .add (tm 18) (ki 1)),om 7 19] [kp [1,4,5,6,7] [4,5,36,49]]))) [kp [1,4,5,6,7] [4,5,36,49]]
def Vd:IC:=.loop q4L
abbrev q4M:IC:=(.seq (.reg [od 4 (.alloc false [(.int .i64 0),(.slice none 0 0)])] [kp [0,1,4] [4,36]]) (.seq (.reg [om 9 0,od 10 (.bin .rem (tm 9) (ku 8)),od 11 (.conv .i64 (tm 10)),od 12 (.bin .add (ki 1) (tm 11)),od 13 (.build [(1,(tm
 12)),(1,kN)]),od 5 (.alloc false [(.int .i64 0),(.slice none 0 0)]),on (.store 2 (tm 5) (tm 13))] [.nlb 5 1 36 37 1,kp [1,4,5] [4,5,36]]) (.seq (.reg [od 6 (.mv kN)] [.nl 6 49 3 1,kp [1,4,5,6] [4,5,36,49]]) (.seq
 (.seq (.reg [od 7 (.mv (ki 0))] [kp [1,4,5,6,7] [4,5,36,49]]) (.block 0 Vd)) (.seq (.seq (.reg [om 50 6,od 51 (le 0 50),od 52 (.bin .gtr (tm 51) (ki 0))] [kp [4,5,6,52] [4,5,36,49]]) (.cond (tm 52) (.pre
 [.frz 49] (.reg [od 53 (fa 1 5),od 54 (ld 1 53),om 55 6,od 56 (.bsl true 37 1 [(tm 55)]),oz 57 (.app false 37 1 (tm 54) (tm 56)) 36,od 58 (fa 1 5),on (.store 1 (tm 58) (tm 57))] [kp [4,5] [4,5,36]])) .skip)) (.seq (.reg
 [od 59 (lG 2 5),on (.store 2 (tm 4) (tm 59))] [kp [4] [4,36]]) .ret))))))
theorem Yz (h:∀ K:St->Prop,K=run P Γ Vd Q->run P Γ q4L (B1 K Q) s):run P Γ Vd Q s:=Au h
def q0O:List RV:=[.cell 4 2 true]
/- probecard/probecardlaw28.satisfied (function 22) -/
abbrev Tv:IC:=.gh (.seq (.seq (.reg [om 16 7,od 17 (fa 1 2),od 18 (ld 1 17),om 19 5,od 20 (ia 1 18 19),od 21 (ld 1 20),od 22 (le 0 21),od 23 (.bin .lss (tm 16) (tm 22))] [kp [1,2,5,6,7,23] []]) (.cond (tm 23) .skip (.exit 2))) (.seq
 (.block 3 (.seq (.reg [od 26 (fa 1 2),od 27 (ld 1 26),om 28 5,od 29 (ia 1 27 28),od 30 (ld 1 29),om 31 7,od 32 (ia 1 30 31),od 33 (ld 1 32),om 8 33] [kp [1,2,5,6,7,8] []]) (.reg [om 34 6,om 35 34,oF 36 (.mv (tm 8))
 35,oF 37 (.bin .gtr (tm 36) (ki 0)) 35,oF 38 (.mv (tm 37)) 35,oT 39 (.mv (tm 1)) 38,oT 40 (.mv (tm 8)) 38,oT 41 (.bin .sub (tm 40) (ki 1)) 38,oT 42 (ia 1 39 41) 38,oT 43 (ld 1 42) 38,oT 44 (.bin .eql (tm 43) (ku 1)) 38,oF
 45 (.pick (tm 38) (tm 44) kF) 35,od 46 (.pick (tm 35) kT (tm 45)),om 47 46,oF 48 (.mv (tm 8)) 47,oF 49 (.bin .lss (tm 48) (ki 0)) 47,oF 50 (.mv (tm 49)) 47,oT 51 (.mv (tm 1)) 50,oT 52 (.mv (tm 8)) 50,oT 53 (.un .neg (tm
 52)) 50,oT 54 (.bin .sub (tm 53) (ki 1)) 50,oT 55 (ia 1 51 54) 50,oT 56 (ld 1 55) 50,oT 57 (.bin .eql (tm 56) (ku 0)) 50,oF 58 (.pick (tm 50) (tm 57) kF) 47,od 59 (.pick (tm 47) kT (tm 58)),om 6 59] [kp [1,2,5,6,7]
 []]))) (.reg [om 24 7,od 25 (.bin .add (tm 24) (ki 1)),om 7 25] [kp [1,2,5,6,7] []]))) [kp [1,2,5,6,7] []]
def I1:IC:=.loop Tv
abbrev Tz:IC:=.gh (.seq (.seq (.reg [om 9 5,od 10 (fa 1 2),od 11 (ld 1 10),od 12 (le 0 11),od 13 (.bin .lss (tm 9) (tm 12))] [kp [1,2,5,13] []]) (.cond (tm 13) .skip (.exit 0))) (.seq (.block 1 (.seq (.reg [od 6 (.mv kF)] [kp [1,2,5,6]
 []]) (.seq (.seq (.reg [od 7 (.mv (ki 0))] [kp [1,2,5,6,7] []]) (.block 2 I1)) (.seq (.reg [om 60 6,od 61 (.un .not (tm 60))] [kp [1,2,5,61] []]) (.cond (tm 61) (.seq (.reg [od 4 (.mv kF)] [kp [4] []]) .ret)
 .skip))))) (.reg [om 14 5,od 15 (.bin .add (tm 14) (ki 1)),om 5 15] [kp [1,2,5] []]))) [kp [1,2,5] []]
def I2:IC:=.loop Tz
abbrev U0:IC:=(.seq (.reg [od 2 (.box true (tm 0)),od 4 (.mv kF)] [kp [1,2] []]) (.seq (.seq (.reg [od 5 (.mv (ki 0))] [kp [1,2,5] []]) (.block 0 I2)) (.seq (.reg [od 4 (.mv kT)] [kp [4] []]) .ret)))
theorem O6 (h:∀ K:St->Prop,K=run P Γ I1 Q->run P Γ Tv (B1 K Q) s):run P Γ I1 Q s:=Au h
theorem O7 (h:∀ K:St->Prop,K=run P Γ I2 Q->run P Γ Tz (B1 K Q) s):run P Γ I2 Q s:=Au h
def M8:List RV:=[.tmp 4]
/- probecard/probecardlaw28.bits (function 21) -/
abbrev q1F:IC:=.gh (.seq (.seq (.reg [om 7 6,om 8 1,od 9 (.bin .lss (tm 7) (tm 8))] [kp [0,1,5,6,9] [19]]) (.cond (tm 9) .skip (.exit 0))) (.seq (.block 1 (.reg [om 12 5,om 13 0,om 14 6,od 15 (.bin .shr (tm 13) (tm 14)),od 16 (.bin .rem
 (tm 15) (ki 2)),od 17 (.conv .u8 (tm 16)),od 18 (.bsl true 41 1 [(tm 17)]),od 19 (.app false 41 1 (tm 12) (tm 18)),om 5 19] [kp [0,1,5,6] [19]])) (.reg [om 10 6,od 11 (.bin .add (tm 10) (ki 1)),om 6 11] [kp [0,1,5,6]
 [19]]))) [kp [0,1,5,6] [19]]
def Q0:IC:=.loop q1F
abbrev q1G:IC:=(.seq (.reg [od 4 (.mv kN)] [kp [0,1] []]) (.seq (.reg [od 5 (.mv kN)] [.nl 5 19 41 1,kp [0,1,5] [19]]) (.seq (.seq (.reg [od 6 (.mv (ki 0))] [kp [0,1,5,6] [19]]) (.block 0 Q0)) (.seq (.reg [om 20 5,om 4 20] [kp
 [4] [19]]) .ret))))
theorem Ve (h:∀ K:St->Prop,K=run P Γ Q0 Q->run P Γ q1F (B1 K Q) s):run P Γ Q0 Q s:=Au h
def q1H:List RV:=[.tmp 4]
/- probecard/probecardlaw28.model (function 24) -/
abbrev q0P:IC:=.gh (.seq (.seq (.reg [om 10 5,om 11 1,od 12 (.bin .lss (tm 10) (tm 11))] [kp [0,1,5,12] []]) (.cond (tm 12) .skip (.exit 0))) (.seq (.block 1 (.seq (.reg [om 15 0,om 16 5,od 17 (ia 1 15 16),od 18 (ld 1 17),od 19 (.bin
 .gtr (tm 18) (ku 1))] [kp [0,1,5,19] []]) (.cond (tm 19) (.seq (.reg [od 4 (.mv kF)] [kp [4] []]) .ret) .skip))) (.reg [om 13 5,od 14 (.bin .add (tm 13) (ki 1)),om 5 14] [kp [0,1,5] []]))) [kp [0,1,5] []]
def O8:IC:=.loop q0P
abbrev U1:IC:=(.seq (.reg [od 4 (.mv kF)] [kp [0,1] []]) (.seq (.seq (.reg [om 6 0,od 7 (le 0 6),om 8 1,od 9 (.bin .neq (tm 7) (tm 8))] [kp [0,1,9] []]) (.cond (tm 9) (.seq (.reg [od 4 (.mv kF)] [kp [4] []]) .ret) .skip)) (.seq (.seq (.reg
 [od 5 (.mv (ki 0))] [kp [0,1,5] []]) (.block 0 O8)) (.seq (.reg [od 4 (.mv kT)] [kp [4] []]) .ret))))
theorem U2 (h:∀ K:St->Prop,K=run P Γ O8 Q->run P Γ q0P (B1 K Q) s):run P Γ O8 Q s:=Au h
def O9:List RV:=[.tmp 4]
/- probecard/probecardlaw28.CnfsSolves (function 11) -/
abbrev R7:IC:=.gh (.seq (.seq (.reg [om 29 9,od 30 (fa 0 7),od 31 (ld 1 30),od 32 (.bin .shl (ki 1) (tm 31)),od 33 (.bin .lss (tm 29) (tm 32))] [kp [1,2,7,8,9,33] [7]]) (.cond (tm 33) .skip (.exit 0))) (.seq (.block 1 (.seq (.reg [om 36
 9,od 37 (fa 0 7),od 38 (ld 1 37),od 39 (.call 21 [(tm 36),(tm 38)]),om 10 39] [kp [1,2,7,8,9,10] [7]]) (.seq (.reg [od 40 (lG 2 7),om 41 10,od 42 (.call 22 [(tm 40),(tm 41)]),om 11 42] [kp [1,2,7,8,9,10,11]
 [7]]) (.seq (.reg [om 43 8,om 44 43,oF 45 (.mv (tm 11)) 44,od 46 (.pick (tm 44) kT (tm 45)),om 8 46] [kp [1,2,7,8,9,10,11] [7]]) (.seq (.reg [od 47 (lG 2 7),om 48 10,od 49 (.call 23 [(tm 47),(tm 48)]),om 50 11,od 51
 (.eqb false (tm 49) (tm 50))] [kp [1,2,7,8,9,51] [7]]) (.cond (tm 51) (.seq (.reg [od 6 (.mv kF)] [kp [6] []]) .ret) .skip)))))) (.reg [om 34 9,od 35 (.bin .add (tm 34) (ki 1)),om 9 35] [kp [1,2,7,8,9] [7]]))) [kp [1,2,
 7,8,9] [7]]
def Gt:IC:=.loop R7
abbrev R9:IC:=.gh (.seq (.seq (.reg [om 52 13,od 53 (fa 0 7),od 54 (ld 1 53),od 55 (.bin .lss (tm 52) (tm 54))] [kp [1,2,7,8,12,13,55] [7,70]]) (.cond (tm 55) .skip (.exit 2))) (.seq (.block 3 (.seq (.reg [od 14 (.mv (ku 2))] [kp [1,
 2,7,8,12,13,14] [7,70]]) (.seq (.seq (.reg [om 58 13,om 59 1,od 60 (le 0 59),od 61 (.bin .lss (tm 58) (tm 60))] [kp [1,2,7,8,12,13,14,61] [7,70]]) (.cond (tm 61) (.reg [om 62 1,om 63 13,od 64 (ia 1 62 63),od 65
 (ld 1 64),od 66 (.bin .rem (tm 65) (ku 5)),om 14 66] [kp [1,2,7,8,12,13,14] [7,70]]) .skip)) (.reg [om 67 12,om 68 14,od 69 (.bsl true 41 1 [(tm 68)]),od 70 (.app false 41 1 (tm 67) (tm 69)),om 12 70] [kp [1,2,7,8,
 12,13] [7,70]])))) (.reg [om 56 13,od 57 (.bin .add (tm 56) (ki 1)),om 13 57] [kp [1,2,7,8,12,13] [7,70]]))) [kp [1,2,7,8,12,13] [7,70]]
def Gu:IC:=.loop R9
abbrev Kv:IC:=(.seq (.reg [od 6 (.mv kF)] [kp [0,1,2] []]) (.seq (.seq (.reg [om 22 1,od 23 (le 0 22),od 24 (.bin .gtr (tm 23) (ki 60))] [kp [0,1,2,24] []]) (.cond (tm 24) (.seq (.reg [od 25 (.call 5 []),om 6 25] [kp [6] []]) .ret)
 .skip)) (.seq (.reg [om 26 0,om 27 1,od 28 (.call 6 [(tm 26),(tm 27)]),od 7 (.alloc false [(.int .i64 0),(.slice none 0 0)]),on (.store 2 (tm 7) (tm 28))] [kp [1,2,7] [7]]) (.seq (.reg [od 8 (.mv kF)] [kp [1,2,7,8] [7]])
 (.seq (.seq (.reg [od 9 (.mv (ki 0))] [kp [1,2,7,8,9] [7]]) (.block 0 Gt)) (.seq (.reg [od 12 (.mv kN)] [.nl 12 70 41 1,kp [1,2,7,8,12] [7,70]]) (.seq (.seq (.reg [od 13 (.mv (ki 0))] [kp [1,2,7,8,12,
 13] [7,70]]) (.block 2 Gu)) (.seq (.seq (.reg [od 71 (lG 2 7),om 72 12,od 73 (.call 23 [(tm 71),(tm 72)]),od 74 (lG 2 7),om 75 12,od 76 (.call 22 [(tm 74),(tm 75)]),od 77 (.eqb false (tm 73) (tm 76))] [kp
 [2,7,8,77] [7]]) (.cond (tm 77) (.seq (.reg [od 6 (.mv kF)] [kp [6] []]) .ret) .skip)) (.seq (.reg [od 79 (lG 2 7),od 80 (fa 0 7),od 81 (ld 1 80),od 82 (.bin .shl (ki 1) (tm 81)),od 83 (.bin .sub (tm 82) (ki 1)),od 84
 (.call 12 [(tm 79),(tm 83)]),om 78 84,od 85 (ex 78 0),od 86 (ex 78 1),od 87 (ex 78 2),om 15 85,om 16 86,om 17 87] [kp [2,7,8,15,16,17] [7]]) (.seq (.seq (.reg [om 88 16,od 89 (.un .not (tm 88)),om 90 89,oF 91 (.mv
 (tm 8)) 90,oF 92 (.mv (tm 91)) 90,oT 93 (.mv (tm 17)) 92,oT 94 (.bin .neq (tm 93) (ki 0)) 92,oT 95 (.mv (tm 94)) 92,oF 96 (.mv (tm 15)) 95,oF 97 (fa 0 7) 95,oF 98 (ld 1 97) 95,oF 99 (.call 24 [(tm 96),(tm 98)]) 95,oF 100
 (.un .not (tm 99)) 95,oT 101 (.pick (tm 95) kT (tm 100)) 92,oT 102 (.mv (tm 101)) 92,oF 103 (lG 2 7) 102,oF 104 (.mv (tm 15)) 102,oF 105 (.call 22 [(tm 103),(tm 104)]) 102,oF 106 (.un .not (tm 105)) 102,oT 107 (.pick (tm
 102) kT (tm 106)) 92,oF 108 (.pick (tm 92) (tm 107) kF) 90,od 109 (.pick (tm 90) kT (tm 108)),om 110 109,oF 111 (.mv (tm 8)) 110,oF 112 (.un .not (tm 111)) 110,oF 113 (.mv (tm 112)) 110,oT 114 (.mv (tm 17)) 113,oT 115 (.bin
 .neq (tm 114) (ki 9)) 113,oT 116 (.mv (tm 115)) 113,oF 117 (.mv (tm 15)) 116,oF 118 (le 0 117) 116,oF 119 (.bin .gtr (tm 118) (ki 0)) 116,oT 120 (.pick (tm 116) kT (tm 119)) 113,oF 121 (.pick (tm 113) (tm 120) kF) 110,od 122
 (.pick (tm 110) kT (tm 121))] [kp [2,7,15,17,122] [7]]) (.cond (tm 122) (.seq (.reg [od 6 (.mv kF)] [kp [6] []]) .ret) .skip)) (.seq (.reg [om 123 2,od 124 (.bin .rem (tm 123) (ku 10)),od 125 (.conv .i64 (tm 124)),om 18 125]
 [kp [7,15,17,18] [7]]) (.seq (.reg [od 127 (lG 2 7),om 128 18,od 129 (.call 12 [(tm 127),(tm 128)]),om 126 129,od 130 (ex 126 0),od 131 (ex 126 1),od 132 (ex 126 2),om 19 130,om 20 131,om 21 132] [kp [7,15,17,18,
 19,20,21] [7]]) (.seq (.seq (.reg [om 133 20,od 134 (.un .not (tm 133))] [kp [7,15,17,18,19,21,134] [7]]) (.cond (tm 134) (.seq (.reg [om 135 21,od 136 (.bin .eql (tm 135) (ki 0)),om 137 136,oT 138 (.mv (tm 19)) 137,oT
 139 (le 0 138) 137,oT 140 (.bin .eql (tm 139) (ki 0)) 137,od 141 (.pick (tm 137) (tm 140) kF),om 142 141,oT 143 (.mv (tm 18)) 142,oT 144 (fa 0 7) 142,oT 145 (ld 1 144) 142,oT 146 (.bin .shl (ki 1) (tm 145)) 142,oT 147 (.bin
 .sub (tm 146) (ki 1)) 142,oT 148 (.bin .lss (tm 143) (tm 147)) 142,od 149 (.pick (tm 142) (tm 148) kF),om 150 149,oT 151 (.call 5 []) 150,od 152 (.pick (tm 150) (tm 151) kF),om 6 152] [kp [6] []]) .ret) .skip)) (.seq (.reg
 [om 153 21,om 154 17,od 155 (.bin .eql (tm 153) (tm 154)),om 156 155,oT 157 (.mv (tm 19)) 156,oT 158 (.mv (tm 15)) 156,oT 159 (.call 25 [(tm 157),(tm 158)]) 156,oT 160 (.bin .eql (tm 159) (ki 0)) 156,od 161 (.pick (tm 156)
 (tm 160) kF),om 162 161,oT 163 (.call 5 []) 162,od 164 (.pick (tm 162) (tm 163) kF),om 6 164] [kp [6] []]) .ret))))))))))))))
theorem N9 (h:∀ K:St->Prop,K=run P Γ Gt Q->run P Γ R7 (B1 K Q) s):run P Γ Gt Q s:=Au h
theorem Na (h:∀ K:St->Prop,K=run P Γ Gu Q->run P Γ R9 (B1 K Q) s):run P Γ Gu Q s:=Au h
def Dc:List RV:=[.tmp 6]
end
end Go.Lg
namespace Go.Lg
open Go Go.Proofs
theorem q8E:Ax Tryz.prog 6 q4M 60 2 q0O=true:=by kernel_rfl
theorem q0t:Ax Tryz.prog 22 U0 62 2 M8=true:=by kernel_rfl
theorem q6F:Ax Tryz.prog 21 q1G 21 2 q1H=true:=by kernel_rfl
theorem q4e:Ax Tryz.prog 24 U1 20 2 O9=true:=by kernel_rfl
theorem q0Q:Ax Tryz.prog 11 Kv 165 3 Dc=true:=by kernel_rfl
end Go.Lg
set_option linter.unusedSimpArgs false
set_option maxRecDepth 100000
namespace Go.Lg
open Go Go.Proofs
variable {Γ:Tables}
def q6G (V b:Int):Int:=if V<b % (2*V+1)then V-b % (2*V+1)else b % (2*V+1)
def Ug (V:Int):List Int->List Int->List (Sl Int)->List Int×List (Sl Int)
 | [],cl,acc=>(cl,acc)
 | b::l,cl,acc=>if b % (2*V+1)=0 then Ug V l [] (acc++[⟨cl,none,none⟩])else Ug V l (cl++[q6G V b]) acc
def cOf (vars:Int) (l:List Int):Cf :=
 let r:=Ug (1+vars % 8) l [] []
 ⟨1+vars % 8,⟨if r.1=[]then r.2 else r.2++[⟨r.1,none,none⟩],none,none⟩⟩
theorem qHG {Q:AX->St->Prop} (V:Int) (hV:1<=V) (hV2:V<=8) (l:Sl Int) (hl:l.l.length<=1000) (hb:∀ b∈l.l,0<=b/\b<=255) (R:List Int×List (Sl Int))
  (h0:Q (.exit 0) ⟨[(1,.t (tV l)),(4,.lp 4 0 0),(5,.lp 5 0 0),(6,.ls 49 0 R.1.length none),(7,.t (tI l.l.length)),(17,.t (tB false))],[(4,.bx [.t (tI 0),.t (.sl [] (some 0) (some true))]),(5,.bx [.t (tI V),.ls 36 0 R.2.length none]),(36,.sl 37 1 (Ak Bh R.2)),(49,.sl 3 1 (Bc R.1))]⟩) :
  ∀ (k i:Nat),k+i=l.l.length->∀ (cl:List Int) (acc:List (Sl Int)),cl.length<=i->acc.length<=i->Ug V (l.l.drop i) cl acc=R ->
  run Tryz.prog Γ Vd Q ⟨[(1,.t (tV l)),(4,.lp 4 0 0),(5,.lp 5 0 0),(6,.ls 49 0 cl.length none),(7,.t (tI i))],[(4,.bx [.t (tI 0),.t (.sl [] (some 0) (some true))]),(5,.bx [.t (tI V),.ls 36 0 acc.length none]),(36,.sl 37 1 (Ak Bh acc)),(49,.sl 3 1 (Bc cl))]⟩
 | 0,i,h,cl,acc,hc1,hc2,hR=>by
  refine Yz fun K hK=>?_
  have h2:i=l.l.length:=by omega
  subst h2
  rw[List.drop_length]at hR
  simp only[Ug]at hR
  subst hR
  simp[tV,A3]at h0 ⊢
  simpa using h0
 | k+1,i,h,cl,acc,hc1,hc2,hR=>by
  refine Yz fun K hK=>?_
  have h2:i<l.l.length:=by omega
  have e1:=elC (f:=tK) 0 h2
  have e1':=Qi (f:=tK) 0 h2
  have w1:IntKind.i64.wrap ((i:Int)+1)=(i:Int)+1:=by rw[A5]<;>omega
  have hd:l.l.drop i=l.l.getD i 0::l.l.drop (i+1):=by
   rw[List.getD_eq_getElem?_getD,List.getElem?_eq_getElem h2];exact List.drop_eq_getElem_cons h2
  rw[hd]at hR
  simp only[Ug]at hR
  have hbb:=hb _ (Dp (d:=0) h2)
  have ih:=fun cl acc=>qHG V hV hV2 l hl hb R h0 k (i+1) (by omega) cl acc
  generalize l.l.getD i 0=b at *
  have w2:IntKind.i64.wrap b=b:=by rw[A5]<;>omega
  have w3:IntKind.i64.wrap (2*V)=2*V:=by rw[A5]<;>omega
  have w4:IntKind.i64.wrap (2*V+1)=2*V+1:=by rw[A5]<;>omega
  have hne:¬ 2*V+1=0:=by omega
  have ht:b.tmod (2*V+1)=b % (2*V+1):=Int.tmod_eq_emod_of_nonneg hbb.1
  have hm0:0<=b % (2*V+1):=Int.emod_nonneg _ (by omega)
  have hm1:b % (2*V+1)<2*V+1:=Int.emod_lt_of_pos _ (by omega)
  have hlit:q6G V b=if V<b % (2*V+1)then V-b % (2*V+1)else b % (2*V+1):=rfl
  have w0:IntKind.i64.wrap (b % (2*V+1))=b % (2*V+1):=by rw[A5]<;>omega
  simp[tV,A3,Aa,h2,e1,e1',w1,w2,w3,w4,hne,ht,w0]
  generalize b % (2*V+1)=q at *
  by_cases hq0:q=0
  ·rw[if_pos hq0]at hR
   have ih:=ih [] (acc++[⟨cl,none,none⟩]) (by simp) (by simp;omega) hR
   have hap:Ak Bh acc++[[T.sl (Bc cl) none none]]=Ak Bh (acc++[⟨cl,none,none⟩]):=Eu (f:=Bh) (l:=acc) (x:=⟨cl,none,none⟩)
   have hw1:Gk 1 [[T.sl (Bc cl) none none]]:=Aa (f:=Bh) (l:=[⟨cl,none,none⟩])
   simp[tV,q9J]at ih
   subst hq0
   simp[Dy,St.freeze,Aj.closed,Ce,frz1,frz0,Hl,del,Aq,A3,hap,hw1,w1]
   refine⟨by omega,?_⟩
   rw[hK]
   simpa using ih
  ·rw[if_neg hq0]at hR
   have ih:=ih (cl++[q6G V b]) acc (by simp;omega) (by omega) hR
   have hap:∀ x:Int,Bc cl++[[tI x]]=Bc (cl++[x]):=fun x=>Eu
   have hw1:∀ x:Int,Gk 1 [[tI x]]:=fun x=>Aa (f:=tI) (l:=[x])
   rw[hlit]at ih
   by_cases hq1:V<q
   ·rw[if_pos hq1]at ih
    have w5:IntKind.i64.wrap (V-q)=V-q:=by rw[A5]<;>omega
    simp[tV]at ih
    simp[Dy,hq0,hq1,w5,A3,hap,hw1,w1]
    refine⟨by omega,?_⟩
    rw[hK]
    simpa using ih
   ·rw[if_neg hq1]at ih
    simp[tV]at ih
    simp[Dy,hq0,hq1,A3,hap,hw1,w1]
    refine⟨by omega,?_⟩
    rw[hK]
    simpa using ih
theorem q9k (vars:Int) (hv0:0<=vars) (hv1:vars<=255) (l:Sl Int) (hl:l.l.length<=1000) (hb:∀ b∈l.l,0<=b/\b<=255):An Tryz.prog Γ 6 [tK vars,tV l] (.agg (He (cOf vars l.l))):=by
 refine E7 q8E rfl ?_
 have ht:vars.tmod 8=vars % 8:=Int.tmod_eq_emod_of_nonneg hv0
 have hm0:0<=vars % 8:=Int.emod_nonneg _ (by omega)
 have hm1:vars % 8<8:=Int.emod_lt_of_pos _ (by omega)
 have hcof:cOf vars l.l=⟨1+vars % 8,⟨if(Ug (1+vars % 8) l.l [] []).1=[] then(Ug (1+vars % 8) l.l [] []).2 else(Ug (1+vars % 8) l.l [] []).2++[⟨(Ug (1+vars % 8) l.l [] []).1,none,none⟩],none,none⟩⟩:=rfl
 rw[hcof]
 obtain⟨cl,acc,hR⟩:∃ cl acc,Ug (1+vars % 8) l.l [] []=(cl,acc):=⟨_,_,rfl⟩
 rw[hR]
 have g:=fun Q h0=>qHG (Γ:=Γ) (Q:=Q) (1+vars % 8) (by omega) (by omega) l hl hb (cl,acc) h0 l.l.length 0 (by omega) [] [] (by simp) (by simp) hR
 have wm:IntKind.i64.wrap (vars % 8)=vars % 8:=by rw[A5]<;>omega
 have wm2:IntKind.i64.wrap (1+vars % 8)=1+vars % 8:=by rw[A5]<;>omega
 generalize vars % 8=q at *
 simp[tV,q9J]at g
 simp[q4M,tV,ht,wm,wm2]
 refine g _ ?_
 have hap:Ak Bh acc++[[T.sl (Bc cl) none none]]=Ak Bh (acc++[⟨cl,none,none⟩]):=Eu (f:=Bh) (l:=acc) (x:=⟨cl,none,none⟩)
 have hw1:Gk 1 [[T.sl (Bc cl) none none]]:=Aa (f:=Bh) (l:=[⟨cl,none,none⟩])
 have hla:acc.length<=1000:=by
  have key:∀ (V:Int) (l cl:List Int) (acc:List (Sl Int)),(Ug V l cl acc).2.length<=l.length+acc.length:=by
   intro V l
   induction l with
   | nil=>intro cl acc;simp[Ug]
   | cons b l ih =>
    intro cl acc
    simp only[Ug]
    split
    ·have:=ih [] (acc++[⟨cl,none,none⟩]);simp at this ⊢;omega
    ·have:=ih (cl++[q6G V b]) acc;simp at this ⊢;omega
  have:=key (1+q) l.l [] []
  rw[hR]at this;simp at this;omega
 by_cases hcl:cl=[]
 ·subst hcl
  simp[q0O,He,B5,A3,Aq,Ac]
 ·have hpos:0<cl.length:=List.length_pos_iff.2 hcl
  simp[hpos,hcl,Dy,St.freeze,Aj.closed,Ce,frz1,frz0,Hl,del,Aq,A3,hap,hw1,q0O,He,B5,Ac,wm2]
  exact⟨by omega,List.take_of_length_le (by simp[Ak])⟩
def Ge (m:Int) (n:Nat):List Int:=(List.range n).map fun i=>m / 2 ^ i % 2
theorem qCD {Q:AX->St->Prop} (m:Int) (hm0:0<=m) (hm:m<=1000) (n:Nat) (hn:n<=8)
  (h0:Q (.exit 0) ⟨[(0,.t (tI m)),(1,.t (tI n)),(5,.ls 19 0 n none),(6,.t (tI n)),(9,.t (tB false))],[(19,.sl 41 1 (Da (Ge m n)))]⟩):∀ (k i:Nat),k+i=n ->
  run Tryz.prog Γ Q0 Q ⟨[(0,.t (tI m)),(1,.t (tI n)),(5,.ls 19 0 i none),(6,.t (tI i))],[(19,.sl 41 1 (Da (Ge m i)))]⟩
 | 0,i,h=>by
  refine Ve fun K hK=>?_
  have h2:i=n:=by omega
  subst h2
  simp
  simpa using h0
 | k+1,i,h=>by
  refine Ve fun K hK=>?_
  have ih:=qCD m hm0 hm n hn h0 k (i+1) (by omega)
  have h2:i<n:=by omega
  have w1:IntKind.i64.wrap ((i:Int)+1)=(i:Int)+1:=by rw[A5]<;>omega
  have hmin:min i IntKind.i64.bits=i:=by have:IntKind.i64.bits=64:=rfl;omega
  have hp:(0:Int)<2 ^ i:=Int.pow_pos (by decide)
  have hd0:0<=m / 2 ^ i:=Int.ediv_nonneg hm0 (by omega)
  have hfd:m.fdiv (2 ^ i)=m / 2 ^ i:=Int.fdiv_eq_ediv_of_nonneg _ (by omega)
  have ht:(m / 2 ^ i).tmod 2=m / 2 ^ i % 2:=Int.tmod_eq_emod_of_nonneg hd0
  have hm2:0<=m / 2 ^ i % 2:=Int.emod_nonneg _ (by decide)
  have hm3:m / 2 ^ i % 2<2:=Int.emod_lt_of_pos _ (by decide)
  have wx:IntKind.u8.wrap (m / 2 ^ i % 2)=m / 2 ^ i % 2:=by rw[q0e]<;>omega
  have hap:Da (Ge m i)++[[tK (m / 2 ^ i % 2)]]=Da (Ge m (i+1)):=by
   have:=Eu (f:=tK) (l:=Ge m i) (x:=m / 2 ^ i % 2)
   rw[this];congr 1;simp[Ge,List.range_succ]
  have hlen:(Da (Ge m i)).length=i:=by simp[Da,Ak,Ge]
  have hw:Gk 1 [[tK (m / 2 ^ i % 2)]]:=Aa (f:=tK) (l:=[m / 2 ^ i % 2])
  have htk:List.take i (Da (Ge m i))=Da (Ge m i):=List.take_of_length_le (by omega)
  generalize m / 2 ^ i % 2=x at *
  generalize Da (Ge m i)=E0 at *
  simp[h2,w1,hmin,hfd,ht,wx,hap,hlen,hw,htk]
  refine⟨by omega,?_⟩
  rw[hK]
  simpa using ih
theorem qD7 (m:Int) (hm0:0<=m) (hm:m<=1000) (n:Nat) (hn:n<=8):An Tryz.prog Γ 21 [tI m,tI n] (.sl (Da (Ge m n)) none none):=by
 refine E7 q6F rfl ?_
 have g:=fun Q h0=>qCD (Γ:=Γ) (Q:=Q) m hm0 hm n hn h0 n 0 (by omega)
 have e0:Da (Ge m 0)=[]:=rfl
 have hlen:(Da (Ge m n)).length=n:=by simp[Da,Ak,Ge]
 rw[e0]at g
 simp at g
 simp[q1G]
 refine g _ ?_
 simp[q1H,Aq]
 exact List.take_of_length_le (by omega)
theorem q9l {Q:AX->St->Prop} (l:Sl Int) (hl:l.l.length<=1000000)
  (h0:(∀ v∈l.l,v<=1)->Q (.exit 0) ⟨[(0,.t (tV l)),(1,.t (tI l.l.length)),(5,.t (tI l.l.length)),(12,.t (tB false))],[]⟩)
  (h1:(∃ v∈l.l,1<v)->Q .ret ⟨[(4,.t (tB false))],[]⟩):∀ (k i:Nat),k+i=l.l.length->(∀ j,j<i->l.l.getD j 0<=1) ->
  run Tryz.prog Γ O8 Q ⟨[(0,.t (tV l)),(1,.t (tI l.l.length)),(5,.t (tI i))],[]⟩
 | 0,i,h,hj=>by
  refine U2 fun K hK=>?_
  have h2:i=l.l.length:=by omega
  subst h2
  have h0:=h0 fun x hx=>by
   obtain⟨j,hj2,rfl⟩:=List.getElem_of_mem hx
   have:=hj j hj2
   rwa [List.getD_eq_getElem?_getD,List.getElem?_eq_getElem hj2]at this
  simp[tV]at h0 ⊢
  simpa using h0
 | k+1,i,h,hj=>by
  refine U2 fun K hK=>?_
  have h2:i<l.l.length:=by omega
  have e1:=elC (f:=tK) 0 h2
  have e1':=Qi (f:=tK) 0 h2
  have w1:IntKind.i64.wrap ((i:Int)+1)=(i:Int)+1:=by rw[A5]<;>omega
  have hm:=Dp (d:=0) h2
  by_cases hx:1<l.l.getD i 0
  ·have h1:=h1 ⟨_,hm,hx⟩
   generalize l.l.getD i 0=x at *
   simp[tV,A3,Aa,h2,e1,e1',hx]
   simpa using h1
  ·have ih:=q9l l hl h0 h1 k (i+1) (by omega) fun j hj2=>by
    by_cases e:j=i
    ·subst e;omega
    ·exact hj j (by omega)
   generalize l.l.getD i 0=x at *
   simp[tV]at ih
   simp[tV,A3,Aa,h2,e1,e1',hx,w1]
   rw[hK]
   simpa using ih
theorem qBD (l:Sl Int) (hl:l.l.length<=1000000) (n:Int):A6 Tryz.prog Γ 24 [tV l,tI n] (tB (decide ((l.l.length:Int)=n)&&l.l.all fun v=>decide (v<=1))):=by
 refine Af q4e rfl ?_
 by_cases hn:(l.l.length:Int)=n
 ·subst hn
  have g:=fun Q h0 h1=>q9l (Γ:=Γ) (Q:=Q) l hl h0 h1 l.l.length 0 (by omega) (fun j hj=>by omega)
  simp[tV]at g
  simp[U1,tV,A3]
  refine g _ (fun hx=>?_) (fun x hx hx2=>?_)
  ·simp[O9]
   intro v hv;exact hx v hv
  ·simp[O9]
   exact⟨x,hx,hx2⟩
 ·simp[U1,tV,A3,hn,O9]
def q2z (a c:List Int):Bool:=c.any fun l=>decide (Kt a l=1)
def Xh (a:List Int) (cls:List (List Int)):Bool:=cls.all (q2z a)
theorem q6H {a:List Int} {cls:List (List Int)}:Xh a cls=true↔q2X a cls:=by
 simp[Xh,q2z,q2X,qHB]
theorem q9m {Q:AX->St->Prop} (a:Sl Int) (hn:a.l.length<=1000000000) (hv:∀ v∈a.l,0<=v) (c:Sl Int) (hc:c.l.length<=1000000000) (hok:∀ l∈c.l,Dk a.l.length l) (A B C:AV)
  (h0:Q (.exit 2) ⟨[(1,.t (tV a)),(5,.t (.fn 37 [])),(8,.t (tB (q2z a.l c.l))),(22,A),(23,B),(24,C),(28,.t (Bh c)),(29,.t (tI c.l.length)),(30,.t (tI c.l.length)),(31,.t (tB false))],[]⟩) :
  ∀ (k i:Nat),k+i=c.l.length->∀ ok:Bool,(ok||(c.l.drop i).any fun l=>decide (Kt a.l l=1))=q2z a.l c.l ->
  run Tryz.prog Γ Pn Q ⟨[(1,.t (tV a)),(5,.t (.fn 37 [])),(8,.t (tB ok)),(22,A),(23,B),(24,C),(28,.t (Bh c)),(29,.t (tI c.l.length)),(30,.t (tI i))],[]⟩
 | 0,i,h,ok,hR=>by
  refine V2 fun K hK=>?_
  have h2:i=c.l.length:=by omega
  subst h2
  have hR:ok=q2z a.l c.l:=by simpa using hR
  rw[<- hR]at h0
  simp[Bh,tV]at h0 ⊢
  simpa using h0
 | k+1,i,h,ok,hR=>by
  refine V2 fun K hK=>?_
  have h2:i<c.l.length:=by omega
  have e1:=elC (f:=tI) 0 h2
  have e1':=Qi (f:=tI) 0 h2
  have w1:IntKind.i64.wrap ((i:Int)+1)=(i:Int)+1:=by rw[A5]<;>omega
  have hl:=hok _ (Dp (d:=0) h2)
  have hd:c.l.drop i=c.l.getD i 0::c.l.drop (i+1):=by
   rw[List.getD_eq_getElem?_getD,List.getElem?_eq_getElem h2];exact List.drop_eq_getElem_cons h2
  rw[hd,List.any_cons]at hR
  have ih:=fun ok=>q9m a hn hv c hc hok A B C h0 k (i+1) (by omega) ok
  generalize c.l.getD i 0=l at *
  have hspec:=qEe (Γ:=Γ) a l hl hn hv
  cases ok with
  | true =>
   have ih:=ih true (by simpa using hR)
   simp[Bh,tV]at ih
   simp[Bh,tV,A3,Aa,h2,e1,e1',w1]
   rw[hK]
   simpa using ih
  | false =>
   have ih:=ih (decide (Kt a.l l=1)) (by simpa using hR)
   simp[Bh,tV,A3,Aa,h2,e1,e1']
   refine A4 hspec rfl ?_
   generalize Kt a.l l=x at *
   simp[Bh,tV]at ih
   simp[w1]
   rw[hK]
   simpa using ih
theorem q9n {Q:AX->St->Prop} (f:Cf) (a:Sl Int) (hn:a.l.length<=1000000000) (hv:∀ v∈a.l,0<=v) (hcl:q4I a.l.length f.L) (hll:f.cls.l.length<=1000000) (hle:∀ c∈f.cls.l,c.l.length<=1000000)
  (h0:Xh a.l f.L=true->Q (.exit 0) ⟨[(1,.t (tV a)),(5,.t (.fn 37 [])),(22,.t (B5 f.cls)),(23,.t (tI f.cls.l.length)),(24,.t (tI f.cls.l.length)),(25,.t (tB false))],[]⟩)
  (h1:Xh a.l f.L=false->Q .ret ⟨[(4,.t (tB false))],[]⟩) :
  ∀ (k i:Nat),k+i=f.cls.l.length->Xh a.l (f.L.drop i)=Xh a.l f.L ->
  run Tryz.prog Γ Po Q ⟨[(1,.t (tV a)),(5,.t (.fn 37 [])),(22,.t (B5 f.cls)),(23,.t (tI f.cls.l.length)),(24,.t (tI i))],[]⟩
 | 0,i,h,hR=>by
  refine V5 fun K hK=>?_
  have h2:i=f.cls.l.length:=by omega
  subst h2
  rw[List.drop_eq_nil_of_le (by simp[Cf.L])]at hR
  have h0:=h0 (by rw[<- hR];rfl)
  simp[B5,tV]at h0 ⊢
  simpa using h0
 | k+1,i,h,hR=>by
  refine V5 fun K hK=>?_
  have h2:i<f.cls.l.length:=by omega
  have e1:=elC (f:=Bh) Sl.d h2
  have e1':=Qi (f:=Bh) Sl.d h2
  have w1:IntKind.i64.wrap ((i:Int)+1)=(i:Int)+1:=by rw[A5]<;>omega
  have hmem:=Dp (d:=Sl.d) h2
  have hce:=hle _ hmem
  have hcok:∀ l∈(f.cls.l.getD i Sl.d).l,Dk a.l.length l:=hcl _ (List.mem_map.2 ⟨_,hmem,rfl⟩)
  have hd:f.L.drop i=(f.cls.l.getD i Sl.d).l::f.L.drop (i+1):=by
   have hi:i<f.L.length:=by simpa[Cf.L]using h2
   rw[List.drop_eq_getElem_cons hi,List.getD_eq_getElem?_getD,List.getElem?_eq_getElem h2]
   simp[Cf.L]
  rw[hd]at hR
  have hR:(q2z a.l (f.cls.l.getD i Sl.d).l&&Xh a.l (f.L.drop (i+1)))=Xh a.l f.L:=by rw[<- hR];rfl
  have ih:=q9n f a hn hv hcl hll hle h0 h1 k (i+1) (by omega)
  generalize f.cls.l.getD i Sl.d=c at *
  have ec:Bh c=.sl (Bc c.l) c.cap c.nl:=rfl
  have g:=fun Q h0=>q9m (Γ:=Γ) (Q:=Q) a hn hv c (by omega) hcok (.t (B5 f.cls)) (.t (tI f.cls.l.length)) (.t (tI i)) h0 c.l.length 0 (by omega) false (by simp[q2z])
  simp[Bh,B5,tV]at g
  simp[B5,tV,A3,Aa,h2,e1,e1',ec]
  refine g _ ?_
  cases hs:q2z a.l c.l with
  | true =>
   rw[hs]at hR
   have ih:=ih (by simpa using hR)
   simp[B5,tV]at ih
   simp[w1]
   rw[hK]
   simpa using ih
  | false =>
   rw[hs]at hR
   have h1:=h1 (by rw[<- hR];rfl)
   simp
   simpa using h1
theorem q6I (f:Cf) (he:Jz f=0) (m:Sl Int) (hl:(m.l.length:Int)=f.vars) (hv:∀ v∈m.l,0<=v):A6 Tryz.prog Γ 23 [.agg (He f),tV m] (tB (Xh m.l f.L)):=by
 refine Af q5x rfl ?_
 obtain⟨hv0,hv1,hf⟩:=q2b he
 have hn:f.vars.toNat=m.l.length:=by omega
 rw[hn]at hf
 have hck:=Dx (Γ:=Γ) f ⟨by omega,by omega⟩
 rw[he]at hck
 have hnb:=hf.nb
 have g:=fun Q h0 h1=>q9n (Γ:=Γ) (Q:=Q) f m (by omega) hv hf.cl hf.ll hf.le h0 h1 f.cls.l.length 0 (by omega) rfl
 simp[B5,tV]at g
 simp[q16,He,B5,tV]
 refine A4 hck rfl ?_
 simp[A3,hl]
 refine g _ (fun e=>?_) (fun e=>?_)
 ·simp[Vs,e]
 ·simp[Vs,e]
theorem qF1 {Q:AX->St->Prop} (f:Cf) (j:Nat) (hj:j<f.cls.l.length) (hjj:f.cls.l.length<=1000000) (a:Sl Int) (hn:a.l.length<=1000000000) (hv:∀ v∈a.l,0<=v) (c:Sl Int) (hcj:f.cls.l.getD j Sl.d=c) (hc:c.l.length<=1000000000) (hok:∀ l∈c.l,Dk a.l.length l)
  (h0:Q (.exit 2) ⟨[(1,.t (tV a)),(2,.t (.ip (He f) 0)),(5,.t (tI j)),(6,.t (tB (q2z a.l c.l))),(7,.t (tI c.l.length)),(23,.t (tB false))],[]⟩) :
  ∀ (k i:Nat),k+i=c.l.length->∀ ok:Bool,(ok||(c.l.drop i).any fun l=>decide (Kt a.l l=1))=q2z a.l c.l ->
  run Tryz.prog Γ I1 Q ⟨[(1,.t (tV a)),(2,.t (.ip (He f) 0)),(5,.t (tI j)),(6,.t (tB ok)),(7,.t (tI i))],[]⟩
 | 0,i,h,ok,hR=>by
  refine O6 fun K hK=>?_
  have h2:i=c.l.length:=by omega
  subst h2
  have hR:ok=q2z a.l c.l:=by simpa using hR
  rw[<- hR]at h0
  have g1:=elC (f:=Bh) Sl.d hj
  have g1':=Qi (f:=Bh) Sl.d hj
  rw[hcj]at g1 g1'
  have ec:Bh c=.sl (Bc c.l) c.cap c.nl:=rfl
  simp[tV,He,B5]at h0
  simp[tV,He,B5,A3,Aa,hj,g1,g1',ec]
  simpa using h0
 | k+1,i,h,ok,hR=>by
  refine O6 fun K hK=>?_
  have h2:i<c.l.length:=by omega
  have g1:=elC (f:=Bh) Sl.d hj
  have g1':=Qi (f:=Bh) Sl.d hj
  rw[hcj]at g1 g1'
  have ec:Bh c=.sl (Bc c.l) c.cap c.nl:=rfl
  have e1:=elC (f:=tI) 0 h2
  have e1':=Qi (f:=tI) 0 h2
  have w1:IntKind.i64.wrap ((i:Int)+1)=(i:Int)+1:=by rw[A5]<;>omega
  have hl:=hok _ (Dp (d:=0) h2)
  have hd:c.l.drop i=c.l.getD i 0::c.l.drop (i+1):=by
   rw[List.getD_eq_getElem?_getD,List.getElem?_eq_getElem h2];exact List.drop_eq_getElem_cons h2
  rw[hd,List.any_cons]at hR
  have ih:=fun ok=>qF1 f j hj hjj a hn hv c hcj hc hok h0 k (i+1) (by omega) ok
  generalize c.l.getD i 0=l at *
  have hp:=hl.pos
  have hi:=q2Y hl
  have q1:=elC (f:=tK) 0 hp
  have q1':=Qi (f:=tK) 0 hp
  have hx0:=hv _ (Dp (d:=0) hp)
  have hval:Kt a.l l=if l<0 then qAt (a.l.getD (Fz l) 0)else a.l.getD (Fz l) 0:=rfl
  cases ok with
  | true =>
   have ih:=ih true (by simpa using hR)
   simp[He,B5,tV]at ih
   simp[He,B5,tV,A3,Aa,hj,g1,g1',ec,h2,e1,e1',w1]
   rw[hK]
   simpa using ih
  | false =>
   have ih:=ih (decide (Kt a.l l=1)) (by simpa using hR)
   rw[hval]at ih
   unfold Dk at hl
   generalize a.l.getD (Fz l) 0=x at *
   generalize Fz l=p at *
   by_cases hneg:l<0
   ·have n1:¬ 0<l:=by omega
    have w2:IntKind.i64.wrap (-l)=(p:Int)+1:=by rw[A5]<;>omega
    have w3:IntKind.i64.wrap (p:Int)=p:=by rw[A5]<;>omega
    have hd2:decide (qAt x=1)=decide (x=0):=by
     unfold qAt;rw[decide_eq_decide];split<;>omega
    rw[if_pos hneg,hd2]at ih
    simp[He,B5,tV]at ih
    simp[He,B5,tV,A3,Aa,hj,g1,g1',ec,h2,e1,e1',w1,w2,w3,hneg,n1,hp,q1,q1']
    rw[hK]
    simpa using ih
   ·have n1:0<l:=by omega
    have w3:IntKind.i64.wrap (l-1)=p:=by rw[A5]<;>omega
    rw[if_neg hneg]at ih
    simp[He,B5,tV]at ih
    by_cases hx1:x=1
    ·simp[hx1]at ih
     simp[He,B5,tV,A3,Aa,hj,g1,g1',ec,h2,e1,e1',w1,w3,hneg,n1,hp,q1,q1',hx1]
     rw[hK]
     simpa using ih
    ·simp[hx1]at ih
     simp[He,B5,tV,A3,Aa,hj,g1,g1',ec,h2,e1,e1',w1,w3,hneg,n1,hp,q1,q1',hx1]
     rw[hK]
     simpa using ih
theorem qF2 {Q:AX->St->Prop} (f:Cf) (a:Sl Int) (hn:a.l.length<=1000000000) (hv:∀ v∈a.l,0<=v) (hcl:q4I a.l.length f.L) (hll:f.cls.l.length<=1000000) (hle:∀ c∈f.cls.l,c.l.length<=1000000)
  (h0:Xh a.l f.L=true->Q (.exit 0) ⟨[(1,.t (tV a)),(2,.t (.ip (He f) 0)),(5,.t (tI f.cls.l.length)),(13,.t (tB false))],[]⟩)
  (h1:Xh a.l f.L=false->Q .ret ⟨[(4,.t (tB false))],[]⟩) :
  ∀ (k i:Nat),k+i=f.cls.l.length->Xh a.l (f.L.drop i)=Xh a.l f.L ->
  run Tryz.prog Γ I2 Q ⟨[(1,.t (tV a)),(2,.t (.ip (He f) 0)),(5,.t (tI i))],[]⟩
 | 0,i,h,hR=>by
  refine O7 fun K hK=>?_
  have h2:i=f.cls.l.length:=by omega
  subst h2
  rw[List.drop_eq_nil_of_le (by simp[Cf.L])]at hR
  have h0:=h0 (by rw[<- hR];rfl)
  simp[B5,He,tV,A3]at h0 ⊢
  simpa using h0
 | k+1,i,h,hR=>by
  refine O7 fun K hK=>?_
  have h2:i<f.cls.l.length:=by omega
  have w1:IntKind.i64.wrap ((i:Int)+1)=(i:Int)+1:=by rw[A5]<;>omega
  have hmem:=Dp (d:=Sl.d) h2
  have hce:=hle _ hmem
  have hcok:∀ l∈(f.cls.l.getD i Sl.d).l,Dk a.l.length l:=hcl _ (List.mem_map.2 ⟨_,hmem,rfl⟩)
  have hd:f.L.drop i=(f.cls.l.getD i Sl.d).l::f.L.drop (i+1):=by
   have hi:i<f.L.length:=by simpa[Cf.L]using h2
   rw[List.drop_eq_getElem_cons hi,List.getD_eq_getElem?_getD,List.getElem?_eq_getElem h2]
   simp[Cf.L]
  rw[hd]at hR
  have hR:(q2z a.l (f.cls.l.getD i Sl.d).l&&Xh a.l (f.L.drop (i+1)))=Xh a.l f.L:=by rw[<- hR];rfl
  have ih:=qF2 f a hn hv hcl hll hle h0 h1 k (i+1) (by omega)
  have g:=fun Q h0=>qF1 (Γ:=Γ) (Q:=Q) f i h2 hll a hn hv (f.cls.l.getD i Sl.d) rfl (by omega) hcok h0 (f.cls.l.getD i Sl.d).l.length 0 (by omega) false (by simp[q2z])
  generalize f.cls.l.getD i Sl.d=c at *
  simp[He,B5,tV]at g
  simp[He,B5,tV,A3,h2]
  refine g _ ?_
  cases hs:q2z a.l c.l with
  | true =>
   rw[hs]at hR
   have ih:=ih (by simpa using hR)
   simp[He,B5,tV]at ih
   simp[w1]
   rw[hK]
   simpa using ih
  | false =>
   rw[hs]at hR
   have h1:=h1 (by rw[<- hR];rfl)
   simp
   simpa using h1
theorem U3 (f:Cf) (he:Jz f=0) (m:Sl Int) (hl:(m.l.length:Int)=f.vars) (hv:∀ v∈m.l,0<=v):A6 Tryz.prog Γ 22 [.agg (He f),tV m] (tB (Xh m.l f.L)):=by
 refine Af q0t rfl ?_
 obtain⟨hv0,hv1,hf⟩:=q2b he
 have hn:f.vars.toNat=m.l.length:=by omega
 rw[hn]at hf
 have hnb:=hf.nb
 have g:=fun Q h0 h1=>qF2 (Γ:=Γ) (Q:=Q) f m (by omega) hv hf.cl hf.ll hf.le h0 h1 f.cls.l.length 0 (by omega) rfl
 simp[He,B5,tV]at g
 simp[U0,He,B5,tV]
 refine g _ (fun e=>?_) (fun e=>?_)
 ·simp[M8,e]
 ·simp[M8,e]
theorem qF3 {V b:Int} (hV:1<=V) (h:b % (2*V+1)≠0):Dk V.toNat (q6G V b):=by
 have h0:0<=b % (2*V+1):=Int.emod_nonneg _ (by omega)
 have h1:b % (2*V+1)<2*V+1:=Int.emod_lt_of_pos _ (by omega)
 unfold q6G Dk
 split<;>omega
theorem q8F {V:Int} (hV:1<=V):∀ (l cl:List Int) (acc:List (Sl Int)),(∀ x∈cl,Dk V.toNat x)->(∀ c∈acc,∀ x∈c.l,Dk V.toNat x) ->
  (∀ x∈(Ug V l cl acc).1,Dk V.toNat x)/\(∀ c∈(Ug V l cl acc).2,∀ x∈c.l,Dk V.toNat x)/\(Ug V l cl acc).1.length<=l.length+cl.length/\(Ug V l cl acc).2.length<=l.length+acc.length /\
   ∀ N,cl.length+l.length<=N->(∀ c∈acc,c.l.length<=N)->∀ c∈(Ug V l cl acc).2,c.l.length<=N
 | [],cl,acc,h1,h2=>⟨h1,h2,by simp[Ug],by simp[Ug],fun N _ h=>h⟩
 | b::l,cl,acc,h1,h2=>by
  simp only[Ug]
  split
  ·obtain⟨i1,i2,i3,i4,i5⟩:=q8F hV l [] (acc++[⟨cl,none,none⟩]) (fun x hx=>by cases hx) (fun c hc x hx=>by
    rcases List.mem_append.1 hc with hc|hc
    ·exact h2 c hc x hx
    ·simp at hc;subst hc;exact h1 x hx)
   refine⟨i1,i2,by simp at i3 ⊢;omega,by simp at i4 ⊢;omega,fun N hN ha=>i5 N (by simp at hN ⊢;omega) fun c hc=>?_⟩
   rcases List.mem_append.1 hc with hc|hc
   ·exact ha c hc
   ·simp at hc;subst hc;simp at hN ⊢;omega
  ·rename_i hne
   obtain⟨i1,i2,i3,i4,i5⟩:=q8F hV l (cl++[q6G V b]) acc (fun x hx=>by
    rcases List.mem_append.1 hx with hx|hx
    ·exact h1 x hx
    ·simp at hx;subst hx;exact qF3 hV hne) h2
   exact⟨i1,i2,by simp at i3 ⊢;omega,by simp at i4 ⊢;omega,fun N hN ha=>i5 N (by simp at hN ⊢;omega) ha⟩
theorem qF4 (vars:Int) (l:List Int) (hl:l.length<=1000):Jz (cOf vars l)=0/\1<=(cOf vars l).vars/\(cOf vars l).vars<=8/\(cOf vars l).cls.l.length<=l.length+1/\∀ c∈(cOf vars l).cls.l,c.l.length<=l.length:=by
 have hm0:0<=vars % 8:=Int.emod_nonneg _ (by omega)
 have hm1:vars % 8<8:=Int.emod_lt_of_pos _ (by omega)
 obtain⟨i1,i2,i3,i4,i5⟩:=q8F (V:=1+vars % 8) (by omega) l [] [] (fun x hx=>by cases hx) (fun c hc=>by cases hc)
 have i5:=i5 l.length (by simp) (fun c hc=>by cases hc)
 have hcls:∀ c∈(cOf vars l).cls.l,(∀ x∈c.l,Dk (1+vars % 8).toNat x)/\c.l.length<=l.length:=fun c hc=>by
  simp only[cOf]at hc
  split at hc
  ·exact⟨i2 c hc,i5 c hc⟩
  ·rcases List.mem_append.1 hc with hc|hc
   ·exact⟨i2 c hc,i5 c hc⟩
   ·simp at hc;subst hc;exact⟨i1,by simpa using i3⟩
 have hlen:(cOf vars l).cls.l.length<=l.length+1:=by
  simp only[cOf]
  split
  ·simp at i4;omega
  ·simp at i4 ⊢;omega
 have hv:(cOf vars l).vars=1+vars % 8:=rfl
 have hck:∀ (cs:List (List Int)),(∀ c∈cs,(∀ x∈c,Dk (1+vars % 8).toNat x)/\c.length<=4096)->q01 (1+vars % 8) cs=0:=by
  intro cs
  induction cs with
  | nil=>intro _;rfl
  | cons c cs ih =>
   intro h
   obtain⟨h1,h2⟩:=h c List.mem_cons_self
   simp only[q01]
   rw[if_neg (by omega),if_neg,ih fun x hx=>h x (List.mem_cons_of_mem _ hx)]
   rw[List.any_eq_true]
   rintro⟨x,hx,hb⟩
   have:=h1 x hx
   unfold Dk at this
   unfold q2a at hb
   simp at hb
   omega
 refine⟨?_,by rw[hv];omega,by rw[hv];omega,hlen,fun c hc=>(hcls c hc).2⟩
 unfold Jz
 rw[hv,if_neg (by omega),if_neg (by omega)]
 refine hck _ fun c hc=>?_
 obtain⟨d,hd,rfl⟩:=List.mem_map.1 hc
 exact⟨(hcls d hd).1,by have:=(hcls d hd).2;omega⟩
theorem q7k (m:Int) (n:Nat):q4W (Ge m n):=fun v hv=>by
 obtain⟨i,_,rfl⟩:=List.mem_map.1 hv
 have h0:0<=m / 2 ^ i % 2:=Int.emod_nonneg _ (by decide)
 have h1:m / 2 ^ i % 2<2:=Int.emod_lt_of_pos _ (by decide)
 omega
theorem q7l:∀ (n:Nat) (m:List Int),q4W m->m.length=n->∃ k:Nat,k<2 ^ n/\Ge k n=m
 | 0,m,_,hl=>⟨0,by decide,by have:=List.eq_nil_of_length_eq_zero hl;rw[this];rfl⟩
 | n+1,m,ht,hl=>by
  cases m with
  | nil=>simp at hl
  | cons x m =>
   obtain⟨k,hk,hb⟩:=q7l n m (fun v hv=>ht v (List.mem_cons_of_mem _ hv)) (by simpa using hl)
   have hx:=ht x List.mem_cons_self
   have key:∀ y:Nat,y<2->Ge ((2*k+y:Nat):Int) (n+1)=(y:Int)::m:=fun y hy=>by
    unfold Ge
    rw[List.range_succ_eq_map,List.map_cons,List.map_map]
    congr 1
    ·simp only[Int.pow_zero,Int.ediv_one];omega
    ·rw[<- hb]
     unfold Ge
     refine List.map_congr_left fun i _=>?_
     show((2*k+y:Nat):Int) / 2 ^ (i+1) % 2=(k:Int) / 2 ^ i % 2
     have e:(2*k+y) / 2 ^ (i+1) % 2=k / 2 ^ i % 2:=by
      rw[Nat.pow_succ',<- Nat.div_div_eq_div_mul]
      have:(2*k+y) / 2=k:=by omega
      rw[this]
     exact_mod_cast e
   rcases hx with rfl|rfl
   ·exact⟨2*k+0,by rw[Nat.pow_succ];omega,key 0 (by decide)⟩
   ·exact⟨2*k+1,by rw[Nat.pow_succ];omega,key 1 (by decide)⟩
def Xi (f:Cf) (k:Nat):Bool:=(List.range k).any fun n=>Xh (Ge n f.vars.toNat) f.L
theorem qD8 {f:Cf}:Xi f (2 ^ f.vars.toNat)=true↔∃ m,q4W m/\m.length=f.vars.toNat/\q2X m f.L:=by
 unfold Xi
 rw[List.any_eq_true]
 constructor
 ·rintro⟨n,_,h⟩
  exact⟨_,q7k _ _,by simp[Ge],q6H.1 h⟩
 ·rintro⟨m,h1,h2,h3⟩
  obtain⟨k,hk,hb⟩:=q7l _ m h1 h2
  exact⟨k,List.mem_range.2 hk,by rw[hb];exact q6H.2 h3⟩
theorem qF5 {V:Int} (h1:1<=V) (h2:V<=8):IntKind.i64.wrap (1*2 ^ (min V.toNat IntKind.i64.bits))=((2 ^ V.toNat:Nat):Int)/\(2 ^ V.toNat:Nat)<=256:=by
 have:V.toNat=1\/V.toNat=2\/V.toNat=3\/V.toNat=4\/V.toNat=5\/V.toNat=6\/V.toNat=7\/V.toNat=8:=by omega
 rcases this with e|e|e|e|e|e|e|e<;>rw[e]<;>decide
theorem qF6 {Q:AX->St->Prop} (f:Cf) (he:Jz f=0) (hv1:1<=f.vars) (hv8:f.vars<=8) (A B:AV)
  (h0:Q (.exit 0) ⟨[(1,A),(2,B),(7,.lp 7 0 0),(8,.t (tB (Xi f (2 ^ f.vars.toNat)))),(9,.t (tI (2 ^ f.vars.toNat:Nat))),(33,.t (tB false))],[(7,.bx [.t (tI f.vars),.t (B5 f.cls)])]⟩) :
  ∀ (k i:Nat),k+i=2 ^ f.vars.toNat ->
  run Tryz.prog Γ Gt Q ⟨[(1,A),(2,B),(7,.lp 7 0 0),(8,.t (tB (Xi f i))),(9,.t (tI i))],[(7,.bx [.t (tI f.vars),.t (B5 f.cls)])]⟩
 | 0,i,h=>by
  refine N9 fun K hK=>?_
  obtain⟨w1,w2⟩:=qF5 hv1 hv8
  have h2:i=2 ^ f.vars.toNat:=by omega
  rw[<- h2]at h0 w1
  have w1:IntKind.i64.wrap (2 ^ (min f.vars.toNat IntKind.i64.bits))=(i:Int):=by rw[<- w1,Int.one_mul]
  have hv0:0<=f.vars:=by omega
  simp[w1,hv0]
  simpa using h0
 | k+1,i,h=>by
  refine N9 fun K hK=>?_
  obtain⟨w1,w2⟩:=qF5 hv1 hv8
  have w1:IntKind.i64.wrap (2 ^ (min f.vars.toNat IntKind.i64.bits))=((2 ^ f.vars.toNat:Nat):Int):=by rw[<- w1,Int.one_mul]
  have ih:=qF6 f he hv1 hv8 A B h0 k (i+1) (by omega)
  have hsome:Xi f (i+1)=(Xi f i||Xh (Ge i f.vars.toNat) f.L):=by simp[Xi,List.range_succ,List.any_append]
  have hvn:(f.vars.toNat:Int)=f.vars:=by omega
  have hb:=qD7 (Γ:=Γ) (i:Int) (by omega) (by omega) f.vars.toNat (by omega)
  rw[hvn]at hb
  have hbl:((Ge i f.vars.toNat).length:Int)=f.vars:=by simp[Ge];omega
  have hb0:∀ v∈Ge i f.vars.toNat,0<=v:=fun v hv=>by have:=q7k _ _ v hv;omega
  have hs:=U3 (Γ:=Γ) f he ⟨Ge i f.vars.toNat,none,none⟩ hbl hb0
  have hh:=q6I (Γ:=Γ) f he ⟨Ge i f.vars.toNat,none,none⟩ hbl hb0
  have hlt:i<2 ^ f.vars.toNat:=by omega
  have wi:IntKind.i64.wrap ((i:Int)+1)=(i:Int)+1:=by rw[A5]<;>omega
  generalize 2 ^ f.vars.toNat=N at *
  rw[hsome]at ih
  simp at hs hh
  generalize Ge (i:Int) f.vars.toNat=bs at *
  have hv0:0<=f.vars:=by omega
  simp[w1,hlt,hv0]
  refine As hb rfl ?_
  simp
  refine A4 hs rfl ?_
  generalize Xh bs f.L=sb at *
  cases hsm:Xi f i with
  | true =>
   rw[hsm]at ih
   simp at ih
   simp
   refine A4 hh rfl ?_
   simp[wi]
   rw[hK]
   simpa using ih
  | false =>
   rw[hsm]at ih
   simp at ih
   simp
   refine A4 hh rfl ?_
   simp[wi]
   rw[hK]
   simpa using ih
def Uh (l:List Int) (n:Nat):List Int:=(List.range n).map fun i=>if i<l.length then l.getD i 0 % 5 else 2
theorem qF7 {Q:AX->St->Prop} (f:Cf) (hv1:1<=f.vars) (hv8:f.vars<=8) (l:Sl Int) (hl:l.l.length<=60) (hb:∀ b∈l.l,0<=b/\b<=255) (B:T) (s:Bool)
  (h0:Q (.exit 2) ⟨[(1,.t (tV l)),(2,.t B),(7,.lp 7 0 0),(8,.t (tB s)),(12,.ls 70 0 f.vars.toNat none),(13,.t (tI f.vars)),(55,.t (tB false))],[(7,.bx [.t (tI f.vars),.t (B5 f.cls)]),(70,.sl 41 1 (Da (Uh l.l f.vars.toNat)))]⟩) :
  ∀ (k i:Nat),k+i=f.vars.toNat ->
  run Tryz.prog Γ Gu Q ⟨[(1,.t (tV l)),(2,.t B),(7,.lp 7 0 0),(8,.t (tB s)),(12,.ls 70 0 i none),(13,.t (tI i))],[(7,.bx [.t (tI f.vars),.t (B5 f.cls)]),(70,.sl 41 1 (Da (Uh l.l i)))]⟩
 | 0,i,h=>by
  refine Na fun K hK=>?_
  have h2:i=f.vars.toNat:=by omega
  have h3:(i:Int)=f.vars:=by omega
  rw[<- h2]at h0
  rw[<- h3]at h0 ⊢
  simp
  simpa using h0
 | k+1,i,h=>by
  refine Na fun K hK=>?_
  have ih:=qF7 f hv1 hv8 l hl hb B s h0 k (i+1) (by omega)
  have h2:(i:Int)<f.vars:=by omega
  have wi:IntKind.i64.wrap ((i:Int)+1)=(i:Int)+1:=by rw[A5]<;>omega
  have hap:Da (Uh l.l i)++[[tK (if i<l.l.length then l.l.getD i 0 % 5 else 2)]]=Da (Uh l.l (i+1)):=by
   have:=Eu (f:=tK) (l:=Uh l.l i) (x:=if i<l.l.length then l.l.getD i 0 % 5 else 2)
   rw[this];congr 1;simp[Uh,List.range_succ]
  have hlen:(Da (Uh l.l i)).length=i:=by simp[Da,Ak,Uh]
  have hw:∀ x:Int,Gk 1 [[tK x]]:=fun x=>Aa (f:=tK) (l:=[x])
  have htk:List.take i (Da (Uh l.l i))=Da (Uh l.l i):=List.take_of_length_le (by omega)
  by_cases hi:i<l.l.length
  ·rw[if_pos hi]at hap
   have e1:=elC (f:=tK) 0 hi
   have e1':=Qi (f:=tK) 0 hi
   have hbb:=hb _ (Dp (d:=0) hi)
   generalize l.l.getD i 0=x at *
   have ht:x.tmod 5=x % 5:=Int.tmod_eq_emod_of_nonneg hbb.1
   generalize Da (Uh l.l i)=E0 at *
   simp[tV]at ih
   simp[tV,h2,hi,e1,e1',A3,Aa,ht,hap,hlen,hw,htk,wi]
   refine⟨by omega,?_⟩
   rw[hK]
   simpa using ih
  ·rw[if_neg hi]at hap
   generalize Da (Uh l.l i)=E0 at *
   simp[tV]at ih
   simp[tV,h2,hi,A3,Aa,hap,hlen,hw,htk,wi]
   refine⟨by omega,?_⟩
   rw[hK]
   simpa using ih
end Go.Lg
namespace Go.Lg
open Go
def eqW:Value->Value->Bool
 | .int .u8 a,.int .u8 b=>decide (a=b)
 | .int .i64 a,.int .i64 b=>decide (a=b)
 | .bool a,.bool b=>a==b
 | .string a,.string b=>decide (a.data.toList=b.data.toList)
 | _,_=>false
theorem qJD {a b:Value} (h:eqW a b=true):a=b:=by
 unfold eqW at h
 split at h
 ·rw[of_decide_eq_true h]
 ·rw[of_decide_eq_true h]
 ·rw[eq_of_beq h]
 ·rename_i a b
  have:=of_decide_eq_true h
  obtain⟨⟨a⟩⟩:=a
  obtain⟨⟨b⟩⟩:=b
  simp only at this
  rw[this]
 ·cases h
mutual
def eqU:T->T->Bool
 | .v a,.v b=>eqW a b
 | .sl a c n,.sl b d m=>qF8 a b&&decide (c=d)&&decide (n=m)
 | .agg a,.agg b=>q9o a b
 | .tup a,.tup b=>q9o a b
 | _,_=>false
def q9o:List T->List T->Bool
 | [],[]=>true
 | a::l,b::m=>eqU a b&&q9o l m
 | _,_=>false
def qF8:List (List T)->List (List T)->Bool
 | [],[]=>true
 | a::l,b::m=>q9o a b&&qF8 l m
 | _,_=>false
end
mutual
theorem qJE:∀ {a b:T},eqU a b=true->a=b
 | .v a,b,h=>by
  cases b<;>simp only[eqU,Bool.false_eq_true]at h
  rw[qJD h]
 | .sl a c n,b,h=>by
  cases b<;>simp only[eqU,Bool.false_eq_true,Bool.and_eq_true,decide_eq_true_eq]at h
  rw[qCE h.1.1,h.1.2,h.2]
 | .agg a,b,h=>by
  cases b<;>simp only[eqU,Bool.false_eq_true]at h
  rw[q30 h]
 | .tup a,b,h=>by
  cases b<;>simp only[eqU,Bool.false_eq_true]at h
  rw[q30 h]
 | .ip _ _,b,h=>by simp[eqU]at h
 | .fn _ _,b,h=>by simp[eqU]at h
 | .mp _,b,h=>by simp[eqU]at h
 | .pin _ _,b,h=>by simp[eqU]at h
theorem q30:∀ {a b:List T},q9o a b=true->a=b
 | [],b,h=>by cases b<;>simp[q9o]at h;rfl
 | a::l,b,h=>by
  cases b<;>simp only[q9o,Bool.false_eq_true,Bool.and_eq_true]at h
  rw[qJE h.1,q30 h.2]
theorem qCE:∀ {a b:List (List T)},qF8 a b=true->a=b
 | [],b,h=>by cases b<;>simp[qF8]at h;rfl
 | a::l,b,h=>by
  cases b<;>simp only[qF8,Bool.false_eq_true,Bool.and_eq_true]at h
  rw[q30 h.1,qCE h.2]
end
def qGY:List (FuncId×List T×T)->FuncId->List T->Option T
 | [],_,_=>none
 | (g,us,r)::l,f,ts=>if Nat.beq g f&&q9o us ts then some r else qGY l f ts
theorem qCF {R:FuncId->List T->T->Prop}:∀ {l:List (FuncId×List T×T)} {f:FuncId} {ts:List T} {r:T},(∀ x∈l,R x.1 x.2.1 x.2.2)->qGY l f ts=some r->R f ts r
 | [],_,_,_,_,h=>by cases h
 | (g,us,q)::l,f,ts,r,hl,h=>by
  simp only[qGY]at h
  split at h
  ·rename_i hc
   simp only[Bool.and_eq_true]at hc
   cases h
   have:=hl (g,us,q) (List.mem_cons_self ..)
   rw[<- Nat.eq_of_beq_eq_true hc.1,<- q30 hc.2]
   exact this
  ·exact qCF (fun x hx=>hl x (List.mem_cons_of_mem _ hx)) h
end Go.Lg
namespace Go.Lg
open Go Go.Proofs
def cA:T:=(.agg [(.sl [[(.v (.int .u8 0)),(.sl [] (some 0) (some true)),(.v (.int .i64 0)),(.v (.int .i64 0))],[(.v (.int .u8 0)),(.sl [] (some 0) (some true)),(.v (.int .i64 0)),(.v (.int .i64 0))],[(.v (.int .u8 5)),(.sl [[(.v (.int .i64 0))],[(.v (.int .i64 1))]] (some 2) (some false)),(.v (.int .i64 0)),(.v (.int .i64 0))],[(.v (.int .u8 7)),(.sl [[(.v (.int .i64 0))],[(.v (.int .i64 2))]] (some 2) (some false)),(.v (.int .i64 0)),(.v (.int .i64 0))]] (some 4) (some false)),(.sl [[(.v (.string ⟨#[97]⟩))],[(.v (.string ⟨#[98]⟩))],[(.v (.string ⟨#[100]⟩))],[(.v (.string ⟨#[101]⟩))]] (some 4) (some false)),(.sl [] (some 0) (some true)),(.sl [[(.v (.int .i64 3))]] (some 1) (some false))])
def fA (n:Int):T:=.agg [.v (.int .u8 0),.v (.int .i64 n),.v (.int .i64 (-1)),.v (.int .u8 0),.v (.int .i64 0)]
def g1A:T:=(.tup [(.agg [(.sl [[(.v (.int .u8 1))],[(.v (.int .u8 0))]] none none),(.sl [] none none)]),(.v (.bool true)),(.v (.int .i64 0))])
def g2A:T:=(.tup [(.agg [(.sl [] (some 0) (some true)),(.sl [] (some 0) (some true))]),(.v (.bool true)),(.v (.int .i64 9))])
def cfO (p:List (FuncId×List T×T)):Or:=⟨fun f ts=>match qGY p f ts with|some r=>some r|none=>cnF f ts,cnF,fun _ _ _=>none⟩
theorem qJF {Γ:Tables} (ht:A6 Tryz.prog Γ 7 txA txR) {p:List (FuncId×List T×T)} (hp:∀ x∈p,An Tryz.prog Γ x.1 x.2.1 x.2.2):q4S Tryz.prog Γ (cfO p):=by
 refine⟨fun f ts r h=>?_,fun f ts r h=>qEi ht h,fun f hp xs r hp' h=>by cases h⟩
 simp only[cfO]at h
 split at h
 ·rename_i q hq;cases h;exact qCF (R:=fun f ts r=>An Tryz.prog Γ f ts r) hp hq
 ·exact(qEi ht h).pure
noncomputable def rCf (p:List (FuncId×List T×T)) (f:FuncId) (ts:List T):Option T:=pF qIw (orF qIw GC (cfO p) 30) GC f ts
theorem qBE (ht:A6 Tryz.prog GC 7 txA txR) {p:List (FuncId×List T×T)} (hp:∀ x∈p,An Tryz.prog GC x.1 x.2.1 x.2.2) {f:FuncId} {ts:List T} {r:T} (h:rCf p f ts=some r):An Tryz.prog GC f ts r :=
 qGz qC1 (qEC qC1 (qJF ht hp) 30) (qH1 h)
def pA0:List (FuncId×List T×T):=[(86,[cA],.v (.int .i64 0))]
def pA1:List (FuncId×List T×T):=[(13,[cA,fA 0,.v (.int .i64 99)],g1A),(13,[cA,fA 2,.v (.int .i64 99)],g2A)]
def qGZ:Ee:=⟨⟨[⟨0,⟨[],some 0,some true⟩,0,0⟩,⟨0,⟨[],some 0,some true⟩,0,0⟩,⟨5,⟨[0,1],some 2,some false⟩,0,0⟩,⟨7,⟨[0,2],some 2,some false⟩,0,0⟩],some 4,some false⟩,⟨[[97],[98],[100],[101]],some 4,some false⟩,⟨[],some 0,some true⟩,⟨[3],some 1,some false⟩⟩
theorem qJG:cA=.agg (tC qGZ):=rfl
theorem qGa:COk qGZ where
 nodes:=by decide
 names:=by decide
 mems:=by decide
 outs:=by decide
 kind:=by decide
 inn:=by decide
 addr:=by intro m hm;cases hm
 asc:=by decide
theorem qF9:Tf qGZ=0:=by decide +kernel
theorem qJH:A6 Tryz.prog GC 86 [cA] (.v (.int .i64 0)):=by
 have:=qAj (Γ:=GC) qLY qGZ qGa
 rw[qF9,<- qJG]at this
 exact this
theorem qLc:rCf pA0 13 [cA,fA 0,.v (.int .i64 99)]=some g1A:=by kernel_rfl
theorem qLd:rCf pA0 13 [cA,fA 2,.v (.int .i64 99)]=some g2A:=by kernel_rfl
theorem qFA:rCf pA1 5 []=some (.v (.bool true)):=by kernel_rfl
theorem qBF:A6 Tryz.prog GC 7 txA txR:=by
 have h:=q1x (Γ:=GC) qIz ⟨2,⟨[⟨[1,-2],some 2,some false⟩,⟨[],some 0,some false⟩],some 2,some false⟩⟩ (by unfold Vv;decide) (by unfold Vv;decide) (by decide +kernel) (by decide +kernel)
 have e:(⟨(txL ⟨2,⟨[⟨[1,-2],some 2,some false⟩,⟨[],some 0,some false⟩],some 2,some false⟩⟩).toArray⟩:ByteArray)=⟨#[112,32,99,110,102,32,50,32,50,10,49,32,45,50,32,48,10,48,10]⟩:=by
  refine congrArg ByteArray.mk ?_
  decide +kernel
 rw[e]at h
 exact h
theorem qFB:∀ x∈pA0,An Tryz.prog GC x.1 x.2.1 x.2.2:=by
 intro x hx
 simp only[pA0,List.mem_cons,List.not_mem_nil,or_false]at hx
 subst hx
 exact qJH.pure
theorem qJI:∀ x∈pA1,An Tryz.prog GC x.1 x.2.1 x.2.2:=by
 intro x hx
 simp only[pA1,List.mem_cons,List.not_mem_nil,or_false]at hx
 rcases hx with rfl|rfl
 ·exact qBE qBF qFB qLc
 ·exact qBE qBF qFB qLd
theorem Ye {Γ:Tables} (hG:GOk Γ) (hP:Ij Γ):A6 Tryz.prog Γ 5 [] (tB true) :=
 qEj fun w X vs hg hx hr=>qBE qBF qJI qFA w X vs (qLZ hG hP hg) hx hr
end Go.Lg
namespace Go.Lg
open Go Go.Proofs
variable {Γ:Tables}
theorem q6J:∀ (k u:Nat),u<10 ^ (k+1)->(Lib.decDigits u).length<=k+1
 | 0,u,h=>by rw[Lib.decDigits,dif_pos (by simpa using h)];simp
 | k+1,u,h=>by
  rw[Lib.decDigits]
  split
  ·simp
  ·have:=q6J k (u / 10) (by rw[Nat.pow_succ]at h;omega)
   simp;omega
theorem q1y (n:Int) (h:n.natAbs<10 ^ 20):(Bf n).size<=21:=by
 have e:(Bf n).size=(Lib.itoa n).length:=by rw[<- Yd];rfl
 rw[e]
 unfold Lib.itoa
 split
 ·have:=q6J 19 n.natAbs h;simp;omega
 ·have:=q6J 19 n.toNat (by omega);omega
theorem qCG:∀ (cs:List (List Int)) (m:Nat),(∀ c∈cs,c.length<=m/\∀ n∈c,Vv n)->(txB cs).length<=cs.length*(31*m+2)
 | [],m,_=>by simp[txB]
 | c::cs,m,h=>by
  have ih:=qCG cs m fun c hc=>h c (List.mem_cons_of_mem _ hc)
  obtain⟨h1,h2⟩:=h c (List.mem_cons_self ..)
  have hc:=qC8 (f:=Bf) (l:=c) fun n hn=>by
   have:=h2 n hn;unfold Vv at this
   have:=q1y n (by omega);omega
  have e:txB (c::cs)=clT c++txB cs:=rfl
  have e2:(clT c).length=(Jc Bf c).length+2:=by simp[clT]
  rw[e,List.length_append,e2,List.length_cons,Nat.add_mul]
  have:31*c.length<=31*m:=Nat.mul_le_mul_left _ h1
  omega
theorem qFC (f:Cf):∃ l,txL f=l++[10]:=by
 unfold txL
 have:txB f.L=[]\/∃ l,txB f.L=l++[10]:=by
  generalize f.L=cs
  induction cs with
  | nil=>exact .inl rfl
  | cons c cs ih =>
   have e:txB (c::cs)=clT c++txB cs:=rfl
   rcases ih with h|⟨l,h⟩
   ·exact .inr ⟨lnC c,by rw[e,h,qB7];simp⟩
   ·exact .inr ⟨clT c++l,by rw[e,h];simp⟩
 rcases this with h|⟨l,h⟩
 ·rw[h,q2y];exact⟨pfx++Lib.itoa f.vars++32::Lib.itoa f.cls.l.length,by simp⟩
 ·rw[h];exact⟨_,by rw[<- List.append_assoc]⟩
theorem qFD (v:Int) (h0:0<=v) (h1:v<=9):Lib.itoa v=[UInt8.ofNat (48+v.toNat)]:=by
 unfold Lib.itoa
 rw[if_neg (by omega),Lib.decDigits,dif_pos (by omega)]
theorem qFE (f:Cf) (h0:0<=f.vars) (h1:f.vars<=9):∃ l,txL f=pfx++[UInt8.ofNat (48+f.vars.toNat),32]++l/\2<=l.length:=by
 unfold txL
 rw[q2y,qFD _ h0 h1]
 have:=qGR f.cls.l.length
 have hl:0<(Lib.itoa f.cls.l.length).length:=List.length_pos_iff.2 this
 exact⟨Lib.itoa f.cls.l.length++[10]++txB f.L,by simp,by simp;omega⟩
theorem q1I (hG:GOk Γ) (hP:Ij Γ) (hE:Qv Γ) (vars:Int) (hv:0<=vars/\vars<=255) (l:Sl Int) (hb0:∀ b∈l.l,Byt b) (s:ByteArray) :
  An Tryz.prog Γ 3 [tK vars,tV l,.v (.string s)] (tB true):=by
 have hlv:=Ye hG hP
 have hb:∀ b∈l.l,0<=b/\b<=255:=fun b h=>by have:=hb0 b h;unfold Byt at this;omega
 refine E7 q0s rfl ?_
 by_cases hl:60<l.l.length
 ·have hl2:(60:Int)<l.l.length:=by omega
  simp[I0,tV,A3,hl,hl2]
  refine A4 hlv rfl ?_
  simp[Fj]
 by_cases hs:200<s.size
 ·have hl2:¬ (60:Int)<l.l.length:=by omega
  have hs2:(200:Int)<s.size:=by omega
  simp[I0,tV,A3,hl,hl2,hs2]
  refine A4 hlv rfl ?_
  simp[Fj]
 have hl2:¬ (60:Int)<l.l.length:=by omega
 have hs2:¬ (200:Int)<s.size:=by omega
 have hof:=q9k (Γ:=Γ) vars hv.1 hv.2 l (by omega) hb
 obtain⟨he,hV1,hV8,hcl,hcll⟩:=qF4 vars l.l (by omega)
 generalize cOf vars l.l=f at *
 have hvi:Vv f.vars:=⟨by omega,by omega⟩
 have hlits:∀ c∈f.cls.l,∀ v∈c.l,Vv v:=by
  intro c hc v hv
  unfold Jz at he
  split at he
  ·cases he
  ·split at he
   ·cases he
   ·have:=(q4q he c.l (List.mem_map.2 ⟨c,hc,rfl⟩)).2 v hv
    unfold q2a at this
    simp at this
    unfold Vv;omega
 have hlitL:∀ c∈f.L,∀ v∈c,Vv v:=by
  intro c hc v hv
  obtain⟨c',hc',rfl⟩:=List.mem_map.1 hc
  exact hlits c' hc' v hv
 have hT:(txL f).length<=900000:=by
  unfold txL
  have h1:=qCG f.L 60 fun c hc=>by
   refine⟨?_,hlitL c hc⟩
   obtain⟨c',hc',rfl⟩:=List.mem_map.1 hc
   have:=hcll c' hc';omega
  have h2:(txH f).data.toList.length=(txH f).size:=rfl
  have h3:(txH f).size=6+(Bf f.vars).size+1+(Bf f.cls.l.length).size+1:=by
   unfold txH
   rw[ByteArray.size_append,ByteArray.size_append,ByteArray.size_append,ByteArray.size_append]
   rfl
  have h4:=q1y f.vars (by omega)
  have h5:=q1y f.cls.l.length (by omega)
  rw[qB8]at h1
  have h6:f.cls.l.length*(31*60+2)<=61*(31*60+2):=Nat.mul_le_mul_right _ (by omega)
  rw[List.length_append]
  omega
 have htx:=q1x (Γ:=Γ) hP f hvi hlits he (by omega)
 have hpt:=qBA f hvi hlitL ⟨by omega,by omega⟩ he
 have hpo:=q6C hP hE ⟨(txL f).toArray⟩ (by simp[ByteArray.size];omega) f.vars f.L (by simpa using hpt)
 have heq:=qBC (Γ:=Γ) f ⟨f.vars,⟨f.L.map slC,none,none⟩⟩ rfl (qHF f.L).symm (by omega) (fun c hc=>by have:=hcll c hc;omega)
 obtain⟨tl,htl⟩:=qFC f
 obtain⟨tr,htr,htr2⟩:=qFE f (by omega) (by omega)
 generalize hTT:txL f=TT at *
 have htake:TT.take 8=pfx++[UInt8.ofNat (48+f.vars.toNat),32]:=by
  rw[htr];exact List.take_left' rfl
 have hlen10:¬ (TT.length:Int)<10:=by
  have:TT.length=8+tr.length:=by rw[htr];simp[pfx];omega
  omega
 simp only[He,B5]at hof htx hpo heq
 simp[I0,tV,A3,hl,hl2,hs2]
 refine As hof rfl ?_
 simp
 refine A4 htx rfl ?_
 simp
 refine As hpo rfl ?_
 simp
 refine A4 heq rfl ?_
 simp[hlen10]
 have w1:IntKind.i64.wrap (48+f.vars)=48+f.vars:=by rw[A5]<;>omega
 have w2:IntKind.u8.wrap (48+f.vars)=48+f.vars:=by rw[q0e]<;>omega
 have hbs:Lq [[T.v (Value.int IntKind.u8 (48+f.vars))],[T.v (Value.int IntKind.u8 32)]]=some [UInt8.ofNat (48+f.vars.toNat),32]:=by
  have e:(48+f.vars).toNat=48+f.vars.toNat:=by omega
  simp only[Lq,e,Option.map_some]
  rfl
 generalize UInt8.ofNat (48+f.vars.toNat)=bb at *
 have w3:IntKind.i64.wrap ((TT.length:Int)-1)=((TT.length-1:Nat):Int):=by rw[A5]<;>omega
 have h8:8<=TT.length:=by omega
 have hx:((ByteArray.mk TT.toArray).extract 0 8).toList=pfx++[bb,32]:=by rw[Ec,qC7];exact htake
 have hy:(ByteArray.mk #[112,32,99,110,102,32]++ByteArray.mk #[bb,32]).toList=pfx++[bb,32]:=by rw[Ec];simp[pfx]
 have hlt:TT.length-1<TT.length:=by omega
 have hlt1:((TT.length-1:Nat):Int)<(TT.length:Int):=by omega
 have hlt0:(0:Int)<=((TT.length-1:Nat):Int):=by omega
 have hlast:TT[TT.length-1]=10:=by
  have h1:TT[TT.length-1]? = some 10:=by rw[htl];simp
  rw[List.getElem?_eq_getElem hlt]at h1
  exact Option.some.inj h1
 have h10:((10:UInt8).toNat:Int)=10:=rfl
 simp[w1,w2,hbs,h8,hx,hy,sV,w3,hlt,hlt1,hlt0,hlast,h10]
 cases hpb:Tu s.data.toList with
 | none =>
  have hb2:=q7f hP hE s (by omega) hpb
  refine As hb2 rfl ?_
  simp[q6D]
  refine A4 hlv rfl ?_
  simp[Fj]
 | some r =>
  obtain⟨v,cs⟩:=r
  obtain⟨h1,h2,h3,h4⟩:=qBB hpb
  have hb2:=q6C hP hE s (by omega) v cs hpb
  have hck:=Dx (Γ:=Γ) ⟨v,⟨cs.map slC,none,none⟩⟩ h3
  rw[h2]at hck
  have hsl:s.data.toList.length=s.size:=rfl
  have htx2:=q1x (Γ:=Γ) hP ⟨v,⟨cs.map slC,none,none⟩⟩ h3 (fun c hc v hv=>by
   obtain⟨c',hc',rfl⟩:=List.mem_map.1 hc
   exact h4 c' hc' v hv) h2 (by rw[h1];omega)
  rw[h1]at htx2
  have hss:(ByteArray.mk s.data.toList.toArray).toList=s.toList:=by rw[Ec]
  simp only[He,B5]at hb2 hck htx2
  refine As hb2 rfl ?_
  simp
  refine A4 hck rfl ?_
  simp
  refine A4 htx2 rfl ?_
  simp[hss]
  refine A4 hlv rfl ?_
  simp[Fj]
end Go.Lg
namespace Go.Proofs.YtjhbkddcmcfpaaaGreatDoor
open Go Go.Lg Go.ChangeShapes Go.WideShapes Go.ChangeAt Go.RowKit
theorem qMf (H:Type) (enc:TypeId×Value->H) (W:World) (base:Nat) (args:Array Value) (ds gs:List (DataW H)) (before:List MemPlace)
  (hval:∀ (j:Nat) t v,Tryz.f3.params[j]? = some t->args[j]? = some v->Value.okWide Tryz.prog W .any base t v)
  (hW:DataW.Whole enc Tryz.prog Tryz.f3.params.toList Rows.cnfsTextsSpec.vars false W args.toList ds gs before) (hL:laidMetH Tryz.prog Rows.cnfsTextsRow.laid W) :
  Calls Tryz.prog 3 args W fun e W'=>∃ v,e=.returned v/\Rows.cnfsTextsSpec.post enc Tryz.prog Tryz.f3 false true false false W args v W':=by
 have hW':=hW
 obtain⟨p,q,hA0,hV,rfl,_,_⟩:=hW
 have hA:DataW.TrodAll enc Tryz.prog W 0 (fun _=>true) true Tryz.f3.params.toList args.toList ds p:=hA0
 rw[Tryz.params3]at hA hval
 obtain⟨v0,v1,v2,d0,d1,d2,p0,p1,p2,rfl,rfl,rfl,h0,h1,h2⟩:=trodAll_three hA
 obtain⟨rfl,rfl⟩:=trodVars_none hV
 obtain⟨x0,rfl,rfl,rfl,hb0⟩:=open_int Tryz.underlying5 (hval 0 5 v0 rfl rfl) h0
 obtain⟨x1,hx1,hr1⟩:=qIq (hval 1 22 v1 rfl rfl) h1
 obtain⟨x2,rfl,rfl,rfl,_⟩:=Go.ChangeMaps.open_string Tryz.underlying9 (hval 2 9 v2 rfl rfl) h2
 obtain⟨Γ,hg1,hg2,hg3,hgl⟩:=qJ8 hL
 have:=qCm q0s (q1I hg1 hg2 hg3 x0 (qMW hb0) x1 hx1 x2) hgl (Ds.cons (.v (.int .u8 x0)) (Ds.cons hr1 (Ds.cons (.v (.string x2)) (Ds.nil W _))))
 refine this.mono fun e W' ⟨he,hb⟩=>⟨_,he,qEE qGC ?_ rfl rfl Tryz.underlying4 hW' rfl rfl rfl hb⟩
 rw[Tryz.params3]
 intro t ht
 simp at ht
 rcases ht with rfl|rfl|rfl
 ·exact⟨by kernel_rfl,of_decide_eq_true (by kernel_rfl)⟩
 ·exact⟨by kernel_rfl,of_decide_eq_true (by kernel_rfl)⟩
 ·exact⟨by kernel_rfl,of_decide_eq_true (by kernel_rfl)⟩
theorem qMj (os:Os):laidMet Tryz.prog Rows.cnfsTextsRow.laid ((q1s os).forCall (fun _ _=>0) ⟨#[],#[.int .u8 0,.slice none 0 0,.string ⟨#[]⟩],[]⟩).memory :=
 laidMet_of_run' 8 (by kernel_rfl) (by kernel_rfl)
theorem qMh (os:Os) {H:Type} (enc:TypeId×Value->H):∃ places,DataW.whole enc Tryz.prog ((q1s os).forCall (fun _ _=>0) ⟨#[],#[.int .u8 0,.slice none 0 0,.string ⟨#[]⟩],[]⟩).memory Tryz.f3.params.toList Rows.cnfsTextsSpec.vars false (#[.int .u8 0,.slice none 0 0,.string ⟨#[]⟩]:Array Value).toList 8=some ([.lit (.int .u8 0),.nil,.lit (.string [])],[],places) :=
 ⟨[],by kernel_rfl⟩
theorem qMg (os:Os) (started:os.Started) (H:Type) (enc:TypeId×Value->H) (F:Stop.Interp) :
  ReturnsInHanded {} Tryz.checked os 3 .any ((OpenSpec.ofChange Rows.cnfsTextsSpec).preRow enc Tryz.prog Tryz.f3 Rows.cnfsTextsRow.domain false Rows.cnfsTextsRow.laid) (((OpenSpec.ofChange Rows.cnfsTextsSpec).at F).post enc Tryz.prog Tryz.f3 false true false false):=by
 obtain⟨places,hx⟩:=qMh os enc
 refine returnsInHanded_of_row (C:=Tryz.checked) (s:=OpenSpec.ofChange Rows.cnfsTextsSpec) own started (by kernel_rfl) Tryz.func3
  (witness_row_at (enc:=enc) (C:=Tryz.checked) false (q1s os) #[.int .u8 0,.slice none 0 0,.string ⟨#[]⟩] rfl (by kernel_rfl) (by kernel_rfl) (by kernel_rfl)
   (OpenSpec.preRow_of_cond 8 hx (by kernel_rfl) (fun k hk=>by cases hk) (by kernel_rfl) (qMj os))) ?_
 intro W base args ds gs before hval hW _ _ _ hL _ _
 exact qMf H enc W base args ds gs before hval hW hL
theorem qMo:(Rows.cnfsTextsRow.inPlace==Tryz.pinned.checked.prog.inPlace 3)=true:=by kernel_rfl
theorem qMp:(Rows.cnfsTextsRow.unfollowed==Tryz.pinned.checked.prog.unfollowed 3)=true:=by kernel_rfl
theorem qMq:(Rows.cnfsTextsRow.recurses==Tryz.pinned.checked.prog.recurses 3)=true:=by kernel_rfl
theorem qMr:(Rows.cnfsTextsRow.named==Tryz.pinned.checked.prog.varsNamed 3)=true:=by kernel_rfl
theorem qMs:laidOutB Tryz.pinned.checked.prog=true:=by kernel_rfl
theorem qMt:mapsRowed Tryz.pinned.checked.prog=true:=by kernel_rfl
theorem qMu:Tryz.pinned.checked.prog.stopsHeard=true:=by kernel_rfl
theorem qMv:Tryz.pinned.checked.prog.mayEnter=true:=by kernel_rfl
theorem qMw:(Rows.cnfsTextsRow.lifted==Tryz.pinned.checked.prog.liftsFinal)=true:=by kernel_rfl
theorem qMn:(Rows.cnfsTextsRow.plainKeys==Tryz.pinned.checked.prog.plainKeys)=true:=by kernel_rfl
theorem qMx:joinedFacts Tryz.pinned.checked.prog 3 Tryz.f3 (OpenSpec.ofChange Rows.cnfsTextsSpec).bare Rows.cnfsTextsRow=true:=by
 simp only[joinedFacts,Bool.and_eq_true]
 refine⟨⟨⟨⟨⟨⟨⟨⟨⟨⟨⟨⟨⟨⟨⟨⟨⟨⟨⟨⟨⟨⟨⟨⟨⟨⟨⟨⟨⟨⟨⟨?_,qMs⟩,qMt⟩,?_⟩,?_⟩,?_⟩,?_⟩,?_⟩,?_⟩,qMo⟩,qMp⟩,qMq⟩,qMr⟩,?_⟩,?_⟩,?_⟩,?_⟩,?_⟩,?_⟩,?_⟩,?_⟩,?_⟩,qMn⟩,?_⟩,qMu⟩,qMv⟩,qMw⟩,?_⟩,?_⟩,?_⟩,?_⟩,?_⟩<;>kernel_rfl
theorem qMk:false=Rows.cnfsTextsRow.goesBy Tryz.pinned.checked.prog:=by kernel_rfl
theorem qMl:Rows.CnfsTextsSaid :=
 OpenClaim.holds_of_cond 3 Tryz.f3 rfl rfl rfl rfl rfl rfl rfl ⟨rfl,rfl,rfl,rfl,rfl⟩ rfl rfl rfl rfl rfl (by kernel_rfl) Tryz.func3 qMx
  (of_decide_eq_true (by kernel_rfl)) (by unfold Func.isWrapper;first|(rw[if_pos (by decide +kernel)];kernel_rfl)|(rw[if_neg (by decide +kernel)];exact⟨rfl,rfl⟩))
  (fun os started H enc _ F=>by rw[OpenClaim.pre_eq_preRow];exact qMg os started H enc F)
theorem qMi (f:FuncId) (fn:Func) (hf:Tryz.pinned.checked.prog.funcNamed "probecard/probecardlaw28.CnfsTexts" = some f) (hfn:Tryz.pinned.checked.prog.funcs[f]? = some fn) :
  true=Tryz.pinned.checked.prog.looks []/\∀ (j:Nat) t,fn.params[j]? = some t->Tryz.pinned.checked.prog.wantsStandIn t=false:=by
 obtain rfl:f=3:=Option.some.inj ((show Tryz.prog.funcNamed "probecard/probecardlaw28.CnfsTexts" = some 3 by kernel_rfl).symm.trans hf) |>.symm
 obtain rfl:fn=Tryz.f3:=(Option.some.inj (Tryz.func3.symm.trans hfn)).symm
 refine⟨by kernel_rfl,fun j t ht=>?_⟩
 rw[Tryz.params3]at ht
 have hm:t=5\/t=22\/t=9:=by simpa using Array.mem_of_getElem? ht
 rcases hm with rfl|rfl|rfl
 ·exact(show Tryz.prog.wantsStandIn 5=false by kernel_rfl)
 ·exact(show Tryz.prog.wantsStandIn 22=false by kernel_rfl)
 ·exact(show Tryz.prog.wantsStandIn 9=false by kernel_rfl)
theorem qMm:Rows.CnfsTextsCardSaid :=
 Claim7.holds_tied_plain_at .later [] _ _ _ _ qMl (fun _ h=>by cases h) (by kernel_rfl) (fun _ h=>by cases h) cnfsTexts_row_tie rfl ⟨rfl,rfl⟩ (by kernel_rfl) rfl qMi qMk
#print axioms qMm
end Go.Proofs.YtjhbkddcmcfpaaaGreatDoor
namespace Go.Lg
open Go Go.Proofs
variable {Γ:Tables}
theorem q8G (hlv:A6 Tryz.prog Γ 5 [] (tB true)) (vars lim:Int) (hv0:0<=vars) (hv1:vars<=255) (hl0:0<=lim) (hl1:lim<=255) (l:Sl Int) (hb:∀ b∈l.l,0<=b/\b<=255) :
  An Tryz.prog Γ 11 [tK vars,tV l,tK lim] (tB true):=by
 refine E7 q0Q rfl ?_
 by_cases hl:60<l.l.length
 ·have hl2:(60:Int)<l.l.length:=by omega
  simp[Kv,tV,A3,hl,hl2]
  refine A4 hlv rfl ?_
  simp[Dc]
 ·have hl2:¬ (60:Int)<l.l.length:=by omega
  have hof:=q9k (Γ:=Γ) vars hv0 hv1 l (by omega) hb
  obtain⟨he,hV1,hV8,hcl,hcll⟩:=qF4 vars l.l (by omega)
  have hany0:∀ v∈Uh l.l (cOf vars l.l).vars.toNat,0<=v:=fun v hv=>by
   obtain⟨i,_,rfl⟩:=List.mem_map.1 hv
   split
   ·exact Int.emod_nonneg _ (by decide)
   ·decide
  have hanyl:((Uh l.l (cOf vars l.l).vars.toNat).length:Int)=(cOf vars l.l).vars:=by simp[Uh];omega
  have hlive:=hlv
  generalize cOf vars l.l=f at *
  have g1:=fun Q A B h0=>qF6 (Γ:=Γ) (Q:=Q) f he hV1 hV8 A B h0 (2 ^ f.vars.toNat) 0 (by omega)
  have g3:=fun Q B h0=>qF7 (Γ:=Γ) (Q:=Q) f hV1 hV8 l (by omega) hb B (Xi f (2 ^ f.vars.toNat)) h0 f.vars.toNat 0 (by omega)
  have e0:Da (Uh l.l 0)=[]:=rfl
  have es0:Xi f 0=false:=rfl
  rw[e0]at g3
  rw[es0]at g1
  obtain⟨ws,wn⟩:=qF5 hV1 hV8
  have ws:IntKind.i64.wrap (2 ^ (min f.vars.toNat IntKind.i64.bits))=((2 ^ f.vars.toNat:Nat):Int):=by rw[<- ws,Int.one_mul]
  have hpos:1<=2 ^ f.vars.toNat:=Nat.one_le_two_pow
  have wm:IntKind.i64.wrap (((2 ^ f.vars.toNat:Nat):Int)-1)=((2 ^ f.vars.toNat:Nat):Int)-1:=by rw[A5]<;>omega
  have hh:=q6I (Γ:=Γ) f he ⟨Uh l.l f.vars.toNat,none,none⟩ hanyl hany0
  have hs:=U3 (Γ:=Γ) f he ⟨Uh l.l f.vars.toNat,none,none⟩ hanyl hany0
  have hI:Vv f.vars:=⟨by omega,by omega⟩
  have hv0':0<=f.vars:=by omega
  have hS1:=q1p (Γ:=Γ) f hI (((2 ^ f.vars.toNat:Nat):Int)-1)
  have hS2:=q1p (Γ:=Γ) f hI (lim % 10)
  have hlt:lim.tmod 10=lim % 10:=Int.tmod_eq_emod_of_nonneg hl0
  have hq0:0<=lim % 10:=Int.emod_nonneg _ (by decide)
  have hq1:lim % 10<10:=Int.emod_lt_of_pos _ (by decide)
  have wq:IntKind.i64.wrap (lim % 10)=lim % 10:=by rw[A5]<;>omega
  have hok1:=qC0 he (lim:=((2 ^ f.vars.toNat:Nat):Int)-1) (by omega) (by omega)
  have hok2:=qC0 he (lim:=lim % 10) hq0 (by omega)
  have hlim:=fun h (hd:(Vt f (lim % 10)).2.1=true)=>q9X he (lim:=lim % 10) (lim':=((2 ^ f.vars.toNat:Nat):Int)-1) hq0 h (by omega) hd
  have hsome:=qD8 (f:=f)
  have hNI:((2 ^ f.vars.toNat:Nat):Int)=(2:Int) ^ f.vars.toNat:=by simp
  rw[<- hNI]at hok1 hok2
  generalize hN:2 ^ f.vars.toNat=N at *
  have htk:List.take f.vars.toNat (Da (Uh l.l f.vars.toNat))=Da (Uh l.l f.vars.toNat):=List.take_of_length_le (by simp[Da,Ak,Uh])
  generalize lim % 10=q at *
  generalize Uh l.l f.vars.toNat=an at *
  simp[He,B5]at hof
  simp[tV,B5]at g1 g3
  simp[tV,He,B5]at hh hs
  simp[Kv,tV,A3,hl,hl2]
  refine As hof rfl ?_
  simp
  refine g1 _ _ _ ?_
  simp
  refine g3 _ _ ?_
  simp
  refine A4 hh (by simp[Aq,A2,Ac,htk]) ?_
  simp
  refine A4 hs (by simp[Aq,A2,Ac,htk]) ?_
  simp[ws,wm,hv0']
  refine A4 hS1 rfl ?_
  have heq:(Vt f q).2.1=true->(Vt f (↑N-1)).2.1=true->Vt f q=Vt f (↑N-1):=fun h1 h2=>by
   rcases Int.le_total q (↑N-1)with h|h
   ·exact(hlim h h1).symm
   ·exact q9X he (lim:=↑N-1) (lim':=q) (by omega) h (by omega) h2
  rcases hok1 with⟨b,hb1,hb2,hb3,hb4⟩|⟨hb1,hb2⟩|⟨_,hb2⟩
  ·have hsm:Xi f N=true:=hsome.2 ⟨b,hb2,hb3,hb4⟩
   have hbl:(b.length:Int)=f.vars:=by omega
   have hm:=qBD (Γ:=Γ) ⟨b,none,none⟩ (by simp only;omega) f.vars
   have hmt:(decide ((b.length:Int)=f.vars)&&b.all fun v=>decide (v<=1))=true:=by
    simp only[hbl,decide_true,Bool.true_and,List.all_eq_true,decide_eq_true_eq]
    intro v hv;have:=hb2 v hv;omega
   simp only[hmt]at hm
   have hst:=U3 (Γ:=Γ) f he ⟨b,none,none⟩ hbl (fun v hv=>by have:=hb2 v hv;omega)
   rw[show Xh b f.L=true from q6H.2 hb4]at hst
   have hsame:=q7W (Γ:=Γ) ⟨b,none,none⟩ ⟨b,none,none⟩ (by simp only;omega)
   rw[hb1,hsm]
   rw[hb1]at heq
   simp[q2c,q3a]
   refine A4 hm rfl ?_
   simp
   refine A4 hst rfl ?_
   simp[hlt,wq]
   refine A4 hS2 rfl ?_
   rcases hok2 with⟨b2,hc1,hc2,hc3,hc4⟩|⟨hc1,hc2⟩|⟨hc1,hc2⟩
   ·rw[hc1]at heq ⊢
    have he2:=heq rfl rfl
    simp at he2
    subst he2
    simp[q2c,q3a]
    refine A4 hsame rfl ?_
    simp[q7U]
    refine A4 hlv rfl ?_
    simp[Dc]
   ·rw[hc1]at heq
    have he2:=heq rfl rfl
    simp at he2
   ·have hlt2:q<↑N-1:=by omega
    rw[hc1]
    simp[q2c,q3a,ws,wm,hlt2,hv0']
    refine A4 hlv rfl ?_
    simp[Dc]
  ·have hsm:Xi f N=false:=by
    cases h:Xi f N with
    | false=>rfl
    | true=>obtain⟨m,h1,h2,h3⟩:=hsome.1 h;exact absurd h3 (hb2 m h1 h2)
   have hsame:=q7W (Γ:=Γ) ⟨[],some 0,some true⟩ ⟨[],some 0,some true⟩ (by simp)
   rw[hb1,hsm]
   rw[hb1]at heq
   simp[q2c,q3a,hlt,wq]
   refine A4 hS2 rfl ?_
   rcases hok2 with⟨b2,hc1,hc2,hc3,hc4⟩|⟨hc1,hc2⟩|⟨hc1,hc2⟩
   ·rw[hc1]at heq
    have he2:=heq rfl rfl
    simp at he2
   ·rw[hc1]
    simp[q2c,q3a]
    refine A4 hsame rfl ?_
    simp[q7U]
    refine A4 hlv rfl ?_
    simp[Dc]
   ·have hlt2:q<↑N-1:=by omega
    rw[hc1]
    simp[q2c,q3a,ws,wm,hlt2,hv0']
    refine A4 hlv rfl ?_
    simp[Dc]
  ·exfalso;omega
theorem q6K (hG:GOk Γ) (hP:Ij Γ) (vars:Int) (hv:0<=vars/\vars<=255) (l:Sl Int) (hb:∀ b∈l.l,Byt b) (lim:Int) (hl:0<=lim/\lim<=255) :
  An Tryz.prog Γ 11 [tK vars,tV l,tK lim] (tB true) :=
 q8G (Ye hG hP) vars lim hv.1 hv.2 hl.1 hl.2 l fun b h=>by have:=hb b h;unfold Byt at this;omega
end Go.Lg
namespace Go.Lg
open Go
section
variable {P:Program} {Γ:Tables} {Q:AX->St->Prop} {s:St}
/- probecard/probecardlaw28.CnfsKnown (function 4) -/
abbrev U4:IC:=.gh (.seq (.seq (.reg [om 20 4,od 21 (.bin .lss (tm 20) (ki 40))] [kp [1,2,3,4,21] [28]]) (.cond (tm 21) .skip (.exit 2))) (.seq (.block 3 (.seq (.reg [om 24 3,om 25 1,od 26 (.conv .u8 (tm 25)),od 27 (.bsl true 5 1 [(tm
 26)]),od 28 (.app false 5 1 (tm 24) (tm 27)),om 3 28] [kp [1,2,3,4] [28]]) (.reg [om 29 1,od 30 (.bin .mul (tm 29) (ki 31)),om 31 4,od 32 (.bin .mul (ki 7) (tm 31)),od 33 (.bin .add (tm 30) (tm 32)),od 34 (.bin .add (tm
 33) (ki 11)),od 35 (.bin .rem (tm 34) (ki 100003)),om 1 35] [kp [1,2,3,4] [28]]))) (.reg [om 22 4,od 23 (.bin .add (tm 22) (ki 1)),om 4 23] [kp [1,2,3,4] [28]]))) [kp [1,2,3,4] [28]]
def I3:IC:=.loop U4
abbrev U5:IC:=.gh (.seq (.seq (.reg [om 16 2,od 17 (.bin .lss (tm 16) (ki 30))] [kp [1,2,17] []]) (.cond (tm 17) .skip (.exit 0))) (.seq (.block 1 (.seq (.reg [od 3 (.mv kN)] [.nl 3 28 5 1,kp [1,2,3] [28]]) (.seq (.seq (.reg [od 4 (.mv (ki
 0))] [kp [1,2,3,4] [28]]) (.gh (.block 2 I3) [.frz 28])) (.seq (.reg [om 36 2,od 37 (.conv .u8 (tm 36)),om 38 3,om 39 2,od 40 (.conv .u8 (tm 39)),od 41 (.call 11 [(tm 37),(tm 38),(tm 40)]),od 42 (.un .not
 (tm 41)),om 43 42,oF 44 (.mv (tm 2)) 43,oF 45 (.conv .u8 (tm 44)) 43,oF 46 (.mv (tm 3)) 43,oF 47 (.call 3 [(tm 45),(tm 46),(.const (sV []))]) 43,oF 48 (.un .not (tm 47)) 43,od 49 (.pick (tm 43) kT (tm 48))] [kp [1,2,49]
 []]) (.cond (tm 49) (.seq (.reg [od 0 (.mv kF)] [kp [0] []]) .ret) .skip))))) (.reg [om 18 2,od 19 (.bin .add (tm 18) (ki 1)),om 2 19] [kp [1,2] []]))) [kp [1,2] []]
def I4:IC:=.loop U5
abbrev U6:IC:=.gh (.seq (.reg [od 53 (.bin .lss (tm 52) (tm 51))] [kp [50,51,52,53] []]) (.seq (.cond (tm 53) .skip (.exit 4)) (.seq (.block 5 (.seq (.reg [od 54 (ia 1 50 52),od 55 (ld 1 54),om 6 55] [kp [6,50,51,52] []]) (.seq (.reg [om
 56 6,od 57 (.call 3 [(ku 0),kN,(tm 56)]),od 58 (.un .not (tm 57))] [kp [50,51,52,58] []]) (.cond (tm 58) (.seq (.reg [od 0 (.mv kF)] [kp [0] []]) .ret) .skip)))) (.reg [od 59 (.bin .add (tm 52) (ki 1)),om 52 59] [kp [50,
 51,52] []])))) [kp [50,51,52] []]
def I5:IC:=.loop U6
abbrev q1z:IC:=(.reg [od 0 (.mv kF)] [kp [] []])
abbrev q20:IC:=(.reg [od 1 (.mv (ki 1))] [kp [1] []])
abbrev q21:IC:=(.seq (.reg [od 2 (.mv (ki 0))] [kp [1,2] []]) (.block 0 I4))
abbrev q22:IC:=(.seq (.reg [od 50 (.bsl true 9 1 [(.const (sV [])),(.const (sV [112,32,99,110,102,32,48,32,48,10])),(.const (sV [112,32,99,110,102,32,48,32,48])),(.const (sV [112,32,99,110,102,32,49,32,49,10,49,32,
 48,10])),(.const (sV [112,32,99,110,102,32,49,32,49,10,49,32,48])),(.const (sV [112,32,99,110,102,32,49,32,49,10,50,32,48,10])),(.const (sV [112,32,99,110,102,32,49,32,49,10,49,32,48,32,
 48,10])),(.const (sV [112,32,99,110,102,32,49,32,49,10,49,10])),(.const (sV [112,32,99,110,102,32,49,32,49,10,48,10])),(.const (sV [112,32,99,110,102,32,49,32,49,10,10])),(.const (sV [112,32,
 99,110,102,32,49,32,50,10,49,32,48,10])),(.const (sV [112,32,99,110,102,32,49,32,48,10,49,32,48,10])),(.const (sV [112,32,99,110,102,32,48,49,32,48,10])),(.const (sV [112,32,99,110,102,32,
 43,49,32,48,10])),(.const (sV [112,32,99,110,102,32,49,32,49,10,45,48,32,48,10])),(.const (sV [112,32,99,110,102,32,49,32,49,10,49,32,32,48,10])),(.const (sV [112,32,99,110,102,32,49,32,
 49,10,49,32,48,32,10])),(.const (sV [112,32,32,99,110,102,32,49,32,48,10])),(.const (sV [112,32,99,110,102,32,49,10])),(.const (sV [112,32,99,110,102,32,49,32,48,32,48,10])),(.const (sV [112,
 32,99,110,102,32,45,49,32,48,10])),(.const (sV [99,32,120,10,112,32,99,110,102,32,48,32,48,10])),(.const (sV [112,32,99,110,102,32,54,53,53,51,54,32,48,10])),(.const (sV [112,32,99,110,102,
 32,54,53,53,51,55,32,48,10])),(.const (sV [112,32,99,110,102,32,57,57,57,57,57,57,57,57,57,57,57,57,57,57,57,57,57,57,57,57,32,48,10])),(.const (sV [112,32,99,110,102,32,49,32,49,10,
 45,49,32,48,10]))]),od 51 (le 0 50),od 52 (.mv (ki 0))] [kp [50,51,52] []]) (.block 4 I5))
abbrev U7:IC:=(.reg [od 61 (.mk 5 1 [(.int .u8 0)] (ki 1048577) (ki 1048577)),od 62 (.bytesStr (tm 61)),od 63 (.call 8 [(tm 62)]),om 60 63,od 64 (ex 60 0),od 65 (ex 60 1),od 7 (.alloc false [(.int .i64 0),(.slice none 0 0)]),on (.store 2
 (tm 7) (tm 64)),om 8 65] [kp [8] []])
abbrev U8:IC:=(.reg [od 66 (.mk 3 1 [(.int .i64 0)] (ki 4097) (ki 4097)),od 67 (.bslA 37 1 [(tm 66)]),od 68 (.build [(1,(ki 1)),(1,(tm 67))]),od 9 (.alloc false [(.int .i64 0),(.slice none 0 0)]),on (.store 2 (tm 9) (tm 68))] [kp [8,9]
 [9,66,67]])
abbrev U9:IC:=(.reg [od 69 (.mk 37 1 [(.slice none 0 0)] (ki 262145) (ki 262145)),od 70 (.build [(1,(ki 0)),(1,(tm 69))]),od 10 (.alloc false [(.int .i64 0),(.slice none 0 0)]),on (.store 2 (tm 10) (tm 70))] [kp [8,9,10] [9,10,66,67,
 69]])
abbrev I6:IC:=(.reg [od 71 (.bsl true 3 1 [(.const (.int .i64 (-9223372036854775808)))]),od 72 (.bsl true 37 1 [(tm 71)]),od 73 (.build [(1,(ki 0)),(1,(tm 72))]),od 11 (.alloc false [(.int .i64 0),(.slice none 0 0)]),on (.store 2 (tm 11)
 (tm 73))] [kp [8,9,10,11] [9,10,11,66,67,69]])
abbrev I7:IC:=(.reg [od 75 (.call 8 [(.const (sV [112,32,99,110,102,32,54,53,53,51,54,32,48,10]))]),om 74 75,od 76 (ex 74 0),od 77 (ex 74 1),od 12 (.alloc false [(.int .i64 0),(.slice none 0 0)]),on (.store 2 (tm 12) (tm 76)),
 om 13 77] [kp [8,9,10,11,12] [9,10,11,12,66,67,69]])
abbrev I8:IC:=(.reg [od 79 (.call 8 [(.const (sV [112,32,99,110,102,32,54,53,53,51,55,32,48,10]))]),om 78 79,od 80 (ex 78 0),od 81 (ex 78 1),od 14 (.alloc false [(.int .i64 0),(.slice none 0 0)]),on (.store 2 (tm 14) (tm 80)),
 om 15 81] [kp [8,9,10,11,12,15] [9,10,11,12,66,67,69]])
abbrev Gv:IC:=(.reg [om 82 8,od 83 (.bin .eql (tm 82) (ki 3)),om 84 83,oT 85 (lG 2 9) 84,oT 86 (.call 10 [(tm 85)]) 84,oT 87 (.bin .eql (tm 86) (ki 3)) 84,od 88 (.pick (tm 84) (tm 87) kF),om 89 88,oT 90 (lG 2 10) 89,oT 91 (.call 10 [(tm
 90)]) 89,oT 92 (.bin .eql (tm 91) (ki 3)) 89,od 93 (.pick (tm 89) (tm 92) kF),om 94 93,oT 95 (lG 2 11) 94,oT 96 (.call 10 [(tm 95)]) 94,oT 97 (.bin .eql (tm 96) (ki 1)) 94,od 98 (.pick (tm 94) (tm 97) kF),om 99 98,oT 100
 (fa 0 12) 99,oT 101 (ld 1 100) 99,oT 102 (.bin .eql (tm 101) (ki 65536)) 99,od 103 (.pick (tm 99) (tm 102) kF),om 104 103,oT 105 (.mv (tm 15)) 104,oT 106 (.bin .eql (tm 105) (ki 4)) 104,od 107 (.pick (tm 104) (tm 106) kF),
 om 108 107,oT 109 (.call 5 []) 108,od 110 (.pick (tm 108) (tm 109) kF),om 0 110] [kp [0] []])
abbrev Ua:IC:=(.seq q1z (.seq q20 (.seq q21 (.seq q22 (.seq U7 (.seq U8 (.seq U9 (.seq I6 (.seq I7 (.seq
 I8 (.seq Gv .ret)))))))))))
theorem Oa (h:∀ K:St->Prop,K=run P Γ I3 Q->run P Γ U4 (B1 K Q) s):run P Γ I3 Q s:=Au h
theorem Ob (h:∀ K:St->Prop,K=run P Γ I4 Q->run P Γ U5 (B1 K Q) s):run P Γ I4 Q s:=Au h
theorem Oc (h:∀ K:St->Prop,K=run P Γ I5 Q->run P Γ U6 (B1 K Q) s):run P Γ I5 Q s:=Au h
def M9:List RV:=[.tmp 0]
end
end Go.Lg
namespace Go.Lg
open Go Go.Proofs
theorem Rb:Ax Tryz.prog 4 Ua 111 0 M9=true:=by kernel_rfl
end Go.Lg
namespace Go.Lg
open Go Go.Proofs
variable {Γ:Tables}
theorem qHH {Q:AX->St->Prop} (n:Int) (h0:∀ (L:List Int) (kk:Int),L.length=40->(∀ b∈L,Byt b)->0<=kk->kk<100003->Q (.exit 2) ⟨[(1,.t (tI kk)),(2,.t (tI n)),(3,.ls 28 0 40 none),(4,.t (tI 40)),(21,.t (tB false))],[(28,.sl 5 1 (Da L))]⟩) :
  ∀ (k i:Nat) (L:List Int) (kk:Int),k+i=40->L.length=i->(∀ b∈L,Byt b)->0<=kk->kk<100003 ->
  run Tryz.prog Γ I3 Q ⟨[(1,.t (tI kk)),(2,.t (tI n)),(3,.ls 28 0 i none),(4,.t (tI i))],[(28,.sl 5 1 (Da L))]⟩
 | 0,i,L,kk,hk,hL,hb,h1,h2=>by
  refine Oa fun K hK=>?_
  have hi:i=40:=by omega
  subst hi
  have:=h0 L kk hL hb h1 h2
  simp
  simpa using this
 | k+1,i,L,kk,hk,hL,hb,h1,h2=>by
  refine Oa fun K hK=>?_
  have hi:(i:Int)<40:=by omega
  have hu0:0<=IntKind.u8.wrap kk/\IntKind.u8.wrap kk<=255:=by
   simp[IntKind.wrap,IntKind.signed,IntKind.bits];omega
  have hm:0<=(kk*31+7*(i:Int)+11).tmod 100003/\(kk*31+7*(i:Int)+11).tmod 100003<100003:=by
   rw[Int.tmod_eq_emod_of_nonneg (by omega)]
   exact⟨Int.emod_nonneg _ (by decide),Int.emod_lt_of_pos _ (by decide)⟩
  have w1:IntKind.i64.wrap (kk*31)=kk*31:=by rw[A5]<;>omega
  have w2:IntKind.i64.wrap (7*(i:Int))=7*(i:Int):=by rw[A5]<;>omega
  have w3:IntKind.i64.wrap (kk*31+7*(i:Int))=kk*31+7*(i:Int):=by rw[A5]<;>omega
  have w4:IntKind.i64.wrap (kk*31+7*(i:Int)+11)=kk*31+7*(i:Int)+11:=by rw[A5]<;>omega
  have w5:IntKind.i64.wrap ((i:Int)+1)=((i+1:Nat):Int):=by rw[A5]<;>omega
  have hlen:(Da L).length=i:=by rw[<- hL];exact A3
  generalize hu:IntKind.u8.wrap kk=u at *
  generalize hmm:(kk*31+7*(i:Int)+11).tmod 100003=m at *
  have ih:=qHH n h0 k (i+1) (L++[u]) m (by omega) (by simp[hL]) (fun b h=>by
   rcases List.mem_append.1 h with h|h
   ·exact hb b h
   ·simp at h;subst h;exact hu0) hm.1 hm.2
  have hw1:Gk 1 [[tK u]]:=fun e he=>by simp at he;subst he;rfl
  have htk:List.take i (Da L)++[[tK u]]=Da (L++[u]):=by
   rw[<- hlen,List.take_length];exact Eu
  have hle:i<=2147483647:=by omega
  simp[hi,hu,hmm,w1,w2,w3,w4,w5,hlen,hw1,htk,hle,Aa]
  rw[hK]
  simpa using ih
theorem qHI {Q:AX->St->Prop} (hG:GOk Γ) (hP:Ij Γ) (hE:Qv Γ) (h0:∀ kk:Int,Q (.exit 0) ⟨[(1,.t (tI kk)),(2,.t (tI 30)),(17,.t (tB false))],[]⟩) :
  ∀ (k n:Nat) (kk:Int),k+n=30->0<=kk->kk<100003->run Tryz.prog Γ I4 Q ⟨[(1,.t (tI kk)),(2,.t (tI n))],[]⟩
 | 0,n,kk,hk,h1,h2=>by
  refine Ob fun K hK=>?_
  have hi:n=30:=by omega
  subst hi
  have:=h0 kk
  simp
  simpa using this
 | k+1,n,kk,hk,h1,h2=>by
  refine Ob fun K hK=>?_
  have hi:(n:Int)<30:=by omega
  have ih:=qHI hG hP hE h0 k (n+1)
  have w5:IntKind.i64.wrap ((n:Int)+1)=((n+1:Nat):Int):=by rw[A5]<;>omega
  have w6:IntKind.u8.wrap (n:Int)=n:=by rw[q0e]<;>omega
  have hI:=fun Q h0=>qHH (Γ:=Γ) (Q:=Q) n h0 40 0 [] kk (by omega) rfl (fun b h=>by cases h) h1 h2
  simp[hi]
  refine hI _ ?_
  intro L kk' hL hb h1' h2'
  have hs:=q6K hG hP n ⟨by omega,by omega⟩ ⟨L,none,none⟩ hb n ⟨by omega,by omega⟩
  have ht:=q1I hG hP hE n ⟨by omega,by omega⟩ ⟨L,none,none⟩ hb ⟨#[]⟩
  have hlen:(Da L).length=40:=by rw[<- hL];exact A3
  have htk:List.take 40 (Da L)=Da L:=by rw[<- hlen,List.take_length]
  simp only[tV]at hs ht
  simp[St.freeze,Aj.closed,Ce,frz1,frz0,Hl,del,Aq,htk,w6]
  refine As hs rfl ?_
  simp[w6,sV]
  refine As ht rfl ?_
  simp[w5]
  rw[hK]
  exact ih kk' (by omega) h1' h2'
theorem qHJ {Q:AX->St->Prop} (hG:GOk Γ) (hP:Ij Γ) (hE:Qv Γ) (L:List (List UInt8)) (hL:L.length<=1000) (cap:Option Nat) (nl:Option Bool) (h0:Q (.exit 4) ⟨[(50,.t (.sl (Ak Kx L) cap nl)),(51,.t (tI L.length)),(52,.t (tI L.length)),(53,.t (tB false))],[]⟩) :
  ∀ (k i:Nat),k+i=L.length->run Tryz.prog Γ I5 Q ⟨[(50,.t (.sl (Ak Kx L) cap nl)),(51,.t (tI L.length)),(52,.t (tI i))],[]⟩
 | 0,i,hk=>by
  refine Oc fun K hK=>?_
  have hi:i=L.length:=by omega
  subst hi
  simp
  simpa using h0
 | k+1,i,hk=>by
  refine Oc fun K hK=>?_
  have hi:i<L.length:=by omega
  have hc:(i:Int)<L.length:=by omega
  have ih:=qHJ hG hP hE L hL cap nl h0 k (i+1) (by omega)
  have w5:IntKind.i64.wrap ((i:Int)+1)=((i+1:Nat):Int):=by rw[A5]<;>omega
  have hlen:(Ak Kx L).length=L.length:=A3
  have g0:(Ak Kx L)[i]?.getD []=[T.v (.string ⟨(L[i]).toArray⟩)]:=by simp[Ak,hi,Kx]
  have g0':∀ h:i<(Ak Kx L).length,(Ak Kx L)[i]=[T.v (.string ⟨(L[i]).toArray⟩)]:=fun h=>by simp[Ak,Kx]
  have ht:=q1I hG hP hE 0 ⟨by omega,by omega⟩ ⟨[],some 0,some true⟩ (fun b h=>by cases h) ⟨(L[i]).toArray⟩
  simp only[tV]at ht
  generalize L[i]=w at *
  simp[hc,hi,hlen,g0,g0',Aa]
  refine As ht rfl ?_
  simp[w5]
  rw[hK]
  simpa using ih
theorem q9p (s:ByteArray) (h:1048576<s.size):An Tryz.prog Γ 8 [.v (.string s)] (.tup [.agg [tI 0,.sl [] (some 0) (some true)],tI 3]):=by
 refine E7 Tq rfl ?_
 have h2:(1048576:Int)<s.size:=by omega
 simp[Pz,h2,Ci]
theorem q9q (n:Nat):Lq (List.replicate n [tK 0])=some (List.replicate n 0):=by
 induction n with
 | zero=>rfl
 | succ n ih =>
  rw[List.replicate_succ,List.replicate_succ]
  simp only[Lq,ih,Option.map_some]
  rfl
def knL:List (List UInt8):=[[],[112,32,99,110,102,32,48,32,48,10],[112,32,99,110,102,32,48,32,48],[112,32,99,110,102,32,49,32,49,10,49,32,48,10],[112,32,99,110,102,32,49,32,49,10,49,32,48],
 [112,32,99,110,102,32,49,32,49,10,50,32,48,10],[112,32,99,110,102,32,49,32,49,10,49,32,48,32,48,10],[112,32,99,110,102,32,49,32,49,10,49,10],[112,32,99,110,102,32,49,32,49,10,48,10],
 [112,32,99,110,102,32,49,32,49,10,10],[112,32,99,110,102,32,49,32,50,10,49,32,48,10],[112,32,99,110,102,32,49,32,48,10,49,32,48,10],[112,32,99,110,102,32,48,49,32,48,10],
 [112,32,99,110,102,32,43,49,32,48,10],[112,32,99,110,102,32,49,32,49,10,45,48,32,48,10],[112,32,99,110,102,32,49,32,49,10,49,32,32,48,10],[112,32,99,110,102,32,49,32,49,10,49,32,48,32,10],
 [112,32,32,99,110,102,32,49,32,48,10],[112,32,99,110,102,32,49,10],[112,32,99,110,102,32,49,32,48,32,48,10],[112,32,99,110,102,32,45,49,32,48,10],[99,32,120,10,112,32,99,110,102,32,48,32,48,10],
 [112,32,99,110,102,32,54,53,53,51,54,32,48,10],[112,32,99,110,102,32,54,53,53,51,55,32,48,10],[112,32,99,110,102,32,57,57,57,57,57,57,57,57,57,57,57,57,57,57,57,57,57,57,57,57,32,48,10],[112,32,99,110,102,32,49,32,49,10,45,49,32,48,10]]
theorem qMZ:Tu [112,32,99,110,102,32,54,53,53,51,54,32,48,10]=some (65536,[]):=by decide +kernel
theorem qMa:Tu [112,32,99,110,102,32,54,53,53,51,55,32,48,10]=none:=by decide +kernel
theorem qMb (l:List Int) (h:l.length=4097) (c:Option Nat) (b:Option Bool) (c':Option Nat) (b':Option Bool):Jz ⟨1,⟨[⟨l,c,b⟩],c',b'⟩⟩=3:=by
 unfold Jz Cf.L
 rw[if_neg (show ¬ (1:Int)<0 by decide),if_neg (by simp)]
 show q01 1 [l]=3
 simp only[q01,h]
 rw[if_pos (by decide)]
theorem qMc (l:List (Sl Int)) (h:l.length=262145) (c:Option Nat) (b:Option Bool):Jz ⟨0,⟨l,c,b⟩⟩=3:=by
 unfold Jz
 rw[if_neg (show ¬ (0:Int)<0 by decide),if_pos (by right;show 262144<l.length;omega)]
theorem qMd (c:Option Nat) (b:Option Bool) (c':Option Nat) (b':Option Bool):Jz ⟨0,⟨[⟨[-9223372036854775808],c,b⟩],c',b'⟩⟩=1:=by
 unfold Jz Cf.L
 rw[if_neg (show ¬ (0:Int)<0 by decide),if_neg (by simp)]
 show q01 0 [[-9223372036854775808]]=1
 decide
theorem qMe {Q:AX->St->Prop} (N:Int) (hN:N=1048577) (A B C D:AV) (h:Q .normal ⟨[(8,.t (tI 3))],[]⟩):run Tryz.prog Γ (.reg [od 61 (.mk 5 1 [(.int .u8 0)] (ki N) (ki N)),od 62 (.bytesStr (tm 61)),od 63 (.call 8 [(tm 62)]),om 60 63,od 64 (ex 60 0),od 65 (ex 60 1),od 7 (.alloc false [(.int .i64 0),(.slice none 0 0)]),on (.store 2 (tm 7) (tm 64)),om 8 65] [kp [8] []]) Q ⟨[(50,A),(51,B),(52,C),(53,D)],[]⟩:=by
 have n1:0<=N:=by omega
 have n2:N<=2147483648:=by omega
 have hb1:=q9q N.toNat
 have hx1:(ByteArray.mk (List.replicate N.toNat (0:UInt8)).toArray).size=N.toNat:=by rw[qG4,List.length_replicate]
 have hp1:=q9p (Γ:=Γ) ⟨(List.replicate N.toNat 0).toArray⟩ (by rw[hx1];omega)
 clear hN
 simp[n1,n2,hb1]
 refine As hp1 rfl ?_
 simp
 exact h
def qJJ (K:Int):IC:=.reg [od 66 (.mk 3 1 [(.int .i64 0)] (ki K) (ki K)),od 67 (.bslA 37 1 [(tm 66)]),od 68 (.build [(1,(ki 1)),(1,(tm 67))]),od 9 (.alloc false [(.int .i64 0),(.slice none 0 0)]),on (.store 2 (tm 9) (tm 68))] [kp [8,9] [9,66,67]]
def qJK (M:Int):IC:=.reg [od 69 (.mk 37 1 [(.slice none 0 0)] (ki M) (ki M)),od 70 (.build [(1,(ki 0)),(1,(tm 69))]),od 10 (.alloc false [(.int .i64 0),(.slice none 0 0)]),on (.store 2 (tm 10) (tm 70))] [kp [8,9,10] [9,10,66,67,69]]
theorem knR (hG:GOk Γ) (hP:Ij Γ) (hE:Qv Γ) (K M:Int) (hK:K=4097) (hM:M=262145):run Tryz.prog Γ (.seq (qJJ K) (.seq (qJK M) (.seq I6 (.seq I7 (.seq I8 (.seq Gv .ret)))))) (ret false M9 fun r=>r=tB true) ⟨[(8,.t (tI 3))],[]⟩:=by
 have hlv:=Ye hG hP
 have k1:0<=K:=by omega
 have k2:K<=2147483648:=by omega
 have m1:0<=M:=by omega
 have m2:M<=2147483648:=by omega
 have hc1:=Dx (Γ:=Γ) ⟨1,⟨[⟨List.replicate K.toNat 0,none,none⟩],none,none⟩⟩ ⟨(by decide:(-9223372036854775808:Int)<=1),(by decide:(1:Int)<=9223372036854775807)⟩
 rw[qMb _ (by rw[List.length_replicate];omega)]at hc1
 have hc2:=Dx (Γ:=Γ) ⟨0,⟨List.replicate M.toNat ⟨[],some 0,some true⟩,none,none⟩⟩ ⟨(by decide:(-9223372036854775808:Int)<=0),(by decide:(0:Int)<=9223372036854775807)⟩
 rw[qMc _ (by rw[List.length_replicate];omega)]at hc2
 have hc3:=Dx (Γ:=Γ) ⟨0,⟨[⟨[-9223372036854775808],some 1,some false⟩],some 1,some false⟩⟩ (by unfold Vv;decide)
 rw[qMd]at hc3
 have hp1:=q6C hP hE ⟨#[112,32,99,110,102,32,54,53,53,51,54,32,48,10]⟩ (by decide) 65536 [] qMZ
 have hp2:=q7f hP hE ⟨#[112,32,99,110,102,32,54,53,53,51,55,32,48,10]⟩ (by decide) qMa
 have e1:∀ n:Nat,Ak tI (List.replicate n (0:Int))=List.replicate n [tI 0]:=fun n=>by simp[Ak]
 have e2:∀ n:Nat,Ak Bh (List.replicate n (⟨[],some 0,some true⟩:Sl Int))=List.replicate n [T.sl [] (some 0) (some true)]:=fun n=>by simp[Ak,Bh]
 simp only[He,B5,e2]at hc1 hc2 hc3 hp1
 clear hK hM
 simp[qJJ,qJK,k1,k2,m1,m2,sV]
 refine As hp1 rfl ?_
 simp
 refine As hp2 rfl ?_
 simp[q6D]
 refine A4 hc1 (by simp[Aq,Ac,Ak,Bh]) ?_
 simp
 refine A4 hc2 (by simp[Aq,Ac]) ?_
 simp
 refine A4 hc3 (by simp[Aq,Ac,Ak,Bh]) ?_
 simp
 refine A4 hlv rfl ?_
 simp[M9]
theorem q4f (hG:GOk Γ) (hP:Ij Γ) (hE:Qv Γ):An Tryz.prog Γ 4 [] (tB true):=by
 refine E7 Rb rfl ?_
 have h3:=fun Q h0=>qHI (Γ:=Γ) (Q:=Q) hG hP hE h0 30 0 1 rfl (by decide) (by decide)
 have h5:=fun Q h0=>qHJ (Γ:=Γ) (Q:=Q) hG hP hE knL (by decide) (some 26) (some false) h0 26 0 rfl
 have hR:=knR hG hP hE 4097 262145 rfl rfl
 unfold Ua
 generalize hX:(IC.seq U8 (.seq U9 (.seq I6 (.seq I7 (.seq I8 (.seq Gv .ret))))))=X
 have hX2:X=IC.seq (qJJ 4097) (.seq (qJK 262145) (.seq I6 (.seq I7 (.seq I8 (.seq Gv .ret))))):=hX.symm
 rw[<- hX2]at hR
 clear hX hX2
 generalize hY:U7=Y
 simp
 refine h3 _ ?_
 intro kk
 simp[sV]
 refine h5 _ ?_
 simp
 rw[<- hY]
 refine qMe (Γ:=Γ) 1048577 rfl _ _ _ _ ?_
 exact hR
end Go.Lg
