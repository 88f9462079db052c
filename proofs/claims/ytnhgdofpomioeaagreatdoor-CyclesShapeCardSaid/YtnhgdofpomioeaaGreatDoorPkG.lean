/- The abstract code of some functions, as the program gen.py prints it. Conditions: none. -/
import Derived.Test.YtnhgdofpomioeaaGreatDoorPkC
import Derived.Test.YtnhgdofpomioeaaGreatDoorProg
import Derived.KernelRfl
import Derived.Test.YtnhgdofpomioeaaGreatDoorPkF
set_option linter.unusedVariables false
namespace Go.Lg
open Go
section
variable {P:Program} {Γ:Tables} {Q:AX→St→Prop} {s:St}
/- probecard/probecardlaw10.CyclesShape (function 3) -/
abbrev Uw:IC:=.gh (.seq (.seq (.reg [om 122 18,od 123 (fa 0 5),od 124 (ld 1 123),om 125 14,od 126 (ia 4 124 125),od 127 (fa 1 126),od 128 (ld 1 127),od 129 (le 0 128),od 130 (.bin .lss (tm 122) (tm 129)),om 131 130,oT 132 (.mv (tm 15))
 131,oT 133 (.bin .neq (tm 132) (ku 0)) 131,od 134 (.pick (tm 131) (tm 133) kF)] [kp [5,6,7,8,10,11,12,13,14,15,16,17,18,134] [5,8,11,152]]) (.cond (tm 134) .skip (.exit 4))) (.seq (.block 5 (.reg [om 137 17,om
 138 16,om 139 7,od 140 (.bin .mul (tm 138) (tm 139)),od 141 (fa 0 5),od 142 (ld 1 141),om 143 14,od 144 (ia 4 142 143),od 145 (fa 1 144),od 146 (ld 1 145),om 147 18,od 148 (ia 1 146 147),od 149 (ld 1 148),od 150 (.bin
 .add (tm 140) (tm 149)),od 151 (.bsl true 3 1 [(tm 150)]),od 152 (.app false 3 1 (tm 137) (tm 151)),om 17 152] [kp [5,6,7,8,10,11,12,13,14,15,16,17,18] [5,8,11,152]])) (.reg [om 135 18,od 136 (.bin .add (tm 135)
 (ki 1)),om 18 136] [kp [5,6,7,8,10,11,12,13,14,15,16,17,18] [5,8,11,152]]))) [kp [5,6,7,8,10,11,12,13,14,15,16,17,18] [5,8,11,152]]
def Ep:IC:=.loop Uw
abbrev Ux:IC:=.gh (.seq (.seq (.reg [om 104 14,om 105 7,od 106 (.bin .lss (tm 104) (tm 105))] [kp [5,6,7,8,10,11,12,13,14,106] [5,8,11]]) (.cond (tm 106) .skip (.exit 2))) (.seq (.block 3 (.seq (.reg [od 109 (fa 0 5),od 110 (ld 1
 109),om 111 14,od 112 (ia 4 110 111),od 113 (fa 0 112),od 114 (ld 1 113),om 15 114] [kp [5,6,7,8,10,11,12,13,14,15] [5,8,11]]) (.seq (.reg [om 115 13,om 16 115] [kp [5,6,7,8,10,11,12,13,14,15,16] [5,8,
 11]]) (.seq (.seq (.reg [om 116 15,od 117 (.bin .eql (tm 116) (ku 14))] [kp [5,6,7,8,10,11,12,13,14,15,16,117] [5,8,11]]) (.cond (tm 117) (.seq (.reg [od 15 (.mv (ku 0))] [kp [5,6,7,8,10,11,12,13,14,15,16]
 [5,8,11]]) (.seq (.reg [om 118 13,od 119 (.bin .gtr (tm 118) (ki 0))] [kp [5,6,7,8,10,11,12,13,14,15,16,119] [5,8,11]]) (.cond (tm 119) (.seq (.reg [od 15 (.mv (ku 3))] [kp [5,6,7,8,10,11,12,13,14,15] [5,
 8,11]]) (.reg [om 120 13,od 121 (.bin .sub (tm 120) (ki 1)),om 16 121] [kp [5,6,7,8,10,11,12,13,14,15,16] [5,8,11]])) .skip))) .skip)) (.seq (.reg [od 17 (.mv kN)] [.nl 17 152 3 1,kp [5,6,7,8,10,11,12,13,14,
 15,16,17] [5,8,11,152]]) (.seq (.seq (.reg [od 18 (.mv (ki 0))] [kp [5,6,7,8,10,11,12,13,14,15,16,17,18] [5,8,11,152]]) (.gh (.block 4 Ep) [.frz 152])) (.seq (.reg [od 153 (fa 0 11),od 154 (ld
 1 153),om 155 13,om 156 7,od 157 (.bin .mul (tm 155) (tm 156)),om 158 14,od 159 (.bin .add (tm 157) (tm 158)),od 160 (ia 4 154 159),od 161 (lG 4 160),od 19 (.alloc false [(.int .u8 0),(.slice none 0 0),(.int .i64 0),
 (.int .i64 0)]),on (.store 4 (tm 19) (tm 161))] [kp [5,6,7,8,10,11,12,13,14,15,17,19] [5,8,11,19,152]]) (.seq (.reg [od 162 (fa 0 19),od 163 (ld 1 162),om 164 15,od 165 (.bin .neq (tm 163) (tm 164)),om 166 165,
 oF 167 (fa 1 19) 166,oF 168 (ld 1 167) 166,oF 169 (.mv (tm 17)) 166,oF 170 (.call 20 [(tm 168),(tm 169)]) 166,oF 171 (.bin .neq (tm 170) (ki 0)) 166,od 172 (.pick (tm 166) kT (tm 171)),om 173 172,oF 174 (fa 1 11) 173,oF
 175 (ld 1 174) 173,oF 176 (.mv (tm 13)) 173,oF 177 (.mv (tm 7)) 173,oF 178 (.bin .mul (tm 176) (tm 177)) 173,oF 179 (.mv (tm 14)) 173,oF 180 (.bin .add (tm 178) (tm 179)) 173,oF 181 (ia 1 175 180) 173,oF 182 (ld 1 181) 173,
 oF 183 (.mv (tm 13)) 173,oF 184 (.call 21 [(tm 183)]) 173,oF 185 (.bin .add (tm 184) (.const (sV [46]))) 173,oF 186 (.mv (tm 14)) 173,oF 187 (.call 21 [(tm 186)]) 173,oF 188 (.bin .add (tm 185) (tm 187)) 173,oF 189 (.bin .neq
 (tm 182) (tm 188)) 173,od 190 (.pick (tm 173) kT (tm 189)),om 191 190,oF 192 (fa 4 8) 191,oF 193 (ld 1 192) 191,oF 194 (.mv (tm 13)) 191,oF 195 (ia 1 193 194) 191,oF 196 (ld 1 195) 191,oF 197 (le 0 196) 191,oF 198 (.mv (tm
 7)) 191,oF 199 (.bin .neq (tm 197) (tm 198)) 191,od 200 (.pick (tm 191) kT (tm 199)),om 201 200,oF 202 (fa 4 8) 201,oF 203 (ld 1 202) 201,oF 204 (.mv (tm 13)) 201,oF 205 (ia 1 203 204) 201,oF 206 (ld 1 205) 201,oF 207 (.mv
 (tm 14)) 201,oF 208 (ia 1 206 207) 201,oF 209 (ld 1 208) 201,oF 210 (.mv (tm 13)) 201,oF 211 (.mv (tm 7)) 201,oF 212 (.bin .mul (tm 210) (tm 211)) 201,oF 213 (.mv (tm 14)) 201,oF 214 (.bin .add (tm 212) (tm 213)) 201,oF 215
 (.bin .neq (tm 209) (tm 214)) 201,od 216 (.pick (tm 201) kT (tm 215))] [kp [5,6,7,8,10,11,12,13,14,216] [5,8,11]]) (.cond (tm 216) (.seq (.reg [od 4 (.mv kF)] [kp [4] []]) .ret) .skip))))))))) (.reg [om 107 14,od 108
 (.bin .add (tm 107) (ki 1)),om 14 108] [kp [5,6,7,8,10,11,12,13,14] [5,8,11]]))) [kp [5,6,7,8,10,11,12,13,14] [5,8,11]]
def H4:IC:=.loop Ux
abbrev Uy:IC:=.gh (.seq (.seq (.reg [om 217 20,od 218 (fa 3 5),od 219 (ld 1 218),od 220 (le 0 219),od 221 (.bin .lss (tm 217) (tm 220))] [kp [5,6,7,8,10,11,12,13,20,221] [5,8,11]]) (.cond (tm 221) .skip (.exit 6))) (.seq (.block 7
 (.seq (.seq (.reg [od 224 (fa 3 11),od 225 (ld 1 224),om 226 12,od 227 (ia 1 225 226),od 228 (ld 1 227),om 229 13,om 230 7,od 231 (.bin .mul (tm 229) (tm 230)),od 232 (fa 3 5),od 233 (ld 1 232),om 234 20,od 235 (ia 1 233
 234),od 236 (ld 1 235),od 237 (.bin .add (tm 231) (tm 236)),od 238 (.bin .neq (tm 228) (tm 237))] [kp [5,6,7,8,10,11,12,13,20,238] [5,8,11]]) (.cond (tm 238) (.seq (.reg [od 4 (.mv kF)] [kp [4] []]) .ret) .skip))
 (.reg [om 239 12,od 240 (.bin .add (tm 239) (ki 1)),om 12 240] [kp [5,6,7,8,10,11,12,13,20] [5,8,11]]))) (.reg [om 222 20,od 223 (.bin .add (tm 222) (ki 1)),om 20 223] [kp [5,6,7,8,10,11,12,13,20] [5,8,
 11]]))) [kp [5,6,7,8,10,11,12,13,20] [5,8,11]]
def H5:IC:=.loop Uy
abbrev Uz:IC:=.gh (.seq (.seq (.reg [om 241 21,om 242 10,od 243 (le 0 242),od 244 (.bin .lss (tm 241) (tm 243))] [kp [5,6,7,8,10,11,12,13,21,244] [5,8,11]]) (.cond (tm 244) .skip (.exit 8))) (.seq (.block 9 (.seq (.reg [om 247 13,
 od 248 (.bin .add (tm 247) (ki 1)),om 249 7,od 250 (.bin .mul (tm 248) (tm 249)),om 251 10,om 252 21,od 253 (ia 1 251 252),od 254 (ld 1 253),od 255 (.bin .add (tm 250) (tm 254)),om 22 255] [kp [5,6,7,8,10,11,12,13,
 21,22] [5,8,11]]) (.seq (.seq (.reg [om 256 13,om 257 6,od 258 (.bin .sub (tm 257) (ki 1)),od 259 (.bin .eql (tm 256) (tm 258))] [kp [5,6,7,8,10,11,12,13,21,22,259] [5,8,11]]) (.cond (tm 259) (.seq (.reg [om 260
 6,om 261 7,od 262 (.bin .mul (tm 260) (tm 261)),om 263 21,od 264 (.bin .add (tm 262) (tm 263)),om 22 264] [kp [5,6,7,8,10,11,12,13,21,22] [5,8,11]]) (.seq (.reg [od 265 (fa 0 11),od 266 (ld 1 265),om 267 22,od
 268 (ia 4 266 267),od 269 (lG 4 268),od 23 (.alloc false [(.int .u8 0),(.slice none 0 0),(.int .i64 0),(.int .i64 0)]),on (.store 4 (tm 23) (tm 269))] [kp [5,6,7,8,10,11,12,13,21,22,23] [5,8,11,23]]) (.seq (.reg
 [od 270 (fa 0 23),od 271 (ld 1 270),od 272 (.bin .neq (tm 271) (ku 3)),om 273 272,oF 274 (fa 1 23) 273,oF 275 (ld 1 274) 273,oF 276 (.mv (tm 13)) 273,oF 277 (.mv (tm 7)) 273,oF 278 (.bin .mul (tm 276) (tm 277)) 273,oF 279
 (fa 0 5) 273,oF 280 (ld 1 279) 273,oF 281 (.mv (tm 10)) 273,oF 282 (.mv (tm 21)) 273,oF 283 (ia 1 281 282) 273,oF 284 (ld 1 283) 273,oF 285 (ia 4 280 284) 273,oF 286 (fa 1 285) 273,oF 287 (ld 1 286) 273,oF 288 (.iadr 1 (tm
 287) (ki 0)) 273,oF 289 (ld 1 288) 273,oF 290 (.bin .add (tm 278) (tm 289)) 273,oF 291 (.bsl true 3 1 [(tm 290)]) 273,oF 292 (.call 20 [(tm 275),(tm 291)]) 273,oF 293 (.bin .neq (tm 292) (ki 0)) 273,od 294 (.pick (tm 273) kT
 (tm 293)),om 295 294,oF 296 (fa 1 11) 295,oF 297 (ld 1 296) 295,oF 298 (.mv (tm 22)) 295,oF 299 (ia 1 297 298) 295,oF 300 (ld 1 299) 295,oF 301 (.mv (tm 6)) 295,oF 302 (.call 21 [(tm 301)]) 295,oF 303 (.bin .add (tm 302)
 (.const (sV [46]))) 295,oF 304 (.mv (tm 10)) 295,oF 305 (.mv (tm 21)) 295,oF 306 (ia 1 304 305) 295,oF 307 (ld 1 306) 295,oF 308 (.call 21 [(tm 307)]) 295,oF 309 (.bin .add (tm 303) (tm 308)) 295,oF 310 (.bin .neq (tm 300)
 (tm 309)) 295,od 311 (.pick (tm 295) kT (tm 310))] [kp [5,6,7,8,10,11,12,13,21,22,311] [5,8,11]]) (.cond (tm 311) (.seq (.reg [od 4 (.mv kF)] [kp [4] []]) .ret) .skip)))) .skip)) (.seq (.seq (.reg [od 312 (fa 3 11),od
 313 (ld 1 312),om 314 12,od 315 (ia 1 313 314),od 316 (ld 1 315),om 317 22,od 318 (.bin .neq (tm 316) (tm 317))] [kp [5,6,7,8,10,11,12,13,21,318] [5,8,11]]) (.cond (tm 318) (.seq (.reg [od 4 (.mv kF)] [kp [4] []])
 .ret) .skip)) (.reg [om 319 12,od 320 (.bin .add (tm 319) (ki 1)),om 12 320] [kp [5,6,7,8,10,11,12,13,21] [5,8,11]]))))) (.reg [om 245 21,od 246 (.bin .add (tm 245) (ki 1)),om 21 246] [kp [5,6,7,8,10,11,12,13,
 21] [5,8,11]]))) [kp [5,6,7,8,10,11,12,13,21] [5,8,11]]
def H6:IC:=.loop Uz
abbrev V0:IC:=.gh (.seq (.seq (.reg [om 99 13,om 100 6,od 101 (.bin .lss (tm 99) (tm 100))] [kp [5,6,7,8,10,11,12,13,101] [5,8,11]]) (.cond (tm 101) .skip (.exit 0))) (.seq (.block 1 (.seq (.seq (.reg [od 14 (.mv (ki 0))] [kp [5,6,
 7,8,10,11,12,13,14] [5,8,11]]) (.block 2 H4)) (.seq (.seq (.reg [od 20 (.mv (ki 0))] [kp [5,6,7,8,10,11,12,13,20] [5,8,11]]) (.block 6 H5)) (.seq (.reg [od 21 (.mv (ki 0))] [kp
 [5,6,7,8,10,11,12,13,21] [5,8,11]]) (.block 8 H6))))) (.reg [om 102 13,od 103 (.bin .add (tm 102) (ki 1)),om 13 103] [kp [5,6,7,8,10,11,12,13] [5,8,11]]))) [kp [5,6,7,8,10,11,12,13] [5,
 8,11]]
def H7:IC:=.loop V0
abbrev V1:IC:=(.seq (.reg [od 2 (.box false (tm 0)),od 4 (.mv kF)] [kp [1,2] [2]]) (.seq (.reg [od 24 (fa 5 2),on (.store 1 (tm 24) kF)] [kp [1,2] [2]]) (.seq (.reg [od 25 (lG 12 2),od 26 (.call 16 [(tm 25)]),od 5 (.alloc false [(.slice
 none 0 0),(.slice none 0 0),(.slice none 0 0),(.slice none 0 0)]),on (.store 4 (tm 5) (tm 26))] [kp [1,5] [5]]) (.seq (.reg [om 27 1,od 28 (.bin .rem (tm 27) (ku 6)),od 29 (.conv .i64 (tm 28)),od 30 (.bin .add (ki 1) (tm
 29)),om 6 30] [kp [5,6] [5]]) (.seq (.reg [od 31 (fa 0 5),od 32 (ld 1 31),od 33 (le 0 32),om 7 33] [kp [5,6,7] [5]]) (.seq (.reg [od 35 (lG 4 5),om 36 6,od 37 (.call 17 [(tm 35),(tm 36)]),om 34 37,od 38 (ex 34 0),od 39
 (ex 34 1),od 8 (.alloc false [(.slice none 0 0),(.slice none 0 0),(.slice none 0 0),(.slice none 0 0),(.slice none 0 0)]),on (.store 5 (tm 8) (tm 38)),om 9 39] [kp [5,6,7,8,9] [5,8]]) (.seq (.reg [od 40 (lG 4 5),od 41
 (.call 18 [(tm 40)]),om 10 41] [kp [5,6,7,8,9,10] [5,8]]) (.seq (.reg [od 42 (fa 0 8),od 43 (lG 4 42),od 11 (.alloc false [(.slice none 0 0),(.slice none 0 0),(.slice none 0 0),(.slice none 0 0)]),on (.store 4 (tm 11)
 (tm 43))] [kp [5,6,7,8,9,10,11] [5,8,11]]) (.seq (.seq (.reg [om 44 9,od 45 (.bin .neq (tm 44) (ki 0)),om 46 45,oF 47 (fa 0 11) 46,oF 48 (ld 1 47) 46,oF 49 (le 0 48) 46,oF 50 (.mv (tm 6)) 46,oF 51 (.mv (tm 7)) 46,oF
 52 (.bin .mul (tm 50) (tm 51)) 46,oF 53 (.mv (tm 10)) 46,oF 54 (le 0 53) 46,oF 55 (.bin .add (tm 52) (tm 54)) 46,oF 56 (.bin .neq (tm 49) (tm 55)) 46,od 57 (.pick (tm 46) kT (tm 56)),om 58 57,oF 59 (fa 1 11) 58,oF 60 (ld 1
 59) 58,oF 61 (le 0 60) 58,oF 62 (fa 0 11) 58,oF 63 (ld 1 62) 58,oF 64 (le 0 63) 58,oF 65 (.bin .neq (tm 61) (tm 64)) 58,od 66 (.pick (tm 58) kT (tm 65)),om 67 66,oF 68 (fa 3 11) 67,oF 69 (ld 1 68) 67,oF 70 (le 0 69) 67,
 oF 71 (.mv (tm 6)) 67,oF 72 (fa 3 5) 67,oF 73 (ld 1 72) 67,oF 74 (le 0 73) 67,oF 75 (.mv (tm 10)) 67,oF 76 (le 0 75) 67,oF 77 (.bin .add (tm 74) (tm 76)) 67,oF 78 (.bin .mul (tm 71) (tm 77)) 67,oF 79 (.bin .neq (tm 70) (tm
 78)) 67,od 80 (.pick (tm 67) kT (tm 79)),om 81 80,oF 82 (fa 2 11) 81,oF 83 (ld 1 82) 81,oF 84 (le 0 83) 81,oF 85 (.bin .neq (tm 84) (ki 0)) 81,od 86 (.pick (tm 81) kT (tm 85)),om 87 86,oF 88 (fa 4 8) 87,oF 89 (ld 1 88)
 87,oF 90 (le 0 89) 87,oF 91 (.mv (tm 6)) 87,oF 92 (.bin .neq (tm 90) (tm 91)) 87,od 93 (.pick (tm 87) kT (tm 92)),om 94 93,oF 95 (lG 4 11) 94,oF 96 (.call 19 [(tm 95)]) 94,oF 97 (.bin .neq (tm 96) (ki 0)) 94,od 98 (.pick
 (tm 94) kT (tm 97))] [kp [5,6,7,8,10,11,98] [5,8,11]]) (.cond (tm 98) (.seq (.reg [od 4 (.mv kF)] [kp [4] []]) .ret) .skip)) (.seq (.reg [od 12 (.mv (ki 0))] [kp [5,6,7,8,10,11,12] [5,8,11]]) (.seq (.seq (.reg [od
 13 (.mv (ki 0))] [kp [5,6,7,8,10,11,12,13] [5,8,11]]) (.block 0 H7)) (.seq (.reg [od 321 (.call 22 []),om 4 321] [kp [4] []]) .ret))))))))))))
theorem Hf (h:∀ K:St→Prop,K=run P Γ Ep Q→run P Γ Uw (As K Q) s):run P Γ Ep Q s:=Ah h
theorem Nv (h:∀ K:St→Prop,K=run P Γ H4 Q→run P Γ Ux (As K Q) s):run P Γ H4 Q s:=Ah h
theorem Nw (h:∀ K:St→Prop,K=run P Γ H5 Q→run P Γ Uy (As K Q) s):run P Γ H5 Q s:=Ah h
theorem Nx (h:∀ K:St→Prop,K=run P Γ H6 Q→run P Γ Uz (As K Q) s):run P Γ H6 Q s:=Ah h
theorem Ny (h:∀ K:St→Prop,K=run P Γ H7 Q→run P Γ V0 (As K Q) s):run P Γ H7 Q s:=Ah h
def V5:List RV:=[.tmp 4]
/- probecard/probecardlaw10.CyclesRun (function 4) -/
end
end Go.Lg
namespace Go.Lg
open Go Go.Proofs
theorem q2R:Aw Tryz.prog 3 V1 322 2 V5=true:=by kernel_rfl
end Go.Lg
set_option linter.unusedSimpArgs false
set_option maxRecDepth 100000
namespace Go.Lg
open Go Go.Proofs
variable {Γ:Tables}
def Pn (c:B7) (n at' f:Nat):List (Nat × AV):=[(5,.lp 5 0 0),(6,.t (tI n)),(7,.t (tI c.nodes.l.length)),(8,.lp 8 0 0),(10,.t (.sl (Ax (Ag c)) (some (Ag c).length) none)),(11,.lp 11 0 0),(12,.t (tI at')),(13,.t (tI f))]
def Po (c:B7) (fr d:List T):List (Nat × Bc):=[(5,.bx ((tC c).map .t)),(8,.bx (fr.map .t)),(11,.bx (d.map .t))]
theorem qKp {Q:AX→St→Prop} (c:B7) (n at' f i:Nat) (g:Int) (fr d:List T) (hi:i<c.nodes.l.length)
  (h0:Q (.exit 4) ⟨Pn c n at' f++[(14,.t (tI i)),(15,.t (tK 0)),(16,.t (tI g)),(17,.ls 152 0 0 none),(18,.t (tI 0)),(134,.t (tB false))],Po c fr d++[(152,.sl 3 1 [])]⟩) :
  run Tryz.prog Γ Ep Q ⟨Pn c n at' f++[(14,.t (tI i)),(15,.t (tK 0)),(16,.t (tI g)),(17,.ls 152 0 0 none),(18,.t (tI 0))],Po c fr d++[(152,.sl 3 1 [])]⟩:=by
 refine Hf fun K hK=>?_
 have e1:(Ao Bt c.nodes.l)[i]?.getD []=Bt c.nodes.l[i]:=by simp [Ao,hi]
 have e1':∀ h,(Ao Bt c.nodes.l)[i]'h=Bt c.nodes.l[i]:=fun h=>by simp [Ao]
 generalize c.nodes.l[i]=x at *
 obtain ⟨xk,xin,xm,xb⟩:=x
 simp only [Bt,B5] at e1 e1'
 have h3:(i:Int)<c.nodes.l.length:=by omega
 simp [Pn,Po,tC,A7,A9,Ac,B5] at h0
 by_cases hl:0<xin.l.length
 ·have hl':(0:Int)<xin.l.length:=by omega
  simp [Pn,Po,tC,A7,A9,Ac,B5,Aa,A0,Aq,hi,h3,e1,e1',hl,hl']
  simpa using h0
 ·have hl0:xin.l=[]:=List.length_eq_zero_iff.1 (by omega)
  simp [Pn,Po,tC,A7,A9,Ac,B5,Aa,A0,Aq,hi,h3,e1,e1',hl0]
  simpa using h0
theorem qJV {Q:AX→St→Prop} (c:B7) (n at' f i:Nat) (g:Nat) (K:Int) (hK0:K ≠ 0) (hg:g*c.nodes.l.length≤128) (fr d:List T) (hi:i<c.nodes.l.length) (hin:c.nodes.l[i].inn.l.length≤1000000∧∀ k ∈ c.nodes.l[i].inn.l,0≤k∧k≤1000000)
  (h0:Q (.exit 4) ⟨Pn c n at' f++[(14,.t (tI i)),(15,.t (tK K)),(16,.t (tI g)),(17,.ls 152 0 c.nodes.l[i].inn.l.length none),(18,.t (tI c.nodes.l[i].inn.l.length)),(134,.t (tB false))],Po c fr d++[(152,.sl 3 1 (Ax (mvL c.nodes.l.length g c.nodes.l[i].inn.l)))]⟩) :
  ∀ (q k:Nat) (out:List Int),q+k=c.nodes.l[i].inn.l.length→out.length=k→out++mvL c.nodes.l.length g (c.nodes.l[i].inn.l.drop k)=mvL c.nodes.l.length g c.nodes.l[i].inn.l →
  run Tryz.prog Γ Ep Q ⟨Pn c n at' f++[(14,.t (tI i)),(15,.t (tK K)),(16,.t (tI g)),(17,.ls 152 0 k none),(18,.t (tI k))],Po c fr d++[(152,.sl 3 1 (Ax out))]⟩
 | 0,k,out,h,ho,hR=>by
  refine Hf fun J hJ=>?_
  have e1:(Ao Bt c.nodes.l)[i]?.getD []=Bt c.nodes.l[i]:=by simp [Ao,hi]
  have e1':∀ h,(Ao Bt c.nodes.l)[i]'h=Bt c.nodes.l[i]:=fun h=>by simp [Ao]
  have h2:k=c.nodes.l[i].inn.l.length:=by omega
  subst h2
  rw [List.drop_length] at hR
  simp only [mvL,List.map_nil,List.append_nil] at hR
  have h3:(i:Int)<c.nodes.l.length:=by omega
  simp only [mvL] at h0
  rw [← hR] at h0
  generalize c.nodes.l[i]=x at *
  obtain ⟨xk,xin,xm,xb⟩:=x
  simp only [Bt,B5] at e1 e1'
  simp [Pn,Po,tC,A7,A9,Ac,B5] at h0
  simp [Pn,Po,tC,A7,A9,Ac,B5,Aa,A0,Aq,hi,h3,e1,e1']
  simpa using h0
 | q+1,k,out,h,ho,hR=>by
  refine Hf fun J hJ=>?_
  have e1:(Ao Bt c.nodes.l)[i]?.getD []=Bt c.nodes.l[i]:=by simp [Ao,hi]
  have e1':∀ h,(Ao Bt c.nodes.l)[i]'h=Bt c.nodes.l[i]:=fun h=>by simp [Ao]
  have h2:k<c.nodes.l[i].inn.l.length:=by omega
  rw [List.drop_eq_getElem_cons h2] at hR
  simp only [mvL,List.map_cons] at hR
  have e2:=gE (f:=tI) 0 h2
  have e2':=gE' (f:=tI) 0 h2
  rw [D8 h2] at e2 e2'
  obtain ⟨q0,q1⟩:=hin.2 _ (List.getElem_mem h2)
  have hle:=hin.1
  have ih:=qJV c n at' f i g K hK0 hg fr d hi hin h0 q (k+1) (out++[(g:Int)*c.nodes.l.length+c.nodes.l[i].inn.l[k]]) (by omega) (by simp [ho]) (by simp only [mvL]; rw [← hR]; simp)
  generalize c.nodes.l[i].inn.l[k]=p at *
  have ec:((g*c.nodes.l.length:Nat):Int)=(g:Int)*c.nodes.l.length:=by simp
  have vs:=Bz (f:=tI) (l:=out) (x:=(g:Int)*c.nodes.l.length+p)
  have vt:(Ax out).take k=Ax out:=by rw [← ho]; exact An
  have w1:=B8 (i:=k) (by omega)
  have w2:IntKind.i64.wrap ((g:Int)*c.nodes.l.length)=(g:Int)*c.nodes.l.length:=by rw [← ec]; exact A5 (by omega) (by omega)
  have w3:IntKind.i64.wrap ((g:Int)*c.nodes.l.length+p)=(g:Int)*c.nodes.l.length+p:=by rw [← ec]; exact A5 (by omega) (by omega)
  have h3:(i:Int)<c.nodes.l.length:=by omega
  have h4:(k:Int)<c.nodes.l[i].inn.l.length:=by omega
  clear h0 hR hin
  generalize c.nodes.l[i]=x at *
  obtain ⟨xk,xin,xm,xb⟩:=x
  simp only [Bt,B5] at e1 e1'
  simp only at e2 e2' h2 h4
  simp [Pn,Po,tC,A7,A9,Ac,B5] at ih
  simp [Pn,Po,tC,A7,A9,Ac,B5,Aa,A0,A8,Aq,hi,h3,e1,e1',h2,h4,hK0,e2,e2',w1,w2,w3,vs,vt,ho]
  refine ⟨by omega,?_⟩
  rw [hJ]
  simpa [ho,L1] using ih
theorem qJW {Q:AX→St→Prop} (c:B7) (n f:Nat) (hf:f<n) (h8:n≤8) (hm:c.nodes.l.length≤16) (hol:c.outs.l.length≤16) (ho:∀ p ∈ c.outs.l,0≤p∧p<c.nodes.l.length) (fr:List T)
  (h0:Q (.exit 6) ⟨Pn c n (f*(c.outs.l.length+(Ag c).length)+c.outs.l.length) f++[(20,.t (tI c.outs.l.length)),(221,.t (tB false))],Po c fr (tC (Yl c n))⟩) :
  ∀ (q i:Nat),q+i=c.outs.l.length →
  run Tryz.prog Γ H5 Q ⟨Pn c n (f*(c.outs.l.length+(Ag c).length)+i) f++[(20,.t (tI i))],Po c fr (tC (Yl c n))⟩
 | 0,i,h=>by
  refine Nw fun J hJ=>?_
  have h2:i=c.outs.l.length:=by omega
  subst h2
  simp [Pn,Po,tC,A7,A9,Ac,B5] at h0
  simp [Pn,Po,tC,A7,A9,Ac,B5,A0]
  simpa using h0
 | q+1,i,h=>by
  refine Nw fun J hJ=>?_
  have h2:i<c.outs.l.length:=by omega
  have hsl:=C5 c
  have hoX:=qHb (c:=c) hf h2
  have ih:=qJW c n f hf h8 hm hol ho fr h0 q (i+1) (by omega)
  have hlX:=q1I (c:=c) (n:=n)
  have hr:=qBH (f:=f) (n:=n) (m:=c.outs.l.length+(Ag c).length) (i:=i) hf (by omega)
  have hb2:n*(c.outs.l.length+(Ag c).length)≤8*32:=Nat.mul_le_mul h8 (by omega)
  rw [← hlX] at hr hb2
  have hEo:(Yl c n).outs.l=Gf c n:=rfl
  have e1:=gE (f:=tI) 0 h2
  have e1':=gE' (f:=tI) 0 h2
  rw [D8 h2] at e1 e1'
  obtain ⟨p0,p1⟩:=ho _ (List.getElem_mem h2)
  have e2:=gE (f:=tI) 0 hr
  have e2':=gE' (f:=tI) 0 hr
  rw [List.getD_eq_getElem?_getD,hoX] at e2 e2'
  simp only [Option.getD_some] at e2 e2'
  generalize c.outs.l[i]=p at *
  have hfm:f*c.nodes.l.length≤8*16:=Nat.mul_le_mul (by omega) hm
  have ec:((f*c.nodes.l.length:Nat):Int)=(f:Int)*c.nodes.l.length:=by simp
  have w2:IntKind.i64.wrap ((f:Int)*c.nodes.l.length)=(f:Int)*c.nodes.l.length:=by rw [← ec]; exact A5 (by omega) (by omega)
  have w3:IntKind.i64.wrap ((f:Int)*c.nodes.l.length+p)=(f:Int)*c.nodes.l.length+p:=by rw [← ec]; exact A5 (by omega) (by omega)
  have w1:=B8 (i:=i) (by omega)
  have h3:(i:Int)<c.outs.l.length:=by omega
  have hat:f*(c.outs.l.length+(Ag c).length)+(i+1)=f*(c.outs.l.length+(Ag c).length)+i+1:=by omega
  rw [hat] at ih
  clear hat h0
  generalize hA:f*(c.outs.l.length+(Ag c).length)+i=A at *
  have w4:=B8 (i:=A) (by omega)
  have h4:(A:Int)<(Gf c n).length:=by omega
  simp [Pn,Po,tC,A7,A9,Ac,B5,hEo] at ih
  simp [Pn,Po,tC,A7,A9,Ac,B5,hEo,A0,A8,h2,h3,e1,e1',hr,h4,e2,e2',w1,w2,w3,w4]
  rw [hJ]
  simpa using ih
theorem qIp {c:B7} (hg:GNs false c.nodes.l) {s:Nat} (hs:s<c.nodes.l.length) (hk:C2 c s=14):∃ v:Int,c.nodes.l[s].inn.l=[v]∧0≤v∧v<c.nodes.l.length:=by
 have h:=hg s hs
 have hk':c.nodes.l[s].k=14:=by
  simp only [C2,List.getD_eq_getElem?_getD,List.getElem?_eq_getElem hs,Option.getD_some] at hk
  exact hk
 have hf:=h.f
 rw [hk'] at hf
 have h1:(S5 14).1=1∧(S5 14).2=1:=by decide
 have hl:c.nodes.l[s].inn.l.length=1:=by omega
 obtain ⟨v,hv⟩:=List.length_eq_one_iff.1 hl
 have:=h.inn v (by rw [hv]; simp)
 exact ⟨v,hv,this⟩
set_option maxHeartbeats 4000000 in
theorem qJX {Q:AX→St→Prop} (c:B7) (hg:GNs false c.nodes.l) (n f:Nat) (hf:f<n) (h8:n≤8) (hm:c.nodes.l.length≤16) (hol:c.outs.l.length≤16) (fr:List T)
  (h0:Q (.exit 8) ⟨Pn c n (f*(c.outs.l.length+(Ag c).length)+(c.outs.l.length+(Ag c).length)) f++[(21,.t (tI (Ag c).length)),(244,.t (tB false))],Po c fr (tC (Yl c n))⟩) :
  ∀ (q k:Nat),q+k=(Ag c).length →
  run Tryz.prog Γ H6 Q ⟨Pn c n (f*(c.outs.l.length+(Ag c).length)+(c.outs.l.length+k)) f++[(21,.t (tI k))],Po c fr (tC (Yl c n))⟩
 | 0,k,h=>by
  refine Nx fun J hJ=>?_
  have h2:k=(Ag c).length:=by omega
  subst h2
  simp [Pn,Po,tC,A7,A9,Ac,B5] at h0
  simp [Pn,Po,tC,A7,A9,Ac,B5,A0]
  simpa using h0
 | q+1,k,h=>by
  refine Nx fun J hJ=>?_
  have h2:k<(Ag c).length:=by omega
  have h2N:k<(stN c).length:=by rw [Qk]; exact h2
  have hsl:=C5 c
  have hoX:=qFo (c:=c) hf h2
  have ih:=qJX c hg n f hf h8 hm hol fr h0 q (k+1) (by omega)
  have hlX:=q1I (c:=c) (n:=n)
  have hlN:=L2 (c:=c) (n:=n)
  have hlM:=q1H (c:=c) (n:=n)
  have hr:=qBH (f:=f) (n:=n) (m:=c.outs.l.length+(Ag c).length) (i:=c.outs.l.length+k) hf (by omega)
  have hb2:n*(c.outs.l.length+(Ag c).length)≤8*32:=Nat.mul_le_mul h8 (by omega)
  rw [← hlX] at hr hb2
  have hEo:(Yl c n).outs.l=Gf c n:=rfl
  have hEn:(Yl c n).nodes.l=Fe c n:=rfl
  have hEm:(Yl c n).names.l=J4 c n:=rfl
  -- the state's node
  obtain ⟨hs,hk14⟩:=Yk (List.getElem_mem h2N)
  have est:(Ag c)[k]=((stN c)[k]:Int):=by
   have h1:=Ph _ (List.getElem_mem h2)
   simp only [stN,List.getElem_map]
   omega
  have e1:=gE (f:=tI) 0 h2
  have e1':=gE' (f:=tI) 0 h2
  rw [D8 h2,est] at e1 e1'
  have hD:(stN c).getD k 0=(stN c)[k]:=by simp [List.getD_eq_getElem?_getD,h2N]
  rw [hD] at hoX
  have hnX:=qAe (c:=c) (n:=n) h2N
  have hmX:=qFn (c:=c) (n:=n) h2N
  obtain ⟨v,hv,v0,v1⟩:=qIp hg hs hk14
  have hlast:q4X c n (stN c)[k]=⟨3,⟨[((n:Int) - 1)*c.nodes.l.length+v],some 1,none⟩,0,0⟩:=by
   unfold q4X
   rw [show c.nodes.l.getD (stN c)[k] ⟨0,⟨[],none,none⟩,0,0⟩=c.nodes.l[(stN c)[k]] by simp [List.getD_eq_getElem?_getD,hs]]
   unfold mvS mvL
   rw [hv]
   rfl
  rw [hlast] at hnX
  generalize (stN c)[k]=s at *
  have en:(Ao Bt c.nodes.l)[s]?.getD []=Bt c.nodes.l[s]:=by simp [Ao,hs]
  have en':∀ h,(Ao Bt c.nodes.l)[s]'h=Bt c.nodes.l[s]:=fun h=>by simp [Ao]
  have e2:=gE (f:=tI) 0 hr
  have e2':=gE' (f:=tI) 0 hr
  rw [List.getD_eq_getElem?_getD,hoX] at e2 e2'
  simp only [Option.getD_some] at e2 e2'
  have hfm:(f+1)*c.nodes.l.length≤8*16:=Nat.mul_le_mul (by omega) hm
  have hfm0:f*c.nodes.l.length≤8*16:=Nat.mul_le_mul (by omega) hm
  have hnm:n*c.nodes.l.length≤8*16:=Nat.mul_le_mul h8 hm
  have ec0:((f*c.nodes.l.length:Nat):Int)=(f:Int)*c.nodes.l.length:=by simp
  have ec:(((f+1)*c.nodes.l.length:Nat):Int)=((f:Int)+1)*c.nodes.l.length:=by simp
  have ec2:((n*c.nodes.l.length:Nat):Int)=(n:Int)*c.nodes.l.length:=by simp
  have w0:=B8 (i:=f) (by omega)
  have w2:IntKind.i64.wrap (((f:Int)+1)*c.nodes.l.length)=((f:Int)+1)*c.nodes.l.length:=by rw [← ec]; exact A5 (by omega) (by omega)
  have w3:IntKind.i64.wrap (((f:Int)+1)*c.nodes.l.length+(s:Int))=((f:Int)+1)*c.nodes.l.length+(s:Int):=by rw [← ec]; exact A5 (by omega) (by omega)
  have w4:IntKind.i64.wrap ((n:Int) - 1)=(n:Int) - 1:=A5 (by omega) (by omega)
  have w5:IntKind.i64.wrap ((n:Int)*c.nodes.l.length)=(n:Int)*c.nodes.l.length:=by rw [← ec2]; exact A5 (by omega) (by omega)
  have w6:IntKind.i64.wrap ((n:Int)*c.nodes.l.length+(k:Int))=(n:Int)*c.nodes.l.length+(k:Int):=by rw [← ec2]; exact A5 (by omega) (by omega)
  have w7:IntKind.i64.wrap ((f:Int)*c.nodes.l.length)=(f:Int)*c.nodes.l.length:=by rw [← ec0]; exact A5 (by omega) (by omega)
  have w8:IntKind.i64.wrap ((f:Int)*c.nodes.l.length+v)=(f:Int)*c.nodes.l.length+v:=by rw [← ec0]; exact A5 (by omega) (by omega)
  have w1:=B8 (i:=k) (by omega)
  have h3:(k:Int)<(Ag c).length:=by omega
  have hat:f*(c.outs.l.length+(Ag c).length)+(c.outs.l.length+(k+1))=f*(c.outs.l.length+(Ag c).length)+(c.outs.l.length+k)+1:=by omega
  rw [hat] at ih
  clear hat h0
  generalize hA:f*(c.outs.l.length+(Ag c).length)+(c.outs.l.length+k)=A at *
  have w9:=B8 (i:=A) (by omega)
  have h4:(A:Int)<(Gf c n).length:=by omega
  simp [Pn,Po,tC,A7,A9,Ac,B5,hEo,hEn,hEm] at ih
  by_cases hfn:f+1=n
  ·have hz:((f:Int)=(n:Int) - 1)=True:=eq_true (by omega)
   rw [if_pos hfn] at e2 e2'
   have hnf:(n:Int) - 1=(f:Int):=by omega
   rw [hnf] at hnX
   have hB:n*c.nodes.l.length+k<(Fe c n).length:=by rw [hlN]; omega
   have hBM:n*c.nodes.l.length+k<(J4 c n).length:=by rw [hlM]; omega
   have hB2:n*c.nodes.l.length+k≤1000:=by omega
   have eB:(n:Int)*c.nodes.l.length+(k:Int)=((n*c.nodes.l.length+k:Nat):Int):=by simp
   rw [eB] at e2 e2'
   generalize n*c.nodes.l.length+k=B at *
   have eN:(Ao Bt (Fe c n))[B]?.getD []=Bt ⟨3,⟨[(f:Int)*c.nodes.l.length+v],some 1,none⟩,0,0⟩:=by simp [Ao,hnX]
   have hX:(Fe c n)[B]=⟨3,⟨[(f:Int)*c.nodes.l.length+v],some 1,none⟩,0,0⟩:=by rw [List.getElem?_eq_getElem hB] at hnX; exact Option.some.inj hnX
   have eN':∀ h,(Ao Bt (Fe c n))[B]'h=Bt ⟨3,⟨[(f:Int)*c.nodes.l.length+v],some 1,none⟩,0,0⟩:=fun h=>by simp [Ao,hX]
   have eM:=gE (f:=tS) [] hBM
   have eM':=gE' (f:=tS) [] hBM
   rw [List.getD_eq_getElem?_getD,hmX] at eM eM'
   simp only [Option.getD_some] at eM eM'
   have wB:IntKind.i64.wrap (B:Int)=(B:Int):=A5 (by omega) (by omega)
   have hBi:(B:Int)<(Fe c n).length:=by omega
   have hBMi:(B:Int)<(J4 c n).length:=by omega
   have hs':(s:Int)<c.nodes.l.length:=by omega
   have ei:=q3e (Γ:=Γ) [(f:Int)*c.nodes.l.length+v] (by simp) (some 1) none (some false)
   have t1:=Wz (Γ:=Γ) n (by omega)
   have t2:=Wz (Γ:=Γ) s (by omega)
   have l1:∀ j,(Jy j).length≤2:=fun j=>by unfold Jy; split <;> simp
   have hba:ByteArray.mk (Jy n).toArray++ByteArray.mk #[46]++ByteArray.mk (Jy s).toArray=ByteArray.mk (nmU n s).toArray:=by
    have:ByteArray.mk #[46]=ByteArray.mk [46].toArray:=rfl
    rw [this,q3d,q3d]; rfl
   have l1n:=l1 n
   have l1s:=l1 s
   generalize nmU n s=nm at *
   generalize Jy n=an at *
   generalize Jy s=bs at *
   simp only [tS,sV] at t1 t2 eM eM'
   generalize c.nodes.l[s]=x at *
   obtain ⟨xk,⟨xl,xc,xn⟩,xm,xb⟩:=x
   simp only at hv
   subst hv
   simp only [Bt,B5,Fz,By] at en en' eN eN' ei
   simp only [List.length_cons,List.length_nil] at ei
   clear hfn
   simp [Pn,Po,tC,A7,A9,Ac,B5,hEo,hEn,hEm,Aa,A0,A8,Aq,h2,h3,e1,e1',hr,h4,e2,e2',w0,w1,w2,w3,w4,w5,w9,hz,eB,wB,hB,hBi,hBM,hBMi,eN,eN',eM,eM',en,en',hs,hs',w7,w8]
   refine A3 ei rfl ?_
   simp [hEo,hEn,hEm,Aa,A0,A8,Aq,h2,h3,e1,e1',hr,h4,e2,e2',w0,w1,w2,w3,w4,w5,w9,hz,eB,wB,hB,hBi,hBM,hBMi,eN,eN',eM,eM',en,en',hs,hs',w7,w8]
   refine A3 t1 rfl ?_
   simp
   refine ⟨by first | omega | (simp; omega),?_⟩
   simp [hEo,hEn,hEm,Aa,A0,A8,Aq,h2,h3,e1,e1',hr,h4,e2,e2',w0,w1,w2,w3,w4,w5,w9,hz,eB,wB,hB,hBi,hBM,hBMi,eN,eN',eM,eM',en,en',hs,hs',w7,w8]
   refine A3 t2 rfl ?_
   simp [hba,hEo,hEn,hEm,Aa,A0,A8,Aq,h2,h3,e1,e1',hr,h4,e2,e2',w0,w1,w2,w3,w4,w5,w9,hz,eB,wB,hB,hBi,hBM,hBMi,eN,eN',eM,eM',en,en',hs,hs',w7,w8]
   refine ⟨by omega,?_⟩
   rw [hJ]
   simpa [L1] using ih
  ·have hz:((f:Int)=(n:Int) - 1)=False:=eq_false (by omega)
   rw [if_neg hfn] at e2 e2'
   clear hfn
   simp [Pn,Po,tC,A7,A9,Ac,B5,hEo,hEn,hEm,A0,A8,h2,h3,e1,e1',hr,h4,e2,e2',w0,w1,w2,w3,w4,w5,w6,w9,hz]
   rw [hJ]
   simpa using ih
theorem qEt {many n f:Nat} (h:f<n):(Oo many n)[f]? = some (frT many f):=by simp [Oo,h]
theorem qKq {many f i:Nat} (h:i<many):(frU many f)[i]? = some ((f:Int)*many+(i:Int)):=by simp [frU,h]
set_option maxHeartbeats 4000000 in
theorem qJY {Q:AX→St→Prop} (c:B7) (hg:GNs false c.nodes.l) (hin:q7d c) (n f at':Nat) (hf:f<n) (h8:n≤8) (hm:c.nodes.l.length≤16)
  (h0:Q (.exit 2) ⟨Pn c n at' f++[(14,.t (tI c.nodes.l.length)),(106,.t (tB false))],Po c (tFr c n) (tC (Yl c n))⟩) :
  ∀ (q i:Nat),q+i=c.nodes.l.length →
  run Tryz.prog Γ H4 Q ⟨Pn c n at' f++[(14,.t (tI i))],Po c (tFr c n) (tC (Yl c n))⟩
 | 0,i,h=>by
  refine Nv fun J hJ=>?_
  have h2:i=c.nodes.l.length:=by omega
  subst h2
  simp [Pn,Po,tC,A7,A9,Ac,B5] at h0
  simp [Pn,Po,tC,A7,A9,Ac,B5,A0]
  simpa using h0
 | q+1,i,h=>by
  refine Nv fun J hJ=>?_
  have hi:i<c.nodes.l.length:=by omega
  have ih:=qJY c hg hin n f at' hf h8 hm h0 q (i+1) (by omega)
  have g0:=fun Q f i (g:Int) hi h0=>qKp (Γ:=Γ) (Q:=Q) c n at' f i g (tFr c n) (tC (Yl c n)) hi h0
  have gN:=fun Q (g:Nat) K hK hg' h0=>qJV (Γ:=Γ) (Q:=Q) c n at' f i g K hK hg' (tFr c n) (tC (Yl c n)) hi (hin _ (List.getElem_mem hi)) h0 c.nodes.l[i].inn.l.length 0 [] (by omega) rfl (by simp)
  have hsl:=C5 c
  have hlN:=L2 (c:=c) (n:=n)
  have hlM:=q1H (c:=c) (n:=n)
  have hr:=qBH hf hi
  have hnm:n*c.nodes.l.length≤8*16:=Nat.mul_le_mul h8 hm
  have hEn:(Yl c n).nodes.l=Fe c n:=rfl
  have hEm:(Yl c n).names.l=J4 c n:=rfl
  have hnX:=qBG (c:=c) hf hi
  have hmX:=qIh (c:=c) hf hi
  have e1:(Ao Bt c.nodes.l)[i]?.getD []=Bt c.nodes.l[i]:=by simp [Ao,hi]
  have e1':∀ h,(Ao Bt c.nodes.l)[i]'h=Bt c.nodes.l[i]:=fun h=>by simp [Ao]
  have hfm0:f*c.nodes.l.length≤8*16:=Nat.mul_le_mul (by omega) hm
  have ec0:((f*c.nodes.l.length:Nat):Int)=(f:Int)*c.nodes.l.length:=by simp
  have w1:=B8 (i:=i) (by omega)
  have w2:IntKind.i64.wrap ((f:Int)*c.nodes.l.length)=(f:Int)*c.nodes.l.length:=by rw [← ec0]; exact A5 (by omega) (by omega)
  have hB:f*c.nodes.l.length+i<(Fe c n).length:=by rw [hlN]; omega
  have hBM:f*c.nodes.l.length+i<(J4 c n).length:=by rw [hlM]; omega
  obtain ⟨FF,hFF,eF3,eF1,eF2,wF⟩:∃ FF:List (List T),tFr c n=[.sl (Ao Bt (Fe c n)) (some (Fe c n).length) none,.sl (Af tS (J4 c n)) (some (J4 c n).length) none,Ar,.sl (Ax (Gf c n)) (some (Gf c n).length) none,.sl FF (some n) none]∧FF.length=n∧FF[f]?.getD []=[.sl (Ax (frU c.nodes.l.length f)) (some c.nodes.l.length) none]∧(∀ h,FF[f]'h=[.sl (Ax (frU c.nodes.l.length f)) (some c.nodes.l.length) none])∧D5 1 FF:=by
   refine ⟨_,rfl,by rw [List.length_map,q3L],?_,fun h=>?_,fun e he=>?_⟩
   ·rw [List.getElem?_map,qEt hf]; rfl
   ·have h':f<(Oo c.nodes.l.length n).length:=by rw [q3L]; exact hf
    have:=qEt (many:=c.nodes.l.length) hf
    rw [List.getElem?_eq_getElem h'] at this
    rw [List.getElem_map,Option.some.inj this]; rfl
   ·obtain ⟨t,_,rfl⟩:=List.mem_map.1 he; rfl
  rw [hFF] at ih g0 gN ⊢
  have fl:(frU c.nodes.l.length f).length=c.nodes.l.length:=qBF
  have hif:i<(frU c.nodes.l.length f).length:=by rw [fl]; exact hi
  have eG:=gE (f:=tI) 0 hif
  have eG':=gE' (f:=tI) 0 hif
  rw [List.getD_eq_getElem?_getD,qKq hi] at eG eG'
  simp only [Option.getD_some] at eG eG'
  generalize frU c.nodes.l.length f=FU at *
  have eB:(f:Int)*c.nodes.l.length+(i:Int)=((f*c.nodes.l.length+i:Nat):Int):=by simp
  have hX:(Fe c n)[f*c.nodes.l.length+i]=unN c.nodes.l.length f c.nodes.l[i]:=by rw [List.getElem?_eq_getElem hB] at hnX; exact Option.some.inj hnX
  have eN:(Ao Bt (Fe c n))[f*c.nodes.l.length+i]?.getD []=Bt (unN c.nodes.l.length f c.nodes.l[i]):=by simp [Ao,hnX]
  have eN':∀ h,(Ao Bt (Fe c n))[f*c.nodes.l.length+i]'h=Bt (unN c.nodes.l.length f c.nodes.l[i]):=fun h=>by simp [Ao,hX]
  have eM:=gE (f:=tS) [] hBM
  have eM':=gE' (f:=tS) [] hBM
  rw [List.getD_eq_getElem?_getD,hmX] at eM eM'
  simp only [Option.getD_some] at eM eM'
  have hB1000:f*c.nodes.l.length+i≤1000:=by omega
  rw [eB] at eG eG'
  generalize f*c.nodes.l.length+i=B at *
  have wB:IntKind.i64.wrap (B:Int)=(B:Int):=A5 (by omega) (by omega)
  have hBi:(B:Int)<(Fe c n).length:=by omega
  have hBMi:(B:Int)<(J4 c n).length:=by omega
  have h3:(i:Int)<c.nodes.l.length:=by omega
  have hfn:(f:Int)<n:=by omega
  have t1:=Wz (Γ:=Γ) f (by omega)
  have t2:=Wz (Γ:=Γ) i (by omega)
  have l1:∀ j,(Jy j).length≤2:=fun j=>by unfold Jy; split <;> simp
  have hba:ByteArray.mk (Jy f).toArray++ByteArray.mk #[46]++ByteArray.mk (Jy i).toArray=ByteArray.mk (nmU f i).toArray:=by
   have:ByteArray.mk #[46]=ByteArray.mk [46].toArray:=rfl
   rw [this,q3d,q3d]; rfl
  have l1n:=l1 f
  have l1s:=l1 i
  generalize nmU f i=nm at *
  generalize Jy f=an at *
  generalize Jy i=bs at *
  simp only [tS,sV] at t1 t2 eM eM'
  have hNG:=hg i hi
  have hinn:=hin _ (List.getElem_mem hi)
  have ei:=fun (l:List Int) hl c2 n1 n2=>q3e (Γ:=Γ) l hl c2 n1 n2
  clear hnX hmX hX
  generalize c.nodes.l[i]=x at *
  obtain ⟨xk,xin,xm,xb⟩:=x
  simp only at hinn gN
  simp only [Bt,B5] at e1 e1'
  simp [Pn,Po,tC,A7,A9,Ac,B5,hEn,hEm] at ih
  by_cases hk14:xk=14
  ·by_cases hf0:f=0
   ·have hun:unN c.nodes.l.length f ⟨xk,xin,xm,xb⟩=⟨0,⟨[],some 0,some true⟩,0,0⟩:=by unfold unN; rw [if_pos hk14,if_pos hf0]
    rw [hun] at eN eN'
    simp only [Bt,B5,By] at eN eN'
    have hz:((0:Int)<(f:Int))=False:=eq_false (by omega)
    have hz':(0<f)=False:=eq_false (by omega)
    clear hf0
    have g:=fun Q h0=>g0 Q f i (f:Int) hi h0
    have eii:=ei [] (by simp) none (some true) none
    simp [Pn,Po,Ar,tC,A7,A9,Ac,B5,hEn,hEm,By] at g
    simp only [By,List.length_nil] at eii
    simp [Pn,Po,Ar,tC,A7,A9,Ac,B5,hEn,hEm,Aa,A0,A8,Aq,hi,h3,e1,e1',w1,w2,hB,hBi,hBM,hBMi,eN,eN',eM,eM',eF1,eF2,eF3,eG,eG',hf,hfn,eB,wB,fl,hk14,hz,hz',wF]
    refine g _ ?_
    simp [St.freeze,Bc.closed,Bi,frz1,frz0,Dq,del,Aj,L1,qAa,Pn,Po,Ar,tC,A7,A9,Ac,B5,hEn,hEm,Aa,A0,A8,Aq,hi,h3,e1,e1',w1,w2,hB,hBi,hBM,hBMi,eN,eN',eM,eM',eF1,eF2,eF3,eG,eG',hf,hfn,eB,wB,fl,hk14,hz,hz',wF]
    refine A3 eii rfl ?_
    simp [Pn,Po,Ar,tC,A7,A9,Ac,B5,hEn,hEm,Aa,A0,A8,Aq,hi,h3,e1,e1',w1,w2,hB,hBi,hBM,hBMi,eN,eN',eM,eM',eF1,eF2,eF3,eG,eG',hf,hfn,eB,wB,fl,hk14,hz,hz',wF]
    refine A3 t1 rfl ?_
    simp
    refine ⟨by first | omega | (simp; omega),?_⟩
    simp [Pn,Po,Ar,tC,A7,A9,Ac,B5,hEn,hEm,Aa,A0,A8,Aq,hi,h3,e1,e1',w1,w2,hB,hBi,hBM,hBMi,eN,eN',eM,eM',eF1,eF2,eF3,eG,eG',hf,hfn,eB,wB,fl,hk14,hz,hz',wF]
    refine A3 t2 rfl ?_
    simp [hba,Pn,Po,Ar,tC,A7,A9,Ac,B5,hEn,hEm,Aa,A0,A8,Aq,hi,h3,e1,e1',w1,w2,hB,hBi,hBM,hBMi,eN,eN',eM,eM',eF1,eF2,eF3,eG,eG',hf,hfn,eB,wB,fl,hk14,hz,hz',wF]
    refine ⟨by omega,?_⟩
    rw [hJ]
    simpa [L1,Ar] using ih
   ·obtain ⟨f',hff⟩:∃ f',f=f'+1:=⟨f - 1,by omega⟩
    have hcc:(f:Int) - 1=(f':Int):=by omega
    have hun:unN c.nodes.l.length f ⟨xk,xin,xm,xb⟩=⟨3,mvS c.nodes.l.length f' xin,0,0⟩:=by
     unfold unN; rw [if_pos hk14,if_neg hf0,hcc]
    rw [hun] at eN eN'
    simp only [Bt,B5] at eN eN'
    have hfm2:f'*c.nodes.l.length≤8*16:=Nat.mul_le_mul (by omega) hm
    have hw2:IntKind.i64.wrap ((f:Int) - 1)=(f':Int):=by rw [hcc]; exact A5 (by omega) (by omega)
    have hz:((0:Int)<(f:Int))=True:=eq_true (by omega)
    have hz':(0<f)=True:=eq_true (by omega)
    have g:=fun Q h0=>gN Q f' 3 (by decide) (by omega) h0
    have hR:(Ax (mvL c.nodes.l.length f' xin.l)).take xin.l.length=Ax (mvL c.nodes.l.length f' xin.l):=by rw [← K2 (many:=c.nodes.l.length) (f:=(f':Int)) (l:=xin.l)]; exact An
    have eii:=ei (mvL c.nodes.l.length f' xin.l) (by rw [K2]; omega) none none none
    rw [K2] at eii
    clear hff hf0 hcc
    simp [Pn,Po,Ar,tC,A7,A9,Ac,B5,hEn,hEm,By] at g
    simp [Pn,Po,Ar,tC,A7,A9,Ac,B5,hEn,hEm,Aa,A0,A8,Aq,hi,h3,e1,e1',w1,w2,hB,hBi,hBM,hBMi,eN,eN',eM,eM',eF1,eF2,eF3,eG,eG',hf,hfn,eB,wB,fl,hk14,hz,hz',hw2,wF]
    refine g _ ?_
    simp [St.freeze,Bc.closed,Bi,frz1,frz0,Dq,del,Aj,L1,qAa,hR,Pn,Po,Ar,tC,A7,A9,Ac,B5,hEn,hEm,Aa,A0,A8,Aq,hi,h3,e1,e1',w1,w2,hB,hBi,hBM,hBMi,eN,eN',eM,eM',eF1,eF2,eF3,eG,eG',hf,hfn,eB,wB,fl,hk14,hz,hz',hw2,wF]
    refine A3 eii rfl ?_
    simp [hR,Pn,Po,Ar,tC,A7,A9,Ac,B5,hEn,hEm,Aa,A0,A8,Aq,hi,h3,e1,e1',w1,w2,hB,hBi,hBM,hBMi,eN,eN',eM,eM',eF1,eF2,eF3,eG,eG',hf,hfn,eB,wB,fl,hk14,hz,hz',hw2,wF]
    refine A3 t1 rfl ?_
    simp
    refine ⟨by first | omega | (simp; omega),?_⟩
    simp [hR,Pn,Po,Ar,tC,A7,A9,Ac,B5,hEn,hEm,Aa,A0,A8,Aq,hi,h3,e1,e1',w1,w2,hB,hBi,hBM,hBMi,eN,eN',eM,eM',eF1,eF2,eF3,eG,eG',hf,hfn,eB,wB,fl,hk14,hz,hz',hw2,wF]
    refine A3 t2 rfl ?_
    simp [hba,hR,Pn,Po,Ar,tC,A7,A9,Ac,B5,hEn,hEm,Aa,A0,A8,Aq,hi,h3,e1,e1',w1,w2,hB,hBi,hBM,hBMi,eN,eN',eM,eM',eF1,eF2,eF3,eG,eG',hf,hfn,eB,wB,fl,hk14,hz,hz',hw2,wF]
    refine ⟨by omega,?_⟩
    rw [hJ]
    simpa [L1,Ar] using ih
  ·have hun:unN c.nodes.l.length f ⟨xk,xin,xm,xb⟩=⟨xk,mvS c.nodes.l.length f xin,0,0⟩:=by unfold unN; rw [if_neg hk14]
   rw [hun] at eN eN'
   simp only [Bt,B5] at eN eN'
   by_cases hk0:xk=0
   ·obtain ⟨xl,xc,xn⟩:=xin
    have hxl:xl=[]:=by
     have h1:=hNG.f
     simp only [hk0] at h1
     have h2:(S5 0).1=0∧(S5 0).2=0:=by decide
     exact List.length_eq_zero_iff.1 (by omega)
    subst hxl
    subst hk0
    have g:=fun Q h0=>g0 Q f i (f:Int) hi h0
    have eii:=ei [] (by simp) none none none
    have hmv:mvS c.nodes.l.length (f:Int) ⟨[],xc,xn⟩=⟨[],some 0,none⟩:=rfl
    rw [hmv] at eN eN'
    simp only [By] at eN eN'
    simp [Pn,Po,Ar,tC,A7,A9,Ac,B5,hEn,hEm,By] at g
    simp only [By,List.length_nil] at eii
    simp [Pn,Po,Ar,tC,A7,A9,Ac,B5,hEn,hEm,Aa,A0,A8,Aq,hi,h3,e1,e1',w1,w2,hB,hBi,hBM,hBMi,eN,eN',eM,eM',eF1,eF2,eF3,eG,eG',hf,hfn,eB,wB,fl,wF]
    refine g _ ?_
    simp [St.freeze,Bc.closed,Bi,frz1,frz0,Dq,del,Aj,L1,qAa,Pn,Po,Ar,tC,A7,A9,Ac,B5,hEn,hEm,Aa,A0,A8,Aq,hi,h3,e1,e1',w1,w2,hB,hBi,hBM,hBMi,eN,eN',eM,eM',eF1,eF2,eF3,eG,eG',hf,hfn,eB,wB,fl,wF]
    refine A3 eii rfl ?_
    simp [Pn,Po,Ar,tC,A7,A9,Ac,B5,hEn,hEm,Aa,A0,A8,Aq,hi,h3,e1,e1',w1,w2,hB,hBi,hBM,hBMi,eN,eN',eM,eM',eF1,eF2,eF3,eG,eG',hf,hfn,eB,wB,fl,wF]
    refine A3 t1 rfl ?_
    simp
    refine ⟨by first | omega | (simp; omega),?_⟩
    simp [Pn,Po,Ar,tC,A7,A9,Ac,B5,hEn,hEm,Aa,A0,A8,Aq,hi,h3,e1,e1',w1,w2,hB,hBi,hBM,hBMi,eN,eN',eM,eM',eF1,eF2,eF3,eG,eG',hf,hfn,eB,wB,fl,wF]
    refine A3 t2 rfl ?_
    simp [hba,Pn,Po,Ar,tC,A7,A9,Ac,B5,hEn,hEm,Aa,A0,A8,Aq,hi,h3,e1,e1',w1,w2,hB,hBi,hBM,hBMi,eN,eN',eM,eM',eF1,eF2,eF3,eG,eG',hf,hfn,eB,wB,fl,wF]
    refine ⟨by omega,?_⟩
    rw [hJ]
    simpa [L1,Ar] using ih
   ·have g:=fun Q h0=>gN Q f xk hk0 (by omega) h0
    have hR:(Ax (mvL c.nodes.l.length f xin.l)).take xin.l.length=Ax (mvL c.nodes.l.length f xin.l):=by rw [← K2 (many:=c.nodes.l.length) (f:=(f:Int)) (l:=xin.l)]; exact An
    have eii:=ei (mvL c.nodes.l.length f xin.l) (by rw [K2]; omega) none none none
    rw [K2] at eii
    simp [Pn,Po,Ar,tC,A7,A9,Ac,B5,hEn,hEm,By] at g
    simp [Pn,Po,Ar,tC,A7,A9,Ac,B5,hEn,hEm,Aa,A0,A8,Aq,hi,h3,e1,e1',w1,w2,hB,hBi,hBM,hBMi,eN,eN',eM,eM',eF1,eF2,eF3,eG,eG',hf,hfn,eB,wB,fl,hk14,hk0,wF]
    refine g _ ?_
    simp [St.freeze,Bc.closed,Bi,frz1,frz0,Dq,del,Aj,L1,qAa,hR,Pn,Po,Ar,tC,A7,A9,Ac,B5,hEn,hEm,Aa,A0,A8,Aq,hi,h3,e1,e1',w1,w2,hB,hBi,hBM,hBMi,eN,eN',eM,eM',eF1,eF2,eF3,eG,eG',hf,hfn,eB,wB,fl,hk14,hk0,wF]
    refine A3 eii rfl ?_
    simp [hR,Pn,Po,Ar,tC,A7,A9,Ac,B5,hEn,hEm,Aa,A0,A8,Aq,hi,h3,e1,e1',w1,w2,hB,hBi,hBM,hBMi,eN,eN',eM,eM',eF1,eF2,eF3,eG,eG',hf,hfn,eB,wB,fl,hk14,hk0,wF]
    refine A3 t1 rfl ?_
    simp
    refine ⟨by first | omega | (simp; omega),?_⟩
    simp [hR,Pn,Po,Ar,tC,A7,A9,Ac,B5,hEn,hEm,Aa,A0,A8,Aq,hi,h3,e1,e1',w1,w2,hB,hBi,hBM,hBMi,eN,eN',eM,eM',eF1,eF2,eF3,eG,eG',hf,hfn,eB,wB,fl,hk14,hk0,wF]
    refine A3 t2 rfl ?_
    simp [hba,hR,Pn,Po,Ar,tC,A7,A9,Ac,B5,hEn,hEm,Aa,A0,A8,Aq,hi,h3,e1,e1',w1,w2,hB,hBi,hBM,hBMi,eN,eN',eM,eM',eF1,eF2,eF3,eG,eG',hf,hfn,eB,wB,fl,hk14,hk0,wF]
    refine ⟨by omega,?_⟩
    rw [hJ]
    simpa [L1,Ar] using ih
set_option maxHeartbeats 4000000 in
theorem qJZ {Q:AX→St→Prop} (c:B7) (hg:GNs false c.nodes.l) (hin:q7d c) (n:Nat) (h8:n≤8) (hm:c.nodes.l.length≤16) (hol:c.outs.l.length≤16) (ho:∀ p ∈ c.outs.l,0≤p∧p<c.nodes.l.length)
  (h0:Q (.exit 0) ⟨Pn c n (n*(c.outs.l.length+(Ag c).length)) n++[(101,.t (tB false))],Po c (tFr c n) (tC (Yl c n))⟩) :
  ∀ (q f:Nat),q+f=n →
  run Tryz.prog Γ H7 Q ⟨Pn c n (f*(c.outs.l.length+(Ag c).length)) f,Po c (tFr c n) (tC (Yl c n))⟩
 | 0,f,h=>by
  refine Ny fun J hJ=>?_
  have h2:f=n:=by omega
  subst h2
  simp [Pn,Po,tC,A7,A9,Ac,B5] at h0
  simp [Pn,Po,tC,A7,A9,Ac,B5]
  simpa using h0
 | q+1,f,h=>by
  refine Ny fun J hJ=>?_
  have hf:f<n:=by omega
  have hfn:(f:Int)<n:=by omega
  have g3:=fun Q h0=>qJY (Γ:=Γ) (Q:=Q) c hg hin n f (f*(c.outs.l.length+(Ag c).length)) hf h8 hm h0 c.nodes.l.length 0 (by omega)
  have g5:=fun Q h0=>qJW (Γ:=Γ) (Q:=Q) c n f hf h8 hm hol ho (tFr c n) h0 c.outs.l.length 0 (by omega)
  have g7:=fun Q h0=>qJX (Γ:=Γ) (Q:=Q) c hg n f hf h8 hm hol (tFr c n) h0 (Ag c).length 0 (by omega)
  have ih:=qJZ c hg hin n h8 hm hol ho h0 q (f+1) (by omega)
  have w1:=B8 (i:=f) (by omega)
  rw [Nat.succ_mul] at ih
  simp only [Nat.add_zero] at g5 g7
  generalize f*(c.outs.l.length+(Ag c).length)=A at *
  have hA:A+(c.outs.l.length+(Ag c).length)=A+c.outs.l.length+(Ag c).length:=by omega
  generalize A+(c.outs.l.length+(Ag c).length)=A2 at *
  generalize A+c.outs.l.length=A1 at *
  generalize tFr c n=FR at *
  simp [Pn,Po,tC,A7,A9,Ac,B5] at g3 g5 g7 ih
  simp [Pn,Po,tC,A7,A9,Ac,B5,hf,hfn]
  refine g3 _ ?_
  simp
  refine g5 _ ?_
  simp
  refine g7 _ ?_
  simp [w1]
  rw [hJ]
  simpa using ih
set_option maxHeartbeats 4000000 in
theorem qHq (hΓ:GOk Γ) (x:CD) (hx:q4v x) (z:Int) (hz:0≤z∧z≤255) :
  Ae Tryz.prog Γ 3 [.agg (Ni x),tK z] (tB true):=by
 refine B1 q2R rfl ?_
 have hx':=qH2 hx
 have hc:=qKa hx' rfl
 have hg0:=Zv hx'
 have e1:=qIO (Γ:=Γ) (qCN x) hx'
 have hg:GNs false (Q7 (qCN x)).nodes.l:=hg0
 generalize hcc:Q7 (qCN x)=c at *
 have hm:=hc.n2
 have h1:=hc.n1
 have hsl:=C5 c
 have hol:c.outs.l.length≤4:=by rw [← hcc]; simp [Q7]; omega
 have ho:=qIf (Kt hc.lev).1
 have hin:q7d c:=fun y hy=>by
  obtain ⟨i,hi,rfl⟩:=List.getElem_of_mem hy
  have h:=hg i hi
  have h2:=qDV c.nodes.l[i].k
  have h3:=h.f
  exact ⟨by omega,fun k hk=>by have:=h.inn k hk; omega⟩
 obtain ⟨n,hn,n1,n8⟩:∃ n:Nat,(1:Int)+z.tmod 6=n∧1≤n∧n≤8:=by
  have h0:=Int.tmod_eq_emod_of_nonneg (b:=6) hz.1
  exact ⟨(1+z % 6).toNat,by rw [h0]; omega,by omega,by omega⟩
 have hst:=fun (x:Int) (hx:x ∈ Ag c)=>(⟨(Ph (c:=c) x hx).1,(Ph (c:=c) x hx).2.1⟩:0≤x∧x<c.nodes.l.length)
 have e2:=q7f (Γ:=Γ) hΓ c hc hin (by omega) (fun k hk=>by have:=ho k hk; omega) hst n n1 n8
 have e3:=Ek (Γ:=Γ) c hc.ok
 have eL:=qHf hg ho (by omega) n1 n8 h1 hm
 have eO:=qIi hg (by omega) n1 n8 h1 hm
 have e4:=q1Y (Γ:=Γ) hΓ (Yl c n) eO
 rw [eL] at e4
 have g9:=fun Q h0=>qJZ (Γ:=Γ) (Q:=Q) c hg hin n n8 hm (by omega) ho h0 n 0 (by omega)
 have lN:=L2 (c:=c) (n:=n)
 have lM:=q1H (c:=c) (n:=n)
 have lO:=q1I (c:=c) (n:=n)
 have b1:n*c.nodes.l.length≤8*16:=Nat.mul_le_mul n8 hm
 have b2:n*(c.outs.l.length+(Ag c).length)≤8*20:=Nat.mul_le_mul n8 (by omega)
 have c1:((n*c.nodes.l.length:Nat):Int)=(n:Int)*c.nodes.l.length:=by simp
 have c2:((n*(c.outs.l.length+(Ag c).length):Nat):Int)=(n:Int)*((c.outs.l.length:Int)+(Ag c).length):=by simp
 have w1:IntKind.i64.wrap ((n:Int)*c.nodes.l.length)=(n:Int)*c.nodes.l.length:=by rw [← c1]; exact A5 (by omega) (by omega)
 have w2:IntKind.i64.wrap ((n:Int)*c.nodes.l.length+(Ag c).length)=(n:Int)*c.nodes.l.length+(Ag c).length:=by rw [← c1]; exact A5 (by omega) (by omega)
 have w3:IntKind.i64.wrap ((c.outs.l.length:Int)+(Ag c).length)=(c.outs.l.length:Int)+(Ag c).length:=A5 (by omega) (by omega)
 have w4:IntKind.i64.wrap ((n:Int)*((c.outs.l.length:Int)+(Ag c).length))=(n:Int)*((c.outs.l.length:Int)+(Ag c).length):=by rw [← c2]; exact A5 (by omega) (by omega)
 have w5:IntKind.i64.wrap (z.tmod 6)=z.tmod 6:=A5 (by omega) (by omega)
 have w6:IntKind.i64.wrap (1+z.tmod 6)=(n:Int):=by rw [hn]; exact A5 (by omega) (by omega)
 have hX:tFr c n=[.sl (Ao Bt (Fe c n)) (some (Fe c n).length) none,.sl (Af tS (J4 c n)) (some (J4 c n).length) none,.sl [] (some 0) (some true),.sl (Ax (Gf c n)) (some (Gf c n).length) none,.sl ((Oo c.nodes.l.length n).map fun t=>[t]) (some n) none]:=rfl
 have hY:tC (Yl c n)=[.sl (Ao Bt (Fe c n)) (some (Fe c n).length) none,.sl (Af tS (J4 c n)) (some (J4 c n).length) none,.sl [] (some 0) (some true),.sl (Ax (Gf c n)) (some (Gf c n).length) none]:=rfl
 have lF:((Oo c.nodes.l.length n).map fun t=>[t]).length=n:=by rw [List.length_map,q3L]
 rw [hX] at e2
 rw [hX,hY] at g9
 rw [hY] at e4
 generalize (Oo c.nodes.l.length n).map (fun t=>[t])=FF at *
 generalize Fe c n=NX at *
 generalize J4 c n=MX at *
 generalize Gf c n=OX at *
 simp [Ni,qCN,tC,A7,A9,Ac,B5] at e1 e2 e3 e4
 simp [Pn,Po,tC,A7,A9,Ac,B5] at g9
 simp only [lN,lM,lO] at e4 g9
 simp [V1,Ni]
 refine Ad e1 rfl ?_
 simp [w5,w6,Aa,A0]
 refine Ad e2 rfl ?_
 simp
 refine Ad e3 rfl ?_
 simp [Aa,A0,lN,lM,lO,lF,w1,w2,w3,w4]
 refine A3 e4 rfl ?_
 simp
 refine g9 _ ?_
 simp
 refine Ad (qBN hΓ) rfl ?_
 simp [V5]
end Go.Lg
