/- The abstract code of some functions, as the program gen.py prints it. Conditions: none. -/
import Derived.Test.YtgnghiijbegacaaDoorPkC
import Derived.Test.YtgnghiijbegacaaDoorProg
import Derived.KernelRfl
import Derived.Test.YtgnghiijbegacaaDoorPkD
import Derived.Test.YtgnghiijbegacaaDoorPkE
set_option linter.unusedVariables false
namespace Go.Lg
open Go
section
variable {P : Program} {Γ : Tables} {Q : AX → St → Prop} {s : St}
/- probecard/probecardlaw34.ScansInsert (function 10) -/
def law34_ScansInsert_r0 : List RO := [
    ⟨some 1, .box true (.tmp 0), none, none⟩,
    ⟨some 2, .mv (.const (.bool false)), none, none⟩]
def law34_ScansInsert_r1 : List RO := [
    ⟨some 17, .load 14 true (.tmp 1), none, none⟩,
    ⟨some 18, .call 19 [(.tmp 17)], none, none⟩,
    ⟨some 16, .mv (.tmp 18), none, none⟩,
    ⟨some 19, .ext (.tmp 16) 0, none, none⟩,
    ⟨some 20, .ext (.tmp 16) 1, none, none⟩,
    ⟨some 3, .alloc false [(.slice none 0 0), (.slice none 0 0), (.slice none 0 0), (.slice none 0 0)], none, none⟩,
    ⟨none, .store 4 (.tmp 3) (.tmp 19), none, none⟩,
    ⟨some 4, .mv (.tmp 20), none, none⟩]
def law34_ScansInsert_r2 : List RO := [
    ⟨some 22, .load 4 true (.tmp 3), none, none⟩,
    ⟨some 23, .mv (.tmp 4), none, none⟩,
    ⟨some 24, .call 37 [(.tmp 22), (.tmp 23)], none, none⟩,
    ⟨some 21, .mv (.tmp 24), none, none⟩,
    ⟨some 25, .ext (.tmp 21) 0, none, none⟩,
    ⟨some 26, .ext (.tmp 21) 1, none, none⟩,
    ⟨some 5, .alloc false [(.slice none 0 0), (.slice none 0 0), (.slice none 0 0), (.slice none 0 0), (.slice none 0 0), (.int .i64 0), (.slice none 0 0), (.slice none 0 0)], none, none⟩,
    ⟨none, .store 8 (.tmp 5) (.tmp 25), none, none⟩,
    ⟨some 6, .mv (.tmp 26), none, none⟩]
def law34_ScansInsert_r3 : List RO := [
    ⟨some 27, .mv (.tmp 6), none, none⟩,
    ⟨some 28, .bin .neq (.tmp 27) (.const (.int .i64 0)), none, none⟩,
    ⟨some 29, .mv (.tmp 28), none, none⟩,
    ⟨some 30, .fadr 0 (.tmp 5), some (29, false), none⟩,
    ⟨some 31, .load 4 true (.tmp 30), some (29, false), none⟩,
    ⟨some 32, .call 14 [(.tmp 31)], some (29, false), none⟩,
    ⟨some 33, .bin .neq (.tmp 32) (.const (.int .i64 0)), some (29, false), none⟩,
    ⟨some 34, .pick (.tmp 29) (.const (.bool true)) (.tmp 33), none, none⟩,
    ⟨some 35, .mv (.tmp 34), none, none⟩,
    ⟨some 36, .fadr 6 (.tmp 5), some (35, false), none⟩,
    ⟨some 37, .load 1 false (.tmp 36), some (35, false), none⟩,
    ⟨some 38, .len 0 (.tmp 37), some (35, false), none⟩,
    ⟨some 39, .mv (.tmp 4), some (35, false), none⟩,
    ⟨some 40, .len 0 (.tmp 39), some (35, false), none⟩,
    ⟨some 41, .bin .neq (.tmp 38) (.tmp 40), some (35, false), none⟩,
    ⟨some 42, .pick (.tmp 35) (.const (.bool true)) (.tmp 41), none, none⟩,
    ⟨some 43, .mv (.tmp 42), none, none⟩,
    ⟨some 44, .fadr 4 (.tmp 5), some (43, false), none⟩,
    ⟨some 45, .load 1 false (.tmp 44), some (43, false), none⟩,
    ⟨some 46, .len 0 (.tmp 45), some (43, false), none⟩,
    ⟨some 47, .mv (.tmp 4), some (43, false), none⟩,
    ⟨some 48, .len 0 (.tmp 47), some (43, false), none⟩,
    ⟨some 49, .bin .neq (.tmp 46) (.tmp 48), some (43, false), none⟩,
    ⟨some 50, .pick (.tmp 43) (.const (.bool true)) (.tmp 49), none, none⟩]
def law34_ScansInsert_r4 : List RO := [
    ⟨some 2, .mv (.const (.bool false)), none, none⟩]
def law34_ScansInsert_r5 : List RO := [
    ⟨some 51, .load 4 true (.tmp 3), none, none⟩,
    ⟨some 52, .call 17 [(.tmp 51)], none, none⟩,
    ⟨some 7, .mv (.tmp 52), none, none⟩]
def law34_ScansInsert_r6 : List RO := [
    ⟨some 53, .fadr 0 (.tmp 3), none, none⟩,
    ⟨some 54, .load 1 false (.tmp 53), none, none⟩,
    ⟨some 55, .len 0 (.tmp 54), none, none⟩,
    ⟨some 8, .mv (.tmp 55), none, none⟩]
def law34_ScansInsert_r7 : List RO := [
    ⟨some 56, .fadr 0 (.tmp 5), none, none⟩,
    ⟨some 57, .fadr 0 (.tmp 56), none, none⟩,
    ⟨some 58, .load 1 false (.tmp 57), none, none⟩,
    ⟨some 59, .len 0 (.tmp 58), none, none⟩,
    ⟨some 60, .mv (.tmp 8), none, none⟩,
    ⟨some 61, .bin .add (.tmp 60) (.const (.int .i64 1)), none, none⟩,
    ⟨some 62, .mv (.tmp 4), none, none⟩,
    ⟨some 63, .len 0 (.tmp 62), none, none⟩,
    ⟨some 64, .bin .add (.tmp 61) (.tmp 63), none, none⟩,
    ⟨some 65, .mv (.tmp 7), none, none⟩,
    ⟨some 66, .len 0 (.tmp 65), none, none⟩,
    ⟨some 67, .bin .add (.tmp 64) (.tmp 66), none, none⟩,
    ⟨some 68, .bin .neq (.tmp 59) (.tmp 67), none, none⟩,
    ⟨some 69, .mv (.tmp 68), none, none⟩,
    ⟨some 70, .fadr 5 (.tmp 5), some (69, false), none⟩,
    ⟨some 71, .load 1 false (.tmp 70), some (69, false), none⟩,
    ⟨some 72, .mv (.tmp 8), some (69, false), none⟩,
    ⟨some 73, .bin .neq (.tmp 71) (.tmp 72), some (69, false), none⟩,
    ⟨some 74, .pick (.tmp 69) (.const (.bool true)) (.tmp 73), none, none⟩,
    ⟨some 75, .mv (.tmp 74), none, none⟩,
    ⟨some 76, .fadr 7 (.tmp 5), some (75, false), none⟩,
    ⟨some 77, .load 1 false (.tmp 76), some (75, false), none⟩,
    ⟨some 78, .len 0 (.tmp 77), some (75, false), none⟩,
    ⟨some 79, .mv (.tmp 7), some (75, false), none⟩,
    ⟨some 80, .len 0 (.tmp 79), some (75, false), none⟩,
    ⟨some 81, .bin .neq (.tmp 78) (.tmp 80), some (75, false), none⟩,
    ⟨some 82, .pick (.tmp 75) (.const (.bool true)) (.tmp 81), none, none⟩,
    ⟨some 83, .mv (.tmp 82), none, none⟩,
    ⟨some 84, .fadr 0 (.tmp 5), some (83, false), none⟩,
    ⟨some 85, .fadr 3 (.tmp 84), some (83, false), none⟩,
    ⟨some 86, .load 1 false (.tmp 85), some (83, false), none⟩,
    ⟨some 87, .len 0 (.tmp 86), some (83, false), none⟩,
    ⟨some 88, .fadr 3 (.tmp 3), some (83, false), none⟩,
    ⟨some 89, .load 1 false (.tmp 88), some (83, false), none⟩,
    ⟨some 90, .len 0 (.tmp 89), some (83, false), none⟩,
    ⟨some 91, .mv (.tmp 4), some (83, false), none⟩,
    ⟨some 92, .len 0 (.tmp 91), some (83, false), none⟩,
    ⟨some 93, .bin .add (.tmp 90) (.tmp 92), some (83, false), none⟩,
    ⟨some 94, .bin .neq (.tmp 87) (.tmp 93), some (83, false), none⟩,
    ⟨some 95, .pick (.tmp 83) (.const (.bool true)) (.tmp 94), none, none⟩]
def law34_ScansInsert_r8 : List RO := [
    ⟨some 2, .mv (.const (.bool false)), none, none⟩]
def law34_ScansInsert_r9 : List RO := [
    ⟨some 9, .mv (.const (.int .i64 0)), none, none⟩]
def law34_ScansInsert_r10 : List RO := [
    ⟨some 96, .mv (.tmp 9), none, none⟩,
    ⟨some 97, .mv (.tmp 8), none, none⟩,
    ⟨some 98, .bin .lss (.tmp 96) (.tmp 97), none, none⟩]
def law34_ScansInsert_r12 : List RO := [
    ⟨some 101, .fadr 0 (.tmp 5), none, none⟩,
    ⟨some 102, .fadr 1 (.tmp 101), none, none⟩,
    ⟨some 103, .load 1 false (.tmp 102), none, none⟩,
    ⟨some 104, .mv (.tmp 9), none, none⟩,
    ⟨some 105, .iadr 1 (.tmp 103) (.tmp 104), none, none⟩,
    ⟨some 106, .load 1 false (.tmp 105), none, none⟩,
    ⟨some 107, .fadr 1 (.tmp 3), none, none⟩,
    ⟨some 108, .load 1 false (.tmp 107), none, none⟩,
    ⟨some 109, .mv (.tmp 9), none, none⟩,
    ⟨some 110, .iadr 1 (.tmp 108) (.tmp 109), none, none⟩,
    ⟨some 111, .load 1 false (.tmp 110), none, none⟩,
    ⟨some 112, .bin .neq (.tmp 106) (.tmp 111), none, none⟩,
    ⟨some 113, .mv (.tmp 112), none, none⟩,
    ⟨some 114, .fadr 0 (.tmp 5), some (113, false), none⟩,
    ⟨some 115, .fadr 0 (.tmp 114), some (113, false), none⟩,
    ⟨some 116, .load 1 false (.tmp 115), some (113, false), none⟩,
    ⟨some 117, .mv (.tmp 9), some (113, false), none⟩,
    ⟨some 118, .iadr 4 (.tmp 116) (.tmp 117), some (113, false), none⟩,
    ⟨some 119, .fadr 0 (.tmp 118), some (113, false), none⟩,
    ⟨some 120, .load 1 false (.tmp 119), some (113, false), none⟩,
    ⟨some 121, .fadr 0 (.tmp 3), some (113, false), none⟩,
    ⟨some 122, .load 1 false (.tmp 121), some (113, false), none⟩,
    ⟨some 123, .mv (.tmp 9), some (113, false), none⟩,
    ⟨some 124, .iadr 4 (.tmp 122) (.tmp 123), some (113, false), none⟩,
    ⟨some 125, .fadr 0 (.tmp 124), some (113, false), none⟩,
    ⟨some 126, .load 1 false (.tmp 125), some (113, false), none⟩,
    ⟨some 127, .bin .neq (.tmp 120) (.tmp 126), some (113, false), none⟩,
    ⟨some 128, .pick (.tmp 113) (.const (.bool true)) (.tmp 127), none, none⟩,
    ⟨some 129, .mv (.tmp 128), none, none⟩,
    ⟨some 130, .fadr 0 (.tmp 5), some (129, false), none⟩,
    ⟨some 131, .fadr 0 (.tmp 130), some (129, false), none⟩,
    ⟨some 132, .load 1 false (.tmp 131), some (129, false), none⟩,
    ⟨some 133, .mv (.tmp 9), some (129, false), none⟩,
    ⟨some 134, .iadr 4 (.tmp 132) (.tmp 133), some (129, false), none⟩,
    ⟨some 135, .fadr 1 (.tmp 134), some (129, false), none⟩,
    ⟨some 136, .load 1 false (.tmp 135), some (129, false), none⟩,
    ⟨some 137, .len 0 (.tmp 136), some (129, false), none⟩,
    ⟨some 138, .fadr 0 (.tmp 3), some (129, false), none⟩,
    ⟨some 139, .load 1 false (.tmp 138), some (129, false), none⟩,
    ⟨some 140, .mv (.tmp 9), some (129, false), none⟩,
    ⟨some 141, .iadr 4 (.tmp 139) (.tmp 140), some (129, false), none⟩,
    ⟨some 142, .fadr 1 (.tmp 141), some (129, false), none⟩,
    ⟨some 143, .load 1 false (.tmp 142), some (129, false), none⟩,
    ⟨some 144, .len 0 (.tmp 143), some (129, false), none⟩,
    ⟨some 145, .bin .neq (.tmp 137) (.tmp 144), some (129, false), none⟩,
    ⟨some 146, .pick (.tmp 129) (.const (.bool true)) (.tmp 145), none, none⟩]
def law34_ScansInsert_r13 : List RO := [
    ⟨some 2, .mv (.const (.bool false)), none, none⟩]
def law34_ScansInsert_r14 : List RO := [
    ⟨some 10, .mv (.const (.int .i64 0)), none, none⟩]
def law34_ScansInsert_r15 : List RO := [
    ⟨some 147, .mv (.tmp 10), none, none⟩,
    ⟨some 148, .fadr 0 (.tmp 3), none, none⟩,
    ⟨some 149, .load 1 false (.tmp 148), none, none⟩,
    ⟨some 150, .mv (.tmp 9), none, none⟩,
    ⟨some 151, .iadr 4 (.tmp 149) (.tmp 150), none, none⟩,
    ⟨some 152, .fadr 1 (.tmp 151), none, none⟩,
    ⟨some 153, .load 1 false (.tmp 152), none, none⟩,
    ⟨some 154, .len 0 (.tmp 153), none, none⟩,
    ⟨some 155, .bin .lss (.tmp 147) (.tmp 154), none, none⟩,
    ⟨some 156, .mv (.tmp 155), none, none⟩,
    ⟨some 157, .fadr 0 (.tmp 3), some (156, true), none⟩,
    ⟨some 158, .load 1 false (.tmp 157), some (156, true), none⟩,
    ⟨some 159, .mv (.tmp 9), some (156, true), none⟩,
    ⟨some 160, .iadr 4 (.tmp 158) (.tmp 159), some (156, true), none⟩,
    ⟨some 161, .fadr 0 (.tmp 160), some (156, true), none⟩,
    ⟨some 162, .load 1 false (.tmp 161), some (156, true), none⟩,
    ⟨some 163, .bin .neq (.tmp 162) (.const (.int .u8 14)), some (156, true), none⟩,
    ⟨some 164, .pick (.tmp 156) (.tmp 163) (.const (.bool false)), none, none⟩]
def law34_ScansInsert_r17 : List RO := [
    ⟨some 167, .fadr 0 (.tmp 5), none, none⟩,
    ⟨some 168, .fadr 0 (.tmp 167), none, none⟩,
    ⟨some 169, .load 1 false (.tmp 168), none, none⟩,
    ⟨some 170, .mv (.tmp 9), none, none⟩,
    ⟨some 171, .iadr 4 (.tmp 169) (.tmp 170), none, none⟩,
    ⟨some 172, .fadr 1 (.tmp 171), none, none⟩,
    ⟨some 173, .load 1 false (.tmp 172), none, none⟩,
    ⟨some 174, .mv (.tmp 10), none, none⟩,
    ⟨some 175, .iadr 1 (.tmp 173) (.tmp 174), none, none⟩,
    ⟨some 176, .load 1 false (.tmp 175), none, none⟩,
    ⟨some 177, .fadr 0 (.tmp 3), none, none⟩,
    ⟨some 178, .load 1 false (.tmp 177), none, none⟩,
    ⟨some 179, .mv (.tmp 9), none, none⟩,
    ⟨some 180, .iadr 4 (.tmp 178) (.tmp 179), none, none⟩,
    ⟨some 181, .fadr 1 (.tmp 180), none, none⟩,
    ⟨some 182, .load 1 false (.tmp 181), none, none⟩,
    ⟨some 183, .mv (.tmp 10), none, none⟩,
    ⟨some 184, .iadr 1 (.tmp 182) (.tmp 183), none, none⟩,
    ⟨some 185, .load 1 false (.tmp 184), none, none⟩,
    ⟨some 186, .bin .neq (.tmp 176) (.tmp 185), none, none⟩]
def law34_ScansInsert_r18 : List RO := [
    ⟨some 2, .mv (.const (.bool false)), none, none⟩]
def law34_ScansInsert_r16 : List RO := [
    ⟨some 165, .mv (.tmp 10), none, none⟩,
    ⟨some 166, .bin .add (.tmp 165) (.const (.int .i64 1)), none, none⟩,
    ⟨some 10, .mv (.tmp 166), none, none⟩]
def law34_ScansInsert_g0 : IC := .gh (.seq (.seq (.reg law34_ScansInsert_r15 [.keep [3, 4, 5, 7, 8, 9, 10, 164] [3, 5]]) (.cond (.tmp 164) .skip (.exit 2))) (.seq (.block 3 (.seq (.reg law34_ScansInsert_r17 [.keep [3, 4, 5, 7, 8, 9, 10, 186] [3, 5]]) (.cond (.tmp 186) (.seq (.reg law34_ScansInsert_r18 [.keep [2] []]) .ret) .skip))) (.reg law34_ScansInsert_r16 [.keep [3, 4, 5, 7, 8, 9, 10] [3, 5]]))) [.keep [3, 4, 5, 7, 8, 9, 10] [3, 5]]
def law34_ScansInsert_l1 : IC := .loop law34_ScansInsert_g0
def law34_ScansInsert_r11 : List RO := [
    ⟨some 99, .mv (.tmp 9), none, none⟩,
    ⟨some 100, .bin .add (.tmp 99) (.const (.int .i64 1)), none, none⟩,
    ⟨some 9, .mv (.tmp 100), none, none⟩]
def law34_ScansInsert_g2 : IC := .gh (.seq (.seq (.reg law34_ScansInsert_r10 [.keep [3, 4, 5, 7, 8, 9, 98] [3, 5]]) (.cond (.tmp 98) .skip (.exit 0))) (.seq (.block 1 (.seq (.seq (.reg law34_ScansInsert_r12 [.keep [3, 4, 5, 7, 8, 9, 146] [3, 5]]) (.cond (.tmp 146) (.seq (.reg law34_ScansInsert_r13 [.keep [2] []]) .ret) .skip)) (.seq (.reg law34_ScansInsert_r14 [.keep [3, 4, 5, 7, 8, 9, 10] [3, 5]]) (.block 2 law34_ScansInsert_l1)))) (.reg law34_ScansInsert_r11 [.keep [3, 4, 5, 7, 8, 9] [3, 5]]))) [.keep [3, 4, 5, 7, 8, 9] [3, 5]]
def law34_ScansInsert_l3 : IC := .loop law34_ScansInsert_g2
def law34_ScansInsert_r19 : List RO := [
    ⟨some 11, .mv (.const (.int .i64 0)), none, none⟩]
def law34_ScansInsert_r20 : List RO := [
    ⟨some 187, .mv (.tmp 11), none, none⟩,
    ⟨some 188, .mv (.tmp 4), none, none⟩,
    ⟨some 189, .len 0 (.tmp 188), none, none⟩,
    ⟨some 190, .bin .lss (.tmp 187) (.tmp 189), none, none⟩]
def law34_ScansInsert_r22 : List RO := [
    ⟨some 193, .mv (.tmp 4), none, none⟩,
    ⟨some 194, .mv (.tmp 11), none, none⟩,
    ⟨some 195, .iadr 1 (.tmp 193) (.tmp 194), none, none⟩,
    ⟨some 196, .load 1 false (.tmp 195), none, none⟩,
    ⟨some 197, .mv (.tmp 4), none, none⟩,
    ⟨some 198, .mv (.tmp 11), none, none⟩,
    ⟨some 199, .iadr 1 (.tmp 197) (.tmp 198), none, none⟩,
    ⟨some 200, .load 1 false (.tmp 199), none, none⟩,
    ⟨some 201, .len 0 (.tmp 200), none, none⟩,
    ⟨some 202, .bin .sub (.tmp 201) (.const (.int .i64 1)), none, none⟩,
    ⟨some 203, .iadr 1 (.tmp 196) (.tmp 202), none, none⟩,
    ⟨some 204, .load 1 false (.tmp 203), none, none⟩,
    ⟨some 12, .mv (.tmp 204), none, none⟩]
def law34_ScansInsert_r23 : List RO := [
    ⟨some 205, .fadr 6 (.tmp 5), none, none⟩,
    ⟨some 206, .load 1 false (.tmp 205), none, none⟩,
    ⟨some 207, .mv (.tmp 11), none, none⟩,
    ⟨some 208, .iadr 1 (.tmp 206) (.tmp 207), none, none⟩,
    ⟨some 209, .load 1 false (.tmp 208), none, none⟩,
    ⟨some 210, .mv (.tmp 8), none, none⟩,
    ⟨some 211, .bin .add (.tmp 210) (.const (.int .i64 1)), none, none⟩,
    ⟨some 212, .mv (.tmp 11), none, none⟩,
    ⟨some 213, .bin .add (.tmp 211) (.tmp 212), none, none⟩,
    ⟨some 214, .bin .neq (.tmp 209) (.tmp 213), none, none⟩,
    ⟨some 215, .mv (.tmp 214), none, none⟩,
    ⟨some 216, .fadr 0 (.tmp 5), some (215, false), none⟩,
    ⟨some 217, .fadr 0 (.tmp 216), some (215, false), none⟩,
    ⟨some 218, .load 1 false (.tmp 217), some (215, false), none⟩,
    ⟨some 219, .fadr 6 (.tmp 5), some (215, false), none⟩,
    ⟨some 220, .load 1 false (.tmp 219), some (215, false), none⟩,
    ⟨some 221, .mv (.tmp 11), some (215, false), none⟩,
    ⟨some 222, .iadr 1 (.tmp 220) (.tmp 221), some (215, false), none⟩,
    ⟨some 223, .load 1 false (.tmp 222), some (215, false), none⟩,
    ⟨some 224, .iadr 4 (.tmp 218) (.tmp 223), some (215, false), none⟩,
    ⟨some 225, .fadr 0 (.tmp 224), some (215, false), none⟩,
    ⟨some 226, .load 1 false (.tmp 225), some (215, false), none⟩,
    ⟨some 227, .bin .neq (.tmp 226) (.const (.int .u8 0)), some (215, false), none⟩,
    ⟨some 228, .pick (.tmp 215) (.const (.bool true)) (.tmp 227), none, none⟩,
    ⟨some 229, .mv (.tmp 228), none, none⟩,
    ⟨some 230, .fadr 0 (.tmp 5), some (229, false), none⟩,
    ⟨some 231, .fadr 3 (.tmp 230), some (229, false), none⟩,
    ⟨some 232, .load 1 false (.tmp 231), some (229, false), none⟩,
    ⟨some 233, .fadr 3 (.tmp 3), some (229, false), none⟩,
    ⟨some 234, .load 1 false (.tmp 233), some (229, false), none⟩,
    ⟨some 235, .len 0 (.tmp 234), some (229, false), none⟩,
    ⟨some 236, .mv (.tmp 11), some (229, false), none⟩,
    ⟨some 237, .bin .add (.tmp 235) (.tmp 236), some (229, false), none⟩,
    ⟨some 238, .iadr 1 (.tmp 232) (.tmp 237), some (229, false), none⟩,
    ⟨some 239, .load 1 false (.tmp 238), some (229, false), none⟩,
    ⟨some 240, .mv (.tmp 12), some (229, false), none⟩,
    ⟨some 241, .bin .neq (.tmp 239) (.tmp 240), some (229, false), none⟩,
    ⟨some 242, .pick (.tmp 229) (.const (.bool true)) (.tmp 241), none, none⟩]
def law34_ScansInsert_r24 : List RO := [
    ⟨some 2, .mv (.const (.bool false)), none, none⟩]
def law34_ScansInsert_r21 : List RO := [
    ⟨some 191, .mv (.tmp 11), none, none⟩,
    ⟨some 192, .bin .add (.tmp 191) (.const (.int .i64 1)), none, none⟩,
    ⟨some 11, .mv (.tmp 192), none, none⟩]
def law34_ScansInsert_g4 : IC := .gh (.seq (.seq (.reg law34_ScansInsert_r20 [.keep [3, 4, 5, 7, 8, 11, 190] [3, 5]]) (.cond (.tmp 190) .skip (.exit 4))) (.seq (.block 5 (.seq (.reg law34_ScansInsert_r22 [.keep [3, 4, 5, 7, 8, 11, 12] [3, 5]]) (.seq (.reg law34_ScansInsert_r23 [.keep [3, 4, 5, 7, 8, 11, 242] [3, 5]]) (.cond (.tmp 242) (.seq (.reg law34_ScansInsert_r24 [.keep [2] []]) .ret) .skip)))) (.reg law34_ScansInsert_r21 [.keep [3, 4, 5, 7, 8, 11] [3, 5]]))) [.keep [3, 4, 5, 7, 8, 11] [3, 5]]
def law34_ScansInsert_l5 : IC := .loop law34_ScansInsert_g4
def law34_ScansInsert_r25 : List RO := [
    ⟨some 13, .mv (.const (.int .i64 0)), none, none⟩]
def law34_ScansInsert_r26 : List RO := [
    ⟨some 243, .mv (.tmp 13), none, none⟩,
    ⟨some 244, .mv (.tmp 7), none, none⟩,
    ⟨some 245, .len 0 (.tmp 244), none, none⟩,
    ⟨some 246, .bin .lss (.tmp 243) (.tmp 245), none, none⟩]
def law34_ScansInsert_r28 : List RO := [
    ⟨some 249, .mv (.tmp 8), none, none⟩,
    ⟨some 250, .bin .add (.tmp 249) (.const (.int .i64 1)), none, none⟩,
    ⟨some 251, .mv (.tmp 4), none, none⟩,
    ⟨some 252, .len 0 (.tmp 251), none, none⟩,
    ⟨some 253, .bin .add (.tmp 250) (.tmp 252), none, none⟩,
    ⟨some 254, .mv (.tmp 13), none, none⟩,
    ⟨some 255, .bin .add (.tmp 253) (.tmp 254), none, none⟩,
    ⟨some 14, .mv (.tmp 255), none, none⟩]
def law34_ScansInsert_r29 : List RO := [
    ⟨some 256, .fadr 0 (.tmp 5), none, none⟩,
    ⟨some 257, .fadr 0 (.tmp 256), none, none⟩,
    ⟨some 258, .load 1 false (.tmp 257), none, none⟩,
    ⟨some 259, .mv (.tmp 14), none, none⟩,
    ⟨some 260, .iadr 4 (.tmp 258) (.tmp 259), none, none⟩,
    ⟨some 261, .load 4 true (.tmp 260), none, none⟩,
    ⟨some 15, .alloc false [(.int .u8 0), (.slice none 0 0), (.int .i64 0), (.int .i64 0)], none, none⟩,
    ⟨none, .store 4 (.tmp 15) (.tmp 261), none, none⟩]
def law34_ScansInsert_r30 : List RO := [
    ⟨some 262, .fadr 7 (.tmp 5), none, none⟩,
    ⟨some 263, .load 1 false (.tmp 262), none, none⟩,
    ⟨some 264, .mv (.tmp 13), none, none⟩,
    ⟨some 265, .iadr 1 (.tmp 263) (.tmp 264), none, none⟩,
    ⟨some 266, .load 1 false (.tmp 265), none, none⟩,
    ⟨some 267, .mv (.tmp 14), none, none⟩,
    ⟨some 268, .bin .neq (.tmp 266) (.tmp 267), none, none⟩,
    ⟨some 269, .mv (.tmp 268), none, none⟩,
    ⟨some 270, .fadr 0 (.tmp 15), some (269, false), none⟩,
    ⟨some 271, .load 1 false (.tmp 270), some (269, false), none⟩,
    ⟨some 272, .bin .neq (.tmp 271) (.const (.int .u8 11)), some (269, false), none⟩,
    ⟨some 273, .pick (.tmp 269) (.const (.bool true)) (.tmp 272), none, none⟩,
    ⟨some 274, .mv (.tmp 273), none, none⟩,
    ⟨some 275, .fadr 1 (.tmp 15), some (274, false), none⟩,
    ⟨some 276, .load 1 false (.tmp 275), some (274, false), none⟩,
    ⟨some 277, .len 0 (.tmp 276), some (274, false), none⟩,
    ⟨some 278, .bin .neq (.tmp 277) (.const (.int .i64 3)), some (274, false), none⟩,
    ⟨some 279, .pick (.tmp 274) (.const (.bool true)) (.tmp 278), none, none⟩,
    ⟨some 280, .mv (.tmp 279), none, none⟩,
    ⟨some 281, .fadr 1 (.tmp 15), some (280, false), none⟩,
    ⟨some 282, .load 1 false (.tmp 281), some (280, false), none⟩,
    ⟨some 283, .iadr 1 (.tmp 282) (.const (.int .i64 0)), some (280, false), none⟩,
    ⟨some 284, .load 1 false (.tmp 283), some (280, false), none⟩,
    ⟨some 285, .mv (.tmp 8), some (280, false), none⟩,
    ⟨some 286, .bin .neq (.tmp 284) (.tmp 285), some (280, false), none⟩,
    ⟨some 287, .pick (.tmp 280) (.const (.bool true)) (.tmp 286), none, none⟩,
    ⟨some 288, .mv (.tmp 287), none, none⟩,
    ⟨some 289, .fadr 1 (.tmp 15), some (288, false), none⟩,
    ⟨some 290, .load 1 false (.tmp 289), some (288, false), none⟩,
    ⟨some 291, .iadr 1 (.tmp 290) (.const (.int .i64 1)), some (288, false), none⟩,
    ⟨some 292, .load 1 false (.tmp 291), some (288, false), none⟩,
    ⟨some 293, .fadr 0 (.tmp 3), some (288, false), none⟩,
    ⟨some 294, .load 1 false (.tmp 293), some (288, false), none⟩,
    ⟨some 295, .mv (.tmp 7), some (288, false), none⟩,
    ⟨some 296, .mv (.tmp 13), some (288, false), none⟩,
    ⟨some 297, .iadr 1 (.tmp 295) (.tmp 296), some (288, false), none⟩,
    ⟨some 298, .load 1 false (.tmp 297), some (288, false), none⟩,
    ⟨some 299, .iadr 4 (.tmp 294) (.tmp 298), some (288, false), none⟩,
    ⟨some 300, .fadr 1 (.tmp 299), some (288, false), none⟩,
    ⟨some 301, .load 1 false (.tmp 300), some (288, false), none⟩,
    ⟨some 302, .iadr 1 (.tmp 301) (.const (.int .i64 0)), some (288, false), none⟩,
    ⟨some 303, .load 1 false (.tmp 302), some (288, false), none⟩,
    ⟨some 304, .bin .neq (.tmp 292) (.tmp 303), some (288, false), none⟩,
    ⟨some 305, .pick (.tmp 288) (.const (.bool true)) (.tmp 304), none, none⟩,
    ⟨some 306, .mv (.tmp 305), none, none⟩,
    ⟨some 307, .fadr 0 (.tmp 5), some (306, false), none⟩,
    ⟨some 308, .fadr 0 (.tmp 307), some (306, false), none⟩,
    ⟨some 309, .load 1 false (.tmp 308), some (306, false), none⟩,
    ⟨some 310, .mv (.tmp 7), some (306, false), none⟩,
    ⟨some 311, .mv (.tmp 13), some (306, false), none⟩,
    ⟨some 312, .iadr 1 (.tmp 310) (.tmp 311), some (306, false), none⟩,
    ⟨some 313, .load 1 false (.tmp 312), some (306, false), none⟩,
    ⟨some 314, .iadr 4 (.tmp 309) (.tmp 313), some (306, false), none⟩,
    ⟨some 315, .fadr 1 (.tmp 314), some (306, false), none⟩,
    ⟨some 316, .load 1 false (.tmp 315), some (306, false), none⟩,
    ⟨some 317, .iadr 1 (.tmp 316) (.const (.int .i64 0)), some (306, false), none⟩,
    ⟨some 318, .load 1 false (.tmp 317), some (306, false), none⟩,
    ⟨some 319, .mv (.tmp 14), some (306, false), none⟩,
    ⟨some 320, .bin .neq (.tmp 318) (.tmp 319), some (306, false), none⟩,
    ⟨some 321, .pick (.tmp 306) (.const (.bool true)) (.tmp 320), none, none⟩]
def law34_ScansInsert_r31 : List RO := [
    ⟨some 2, .mv (.const (.bool false)), none, none⟩]
def law34_ScansInsert_r27 : List RO := [
    ⟨some 247, .mv (.tmp 13), none, none⟩,
    ⟨some 248, .bin .add (.tmp 247) (.const (.int .i64 1)), none, none⟩,
    ⟨some 13, .mv (.tmp 248), none, none⟩]
def law34_ScansInsert_g6 : IC := .gh (.seq (.seq (.reg law34_ScansInsert_r26 [.keep [3, 4, 5, 7, 8, 13, 246] [3, 5]]) (.cond (.tmp 246) .skip (.exit 6))) (.seq (.block 7 (.seq (.reg law34_ScansInsert_r28 [.keep [3, 4, 5, 7, 8, 13, 14] [3, 5]]) (.seq (.reg law34_ScansInsert_r29 [.keep [3, 4, 5, 7, 8, 13, 14, 15] [3, 5, 15]]) (.seq (.reg law34_ScansInsert_r30 [.keep [3, 4, 5, 7, 8, 13, 321] [3, 5]]) (.cond (.tmp 321) (.seq (.reg law34_ScansInsert_r31 [.keep [2] []]) .ret) .skip))))) (.reg law34_ScansInsert_r27 [.keep [3, 4, 5, 7, 8, 13] [3, 5]]))) [.keep [3, 4, 5, 7, 8, 13] [3, 5]]
def law34_ScansInsert_l7 : IC := .loop law34_ScansInsert_g6
def law34_ScansInsert_r32 : List RO := [
    ⟨some 322, .fadr 0 (.tmp 5), none, none⟩,
    ⟨some 323, .fadr 0 (.tmp 322), none, none⟩,
    ⟨some 324, .load 1 false (.tmp 323), none, none⟩,
    ⟨some 325, .fadr 5 (.tmp 5), none, none⟩,
    ⟨some 326, .load 1 false (.tmp 325), none, none⟩,
    ⟨some 327, .iadr 4 (.tmp 324) (.tmp 326), none, none⟩,
    ⟨some 328, .fadr 0 (.tmp 327), none, none⟩,
    ⟨some 329, .load 1 false (.tmp 328), none, none⟩,
    ⟨some 330, .bin .eql (.tmp 329) (.const (.int .u8 0)), none, none⟩,
    ⟨some 331, .mv (.tmp 330), none, none⟩,
    ⟨some 332, .call 16 [], some (331, true), none⟩,
    ⟨some 333, .pick (.tmp 331) (.tmp 332) (.const (.bool false)), none, none⟩,
    ⟨some 2, .mv (.tmp 333), none, none⟩]
def law34_ScansInsert_ic : IC := (.seq (.reg law34_ScansInsert_r0 [.keep [1] []]) (.seq (.reg law34_ScansInsert_r1 [.keep [3, 4] [3]]) (.seq (.reg law34_ScansInsert_r2 [.keep [3, 4, 5, 6] [3, 5]]) (.seq (.seq (.reg law34_ScansInsert_r3 [.keep [3, 4, 5, 50] [3, 5]]) (.cond (.tmp 50) (.seq (.reg law34_ScansInsert_r4 [.keep [2] []]) .ret) .skip)) (.seq (.reg law34_ScansInsert_r5 [.keep [3, 4, 5, 7] [3, 5]]) (.seq (.reg law34_ScansInsert_r6 [.keep [3, 4, 5, 7, 8] [3, 5]]) (.seq (.seq (.reg law34_ScansInsert_r7 [.keep [3, 4, 5, 7, 8, 95] [3, 5]]) (.cond (.tmp 95) (.seq (.reg law34_ScansInsert_r8 [.keep [2] []]) .ret) .skip)) (.seq (.seq (.reg law34_ScansInsert_r9 [.keep [3, 4, 5, 7, 8, 9] [3, 5]]) (.block 0 law34_ScansInsert_l3)) (.seq (.seq (.reg law34_ScansInsert_r19 [.keep [3, 4, 5, 7, 8, 11] [3, 5]]) (.block 4 law34_ScansInsert_l5)) (.seq (.seq (.reg law34_ScansInsert_r25 [.keep [3, 4, 5, 7, 8, 13] [3, 5]]) (.block 6 law34_ScansInsert_l7)) (.seq (.reg law34_ScansInsert_r32 [.keep [2] []]) .ret)))))))))))
@[simp ↓] theorem law34_ScansInsert_g0_run : run P Γ law34_ScansInsert_g0 Q s = run P Γ (.gh (.seq (.seq (.reg law34_ScansInsert_r15 [.keep [3, 4, 5, 7, 8, 9, 10, 164] [3, 5]]) (.cond (.tmp 164) .skip (.exit 2))) (.seq (.block 3 (.seq (.reg law34_ScansInsert_r17 [.keep [3, 4, 5, 7, 8, 9, 10, 186] [3, 5]]) (.cond (.tmp 186) (.seq (.reg law34_ScansInsert_r18 [.keep [2] []]) .ret) .skip))) (.reg law34_ScansInsert_r16 [.keep [3, 4, 5, 7, 8, 9, 10] [3, 5]]))) [.keep [3, 4, 5, 7, 8, 9, 10] [3, 5]]) Q s := Eq.trans rfl rfl
@[simp ↓] theorem law34_ScansInsert_g2_run : run P Γ law34_ScansInsert_g2 Q s = run P Γ (.gh (.seq (.seq (.reg law34_ScansInsert_r10 [.keep [3, 4, 5, 7, 8, 9, 98] [3, 5]]) (.cond (.tmp 98) .skip (.exit 0))) (.seq (.block 1 (.seq (.seq (.reg law34_ScansInsert_r12 [.keep [3, 4, 5, 7, 8, 9, 146] [3, 5]]) (.cond (.tmp 146) (.seq (.reg law34_ScansInsert_r13 [.keep [2] []]) .ret) .skip)) (.seq (.reg law34_ScansInsert_r14 [.keep [3, 4, 5, 7, 8, 9, 10] [3, 5]]) (.block 2 law34_ScansInsert_l1)))) (.reg law34_ScansInsert_r11 [.keep [3, 4, 5, 7, 8, 9] [3, 5]]))) [.keep [3, 4, 5, 7, 8, 9] [3, 5]]) Q s := Eq.trans rfl rfl
@[simp ↓] theorem law34_ScansInsert_g4_run : run P Γ law34_ScansInsert_g4 Q s = run P Γ (.gh (.seq (.seq (.reg law34_ScansInsert_r20 [.keep [3, 4, 5, 7, 8, 11, 190] [3, 5]]) (.cond (.tmp 190) .skip (.exit 4))) (.seq (.block 5 (.seq (.reg law34_ScansInsert_r22 [.keep [3, 4, 5, 7, 8, 11, 12] [3, 5]]) (.seq (.reg law34_ScansInsert_r23 [.keep [3, 4, 5, 7, 8, 11, 242] [3, 5]]) (.cond (.tmp 242) (.seq (.reg law34_ScansInsert_r24 [.keep [2] []]) .ret) .skip)))) (.reg law34_ScansInsert_r21 [.keep [3, 4, 5, 7, 8, 11] [3, 5]]))) [.keep [3, 4, 5, 7, 8, 11] [3, 5]]) Q s := Eq.trans rfl rfl
@[simp ↓] theorem law34_ScansInsert_g6_run : run P Γ law34_ScansInsert_g6 Q s = run P Γ (.gh (.seq (.seq (.reg law34_ScansInsert_r26 [.keep [3, 4, 5, 7, 8, 13, 246] [3, 5]]) (.cond (.tmp 246) .skip (.exit 6))) (.seq (.block 7 (.seq (.reg law34_ScansInsert_r28 [.keep [3, 4, 5, 7, 8, 13, 14] [3, 5]]) (.seq (.reg law34_ScansInsert_r29 [.keep [3, 4, 5, 7, 8, 13, 14, 15] [3, 5, 15]]) (.seq (.reg law34_ScansInsert_r30 [.keep [3, 4, 5, 7, 8, 13, 321] [3, 5]]) (.cond (.tmp 321) (.seq (.reg law34_ScansInsert_r31 [.keep [2] []]) .ret) .skip))))) (.reg law34_ScansInsert_r27 [.keep [3, 4, 5, 7, 8, 13] [3, 5]]))) [.keep [3, 4, 5, 7, 8, 13] [3, 5]]) Q s := Eq.trans rfl rfl
@[simp ↓] theorem law34_ScansInsert_ic_run : run P Γ law34_ScansInsert_ic Q s = run P Γ (.seq (.reg law34_ScansInsert_r0 [.keep [1] []]) (.seq (.reg law34_ScansInsert_r1 [.keep [3, 4] [3]]) (.seq (.reg law34_ScansInsert_r2 [.keep [3, 4, 5, 6] [3, 5]]) (.seq (.seq (.reg law34_ScansInsert_r3 [.keep [3, 4, 5, 50] [3, 5]]) (.cond (.tmp 50) (.seq (.reg law34_ScansInsert_r4 [.keep [2] []]) .ret) .skip)) (.seq (.reg law34_ScansInsert_r5 [.keep [3, 4, 5, 7] [3, 5]]) (.seq (.reg law34_ScansInsert_r6 [.keep [3, 4, 5, 7, 8] [3, 5]]) (.seq (.seq (.reg law34_ScansInsert_r7 [.keep [3, 4, 5, 7, 8, 95] [3, 5]]) (.cond (.tmp 95) (.seq (.reg law34_ScansInsert_r8 [.keep [2] []]) .ret) .skip)) (.seq (.seq (.reg law34_ScansInsert_r9 [.keep [3, 4, 5, 7, 8, 9] [3, 5]]) (.block 0 law34_ScansInsert_l3)) (.seq (.seq (.reg law34_ScansInsert_r19 [.keep [3, 4, 5, 7, 8, 11] [3, 5]]) (.block 4 law34_ScansInsert_l5)) (.seq (.seq (.reg law34_ScansInsert_r25 [.keep [3, 4, 5, 7, 8, 13] [3, 5]]) (.block 6 law34_ScansInsert_l7)) (.seq (.reg law34_ScansInsert_r32 [.keep [2] []]) .ret))))))))))) Q s := Eq.trans rfl rfl
theorem law34_ScansInsert_l1_run (h : ∀ K : St → Prop, K = run P Γ law34_ScansInsert_l1 Q → run P Γ law34_ScansInsert_g0 (thenX K Q) s) : run P Γ law34_ScansInsert_l1 Q s := run_loop h
theorem law34_ScansInsert_l3_run (h : ∀ K : St → Prop, K = run P Γ law34_ScansInsert_l3 Q → run P Γ law34_ScansInsert_g2 (thenX K Q) s) : run P Γ law34_ScansInsert_l3 Q s := run_loop h
theorem law34_ScansInsert_l5_run (h : ∀ K : St → Prop, K = run P Γ law34_ScansInsert_l5 Q → run P Γ law34_ScansInsert_g4 (thenX K Q) s) : run P Γ law34_ScansInsert_l5 Q s := run_loop h
theorem law34_ScansInsert_l7_run (h : ∀ K : St → Prop, K = run P Γ law34_ScansInsert_l7 Q → run P Γ law34_ScansInsert_g6 (thenX K Q) s) : run P Γ law34_ScansInsert_l7 Q s := run_loop h
attribute [simp] law34_ScansInsert_r0 law34_ScansInsert_r1 law34_ScansInsert_r2 law34_ScansInsert_r3 law34_ScansInsert_r4 law34_ScansInsert_r5 law34_ScansInsert_r6 law34_ScansInsert_r7 law34_ScansInsert_r8 law34_ScansInsert_r9 law34_ScansInsert_r10 law34_ScansInsert_r12 law34_ScansInsert_r13 law34_ScansInsert_r14 law34_ScansInsert_r15 law34_ScansInsert_r17 law34_ScansInsert_r18 law34_ScansInsert_r16 law34_ScansInsert_r11 law34_ScansInsert_r19 law34_ScansInsert_r20 law34_ScansInsert_r22 law34_ScansInsert_r23 law34_ScansInsert_r24 law34_ScansInsert_r21 law34_ScansInsert_r25 law34_ScansInsert_r26 law34_ScansInsert_r28 law34_ScansInsert_r29 law34_ScansInsert_r30 law34_ScansInsert_r31 law34_ScansInsert_r27 law34_ScansInsert_r32
def law34_ScansInsert_rv : List RV := [.tmp 2]

/- probecard/scans.Insert (function 37) -/
def scans_Insert_r0 : List RO := [
    ⟨some 2, .box true (.tmp 0), none, none⟩,
    ⟨some 4, .alloc false [(.slice none 0 0), (.slice none 0 0), (.slice none 0 0), (.slice none 0 0), (.slice none 0 0), (.int .i64 0), (.slice none 0 0), (.slice none 0 0)], none, none⟩,
    ⟨some 5, .mv (.const (.int .i64 0)), none, none⟩]
def scans_Insert_r1 : List RO := [
    ⟨some 21, .load 4 true (.tmp 2), none, none⟩,
    ⟨some 22, .mv (.tmp 1), none, none⟩,
    ⟨some 23, .call 18 [(.tmp 21), (.tmp 22)], none, none⟩,
    ⟨some 6, .mv (.tmp 23), none, none⟩]
def scans_Insert_r2 : List RO := [
    ⟨some 24, .mv (.tmp 6), none, none⟩,
    ⟨some 25, .bin .neq (.tmp 24) (.const (.int .i64 0)), none, none⟩]
def scans_Insert_r3 : List RO := [
    ⟨some 26, .build [(4, (.const (.agg #[(.slice none 0 0), (.slice none 0 0), (.slice none 0 0), (.slice none 0 0)]))), (1, (.const (.slice none 0 0))), (1, (.const (.int .i64 0))), (1, (.const (.slice none 0 0))), (1, (.const (.slice none 0 0)))], none, none⟩,
    ⟨some 27, .mv (.tmp 6), none, none⟩,
    ⟨none, .store 8 (.tmp 4) (.tmp 26), none, none⟩,
    ⟨some 5, .mv (.tmp 27), none, none⟩]
def scans_Insert_r4 : List RO := [
    ⟨some 28, .load 4 true (.tmp 2), none, none⟩,
    ⟨some 29, .call 17 [(.tmp 28)], none, none⟩,
    ⟨some 7, .mv (.tmp 29), none, none⟩]
def scans_Insert_r5 : List RO := [
    ⟨some 30, .fadr 0 (.tmp 2), none, none⟩,
    ⟨some 31, .load 1 false (.tmp 30), none, none⟩,
    ⟨some 32, .len 0 (.tmp 31), none, none⟩,
    ⟨some 33, .bin .add (.tmp 32) (.const (.int .i64 1)), none, none⟩,
    ⟨some 34, .mv (.tmp 1), none, none⟩,
    ⟨some 35, .len 0 (.tmp 34), none, none⟩,
    ⟨some 36, .bin .add (.tmp 33) (.tmp 35), none, none⟩,
    ⟨some 37, .mv (.tmp 7), none, none⟩,
    ⟨some 38, .len 0 (.tmp 37), none, none⟩,
    ⟨some 39, .bin .add (.tmp 36) (.tmp 38), none, none⟩,
    ⟨some 40, .bin .gtr (.tmp 39) (.const (.int .i64 16384)), none, none⟩]
def scans_Insert_r6 : List RO := [
    ⟨some 41, .build [(4, (.const (.agg #[(.slice none 0 0), (.slice none 0 0), (.slice none 0 0), (.slice none 0 0)]))), (1, (.const (.slice none 0 0))), (1, (.const (.int .i64 0))), (1, (.const (.slice none 0 0))), (1, (.const (.slice none 0 0)))], none, none⟩,
    ⟨none, .store 8 (.tmp 4) (.tmp 41), none, none⟩,
    ⟨some 5, .mv (.const (.int .i64 3)), none, none⟩]
def scans_Insert_r7 : List RO := [
    ⟨some 42, .load 4 true (.tmp 2), none, none⟩,
    ⟨some 43, .call 66 [(.tmp 42)], none, none⟩,
    ⟨some 44, .mkmap, none, none⟩,
    ⟨some 45, .build [(4, (.tmp 43)), (1, (.tmp 44)), (1, (.const (.bool false)))], none, none⟩,
    ⟨some 46, .box false (.tmp 45), none, none⟩,
    ⟨some 8, .mv (.tmp 46), none, none⟩]
def scans_Insert_r8 : List RO := [
    ⟨some 47, .fadr 1 (.tmp 2), none, none⟩,
    ⟨some 48, .load 1 false (.tmp 47), none, none⟩,
    ⟨some 49, .len 0 (.tmp 48), none, none⟩,
    ⟨some 50, .mv (.const (.int .i64 0)), none, none⟩]
def scans_Insert_r9 : List RO := [
    ⟨some 51, .bin .lss (.tmp 50) (.tmp 49), none, none⟩]
def scans_Insert_r10 : List RO := [
    ⟨some 52, .iadr 1 (.tmp 48) (.tmp 50), none, none⟩,
    ⟨some 53, .load 1 false (.tmp 52), none, none⟩,
    ⟨some 10, .mv (.tmp 53), none, none⟩]
def scans_Insert_r11 : List RO := [
    ⟨some 54, .mv (.tmp 8), none, none⟩,
    ⟨some 55, .nck (.tmp 54), none, none⟩,
    ⟨some 56, .fadr 4 (.tmp 55), none, none⟩,
    ⟨some 57, .load 1 false (.tmp 56), none, none⟩,
    ⟨some 58, .mv (.tmp 10), none, none⟩,
    ⟨none, .mup .str (.tmp 57) (.tmp 58) (.const (.bool true)), none, none⟩]
def scans_Insert_r12 : List RO := [
    ⟨some 59, .bin .add (.tmp 50) (.const (.int .i64 1)), none, none⟩,
    ⟨some 50, .mv (.tmp 59), none, none⟩]
def scans_Insert_g0 : IC := .gh (.seq (.reg scans_Insert_r9 [.keep [1, 2, 4, 7, 8, 48, 49, 50, 51] [4, 44, 46, 78, 90, 111, 157, 62040, 62052]]) (.seq (.cond (.tmp 51) .skip (.exit 0)) (.seq (.block 1 (.seq (.reg scans_Insert_r10 [.keep [1, 2, 4, 7, 8, 10, 48, 49, 50] [4, 44, 46, 78, 90, 111, 157, 62040, 62052]]) (.reg scans_Insert_r11 [.keep [1, 2, 4, 7, 8, 48, 49, 50] [4, 44, 46, 78, 90, 111, 157, 62040, 62052]]))) (.reg scans_Insert_r12 [.keep [1, 2, 4, 7, 8, 48, 49, 50] [4, 44, 46, 78, 90, 111, 157, 62040, 62052]])))) [.keep [1, 2, 4, 7, 8, 48, 49, 50] [4, 44, 46, 78, 90, 111, 157, 62040, 62052]]
def scans_Insert_l1 : IC := .loop scans_Insert_g0
def scans_Insert_r13 : List RO := [
    ⟨some 11, .alloc false [(.slice none 0 0), (.slice none 0 0), (.slice none 0 0), (.slice none 0 0), (.slice none 0 0), (.int .i64 0), (.slice none 0 0), (.slice none 0 0)], none, none⟩]
def scans_Insert_r14 : List RO := [
    ⟨some 60, .mv (.tmp 8), none, none⟩,
    ⟨some 61, .build [(1, (.const (.int .u8 0))), (1, (.const (.slice none 0 0))), (1, (.const (.int .i64 0))), (1, (.const (.int .i64 0)))], none, none⟩,
    ⟨some 62, .hcall 67 [(.tmp 60), (.tmp 61), (.const (sV [115, 101]))] [44, 46, 111, 62040, 62052] 62000, none, none⟩,
    ⟨some 63, .fadr 5 (.tmp 11), none, none⟩,
    ⟨none, .store 1 (.tmp 63) (.tmp 62), none, none⟩]
def scans_Insert_r15 : List RO := [
    ⟨some 64, .mkmap, none, none⟩,
    ⟨some 12, .mv (.tmp 64), none, none⟩]
def scans_Insert_r16 : List RO := [
    ⟨some 65, .mv (.tmp 1), none, none⟩,
    ⟨some 66, .len 0 (.tmp 65), none, none⟩,
    ⟨some 67, .mv (.const (.int .i64 0)), none, none⟩]
def scans_Insert_r17 : List RO := [
    ⟨some 68, .bin .lss (.tmp 67) (.tmp 66), none, none⟩]
def scans_Insert_r18 : List RO := [
    ⟨some 69, .mv (.tmp 67), none, none⟩,
    ⟨some 70, .iadr 1 (.tmp 65) (.tmp 67), none, none⟩,
    ⟨some 71, .load 1 false (.tmp 70), none, none⟩,
    ⟨some 13, .mv (.tmp 69), none, none⟩,
    ⟨some 14, .mv (.tmp 71), none, none⟩]
def scans_Insert_r19 : List RO := [
    ⟨some 72, .fadr 4 (.tmp 11), none, none⟩,
    ⟨some 73, .ldR 11 1 false (.tmp 72), none, none⟩,
    ⟨some 74, .mv (.tmp 14), none, none⟩,
    ⟨some 75, .call 43 [(.tmp 74)], none, none⟩,
    ⟨some 76, .call 42 [(.tmp 75)], none, none⟩,
    ⟨some 77, .bsl true 31 1 [(.tmp 76)], none, none⟩,
    ⟨some 78, .app false 31 1 (.tmp 73) (.tmp 77), none, none⟩,
    ⟨some 79, .fadr 4 (.tmp 11), none, none⟩,
    ⟨none, .stR 11 1 (.tmp 79) (.tmp 78), none, none⟩]
def scans_Insert_r20 : List RO := [
    ⟨some 80, .mv (.tmp 8), none, none⟩,
    ⟨some 81, .build [(1, (.const (.int .u8 0))), (1, (.const (.slice none 0 0))), (1, (.const (.int .i64 0))), (1, (.const (.int .i64 0)))], none, none⟩,
    ⟨some 82, .mv (.tmp 13), none, none⟩,
    ⟨some 83, .call 68 [(.tmp 82)], none, none⟩,
    ⟨some 84, .bin .add (.const (sV [115, 105])) (.tmp 83), none, none⟩,
    ⟨some 85, .hcall 67 [(.tmp 80), (.tmp 81), (.tmp 84)] [44, 46, 111, 62040, 62052] 85000, none, none⟩,
    ⟨some 15, .mv (.tmp 85), none, none⟩]
def scans_Insert_r21 : List RO := [
    ⟨some 86, .fadr 6 (.tmp 11), none, none⟩,
    ⟨some 87, .load 1 false (.tmp 86), none, none⟩,
    ⟨some 88, .mv (.tmp 15), none, none⟩,
    ⟨some 89, .bsl true 3 1 [(.tmp 88)], none, none⟩,
    ⟨some 90, .app false 3 1 (.tmp 87) (.tmp 89), none, none⟩,
    ⟨some 91, .fadr 6 (.tmp 11), none, none⟩,
    ⟨none, .store 1 (.tmp 91) (.tmp 90), none, none⟩]
def scans_Insert_r22 : List RO := [
    ⟨some 92, .mv (.tmp 14), none, none⟩,
    ⟨some 93, .len 0 (.tmp 92), none, none⟩,
    ⟨some 94, .mv (.const (.int .i64 0)), none, none⟩]
def scans_Insert_r23 : List RO := [
    ⟨some 95, .bin .lss (.tmp 94) (.tmp 93), none, none⟩]
def scans_Insert_r24 : List RO := [
    ⟨some 96, .iadr 1 (.tmp 92) (.tmp 94), none, none⟩,
    ⟨some 97, .load 1 false (.tmp 96), none, none⟩,
    ⟨some 17, .mv (.tmp 97), none, none⟩]
def scans_Insert_r25 : List RO := [
    ⟨some 98, .mv (.tmp 12), none, none⟩,
    ⟨some 99, .mv (.tmp 17), none, none⟩,
    ⟨some 100, .mv (.tmp 15), none, none⟩,
    ⟨some 101, .mv (.tmp 17), none, none⟩,
    ⟨none, .mup (.int .i64) (.tmp 98) (.tmp 99) (.tmp 100), none, none⟩,
    ⟨some 15, .mv (.tmp 101), none, none⟩]
def scans_Insert_r26 : List RO := [
    ⟨some 102, .bin .add (.tmp 94) (.const (.int .i64 1)), none, none⟩,
    ⟨some 94, .mv (.tmp 102), none, none⟩]
def scans_Insert_g2 : IC := .gh (.seq (.reg scans_Insert_r23 [.keep [2, 4, 7, 8, 11, 12, 15, 65, 66, 67, 92, 93, 94, 95] [4, 11, 44, 46, 64, 78, 90, 111, 157, 62040, 62052]]) (.seq (.cond (.tmp 95) .skip (.exit 4)) (.seq (.block 5 (.seq (.reg scans_Insert_r24 [.keep [2, 4, 7, 8, 11, 12, 15, 17, 65, 66, 67, 92, 93, 94] [4, 11, 44, 46, 64, 78, 90, 111, 157, 62040, 62052]]) (.reg scans_Insert_r25 [.keep [2, 4, 7, 8, 11, 12, 15, 65, 66, 67, 92, 93, 94] [4, 11, 44, 46, 64, 78, 90, 111, 157, 62040, 62052]]))) (.reg scans_Insert_r26 [.keep [2, 4, 7, 8, 11, 12, 15, 65, 66, 67, 92, 93, 94] [4, 11, 44, 46, 64, 78, 90, 111, 157, 62040, 62052]])))) [.keep [2, 4, 7, 8, 11, 12, 15, 65, 66, 67, 92, 93, 94] [4, 11, 44, 46, 64, 78, 90, 111, 157, 62040, 62052]]
def scans_Insert_l3 : IC := .loop scans_Insert_g2
def scans_Insert_r27 : List RO := [
    ⟨some 103, .mv (.tmp 8), none, none⟩,
    ⟨some 104, .mv (.tmp 8), none, none⟩,
    ⟨some 105, .nck (.tmp 104), none, none⟩,
    ⟨some 106, .fadr 0 (.tmp 105), none, none⟩,
    ⟨some 107, .fadr 3 (.tmp 106), none, none⟩,
    ⟨some 108, .load 1 false (.tmp 107), none, none⟩,
    ⟨some 109, .mv (.tmp 15), none, none⟩,
    ⟨some 110, .bsl true 3 1 [(.tmp 109)], none, none⟩,
    ⟨some 111, .app false 3 1 (.tmp 108) (.tmp 110), none, none⟩,
    ⟨some 112, .nck (.tmp 103), none, none⟩,
    ⟨some 113, .fadr 0 (.tmp 112), none, none⟩,
    ⟨some 114, .fadr 3 (.tmp 113), none, none⟩,
    ⟨none, .store 1 (.tmp 114) (.tmp 111), none, none⟩]
def scans_Insert_r28 : List RO := [
    ⟨some 115, .bin .add (.tmp 67) (.const (.int .i64 1)), none, none⟩,
    ⟨some 67, .mv (.tmp 115), none, none⟩]
def scans_Insert_g4 : IC := .gh (.seq (.reg scans_Insert_r17 [.keep [2, 4, 7, 8, 11, 12, 65, 66, 67, 68] [4, 11, 44, 46, 64, 78, 90, 111, 157, 62040, 62052]]) (.seq (.cond (.tmp 68) .skip (.exit 2)) (.seq (.block 3 (.seq (.reg scans_Insert_r18 [.keep [2, 4, 7, 8, 11, 12, 13, 14, 65, 66, 67] [4, 11, 44, 46, 64, 78, 90, 111, 157, 62040, 62052]]) (.seq (.reg scans_Insert_r19 [.keep [2, 4, 7, 8, 11, 12, 13, 14, 65, 66, 67] [4, 11, 44, 46, 64, 78, 90, 111, 157, 62040, 62052]]) (.seq (.reg scans_Insert_r20 [.ren 85040 62040, .ren 85052 62052, .keep [2, 4, 7, 8, 11, 12, 14, 15, 65, 66, 67] [4, 11, 44, 46, 64, 78, 90, 111, 157, 62040, 62052]]) (.seq (.reg scans_Insert_r21 [.keep [2, 4, 7, 8, 11, 12, 14, 15, 65, 66, 67] [4, 11, 44, 46, 64, 78, 90, 111, 157, 62040, 62052]]) (.seq (.seq (.reg scans_Insert_r22 [.keep [2, 4, 7, 8, 11, 12, 15, 65, 66, 67, 92, 93, 94] [4, 11, 44, 46, 64, 78, 90, 111, 157, 62040, 62052]]) (.block 4 scans_Insert_l3)) (.reg scans_Insert_r27 [.keep [2, 4, 7, 8, 11, 12, 65, 66, 67] [4, 11, 44, 46, 64, 78, 90, 111, 157, 62040, 62052]]))))))) (.reg scans_Insert_r28 [.keep [2, 4, 7, 8, 11, 12, 65, 66, 67] [4, 11, 44, 46, 64, 78, 90, 111, 157, 62040, 62052]])))) [.keep [2, 4, 7, 8, 11, 12, 65, 66, 67] [4, 11, 44, 46, 64, 78, 90, 111, 157, 62040, 62052]]
def scans_Insert_l5 : IC := .loop scans_Insert_g4
def scans_Insert_r29 : List RO := [
    ⟨some 116, .mv (.tmp 7), none, none⟩,
    ⟨some 117, .len 0 (.tmp 116), none, none⟩,
    ⟨some 118, .mv (.const (.int .i64 0)), none, none⟩]
def scans_Insert_r30 : List RO := [
    ⟨some 119, .bin .lss (.tmp 118) (.tmp 117), none, none⟩]
def scans_Insert_r31 : List RO := [
    ⟨some 120, .mv (.tmp 118), none, none⟩,
    ⟨some 121, .iadr 1 (.tmp 116) (.tmp 118), none, none⟩,
    ⟨some 122, .load 1 false (.tmp 121), none, none⟩,
    ⟨some 18, .mv (.tmp 120), none, none⟩,
    ⟨some 19, .mv (.tmp 122), none, none⟩]
def scans_Insert_r32 : List RO := [
    ⟨some 123, .mv (.tmp 8), none, none⟩,
    ⟨some 124, .fadr 5 (.tmp 11), none, none⟩,
    ⟨some 125, .load 1 false (.tmp 124), none, none⟩,
    ⟨some 126, .fadr 0 (.tmp 2), none, none⟩,
    ⟨some 127, .load 1 false (.tmp 126), none, none⟩,
    ⟨some 128, .mv (.tmp 19), none, none⟩,
    ⟨some 129, .iadr 4 (.tmp 127) (.tmp 128), none, none⟩,
    ⟨some 130, .fadr 1 (.tmp 129), none, none⟩,
    ⟨some 131, .load 1 false (.tmp 130), none, none⟩,
    ⟨some 132, .iadr 1 (.tmp 131) (.const (.int .i64 0)), none, none⟩,
    ⟨some 133, .load 1 false (.tmp 132), none, none⟩,
    ⟨some 134, .mv (.tmp 12), none, none⟩,
    ⟨some 135, .mv (.tmp 19), none, none⟩,
    ⟨some 136, .lkup (.int .i64) (.int .i64 0) false (.tmp 134) (.tmp 135), none, none⟩,
    ⟨some 137, .bsl true 3 1 [(.tmp 125), (.tmp 133), (.tmp 136)], none, none⟩,
    ⟨some 138, .build [(1, (.const (.int .u8 11))), (1, (.tmp 137)), (1, (.const (.int .i64 0))), (1, (.const (.int .i64 0)))], none, none⟩,
    ⟨some 139, .mv (.tmp 18), none, none⟩,
    ⟨some 140, .call 68 [(.tmp 139)], none, none⟩,
    ⟨some 141, .bin .add (.const (sV [115, 109])) (.tmp 140), none, none⟩,
    ⟨some 142, .hcall 67 [(.tmp 123), (.tmp 138), (.tmp 141)] [44, 46, 111, 62040, 62052] 142000, none, none⟩,
    ⟨some 20, .mv (.tmp 142), none, none⟩]
def scans_Insert_r33 : List RO := [
    ⟨some 143, .mv (.tmp 8), none, none⟩,
    ⟨some 144, .nck (.tmp 143), none, none⟩,
    ⟨some 145, .fadr 0 (.tmp 144), none, none⟩,
    ⟨some 146, .fadr 0 (.tmp 145), none, none⟩,
    ⟨some 147, .load 1 false (.tmp 146), none, none⟩,
    ⟨some 148, .mv (.tmp 19), none, none⟩,
    ⟨some 149, .mv (.tmp 20), none, none⟩,
    ⟨some 150, .bsl true 3 1 [(.tmp 149)], none, none⟩,
    ⟨some 151, .iadr 4 (.tmp 147) (.tmp 148), none, none⟩,
    ⟨some 152, .fadr 1 (.tmp 151), none, none⟩,
    ⟨none, .store 1 (.tmp 152) (.tmp 150), none, none⟩]
def scans_Insert_r34 : List RO := [
    ⟨some 153, .fadr 7 (.tmp 11), none, none⟩,
    ⟨some 154, .load 1 false (.tmp 153), none, none⟩,
    ⟨some 155, .mv (.tmp 20), none, none⟩,
    ⟨some 156, .bsl true 3 1 [(.tmp 155)], none, none⟩,
    ⟨some 157, .app false 3 1 (.tmp 154) (.tmp 156), none, none⟩,
    ⟨some 158, .fadr 7 (.tmp 11), none, none⟩,
    ⟨none, .store 1 (.tmp 158) (.tmp 157), none, none⟩]
def scans_Insert_r35 : List RO := [
    ⟨some 159, .bin .add (.tmp 118) (.const (.int .i64 1)), none, none⟩,
    ⟨some 118, .mv (.tmp 159), none, none⟩]
def scans_Insert_g6 : IC := .gh (.seq (.reg scans_Insert_r30 [.keep [2, 4, 8, 11, 12, 116, 117, 118, 119] [4, 11, 44, 46, 64, 78, 90, 111, 157, 62040, 62052]]) (.seq (.cond (.tmp 119) .skip (.exit 6)) (.seq (.block 7 (.seq (.reg scans_Insert_r31 [.keep [2, 4, 8, 11, 12, 18, 19, 116, 117, 118] [4, 11, 44, 46, 64, 78, 90, 111, 157, 62040, 62052]]) (.seq (.reg scans_Insert_r32 [.ren 142040 62040, .ren 142052 62052, .keep [2, 4, 8, 11, 12, 19, 20, 116, 117, 118] [4, 11, 44, 46, 64, 78, 90, 111, 157, 62040, 62052]]) (.seq (.reg scans_Insert_r33 [.keep [2, 4, 8, 11, 12, 20, 116, 117, 118] [4, 11, 44, 46, 64, 78, 90, 111, 157, 62040, 62052]]) (.reg scans_Insert_r34 [.keep [2, 4, 8, 11, 12, 116, 117, 118] [4, 11, 44, 46, 64, 78, 90, 111, 157, 62040, 62052]]))))) (.reg scans_Insert_r35 [.keep [2, 4, 8, 11, 12, 116, 117, 118] [4, 11, 44, 46, 64, 78, 90, 111, 157, 62040, 62052]])))) [.keep [2, 4, 8, 11, 12, 116, 117, 118] [4, 11, 44, 46, 64, 78, 90, 111, 157, 62040, 62052]]
def scans_Insert_l7 : IC := .loop scans_Insert_g6
def scans_Insert_r36 : List RO := [
    ⟨some 160, .mv (.tmp 8), none, none⟩,
    ⟨some 161, .nck (.tmp 160), none, none⟩,
    ⟨some 162, .fadr 5 (.tmp 161), none, none⟩,
    ⟨some 163, .load 1 false (.tmp 162), none, none⟩]
def scans_Insert_r37 : List RO := [
    ⟨some 164, .build [(4, (.const (.agg #[(.slice none 0 0), (.slice none 0 0), (.slice none 0 0), (.slice none 0 0)]))), (1, (.const (.slice none 0 0))), (1, (.const (.int .i64 0))), (1, (.const (.slice none 0 0))), (1, (.const (.slice none 0 0)))], none, none⟩,
    ⟨none, .store 8 (.tmp 4) (.tmp 164), none, none⟩,
    ⟨some 5, .mv (.const (.int .i64 5)), none, none⟩]
def scans_Insert_r38 : List RO := [
    ⟨some 165, .mv (.tmp 8), none, none⟩,
    ⟨some 166, .mv (.tmp 8), none, none⟩,
    ⟨some 167, .mv (.tmp 8), none, none⟩,
    ⟨some 168, .mv (.tmp 8), none, none⟩,
    ⟨some 169, .nck (.tmp 168), none, none⟩,
    ⟨some 170, .fadr 0 (.tmp 169), none, none⟩,
    ⟨some 171, .fadr 0 (.tmp 170), none, none⟩,
    ⟨some 172, .ldR 46 1 false (.tmp 171), none, none⟩,
    ⟨some 173, .call 69 [(.tmp 172)], none, none⟩,
    ⟨some 174, .mv (.tmp 8), none, none⟩,
    ⟨some 175, .nck (.tmp 174), none, none⟩,
    ⟨some 176, .fadr 0 (.tmp 175), none, none⟩,
    ⟨some 177, .fadr 1 (.tmp 176), none, none⟩,
    ⟨some 178, .ldR 46 1 false (.tmp 177), none, none⟩,
    ⟨some 179, .call 70 [(.tmp 178)], none, none⟩,
    ⟨some 180, .mv (.tmp 8), none, none⟩,
    ⟨some 181, .nck (.tmp 180), none, none⟩,
    ⟨some 182, .fadr 0 (.tmp 181), none, none⟩,
    ⟨some 183, .fadr 3 (.tmp 182), none, none⟩,
    ⟨some 184, .ldR 46 1 false (.tmp 183), none, none⟩,
    ⟨some 185, .call 42 [(.tmp 184)], none, none⟩,
    ⟨some 186, .nck (.tmp 165), none, none⟩,
    ⟨some 187, .fadr 0 (.tmp 186), none, none⟩,
    ⟨some 188, .fadr 0 (.tmp 187), none, none⟩,
    ⟨none, .stR 46 1 (.tmp 188) (.tmp 173), none, none⟩,
    ⟨some 189, .nck (.tmp 166), none, none⟩,
    ⟨some 190, .fadr 0 (.tmp 189), none, none⟩,
    ⟨some 191, .fadr 1 (.tmp 190), none, none⟩,
    ⟨none, .stR 46 1 (.tmp 191) (.tmp 179), none, none⟩,
    ⟨some 192, .nck (.tmp 167), none, none⟩,
    ⟨some 193, .fadr 0 (.tmp 192), none, none⟩,
    ⟨some 194, .fadr 3 (.tmp 193), none, none⟩,
    ⟨none, .stR 46 1 (.tmp 194) (.tmp 185), none, none⟩]
def scans_Insert_r39 : List RO := [
    ⟨some 195, .mv (.tmp 8), none, none⟩,
    ⟨some 196, .nck (.tmp 195), none, none⟩,
    ⟨some 197, .fadr 0 (.tmp 196), none, none⟩,
    ⟨some 198, .ldR 46 4 true (.tmp 197), none, none⟩,
    ⟨some 199, .fadr 4 (.tmp 11), none, none⟩,
    ⟨some 200, .ldR 11 1 false (.tmp 199), none, none⟩,
    ⟨some 201, .call 44 [(.tmp 200)], none, none⟩,
    ⟨some 202, .fadr 6 (.tmp 11), none, none⟩,
    ⟨some 203, .ldR 11 1 false (.tmp 202), none, none⟩,
    ⟨some 204, .call 42 [(.tmp 203)], none, none⟩,
    ⟨some 205, .fadr 7 (.tmp 11), none, none⟩,
    ⟨some 206, .ldR 11 1 false (.tmp 205), none, none⟩,
    ⟨some 207, .call 42 [(.tmp 206)], none, none⟩,
    ⟨some 208, .fadr 0 (.tmp 11), none, none⟩,
    ⟨none, .stR 11 4 (.tmp 208) (.tmp 198), none, none⟩,
    ⟨some 209, .fadr 4 (.tmp 11), none, none⟩,
    ⟨none, .stR 11 1 (.tmp 209) (.tmp 201), none, none⟩,
    ⟨some 210, .fadr 6 (.tmp 11), none, none⟩,
    ⟨none, .stR 11 1 (.tmp 210) (.tmp 204), none, none⟩,
    ⟨some 211, .fadr 7 (.tmp 11), none, none⟩,
    ⟨none, .stR 11 1 (.tmp 211) (.tmp 207), none, none⟩]
def scans_Insert_r40 : List RO := [
    ⟨some 212, .load 8 true (.tmp 11), none, none⟩,
    ⟨none, .store 8 (.tmp 4) (.tmp 212), none, none⟩,
    ⟨some 5, .mv (.const (.int .i64 0)), none, none⟩]
def scans_Insert_ic : IC := (.seq (.reg scans_Insert_r0 [.keep [1, 2, 4] [4, 44, 78, 90, 111, 157, 62040, 62052]]) (.seq (.seq (.reg scans_Insert_r1 [.keep [1, 2, 4, 6] [4, 44, 78, 90, 111, 157, 62040, 62052]]) (.seq (.reg scans_Insert_r2 [.keep [1, 2, 4, 6, 25] [4, 44, 78, 90, 111, 157, 62040, 62052]]) (.cond (.tmp 25) (.seq (.reg scans_Insert_r3 [.keep [4, 5] [4, 44, 78, 90, 111, 157, 62040, 62052]]) .ret) .skip))) (.seq (.reg scans_Insert_r4 [.keep [1, 2, 4, 7] [4, 44, 78, 90, 111, 157, 62040, 62052]]) (.seq (.seq (.reg scans_Insert_r5 [.keep [1, 2, 4, 7, 40] [4, 44, 78, 90, 111, 157, 62040, 62052]]) (.cond (.tmp 40) (.seq (.reg scans_Insert_r6 [.keep [4, 5] [4, 44, 78, 90, 111, 157, 62040, 62052]]) .ret) .skip)) (.seq (.reg scans_Insert_r7 [.keep [1, 2, 4, 7, 8] [4, 44, 46, 78, 90, 111, 157, 62040, 62052]]) (.seq (.seq (.reg scans_Insert_r8 [.keep [1, 2, 4, 7, 8, 48, 49, 50] [4, 44, 46, 78, 90, 111, 157, 62040, 62052]]) (.block 0 scans_Insert_l1)) (.seq (.reg scans_Insert_r13 [.nlb 11 4 78 31 1, .nlb 11 6 90 3 1, .nlb 11 7 157 3 1, .keep [1, 2, 4, 7, 8, 11] [4, 11, 44, 46, 78, 90, 111, 157, 62040, 62052]]) (.seq (.reg scans_Insert_r14 [.keep [1, 2, 4, 7, 8, 11] [4, 11, 44, 46, 78, 90, 111, 157, 62040, 62052]]) (.seq (.reg scans_Insert_r15 [.keep [1, 2, 4, 7, 8, 11, 12] [4, 11, 44, 46, 64, 78, 90, 111, 157, 62040, 62052]]) (.seq (.seq (.reg scans_Insert_r16 [.keep [2, 4, 7, 8, 11, 12, 65, 66, 67] [4, 11, 44, 46, 64, 78, 90, 111, 157, 62040, 62052]]) (.block 2 scans_Insert_l5)) (.seq (.seq (.reg scans_Insert_r29 [.keep [2, 4, 8, 11, 12, 116, 117, 118] [4, 11, 44, 46, 64, 78, 90, 111, 157, 62040, 62052]]) (.gh (.block 6 scans_Insert_l7) [.frz 62040, .frz 62052, .frz 111, .frz 78, .frz 90, .frz 157])) (.seq (.seq (.reg scans_Insert_r36 [.keep [4, 8, 11, 163] [4, 11, 44, 46, 78, 90, 111, 157, 62040, 62052]]) (.cond (.tmp 163) (.seq (.reg scans_Insert_r37 [.keep [4, 5] [4, 44, 78, 90, 111, 157, 62040, 62052]]) .ret) .skip)) (.seq (.reg scans_Insert_r38 [.keep [4, 8, 11] [4, 11, 44, 46, 78, 90, 111, 157, 62040, 62052]]) (.seq (.reg scans_Insert_r39 [.keep [4, 11] [4, 11, 44, 78, 90, 111, 157, 62040, 62052]]) (.seq (.reg scans_Insert_r40 [.keep [4, 5] [4, 44, 78, 90, 111, 157, 62040, 62052]]) .ret)))))))))))))))
@[simp ↓] theorem scans_Insert_g0_run : run P Γ scans_Insert_g0 Q s = run P Γ (.gh (.seq (.reg scans_Insert_r9 [.keep [1, 2, 4, 7, 8, 48, 49, 50, 51] [4, 44, 46, 78, 90, 111, 157, 62040, 62052]]) (.seq (.cond (.tmp 51) .skip (.exit 0)) (.seq (.block 1 (.seq (.reg scans_Insert_r10 [.keep [1, 2, 4, 7, 8, 10, 48, 49, 50] [4, 44, 46, 78, 90, 111, 157, 62040, 62052]]) (.reg scans_Insert_r11 [.keep [1, 2, 4, 7, 8, 48, 49, 50] [4, 44, 46, 78, 90, 111, 157, 62040, 62052]]))) (.reg scans_Insert_r12 [.keep [1, 2, 4, 7, 8, 48, 49, 50] [4, 44, 46, 78, 90, 111, 157, 62040, 62052]])))) [.keep [1, 2, 4, 7, 8, 48, 49, 50] [4, 44, 46, 78, 90, 111, 157, 62040, 62052]]) Q s := Eq.trans rfl rfl
@[simp ↓] theorem scans_Insert_g2_run : run P Γ scans_Insert_g2 Q s = run P Γ (.gh (.seq (.reg scans_Insert_r23 [.keep [2, 4, 7, 8, 11, 12, 15, 65, 66, 67, 92, 93, 94, 95] [4, 11, 44, 46, 64, 78, 90, 111, 157, 62040, 62052]]) (.seq (.cond (.tmp 95) .skip (.exit 4)) (.seq (.block 5 (.seq (.reg scans_Insert_r24 [.keep [2, 4, 7, 8, 11, 12, 15, 17, 65, 66, 67, 92, 93, 94] [4, 11, 44, 46, 64, 78, 90, 111, 157, 62040, 62052]]) (.reg scans_Insert_r25 [.keep [2, 4, 7, 8, 11, 12, 15, 65, 66, 67, 92, 93, 94] [4, 11, 44, 46, 64, 78, 90, 111, 157, 62040, 62052]]))) (.reg scans_Insert_r26 [.keep [2, 4, 7, 8, 11, 12, 15, 65, 66, 67, 92, 93, 94] [4, 11, 44, 46, 64, 78, 90, 111, 157, 62040, 62052]])))) [.keep [2, 4, 7, 8, 11, 12, 15, 65, 66, 67, 92, 93, 94] [4, 11, 44, 46, 64, 78, 90, 111, 157, 62040, 62052]]) Q s := Eq.trans rfl rfl
@[simp ↓] theorem scans_Insert_g4_run : run P Γ scans_Insert_g4 Q s = run P Γ (.gh (.seq (.reg scans_Insert_r17 [.keep [2, 4, 7, 8, 11, 12, 65, 66, 67, 68] [4, 11, 44, 46, 64, 78, 90, 111, 157, 62040, 62052]]) (.seq (.cond (.tmp 68) .skip (.exit 2)) (.seq (.block 3 (.seq (.reg scans_Insert_r18 [.keep [2, 4, 7, 8, 11, 12, 13, 14, 65, 66, 67] [4, 11, 44, 46, 64, 78, 90, 111, 157, 62040, 62052]]) (.seq (.reg scans_Insert_r19 [.keep [2, 4, 7, 8, 11, 12, 13, 14, 65, 66, 67] [4, 11, 44, 46, 64, 78, 90, 111, 157, 62040, 62052]]) (.seq (.reg scans_Insert_r20 [.ren 85040 62040, .ren 85052 62052, .keep [2, 4, 7, 8, 11, 12, 14, 15, 65, 66, 67] [4, 11, 44, 46, 64, 78, 90, 111, 157, 62040, 62052]]) (.seq (.reg scans_Insert_r21 [.keep [2, 4, 7, 8, 11, 12, 14, 15, 65, 66, 67] [4, 11, 44, 46, 64, 78, 90, 111, 157, 62040, 62052]]) (.seq (.seq (.reg scans_Insert_r22 [.keep [2, 4, 7, 8, 11, 12, 15, 65, 66, 67, 92, 93, 94] [4, 11, 44, 46, 64, 78, 90, 111, 157, 62040, 62052]]) (.block 4 scans_Insert_l3)) (.reg scans_Insert_r27 [.keep [2, 4, 7, 8, 11, 12, 65, 66, 67] [4, 11, 44, 46, 64, 78, 90, 111, 157, 62040, 62052]]))))))) (.reg scans_Insert_r28 [.keep [2, 4, 7, 8, 11, 12, 65, 66, 67] [4, 11, 44, 46, 64, 78, 90, 111, 157, 62040, 62052]])))) [.keep [2, 4, 7, 8, 11, 12, 65, 66, 67] [4, 11, 44, 46, 64, 78, 90, 111, 157, 62040, 62052]]) Q s := Eq.trans rfl rfl
@[simp ↓] theorem scans_Insert_g6_run : run P Γ scans_Insert_g6 Q s = run P Γ (.gh (.seq (.reg scans_Insert_r30 [.keep [2, 4, 8, 11, 12, 116, 117, 118, 119] [4, 11, 44, 46, 64, 78, 90, 111, 157, 62040, 62052]]) (.seq (.cond (.tmp 119) .skip (.exit 6)) (.seq (.block 7 (.seq (.reg scans_Insert_r31 [.keep [2, 4, 8, 11, 12, 18, 19, 116, 117, 118] [4, 11, 44, 46, 64, 78, 90, 111, 157, 62040, 62052]]) (.seq (.reg scans_Insert_r32 [.ren 142040 62040, .ren 142052 62052, .keep [2, 4, 8, 11, 12, 19, 20, 116, 117, 118] [4, 11, 44, 46, 64, 78, 90, 111, 157, 62040, 62052]]) (.seq (.reg scans_Insert_r33 [.keep [2, 4, 8, 11, 12, 20, 116, 117, 118] [4, 11, 44, 46, 64, 78, 90, 111, 157, 62040, 62052]]) (.reg scans_Insert_r34 [.keep [2, 4, 8, 11, 12, 116, 117, 118] [4, 11, 44, 46, 64, 78, 90, 111, 157, 62040, 62052]]))))) (.reg scans_Insert_r35 [.keep [2, 4, 8, 11, 12, 116, 117, 118] [4, 11, 44, 46, 64, 78, 90, 111, 157, 62040, 62052]])))) [.keep [2, 4, 8, 11, 12, 116, 117, 118] [4, 11, 44, 46, 64, 78, 90, 111, 157, 62040, 62052]]) Q s := Eq.trans rfl rfl
@[simp ↓] theorem scans_Insert_ic_run : run P Γ scans_Insert_ic Q s = run P Γ (.seq (.reg scans_Insert_r0 [.keep [1, 2, 4] [4, 44, 78, 90, 111, 157, 62040, 62052]]) (.seq (.seq (.reg scans_Insert_r1 [.keep [1, 2, 4, 6] [4, 44, 78, 90, 111, 157, 62040, 62052]]) (.seq (.reg scans_Insert_r2 [.keep [1, 2, 4, 6, 25] [4, 44, 78, 90, 111, 157, 62040, 62052]]) (.cond (.tmp 25) (.seq (.reg scans_Insert_r3 [.keep [4, 5] [4, 44, 78, 90, 111, 157, 62040, 62052]]) .ret) .skip))) (.seq (.reg scans_Insert_r4 [.keep [1, 2, 4, 7] [4, 44, 78, 90, 111, 157, 62040, 62052]]) (.seq (.seq (.reg scans_Insert_r5 [.keep [1, 2, 4, 7, 40] [4, 44, 78, 90, 111, 157, 62040, 62052]]) (.cond (.tmp 40) (.seq (.reg scans_Insert_r6 [.keep [4, 5] [4, 44, 78, 90, 111, 157, 62040, 62052]]) .ret) .skip)) (.seq (.reg scans_Insert_r7 [.keep [1, 2, 4, 7, 8] [4, 44, 46, 78, 90, 111, 157, 62040, 62052]]) (.seq (.seq (.reg scans_Insert_r8 [.keep [1, 2, 4, 7, 8, 48, 49, 50] [4, 44, 46, 78, 90, 111, 157, 62040, 62052]]) (.block 0 scans_Insert_l1)) (.seq (.reg scans_Insert_r13 [.nlb 11 4 78 31 1, .nlb 11 6 90 3 1, .nlb 11 7 157 3 1, .keep [1, 2, 4, 7, 8, 11] [4, 11, 44, 46, 78, 90, 111, 157, 62040, 62052]]) (.seq (.reg scans_Insert_r14 [.keep [1, 2, 4, 7, 8, 11] [4, 11, 44, 46, 78, 90, 111, 157, 62040, 62052]]) (.seq (.reg scans_Insert_r15 [.keep [1, 2, 4, 7, 8, 11, 12] [4, 11, 44, 46, 64, 78, 90, 111, 157, 62040, 62052]]) (.seq (.seq (.reg scans_Insert_r16 [.keep [2, 4, 7, 8, 11, 12, 65, 66, 67] [4, 11, 44, 46, 64, 78, 90, 111, 157, 62040, 62052]]) (.block 2 scans_Insert_l5)) (.seq (.seq (.reg scans_Insert_r29 [.keep [2, 4, 8, 11, 12, 116, 117, 118] [4, 11, 44, 46, 64, 78, 90, 111, 157, 62040, 62052]]) (.gh (.block 6 scans_Insert_l7) [.frz 62040, .frz 62052, .frz 111, .frz 78, .frz 90, .frz 157])) (.seq (.seq (.reg scans_Insert_r36 [.keep [4, 8, 11, 163] [4, 11, 44, 46, 78, 90, 111, 157, 62040, 62052]]) (.cond (.tmp 163) (.seq (.reg scans_Insert_r37 [.keep [4, 5] [4, 44, 78, 90, 111, 157, 62040, 62052]]) .ret) .skip)) (.seq (.reg scans_Insert_r38 [.keep [4, 8, 11] [4, 11, 44, 46, 78, 90, 111, 157, 62040, 62052]]) (.seq (.reg scans_Insert_r39 [.keep [4, 11] [4, 11, 44, 78, 90, 111, 157, 62040, 62052]]) (.seq (.reg scans_Insert_r40 [.keep [4, 5] [4, 44, 78, 90, 111, 157, 62040, 62052]]) .ret))))))))))))))) Q s := Eq.trans rfl rfl
theorem scans_Insert_l1_run (h : ∀ K : St → Prop, K = run P Γ scans_Insert_l1 Q → run P Γ scans_Insert_g0 (thenX K Q) s) : run P Γ scans_Insert_l1 Q s := run_loop h
theorem scans_Insert_l3_run (h : ∀ K : St → Prop, K = run P Γ scans_Insert_l3 Q → run P Γ scans_Insert_g2 (thenX K Q) s) : run P Γ scans_Insert_l3 Q s := run_loop h
theorem scans_Insert_l5_run (h : ∀ K : St → Prop, K = run P Γ scans_Insert_l5 Q → run P Γ scans_Insert_g4 (thenX K Q) s) : run P Γ scans_Insert_l5 Q s := run_loop h
theorem scans_Insert_l7_run (h : ∀ K : St → Prop, K = run P Γ scans_Insert_l7 Q → run P Γ scans_Insert_g6 (thenX K Q) s) : run P Γ scans_Insert_l7 Q s := run_loop h
attribute [simp] scans_Insert_r0 scans_Insert_r1 scans_Insert_r2 scans_Insert_r3 scans_Insert_r4 scans_Insert_r5 scans_Insert_r6 scans_Insert_r7 scans_Insert_r8 scans_Insert_r9 scans_Insert_r10 scans_Insert_r11 scans_Insert_r12 scans_Insert_r13 scans_Insert_r14 scans_Insert_r15 scans_Insert_r16 scans_Insert_r17 scans_Insert_r18 scans_Insert_r19 scans_Insert_r20 scans_Insert_r21 scans_Insert_r22 scans_Insert_r23 scans_Insert_r24 scans_Insert_r25 scans_Insert_r26 scans_Insert_r27 scans_Insert_r28 scans_Insert_r29 scans_Insert_r30 scans_Insert_r31 scans_Insert_r32 scans_Insert_r33 scans_Insert_r34 scans_Insert_r35 scans_Insert_r36 scans_Insert_r37 scans_Insert_r38 scans_Insert_r39 scans_Insert_r40
def scans_Insert_rv : List RV := [.cell 4 8 true, .tmp 5]

/- (*probecard/scans.builder).add (function 67) -/
def scans_builder_add_r0 : List RO := [
    ⟨some 4, .box true (.tmp 1), none, none⟩,
    ⟨some 6, .mv (.const (.int .i64 0)), none, none⟩]
def scans_builder_add_r1 : List RO := [
    ⟨some 7, .mv (.tmp 0), none, none⟩,
    ⟨some 8, .nck (.tmp 7), none, none⟩,
    ⟨some 9, .fadr 4 (.tmp 8), none, none⟩,
    ⟨some 10, .load 1 false (.tmp 9), none, none⟩,
    ⟨some 11, .mv (.tmp 2), none, none⟩,
    ⟨some 12, .lkup .str (.bool false) false (.tmp 10) (.tmp 11), none, none⟩]
def scans_builder_add_r2 : List RO := [
    ⟨some 13, .mv (.tmp 2), none, none⟩,
    ⟨some 14, .bin .add (.tmp 13) (.const (sV [95])), none, none⟩,
    ⟨some 2, .mv (.tmp 14), none, none⟩]
def scans_builder_add_g0 : IC := .gh (.seq (.seq (.reg scans_builder_add_r1 [.keep [0, 2, 4, 12] [40, 52, 1000000, 1000001, 1000002, 1000003, 1000004]]) (.cond (.tmp 12) .skip (.exit 0))) (.block 1 (.reg scans_builder_add_r2 [.keep [0, 2, 4] [40, 52, 1000000, 1000001, 1000002, 1000003, 1000004]]))) [.keep [0, 2, 4] [40, 52, 1000000, 1000001, 1000002, 1000003, 1000004]]
def scans_builder_add_l1 : IC := .loop scans_builder_add_g0
def scans_builder_add_r3 : List RO := [
    ⟨some 15, .mv (.tmp 0), none, none⟩,
    ⟨some 16, .nck (.tmp 15), none, none⟩,
    ⟨some 17, .fadr 4 (.tmp 16), none, none⟩,
    ⟨some 18, .load 1 false (.tmp 17), none, none⟩,
    ⟨some 19, .mv (.tmp 2), none, none⟩,
    ⟨none, .mup .str (.tmp 18) (.tmp 19) (.const (.bool true)), none, none⟩]
def scans_builder_add_r4 : List RO := [
    ⟨some 20, .mv (.tmp 0), none, none⟩,
    ⟨some 21, .mv (.tmp 0), none, none⟩,
    ⟨some 22, .nck (.tmp 21), none, none⟩,
    ⟨some 23, .fadr 5 (.tmp 22), none, none⟩,
    ⟨some 24, .load 1 false (.tmp 23), none, none⟩,
    ⟨some 25, .mv (.tmp 24), none, none⟩,
    ⟨some 26, .mv (.tmp 2), some (25, false), none⟩,
    ⟨some 27, .len 1 (.tmp 26), some (25, false), none⟩,
    ⟨some 28, .bin .gtr (.tmp 27) (.const (.int .i64 32)), some (25, false), none⟩,
    ⟨some 29, .pick (.tmp 25) (.const (.bool true)) (.tmp 28), none, none⟩,
    ⟨some 30, .nck (.tmp 20), none, none⟩,
    ⟨some 31, .fadr 5 (.tmp 30), none, none⟩,
    ⟨none, .store 1 (.tmp 31) (.tmp 29), none, none⟩]
def scans_builder_add_r5 : List RO := [
    ⟨some 32, .mv (.tmp 0), none, none⟩,
    ⟨some 33, .mv (.tmp 0), none, none⟩,
    ⟨some 34, .nck (.tmp 33), none, none⟩,
    ⟨some 35, .fadr 0 (.tmp 34), none, none⟩,
    ⟨some 36, .fadr 0 (.tmp 35), none, none⟩,
    ⟨some 37, .ldR 1000001 1 false (.tmp 36), none, none⟩,
    ⟨some 38, .ldT 4 true (.tmp 4), none, none⟩,
    ⟨some 39, .bsl true 48 4 [(.tmp 38)], none, none⟩,
    ⟨some 40, .app false 48 4 (.tmp 37) (.tmp 39), none, none⟩,
    ⟨some 41, .nck (.tmp 32), none, none⟩,
    ⟨some 42, .fadr 0 (.tmp 41), none, none⟩,
    ⟨some 43, .fadr 0 (.tmp 42), none, none⟩,
    ⟨none, .stR 1000001 1 (.tmp 43) (.tmp 40), none, none⟩]
def scans_builder_add_r6 : List RO := [
    ⟨some 44, .mv (.tmp 0), none, none⟩,
    ⟨some 45, .mv (.tmp 0), none, none⟩,
    ⟨some 46, .nck (.tmp 45), none, none⟩,
    ⟨some 47, .fadr 0 (.tmp 46), none, none⟩,
    ⟨some 48, .fadr 1 (.tmp 47), none, none⟩,
    ⟨some 49, .load 1 false (.tmp 48), none, none⟩,
    ⟨some 50, .mv (.tmp 2), none, none⟩,
    ⟨some 51, .bsl true 9 1 [(.tmp 50)], none, none⟩,
    ⟨some 52, .app false 9 1 (.tmp 49) (.tmp 51), none, none⟩,
    ⟨some 53, .nck (.tmp 44), none, none⟩,
    ⟨some 54, .fadr 0 (.tmp 53), none, none⟩,
    ⟨some 55, .fadr 1 (.tmp 54), none, none⟩,
    ⟨none, .store 1 (.tmp 55) (.tmp 52), none, none⟩]
def scans_builder_add_r7 : List RO := [
    ⟨some 56, .mv (.tmp 0), none, none⟩,
    ⟨some 57, .nck (.tmp 56), none, none⟩,
    ⟨some 58, .fadr 0 (.tmp 57), none, none⟩,
    ⟨some 59, .fadr 0 (.tmp 58), none, none⟩,
    ⟨some 60, .load 1 false (.tmp 59), none, none⟩,
    ⟨some 61, .len 0 (.tmp 60), none, none⟩,
    ⟨some 62, .bin .sub (.tmp 61) (.const (.int .i64 1)), none, none⟩,
    ⟨some 6, .mv (.tmp 62), none, none⟩]
def scans_builder_add_ic : IC := (.seq (.reg scans_builder_add_r0 [.keep [0, 2, 4] [40, 52, 1000000, 1000001, 1000002, 1000003, 1000004]]) (.seq (.block 0 scans_builder_add_l1) (.seq (.reg scans_builder_add_r3 [.keep [0, 2, 4] [40, 52, 1000000, 1000001, 1000002, 1000003, 1000004]]) (.seq (.reg scans_builder_add_r4 [.keep [0, 2, 4] [40, 52, 1000000, 1000001, 1000002, 1000003, 1000004]]) (.seq (.reg scans_builder_add_r5 [.keep [0, 2] [40, 52, 1000000, 1000001, 1000002, 1000003, 1000004]]) (.seq (.reg scans_builder_add_r6 [.keep [0] [40, 52, 1000000, 1000001, 1000002, 1000003, 1000004]]) (.seq (.reg scans_builder_add_r7 [.keep [6] [40, 52, 1000000, 1000001, 1000002, 1000003, 1000004]]) .ret)))))))
@[simp ↓] theorem scans_builder_add_g0_run : run P Γ scans_builder_add_g0 Q s = run P Γ (.gh (.seq (.seq (.reg scans_builder_add_r1 [.keep [0, 2, 4, 12] [40, 52, 1000000, 1000001, 1000002, 1000003, 1000004]]) (.cond (.tmp 12) .skip (.exit 0))) (.block 1 (.reg scans_builder_add_r2 [.keep [0, 2, 4] [40, 52, 1000000, 1000001, 1000002, 1000003, 1000004]]))) [.keep [0, 2, 4] [40, 52, 1000000, 1000001, 1000002, 1000003, 1000004]]) Q s := Eq.trans rfl rfl
@[simp ↓] theorem scans_builder_add_ic_run : run P Γ scans_builder_add_ic Q s = run P Γ (.seq (.reg scans_builder_add_r0 [.keep [0, 2, 4] [40, 52, 1000000, 1000001, 1000002, 1000003, 1000004]]) (.seq (.block 0 scans_builder_add_l1) (.seq (.reg scans_builder_add_r3 [.keep [0, 2, 4] [40, 52, 1000000, 1000001, 1000002, 1000003, 1000004]]) (.seq (.reg scans_builder_add_r4 [.keep [0, 2, 4] [40, 52, 1000000, 1000001, 1000002, 1000003, 1000004]]) (.seq (.reg scans_builder_add_r5 [.keep [0, 2] [40, 52, 1000000, 1000001, 1000002, 1000003, 1000004]]) (.seq (.reg scans_builder_add_r6 [.keep [0] [40, 52, 1000000, 1000001, 1000002, 1000003, 1000004]]) (.seq (.reg scans_builder_add_r7 [.keep [6] [40, 52, 1000000, 1000001, 1000002, 1000003, 1000004]]) .ret))))))) Q s := Eq.trans rfl rfl
theorem scans_builder_add_l1_run (h : ∀ K : St → Prop, K = run P Γ scans_builder_add_l1 Q → run P Γ scans_builder_add_g0 (thenX K Q) s) : run P Γ scans_builder_add_l1 Q s := run_loop h
attribute [simp] scans_builder_add_r0 scans_builder_add_r1 scans_builder_add_r2 scans_builder_add_r3 scans_builder_add_r4 scans_builder_add_r5 scans_builder_add_r6 scans_builder_add_r7
def scans_builder_add_rv : List RV := [.tmp 6]

/- probecard/netlists.Copy (function 66) -/
def netlists_Copy_r0 : List RO := [
    ⟨some 1, .box true (.tmp 0), none, none⟩,
    ⟨some 2, .alloc false [(.slice none 0 0), (.slice none 0 0), (.slice none 0 0), (.slice none 0 0)], none, none⟩]
def netlists_Copy_r1 : List RO := [
    ⟨some 8, .fadr 0 (.tmp 1), none, none⟩,
    ⟨some 9, .ldT 1 false (.tmp 8), none, none⟩,
    ⟨some 10, .ncall 96 [(.tmp 9)] 10000, none, none⟩,
    ⟨some 11, .fadr 1 (.tmp 1), none, none⟩,
    ⟨some 12, .ldT 1 false (.tmp 11), none, none⟩,
    ⟨some 13, .callT 97 [(.tmp 12)], none, none⟩,
    ⟨some 14, .fadr 2 (.tmp 1), none, none⟩,
    ⟨some 15, .ldT 1 false (.tmp 14), none, none⟩,
    ⟨some 16, .callT 98 [(.tmp 15)], none, none⟩,
    ⟨some 17, .fadr 3 (.tmp 1), none, none⟩,
    ⟨some 18, .ldT 1 false (.tmp 17), none, none⟩,
    ⟨some 19, .callT 99 [(.tmp 18)], none, none⟩,
    ⟨some 20, .build [(1, (.tmp 10)), (1, (.tmp 13)), (1, (.tmp 16)), (1, (.tmp 19))], none, none⟩,
    ⟨some 3, .alloc false [(.slice none 0 0), (.slice none 0 0), (.slice none 0 0), (.slice none 0 0)], none, none⟩,
    ⟨none, .stR 3 4 (.tmp 3) (.tmp 20), none, none⟩]
def netlists_Copy_r2 : List RO := [
    ⟨some 21, .fadr 0 (.tmp 3), none, none⟩,
    ⟨some 22, .load 1 false (.tmp 21), none, none⟩,
    ⟨some 23, .len 0 (.tmp 22), none, none⟩,
    ⟨some 24, .mv (.const (.int .i64 0)), none, none⟩]
def netlists_Copy_r3 : List RO := [
    ⟨some 25, .bin .lss (.tmp 24) (.tmp 23), none, none⟩]
def netlists_Copy_r4 : List RO := [
    ⟨some 26, .mv (.tmp 24), none, none⟩,
    ⟨some 27, .iadr 4 (.tmp 22) (.tmp 24), none, none⟩,
    ⟨some 28, .load 4 true (.tmp 27), none, none⟩,
    ⟨some 5, .alloc false [(.int .u8 0), (.slice none 0 0), (.int .i64 0), (.int .i64 0)], none, none⟩,
    ⟨some 4, .mv (.tmp 26), none, none⟩,
    ⟨none, .store 4 (.tmp 5) (.tmp 28), none, none⟩]
def netlists_Copy_r5 : List RO := [
    ⟨some 29, .fadr 0 (.tmp 3), none, none⟩,
    ⟨some 30, .ldR 3 1 false (.tmp 29), none, none⟩,
    ⟨some 31, .mv (.tmp 4), none, none⟩,
    ⟨some 32, .fadr 1 (.tmp 5), none, none⟩,
    ⟨some 33, .ldR 5 1 false (.tmp 32), none, none⟩,
    ⟨some 34, .callT 99 [(.tmp 33)], none, none⟩,
    ⟨some 35, .iadr 4 (.tmp 30) (.tmp 31), none, none⟩,
    ⟨some 36, .fadr 1 (.tmp 35), none, none⟩,
    ⟨none, .stR 14007 1 (.tmp 36) (.tmp 34), none, none⟩]
def netlists_Copy_r6 : List RO := [
    ⟨some 37, .bin .add (.tmp 24) (.const (.int .i64 1)), none, none⟩,
    ⟨some 24, .mv (.tmp 37), none, none⟩]
def netlists_Copy_g0 : IC := .gh (.seq (.reg netlists_Copy_r3 [.keep [2, 3, 22, 23, 24, 25] [2, 3, 14007]]) (.seq (.cond (.tmp 25) .skip (.exit 0)) (.seq (.block 1 (.seq (.reg netlists_Copy_r4 [.keep [2, 3, 4, 5, 22, 23, 24] [2, 3, 5, 14007]]) (.reg netlists_Copy_r5 [.keep [2, 3, 22, 23, 24] [2, 3, 14007]]))) (.reg netlists_Copy_r6 [.keep [2, 3, 22, 23, 24] [2, 3, 14007]])))) [.keep [2, 3, 22, 23, 24] [2, 3, 14007]]
def netlists_Copy_l1 : IC := .loop netlists_Copy_g0
def netlists_Copy_r7 : List RO := [
    ⟨some 38, .fadr 2 (.tmp 3), none, none⟩,
    ⟨some 39, .load 1 false (.tmp 38), none, none⟩,
    ⟨some 40, .len 0 (.tmp 39), none, none⟩,
    ⟨some 41, .mv (.const (.int .i64 0)), none, none⟩]
def netlists_Copy_r8 : List RO := [
    ⟨some 42, .bin .lss (.tmp 41) (.tmp 40), none, none⟩]
def netlists_Copy_r9 : List RO := [
    ⟨some 43, .mv (.tmp 41), none, none⟩,
    ⟨some 44, .iadr 3 (.tmp 39) (.tmp 41), none, none⟩,
    ⟨some 45, .load 3 true (.tmp 44), none, none⟩,
    ⟨some 7, .alloc false [(.slice none 0 0), (.slice none 0 0), (.int .i64 0)], none, none⟩,
    ⟨some 6, .mv (.tmp 43), none, none⟩,
    ⟨none, .store 3 (.tmp 7) (.tmp 45), none, none⟩]
def netlists_Copy_r10 : List RO := [
    ⟨some 46, .fadr 2 (.tmp 3), none, none⟩,
    ⟨some 47, .ldR 3 1 false (.tmp 46), none, none⟩,
    ⟨some 48, .mv (.tmp 6), none, none⟩,
    ⟨some 49, .fadr 2 (.tmp 3), none, none⟩,
    ⟨some 50, .ldR 3 1 false (.tmp 49), none, none⟩,
    ⟨some 51, .mv (.tmp 6), none, none⟩,
    ⟨some 52, .fadr 0 (.tmp 7), none, none⟩,
    ⟨some 53, .ldR 7 1 false (.tmp 52), none, none⟩,
    ⟨some 54, .callT 99 [(.tmp 53)], none, none⟩,
    ⟨some 55, .fadr 1 (.tmp 7), none, none⟩,
    ⟨some 56, .ldR 7 1 false (.tmp 55), none, none⟩,
    ⟨some 57, .callT 99 [(.tmp 56)], none, none⟩,
    ⟨some 58, .iadr 3 (.tmp 47) (.tmp 48), none, none⟩,
    ⟨some 59, .fadr 0 (.tmp 58), none, none⟩,
    ⟨none, .stR 14007 1 (.tmp 59) (.tmp 54), none, none⟩,
    ⟨some 60, .iadr 3 (.tmp 50) (.tmp 51), none, none⟩,
    ⟨some 61, .fadr 1 (.tmp 60), none, none⟩,
    ⟨none, .stR 14007 1 (.tmp 61) (.tmp 57), none, none⟩]
def netlists_Copy_r11 : List RO := [
    ⟨some 62, .bin .add (.tmp 41) (.const (.int .i64 1)), none, none⟩,
    ⟨some 41, .mv (.tmp 62), none, none⟩]
def netlists_Copy_g2 : IC := .gh (.seq (.reg netlists_Copy_r8 [.keep [2, 3, 39, 40, 41, 42] [2, 3, 14007]]) (.seq (.cond (.tmp 42) .skip (.exit 2)) (.seq (.block 3 (.seq (.reg netlists_Copy_r9 [.keep [2, 3, 6, 7, 39, 40, 41] [2, 3, 7, 14007]]) (.reg netlists_Copy_r10 [.keep [2, 3, 39, 40, 41] [2, 3, 14007]]))) (.reg netlists_Copy_r11 [.keep [2, 3, 39, 40, 41] [2, 3, 14007]])))) [.keep [2, 3, 39, 40, 41] [2, 3, 14007]]
def netlists_Copy_l3 : IC := .loop netlists_Copy_g2
def netlists_Copy_r12 : List RO := [
    ⟨some 63, .load 4 true (.tmp 3), none, none⟩,
    ⟨none, .store 4 (.tmp 2) (.tmp 63), none, none⟩]
def netlists_Copy_ic : IC := (.seq (.reg netlists_Copy_r0 [.keep [1, 2] [2, 14007]]) (.seq (.reg netlists_Copy_r1 [.keep [2, 3] [2, 3, 14007]]) (.seq (.seq (.reg netlists_Copy_r2 [.keep [2, 3, 22, 23, 24] [2, 3, 14007]]) (.gh (.block 0 netlists_Copy_l1) [.frz 14007])) (.seq (.seq (.reg netlists_Copy_r7 [.keep [2, 3, 39, 40, 41] [2, 3, 14007]]) (.block 2 netlists_Copy_l3)) (.seq (.reg netlists_Copy_r12 [.keep [2] [2, 14007]]) .ret)))))
@[simp ↓] theorem netlists_Copy_g0_run : run P Γ netlists_Copy_g0 Q s = run P Γ (.gh (.seq (.reg netlists_Copy_r3 [.keep [2, 3, 22, 23, 24, 25] [2, 3, 14007]]) (.seq (.cond (.tmp 25) .skip (.exit 0)) (.seq (.block 1 (.seq (.reg netlists_Copy_r4 [.keep [2, 3, 4, 5, 22, 23, 24] [2, 3, 5, 14007]]) (.reg netlists_Copy_r5 [.keep [2, 3, 22, 23, 24] [2, 3, 14007]]))) (.reg netlists_Copy_r6 [.keep [2, 3, 22, 23, 24] [2, 3, 14007]])))) [.keep [2, 3, 22, 23, 24] [2, 3, 14007]]) Q s := Eq.trans rfl rfl
@[simp ↓] theorem netlists_Copy_g2_run : run P Γ netlists_Copy_g2 Q s = run P Γ (.gh (.seq (.reg netlists_Copy_r8 [.keep [2, 3, 39, 40, 41, 42] [2, 3, 14007]]) (.seq (.cond (.tmp 42) .skip (.exit 2)) (.seq (.block 3 (.seq (.reg netlists_Copy_r9 [.keep [2, 3, 6, 7, 39, 40, 41] [2, 3, 7, 14007]]) (.reg netlists_Copy_r10 [.keep [2, 3, 39, 40, 41] [2, 3, 14007]]))) (.reg netlists_Copy_r11 [.keep [2, 3, 39, 40, 41] [2, 3, 14007]])))) [.keep [2, 3, 39, 40, 41] [2, 3, 14007]]) Q s := Eq.trans rfl rfl
@[simp ↓] theorem netlists_Copy_ic_run : run P Γ netlists_Copy_ic Q s = run P Γ (.seq (.reg netlists_Copy_r0 [.keep [1, 2] [2, 14007]]) (.seq (.reg netlists_Copy_r1 [.keep [2, 3] [2, 3, 14007]]) (.seq (.seq (.reg netlists_Copy_r2 [.keep [2, 3, 22, 23, 24] [2, 3, 14007]]) (.gh (.block 0 netlists_Copy_l1) [.frz 14007])) (.seq (.seq (.reg netlists_Copy_r7 [.keep [2, 3, 39, 40, 41] [2, 3, 14007]]) (.block 2 netlists_Copy_l3)) (.seq (.reg netlists_Copy_r12 [.keep [2] [2, 14007]]) .ret))))) Q s := Eq.trans rfl rfl
theorem netlists_Copy_l1_run (h : ∀ K : St → Prop, K = run P Γ netlists_Copy_l1 Q → run P Γ netlists_Copy_g0 (thenX K Q) s) : run P Γ netlists_Copy_l1 Q s := run_loop h
theorem netlists_Copy_l3_run (h : ∀ K : St → Prop, K = run P Γ netlists_Copy_l3 Q → run P Γ netlists_Copy_g2 (thenX K Q) s) : run P Γ netlists_Copy_l3 Q s := run_loop h
attribute [simp] netlists_Copy_r0 netlists_Copy_r1 netlists_Copy_r2 netlists_Copy_r3 netlists_Copy_r4 netlists_Copy_r5 netlists_Copy_r6 netlists_Copy_r7 netlists_Copy_r8 netlists_Copy_r9 netlists_Copy_r10 netlists_Copy_r11 netlists_Copy_r12
def netlists_Copy_rv : List RV := [.cell 2 4 true]

/- probecard/netlists.copied[probecard/api.Node] (function 96) -/
def netlists_copied_api_Node_r0 : List RO := [
    ⟨some 2, .mv (.const (.slice none 0 0)), none, none⟩]
def netlists_copied_api_Node_r1 : List RO := [
    ⟨some 3, .mv (.tmp 0), none, none⟩,
    ⟨some 4, .hcall 116 [(.tmp 3)] [] 4000, none, none⟩,
    ⟨some 5, .hcall 69 [(.tmp 4)] [4007] 5000, none, none⟩,
    ⟨some 2, .mv (.tmp 5), none, none⟩]
def netlists_copied_api_Node_ic : IC := (.seq (.reg netlists_copied_api_Node_r0 [.keep [0] []]) (.seq (.reg netlists_copied_api_Node_r1 [.keep [2] [4007]]) .ret))
@[simp ↓] theorem netlists_copied_api_Node_ic_run : run P Γ netlists_copied_api_Node_ic Q s = run P Γ (.seq (.reg netlists_copied_api_Node_r0 [.keep [0] []]) (.seq (.reg netlists_copied_api_Node_r1 [.keep [2] [4007]]) .ret)) Q s := Eq.trans rfl rfl
attribute [simp] netlists_copied_api_Node_r0 netlists_copied_api_Node_r1
def netlists_copied_api_Node_rv : List RV := [.tmp 2]

/- probecard/netlists.copied[string] (function 97) -/
def netlists_copied_string_r0 : List RO := [
    ⟨some 2, .mv (.const (.slice none 0 0)), none, none⟩]
def netlists_copied_string_r1 : List RO := [
    ⟨some 3, .mv (.tmp 0), none, none⟩,
    ⟨some 4, .call 117 [(.tmp 3)], none, none⟩,
    ⟨some 5, .call 70 [(.tmp 4)], none, none⟩,
    ⟨some 2, .mv (.tmp 5), none, none⟩]
def netlists_copied_string_ic : IC := (.seq (.reg netlists_copied_string_r0 [.keep [0] []]) (.seq (.reg netlists_copied_string_r1 [.keep [2] []]) .ret))
@[simp ↓] theorem netlists_copied_string_ic_run : run P Γ netlists_copied_string_ic Q s = run P Γ (.seq (.reg netlists_copied_string_r0 [.keep [0] []]) (.seq (.reg netlists_copied_string_r1 [.keep [2] []]) .ret)) Q s := Eq.trans rfl rfl
attribute [simp] netlists_copied_string_r0 netlists_copied_string_r1
def netlists_copied_string_rv : List RV := [.tmp 2]

/- probecard/netlists.copied[probecard/api.Memory] (function 98) -/
def netlists_copied_api_Memory_r0 : List RO := [
    ⟨some 2, .mv (.const (.slice none 0 0)), none, none⟩]
def netlists_copied_api_Memory_r1 : List RO := [
    ⟨some 3, .mv (.tmp 0), none, none⟩,
    ⟨some 4, .call 119 [(.tmp 3)], none, none⟩,
    ⟨some 5, .call 118 [(.tmp 4)], none, none⟩,
    ⟨some 2, .mv (.tmp 5), none, none⟩]
def netlists_copied_api_Memory_ic : IC := (.seq (.reg netlists_copied_api_Memory_r0 [.keep [0] []]) (.seq (.reg netlists_copied_api_Memory_r1 [.keep [2] []]) .ret))
@[simp ↓] theorem netlists_copied_api_Memory_ic_run : run P Γ netlists_copied_api_Memory_ic Q s = run P Γ (.seq (.reg netlists_copied_api_Memory_r0 [.keep [0] []]) (.seq (.reg netlists_copied_api_Memory_r1 [.keep [2] []]) .ret)) Q s := Eq.trans rfl rfl
attribute [simp] netlists_copied_api_Memory_r0 netlists_copied_api_Memory_r1
def netlists_copied_api_Memory_rv : List RV := [.tmp 2]

/- probecard/netlists.copied[int] (function 99) -/
def netlists_copied_int_r0 : List RO := [
    ⟨some 2, .mv (.const (.slice none 0 0)), none, none⟩]
def netlists_copied_int_r1 : List RO := [
    ⟨some 3, .mv (.tmp 0), none, none⟩,
    ⟨some 4, .call 43 [(.tmp 3)], none, none⟩,
    ⟨some 5, .call 42 [(.tmp 4)], none, none⟩,
    ⟨some 2, .mv (.tmp 5), none, none⟩]
def netlists_copied_int_ic : IC := (.seq (.reg netlists_copied_int_r0 [.keep [0] []]) (.seq (.reg netlists_copied_int_r1 [.keep [2] []]) .ret))
@[simp ↓] theorem netlists_copied_int_ic_run : run P Γ netlists_copied_int_ic Q s = run P Γ (.seq (.reg netlists_copied_int_r0 [.keep [0] []]) (.seq (.reg netlists_copied_int_r1 [.keep [2] []]) .ret)) Q s := Eq.trans rfl rfl
attribute [simp] netlists_copied_int_r0 netlists_copied_int_r1
def netlists_copied_int_rv : List RV := [.tmp 2]

/- slices.Clone[[]probecard/api.Node,probecard/api.Node] (function 116) -/
def slices_Clone_api_Node_r0 : List RO := [
    ⟨some 2, .mv (.const (.slice none 0 0)), none, none⟩]
def slices_Clone_api_Node_r1 : List RO := [
    ⟨some 3, .mv (.tmp 0), none, none⟩,
    ⟨some 4, .isNil true (.tmp 3), none, none⟩]
def slices_Clone_api_Node_r2 : List RO := [
    ⟨some 2, .mv (.const (.slice none 0 0)), none, none⟩]
def slices_Clone_api_Node_r3 : List RO := [
    ⟨some 5, .bsl true 48 4 [], none, none⟩,
    ⟨some 6, .mv (.tmp 0), none, none⟩,
    ⟨some 7, .app false 48 4 (.tmp 5) (.tmp 6), none, none⟩,
    ⟨some 2, .mv (.tmp 7), none, none⟩]
def slices_Clone_api_Node_ic : IC := (.seq (.reg slices_Clone_api_Node_r0 [.keep [0] []]) (.seq (.seq (.reg slices_Clone_api_Node_r1 [.keep [0, 4] []]) (.cond (.tmp 4) (.seq (.reg slices_Clone_api_Node_r2 [.keep [2] [7]]) .ret) .skip)) (.seq (.reg slices_Clone_api_Node_r3 [.keep [2] [7]]) .ret)))
@[simp ↓] theorem slices_Clone_api_Node_ic_run : run P Γ slices_Clone_api_Node_ic Q s = run P Γ (.seq (.reg slices_Clone_api_Node_r0 [.keep [0] []]) (.seq (.seq (.reg slices_Clone_api_Node_r1 [.keep [0, 4] []]) (.cond (.tmp 4) (.seq (.reg slices_Clone_api_Node_r2 [.keep [2] [7]]) .ret) .skip)) (.seq (.reg slices_Clone_api_Node_r3 [.keep [2] [7]]) .ret))) Q s := Eq.trans rfl rfl
attribute [simp] slices_Clone_api_Node_r0 slices_Clone_api_Node_r1 slices_Clone_api_Node_r2 slices_Clone_api_Node_r3
def slices_Clone_api_Node_rv : List RV := [.tmp 2]

/- slices.Clone[[]string,string] (function 117) -/
def slices_Clone_string_r0 : List RO := [
    ⟨some 2, .mv (.const (.slice none 0 0)), none, none⟩]
def slices_Clone_string_r1 : List RO := [
    ⟨some 3, .mv (.tmp 0), none, none⟩,
    ⟨some 4, .isNil true (.tmp 3), none, none⟩]
def slices_Clone_string_r2 : List RO := [
    ⟨some 2, .mv (.const (.slice none 0 0)), none, none⟩]
def slices_Clone_string_r3 : List RO := [
    ⟨some 5, .bsl true 9 1 [], none, none⟩,
    ⟨some 6, .mv (.tmp 0), none, none⟩,
    ⟨some 7, .appT 9 1 (.tmp 5) (.tmp 6), none, none⟩,
    ⟨some 2, .mv (.tmp 7), none, none⟩]
def slices_Clone_string_ic : IC := (.seq (.reg slices_Clone_string_r0 [.keep [0] []]) (.seq (.seq (.reg slices_Clone_string_r1 [.keep [0, 4] []]) (.cond (.tmp 4) (.seq (.reg slices_Clone_string_r2 [.keep [2] []]) .ret) .skip)) (.seq (.reg slices_Clone_string_r3 [.keep [2] []]) .ret)))
@[simp ↓] theorem slices_Clone_string_ic_run : run P Γ slices_Clone_string_ic Q s = run P Γ (.seq (.reg slices_Clone_string_r0 [.keep [0] []]) (.seq (.seq (.reg slices_Clone_string_r1 [.keep [0, 4] []]) (.cond (.tmp 4) (.seq (.reg slices_Clone_string_r2 [.keep [2] []]) .ret) .skip)) (.seq (.reg slices_Clone_string_r3 [.keep [2] []]) .ret))) Q s := Eq.trans rfl rfl
attribute [simp] slices_Clone_string_r0 slices_Clone_string_r1 slices_Clone_string_r2 slices_Clone_string_r3
def slices_Clone_string_rv : List RV := [.tmp 2]

/- slices.Clone[[]probecard/api.Memory,probecard/api.Memory] (function 119) -/
def slices_Clone_api_Memory_r0 : List RO := [
    ⟨some 2, .mv (.const (.slice none 0 0)), none, none⟩]
def slices_Clone_api_Memory_r1 : List RO := [
    ⟨some 3, .mv (.tmp 0), none, none⟩,
    ⟨some 4, .isNil true (.tmp 3), none, none⟩]
def slices_Clone_api_Memory_r2 : List RO := [
    ⟨some 2, .mv (.const (.slice none 0 0)), none, none⟩]
def slices_Clone_api_Memory_r3 : List RO := [
    ⟨some 5, .bsl true 102 3 [], none, none⟩,
    ⟨some 6, .mv (.tmp 0), none, none⟩,
    ⟨some 7, .appT 102 3 (.tmp 5) (.tmp 6), none, none⟩,
    ⟨some 2, .mv (.tmp 7), none, none⟩]
def slices_Clone_api_Memory_ic : IC := (.seq (.reg slices_Clone_api_Memory_r0 [.keep [0] []]) (.seq (.seq (.reg slices_Clone_api_Memory_r1 [.keep [0, 4] []]) (.cond (.tmp 4) (.seq (.reg slices_Clone_api_Memory_r2 [.keep [2] []]) .ret) .skip)) (.seq (.reg slices_Clone_api_Memory_r3 [.keep [2] []]) .ret)))
@[simp ↓] theorem slices_Clone_api_Memory_ic_run : run P Γ slices_Clone_api_Memory_ic Q s = run P Γ (.seq (.reg slices_Clone_api_Memory_r0 [.keep [0] []]) (.seq (.seq (.reg slices_Clone_api_Memory_r1 [.keep [0, 4] []]) (.cond (.tmp 4) (.seq (.reg slices_Clone_api_Memory_r2 [.keep [2] []]) .ret) .skip)) (.seq (.reg slices_Clone_api_Memory_r3 [.keep [2] []]) .ret))) Q s := Eq.trans rfl rfl
attribute [simp] slices_Clone_api_Memory_r0 slices_Clone_api_Memory_r1 slices_Clone_api_Memory_r2 slices_Clone_api_Memory_r3
def slices_Clone_api_Memory_rv : List RV := [.tmp 2]

/- slices.Clip[[]probecard/api.Node,probecard/api.Node] (function 69) -/
def slices_Clip_api_Node_r0 : List RO := [
    ⟨some 2, .mv (.const (.slice none 0 0)), none, none⟩]
def slices_Clip_api_Node_r1 : List RO := [
    ⟨some 3, .mv (.tmp 0), none, none⟩,
    ⟨some 4, .mv (.tmp 0), none, none⟩,
    ⟨some 5, .len 0 (.tmp 4), none, none⟩,
    ⟨some 6, .mv (.tmp 0), none, none⟩,
    ⟨some 7, .len 0 (.tmp 6), none, none⟩,
    ⟨some 8, .slice 4 (.tmp 3) none (some (.tmp 5)) (some (.tmp 7)), none, none⟩,
    ⟨some 2, .mv (.tmp 8), none, none⟩]
def slices_Clip_api_Node_ic : IC := (.seq (.reg slices_Clip_api_Node_r0 [.keep [0] [1000000]]) (.seq (.reg slices_Clip_api_Node_r1 [.keep [2] [1000000]]) .ret))
@[simp ↓] theorem slices_Clip_api_Node_ic_run : run P Γ slices_Clip_api_Node_ic Q s = run P Γ (.seq (.reg slices_Clip_api_Node_r0 [.keep [0] [1000000]]) (.seq (.reg slices_Clip_api_Node_r1 [.keep [2] [1000000]]) .ret)) Q s := Eq.trans rfl rfl
attribute [simp] slices_Clip_api_Node_r0 slices_Clip_api_Node_r1
def slices_Clip_api_Node_rv : List RV := [.tmp 2]

/- slices.Clip[[]string,string] (function 70) -/
def slices_Clip_string_r0 : List RO := [
    ⟨some 2, .mv (.const (.slice none 0 0)), none, none⟩]
def slices_Clip_string_r1 : List RO := [
    ⟨some 3, .mv (.tmp 0), none, none⟩,
    ⟨some 4, .mv (.tmp 0), none, none⟩,
    ⟨some 5, .len 0 (.tmp 4), none, none⟩,
    ⟨some 6, .mv (.tmp 0), none, none⟩,
    ⟨some 7, .len 0 (.tmp 6), none, none⟩,
    ⟨some 8, .slice 1 (.tmp 3) none (some (.tmp 5)) (some (.tmp 7)), none, none⟩,
    ⟨some 2, .mv (.tmp 8), none, none⟩]
def slices_Clip_string_ic : IC := (.seq (.reg slices_Clip_string_r0 [.keep [0] []]) (.seq (.reg slices_Clip_string_r1 [.keep [2] []]) .ret))
@[simp ↓] theorem slices_Clip_string_ic_run : run P Γ slices_Clip_string_ic Q s = run P Γ (.seq (.reg slices_Clip_string_r0 [.keep [0] []]) (.seq (.reg slices_Clip_string_r1 [.keep [2] []]) .ret)) Q s := Eq.trans rfl rfl
attribute [simp] slices_Clip_string_r0 slices_Clip_string_r1
def slices_Clip_string_rv : List RV := [.tmp 2]

/- slices.Clip[[]probecard/api.Memory,probecard/api.Memory] (function 118) -/
def slices_Clip_api_Memory_r0 : List RO := [
    ⟨some 2, .mv (.const (.slice none 0 0)), none, none⟩]
def slices_Clip_api_Memory_r1 : List RO := [
    ⟨some 3, .mv (.tmp 0), none, none⟩,
    ⟨some 4, .mv (.tmp 0), none, none⟩,
    ⟨some 5, .len 0 (.tmp 4), none, none⟩,
    ⟨some 6, .mv (.tmp 0), none, none⟩,
    ⟨some 7, .len 0 (.tmp 6), none, none⟩,
    ⟨some 8, .slice 3 (.tmp 3) none (some (.tmp 5)) (some (.tmp 7)), none, none⟩,
    ⟨some 2, .mv (.tmp 8), none, none⟩]
def slices_Clip_api_Memory_ic : IC := (.seq (.reg slices_Clip_api_Memory_r0 [.keep [0] []]) (.seq (.reg slices_Clip_api_Memory_r1 [.keep [2] []]) .ret))
@[simp ↓] theorem slices_Clip_api_Memory_ic_run : run P Γ slices_Clip_api_Memory_ic Q s = run P Γ (.seq (.reg slices_Clip_api_Memory_r0 [.keep [0] []]) (.seq (.reg slices_Clip_api_Memory_r1 [.keep [2] []]) .ret)) Q s := Eq.trans rfl rfl
attribute [simp] slices_Clip_api_Memory_r0 slices_Clip_api_Memory_r1
def slices_Clip_api_Memory_rv : List RV := [.tmp 2]

/- strconv.Itoa (function 68) -/
def strconv_Itoa_r0 : List RO := [
    ⟨some 2, .mv (.const (sV [])), none, none⟩]
def strconv_Itoa_r1 : List RO := [
    ⟨some 3, .mv (.tmp 0), none, none⟩,
    ⟨some 4, .call 100 [(.tmp 3)], none, none⟩,
    ⟨some 2, .mv (.tmp 4), none, none⟩]
def strconv_Itoa_ic : IC := (.seq (.reg strconv_Itoa_r0 [.keep [0] []]) (.seq (.reg strconv_Itoa_r1 [.keep [2] []]) .ret))
@[simp ↓] theorem strconv_Itoa_ic_run : run P Γ strconv_Itoa_ic Q s = run P Γ (.seq (.reg strconv_Itoa_r0 [.keep [0] []]) (.seq (.reg strconv_Itoa_r1 [.keep [2] []]) .ret)) Q s := Eq.trans rfl rfl
attribute [simp] strconv_Itoa_r0 strconv_Itoa_r1
def strconv_Itoa_rv : List RV := [.tmp 2]

/- internal/strconv.Itoa (function 100) -/
def i_strconv_Itoa_r0 : List RO := [
    ⟨some 2, .mv (.const (sV [])), none, none⟩]
def i_strconv_Itoa_r1 : List RO := [
    ⟨some 3, .mv (.tmp 0), none, none⟩,
    ⟨some 4, .call 120 [(.tmp 3), (.const (.int .i64 10))], none, none⟩,
    ⟨some 2, .mv (.tmp 4), none, none⟩]
def i_strconv_Itoa_ic : IC := (.seq (.reg i_strconv_Itoa_r0 [.keep [0] []]) (.seq (.reg i_strconv_Itoa_r1 [.keep [2] []]) .ret))
@[simp ↓] theorem i_strconv_Itoa_ic_run : run P Γ i_strconv_Itoa_ic Q s = run P Γ (.seq (.reg i_strconv_Itoa_r0 [.keep [0] []]) (.seq (.reg i_strconv_Itoa_r1 [.keep [2] []]) .ret)) Q s := Eq.trans rfl rfl
attribute [simp] i_strconv_Itoa_r0 i_strconv_Itoa_r1
def i_strconv_Itoa_rv : List RV := [.tmp 2]

/- internal/strconv.FormatInt (function 120) -/
def i_strconv_FormatInt_r0 : List RO := [
    ⟨some 4, .mv (.const (sV [])), none, none⟩]
def i_strconv_FormatInt_r1 : List RO := [
    ⟨some 10, .mv (.tmp 1), none, none⟩,
    ⟨some 11, .bin .eql (.tmp 10) (.const (.int .i64 10)), none, none⟩]
def i_strconv_FormatInt_r2 : List RO := [
    ⟨some 12, .mv (.tmp 0), none, none⟩,
    ⟨some 13, .bin .leq (.const (.int .i64 0)) (.tmp 12), none, none⟩,
    ⟨some 14, .mv (.tmp 13), none, none⟩,
    ⟨some 15, .mv (.tmp 0), some (14, true), none⟩,
    ⟨some 16, .bin .lss (.tmp 15) (.const (.int .i64 100)), some (14, true), none⟩,
    ⟨some 17, .pick (.tmp 14) (.tmp 16) (.const (.bool false)), none, none⟩]
def i_strconv_FormatInt_r3 : List RO := [
    ⟨some 18, .mv (.tmp 0), none, none⟩,
    ⟨some 19, .call 130 [(.tmp 18)], none, none⟩,
    ⟨some 4, .mv (.tmp 19), none, none⟩]
def i_strconv_FormatInt_r4 : List RO := [
    ⟨some 5, .alloc false [(.int .u8 0), (.int .u8 0), (.int .u8 0), (.int .u8 0), (.int .u8 0), (.int .u8 0), (.int .u8 0), (.int .u8 0), (.int .u8 0), (.int .u8 0), (.int .u8 0), (.int .u8 0), (.int .u8 0), (.int .u8 0), (.int .u8 0), (.int .u8 0), (.int .u8 0), (.int .u8 0), (.int .u8 0), (.int .u8 0), (.int .u8 0), (.int .u8 0), (.int .u8 0), (.int .u8 0)], none, none⟩]
def i_strconv_FormatInt_r5 : List RO := [
    ⟨some 20, .mv (.tmp 0), none, none⟩,
    ⟨some 21, .conv .u64 (.tmp 20), none, none⟩,
    ⟨some 6, .mv (.tmp 21), none, none⟩]
def i_strconv_FormatInt_r6 : List RO := [
    ⟨some 22, .mv (.tmp 0), none, none⟩,
    ⟨some 23, .bin .lss (.tmp 22) (.const (.int .i64 0)), none, none⟩]
def i_strconv_FormatInt_r7 : List RO := [
    ⟨some 24, .mv (.tmp 6), none, none⟩,
    ⟨some 25, .un .neg (.tmp 24), none, none⟩,
    ⟨some 6, .mv (.tmp 25), none, none⟩]
def i_strconv_FormatInt_r8 : List RO := [
    ⟨some 26, .mv (.tmp 6), none, none⟩,
    ⟨some 27, .call 131 [(.tmp 26)], none, none⟩,
    ⟨some 7, .mv (.tmp 27), none, none⟩]
def i_strconv_FormatInt_c0 : IC := (.seq (.seq (.reg i_strconv_FormatInt_r2 [.keep [0, 17] []]) (.cond (.tmp 17) (.seq (.reg i_strconv_FormatInt_r3 [.keep [4] []]) .ret) .skip)) (.seq (.reg i_strconv_FormatInt_r4 [.keep [0, 5] [5]]) (.seq (.reg i_strconv_FormatInt_r5 [.keep [0, 5, 6] [5]]) (.seq (.seq (.reg i_strconv_FormatInt_r6 [.keep [0, 5, 6, 23] [5]]) (.cond (.tmp 23) (.reg i_strconv_FormatInt_r7 [.keep [0, 5, 6] [5]]) .skip)) (.seq (.reg i_strconv_FormatInt_r8 [.keep [0, 5, 6, 7] [5]]) .dead)))))
def i_strconv_FormatInt_r14 : List RO := [
    ⟨some 45, .mv (.tmp 0), none, none⟩,
    ⟨some 46, .conv .u64 (.tmp 45), none, none⟩,
    ⟨some 47, .mv (.tmp 1), none, none⟩,
    ⟨some 48, .mv (.tmp 0), none, none⟩,
    ⟨some 49, .bin .lss (.tmp 48) (.const (.int .i64 0)), none, none⟩,
    ⟨some 50, .call 133 [(.const (.slice none 0 0)), (.tmp 46), (.tmp 47), (.tmp 49), (.const (.bool false))], none, none⟩,
    ⟨some 44, .mv (.tmp 50), none, none⟩,
    ⟨some 51, .ext (.tmp 44) 0, none, none⟩,
    ⟨some 52, .ext (.tmp 44) 1, none, none⟩,
    ⟨some 8, .mv (.tmp 51), none, none⟩,
    ⟨some 9, .mv (.tmp 52), none, none⟩]
def i_strconv_FormatInt_r15 : List RO := [
    ⟨some 53, .mv (.tmp 9), none, none⟩,
    ⟨some 4, .mv (.tmp 53), none, none⟩]
def i_strconv_FormatInt_ic : IC := (.seq (.reg i_strconv_FormatInt_r0 [.keep [0, 1] []]) (.seq (.seq (.reg i_strconv_FormatInt_r1 [.keep [0, 1, 11] []]) (.cond (.tmp 11) i_strconv_FormatInt_c0 .skip)) (.seq (.reg i_strconv_FormatInt_r14 [.keep [9] []]) (.seq (.reg i_strconv_FormatInt_r15 [.keep [4] []]) .ret))))
@[simp ↓] theorem i_strconv_FormatInt_c0_run : run P Γ i_strconv_FormatInt_c0 Q s = run P Γ (.seq (.seq (.reg i_strconv_FormatInt_r2 [.keep [0, 17] []]) (.cond (.tmp 17) (.seq (.reg i_strconv_FormatInt_r3 [.keep [4] []]) .ret) .skip)) (.seq (.reg i_strconv_FormatInt_r4 [.keep [0, 5] [5]]) (.seq (.reg i_strconv_FormatInt_r5 [.keep [0, 5, 6] [5]]) (.seq (.seq (.reg i_strconv_FormatInt_r6 [.keep [0, 5, 6, 23] [5]]) (.cond (.tmp 23) (.reg i_strconv_FormatInt_r7 [.keep [0, 5, 6] [5]]) .skip)) (.seq (.reg i_strconv_FormatInt_r8 [.keep [0, 5, 6, 7] [5]]) .dead))))) Q s := Eq.trans rfl rfl
@[simp ↓] theorem i_strconv_FormatInt_ic_run : run P Γ i_strconv_FormatInt_ic Q s = run P Γ (.seq (.reg i_strconv_FormatInt_r0 [.keep [0, 1] []]) (.seq (.seq (.reg i_strconv_FormatInt_r1 [.keep [0, 1, 11] []]) (.cond (.tmp 11) i_strconv_FormatInt_c0 .skip)) (.seq (.reg i_strconv_FormatInt_r14 [.keep [9] []]) (.seq (.reg i_strconv_FormatInt_r15 [.keep [4] []]) .ret)))) Q s := Eq.trans rfl rfl
attribute [simp] i_strconv_FormatInt_r0 i_strconv_FormatInt_r1 i_strconv_FormatInt_r2 i_strconv_FormatInt_r3 i_strconv_FormatInt_r4 i_strconv_FormatInt_r5 i_strconv_FormatInt_r6 i_strconv_FormatInt_r7 i_strconv_FormatInt_r8 i_strconv_FormatInt_r14 i_strconv_FormatInt_r15
def i_strconv_FormatInt_rv : List RV := [.tmp 4]

/- internal/strconv.small (function 130) -/
def i_strconv_small_r0 : List RO := [
    ⟨some 2, .mv (.const (sV [])), none, none⟩]
def i_strconv_small_r1 : List RO := [
    ⟨some 3, .mv (.tmp 0), none, none⟩,
    ⟨some 4, .bin .lss (.tmp 3) (.const (.int .i64 10)), none, none⟩]
def i_strconv_small_r2 : List RO := [
    ⟨some 5, .mv (.tmp 0), none, none⟩,
    ⟨some 6, .mv (.tmp 0), none, none⟩,
    ⟨some 7, .bin .add (.tmp 6) (.const (.int .i64 1)), none, none⟩,
    ⟨some 8, .slice 0 (.const (sV [48, 49, 50, 51, 52, 53, 54, 55, 56, 57, 97, 98, 99, 100, 101, 102, 103, 104, 105, 106, 107, 108, 109, 110, 111, 112, 113, 114, 115, 116, 117, 118, 119, 120, 121, 122])) (some (.tmp 5)) (some (.tmp 7)) none, none, none⟩,
    ⟨some 2, .mv (.tmp 8), none, none⟩]
def i_strconv_small_r3 : List RO := [
    ⟨some 9, .mv (.tmp 0), none, none⟩,
    ⟨some 10, .bin .mul (.tmp 9) (.const (.int .i64 2)), none, none⟩,
    ⟨some 11, .mv (.tmp 0), none, none⟩,
    ⟨some 12, .bin .mul (.tmp 11) (.const (.int .i64 2)), none, none⟩,
    ⟨some 13, .bin .add (.tmp 12) (.const (.int .i64 2)), none, none⟩,
    ⟨some 14, .slice 0 (.const (sV [48, 48, 48, 49, 48, 50, 48, 51, 48, 52, 48, 53, 48, 54, 48, 55, 48, 56, 48, 57, 49, 48, 49, 49, 49, 50, 49, 51, 49, 52, 49, 53, 49, 54, 49, 55, 49, 56, 49, 57, 50, 48, 50, 49, 50, 50, 50, 51, 50, 52, 50, 53, 50, 54, 50, 55, 50, 56, 50, 57, 51, 48, 51, 49, 51, 50, 51, 51, 51, 52, 51, 53, 51, 54, 51, 55, 51, 56, 51, 57, 52, 48, 52, 49, 52, 50, 52, 51, 52, 52, 52, 53, 52, 54, 52, 55, 52, 56, 52, 57, 53, 48, 53, 49, 53, 50, 53, 51, 53, 52, 53, 53, 53, 54, 53, 55, 53, 56, 53, 57, 54, 48, 54, 49, 54, 50, 54, 51, 54, 52, 54, 53, 54, 54, 54, 55, 54, 56, 54, 57, 55, 48, 55, 49, 55, 50, 55, 51, 55, 52, 55, 53, 55, 54, 55, 55, 55, 56, 55, 57, 56, 48, 56, 49, 56, 50, 56, 51, 56, 52, 56, 53, 56, 54, 56, 55, 56, 56, 56, 57, 57, 48, 57, 49, 57, 50, 57, 51, 57, 52, 57, 53, 57, 54, 57, 55, 57, 56, 57, 57])) (some (.tmp 10)) (some (.tmp 13)) none, none, none⟩,
    ⟨some 2, .mv (.tmp 14), none, none⟩]
def i_strconv_small_ic : IC := (.seq (.reg i_strconv_small_r0 [.keep [0] []]) (.seq (.seq (.reg i_strconv_small_r1 [.keep [0, 4] []]) (.cond (.tmp 4) (.seq (.reg i_strconv_small_r2 [.keep [2] []]) .ret) .skip)) (.seq (.reg i_strconv_small_r3 [.keep [2] []]) .ret)))
@[simp ↓] theorem i_strconv_small_ic_run : run P Γ i_strconv_small_ic Q s = run P Γ (.seq (.reg i_strconv_small_r0 [.keep [0] []]) (.seq (.seq (.reg i_strconv_small_r1 [.keep [0, 4] []]) (.cond (.tmp 4) (.seq (.reg i_strconv_small_r2 [.keep [2] []]) .ret) .skip)) (.seq (.reg i_strconv_small_r3 [.keep [2] []]) .ret))) Q s := Eq.trans rfl rfl
attribute [simp] i_strconv_small_r0 i_strconv_small_r1 i_strconv_small_r2 i_strconv_small_r3
def i_strconv_small_rv : List RV := [.tmp 2]
end
end Go.Lg

/- The abstract code is that of the program (by the kernel). Conditions: none. -/
namespace Go.Lg
open Go Go.Proofs
theorem law34_ScansInsert_chk : chkF Tryd.prog 10 law34_ScansInsert_ic 334 1 law34_ScansInsert_rv = true := by kernel_rfl
theorem scans_Insert_chk : chkF Tryd.prog 37 scans_Insert_ic 213 2 scans_Insert_rv = true := by kernel_rfl
theorem scans_builder_add_chk : chkF Tryd.prog 67 scans_builder_add_ic 63 3 scans_builder_add_rv = true := by kernel_rfl
theorem netlists_Copy_chk : chkF Tryd.prog 66 netlists_Copy_ic 64 1 netlists_Copy_rv = true := by kernel_rfl
theorem netlists_copied_api_Node_chk : chkF Tryd.prog 96 netlists_copied_api_Node_ic 6 1 netlists_copied_api_Node_rv = true := by kernel_rfl
theorem netlists_copied_string_chk : chkF Tryd.prog 97 netlists_copied_string_ic 6 1 netlists_copied_string_rv = true := by kernel_rfl
theorem netlists_copied_api_Memory_chk : chkF Tryd.prog 98 netlists_copied_api_Memory_ic 6 1 netlists_copied_api_Memory_rv = true := by kernel_rfl
theorem netlists_copied_int_chk : chkF Tryd.prog 99 netlists_copied_int_ic 6 1 netlists_copied_int_rv = true := by kernel_rfl
theorem slices_Clone_api_Node_chk : chkF Tryd.prog 116 slices_Clone_api_Node_ic 8 1 slices_Clone_api_Node_rv = true := by kernel_rfl
theorem slices_Clone_string_chk : chkF Tryd.prog 117 slices_Clone_string_ic 8 1 slices_Clone_string_rv = true := by kernel_rfl
theorem slices_Clone_api_Memory_chk : chkF Tryd.prog 119 slices_Clone_api_Memory_ic 8 1 slices_Clone_api_Memory_rv = true := by kernel_rfl
theorem slices_Clip_api_Node_chk : chkF Tryd.prog 69 slices_Clip_api_Node_ic 9 1 slices_Clip_api_Node_rv = true := by kernel_rfl
theorem slices_Clip_string_chk : chkF Tryd.prog 70 slices_Clip_string_ic 9 1 slices_Clip_string_rv = true := by kernel_rfl
theorem slices_Clip_api_Memory_chk : chkF Tryd.prog 118 slices_Clip_api_Memory_ic 9 1 slices_Clip_api_Memory_rv = true := by kernel_rfl
theorem strconv_Itoa_chk : chkF Tryd.prog 68 strconv_Itoa_ic 5 1 strconv_Itoa_rv = true := by kernel_rfl
theorem i_strconv_Itoa_chk : chkF Tryd.prog 100 i_strconv_Itoa_ic 5 1 i_strconv_Itoa_rv = true := by kernel_rfl
theorem i_strconv_FormatInt_chk : chkF Tryd.prog 120 i_strconv_FormatInt_ic 54 2 i_strconv_FormatInt_rv = true := by kernel_rfl
theorem i_strconv_small_chk : chkF Tryd.prog 130 i_strconv_small_ic 15 1 i_strconv_small_rv = true := by kernel_rfl
end Go.Lg

/- Small numbers as text; copies of lists. Conditions: none. -/
set_option linter.unusedSimpArgs false
set_option linter.unusedVariables false
set_option maxRecDepth 100000
namespace Go.Lg
open Go Go.Proofs
variable {Γ : Tables}

def itoaL (i : Nat) : List UInt8 := if i < 10 then [UInt8.ofNat (48 + i)] else [UInt8.ofNat (48 + i / 10), UInt8.ofNat (48 + i % 10)]

def dig1 : List UInt8 := [48, 49, 50, 51, 52, 53, 54, 55, 56, 57, 97, 98, 99, 100, 101, 102, 103, 104, 105, 106, 107, 108, 109, 110, 111, 112, 113, 114, 115, 116, 117, 118, 119, 120, 121, 122]
def dig2 : List UInt8 := (List.range 100).flatMap fun i => [UInt8.ofNat (48 + i / 10), UInt8.ofNat (48 + i % 10)]
theorem dig1_at : ∀ i, i < 10 → ((ByteArray.mk dig1.toArray).extract i (i + 1)).data.toList = [UInt8.ofNat (48 + i)] := by decide +kernel
theorem dig2_at : ∀ i, i < 100 → ((ByteArray.mk dig2.toArray).extract (i * 2) (i * 2 + 2)).data.toList = [UInt8.ofNat (48 + i / 10), UInt8.ofNat (48 + i % 10)] := by decide +kernel
theorem ba_of {a : ByteArray} {l : List UInt8} (h : a.data.toList = l) : a = ByteArray.mk l.toArray := by
  cases a; simp only at h; subst h; rfl

theorem small_spec (i : Nat) (hi : i < 100) : FreshCalls Tryd.prog Γ 130 [tI i] (tS (itoaL i)) := by
  refine run_freshQ i_strconv_small_chk rfl ?_
  by_cases h : i < 10
  · have h' : (i : Int) < 10 := by omega
    have e := ba_of (dig1_at i h)
    simp only [dig1] at e
    simp (disch := omega) [i_strconv_small_ic, sV, h, h', wrap_i64]
    have e1 : ((i : Int) + 1).toNat = i + 1 := by omega
    simp [i_strconv_small_rv, e1, e, itoaL, h, tS, sV]
    omega
  · have h' : ¬ (i : Int) < 10 := by omega
    have e := ba_of (dig2_at i hi)
    have d2 : dig2 = [48, 48, 48, 49, 48, 50, 48, 51, 48, 52, 48, 53, 48, 54, 48, 55, 48, 56, 48, 57, 49, 48, 49, 49, 49, 50, 49, 51, 49, 52, 49, 53, 49, 54, 49, 55, 49, 56, 49, 57, 50, 48, 50, 49, 50, 50, 50, 51, 50, 52, 50, 53, 50, 54, 50, 55, 50, 56, 50, 57, 51, 48, 51, 49, 51, 50, 51, 51, 51, 52, 51, 53, 51, 54, 51, 55, 51, 56, 51, 57, 52, 48, 52, 49, 52, 50, 52, 51, 52, 52, 52, 53, 52, 54, 52, 55, 52, 56, 52, 57, 53, 48, 53, 49, 53, 50, 53, 51, 53, 52, 53, 53, 53, 54, 53, 55, 53, 56, 53, 57, 54, 48, 54, 49, 54, 50, 54, 51, 54, 52, 54, 53, 54, 54, 54, 55, 54, 56, 54, 57, 55, 48, 55, 49, 55, 50, 55, 51, 55, 52, 55, 53, 55, 54, 55, 55, 55, 56, 55, 57, 56, 48, 56, 49, 56, 50, 56, 51, 56, 52, 56, 53, 56, 54, 56, 55, 56, 56, 56, 57, 57, 48, 57, 49, 57, 50, 57, 51, 57, 52, 57, 53, 57, 54, 57, 55, 57, 56, 57, 57] := by decide +kernel
    rw [d2] at e
    simp (disch := omega) [i_strconv_small_ic, sV, h, h', wrap_i64]
    have e1 : ((i : Int) * 2).toNat = i * 2 := by omega
    have e2 : ((i : Int) * 2 + 2).toNat = i * 2 + 2 := by omega
    simp [i_strconv_small_rv, e1, e2, e, itoaL, h, tS, sV]
    omega

theorem itoa_spec (i : Nat) (hi : i < 100) : FreshCalls Tryd.prog Γ 68 [tI i] (tS (itoaL i)) := by
  have h1 : FreshCalls Tryd.prog Γ 120 [tI i, tI 10] (tS (itoaL i)) := by
    refine run_freshQ i_strconv_FormatInt_chk rfl ?_
    have h0 : (0 : Int) ≤ i := by omega
    have h2 : (i : Int) < 100 := by omega
    simp (disch := omega) [i_strconv_FormatInt_ic, h2]
    refine callK_fresh (small_spec i hi) rfl ?_
    simp [i_strconv_FormatInt_rv, tS, sV]
  have h2 : FreshCalls Tryd.prog Γ 100 [tI i] (tS (itoaL i)) := by
    refine run_freshQ i_strconv_Itoa_chk rfl ?_
    simp [i_strconv_Itoa_ic]
    refine callK_fresh h1 rfl ?_
    simp [i_strconv_Itoa_rv, tS, sV]
  refine run_freshQ strconv_Itoa_chk rfl ?_
  simp [strconv_Itoa_ic]
  refine callK_fresh h2 rfl ?_
  simp [strconv_Itoa_rv, tS, sV]
end Go.Lg

/- Copies of circuits. Conditions: none. -/
set_option linter.unusedSimpArgs false
set_option linter.unusedVariables false
set_option maxRecDepth 100000
namespace Go.Lg
open Go Go.Proofs
variable {Γ : Tables}

/-- What is known of a list tells whether it is nil. -/
def SlOk {α : Type} (s : Sl α) : Prop := (s.nl = some true → s.l = []) ∧ (s.nl = none → s.l ≠ []) ∧ s.l.length ≤ 1000000
def cpS (s : Sl Int) : Sl Int := ⟨s.l, some s.l.length, if s.nl = some true then some true else none⟩

theorem clone_int_a (s : Sl Int) (hs : SlOk s) : FreshCalls Tryd.prog Γ 43 [tSl s] (if s.nl = some true then .sl [] (some 0) (some true) else .sl (ints s.l) none none) := by
  refine run_freshQ slices_Clone_int_chk rfl ?_
  obtain ⟨l, cap, nl⟩ := s
  obtain ⟨h1, h2, h3⟩ := hs
  simp only at h1 h2 h3
  rcases nl with _ | _ | _
  · have h4 : ints l ≠ [] := by simpa [enc1] using h2 rfl
    simp (disch := omega) [slices_Clone_int_ic, slices_Clone_int_rv, enc1_wid, enc1_len, h4, Later, tSl]
    omega
  · simp (disch := omega) [slices_Clone_int_ic, slices_Clone_int_rv, enc1_wid, enc1_len, Later, tSl]
    omega
  · have := h1 rfl
    subst this
    simp [slices_Clone_int_ic, slices_Clone_int_rv, tSl]

theorem copied_int_spec (s : Sl Int) (hs : SlOk s) : PureCalls Tryd.prog Γ 99 [tSl s] (tSl (cpS s)) := by
  refine run_pureQ netlists_copied_int_chk rfl ?_
  have e1 := clone_int_a (Γ := Γ) s hs
  obtain ⟨l, cap, nl⟩ := s
  obtain ⟨h1, h2, h3⟩ := hs
  simp only at h1 h2 h3
  simp only at e1
  simp [netlists_copied_int_ic, tSl]
  refine callK_fresh e1 rfl ?_
  rcases nl with _ | _ | _
  · simp
    refine callK_pure (clip_int (ints l) none none enc1_wid) rfl ?_
    simp [netlists_copied_int_rv, cpS, enc1_len]
  · simp
    refine callK_pure (clip_int (ints l) none none enc1_wid) rfl ?_
    simp [netlists_copied_int_rv, cpS, enc1_len]
  · have := h1 rfl
    subst this
    simp
    refine callK_pure (clip_int [] (some 0) (some true) (by simp)) rfl ?_
    simp [netlists_copied_int_rv, cpS, enc1_len, enc1_nil]

theorem copied_names_spec (l : List (List UInt8)) (cap : Option Nat) (h : l ≠ []) (hl : l.length ≤ 1000000) : PureCalls Tryd.prog Γ 97 [.sl (enc1 tS l) cap none] (.sl (enc1 tS l) (some l.length) none) := by
  refine run_pureQ netlists_copied_string_chk rfl ?_
  have h4 : enc1 tS l ≠ [] := by simpa [enc1] using h
  have e1 : PureCalls Tryd.prog Γ 117 [.sl (enc1 tS l) cap none] (.sl (enc1 tS l) none none) := by
    refine run_pureQ slices_Clone_string_chk rfl ?_
    simp (disch := omega) [slices_Clone_string_ic, slices_Clone_string_rv, enc1_wid, enc1_len, h4, Later]
    omega
  have e2 : PureCalls Tryd.prog Γ 70 [.sl (enc1 tS l) none none] (.sl (enc1 tS l) (some l.length) none) := by
    refine run_pureQ slices_Clip_string_chk rfl ?_
    simp [slices_Clip_string_ic, slices_Clip_string_rv, enc1_wid, enc1_len]
  simp [netlists_copied_string_ic]
  refine callK_pure e1 rfl ?_
  simp
  refine callK_pure e2 rfl ?_
  simp [netlists_copied_string_rv]

theorem copied_mems_nil : PureCalls Tryd.prog Γ 98 [.sl [] (some 0) (some true)] (.sl [] (some 0) (some true)) := by
  refine run_pureQ netlists_copied_api_Memory_chk rfl ?_
  have e1 : PureCalls Tryd.prog Γ 119 [.sl [] (some 0) (some true)] (.sl [] (some 0) (some true)) := by
    refine run_pureQ slices_Clone_api_Memory_chk rfl ?_
    simp [slices_Clone_api_Memory_ic, slices_Clone_api_Memory_rv]
  have e2 : PureCalls Tryd.prog Γ 118 [.sl [] (some 0) (some true)] (.sl [] (some 0) (some true)) := by
    refine run_pureQ slices_Clip_api_Memory_chk rfl ?_
    simp [slices_Clip_api_Memory_ic, slices_Clip_api_Memory_rv]
  simp [netlists_copied_api_Memory_ic]
  refine callK_pure e1 rfl ?_
  simp
  refine callK_pure e2 rfl ?_
  simp [netlists_copied_api_Memory_rv]

theorem copied_nodes_h (l : List Nd) (cap : Option Nat) (h : l ≠ []) (hl : l.length ≤ 1000000) : HCalls Tryd.prog Γ 96 [] [.t (.sl (encN tNd l) cap none)] (.ls 4007 0 l.length (some l.length)) [(4007, .sl 48 4 (encN tNd l))] := by
  refine run_handQ netlists_copied_api_Node_chk rfl ?_
  have h4 : encN tNd l ≠ [] := by simpa [encN] using h
  have e1 : HCalls Tryd.prog Γ 116 [] [.t (.sl (encN tNd l) cap none)] (.ls 7 0 l.length none) [(7, .sl 48 4 (encN tNd l))] := by
    refine run_handQ slices_Clone_api_Node_chk rfl ?_
    simp (disch := omega) [slices_Clone_api_Node_ic, slices_Clone_api_Node_rv, tNd_wid, encN_len, h4, Later]
    omega
  have e2 : HCalls Tryd.prog Γ 69 [(1000000, .sl 48 4 (encN tNd l))] [.ls 1000000 0 l.length none] (.ls 1000000 0 l.length (some l.length)) [(1000000, .sl 48 4 (encN tNd l))] := by
    refine run_handQ slices_Clip_api_Node_chk rfl ?_
    simp [slices_Clip_api_Node_ic, slices_Clip_api_Node_rv, tNd_wid, encN_len]
  simp [netlists_copied_api_Node_ic]
  refine ⟨_, _, e1, ?_⟩
  simp
  refine ⟨_, _, e2, ?_⟩
  simp [netlists_copied_api_Node_rv]
end Go.Lg

/- netlists.Copy. Conditions: none. -/
set_option linter.unusedSimpArgs false
set_option linter.unusedVariables false
set_option maxRecDepth 100000
namespace Go.Lg
open Go Go.Proofs
variable {Γ : Tables}

theorem calltK_pure {f : FuncId} {as' : List AV} {ts : List T} {res : T} {K : T → Prop} (h : PureCalls Tryd.prog Γ f ts res) (ht : optAll (as'.map toT) = some ts) (hk : K res) : calltK Tryd.prog Γ f as' K ⟨⟩ := ⟨ts, res, ht, .inl h, hk⟩
theorem encN_set {α : Type} {f : α → List T} {l : List α} {n : Nat} {x : α} : (encN f l).set n (f x) = encN f (l.set n x) := by simp [encN, List.map_set]
theorem gN {l : List Nd} {i : Nat} (h : i < l.length) : (encN tNd l)[i]?.getD [] = tNd (l.getD i Nd.d) := by
  rw [encN_get Nd.d h]; rfl

def cpNd (x : Nd) : Nd := ⟨x.k, cpS x.inn, x.mem, x.bit⟩
def cpL : Nat → Nat → List Nd → List Nd
  | 0, _, L => L
  | k + 1, i, L => cpL k (i + 1) (L.set i (cpNd (L.getD i Nd.d)))
theorem cpL_eq : ∀ (k i : Nat) (L : List Nd), i + k = L.length → cpL k i L = L.take i ++ (L.drop i).map cpNd
  | 0, i, L, h => by rw [List.drop_of_length_le (by omega), List.take_of_length_le (by omega)]; simp [cpL]
  | k + 1, i, L, h => by
    have hi : i < L.length := by omega
    simp only [cpL]
    rw [cpL_eq k (i + 1) _ (by simp; omega), List.drop_eq_getElem_cons hi]
    have e : L.getD i Nd.d = L[i] := by simp [List.getD_eq_getElem?_getD, hi]
    rw [e]
    have h1 : (L.set i (cpNd L[i])).take (i + 1) = L.take i ++ [cpNd L[i]] := by
      rw [List.take_add_one, List.take_set_of_le (Nat.le_refl i)]
      simp [hi]
    rw [h1, List.drop_set_of_lt (by omega), List.map_cons, List.append_assoc]
    rfl

def cpH (n : Nat) (nm mm oo : T) (L : List Nd) : List (Nat × Reg) :=
  [(2, .bx [.t (.sl [] (some 0) (some true)), .t (.sl [] (some 0) (some true)), .t (.sl [] (some 0) (some true)), .t (.sl [] (some 0) (some true))]), (3, .bx [.ls 14007 0 n (some n), .t nm, .t mm, .t oo]), (14007, .sl 48 4 (encN tNd L))]

theorem copy_loop {Q : AX → St → Prop} (n : Nat) (hn : n ≤ 1000000) (nm mm oo : T) (R : List Nd)
    (h0 : Q (.exit 0) ⟨[(2, .lp 2 0 0), (3, .lp 3 0 0), (22, .ls 14007 0 n (some n)), (23, .t (tI n)), (24, .t (tI n)), (25, .t (tB false))], cpH n nm mm oo R⟩) :
    ∀ (k i : Nat) (L : List Nd), k + i = n → L.length = n → (∀ j, i ≤ j → j < n → SlOk (L.getD j Nd.d).inn) → cpL k i L = R →
    run Tryd.prog Γ netlists_Copy_l1 Q ⟨[(2, .lp 2 0 0), (3, .lp 3 0 0), (22, .ls 14007 0 n (some n)), (23, .t (tI n)), (24, .t (tI i))], cpH n nm mm oo L⟩
  | 0, i, L, h, hl, hs, hR => by
    refine netlists_Copy_l1_run fun K hK => ?_
    have h3 : i = n := by omega
    subst h3
    simp only [cpL] at hR
    subst hR
    simp [cpH]
    simpa [cpH] using h0
  | k + 1, i, L, h, hl, hs, hR => by
    refine netlists_Copy_l1_run fun K hK => ?_
    have h2 : i < n := by omega
    have hi : i < L.length := by omega
    simp only [cpL] at hR
    have e := gN hi
    have hx : SlOk (L.getD i Nd.d).inn := hs i (Nat.le_refl i) h2
    have e1 := copied_int_spec (Γ := Γ) _ hx
    have ih := copy_loop n hn nm mm oo R h0 k (i + 1) (L.set i (cpNd (L.getD i Nd.d))) (by omega) (by simp [hl]) (fun j hj hjn => by
      have : (L.set i (cpNd (L.getD i Nd.d))).getD j Nd.d = L.getD j Nd.d := by
        rw [List.getD_eq_getElem?_getD, List.getElem?_set, if_neg (by omega), ← List.getD_eq_getElem?_getD]
      rw [this]
      exact hs j (by omega) hjn) hR
    generalize L.getD i Nd.d = x at *
    have e' : ∀ h : i < (encN tNd L).length, (encN tNd L)[i] = tNd x := fun h => by rw [← e]; simp [hi, encN_len]
    have hset : (encN tNd L).set i [tK x.k, tSl (cpS x.inn), tI x.mem, tI x.bit] = encN tNd (L.set i (cpNd x)) := encN_set (f := tNd) (x := cpNd x)
    simp only [tSl] at e1 hset
    simp (disch := omega) [cpH, h2, encN_len, tNd_wid, e, e', hl, wrap_i64, tNd, tSl]
    refine calltK_pure e1 rfl ?_
    simp (disch := omega) [cpH, h2, hi, encN_len, tNd_wid, e, e', hl, wrap_i64, tNd, tSl, hset]
    rw [hK]
    simpa [cpH] using ih

def copyC (c : Cir) : Cir := ⟨⟨c.nodes.l.map cpNd, some c.nodes.l.length, none⟩, ⟨c.names.l, some c.names.l.length, none⟩, ⟨[], some 0, some true⟩, cpS c.outs⟩

/-- A circuit that can be copied: without memories, and what is empty is nil. -/
structure CpOk (c : Cir) : Prop where
  n0 : c.nodes.l ≠ []
  n1 : c.nodes.l.length ≤ 1000000
  nn : c.nodes.nl = none
  m0 : c.names.l ≠ []
  m1 : c.names.l.length ≤ 1000000
  mn : c.names.nl = none
  mems : c.mems = ⟨[], some 0, some true⟩
  inn : ∀ x ∈ c.nodes.l, SlOk x.inn
  outs : SlOk c.outs

theorem copy_spec (c : Cir) (hc : CpOk c) : PureCalls Tryd.prog Γ 66 [.agg (tC c)] (.agg (tC (copyC c))) := by
  refine run_pureQ netlists_Copy_chk rfl ?_
  have e1 := copied_nodes_h (Γ := Γ) c.nodes.l c.nodes.cap hc.n0 hc.n1
  have e2 := copied_names_spec (Γ := Γ) c.names.l c.names.cap hc.m0 hc.m1
  have e3 := copied_mems_nil (Γ := Γ)
  have e4 := copied_int_spec (Γ := Γ) c.outs hc.outs
  have hcp : cpL c.nodes.l.length 0 c.nodes.l = c.nodes.l.map cpNd := by rw [cpL_eq _ _ _ (by omega)]; simp
  have hn1 := hc.n1
  have g1 := fun Q nm mm oo h0 => copy_loop (Γ := Γ) (Q := Q) c.nodes.l.length hc.n1 nm mm oo _ h0 c.nodes.l.length 0 c.nodes.l (by omega) rfl (fun j _ hj => hc.inn _ (by rw [List.getD_eq_getElem?_getD, List.getElem?_eq_getElem hj]; exact List.getElem_mem hj)) hcp
  have hml : (encN tNd (c.nodes.l.map cpNd)).take c.nodes.l.length = encN tNd (c.nodes.l.map cpNd) := List.take_of_length_le (by simp [encN])
  simp [netlists_Copy_ic, tC, tNodes, tNames, tMems, tSl, hc.mems, hc.nn, hc.mn]
  refine ⟨_, _, e1, ?_⟩
  simp
  refine calltK_pure e2 rfl ?_
  simp
  refine calltK_pure e3 rfl ?_
  simp
  simp [tSl] at e4
  refine calltK_pure e4 rfl ?_
  simp
  simp [cpH] at g1
  refine g1 _ _ _ _ ?_
  simp [St.freeze, Reg.closed, frzRef, frz1, frz0, frzReg, del, reify, hml]
  refine netlists_Copy_l3_run fun K hK => ?_
  simp [netlists_Copy_rv, copyC, encN_len, enc1_nil, show encN tMm [] = [] from rfl]
end Go.Lg

/- The builder's add, for each state that it is called in. Conditions: none. -/
set_option linter.unusedSimpArgs false
set_option linter.unusedVariables false
set_option maxRecDepth 100000
namespace Go.Lg
open Go Go.Proofs
variable {Γ : Tables}

theorem add_tt (seen : List (List UInt8)) (nodes : List Nd) (names : List (List UInt8)) (ol : List Int) (oc : Option Nat) (on : Option Bool) (x : Nd) (nm : List UInt8) (hn : nodes.length ≤ 1000000) (hm : names.length ≤ 1000000) (hs : nm ∉ seen) (hl : nm.length ≤ 32) :
    HCalls Tryd.prog Γ 67 [(1000000, .mp (seenM seen)), (1000001, .bx [.t (.sl (encN tNd nodes) (some nodes.length) none), .t (.sl (enc1 tS names) (some names.length) none), .t (.sl [] (some 0) (some true)), .t (.sl (ints ol) oc on), .lm 1000000, .t (tB false)])] [.lp 1000001 0 0, .ag ((tNd x).map .t), .t (tS nm)] (.t (tI nodes.length))
      [(40, .sl 48 4 (encN tNd (nodes ++ [x]))), (52, .sl 9 1 (enc1 tS (names ++ [nm]))), (1000000, .mp (seenM (seen ++ [nm]))), (1000001, .bx [.ls 40 0 (nodes.length + 1) none, .ls 52 0 (names.length + 1) none, .t (.sl [] (some 0) (some true)), .t (.sl (ints ol) oc on), .lm 1000000, .t (tB false)])] := by
  refine run_handQ scans_builder_add_chk rfl ?_
  have q1 : encN tNd nodes ++ [[tK x.k, .sl (ints x.inn.l) x.inn.cap x.inn.nl, tI x.mem, tI x.bit]] = encN tNd (nodes ++ [x]) := encN_snoc (f := tNd) (x := x)
  have q2 : enc1 tS names ++ [[.v (sV nm)]] = enc1 tS (names ++ [nm]) := enc1_snoc
  have w1 : wid 4 [[tK x.k, .sl (ints x.inn.l) x.inn.cap x.inn.nl, tI x.mem, tI x.bit]] := by intro e he; simp at he; subst he; rfl
  have w2 : wid 1 [[T.v (sV nm)]] := by intro e he; simp at he; subst he; rfl
  have t1 : (encN tNd nodes).take nodes.length = encN tNd nodes := encN_take_len
  have t2 : (enc1 tS names).take names.length = enc1 tS names := enc1_take_len
  have f1 := seenM_find nm seen
  rw [if_neg hs] at f1
  have f2 := seenM_set nm seen hs
  have f3 := seenM_fit seen
  have h32 : ¬ 32 < nm.length := by omega
  have h32' : ¬ (32 : Int) < nm.length := by omega
  have hfit : KT.str.fits (sV nm) = true := rfl
  simp only [sV] at q2 w2 f1 f2 hfit
  simp [scans_builder_add_ic, tNd, tSl, tS, sV]
  refine scans_builder_add_l1_run fun K hK => ?_
  simp (maxSteps := 1000000) (disch := omega) [f1, f2, f3, hfit, h32, h32', q1, q2, w1, w2, t1, t2, encN_len, enc1_len, tNd_wid, enc1_wid, wrap_i64]
  simp (disch := omega) [scans_builder_add_rv, wrap_i64, hn, hm]
  omega

theorem add_rt (seen : List (List UInt8)) (nodes : List Nd) (names : List (List UInt8)) (ol : List Int) (oc : Option Nat) (on : Option Bool) (x : Nd) (nm : List UInt8) (hn : nodes.length ≤ 1000000) (hm : names.length ≤ 1000000) (hs : nm ∉ seen) (hl : nm.length ≤ 32) :
    HCalls Tryd.prog Γ 67 [(1000000, .mp (seenM seen)), (1000001, .bx [.ls 1000003 0 nodes.length none, .ls 1000004 0 names.length none, .t (.sl [] (some 0) (some true)), .t (.sl (ints ol) oc on), .lm 1000000, .t (tB false)]), (1000003, .sl 48 4 (encN tNd nodes)), (1000004, .sl 9 1 (enc1 tS names))] [.lp 1000001 0 0, .ag ((tNd x).map .t), .t (tS nm)] (.t (tI nodes.length))
      [(40, .sl 48 4 (encN tNd (nodes ++ [x]))), (52, .sl 9 1 (enc1 tS (names ++ [nm]))), (1000000, .mp (seenM (seen ++ [nm]))), (1000001, .bx [.ls 40 0 (nodes.length + 1) none, .ls 52 0 (names.length + 1) none, .t (.sl [] (some 0) (some true)), .t (.sl (ints ol) oc on), .lm 1000000, .t (tB false)])] := by
  refine run_handQ scans_builder_add_chk rfl ?_
  have q1 : encN tNd nodes ++ [[tK x.k, .sl (ints x.inn.l) x.inn.cap x.inn.nl, tI x.mem, tI x.bit]] = encN tNd (nodes ++ [x]) := encN_snoc (f := tNd) (x := x)
  have q2 : enc1 tS names ++ [[.v (sV nm)]] = enc1 tS (names ++ [nm]) := enc1_snoc
  have w1 : wid 4 [[tK x.k, .sl (ints x.inn.l) x.inn.cap x.inn.nl, tI x.mem, tI x.bit]] := by intro e he; simp at he; subst he; rfl
  have w2 : wid 1 [[T.v (sV nm)]] := by intro e he; simp at he; subst he; rfl
  have t1 : (encN tNd nodes).take nodes.length = encN tNd nodes := encN_take_len
  have t2 : (enc1 tS names).take names.length = enc1 tS names := enc1_take_len
  have f1 := seenM_find nm seen
  rw [if_neg hs] at f1
  have f2 := seenM_set nm seen hs
  have f3 := seenM_fit seen
  have h32 : ¬ 32 < nm.length := by omega
  have h32' : ¬ (32 : Int) < nm.length := by omega
  have hfit : KT.str.fits (sV nm) = true := rfl
  simp only [sV] at q2 w2 f1 f2 hfit
  simp [scans_builder_add_ic, tNd, tSl, tS, sV]
  refine scans_builder_add_l1_run fun K hK => ?_
  simp (maxSteps := 1000000) (disch := omega) [f1, f2, f3, hfit, h32, h32', q1, q2, w1, w2, t1, t2, encN_len, enc1_len, tNd_wid, enc1_wid, wrap_i64]
  simp (disch := omega) [scans_builder_add_rv, wrap_i64, hn, hm]
  omega

theorem add_rr (seen : List (List UInt8)) (nodes : List Nd) (names : List (List UInt8)) (ol : List Int) (x : Nd) (nm : List UInt8) (hn : nodes.length ≤ 1000000) (hm : names.length ≤ 1000000) (hs : nm ∉ seen) (hl : nm.length ≤ 32) :
    HCalls Tryd.prog Γ 67 [(1000000, .mp (seenM seen)), (1000001, .bx [.ls 1000003 0 nodes.length none, .ls 1000004 0 names.length none, .t (.sl [] (some 0) (some true)), .ls 1000002 0 ol.length none, .lm 1000000, .t (tB false)]), (1000002, .sl 3 1 (ints ol)), (1000003, .sl 48 4 (encN tNd nodes)), (1000004, .sl 9 1 (enc1 tS names))] [.lp 1000001 0 0, .ag ((tNd x).map .t), .t (tS nm)] (.t (tI nodes.length))
      [(40, .sl 48 4 (encN tNd (nodes ++ [x]))), (52, .sl 9 1 (enc1 tS (names ++ [nm]))), (1000000, .mp (seenM (seen ++ [nm]))), (1000001, .bx [.ls 40 0 (nodes.length + 1) none, .ls 52 0 (names.length + 1) none, .t (.sl [] (some 0) (some true)), .ls 1000002 0 ol.length none, .lm 1000000, .t (tB false)]), (1000002, .sl 3 1 (ints ol))] := by
  refine run_handQ scans_builder_add_chk rfl ?_
  have q1 : encN tNd nodes ++ [[tK x.k, .sl (ints x.inn.l) x.inn.cap x.inn.nl, tI x.mem, tI x.bit]] = encN tNd (nodes ++ [x]) := encN_snoc (f := tNd) (x := x)
  have q2 : enc1 tS names ++ [[.v (sV nm)]] = enc1 tS (names ++ [nm]) := enc1_snoc
  have w1 : wid 4 [[tK x.k, .sl (ints x.inn.l) x.inn.cap x.inn.nl, tI x.mem, tI x.bit]] := by intro e he; simp at he; subst he; rfl
  have w2 : wid 1 [[T.v (sV nm)]] := by intro e he; simp at he; subst he; rfl
  have t1 : (encN tNd nodes).take nodes.length = encN tNd nodes := encN_take_len
  have t2 : (enc1 tS names).take names.length = enc1 tS names := enc1_take_len
  have f1 := seenM_find nm seen
  rw [if_neg hs] at f1
  have f2 := seenM_set nm seen hs
  have f3 := seenM_fit seen
  have h32 : ¬ 32 < nm.length := by omega
  have h32' : ¬ (32 : Int) < nm.length := by omega
  have hfit : KT.str.fits (sV nm) = true := rfl
  simp only [sV] at q2 w2 f1 f2 hfit
  simp [scans_builder_add_ic, tNd, tSl, tS, sV]
  refine scans_builder_add_l1_run fun K hK => ?_
  simp (maxSteps := 1000000) (disch := omega) [f1, f2, f3, hfit, h32, h32', q1, q2, w1, w2, t1, t2, encN_len, enc1_len, tNd_wid, enc1_wid, wrap_i64]
  simp (disch := omega) [scans_builder_add_rv, wrap_i64, hn, hm]
  omega
end Go.Lg

/- scans.Insert: the loops over the names and along a chain. Conditions: none. -/
set_option linter.unusedSimpArgs false
set_option linter.unusedVariables false
set_option maxRecDepth 100000
namespace Go.Lg
open Go Go.Proofs
variable {Γ : Tables}

/-- A map from int to int. -/
def befM (l : List (Int × Int)) : List (Value × T) := l.map fun p => (.int .i64 p.1, tI p.2)
def befOf (l : List (Int × Int)) (n : Int) : Int := match l.find? (fun p => p.1 == n) with | some p => p.2 | none => 0
theorem befM_fit (l : List (Int × Int)) : keysFit (.int .i64) (befM l) := by
  intro e he; obtain ⟨s, _, rfl⟩ := List.mem_map.1 he; rfl
theorem befM_find (n : Int) : ∀ l : List (Int × Int), (findM (.int .i64 n) (befM l)).getD (tI 0) = tI (befOf l n)
  | [] => rfl
  | (a, p) :: l => by
    have ih := befM_find n l
    simp only [befM, befOf, List.map_cons, findM, keyEq, List.find?_cons] at ih ⊢
    by_cases h : n = a
    · simp [h]
    · have h' : ¬ a = n := fun e => h e.symm
      simp [h, h', ih]
theorem befM_set (n a : Int) : ∀ l : List (Int × Int), n ∉ l.map (·.1) → setM (.int .i64 n) (tI a) (befM l) = befM (l ++ [(n, a)])
  | [], _ => rfl
  | (b, p) :: l, h => by
    have ih := befM_set n a l (fun hm => h (by simp only [List.map_cons, List.mem_cons]; exact .inr hm))
    have hne : n ≠ b := fun e => h (by simp [e])
    simp only [befM, List.map_cons, setM, keyEq, List.cons_append] at ih ⊢
    simp [hne, ih]

def prevs : Int → List Int → List (Int × Int)
  | _, [] => []
  | a, n :: l => (n, a) :: prevs n l
def lastC : Int → List Int → Int
  | a, [] => a
  | _, n :: l => lastC n l
theorem prevs_keys : ∀ (l : List Int) (a : Int), (prevs a l).map (·.1) = l
  | [], _ => rfl
  | n :: l, a => by simp only [prevs, List.map_cons, prevs_keys l n]

def nilT : T := .sl [] (some 0) (some true)
def Z8 : List AV := [.t nilT, .t nilT, .t nilT, .t nilT, .t nilT, .t (tI 0), .t nilT, .t nilT]

theorem gi1 {f : Int → T} {l : List Int} {i : Nat} (hi : i < l.length) : (enc1 f l)[i]?.getD [] = [f (l.getD i 0)] := by
  rw [enc1_get 0 hi]; rfl
theorem ins_l1 {Q : AX → St → Prop} (t1 t7 : T) (c : Cir) (names : Sl (List UInt8)) (hl : names.l.length ≤ 1000000) (hnd : names.l.Nodup) (N M O : T)
    (h0 : Q (.exit 0) ⟨[(1, .t t1), (2, .t (.ip (tC c) 0)), (4, .lp 4 0 0), (7, .t t7), (8, .lp 46 0 0), (48, .t (tNames names)), (49, .t (tI names.l.length)), (50, .t (tI names.l.length)), (51, .t (tB false))], [(4, .bx Z8), (44, .mp (seenM names.l)), (46, .bx [.t N, .t M, .t nilT, .t O, .lm 44, .t (tB false)])]⟩) :
    ∀ (k i : Nat), k + i = names.l.length →
    run Tryd.prog Γ scans_Insert_l1 Q ⟨[(1, .t t1), (2, .t (.ip (tC c) 0)), (4, .lp 4 0 0), (7, .t t7), (8, .lp 46 0 0), (48, .t (tNames names)), (49, .t (tI names.l.length)), (50, .t (tI i))], [(4, .bx Z8), (44, .mp (seenM (names.l.take i))), (46, .bx [.t N, .t M, .t nilT, .t O, .lm 44, .t (tB false)])]⟩
  | 0, i, h => by
    refine scans_Insert_l1_run fun K hK => ?_
    have h3 : i = names.l.length := by omega
    subst h3
    rw [List.take_of_length_le (Nat.le_refl _)]
    simp [Z8]
    simpa [Z8] using h0
  | k + 1, i, h => by
    refine scans_Insert_l1_run fun K hK => ?_
    have h2 : i < names.l.length := by omega
    have ih := ins_l1 t1 t7 c names hl hnd N M O h0 k (i + 1) (by omega)
    have ht : names.l.take (i + 1) = names.l.take i ++ [names.l[i]] := by rw [List.take_add_one]; simp [h2]
    have hm : names.l[i] ∉ names.l.take i := fun hm => by
      obtain ⟨j, hj, e⟩ := List.getElem_of_mem hm
      simp at hj e
      have hji : j < i := by omega
      exact List.pairwise_iff_getElem.1 (List.nodup_iff_pairwise_ne.1 hnd) j i (by omega) h2 hji e
    have e := enc1_get (f := tS) [] h2
    have e2 : names.l[i]?.getD [] = names.l[i] := by simp [h2]
    rw [e2] at e
    rw [ht] at ih
    generalize names.l[i] = x at *
    have e' : ∀ h : i < (enc1 tS names.l).length, (enc1 tS names.l)[i] = [tS x] := fun h => by rw [← e]; simp [h]
    have f2 := seenM_set x _ hm
    have f3 := seenM_fit (names.l.take i)
    have hfit : KT.str.fits (sV x) = true := rfl
    simp only [tS, sV] at e e' f2 hfit
    simp [h2, tNames, enc1_len, enc1_wid, e, e', f2, f3, hfit, Z8]
    rw [wrap_i64 (by omega) (by omega), hK]
    simpa [tNames, Z8] using ih

def i3E (t2 t7 t65 t66 t67 t93 : T) (L : List Int) (lc : Option Nat) (ln : Option Bool) (last : Int) (i : Nat) : List (Nat × AV) :=
  [(2, .t t2), (4, .lp 4 0 0), (7, .t t7), (8, .lp 46 0 0), (11, .lp 11 0 0), (12, .lm 64), (15, .t (tI last)), (65, .t t65), (66, .t t66), (67, .t t67), (92, .t (.sl (ints L) lc ln)), (93, .t t93), (94, .t (tI i))]
def i3H (r11 r44 r46 r78 r90 r157 rN rM : Reg) (bef : List (Int × Int)) : List (Nat × Reg) :=
  [(4, .bx Z8), (11, r11), (44, r44), (46, r46), (64, .mp (befM bef)), (78, r78), (90, r90), (157, r157), (62040, rN), (62052, rM)]

theorem ins_l3 {Q : AX → St → Prop} (t2 t7 t65 t66 t67 : T) (r11 r44 r46 r78 r90 r157 rN rM : Reg) (L : List Int) (hL : L.length ≤ 1000000) (lc : Option Nat) (ln : Option Bool) (hnd : L.Nodup) (R : List (Int × Int)) (z : Int)
    (h0 : Q (.exit 4) ⟨i3E t2 t7 t65 t66 t67 (tI L.length) L lc ln z L.length ++ [(95, .t (tB false))], i3H r11 r44 r46 r78 r90 r157 rN rM R⟩) :
    ∀ (k i : Nat) (last : Int) (bef : List (Int × Int)), k + i = L.length → (∀ n ∈ L.drop i, n ∉ bef.map (·.1)) → bef ++ prevs last (L.drop i) = R → lastC last (L.drop i) = z →
    run Tryd.prog Γ scans_Insert_l3 Q ⟨i3E t2 t7 t65 t66 t67 (tI L.length) L lc ln last i, i3H r11 r44 r46 r78 r90 r157 rN rM bef⟩
  | 0, i, last, bef, h, hk, hR, hz => by
    refine scans_Insert_l3_run fun K hK => ?_
    have h3 : i = L.length := by omega
    subst h3
    rw [List.drop_of_length_le (Nat.le_refl _)] at hR hz
    simp only [prevs, lastC, List.append_nil] at hR hz
    subst hR; subst hz
    simp [i3E, i3H, Z8]
    simpa [i3E, i3H, Z8] using h0
  | k + 1, i, last, bef, h, hk, hR, hz => by
    refine scans_Insert_l3_run fun K hK => ?_
    have h2 : i < L.length := by omega
    have e := gi1 (f := tI) h2
    rw [getD_eq h2] at e
    have hd : L.drop (i + 1) = (L.drop i).tail := by simp
    rw [List.drop_eq_getElem_cons h2] at hR hz hk
    have hxm := List.pairwise_iff_getElem.1 (List.nodup_iff_pairwise_ne.1 hnd)
    have hnx : ∀ n ∈ L.drop (i + 1), n ≠ L[i] := fun n hn e => by
      obtain ⟨j, hj, rfl⟩ := List.getElem_of_mem hn
      simp at hj e
      exact hxm i (i + 1 + j) h2 (by omega) (by omega) e.symm
    generalize L[i] = x at *
    simp only [prevs, lastC] at hR hz
    have hx : x ∉ bef.map (·.1) := hk x List.mem_cons_self
    have ih := ins_l3 t2 t7 t65 t66 t67 r11 r44 r46 r78 r90 r157 rN rM L hL lc ln hnd R z h0 k (i + 1) x (bef ++ [(x, last)]) (by omega) (fun n hn => by
      rw [List.map_append, List.mem_append]
      rintro (h | h)
      · exact hk n (List.mem_cons_of_mem _ hn) h
      · simp at h; exact hnx n hn h) (by rw [List.append_assoc]; exact hR) hz
    have f2 := befM_set x last bef hx
    have f3 := befM_fit bef
    have hfit : (KT.int .i64).fits (.int .i64 x) = true := rfl
    have e' : ∀ h : i < (ints L).length, (ints L)[i] = [tI x] := fun h => by rw [← e]; simp [h]
    simp only [i3E, i3H] at ih ⊢
    simp [h2, enc1_len, enc1_wid, e, e', f2, f3, hfit]
    rw [wrap_i64 (by omega) (by omega), hK]
    simpa using ih
end Go.Lg

/- scans.Insert: the loop along a chain, with outputs of its own. Conditions: none. -/
set_option linter.unusedSimpArgs false
set_option linter.unusedVariables false
set_option maxRecDepth 100000
namespace Go.Lg
open Go Go.Proofs
variable {Γ : Tables}

def i3G (r11 r44 r46 r78 r90 r111 r157 rN rM : Reg) (bef : List (Int × Int)) : List (Nat × Reg) :=
  [(4, .bx Z8), (11, r11), (44, r44), (46, r46), (64, .mp (befM bef)), (78, r78), (90, r90), (111, r111), (157, r157), (62040, rN), (62052, rM)]

theorem ins_m3 {Q : AX → St → Prop} (t2 t7 t65 t66 t67 : T) (r11 r44 r46 r78 r90 r111 r157 rN rM : Reg) (L : List Int) (hL : L.length ≤ 1000000) (lc : Option Nat) (ln : Option Bool) (hnd : L.Nodup) (R : List (Int × Int)) (z : Int)
    (h0 : Q (.exit 4) ⟨i3E t2 t7 t65 t66 t67 (tI L.length) L lc ln z L.length ++ [(95, .t (tB false))], i3G r11 r44 r46 r78 r90 r111 r157 rN rM R⟩) :
    ∀ (k i : Nat) (last : Int) (bef : List (Int × Int)), k + i = L.length → (∀ n ∈ L.drop i, n ∉ bef.map (·.1)) → bef ++ prevs last (L.drop i) = R → lastC last (L.drop i) = z →
    run Tryd.prog Γ scans_Insert_l3 Q ⟨i3E t2 t7 t65 t66 t67 (tI L.length) L lc ln last i, i3G r11 r44 r46 r78 r90 r111 r157 rN rM bef⟩
  | 0, i, last, bef, h, hk, hR, hz => by
    refine scans_Insert_l3_run fun K hK => ?_
    have h3 : i = L.length := by omega
    subst h3
    rw [List.drop_of_length_le (Nat.le_refl _)] at hR hz
    simp only [prevs, lastC, List.append_nil] at hR hz
    subst hR; subst hz
    simp [i3E, i3G, Z8]
    simpa [i3E, i3G, Z8] using h0
  | k + 1, i, last, bef, h, hk, hR, hz => by
    refine scans_Insert_l3_run fun K hK => ?_
    have h2 : i < L.length := by omega
    have e := gi1 (f := tI) h2
    rw [getD_eq h2] at e
    have hd : L.drop (i + 1) = (L.drop i).tail := by simp
    rw [List.drop_eq_getElem_cons h2] at hR hz hk
    have hxm := List.pairwise_iff_getElem.1 (List.nodup_iff_pairwise_ne.1 hnd)
    have hnx : ∀ n ∈ L.drop (i + 1), n ≠ L[i] := fun n hn e => by
      obtain ⟨j, hj, rfl⟩ := List.getElem_of_mem hn
      simp at hj e
      exact hxm i (i + 1 + j) h2 (by omega) (by omega) e.symm
    generalize L[i] = x at *
    simp only [prevs, lastC] at hR hz
    have hx : x ∉ bef.map (·.1) := hk x List.mem_cons_self
    have ih := ins_m3 t2 t7 t65 t66 t67 r11 r44 r46 r78 r90 r111 r157 rN rM L hL lc ln hnd R z h0 k (i + 1) x (bef ++ [(x, last)]) (by omega) (fun n hn => by
      rw [List.map_append, List.mem_append]
      rintro (h | h)
      · exact hk n (List.mem_cons_of_mem _ hn) h
      · simp at h; exact hnx n hn h) (by rw [List.append_assoc]; exact hR) hz
    have f2 := befM_set x last bef hx
    have f3 := befM_fit bef
    have hfit : (KT.int .i64).fits (.int .i64 x) = true := rfl
    have e' : ∀ h : i < (ints L).length, (ints L)[i] = [tI x] := fun h => by rw [← e]; simp [h]
    simp only [i3E, i3G] at ih ⊢
    simp [h2, enc1_len, enc1_wid, e, e', f2, f3, hfit]
    rw [wrap_i64 (by omega) (by omega), hK]
    simpa using ih
end Go.Lg

/- scans.Insert: the loop over the chains. Conditions: none. -/
set_option linter.unusedSimpArgs false
set_option linter.unusedVariables false
set_option maxRecDepth 100000
namespace Go.Lg
open Go Go.Proofs
variable {Γ : Tables}

structure IS where
  nodes : List Nd
  names : List (List UInt8)
  cl : List (Sl Int)
  ins : List Int
  bef : List (Int × Int)
  outs : List Int
def siN (i : Nat) : List UInt8 := [115, 105] ++ itoaL i
def smN (i : Nat) : List UInt8 := [115, 109] ++ itoaL i
def stepCh (i : Nat) (s : Sl Int) (S : IS) : IS :=
  ⟨S.nodes ++ [inpN], S.names ++ [siN i], S.cl ++ [⟨s.l, some s.l.length, none⟩], S.ins ++ [(S.nodes.length : Int)], S.bef ++ prevs S.nodes.length s.l, S.outs ++ [lastC S.nodes.length s.l]⟩
def goCh : Nat → List (Sl Int) → IS → IS
  | _, [], S => S
  | i, s :: l, S => goCh (i + 1) l (stepCh i s S)
structure ISz (S : IS) : Prop where
  nodes : S.nodes.length ≤ 100000
  names : S.names.length ≤ 100000
  cl : S.cl.length ≤ 100000
  ins : S.ins.length ≤ 100000
  outs : S.outs.length ≤ 100000
structure ChOne (i : Nat) (s : Sl Int) (S : IS) : Prop where
  z : ISz S
  nm : siN i ∉ S.names
  i100 : i < 100
  ne : s.l ≠ []
  nl : s.nl ≠ some true
  len : s.l.length ≤ 1000000
  nd : s.l.Nodup
  key : ∀ n ∈ s.l, n ∉ S.bef.map (·.1)
def okCh : Nat → List (Sl Int) → IS → Prop
  | _, [], S => True
  | i, s :: l, S => ChOne i s S ∧ okCh (i + 1) l (stepCh i s S)

theorem wid1s {t : T} : wid 1 [[t]] = True := eq_true (by intro e he; simp at he; subst he; rfl)
theorem ba_cat (a b : List UInt8) : ByteArray.mk a.toArray ++ ByteArray.mk b.toArray = ByteArray.mk (a ++ b).toArray := by
  ext1; simp [ByteArray.data_append]
theorem siN_len {i : Nat} : (siN i).length ≤ 32 := by unfold siN itoaL; split <;> simp
theorem smN_len {i : Nat} : (smN i).length ≤ 32 := by unfold smN itoaL; split <;> simp

def i6E (c : Cir) (t7 : T) (chs : Sl (Sl Int)) (i : Nat) : List (Nat × AV) :=
  [(2, .t (.ip (tC c) 0)), (4, .lp 4 0 0), (7, .t t7), (8, .lp 46 0 0), (11, .lp 11 0 0), (12, .lm 64), (65, .t (.sl (enc1 tSl chs.l) chs.cap chs.nl)), (66, .t (tI chs.l.length)), (67, .t (tI i))]
def r11 (en : Int) (i : Nat) (k : Nat) : Reg := .bx [.t nilT, .t nilT, .t nilT, .t nilT, .ls 78 0 i none, .t (tI en), .ls 90 0 i none, .ls 157 0 k none]
def r46 (n m : Nat) (O : AV) : Reg := .bx [.ls 62040 0 n none, .ls 62052 0 m none, .t nilT, O, .lm 44, .t (tB false)]
def i6R (en : Int) (S : IS) : List (Nat × Reg) :=
  i3G (r11 en S.cl.length 0) (.mp (seenM S.names)) (r46 S.nodes.length S.names.length (.ls 111 0 S.outs.length none)) (.sl 31 1 (enc1 tSl S.cl)) (.sl 3 1 (ints S.ins)) (.sl 3 1 (ints S.outs)) (.sl 3 1 []) (.sl 48 4 (encN tNd S.nodes)) (.sl 9 1 (enc1 tS S.names)) S.bef
def i6T (en : Int) (ol : List Int) (oc : Option Nat) (on : Option Bool) (S : IS) : List (Nat × Reg) :=
  i3H (r11 en S.cl.length 0) (.mp (seenM S.names)) (r46 S.nodes.length S.names.length (.t (.sl (ints ol) oc on))) (.sl 31 1 (enc1 tSl S.cl)) (.sl 3 1 (ints S.ins)) (.sl 3 1 []) (.sl 48 4 (encN tNd S.nodes)) (.sl 9 1 (enc1 tS S.names)) S.bef

set_option maxHeartbeats 2000000 in
theorem ins_l5 {Q : AX → St → Prop} (c : Cir) (t7 : T) (chs : Sl (Sl Int)) (hcl : chs.l.length ≤ 100) (en : Int) (R : IS)
    (h0 : Q (.exit 2) ⟨i6E c t7 chs chs.l.length ++ [(68, .t (tB false))], i6R en R⟩) :
    ∀ (k i : Nat) (S : IS), k + i = chs.l.length → S.ins.length = S.cl.length → okCh i (chs.l.drop i) S → goCh i (chs.l.drop i) S = R →
    run Tryd.prog Γ scans_Insert_l5 Q ⟨i6E c t7 chs i, i6R en S⟩
  | 0, i, S, h, hic, hk, hR => by
    refine scans_Insert_l5_run fun K hK => ?_
    have h3 : i = chs.l.length := by omega
    subst h3
    rw [List.drop_of_length_le (Nat.le_refl _)] at hR
    simp only [goCh] at hR
    subst hR
    simp [i6E, i6R, i3G, Z8]
    simpa [i6E, i6R, i3G, Z8] using h0
  | k + 1, i, S, h, hic, hk, hR => by
    refine scans_Insert_l5_run fun K hK => ?_
    have h2 : i < chs.l.length := by omega
    rw [List.drop_eq_getElem_cons h2] at hR hk
    have e := enc1_get (f := tSl) ⟨[], none, none⟩ h2
    have e2 : chs.l[i]?.getD ⟨[], none, none⟩ = chs.l[i] := by simp [h2]
    rw [e2] at e
    generalize chs.l[i] = s at *
    obtain ⟨h1, h5⟩ := hk
    simp only [goCh] at hR
    have ih := ins_l5 c t7 chs hcl en R h0 k (i + 1) (stepCh i s S) (by omega) (by simp [stepCh, hic]) h5 hR
    have e' : ∀ h : i < (enc1 tSl chs.l).length, (enc1 tSl chs.l)[i] = [tSl s] := fun h => by rw [← e]; simp [h]
    have hz := h1.z
    have hso : SlOk s := ⟨fun h => absurd h h1.nl, fun _ => h1.ne, h1.len⟩
    have c1 := clone_int_a (Γ := Γ) s hso
    rw [if_neg h1.nl] at c1
    have c2 := clip_int (Γ := Γ) (ints s.l) none none enc1_wid
    have c3 := itoa_spec (Γ := Γ) i h1.i100
    have z1 := hz.nodes
    have z2 := hz.names
    have c4 := add_rr (Γ := Γ) S.names S.nodes S.names S.outs inpN (siN i) (by omega) (by omega) h1.nm siN_len
    have tk1 : (enc1 tSl S.cl).take S.cl.length = enc1 tSl S.cl := enc1_take_len
    have q1 : enc1 tSl S.cl ++ [[.sl (ints s.l) (some s.l.length) none]] = enc1 tSl (S.cl ++ [⟨s.l, some s.l.length, none⟩]) := enc1_snoc (f := tSl) (x := ⟨s.l, some s.l.length, none⟩)
    simp only [tSl] at c1 e e' q1
    simp [i6E, i6R, i3G, r11, r46, h2, enc1_len, enc1_wid, e, e']
    refine callK_fresh c1 rfl ?_
    simp
    refine callK_pure c2 rfl ?_
    simp [enc1_len, enc1_wid, tk1, q1, wid1s, Z8]
    have hcl2 : S.cl.length ≤ 2147483647 := by have := hz.cl; omega
    refine ⟨hcl2, ?_⟩
    refine callK_fresh c3 rfl ?_
    simp [tS, sV, ba_cat, List.idxOf_cons]
    have hil : 2 + (itoaL i).length ≤ 9223372036854775807 := by unfold itoaL; split <;> simp
    refine ⟨hil, ?_⟩
    simp [tNd, inpN, tSl, enc1_nil, tS, sV, siN] at c4
    have g3 := fun Q r11 r44 r46 r78 r90 r111 r157 rN rM h0 => ins_m3 (Γ := Γ) (Q := Q) (.ip (tC c) 0) t7 (.sl (enc1 tSl chs.l) chs.cap chs.nl) (tI chs.l.length) (tI i) r11 r44 r46 r78 r90 r111 r157 rN rM s.l h1.len s.cap s.nl h1.nd _ _ h0 s.l.length 0 S.nodes.length S.bef (by omega) h1.key rfl rfl
    simp [i3E, i3G, Z8] at g3
    have q2 : ints S.ins ++ [[tI S.nodes.length]] = ints (S.ins ++ [(S.nodes.length : Int)]) := enc1_snoc
    have tk2 : (ints S.ins).take S.cl.length = ints S.ins := by rw [← hic]; exact enc1_take_len
    have q3 : ints S.outs ++ [[tI (lastC S.nodes.length s.l)]] = ints (S.outs ++ [lastC S.nodes.length s.l]) := enc1_snoc
    have tk3 : (ints S.outs).take S.outs.length = ints S.outs := enc1_take_len
    refine ⟨_, _, c4, ?_⟩
    simp [List.idxOf_cons, renSt, wid1s, hcl2, tk2, q2, enc1_len]
    refine g3 _ _ _ _ _ _ _ _ _ _ ?_
    simp [wid1s, tk3, q3, enc1_len]
    refine ⟨by have := hz.outs; omega, ?_⟩
    rw [wrap_i64 (by omega) (by omega), hK]
    simpa [i6E, i6R, i3G, r11, r46, Z8, stepCh, nilT, inpN, siN, hic, tSl] using ih
end Go.Lg

/- scans.Insert: the loop over the chains, from its start. Conditions: none. -/
set_option linter.unusedSimpArgs false
set_option linter.unusedVariables false
set_option maxRecDepth 100000
namespace Go.Lg
open Go Go.Proofs
variable {Γ : Tables}

set_option maxHeartbeats 2000000 in
theorem ins_l5t {Q : AX → St → Prop} (c : Cir) (t7 : T) (chs : Sl (Sl Int)) (hcl : chs.l.length ≤ 100) (en : Int) (R : IS) (on : Option Bool) (S : IS)
    (h0 : chs.l ≠ [] → Q (.exit 2) ⟨i6E c t7 chs chs.l.length ++ [(68, .t (tB false))], i6R en R⟩)
    (h0t : chs.l = [] → Q (.exit 2) ⟨i6E c t7 chs 0 ++ [(68, .t (tB false))], i6T en S.outs (some S.outs.length) on S⟩)
    (hic : S.ins.length = S.cl.length) (hk : okCh 0 chs.l S) (hR : goCh 0 chs.l S = R) :
    run Tryd.prog Γ scans_Insert_l5 Q ⟨i6E c t7 chs 0, i6T en S.outs (some S.outs.length) on S⟩ := by
  by_cases hne : chs.l = []
  · have hh := h0t hne
    refine scans_Insert_l5_run fun K hK => ?_
    have hl0 : chs.l.length = 0 := by rw [hne]; rfl
    simp [i6E, i6T, i3H, Z8, hl0] at hh ⊢
    simpa [i6E, i6T, i3H, Z8] using hh
  · have h0 := h0 hne
    have hlen : 0 < chs.l.length := List.length_pos_iff.2 hne
    have step := fun S hs h1 h2 => ins_l5 (Γ := Γ) (Q := Q) c t7 chs hcl en R h0 (chs.l.length - 1) 1 S (by omega) hs h1 h2
    refine scans_Insert_l5_run fun K hK => ?_
    have hdr : chs.l = chs.l[0] :: chs.l.drop 1 := by
      have := List.drop_eq_getElem_cons hlen
      simpa using this
    rw [hdr] at hk hR
    have e := enc1_get (f := tSl) ⟨[], none, none⟩ hlen
    have e2 : chs.l[0]?.getD ⟨[], none, none⟩ = chs.l[0] := by simp [hlen]
    rw [e2] at e
    generalize chs.l[0] = s at *
    obtain ⟨h1, h5⟩ := hk
    simp only [goCh] at hR
    have ih := step (stepCh 0 s S) (by simp [stepCh, hic]) h5 hR
    have e' : ∀ h : 0 < (enc1 tSl chs.l).length, (enc1 tSl chs.l)[0] = [tSl s] := fun h => by rw [← e]; simp [h]
    have hz := h1.z
    have hso : SlOk s := ⟨fun h => absurd h h1.nl, fun _ => h1.ne, h1.len⟩
    have c1 := clone_int_a (Γ := Γ) s hso
    rw [if_neg h1.nl] at c1
    have c2 := clip_int (Γ := Γ) (ints s.l) none none enc1_wid
    have c3 := itoa_spec (Γ := Γ) 0 h1.i100
    have z1 := hz.nodes
    have z2 := hz.names
    have c4 := add_rt (Γ := Γ) S.names S.nodes S.names S.outs (some S.outs.length) on inpN (siN 0) (by omega) (by omega) h1.nm siN_len
    have tk1 : (enc1 tSl S.cl).take S.cl.length = enc1 tSl S.cl := enc1_take_len
    have q1 : enc1 tSl S.cl ++ [[.sl (ints s.l) (some s.l.length) none]] = enc1 tSl (S.cl ++ [⟨s.l, some s.l.length, none⟩]) := enc1_snoc (f := tSl) (x := ⟨s.l, some s.l.length, none⟩)
    have hlen' : chs.l.length ≠ 0 := by omega
    simp only [tSl] at c1 e e' q1
    simp [i6E, i6T, i3H, r11, r46, hlen, enc1_len, enc1_wid, e, e']
    refine callK_fresh c1 rfl ?_
    simp
    refine callK_pure c2 rfl ?_
    simp [enc1_len, enc1_wid, tk1, q1, wid1s, Z8]
    have hcl2 : S.cl.length ≤ 2147483647 := by have := hz.cl; omega
    refine ⟨hcl2, ?_⟩
    refine callK_fresh c3 rfl ?_
    simp [tS, sV, ba_cat, List.idxOf_cons]
    have hil : 2 + (itoaL 0).length ≤ 9223372036854775807 := by unfold itoaL; split <;> simp
    refine ⟨hil, ?_⟩
    simp [tNd, inpN, tSl, enc1_nil, tS, sV, siN] at c4
    have g3 := fun Q r11 r44 r46 r78 r90 r157 rN rM h0 => ins_l3 (Γ := Γ) (Q := Q) (.ip (tC c) 0) t7 (.sl (enc1 tSl chs.l) chs.cap chs.nl) (tI chs.l.length) (tI 0) r11 r44 r46 r78 r90 r157 rN rM s.l h1.len s.cap s.nl h1.nd _ _ h0 s.l.length 0 S.nodes.length S.bef (by omega) h1.key rfl rfl
    simp [i3E, i3H, Z8] at g3
    have q2 : ints S.ins ++ [[tI S.nodes.length]] = ints (S.ins ++ [(S.nodes.length : Int)]) := enc1_snoc
    have tk2 : (ints S.ins).take S.cl.length = ints S.ins := by rw [← hic]; exact enc1_take_len
    have q3 : ints S.outs ++ [[tI (lastC S.nodes.length s.l)]] = ints (S.outs ++ [lastC S.nodes.length s.l]) := enc1_snoc
    have tk3 : (ints S.outs).take S.outs.length = ints S.outs := enc1_take_len
    refine ⟨_, _, c4, ?_⟩
    simp [List.idxOf_cons, renSt, wid1s, hcl2, tk2, q2, enc1_len]
    refine g3 _ _ _ _ _ _ _ _ _ ?_
    simp [wid1s, tk3, q3, enc1_len, enc1_wid]
    refine ⟨by have := hz.outs; omega, ?_⟩
    rw [wrap_i64 (by omega) (by omega), hK]
    simpa [i6E, i6R, i3G, r11, r46, Z8, stepCh, nilT, inpN, siN, hic, tSl] using ih
end Go.Lg

/- scans.Insert: the loop over the states. Conditions: none. -/
set_option linter.unusedSimpArgs false
set_option linter.unusedVariables false
set_option maxRecDepth 100000
namespace Go.Lg
open Go Go.Proofs
variable {Γ : Tables}

structure JS where
  nodes : List Nd
  names : List (List UInt8)
  muxes : List Int
def muxN (e d b : Int) : Nd := ⟨11, ⟨[e, d, b], some 3, some false⟩, 0, 0⟩
def in0 (c : Cir) (n : Int) : Int := (innAt c n.toNat).getD 0 0
def stepSt (c : Cir) (en : Int) (bef : List (Int × Int)) (i : Nat) (n : Int) (J : JS) : JS :=
  ⟨setIn (J.nodes ++ [muxN en (in0 c n) (befOf bef n)]) n.toNat J.nodes.length, J.names ++ [smN i], J.muxes ++ [(J.nodes.length : Int)]⟩
def goSt (c : Cir) (en : Int) (bef : List (Int × Int)) : Nat → List Int → JS → JS
  | _, [], J => J
  | i, n :: l, J => goSt c en bef (i + 1) l (stepSt c en bef i n J)
structure StOne (c : Cir) (i : Nat) (n : Int) (J : JS) : Prop where
  nodes : J.nodes.length ≤ 100000
  names : J.names.length ≤ 100000
  muxes : J.muxes.length ≤ 100000
  nm : smN i ∉ J.names
  i100 : i < 100
  n0 : 0 ≤ n
  n1 : n < c.nodes.l.length
  n2 : n < J.nodes.length
  inn : innAt c n.toNat ≠ []
def okSt (c : Cir) (en : Int) (bef : List (Int × Int)) : Nat → List Int → JS → Prop
  | _, [], _ => True
  | i, n :: l, J => StOne c i n J ∧ okSt c en bef (i + 1) l (stepSt c en bef i n J)

def i8E (c : Cir) (st : List Int) (sc : Option Nat) (sn : Option Bool) (i : Nat) : List (Nat × AV) :=
  [(2, .t (.ip (tC c) 0)), (4, .lp 4 0 0), (8, .lp 46 0 0), (11, .lp 11 0 0), (12, .lm 64), (116, .t (.sl (ints st) sc sn)), (117, .t (tI st.length)), (118, .t (tI i))]
def i8R (en : Int) (S : IS) (J : JS) : List (Nat × Reg) :=
  i3G (r11 en S.cl.length J.muxes.length) (.mp (seenM J.names)) (r46 J.nodes.length J.names.length (.ls 111 0 S.outs.length none)) (.sl 31 1 (enc1 tSl S.cl)) (.sl 3 1 (ints S.ins)) (.sl 3 1 (ints S.outs)) (.sl 3 1 (ints J.muxes)) (.sl 48 4 (encN tNd J.nodes)) (.sl 9 1 (enc1 tS J.names)) S.bef

theorem nd_at {c : Cir} {n : Int} (h0 : 0 ≤ n) (h : n < c.nodes.l.length) : (encN tNd c.nodes.l)[n.toNat]?.getD [] = tNd (c.nodes.l.getD n.toNat Nd.d) := gN (by omega)

set_option maxHeartbeats 2000000 in
theorem ins_l7 {Q : AX → St → Prop} (c : Cir) (hcn : c.nodes.l.length ≤ 100000) (st : List Int) (hst : st.length ≤ 100) (sc : Option Nat) (sn : Option Bool) (en : Int) (S : IS) (R : JS)
    (h0 : Q (.exit 6) ⟨i8E c st sc sn st.length ++ [(119, .t (tB false))], i8R en S R⟩) :
    ∀ (k i : Nat) (J : JS), k + i = st.length → okSt c en S.bef i (st.drop i) J → goSt c en S.bef i (st.drop i) J = R →
    run Tryd.prog Γ scans_Insert_l7 Q ⟨i8E c st sc sn i, i8R en S J⟩
  | 0, i, J, h, hk, hR => by
    refine scans_Insert_l7_run fun K hK => ?_
    have h3 : i = st.length := by omega
    subst h3
    rw [List.drop_of_length_le (Nat.le_refl _)] at hR
    simp only [goSt] at hR
    subst hR
    simp [i8E, i8R, i3G, Z8]
    simpa [i8E, i8R, i3G, Z8] using h0
  | k + 1, i, J, h, hk, hR => by
    refine scans_Insert_l7_run fun K hK => ?_
    have h2 : i < st.length := by omega
    rw [List.drop_eq_getElem_cons h2] at hR hk
    have e := gi1 (f := tI) h2
    rw [getD_eq h2] at e
    generalize st[i] = n at *
    obtain ⟨h1, h5⟩ := hk
    simp only [goSt] at hR
    have ih := ins_l7 c hcn st hst sc sn en S R h0 k (i + 1) (stepSt c en S.bef i n J) (by omega) h5 hR
    have e' : ∀ h : i < (ints st).length, (ints st)[i] = [tI n] := fun h => by rw [← e]; simp [h]
    have n0 := h1.n0
    have n1 := h1.n1
    have n2 := h1.n2
    have n3 : n.toNat < c.nodes.l.length := by omega
    have n4 : n.toNat < J.nodes.length := by omega
    have en1 := nd_at (c := c) n0 n1
    have en1' : ∀ h : n.toNat < (encN tNd c.nodes.l).length, (encN tNd c.nodes.l)[n.toNat] = tNd (c.nodes.l.getD n.toNat Nd.d) := fun h => by rw [← en1]; simp [h]
    have hin : innAt c n.toNat = (c.nodes.l.getD n.toNat Nd.d).inn.l := rfl
    have hne := h1.inn
    have hd : (ints (c.nodes.l.getD n.toNat Nd.d).inn.l)[0]?.getD [] = [tI (in0 c n)] := by
      rw [← hin]
      cases hl : innAt c n.toNat with
      | nil => exact absurd hl hne
      | cons a l => simp [in0, hl, enc1]
    rw [hin] at hne
    have hlp : 0 < (c.nodes.l.getD n.toNat Nd.d).inn.l.length := List.length_pos_iff.2 hne
    generalize c.nodes.l.getD n.toNat Nd.d = x at *
    have hd' : ∀ h : 0 < (ints x.inn.l).length, (ints x.inn.l)[0] = [tI (in0 c n)] := fun h => by rw [← hd]; simp [h]
    have hb := befM_find n S.bef
    have hbf := befM_fit S.bef
    have c3 := itoa_spec (Γ := Γ) i h1.i100
    have z1 := h1.nodes
    have z2 := h1.names
    have c4 := add_rr (Γ := Γ) J.names J.nodes J.names S.outs (muxN en (in0 c n) (befOf S.bef n)) (smN i) (by omega) (by omega) h1.nm smN_len
    have hil : 2 + (itoaL i).length ≤ 9223372036854775807 := by unfold itoaL; split <;> simp
    have q1 : ints J.muxes ++ [[tI J.nodes.length]] = ints (J.muxes ++ [(J.nodes.length : Int)]) := enc1_snoc
    have tk1 : (ints J.muxes).take J.muxes.length = ints J.muxes := enc1_take_len
    simp [i8E, i8R, i3G, r11, r46, h2, enc1_len, enc1_wid, e, e', tC, tNodes, encN_len, tNd_wid, n0, n1, en1, en1', tNd, tSl, hd, hd', hlp, hb, hbf, KT.fits]
    refine callK_fresh c3 rfl ?_
    simp [tS, sV, ba_cat, List.idxOf_cons, Z8]
    refine ⟨hil, ?_⟩
    simp [tNd, muxN, tSl, enc1_nil, tS, sV, smN] at c4
    have hm : (⟨11, ⟨[en, in0 c n, befOf S.bef n], some 3, some false⟩, 0, 0⟩ : Nd) = muxN en (in0 c n) (befOf S.bef n) := rfl
    rw [hm] at c4
    have hLl : (J.nodes ++ [muxN en (in0 c n) (befOf S.bef n)]).length = J.nodes.length + 1 := by simp
    have y1 := gN (l := J.nodes ++ [muxN en (in0 c n) (befOf S.bef n)]) (i := n.toNat) (by omega)
    have y2 : ∀ y : Nd, (J.nodes ++ [muxN en (in0 c n) (befOf S.bef n)]).getD n.toNat Nd.d = y → (encN tNd (J.nodes ++ [muxN en (in0 c n) (befOf S.bef n)])).set n.toNat [tK y.k, .sl [[tI J.nodes.length]] (some 1) (some false), tI y.mem, tI y.bit] = encN tNd (setIn (J.nodes ++ [muxN en (in0 c n) (befOf S.bef n)]) n.toNat J.nodes.length) := fun y hy => by
      unfold setIn
      rw [hy]
      exact encN_set (f := tNd) (x := ⟨y.k, ⟨[(J.nodes.length : Int)], some 1, some false⟩, y.mem, y.bit⟩)
    have ihn : (stepSt c en S.bef i n J).nodes = setIn (J.nodes ++ [muxN en (in0 c n) (befOf S.bef n)]) n.toNat J.nodes.length := rfl
    have ihl : (setIn (J.nodes ++ [muxN en (in0 c n) (befOf S.bef n)]) n.toNat J.nodes.length).length = J.nodes.length + 1 := by unfold setIn; simp
    simp [i8E, i8R, i3G, r11, r46, Z8, ihn, ihl, tC, tNodes] at ih
    generalize J.nodes ++ [muxN en (in0 c n) (befOf S.bef n)] = L at *
    generalize setIn L n.toNat J.nodes.length = L2 at *
    have y3 := y2 _ rfl
    generalize L.getD n.toNat Nd.d = y at *
    have y1' : ∀ h : n.toNat < (encN tNd L).length, (encN tNd L)[n.toNat] = tNd y := fun h => by rw [← y1]; simp [h]
    have n5 : n < (J.nodes.length : Int) + 1 := by omega
    have n6 : n.toNat < J.nodes.length + 1 := by omega
    refine ⟨_, _, c4, ?_⟩
    simp [List.idxOf_cons, renSt, wid1s, tk1, q1, enc1_len, encN_len, hLl, n0, n5, n6, y1, y1', y3, tNd_wid, tNd, tSl]
    refine ⟨by have := h1.muxes; omega, ?_⟩
    rw [wrap_i64 (by omega) (by omega), hK]
    simpa [stepSt, nilT, smN, tSl] using ih
end Go.Lg

/- scans.Insert. Conditions: none. -/
set_option linter.unusedSimpArgs false
set_option linter.unusedVariables false
set_option maxRecDepth 100000
namespace Go.Lg
open Go Go.Proofs
variable {Γ : Tables}

def seN : List UInt8 := [115, 101]
def scS0 (c : Cir) : IS := ⟨c.nodes.l.map cpNd ++ [inpN], c.names.l ++ [seN], [], [], [], c.outs.l⟩
def scS (c : Cir) (chs : List (Sl Int)) : IS := goCh 0 chs (scS0 c)
def scJ (c : Cir) (chs : List (Sl Int)) : JS := goSt c c.nodes.l.length (scS c chs).bef 0 (states c) ⟨(scS c chs).nodes, (scS c chs).names, []⟩
def scC (c : Cir) (chs : List (Sl Int)) : Cir :=
  ⟨⟨(scJ c chs).nodes, some (scJ c chs).nodes.length, none⟩, ⟨(scJ c chs).names, some (scJ c chs).names.length, none⟩, ⟨[], some 0, some true⟩, ⟨(scS c chs).outs, some (scS c chs).outs.length, if chs = [] then (if c.outs.nl = some true then some true else none) else none⟩⟩

/-- A circuit and complete chains that Insert takes. -/
structure InsOk (c : Cir) (chs : Sl (Sl Int)) : Prop where
  ok : COk c
  cp : CpOk c
  names : c.names.l.Nodup
  se : seN ∉ c.names.l
  len : chs.l.length ≤ 100
  lens : ∀ s ∈ chs.l, s.l.length ≤ 1000000000
  n16 : c.nodes.l.length ≤ 1000
  n1 : c.names.l.length ≤ 1000
  s100 : (states c).length ≤ 100
  ch : okCh 0 chs.l (scS0 c)
  st : okSt c c.nodes.l.length (scS c chs.l).bef 0 (states c) ⟨(scS c chs.l).nodes, (scS c chs.l).names, []⟩
  both : chs.l = [] → states c = []
  err : checkErr c chs.l = 0

def tScan (c : Cir) (chs : List (Sl Int)) : T :=
  .agg (tC (scC c chs) ++ [.sl (enc1 tSl (scS c chs).cl) (some (scS c chs).cl.length) none, tI c.nodes.l.length, .sl (ints (scS c chs).ins) (some (scS c chs).ins.length) none, .sl (ints (scJ c chs).muxes) (some (scJ c chs).muxes.length) none])

theorem clip_node (es : List (List T)) (cap : Option Nat) (nl : Option Bool) (hw : wid 4 es) : PureCalls Tryd.prog Γ 69 [.sl es cap nl] (.sl es (some es.length) nl) := by
  refine run_pureQ slices_Clip_api_Node_chk rfl ?_
  simp [slices_Clip_api_Node_ic, slices_Clip_api_Node_rv, hw]
theorem clip_string (es : List (List T)) (cap : Option Nat) (nl : Option Bool) (hw : wid 1 es) : PureCalls Tryd.prog Γ 70 [.sl es cap nl] (.sl es (some es.length) nl) := by
  refine run_pureQ slices_Clip_string_chk rfl ?_
  simp [slices_Clip_string_ic, slices_Clip_string_rv, hw]
theorem goCh_len : ∀ {l : List (Sl Int)} {i : Nat} {S : IS}, S.ins.length = S.cl.length → (goCh i l S).ins.length = (goCh i l S).cl.length
  | [], _, _, h => h
  | s :: l, i, S, h => goCh_len (l := l) (by simp [stepCh, h])

set_option maxHeartbeats 4000000 in
theorem Insert_spec (hΓ : GOk Γ) (c : Cir) (chs : Sl (Sl Int)) (h : InsOk c chs) : PureCalls Tryd.prog Γ 37 [.agg (tC c), tChs chs] (.tup [tScan c chs.l, tI 0]) := by
  refine run_pureQ scans_Insert_chk rfl ?_
  have e1 := scheck_spec hΓ c h.ok chs (by have := h.len; omega) h.lens
  rw [h.err] at e1
  have e2 := states_spec (Γ := Γ) c h.ok
  have e3 := copy_spec (Γ := Γ) c h.cp
  have hn := h.n16
  have hn1 := h.n1
  have hm := h.len
  have hs := h.s100
  simp [scans_Insert_ic]
  simp [tC, tNodes, tNames, tMems, tSl, tChs] at e1 e2 e3
  simp [tC, tNodes, tNames, tMems, tSl, tChs]
  refine callK_fresh e1 rfl ?_
  simp
  refine callK_pure e2 rfl ?_
  have hlim : ¬ (16384 : Int) < (c.nodes.l.length : Int) + 1 + (chs.l.length : Int) + ((states c).length : Int) := by omega
  simp (disch := omega) [encN_len, enc1_len, wrap_i64, hlim]
  refine callK_pure e3 rfl ?_
  have g1 := fun Q N M O h0 => ins_l1 (Γ := Γ) (Q := Q) (.sl (enc1 tSl chs.l) chs.cap chs.nl) (.sl (ints (states c)) (some (states c).length) none) c c.names (by omega) h.names N M O h0 c.names.l.length 0 (by omega)
  simp [tC, tNodes, tNames, tMems, tSl, Z8, nilT, show seenM [] = [] from rfl] at g1
  simp [copyC, enc1_len, cpS, show encN tMm [] = [] from rfl, enc1_nil]
  refine g1 _ _ _ _ ?_
  simp [List.idxOf_cons, sV]
  have c4 := add_tt (Γ := Γ) c.names.l (c.nodes.l.map cpNd) c.names.l c.outs.l (some c.outs.l.length) (if c.outs.nl = some true then some true else none) inpN seN (by simp; omega) (by omega) h.se (by simp [seN])
  simp [tNd, inpN, tSl, enc1_nil, tS, sV, seN] at c4
  refine ⟨_, _, c4, ?_⟩
  simp [List.idxOf_cons, renSt]
  have g5 := fun Q h0 h0t => ins_l5t (Γ := Γ) (Q := Q) c (.sl (ints (states c)) (some (states c).length) none) chs h.len c.nodes.l.length (scS c chs.l) (if c.outs.nl = some true then some true else none) (scS0 c) h0 h0t rfl h.ch rfl
  have hst := h.st
  have hJ : scJ c chs.l = goSt c c.nodes.l.length (scS c chs.l).bef 0 (states c) ⟨(scS c chs.l).nodes, (scS c chs.l).names, []⟩ := rfl
  have hC : scC c chs.l = ⟨⟨(scJ c chs.l).nodes, some (scJ c chs.l).nodes.length, none⟩, ⟨(scJ c chs.l).names, some (scJ c chs.l).names.length, none⟩, ⟨[], some 0, some true⟩, ⟨(scS c chs.l).outs, some (scS c chs.l).outs.length, if chs.l = [] then (if c.outs.nl = some true then some true else none) else none⟩⟩ := rfl
  unfold tScan
  rw [hC]
  have hS0 : scS0 c = scS c [] := rfl
  have hSe : chs.l = [] → scS c chs.l = scS0 c := fun e => by rw [e]; rfl
  have hil : (scS c chs.l).ins.length = (scS c chs.l).cl.length := goCh_len rfl
  generalize scS c chs.l = S at *
  generalize scJ c chs.l = J at *
  have g7 := fun Q h0 => ins_l7 (Γ := Γ) (Q := Q) c (by omega) (states c) hs (some (states c).length) none c.nodes.l.length S J h0 (states c).length 0 ⟨S.nodes, S.names, []⟩ (by omega) hst hJ.symm
  simp [i6E, i6T, i6R, i3H, i3G, r11, r46, scS0, Z8, nilT, tC, tNodes, tNames, tMems, tSl, enc1_nil, inpN, seN, show befM [] = [] from rfl] at g5
  simp [i8E, i8R, i3G, r11, r46, Z8, nilT, tC, tNodes, tNames, tMems, tSl, enc1_nil] at g7
  simp [enc1_len]
  refine g5 _ (fun hne => ?_) (fun he => ?_)
  · simp [enc1_len]
    refine g7 _ ?_
    have k1 : (enc1 tSl S.cl).take S.cl.length = enc1 tSl S.cl := enc1_take_len
    have k2 : (ints S.ins).take S.cl.length = ints S.ins := by rw [← hil]; exact enc1_take_len
    have k3 : (ints S.outs).take S.outs.length = ints S.outs := enc1_take_len
    have k4 : (ints J.muxes).take J.muxes.length = ints J.muxes := enc1_take_len
    have k5 : (encN tNd J.nodes).take J.nodes.length = encN tNd J.nodes := encN_take_len
    have k6 : (enc1 tS J.names).take J.names.length = enc1 tS J.names := enc1_take_len
    simp [St.freeze, Reg.closed, frzRef, frz1, frz0, frzReg, del, reify, k1, k2, k3, k4, k5, k6]
    refine callK_pure (clip_node (encN tNd J.nodes) none none tNd_wid) rfl ?_
    simp
    refine callK_pure (clip_string (enc1 tS J.names) none none enc1_wid) rfl ?_
    simp
    refine callK_pure (clip_int (ints S.outs) none none enc1_wid) rfl ?_
    simp
    refine callK_pure (clip_ints (enc1 tSl S.cl) none none enc1_wid) rfl ?_
    simp
    refine callK_pure (clip_int (ints S.ins) none none enc1_wid) rfl ?_
    simp
    refine callK_pure (clip_int (ints J.muxes) none none enc1_wid) rfl ?_
    simp [scans_Insert_rv, tC, tNodes, tNames, tMems, tSl, encN_len, enc1_len, hne, show encN tMm [] = [] from rfl]
  · have hse : states c = [] := h.both he
    have hS := hSe he
    have hJe : J = ⟨S.nodes, S.names, []⟩ := by rw [hJ, hse]; rfl
    have hl0 : chs.l.length = 0 := by rw [he]; rfl
    subst hJe
    subst hS
    have k5 : (encN tNd (scS0 c).nodes).take (c.nodes.l.length + 1) = encN tNd (scS0 c).nodes := List.take_of_length_le (by simp [scS0, encN])
    have k6 : (enc1 tS (scS0 c).names).take (c.names.l.length + 1) = enc1 tS (scS0 c).names := List.take_of_length_le (by simp [scS0, enc1])
    simp [scS0, inpN, seN] at k5 k6
    simp [enc1_len, hse]
    refine scans_Insert_l7_run fun K hK => ?_
    simp [enc1_len, hse, St.freeze, Reg.closed, frzRef, frz1, frz0, frzReg, del, reify, k5, k6]
    refine callK_pure (clip_node _ none none tNd_wid) rfl ?_
    simp
    refine callK_pure (clip_string _ none none enc1_wid) rfl ?_
    simp
    refine callK_pure (clip_int (ints c.outs.l) (some c.outs.l.length) (if c.outs.nl = some true then some true else none) enc1_wid) rfl ?_
    simp
    refine callK_pure (clip_ints [] none none wid_nil) rfl ?_
    simp
    refine callK_pure (clip_int [] none none wid_nil) rfl ?_
    simp
    refine callK_pure (clip_int [] none none wid_nil) rfl ?_
    simp [scans_Insert_rv, tC, tNodes, tNames, tMems, tSl, encN_len, enc1_len, he, enc1_nil, show encN tMm [] = [] from rfl]
    simp [scS0, inpN, seN, enc1_nil]

end Go.Lg

/- What Insert lays, plainly: it may be called. Conditions: none. -/
set_option linter.unusedSimpArgs false
set_option linter.unusedVariables false
set_option maxRecDepth 100000
namespace Go.Lg
open Go Go.Proofs

theorem itoaL_inj : ∀ i, i < 100 → ∀ j, j < 100 → itoaL i = itoaL j → i = j := by decide +kernel
theorem siN_inj {i j : Nat} (hi : i < 100) (hj : j < 100) (h : siN i = siN j) : i = j := itoaL_inj i hi j hj (by simpa [siN] using h)
theorem smN_inj {i j : Nat} (hi : i < 100) (hj : j < 100) (h : smN i = smN j) : i = j := itoaL_inj i hi j hj (by simpa [smN] using h)


def befL : Int → List (Sl Int) → List (Int × Int)
  | _, [] => []
  | n, s :: l => prevs n s.l ++ befL (n + 1) l
def lastL : Int → List (Sl Int) → List Int
  | _, [] => []
  | n, s :: l => lastC n s.l :: lastL (n + 1) l
def insOf (n : Nat) (k : Nat) : List Int := (List.range' n k).map fun q : Nat => (q : Int)
theorem insOf_succ (n k : Nat) : insOf n (k + 1) = (n : Int) :: insOf (n + 1) k := by simp [insOf, List.range'_succ]

theorem goCh_eq : ∀ (l : List (Sl Int)) (i : Nat) (S : IS), goCh i l S = ⟨S.nodes ++ List.replicate l.length inpN, S.names ++ (List.range' i l.length).map siN, S.cl ++ l.map (fun s => ⟨s.l, some s.l.length, none⟩), S.ins ++ insOf S.nodes.length l.length, S.bef ++ befL S.nodes.length l, S.outs ++ lastL S.nodes.length l⟩
  | [], i, S => by simp [goCh, insOf, befL, lastL]
  | s :: l, i, S => by
    simp only [goCh]
    rw [goCh_eq l (i + 1)]
    simp [stepCh, List.replicate_succ, List.range'_succ, insOf_succ, befL, lastL]

theorem okCh_ind : ∀ (l : List (Sl Int)) (i : Nat) (S : IS) (base : List (List UInt8)), S.names = base ++ (List.range' 0 i).map siN → (∀ j, j < 100 → siN j ∉ base) → i + l.length ≤ 100 → S.nodes.length ≤ 2000 + i → S.names.length ≤ 2000 + i → S.cl.length = i → S.ins.length = i → S.outs.length ≤ 2000 + i →
    (S.bef.map (·.1) ++ elems l).Nodup → (∀ s ∈ l, s.l ≠ [] ∧ s.nl ≠ some true ∧ s.l.length ≤ 1000000) → okCh i l S
  | [], _, _, _, _, _, _, _, _, _, _, _, _, _ => trivial
  | s :: l, i, S, base, hn, hb, hi, h1, h2, h3, h4, h5, hnd, hs => by
    simp only [List.length_cons] at hi
    rw [elems_cons, ← List.append_assoc] at hnd
    have hnd2 := hnd
    rw [List.append_assoc] at hnd2
    obtain ⟨d1, d2, d3⟩ := List.nodup_append.1 hnd2
    obtain ⟨e1, e2, e3⟩ := List.nodup_append.1 d2
    obtain ⟨s1, s2, s3⟩ := hs s List.mem_cons_self
    refine ⟨⟨⟨by omega, by omega, by omega, by omega, by omega⟩, ?_, by omega, s1, s2, s3, e1, fun n hnl hm => d3 n hm n (List.mem_append_left _ hnl) rfl⟩, ?_⟩
    · rw [hn, List.mem_append]
      rintro (h | h)
      · exact hb i (by omega) h
      · obtain ⟨j, hj, e⟩ := List.mem_map.1 h
        simp at hj
        have := siN_inj (by omega) (by omega) e
        omega
    · refine okCh_ind l (i + 1) (stepCh i s S) base ?_ hb (by omega) (by simp [stepCh]; omega) (by simp [stepCh]; omega) (by simp [stepCh]; omega) (by simp [stepCh]; omega) (by simp [stepCh]; omega) ?_ fun x hx => hs x (List.mem_cons_of_mem _ hx)
      · simp only [stepCh, hn, List.append_assoc]
        rw [List.range'_concat]
        simp
      · simp only [stepCh, List.map_append, prevs_keys]
        exact hnd

theorem okSt_ind (c : Cir) (en : Int) (bef : List (Int × Int)) : ∀ (l : List Int) (i : Nat) (J : JS) (base : List (List UInt8)), J.names = base ++ (List.range' 0 i).map smN → (∀ j, j < 100 → smN j ∉ base) → i + l.length ≤ 100 → J.nodes.length ≤ 3000 + i → J.names.length ≤ 3000 + i → J.muxes.length = i →
    (∀ n ∈ l, 0 ≤ n ∧ n < c.nodes.l.length ∧ n < J.nodes.length ∧ innAt c n.toNat ≠ []) → okSt c en bef i l J
  | [], _, _, _, _, _, _, _, _, _, _ => trivial
  | n :: l, i, J, base, hn, hb, hi, h1, h2, h3, hs => by
    simp only [List.length_cons] at hi
    obtain ⟨s1, s2, s3, s4⟩ := hs n List.mem_cons_self
    have hlen : (stepSt c en bef i n J).nodes.length = J.nodes.length + 1 := by simp [stepSt, setIn]
    refine ⟨⟨by omega, by omega, by omega, ?_, by omega, s1, s2, s3, s4⟩, ?_⟩
    · rw [hn, List.mem_append]
      rintro (h | h)
      · exact hb i (by omega) h
      · obtain ⟨j, hj, e⟩ := List.mem_map.1 h
        simp at hj
        have := smN_inj (by omega) (by omega) e
        omega
    · refine okSt_ind c en bef l (i + 1) (stepSt c en bef i n J) base ?_ hb (by omega) (by omega) (by simp [stepSt]; omega) (by simp [stepSt]; omega) fun x hx => ?_
      · simp only [stepSt, hn, List.append_assoc]
        rw [List.range'_concat]
        simp
      · obtain ⟨a1, a2, a3, a4⟩ := hs x (List.mem_cons_of_mem _ hx)
        exact ⟨a1, a2, by omega, a4⟩
end Go.Lg

/- The plain law of ScansShorten. Conditions: none. -/
set_option linter.unusedSimpArgs false
set_option linter.unusedVariables false
set_option maxRecDepth 100000
namespace Go.Lg
open Go Go.Proofs
variable {Γ : Tables}

theorem nodes5_16 {x : CD} (hx : CDOk x) : (nodes5 x).length ≤ 16 := by
  have m4 : 0 ≤ x.i.tmod 4 ∧ x.i.tmod 4 < 4 := tmod_lt (n := 4) hx.i.1 (by omega)
  have m3 : 0 ≤ x.f.tmod 3 ∧ x.f.tmod 3 < 3 := tmod_lt (n := 3) hx.f.1 (by omega)
  have l2 : (nodes2 x).length = (x.i.tmod 4 + 1).toNat + (x.f.tmod 3).toNat := by simp [nodes2, nodes1]
  have l3 : (nodes2 x).length ≤ (nodes3 x).length ∧ (nodes3 x).length ≤ 8 := by unfold nodes3; split <;> simp <;> omega
  have l4 : (nodes4 x).length = (nodes3 x).length + min 8 x.gates.l.length := by unfold nodes4; rw [gatesN_len]; simp
  have l5 : (nodes5 x).length = (nodes4 x).length := dataN_len
  omega

end Go.Lg

/- What Insert lays, plainly: the circuit. Conditions: none. -/
set_option linter.unusedSimpArgs false
set_option linter.unusedVariables false
set_option maxRecDepth 100000
namespace Go.Lg
open Go Go.Proofs

theorem getN_app {a b : List Nd} {q : Nat} (h : q < a.length) : (a ++ b).getD q Nd.d = a.getD q Nd.d := by
  rw [List.getD_eq_getElem?_getD, List.getElem?_append_left h, ← List.getD_eq_getElem?_getD]
theorem getN_app2 {a b : List Nd} {q : Nat} (h : a.length ≤ q) : (a ++ b).getD q Nd.d = b.getD (q - a.length) Nd.d := by
  rw [List.getD_eq_getElem?_getD, List.getElem?_append_right h, ← List.getD_eq_getElem?_getD]
theorem getN_set {a : List Nd} {j q : Nat} {v : Int} (h : j < a.length) : (setIn a j v).getD q Nd.d = if q = j then ⟨(a.getD j Nd.d).k, ⟨[v], some 1, some false⟩, (a.getD j Nd.d).mem, (a.getD j Nd.d).bit⟩ else a.getD q Nd.d := by
  unfold setIn
  rw [List.getD_eq_getElem?_getD, List.getElem?_set]
  by_cases e : j = q
  · subst e; simp [h]
  · rw [if_neg e, if_neg (fun h => e h.symm), ← List.getD_eq_getElem?_getD]

/-- Nodes, names and the list of the Mux nodes. -/
theorem goSt_eq (c : Cir) (en : Int) (bef : List (Int × Int)) : ∀ (l : List Int) (i : Nat) (J : JS), l.Nodup → (∀ n ∈ l, 0 ≤ n ∧ n < J.nodes.length) →
    (goSt c en bef i l J).nodes.length = J.nodes.length + l.length ∧ (goSt c en bef i l J).names = J.names ++ (List.range' i l.length).map smN ∧ (goSt c en bef i l J).muxes = J.muxes ++ insOf J.nodes.length l.length ∧
    (∀ q, q < J.nodes.length → (q : Int) ∉ l → (goSt c en bef i l J).nodes.getD q Nd.d = J.nodes.getD q Nd.d) ∧
    (∀ k, k < l.length → (goSt c en bef i l J).nodes.getD (l.getD k 0).toNat Nd.d = ⟨(J.nodes.getD (l.getD k 0).toNat Nd.d).k, ⟨[((J.nodes.length + k : Nat) : Int)], some 1, some false⟩, (J.nodes.getD (l.getD k 0).toNat Nd.d).mem, (J.nodes.getD (l.getD k 0).toNat Nd.d).bit⟩) ∧
    (∀ k, k < l.length → (goSt c en bef i l J).nodes.getD (J.nodes.length + k) Nd.d = muxN en (in0 c (l.getD k 0)) (befOf bef (l.getD k 0)))
  | [], i, J, _, _ => ⟨rfl, by simp [goSt], by simp [goSt, insOf], fun q _ _ => rfl, fun k h => by simp at h, fun k h => by simp at h⟩
  | n :: l, i, J, hnd, hs => by
    obtain ⟨hn1, hn2⟩ := List.nodup_cons.1 hnd
    obtain ⟨n0, n1⟩ := hs n List.mem_cons_self
    have hlen : (stepSt c en bef i n J).nodes.length = J.nodes.length + 1 := by simp [stepSt, setIn]
    obtain ⟨a1, a2, a3, a4, a5, a6⟩ := goSt_eq c en bef l (i + 1) (stepSt c en bef i n J) hn2 fun x hx => by
      have := hs x (List.mem_cons_of_mem _ hx)
      exact ⟨this.1, by omega⟩
    have hlt : n.toNat < (J.nodes ++ [muxN en (in0 c n) (befOf bef n)]).length := by simp; omega
    have hst : ∀ q, (stepSt c en bef i n J).nodes.getD q Nd.d = if q = n.toNat then ⟨(J.nodes.getD n.toNat Nd.d).k, ⟨[(J.nodes.length : Int)], some 1, some false⟩, (J.nodes.getD n.toNat Nd.d).mem, (J.nodes.getD n.toNat Nd.d).bit⟩ else (J.nodes ++ [muxN en (in0 c n) (befOf bef n)]).getD q Nd.d := fun q => by
      simp only [stepSt]
      rw [getN_set hlt, getN_app (by omega)]
    simp only [goSt]
    refine ⟨by rw [a1, hlen]; simp; omega, ?_, ?_, ?_, ?_, ?_⟩
    · rw [a2]; simp [stepSt, List.range'_succ]
    · rw [a3, hlen]; simp only [stepSt, List.append_assoc, List.length_cons, insOf_succ]; rfl
    · intro q hq hm
      rw [a4 q (by omega) fun h => hm (List.mem_cons_of_mem _ h), hst, if_neg (fun e => hm (by have : (q : Int) = n := by omega
                                                                                               rw [this]; exact List.mem_cons_self)), getN_app hq]
    · intro k hk
      cases k with
      | zero =>
        simp only [List.getD_cons_zero]
        rw [a4 n.toNat (by omega) fun h => hn1 (by have : ((n.toNat : Nat) : Int) = n := by omega
                                                   rw [this] at h; exact h), hst, if_pos rfl]
        rfl
      | succ k =>
        simp only [List.getD_cons_succ]
        have hk' : k < l.length := by simpa using hk
        have hin : l.getD k 0 ∈ l := by rw [getD_eq hk']; exact List.getElem_mem _
        have hb := hs _ (List.mem_cons_of_mem _ hin)
        have hne : ¬ (l.getD k 0).toNat = n.toNat := fun e => hn1 (by have : l.getD k 0 = n := by omega
                                                                      rw [← this]; exact hin)
        rw [a5 k hk', hst, if_neg hne, getN_app (by omega), hlen]
        congr 4
        omega
    · intro k hk
      cases k with
      | zero =>
        simp only [List.getD_cons_zero, Nat.add_zero]
        rw [a4 J.nodes.length (by omega) fun h => by have := (hs _ (List.mem_cons_of_mem _ h)).2; omega, hst, if_neg (by omega), getN_app2 (Nat.le_refl _)]
        simp
      | succ k =>
        simp only [List.getD_cons_succ]
        have hk' : k < l.length := by simpa using hk
        rw [← a6 k hk', hlen]
        congr 1
        omega
end Go.Lg

/- The functions of the gates over 0, 1, X and Z. Conditions: none. -/
set_option linter.unusedSimpArgs false
set_option linter.unusedVariables false
set_option maxRecDepth 100000
namespace Go.Lg
open Go Go.Proofs

/-- Below, for values of nets. -/
def Blw (a b : Int) : Prop := a = b ∨ a = 2
def BlwL (l m : List Int) : Prop := l.length = m.length ∧ ∀ i, Blw (l.getD i 0) (m.getD i 0)

theorem Blw.refl (a : Int) : Blw a a := .inl rfl
theorem BlwL.cons {a b : Int} {l m : List Int} (h : BlwL (a :: l) (b :: m)) : Blw a b ∧ BlwL l m :=
  ⟨by simpa using h.2 0, by simpa using h.1, fun i => by simpa using h.2 (i + 1)⟩

end Go.Lg

/- Levels grow along the pins of gates. Conditions: none. -/
set_option linter.unusedSimpArgs false
set_option linter.unusedVariables false
set_option maxRecDepth 100000
namespace Go.Lg
open Go Go.Proofs

theorem sum_count_cons (p : Int) (L : List Int) : ∀ R : List Int, (R.map fun x => (p :: L).count x).sum = (R.map fun x => L.count x).sum + R.count p
  | [] => rfl
  | a :: R => by
    simp only [List.map_cons, List.sum_cons]
    rw [sum_count_cons p L R, List.count_cons, List.count_cons]
    by_cases hpa : p = a
    · subst hpa; simp only [BEq.rfl, if_true]; omega
    · have h1 : (p == a) = false := by simpa using hpa
      have h2 : (a == p) = false := by simpa using fun e => hpa e.symm
      rw [h1, h2]; simp only [Bool.false_eq_true, if_false]; omega
theorem sum_count_le : ∀ (L R : List Int), R.Nodup → (R.map fun x => L.count x).sum ≤ L.length
  | [], R, _ => by
    have : ∀ R : List Int, (R.map fun x => ([] : List Int).count x).sum = 0 := by
      intro R
      induction R with
      | nil => rfl
      | cons a R ih => rw [List.map_cons, List.sum_cons, ih, List.count_nil]
    rw [this]; omega
  | p :: L, R, h => by
    have ih := sum_count_le L R h
    have h1 := List.nodup_iff_count.1 h p
    rw [sum_count_cons]
    simp only [List.length_cons]; omega

theorem foldO {N n : Nat} {c : Cir} : ∀ {r : Row} {s : LS}, s.out.length = N → s.left.length = N → (∀ p ∈ r, ∃ i : Nat, i < N ∧ p.1 = i) → (∀ i : Nat, i < N → combB (kindAt c i) = true → (cntR i r : Int) ≤ s.left.getD i 0) → s.left.getD n 0 ≤ 0 →
    (∀ i : Nat, i < N → s.left.getD i 0 ≤ 0 → (r.foldl (stepL c n) s).out.getD i 0 = s.out.getD i 0) ∧ (∀ i : Nat, i < N → s.out.getD i 0 ≤ (r.foldl (stepL c n) s).out.getD i 0) ∧ (∀ i : Nat, i < N → combB (kindAt c i) = true → 0 < cntR i r → s.out.getD n 0 + 1 ≤ (r.foldl (stepL c n) s).out.getD i 0)
  | [], s, ho, hl, _, _, _ => ⟨fun _ _ _ => rfl, fun _ _ => Int.le_refl _, fun i _ _ h => by simp [cntR] at h⟩
  | (p1, p2) :: r, s, ho, hl, hr, hc, hn => by
    obtain ⟨j, hj, he⟩ := hr (p1, p2) List.mem_cons_self
    simp only at he; subst he
    have cnt : ∀ i : Nat, cntR i ((↑j, p2) :: r) = cntR i r + if j = i then 1 else 0 := fun i => by
      by_cases hij : j = i
      · subst hij; simp [cntR]
      · have : ¬ ((j : Int) = i) := by omega
        simp [cntR, hij, this]
    simp only [List.foldl_cons]
    by_cases hcj : combB (kindAt c j) = true
    case neg =>
      have hs : stepL c n s (↑j, p2) = s := by unfold stepL; simp [hcj]
      rw [hs]
      obtain ⟨a1, a2, a3⟩ := foldO (n := n) (c := c) (r := r) ho hl (fun p hp => hr p (List.mem_cons_of_mem _ hp)) (fun i hi hci => by have := hc i hi hci; rw [cnt] at this; omega) hn
      refine ⟨a1, a2, fun i hi hci h => a3 i hi hci ?_⟩
      rw [cnt] at h
      have : ¬ j = i := fun e => hcj (e ▸ hci)
      simpa [this] using h
    have hj1 := hc j hj hcj
    rw [cnt, if_pos rfl] at hj1
    have hnj : ¬ n = j := fun e => by subst e; omega
    have so : ∀ i : Nat, (stepL c n s (↑j, p2)).out.getD i 0 = if i = j then max (s.out.getD j 0) (s.out.getD n 0 + 1) else s.out.getD i 0 := fun i => by
      unfold stepL
      simp only [Int.toNat_natCast, hcj, if_true]
      rw [getD_set (by omega)]
    have sl : ∀ i : Nat, (stepL c n s (↑j, p2)).left.getD i 0 = if i = j then s.left.getD j 0 - 1 else s.left.getD i 0 := fun i => by
      unfold stepL
      simp only [Int.toNat_natCast, hcj, if_true]
      rw [getD_set (by omega)]
    have lo : (stepL c n s (↑j, p2)).out.length = N := by unfold stepL; simp [hcj, ho]
    have ll : (stepL c n s (↑j, p2)).left.length = N := by unfold stepL; simp [hcj, hl]
    obtain ⟨a1, a2, a3⟩ := foldO (n := n) (c := c) (r := r) lo ll (fun p hp => hr p (List.mem_cons_of_mem _ hp)) (fun i hi hci => by
      have := hc i hi hci
      rw [cnt] at this
      rw [sl]
      by_cases hij : i = j
      · subst hij; simp only [if_true] at this ⊢; omega
      · have h' : ¬ j = i := fun e => hij e.symm
        simp only [hij, h', if_false] at this ⊢; omega) (by rw [sl, if_neg hnj]; exact hn)
    refine ⟨fun i hi h0 => ?_, fun i hi => ?_, fun i hi hci h => ?_⟩
    · have hij : ¬ i = j := fun e => by subst e; omega
      rw [a1 i hi (by rw [sl, if_neg hij]; exact h0), so, if_neg hij]
    · have := a2 i hi
      rw [so] at this
      split at this
      · rename_i e; subst e; omega
      · exact this
    · by_cases hij : i = j
      · subst hij
        have := a2 i hi
        rw [so, if_pos rfl] at this
        omega
      · have h' : ¬ j = i := fun e => hij e.symm
        rw [cnt, if_neg h'] at h
        have := a3 i hi hci (by omega)
        rw [so, if_neg hnj] at this
        exact this

def KI (c : Cir) (d : Nat) (s : LS) : Prop := ∀ i : Nat, i < c.nodes.l.length → combB (kindAt c i) = true → ∀ q : Nat, (q : Int) ∈ innAt c i → (q : Int) ∈ s.rdy.take d → s.out.getD q 0 + 1 ≤ s.out.getD i 0

theorem KI.next {c : Cir} (hp : ∀ x ∈ c.nodes.l, ∀ p ∈ x.inn.l, 0 ≤ p ∧ p < c.nodes.l.length) {d : Nat} {s : LS} (h : JI c d s) (hk : KI c d s) (hd : d < s.rdy.length) : KI c (d + 1) ((rowOf c (s.rdy.getD d 0).toNat).foldl (stepL c (s.rdy.getD d 0).toNat) s) := by
  obtain ⟨M, hli⟩ := h.li
  have hg : s.rdy.getD d 0 = s.rdy[d] := by simp [hd]
  rw [hg]
  obtain ⟨n, hn, he, hn0⟩ := hli.rd _ (List.getElem_mem hd)
  rw [he]
  simp only [Int.toNat_natCast]
  have hr : ∀ p ∈ rowOf c n, ∃ i : Nat, i < c.nodes.l.length ∧ p.1 = i := by
    intro p hpp
    have hl := fanRows_len c
    have e : rowOf c n = (fanRows c)[n]'(by omega) := by simp [rowOf, List.getD, List.getElem?_eq_getElem (show n < (fanRows c).length by omega)]
    rw [e] at hpp
    exact fanRows_in c _ (List.getElem_mem _) p hpp
  have htk : s.rdy.take (d + 1) = s.rdy.take d ++ [(n : Int)] := by
    rw [List.take_add_one, List.getElem?_eq_getElem hd, he]; rfl
  have hnd : (s.rdy.take (d + 1)).Nodup := hli.nd.sublist (List.take_sublist _ _)
  have hcnt : ∀ i : Nat, i < c.nodes.l.length → combB (kindAt c i) = true → (cntR i (rowOf c n) : Int) ≤ s.left.getD i 0 := by
    intro i hi hci
    have := sum_count_le (innAt c i) _ hnd
    rw [htk] at this
    simp only [List.map_append, List.sum_append, List.map_cons, List.map_nil, List.sum_cons, List.sum_nil] at this
    rw [h.a i hi, left_at c hi, rowOf_cnt c hp i n hi]
    simp only [hci, if_true]
    omega
  obtain ⟨⟨e, h1⟩, _, _, _⟩ := foldL_inv (M := M) (c := c) (n := n) (r := rowOf c n) hli.ll hr h.b
  obtain ⟨a1, a2, a3⟩ := foldO (n := n) (c := c) hli.lo hli.ll hr hcnt hn0
  intro i hi hci q hq hqt
  rw [h1, List.take_append_of_le_length (by omega), htk] at hqt
  rcases List.mem_append.1 hqt with hqt | hqt
  · obtain ⟨q', hq1, hq2, hq3⟩ := hli.rd _ (List.mem_of_mem_take hqt)
    have : q = q' := by omega
    subst this
    rw [a1 q hq1 hq3]
    have h4 := hk i hi hci q hq hqt
    have h5 := a2 i hi
    omega
  · have : q = n := by simp at hqt; omega
    subst this
    rw [a1 q hn hn0]
    refine a3 i hi hci ?_
    rw [rowOf_cnt c hp i q hi]
    exact List.count_pos_iff.2 hq

theorem shape_in {c : Cir} (h : shapeErr c = 0) : ∀ x ∈ c.nodes.l, ∀ p ∈ x.inn.l, 0 ≤ p ∧ p < c.nodes.l.length := by
  intro x hx
  have h4 := (shape_facts h).2.2.1 x hx
  unfold nodeErr at h4
  split at h4
  · cases h4
  split at h4
  · cases h4
  split at h4
  · cases h4
  rename_i h6
  exact any_out (by simpa using h6)

end Go.Lg

/- Orders by levels, and the values of all nets. Conditions: none. -/
set_option linter.unusedSimpArgs false
set_option linter.unusedVariables false
set_option maxRecDepth 100000
namespace Go.Lg
open Go Go.Proofs

def rng (n : Nat) : List Int := (List.range n).map fun i : Nat => (i : Int)
/-- How many nodes of a kind stand before a node. -/
def rankK (k : Int) (c : Cir) (i : Nat) : Nat := (ofL [k] (c.nodes.l.take i) 0).length
theorem ofL_split {k : Int} {c : Cir} {i : Nat} (hi : i < c.nodes.l.length) (hk : kindAt c i = k) : ofL [k] c.nodes.l 0 = ofL [k] (c.nodes.l.take i) 0 ++ (i : Int) :: ofL [k] (c.nodes.l.drop (i + 1)) (i + 1) := by
  have e : c.nodes.l = c.nodes.l.take i ++ c.nodes.l[i] :: c.nodes.l.drop (i + 1) := by rw [List.getElem_cons_drop, List.take_append_drop]
  have hk' : c.nodes.l[i].k = k := by simpa [kindAt, hi] using hk
  have hm : (c.nodes.l.take i).length = i := by rw [List.length_take]; omega
  conv => lhs; rw [e, ofL_app, hm]
  simp [ofL, hk']
theorem rank_at {k : Int} {c : Cir} {i : Nat} (hi : i < c.nodes.l.length) (hk : kindAt c i = k) : rankK k c i < (ofL [k] c.nodes.l 0).length ∧ (ofL [k] c.nodes.l 0).getD (rankK k c i) 0 = i := by
  have e := ofL_split hi hk
  constructor
  · rw [e]; simp [rankK]
  · rw [e]; simp [rankK, List.getD_eq_getElem?_getD]
theorem ofL_in {k : Int} {c : Cir} : ∀ n ∈ ofL [k] c.nodes.l 0, 0 ≤ n ∧ n < c.nodes.l.length ∧ kindAt c n.toNat = k := by
  intro n hn
  obtain ⟨a, b, h⟩ := ofL_kind [k] c.nodes.l 0 n hn
  refine ⟨by omega, by omega, ?_⟩
  simpa [kindAt] using h
theorem mem_ofL {k : Int} {c : Cir} {i : Nat} (hi : i < c.nodes.l.length) : (i : Int) ∈ ofL [k] c.nodes.l 0 ↔ kindAt c i = k := by
  constructor
  · intro h
    have := (ofL_in _ h).2.2
    simpa using this
  · intro h
    rw [ofL_split hi h]
    simp

end Go.Lg

/- What Insert lays, plainly: a valid circuit. Conditions: none. -/
set_option linter.unusedSimpArgs false
set_option linter.unusedVariables false
set_option maxRecDepth 100000
namespace Go.Lg
open Go Go.Proofs

theorem valid_of {c : Cir} (hg : GNs false c.nodes.l) (hm : c.mems.l = []) (hn : c.nodes.l.length ≤ 16384) (ho : c.outs.l.length ≤ 16384 ∧ ∀ p ∈ c.outs.l, 0 ≤ p ∧ p < c.nodes.l.length) (hnm : c.names.l.length = c.nodes.l.length) (hne : namesErr [] c.names.l = 0) : levErr c = 0 := by
  have hout : ∀ n, 0 ≤ n ∧ n < (c.nodes.l.length : Int) → outP c n = false := fun n h => by simp [outP]; omega
  have hnode : ∀ y ∈ c.nodes.l, nodeErr c y = 0 := by
    intro y hy
    obtain ⟨i, hi, rfl⟩ := List.getElem_of_mem hy
    have hn := hg i hi
    unfold nodeErr
    rw [if_neg (by have := hn.k; omega), if_neg (by have := hn.f; omega)]
    have h1 : c.nodes.l[i].inn.l.any (outP c) = false := List.any_eq_false.2 fun p hp => by rw [hout p (hn.inn p hp)]; simp
    rw [h1]
    have h2 : ¬ (c.nodes.l[i].k = 13 ∧ c.nodes.l[i].inn.l.any (notTri c) = true) := by
      rintro ⟨hk, ha⟩
      obtain ⟨p, hp, hq⟩ := List.any_eq_true.1 ha
      have := hn.bus hk p hp
      simp only [notTri, decide_eq_true_eq] at hq
      exact hq this
    rw [if_neg (by simp), if_neg h2]
    have h3 : bitOk c c.nodes.l[i] = true := by
      unfold bitOk
      by_cases hk : c.nodes.l[i].k = 15
      · have := (hn.mm.2 hk).1
        cases this
      · have := hn.mm.1 hk
        simp [hk, this]
    rw [h3]; simp
  have hs : shapeErr c = 0 := by
    unfold shapeErr
    rw [if_neg (by rw [hm]; simp; omega), if_neg (by simp [hnm]), if_neg (by rw [firstErr_all hnode]; simp), if_neg (by rw [hne]; simp), if_neg (by rw [hm]; simp [firstErr])]
    have : c.outs.l.any (outP c) = false := List.any_eq_false.2 fun p hp => by rw [hout p (ho.2 p hp)]; simp
    rw [this]; rfl
  have hd := levels_done c (shape_facts hs).2.1 (shape_in hs) (by
    intro i hi hc p hp
    have e : c.nodes.l.getD i Nd.d = c.nodes.l[i] := by simp [List.getD_eq_getElem?_getD, hi]
    simp only [kindAt, innAt, e] at hc hp
    exact (hg i hi).top (by simpa [combB] using hc) p hp)
  unfold levErr
  rw [if_neg (by simp [hs]), if_neg hd]

/-- A circuit without memory, and complete chains. -/
structure ScOk (c : Cir) (ch : List (Sl Int)) : Prop where
  ok : COk c
  cp : CpOk c
  good : GNs false c.nodes.l
  n1 : 1 ≤ c.nodes.l.length
  n2 : c.nodes.l.length ≤ 16
  nms : c.names.l = (List.range' 0 c.nodes.l.length).map nameL
  outs : c.outs.l.length ≤ 4 ∧ ∀ p ∈ c.outs.l, 0 ≤ p ∧ p < c.nodes.l.length
  perm : (elems ch).Perm (states c)
  ne : ∀ s ∈ ch, s.l ≠ [] ∧ s.nl ≠ some true

theorem nd_cases {B : Bool} {ns : List Nd} (h : GNs B ns) {i : Nat} (hi : i < ns.length) : NG B ns i (ns.getD i Nd.d) := by
  have := h i hi
  rwa [show ns.getD i Nd.d = ns[i] by simp [List.getD_eq_getElem?_getD, hi]]

/-! The nodes are lists that tell whether they are nil. -/
def SNs (ns : List Nd) : Prop := ∀ x ∈ ns, SlOk x.inn
theorem slok_none {l : List Int} (h : l ≠ []) (h2 : l.length ≤ 1000000) : SlOk (⟨l, none, none⟩ : Sl Int) := ⟨(fun h => nomatch h), (fun _ => h), h2⟩
theorem slok_some {l : List Int} {c : Option Nat} (h2 : l.length ≤ 1000000) : SlOk (⟨l, c, some false⟩ : Sl Int) := ⟨(fun h => nomatch h), (fun h => nomatch h), h2⟩
theorem slok_nil {c : Option Nat} : SlOk (⟨[], c, some true⟩ : Sl Int) := ⟨(fun _ => rfl), (fun h => nomatch h), by simp⟩
theorem sns_gate {bus : Bool} {g : Gd} {ns : List Nd} : SlOk (gateN bus g ns).inn := by
  unfold gateN gateT
  generalize (if bus = true then g.k.tmod 13 else g.k.tmod 9) = kk
  by_cases h1 : kk < 6
  · simp only [h1, if_true]
    split
    · exact slok_none (by simp) (by simp)
    · exact slok_none (by simp) (by simp)
  · simp only [h1, if_false]
    split
    · exact slok_none (by simp) (by simp)
    split
    · exact slok_none (by simp) (by simp)
    split
    · exact slok_none (by simp) (by simp)
    split
    · by_cases h2 : 1 < (triL ns).length
      · simp only [h2, if_true]
        exact slok_none (by simp) (by simp)
      · simp only [h2, if_false]
        exact slok_none (by simp) (by simp)
    split
    · exact slok_nil
    · exact slok_none (by simp) (by simp)
theorem sns_gates {bus : Bool} : ∀ {l : List Gd} {ns : List Nd}, SNs ns → SNs (gatesN bus l ns)
  | [], ns, h => h
  | g :: l, ns, h => by
    simp only [gatesN]
    refine sns_gates fun x hx => ?_
    rcases List.mem_append.1 hx with hx | hx
    · exact h x hx
    · simp at hx; subst hx; exact sns_gate
theorem sns_data {x : CD} {first : Nat} : ∀ {k i : Nat} {ns : List Nd}, SNs ns → SNs (dataN x first k i ns)
  | 0, _, _, h => h
  | k + 1, i, ns, h => by
    simp only [dataN]
    refine sns_data fun y hy => ?_
    rcases List.mem_or_eq_of_mem_set hy with hy | rfl
    · exact h y hy
    · exact slok_some (by simp)
theorem sns_nodes {x : CD} (hm : x.mem = false) : SNs (nodes5 x) := by
  unfold nodes5 nodes4 nodes3
  rw [hm]
  refine sns_data (sns_gates fun y hy => ?_)
  simp only [Bool.false_eq_true, if_false, nodes2, nodes1, List.mem_append, List.mem_replicate] at hy
  rcases hy with ⟨_, rfl⟩ | ⟨_, rfl⟩
  · exact slok_nil
  · exact slok_some (by simp)

theorem case_scok {y : CaseD} (hy : CaseOk y) : ScOk (caseC y) (caseCh y) := by
  have hx := noMemX_ok hy.x
  have hN : (caseC y).nodes.l = nodes5 (noMemX y.x) := rfl
  have hl4 := nodes4_len hx
  have h54 : (nodes5 (noMemX y.x)).length = (nodes4 (noMemX y.x)).length := dataN_len
  have h16 : (nodes5 (noMemX y.x)).length ≤ 16 := nodes5_16 hx
  have hpe := permS_perm (min (states (caseC y)).length y.keys.l.length) 0 y.keys.l (states (caseC y)) (by omega)
  have hmods : ∀ b, Byt b → 0 ≤ b.tmod (nodes4 (noMemX y.x)).length ∧ b.tmod (nodes4 (noMemX y.x)).length < ((nodes5 (noMemX y.x)).length : Int) := fun b hb => by
    have := tmod_lt (n := (nodes4 (noMemX y.x)).length) hb.1 (by omega); omega
  have hout : ∀ p ∈ (caseC y).outs.l, 0 ≤ p ∧ p < ((caseC y).nodes.l.length : Int) := fun p hp => by
    rw [hN]
    simp only [caseC, ofC, List.mem_append, List.mem_map, List.mem_singleton] at hp
    rcases hp with ⟨b, hb, rfl⟩ | rfl
    · exact hmods b (hx.outs b (List.mem_of_mem_take hb))
    · omega
  have hol : (caseC y).outs.l.length ≤ 4 := by simp [caseC, ofC]; omega
  have hne : (nodes5 (noMemX y.x)) ≠ [] := List.length_pos_iff.1 (by omega)
  have hnl : (caseC y).names.l.length = (nodes4 (noMemX y.x)).length := by simp [caseC, ofC]
  refine ⟨ofC_ok hx, ⟨hne, by rw [hN]; omega, rfl, List.length_pos_iff.1 (by omega), by omega, rfl, rfl, ?_, slok_none (by simp) (by simp; omega)⟩, nodes5_good hx, by rw [hN]; omega, by rw [hN]; omega, ?_, ⟨hol, hout⟩, ?_, cutS_ne _ _⟩
  · exact sns_nodes (x := noMemX y.x) rfl
  · show (List.range' 0 (nodes4 (noMemX y.x)).length).map nameL = (List.range' 0 (nodes5 (noMemX y.x)).length).map nameL
    rw [h54]
  · unfold caseCh; rw [cutS_elems]; exact hpe
end Go.Lg

/- What Insert lays, plainly: the parts of the circuit, and that it is valid. Conditions: none. -/
set_option linter.unusedSimpArgs false
set_option linter.unusedVariables false
set_option maxRecDepth 100000
namespace Go.Lg
open Go Go.Proofs

theorem prevs_val : ∀ (l : List Int) (a : Int), ∀ p ∈ prevs a l, p.2 = a ∨ p.2 ∈ l
  | [], a, p, h => by cases h
  | n :: l, a, p, h => by
    simp only [prevs, List.mem_cons] at h
    rcases h with rfl | h
    · exact .inl rfl
    · rcases prevs_val l n p h with e | e
      · exact .inr (by rw [e]; exact List.mem_cons_self)
      · exact .inr (List.mem_cons_of_mem _ e)
theorem befL_val : ∀ (l : List (Sl Int)) (b : Int), ∀ p ∈ befL b l, (b ≤ p.2 ∧ p.2 < b + l.length) ∨ p.2 ∈ elems l
  | [], b, p, h => by cases h
  | s :: l, b, p, h => by
    simp only [befL, List.mem_append] at h
    rw [elems_cons]
    rcases h with h | h
    · rcases prevs_val s.l b p h with e | e
      · exact .inl ⟨by omega, by simp; omega⟩
      · exact .inr (List.mem_append_left _ e)
    · rcases befL_val l (b + 1) p h with e | e
      · exact .inl ⟨by omega, by simp; omega⟩
      · exact .inr (List.mem_append_right _ e)
theorem befOf_val (l : List (Int × Int)) (n : Int) : befOf l n = 0 ∨ ∃ p ∈ l, befOf l n = p.2 := by
  unfold befOf
  cases h : l.find? (fun p => p.1 == n) with
  | none => exact .inl rfl
  | some p => exact .inr ⟨p, List.mem_of_find?_eq_some h, rfl⟩

def m0 (c : Cir) (ch : List (Sl Int)) : Nat := c.nodes.l.length + 1 + ch.length

theorem getN_map {l : List Nd} {q : Nat} (h : q < l.length) : (l.map cpNd).getD q Nd.d = cpNd (l.getD q Nd.d) := by
  simp [List.getD_eq_getElem?_getD, h]

/-- What is known of the circuit with scan chains. -/
structure ScF (c : Cir) (ch : List (Sl Int)) : Prop where
  chl : ch.length ≤ 16
  stl : (states c).length ≤ 16
  sn : (scS c ch).nodes = c.nodes.l.map cpNd ++ [inpN] ++ List.replicate ch.length inpN
  snl : (scS c ch).nodes.length = m0 c ch
  snm : (scS c ch).names = c.names.l ++ [seN] ++ (List.range' 0 ch.length).map siN
  cl : (scS c ch).cl = ch.map (fun s => ⟨s.l, some s.l.length, none⟩)
  ins : (scS c ch).ins = insOf (c.nodes.l.length + 1) ch.length
  bef : (scS c ch).bef = befL (c.nodes.l.length + 1 : Nat) ch
  outs : (scS c ch).outs = c.outs.l ++ lastL (c.nodes.l.length + 1 : Nat) ch
  len : (scJ c ch).nodes.length = m0 c ch + (states c).length
  nm : (scJ c ch).names = c.names.l ++ [seN] ++ (List.range' 0 ch.length).map siN ++ (List.range' 0 (states c).length).map smN
  mux : (scJ c ch).muxes = insOf (m0 c ch) (states c).length
  old : ∀ q, q < c.nodes.l.length → kindAt c q ≠ 14 → (scJ c ch).nodes.getD q Nd.d = cpNd (c.nodes.l.getD q Nd.d)
  dff : ∀ q, q < c.nodes.l.length → kindAt c q = 14 → (scJ c ch).nodes.getD q Nd.d = ⟨14, ⟨[((m0 c ch + rankK 14 c q : Nat) : Int)], some 1, some false⟩, (c.nodes.l.getD q Nd.d).mem, (c.nodes.l.getD q Nd.d).bit⟩
  inp : ∀ q, c.nodes.l.length ≤ q → q < m0 c ch → (scJ c ch).nodes.getD q Nd.d = inpN
  mx : ∀ k, k < (states c).length → (scJ c ch).nodes.getD (m0 c ch + k) Nd.d = muxN c.nodes.l.length (in0 c ((states c).getD k 0)) (befOf (befL (c.nodes.l.length + 1 : Nat) ch) ((states c).getD k 0))

theorem scF {c : Cir} {ch : List (Sl Int)} (h : ScOk c ch) : ScF c ch := by
  have hsl : (states c).length ≤ c.nodes.l.length := ofL_len _ _ _
  have hn2 := h.n2
  have hle := elems_le ch fun s hs => (h.ne s hs).1
  have hpl := h.perm.length_eq
  have hS : scS c ch = _ := goCh_eq ch 0 (scS0 c)
  have s1 : (scS c ch).nodes = c.nodes.l.map cpNd ++ [inpN] ++ List.replicate ch.length inpN := by rw [hS]; rfl
  have s2 : (scS c ch).nodes.length = m0 c ch := by rw [s1]; simp [m0]; omega
  have s3 : (scS c ch).names = c.names.l ++ [seN] ++ (List.range' 0 ch.length).map siN := by rw [hS]; rfl
  have l0 : (scS0 c).nodes.length = c.nodes.l.length + 1 := by simp [scS0]
  have s4 : (scS c ch).bef = befL (c.nodes.l.length + 1 : Nat) ch := by
    rw [hS]; show ([] : List (Int × Int)) ++ befL ((scS0 c).nodes.length) ch = _
    rw [l0]; rfl
  have hnd : (states c).Nodup := (ofL_nodup [14] c.nodes.l 0).2
  have hin : ∀ n ∈ states c, 0 ≤ n ∧ n < (scS c ch).nodes.length := fun n hn => by
    have := ofL_in (k := 14) (c := c) n hn
    rw [s2]; unfold m0; omega
  obtain ⟨a1, a2, a3, a4, a5, a6⟩ := goSt_eq c c.nodes.l.length (scS c ch).bef (states c) 0 ⟨(scS c ch).nodes, (scS c ch).names, []⟩ hnd hin
  have hJ : scJ c ch = goSt c c.nodes.l.length (scS c ch).bef 0 (states c) ⟨(scS c ch).nodes, (scS c ch).names, []⟩ := rfl
  rw [← hJ] at a1 a2 a3 a4 a5 a6
  simp only [s2] at a1 a3 a4 a5 a6
  have hg : ∀ q, q < c.nodes.l.length → (scS c ch).nodes.getD q Nd.d = cpNd (c.nodes.l.getD q Nd.d) := fun q hq => by
    rw [s1, List.append_assoc, getN_app (by simpa using hq), getN_map hq]
  refine ⟨by omega, by omega, s1, s2, s3, by rw [hS]; rfl, ?_, s4, ?_, a1, by rw [a2, s3], by rw [a3]; rfl, ?_, ?_, ?_, ?_⟩
  · rw [hS]; show ([] : List Int) ++ insOf (scS0 c).nodes.length ch.length = _
    rw [l0]; rfl
  · rw [hS]; show c.outs.l ++ lastL ((scS0 c).nodes.length) ch = _
    rw [l0]
  · intro q hq hk
    rw [a4 q (by unfold m0; omega) fun hm => hk ((mem_ofL hq).1 hm), hg q hq]
  · intro q hq hk
    obtain ⟨r1, r2⟩ := rank_at hq hk
    have := a5 (rankK 14 c q) r1
    have e : (states c).getD (rankK 14 c q) 0 = (q : Int) := r2
    rw [e] at this
    simp only [Int.toNat_natCast] at this
    rw [this, hg q hq]
    have hk' : (c.nodes.l.getD q Nd.d).k = 14 := hk
    simp only [cpNd, hk']
  · intro q h1 h2
    rw [a4 q h2 fun hm => by have := (ofL_in (k := 14) (c := c) _ hm).2.1; omega]
    rw [s1, List.append_assoc, getN_app2 (by simpa using h1)]
    simp only [List.length_map]
    have h3 : q - c.nodes.l.length < ([inpN] ++ List.replicate ch.length inpN).length := by simp; unfold m0 at h2; omega
    have : ∀ x ∈ [inpN] ++ List.replicate ch.length inpN, x = inpN := fun x hx => by
      rcases List.mem_append.1 hx with hx | hx
      · simpa using hx
      · exact (List.mem_replicate.1 hx).2
    rw [List.getD_eq_getElem?_getD, List.getElem?_eq_getElem h3]
    exact this _ (List.getElem_mem h3)
  · intro k hk
    rw [← s4]
    exact a6 k hk
end Go.Lg

/- What Insert lays, plainly: the circuit is valid, Insert may be called. Conditions: none. -/
set_option linter.unusedSimpArgs false
set_option linter.unusedVariables false
set_option maxRecDepth 100000
namespace Go.Lg
open Go Go.Proofs

variable {c : Cir} {ch : List (Sl Int)}

theorem bef_rng (h : ScOk c ch) (n : Int) : 0 ≤ befOf (befL (c.nodes.l.length + 1 : Nat) ch) n ∧ befOf (befL (c.nodes.l.length + 1 : Nat) ch) n < m0 c ch := by
  have hf := scF h
  unfold m0
  rcases befOf_val (befL (c.nodes.l.length + 1 : Nat) ch) n with e | ⟨p, hp, e⟩
  · rw [e]; omega
  · rw [e]
    rcases befL_val ch _ p hp with e2 | e2
    · omega
    · have := ofL_in (k := 14) (c := c) _ (h.perm.mem_iff.1 e2)
      omega

theorem st_inn (h : ScOk c ch) {n : Int} (hn : n ∈ states c) : ∃ v, innAt c n.toNat = [v] ∧ 0 ≤ v ∧ v < c.nodes.l.length ∧ in0 c n = v := by
  obtain ⟨n0, n1, nk⟩ := ofL_in (k := 14) (c := c) n hn
  have hg := nd_cases h.good (i := n.toNat) (by omega)
  have hk : (c.nodes.l.getD n.toNat Nd.d).k = 14 := nk
  have hf := hg.f
  rw [hk, show fan 14 = (1, 1) by rfl] at hf
  have hi : innAt c n.toNat = (c.nodes.l.getD n.toNat Nd.d).inn.l := rfl
  rw [← hi] at hf
  have hr := hg.inn
  rw [← hi] at hr
  match hl : innAt c n.toNat with
  | [] => rw [hl] at hf; simp at hf
  | [v] =>
    rw [hl] at hr
    have := hr v (by simp)
    exact ⟨v, rfl, this.1, this.2, by simp [in0, hl]⟩
  | _ :: _ :: _ => rw [hl] at hf; simp at hf; omega

theorem sc_kind (h : ScOk c ch) {q : Nat} (hq : q < c.nodes.l.length) : ((scJ c ch).nodes.getD q Nd.d).k = kindAt c q := by
  have hf := scF h
  by_cases hk : kindAt c q = 14
  · rw [hf.dff q hq hk]; exact hk.symm
  · rw [hf.old q hq hk]; rfl

theorem sc_good (h : ScOk c ch) : GNs false (scJ c ch).nodes := by
  have hf := scF h
  intro q hq
  have hql := hf.len
  have e : (scJ c ch).nodes[q] = (scJ c ch).nodes.getD q Nd.d := by simp [List.getD_eq_getElem?_getD, hq]
  rw [e]
  by_cases h1 : q < c.nodes.l.length
  · have hg := nd_cases h.good h1
    by_cases hk : kindAt c q = 14
    · obtain ⟨r1, r2⟩ := rank_at h1 hk
      have hk' : (c.nodes.l.getD q Nd.d).k = 14 := hk
      have hmm := hg.mm
      rw [hk'] at hmm
      have r1' : rankK 14 c q < (states c).length := r1
      rw [hf.dff q h1 hk]
      refine ⟨by simp, by simp [show fan 14 = (1, 1) by rfl], ?_, fun h => by simp at h, fun h => by simp at h, hmm⟩
      intro p hp
      simp at hp
      subst hp
      rw [hql]; omega
    · rw [hf.old q h1 hk]
      refine ⟨hg.k, hg.f, fun p hp => ?_, hg.top, fun hb p hp => ?_, hg.mm⟩
      · have := hg.inn p hp; rw [hql]; unfold m0; omega
      · have hr := hg.inn p hp
        rw [sc_kind h (by omega)]
        exact hg.bus hb p hp
  · by_cases h2 : q < m0 c ch
    · rw [hf.inp q (by omega) h2]
      exact ng_inp
    · obtain ⟨k, rfl⟩ : ∃ k, q = m0 c ch + k := ⟨q - m0 c ch, by omega⟩
      have hkl : k < (states c).length := by omega
      rw [hf.mx k hkl]
      have hm : (states c).getD k 0 ∈ states c := by rw [getD_eq hkl]; exact List.getElem_mem _
      obtain ⟨v, hv, v0, v1, v2⟩ := st_inn h hm
      have hb := bef_rng h ((states c).getD k 0)
      rw [v2]
      have hm0 : c.nodes.l.length < m0 c ch := by unfold m0; omega
      refine ⟨by simp [muxN], by simp [muxN, show fan 11 = (3, 3) by rfl], ?_, ?_, fun h => by simp [muxN] at h, by simp [muxN]⟩
      · intro p hp
        simp only [muxN, List.mem_cons, List.not_mem_nil, or_false] at hp
        rw [hql]
        rcases hp with rfl | rfl | rfl <;> omega
      · intro _ p hp
        simp only [muxN, List.mem_cons, List.not_mem_nil, or_false] at hp
        rcases hp with rfl | rfl | rfl <;> omega

theorem namesErr_zero : ∀ (l done : List (List UInt8)), (∀ s ∈ l, isName s = true) → (done ++ l).Nodup → namesErr done l = 0
  | [], _, _, _ => rfl
  | s :: l, done, h, hn => by
    have h1 := h s List.mem_cons_self
    have h2 : s ∉ done := fun hm => (List.nodup_append.1 hn).2.2 s hm s List.mem_cons_self rfl
    simp only [namesErr]
    rw [if_neg (by simp [h1, h2])]
    exact namesErr_zero l (done ++ [s]) (fun x hx => h x (List.mem_cons_of_mem _ hx)) (by rw [List.append_assoc]; exact hn)

theorem isName_n : ∀ i, i < 100 → isName (nameL i) = true ∧ isName (siN i) = true ∧ isName (smN i) = true := by decide +kernel
theorem asc_n : ∀ i, i < 100 → (∀ b ∈ nameL i, b < 128) ∧ (∀ b ∈ siN i, b < 128) ∧ ∀ b ∈ smN i, b < 128 := by decide +kernel
theorem nameL_inj : ∀ i, i < 100 → ∀ j, j < 100 → nameL i = nameL j → i = j := by decide +kernel

theorem map_nodup {α : Type} {f : Nat → α} {n : Nat} (hf : ∀ i, i < n → ∀ j, j < n → f i = f j → i = j) : ((List.range' 0 n).map f).Nodup := by
  rw [List.nodup_iff_pairwise_ne, List.pairwise_map]
  refine (List.Pairwise.imp_of_mem ?_ (List.nodup_iff_pairwise_ne.1 (List.nodup_range' (s := 0) (n := n) (step := 1))))
  intro a b ha hb hab e
  simp at ha hb
  exact hab (hf a (by omega) b (by omega) e)

theorem sc_names (h : ScOk c ch) : (scJ c ch).names.Nodup ∧ ∀ s ∈ (scJ c ch).names, isName s = true ∧ ∀ b ∈ s, b < 128 := by
  have hf := scF h
  have hn2 := h.n2
  have hc := hf.chl
  have hs := hf.stl
  rw [hf.nm, h.nms]
  constructor
  · have n1 : ((List.range' 0 c.nodes.l.length).map nameL).Nodup := map_nodup fun i hi j hj e => nameL_inj i (by omega) j (by omega) e
    have n2 : ((List.range' 0 ch.length).map siN).Nodup := map_nodup fun i hi j hj e => siN_inj (by omega) (by omega) e
    have n3 : ((List.range' 0 (states c).length).map smN).Nodup := map_nodup fun i hi j hj e => smN_inj (by omega) (by omega) e
    refine List.nodup_append.2 ⟨List.nodup_append.2 ⟨List.nodup_append.2 ⟨n1, by simp, ?_⟩, n2, ?_⟩, n3, ?_⟩
    · intro a ha b hb e
      obtain ⟨i, _, rfl⟩ := List.mem_map.1 ha
      simp at hb
      rw [hb] at e
      simp [nameL, seN] at e
    · intro a ha b hb e
      obtain ⟨j, _, rfl⟩ := List.mem_map.1 hb
      rcases List.mem_append.1 ha with ha | ha
      · obtain ⟨i, _, rfl⟩ := List.mem_map.1 ha
        simp [nameL, siN] at e
      · simp at ha
        rw [ha] at e
        simp [siN, seN] at e
    · intro a ha b hb e
      obtain ⟨j, _, rfl⟩ := List.mem_map.1 hb
      rcases List.mem_append.1 ha with ha | ha
      · rcases List.mem_append.1 ha with ha | ha
        · obtain ⟨i, _, rfl⟩ := List.mem_map.1 ha
          simp [nameL, smN] at e
        · simp at ha
          rw [ha] at e
          simp [smN, seN] at e
      · obtain ⟨i, _, rfl⟩ := List.mem_map.1 ha
        simp [siN, smN] at e
  · intro s hs'
    rcases List.mem_append.1 hs' with hs' | hs'
    · rcases List.mem_append.1 hs' with hs' | hs'
      · rcases List.mem_append.1 hs' with hs' | hs'
        · obtain ⟨i, hi, rfl⟩ := List.mem_map.1 hs'
          simp at hi
          exact ⟨(isName_n i (by omega)).1, (asc_n i (by omega)).1⟩
        · simp at hs'
          subst hs'
          exact ⟨by decide +kernel, by decide⟩
      · obtain ⟨i, hi, rfl⟩ := List.mem_map.1 hs'
        simp at hi
        exact ⟨(isName_n i (by omega)).2.1, (asc_n i (by omega)).2.1⟩
    · obtain ⟨i, hi, rfl⟩ := List.mem_map.1 hs'
      simp at hi
      exact ⟨(isName_n i (by omega)).2.2, (asc_n i (by omega)).2.2⟩
end Go.Lg

/- Insert may be called for complete chains; what it lays is valid. Conditions: none. -/
set_option linter.unusedSimpArgs false
set_option linter.unusedVariables false
set_option maxRecDepth 100000
namespace Go.Lg
open Go Go.Proofs

variable {c : Cir} {ch : List (Sl Int)}

theorem lastC_mem : ∀ (l : List Int) (a : Int), l ≠ [] → lastC a l = l.getLastD 0 ∧ lastC a l ∈ l
  | [], _, h => absurd rfl h
  | [n], a, _ => ⟨rfl, by simp [lastC]⟩
  | n :: m :: l, a, _ => by
    have := lastC_mem (m :: l) n (by simp)
    simp only [lastC] at this ⊢
    refine ⟨?_, List.mem_cons_of_mem _ this.2⟩
    rw [this.1]; simp [List.getLastD]
theorem lastL_eq : ∀ (l : List (Sl Int)) (b : Int), (∀ s ∈ l, s.l ≠ []) → lastL b l = l.map fun s => s.l.getLastD 0
  | [], _, _ => rfl
  | s :: l, b, h => by
    simp only [lastL, List.map_cons]
    rw [(lastC_mem s.l b (h s List.mem_cons_self)).1, lastL_eq l (b + 1) fun x hx => h x (List.mem_cons_of_mem _ hx)]

theorem last_in (h : ScOk c ch) {s : Sl Int} (hs : s ∈ ch) : s.l.getLastD 0 ∈ s.l ∧ 0 ≤ s.l.getLastD 0 ∧ s.l.getLastD 0 < c.nodes.l.length ∧ kindAt c (s.l.getLastD 0).toNat = 14 := by
  have h1 := lastC_mem s.l 0 (h.ne s hs).1
  rw [← h1.1]
  have hm : lastC 0 s.l ∈ elems ch := by
    unfold elems
    exact List.mem_flatten.2 ⟨s.l, List.mem_map.2 ⟨s, hs, rfl⟩, h1.2⟩
  have := ofL_in (k := 14) (c := c) _ (h.perm.mem_iff.1 hm)
  exact ⟨h1.2, this⟩

theorem sc_outs (h : ScOk c ch) : (scC c ch).outs.l = c.outs.l ++ ch.map fun s => s.l.getLastD 0 := by
  show (scS c ch).outs = _
  rw [(scF h).outs, lastL_eq _ _ fun s hs => (h.ne s hs).1]

theorem sc_valid (h : ScOk c ch) : levErr (scC c ch) = 0 := by
  have hf := scF h
  have hn2 := h.n2
  have ho := h.outs
  have hc := hf.chl
  have hs := hf.stl
  have hN : (scC c ch).nodes.l = (scJ c ch).nodes := rfl
  have hnl : (scC c ch).nodes.l.length = m0 c ch + (states c).length := hf.len
  refine valid_of (sc_good h) rfl (by rw [hnl]; unfold m0; omega) ⟨?_, ?_⟩ ?_ ?_
  · rw [sc_outs h]; simp; omega
  · intro p hp
    rw [sc_outs h] at hp
    rw [hnl]
    rcases List.mem_append.1 hp with hp | hp
    · have := ho.2 p hp; unfold m0; omega
    · obtain ⟨s, hs', rfl⟩ := List.mem_map.1 hp
      have := last_in h hs'
      unfold m0; omega
  · rw [hnl]
    show (scJ c ch).names.length = _
    rw [hf.nm, h.nms]; simp [m0]; omega
  · have := sc_names h
    exact namesErr_zero _ [] (fun s hs => (this.2 s hs).1) (by rw [List.nil_append]; exact this.1)

theorem sc_cok (h : ScOk c ch) : COk (scC c ch) := by
  have hf := scF h
  have hn2 := h.n2
  have ho := h.outs
  have hc := hf.chl
  have hs := hf.stl
  have hg := sc_good h
  have hN : (scC c ch).nodes.l = (scJ c ch).nodes := rfl
  have hnl : (scC c ch).nodes.l.length = m0 c ch + (states c).length := hf.len
  have hfl := fun k : Int => fan_le k
  refine ⟨⟨by rw [hnl]; unfold m0; omega, ?_, by show ([] : List Mm).length ≤ _; simp, by rw [sc_outs h]; simp; omega, ?_, ?_, fun m hm => by cases hm⟩, fun s hs => ((sc_names h).2 s hs).2⟩
  · show (scJ c ch).names.length ≤ _
    rw [hf.nm, h.nms]; simp; omega
  · intro x hx
    obtain ⟨i, hi, rfl⟩ := List.getElem_of_mem hx
    have := (hg i hi).k
    show 0 ≤ (scJ c ch).nodes[i].k ∧ (scJ c ch).nodes[i].k ≤ 255
    omega
  · intro x hx
    obtain ⟨i, hi, rfl⟩ := List.getElem_of_mem hx
    have := (hg i hi).f
    have h3 := hfl ((scJ c ch).nodes[i]'hi).k
    show (scJ c ch).nodes[i].inn.l.length ≤ _
    omega

theorem scOk_ins (h : ScOk c ch) (hp : plainErr c = 0) (cap : Option Nat) (nl : Option Bool) : InsOk c ⟨ch, cap, nl⟩ := by
  have hf := scF h
  have hn2 := h.n2
  have hc := hf.chl
  have hs := hf.stl
  have ho := h.outs
  have hle := elems_le ch fun s hs => (h.ne s hs).1
  have hpl := h.perm.length_eq
  have hnd : (elems ch).Nodup := h.perm.nodup_iff.2 (ofL_nodup [14] c.nodes.l 0).2
  have n1 : ((List.range' 0 c.nodes.l.length).map nameL).Nodup := map_nodup fun i hi j hj e => nameL_inj i (by omega) j (by omega) e
  have hnn : c.names.l.length = c.nodes.l.length := by rw [h.nms]; simp
  refine ⟨h.ok, h.cp, by rw [h.nms]; exact n1, ?_, by show ch.length ≤ _; omega, fun s hs => by have := hle.2 s hs; omega, by omega, by omega, by omega, ?_, ?_, ?_, ?_⟩
  · rw [h.nms]
    intro hm
    obtain ⟨i, _, e⟩ := List.mem_map.1 hm
    simp [nameL, seN] at e
  · refine okCh_ind ch 0 (scS0 c) (c.names.l ++ [seN]) (by simp [scS0]) ?_ (by omega) (by simp [scS0]; omega) (by simp [scS0]; omega) rfl rfl (by simp [scS0]; omega) (by simpa [scS0] using hnd) fun s hs => ⟨(h.ne s hs).1, (h.ne s hs).2, by have := hle.2 s hs; omega⟩
    intro j hj hm
    rw [h.nms] at hm
    rcases List.mem_append.1 hm with hm | hm
    · obtain ⟨i, _, e⟩ := List.mem_map.1 hm
      simp [nameL, siN] at e
    · simp [siN, seN] at hm
  · refine okSt_ind c c.nodes.l.length (scS c ch).bef (states c) 0 ⟨(scS c ch).nodes, (scS c ch).names, []⟩ (scS c ch).names (by simp) ?_ (by omega) ?_ ?_ rfl ?_
    · intro j hj hm
      rw [hf.snm, h.nms] at hm
      rcases List.mem_append.1 hm with hm | hm
      · rcases List.mem_append.1 hm with hm | hm
        · obtain ⟨i, _, e⟩ := List.mem_map.1 hm
          simp [nameL, smN] at e
        · simp [smN, seN] at hm
      · obtain ⟨i, _, e⟩ := List.mem_map.1 hm
        simp [siN, smN] at e
    · show (scS c ch).nodes.length ≤ _
      rw [hf.snl]; unfold m0; omega
    · show (scS c ch).names.length ≤ _
      rw [hf.snm]; simp; omega
    · intro n hn
      have := ofL_in (k := 14) (c := c) n hn
      obtain ⟨v, hv, _⟩ := st_inn h hn
      refine ⟨this.1, this.2.1, ?_, by rw [hv]; simp⟩
      show n < (scS c ch).nodes.length
      rw [hf.snl]; unfold m0; omega
  · intro he
    have he : ch = [] := he
    have : (elems ch).length = 0 := by rw [he]; rfl
    exact List.eq_nil_of_length_eq_zero (by omega)
  · exact check_perm hp (by show ch.length ≤ 64; omega) (fun s hs => (h.ne s hs).1) h.perm
end Go.Lg

/- ScansInsert's loops. Conditions: none. -/
set_option linter.unusedSimpArgs false
set_option linter.unusedVariables false
set_option maxRecDepth 100000
namespace Go.Lg
open Go Go.Proofs
variable {Γ : Tables}

def liE (ch : Sl (Sl Int)) (st : Sl Int) (n : Nat) : List (Nat × AV) := [(3, .lp 3 0 0), (4, .t (.sl (enc1 tSl ch.l) ch.cap ch.nl)), (5, .lp 5 0 0), (7, .t (tSl st)), (8, .t (tI n))]
def liH (c D : Cir) (chT inT muT : T) (en : Int) : List (Nat × Reg) := [(3, .bx [.t (.sl (encN tNd c.nodes.l) c.nodes.cap c.nodes.nl), .t (.sl (enc1 tS c.names.l) c.names.cap c.names.nl), .t (.sl (encN tMm c.mems.l) c.mems.cap c.mems.nl), .t (.sl (ints c.outs.l) c.outs.cap c.outs.nl)]),
  (5, .bx [.t (.sl (encN tNd D.nodes.l) D.nodes.cap D.nodes.nl), .t (.sl (enc1 tS D.names.l) D.names.cap D.names.nl), .t (.sl (encN tMm D.mems.l) D.mems.cap D.mems.nl), .t (.sl (ints D.outs.l) D.outs.cap D.outs.nl), .t chT, .t (tI en), .t inT, .t muT])]

theorem gN' {l : List Nd} {i : Nat} (h0 : i < l.length) : ∀ h : i < (encN tNd l).length, (encN tNd l)[i] = tNd (l.getD i Nd.d) := fun h => by rw [← gN h0]; simp [h]
theorem gI' {l : List Int} {i : Nat} (h0 : i < l.length) : ∀ h : i < (ints l).length, (ints l)[i] = [tI (l.getD i 0)] := fun h => by rw [← gi1 h0]; simp [h]

theorem si_l1 {Q : AX → St → Prop} (ch : Sl (Sl Int)) (st : Sl Int) (n : Nat) (c D : Cir) (chT inT muT : T) (en : Int) (i : Nat) (hi : i < c.nodes.l.length) (hD : i < D.nodes.l.length) (x y : Nd) (hx : c.nodes.l.getD i Nd.d = x) (hy : D.nodes.l.getD i Nd.d = y) (hin : x.k ≠ 14 → y.inn.l = x.inn.l) (hxl : x.inn.l.length ≤ 1000000)
    (h0 : ∀ k : Nat, Q (.exit 2) ⟨liE ch st n ++ [(9, .t (tI i)), (10, .t (tI k)), (164, .t (tB false))], liH c D chT inT muT en⟩) :
    ∀ (j k : Nat), j + k = x.inn.l.length → run Tryd.prog Γ law34_ScansInsert_l1 Q ⟨liE ch st n ++ [(9, .t (tI i)), (10, .t (tI k))], liH c D chT inT muT en⟩
  | 0, k, h => by
    refine law34_ScansInsert_l1_run fun K hK => ?_
    have e1 := gN hi
    have e1' := gN' hi
    rw [hx] at e1 e1'
    have h2 : ¬ k < x.inn.l.length := by omega
    simp [liE, liH, tSl, encN_len, hi, tNd_wid, e1, e1', tNd, enc1_len, h2]
    simpa [liE, liH, tSl] using h0 k
  | j + 1, k, h => by
    refine law34_ScansInsert_l1_run fun K hK => ?_
    have e1 := gN hi
    have e1' := gN' hi
    have e2 := gN hD
    have e2' := gN' hD
    rw [hx] at e1 e1'
    rw [hy] at e2 e2'
    have h2 : k < x.inn.l.length := by omega
    by_cases hk : x.k = 14
    · simp [liE, liH, tSl, encN_len, hi, tNd_wid, e1, e1', tNd, enc1_len, h2, hk]
      simpa [liE, liH, tSl] using h0 k
    · have hy2 := hin hk
      have e3 := gi1 (f := tI) h2
      have e3' := gI' h2
      have ih := si_l1 ch st n c D chT inT muT en i hi hD x y hx hy hin hxl h0 j (k + 1) (by omega)
      generalize x.inn.l.getD k 0 = v at *
      simp [liE, liH, tSl, encN_len, hi, hD, tNd_wid, e1, e1', e2, e2', tNd, enc1_len, enc1_wid, h2, hk, hy2, e3, e3']
      rw [wrap_i64 (by omega) (by omega), hK]
      simpa [liE, liH, tSl] using ih

theorem si_l3 {Q : AX → St → Prop} (ch : Sl (Sl Int)) (st : Sl Int) (c D : Cir) (chT inT muT : T) (en : Int) (hn : c.nodes.l.length ≤ 1000000) (hN : c.names.l.length = c.nodes.l.length) (hD : c.nodes.l.length ≤ D.nodes.l.length) (hDN : c.nodes.l.length ≤ D.names.l.length)
    (hnm : ∀ i, i < c.nodes.l.length → D.names.l.getD i [] = c.names.l.getD i []) (hk : ∀ i, i < c.nodes.l.length → (D.nodes.l.getD i Nd.d).k = (c.nodes.l.getD i Nd.d).k) (hl : ∀ i, i < c.nodes.l.length → (D.nodes.l.getD i Nd.d).inn.l.length = (c.nodes.l.getD i Nd.d).inn.l.length)
    (hin : ∀ i, i < c.nodes.l.length → (c.nodes.l.getD i Nd.d).k ≠ 14 → (D.nodes.l.getD i Nd.d).inn.l = (c.nodes.l.getD i Nd.d).inn.l) (hxl : ∀ i, i < c.nodes.l.length → (c.nodes.l.getD i Nd.d).inn.l.length ≤ 1000000)
    (h0 : Q (.exit 0) ⟨liE ch st c.nodes.l.length ++ [(9, .t (tI c.nodes.l.length)), (98, .t (tB false))], liH c D chT inT muT en⟩) :
    ∀ (k i : Nat), k + i = c.nodes.l.length → run Tryd.prog Γ law34_ScansInsert_l3 Q ⟨liE ch st c.nodes.l.length ++ [(9, .t (tI i))], liH c D chT inT muT en⟩
  | 0, i, h => by
    refine law34_ScansInsert_l3_run fun K hK => ?_
    have h3 : i = c.nodes.l.length := by omega
    subst h3
    simp [liE, liH]
    simpa [liE, liH] using h0
  | k + 1, i, h => by
    refine law34_ScansInsert_l3_run fun K hK => ?_
    have h2 : i < c.nodes.l.length := by omega
    have h2n : i < c.names.l.length := by omega
    have h2D : i < D.nodes.l.length := by omega
    have h2N : i < D.names.l.length := by omega
    have e1 := gN h2
    have e1' := gN' h2
    have e2 := gN h2D
    have e2' := gN' h2D
    have e3 := enc1_get (f := tS) [] h2n
    have e4 := enc1_get (f := tS) [] h2N
    have a1 := hnm i h2
    simp only [List.getD_eq_getElem?_getD] at a1
    rw [a1] at e4
    have e3' : ∀ h : i < (enc1 tS c.names.l).length, (enc1 tS c.names.l)[i] = [tS (c.names.l[i]?.getD [])] := fun h => by rw [← e3]; simp [h]
    have e4' : ∀ h : i < (enc1 tS D.names.l).length, (enc1 tS D.names.l)[i] = [tS (c.names.l[i]?.getD [])] := fun h => by rw [← e4]; simp [h]
    have a2 := hk i h2
    have a3 := hl i h2
    have a4 := hin i h2
    have ih := si_l3 ch st c D chT inT muT en hn hN hD hDN hnm hk hl hin hxl h0 k (i + 1) (by omega)
    have g1 := fun Q h0 => si_l1 (Γ := Γ) (Q := Q) ch st c.nodes.l.length c D chT inT muT en i h2 h2D _ _ rfl rfl a4 (hxl i h2) h0 _ 0 (by omega : (c.nodes.l.getD i Nd.d).inn.l.length + 0 = _)
    generalize c.nodes.l.getD i Nd.d = x at *
    generalize D.nodes.l.getD i Nd.d = y at *
    generalize c.names.l[i]?.getD [] = nm at *
    simp only [tS, sV] at e3 e4 e3' e4'
    simp [liE, liH, tSl] at g1
    simp [liE, liH, encN_len, h2, h2n, h2D, h2N, tNd_wid, e1, e1', e2, e2', e3, e3', e4, e4', tNd, tSl, enc1_len, enc1_wid, a2, a3]
    refine g1 _ fun k => ?_
    simp
    rw [wrap_i64 (by omega) (by omega), hK]
    simpa [liE, liH, tSl] using ih

theorem insOf_get {n m k : Nat} (h : k < m) : (insOf n m).getD k 0 = ((n + k : Nat) : Int) := by
  simp [insOf, List.getD_eq_getElem?_getD, h]
theorem insOf_len {n m : Nat} : (insOf n m).length = m := by simp [insOf]

theorem si_l5 {Q : AX → St → Prop} (ch : Sl (Sl Int)) (st : Sl Int) (n : Nat) (hn : n ≤ 1000000) (hch : ch.l.length ≤ 1000000) (c D : Cir) (chT muT : T) (ic : Option Nat) (inl : Option Bool) (en : Int) (hco : c.outs.l.length ≤ 1000000) (hD : n + 1 + ch.l.length ≤ D.nodes.l.length) (ho : c.outs.l.length + ch.l.length ≤ D.outs.l.length)
    (hs : ∀ s ∈ ch.l, s.l ≠ [] ∧ s.l.length ≤ 1000000) (hk : ∀ i, i < ch.l.length → (D.nodes.l.getD (n + 1 + i) Nd.d).k = 0) (hl : ∀ i, i < ch.l.length → D.outs.l.getD (c.outs.l.length + i) 0 = ((ch.l.getD i ⟨[], none, none⟩).l.getLastD 0))
    (h0 : Q (.exit 4) ⟨liE ch st n ++ [(11, .t (tI ch.l.length)), (190, .t (tB false))], liH c D chT (.sl (ints (insOf (n + 1) ch.l.length)) ic inl) muT en⟩) :
    ∀ (k i : Nat), k + i = ch.l.length → run Tryd.prog Γ law34_ScansInsert_l5 Q ⟨liE ch st n ++ [(11, .t (tI i))], liH c D chT (.sl (ints (insOf (n + 1) ch.l.length)) ic inl) muT en⟩
  | 0, i, h => by
    refine law34_ScansInsert_l5_run fun K hK => ?_
    have h3 : i = ch.l.length := by omega
    subst h3
    simp [liE, liH, enc1_len]
    simpa [liE, liH] using h0
  | k + 1, i, h => by
    refine law34_ScansInsert_l5_run fun K hK => ?_
    have h2 : i < ch.l.length := by omega
    have h2D : n + 1 + i < D.nodes.l.length := by omega
    have h2o : c.outs.l.length + i < D.outs.l.length := by omega
    have ih := si_l5 ch st n hn hch c D chT muT ic inl en hco hD ho hs hk hl h0 k (i + 1) (by omega)
    have e := enc1_get (f := tSl) ⟨[], none, none⟩ h2
    have e' : ∀ h : i < (enc1 tSl ch.l).length, (enc1 tSl ch.l)[i] = [tSl (ch.l[i]?.getD ⟨[], none, none⟩)] := fun h => by rw [← e]; simp [h]
    have a1 := hk i h2
    have a2 := hl i h2
    have hsm := hs _ (List.getElem_mem h2)
    have e2 : ch.l[i]?.getD ⟨[], none, none⟩ = ch.l[i] := by simp [h2]
    have e2' : ch.l.getD i ⟨[], none, none⟩ = ch.l[i] := by simp [List.getD_eq_getElem?_getD, h2]
    rw [e2] at e e'
    rw [e2'] at a2
    have x1 := gi1 (f := tI) (l := insOf (n + 1) ch.l.length) (i := i) (by rw [insOf_len]; exact h2)
    have x1' := gI' (l := insOf (n + 1) ch.l.length) (i := i) (by rw [insOf_len]; exact h2)
    rw [insOf_get h2] at x1 x1'
    have x2 := gN h2D
    have x2' := gN' h2D
    have x3 := gi1 (f := tI) h2o
    have x3' := gI' h2o
    rw [a2] at x3 x3'
    generalize D.nodes.l.getD (n + 1 + i) Nd.d = y at *
    generalize ch.l[i] = s at *
    have hpos : 0 < s.l.length := List.length_pos_iff.2 hsm.1
    have hw : IntKind.i64.wrap ((s.l.length : Int) - 1) = ((s.l.length - 1 : Nat) : Int) := by have := hsm.2; rw [wrap_i64] <;> omega
    have x4 := gi1 (f := tI) (show s.l.length - 1 < s.l.length by omega)
    have x4' := gI' (show s.l.length - 1 < s.l.length by omega)
    have hll : s.l.getD (s.l.length - 1) 0 = s.l.getLastD 0 := by
      rw [getD_eq (by omega), List.getLastD_eq_getLast?, List.getLast?_eq_getElem?, List.getElem?_eq_getElem (by omega)]; rfl
    rw [hll] at x4 x4'
    generalize s.l.getLastD 0 = last at *
    have w1 : IntKind.i64.wrap ((n : Int) + 1) = (n : Int) + 1 := by rw [wrap_i64] <;> omega
    have w2 : IntKind.i64.wrap ((n : Int) + 1 + (i : Int)) = (n : Int) + 1 + (i : Int) := by rw [wrap_i64] <;> omega
    have w3 : IntKind.i64.wrap ((c.outs.l.length : Int) + (i : Int)) = (c.outs.l.length : Int) + (i : Int) := by rw [wrap_i64] <;> omega
    have t1 : ((n : Int) + 1 + (i : Int)).toNat = n + 1 + i := by omega
    have t2 : ((c.outs.l.length : Int) + (i : Int)).toNat = c.outs.l.length + i := by omega
    have b1 : 0 ≤ (n : Int) + 1 + (i : Int) := by omega
    have b2 : (n : Int) + 1 + (i : Int) < D.nodes.l.length := by omega
    have b3 : 0 ≤ (c.outs.l.length : Int) + (i : Int) := by omega
    have b4 : (c.outs.l.length : Int) + (i : Int) < D.outs.l.length := by omega
    have h4 : s.l.length - 1 < s.l.length := by omega
    simp only [tSl] at e e'
    simp [liE, liH, tSl, enc1_len, enc1_wid, encN_len, tNd_wid, h2, e, e', hw, h4, x4, x4', insOf_len, x1, x1', w1, w2, w3, t1, t2, b1, b2, b3, b4, h2D, h2o, x2, x2', x3, x3', tNd, a1]
    rw [wrap_i64 (by omega) (by omega), hK]
    simpa [liE, liH, tSl] using ih
end Go.Lg

/- ScansInsert, walked. Conditions: none. -/
set_option linter.unusedSimpArgs false
set_option linter.unusedVariables false
set_option maxRecDepth 100000
namespace Go.Lg
open Go Go.Proofs
variable {Γ : Tables}

theorem si_l7 {Q : AX → St → Prop} (ch : Sl (Sl Int)) (hch : ch.l.length ≤ 1000000) (st : Sl Int) (hst : st.l.length ≤ 1000000) (n : Nat) (hn : n ≤ 1000000) (c D : Cir) (chT inT : T) (ic : Option Nat) (inl : Option Bool) (hcn : c.nodes.l.length = n) (hD : n + 1 + ch.l.length + st.l.length ≤ D.nodes.l.length)
    (hs : ∀ i, i < st.l.length → 0 ≤ st.l.getD i 0 ∧ st.l.getD i 0 < n) (hx : ∀ i, i < st.l.length → (c.nodes.l.getD (st.l.getD i 0).toNat Nd.d).inn.l = [in0 c (st.l.getD i 0)])
    (hm : ∀ i, i < st.l.length → ∃ b, D.nodes.l.getD (n + 1 + ch.l.length + i) Nd.d = muxN n (in0 c (st.l.getD i 0)) b) (hd : ∀ i, i < st.l.length → (D.nodes.l.getD (st.l.getD i 0).toNat Nd.d).inn.l = [((n + 1 + ch.l.length + i : Nat) : Int)])
    (h0 : Q (.exit 6) ⟨liE ch st n ++ [(13, .t (tI st.l.length)), (246, .t (tB false))], liH c D chT inT (.sl (ints (insOf (n + 1 + ch.l.length) st.l.length)) ic inl) n⟩) :
    ∀ (k i : Nat), k + i = st.l.length → run Tryd.prog Γ law34_ScansInsert_l7 Q ⟨liE ch st n ++ [(13, .t (tI i))], liH c D chT inT (.sl (ints (insOf (n + 1 + ch.l.length) st.l.length)) ic inl) n⟩
  | 0, i, h => by
    refine law34_ScansInsert_l7_run fun K hK => ?_
    have h3 : i = st.l.length := by omega
    subst h3
    simp [liE, liH, enc1_len, tSl]
    simpa [liE, liH, tSl] using h0
  | k + 1, i, h => by
    refine law34_ScansInsert_l7_run fun K hK => ?_
    have h2 : i < st.l.length := by omega
    have ih := si_l7 ch hch st hst n hn c D chT inT ic inl hcn hD hs hx hm hd h0 k (i + 1) (by omega)
    obtain ⟨b, hmb⟩ := hm i h2
    obtain ⟨s0, s1⟩ := hs i h2
    have hxi := hx i h2
    have hdi := hd i h2
    have h2D : n + 1 + ch.l.length + i < D.nodes.l.length := by omega
    have x0 := gi1 (f := tI) h2
    have x0' := gI' h2
    have x1 := gi1 (f := tI) (l := insOf (n + 1 + ch.l.length) st.l.length) (i := i) (by rw [insOf_len]; exact h2)
    have x1' := gI' (l := insOf (n + 1 + ch.l.length) st.l.length) (i := i) (by rw [insOf_len]; exact h2)
    rw [insOf_get h2] at x1 x1'
    have x2 := gN h2D
    have x2' := gN' h2D
    rw [hmb] at x2 x2'
    generalize st.l.getD i 0 = s at *
    have h3 : s.toNat < c.nodes.l.length := by omega
    have h3D : s.toNat < D.nodes.l.length := by omega
    have x3 := gN h3
    have x3' := gN' h3
    have x4 := gN h3D
    have x4' := gN' h3D
    generalize c.nodes.l.getD s.toNat Nd.d = x at *
    generalize D.nodes.l.getD s.toNat Nd.d = y at *
    generalize in0 c s = d at *
    have w1 : IntKind.i64.wrap ((n : Int) + 1) = (n : Int) + 1 := by rw [wrap_i64] <;> omega
    have w2 : IntKind.i64.wrap ((n : Int) + 1 + (ch.l.length : Int)) = (n : Int) + 1 + (ch.l.length : Int) := by rw [wrap_i64] <;> omega
    have w3 : IntKind.i64.wrap ((n : Int) + 1 + (ch.l.length : Int) + (i : Int)) = (n : Int) + 1 + (ch.l.length : Int) + (i : Int) := by rw [wrap_i64] <;> omega
    have t1 : ((n : Int) + 1 + (ch.l.length : Int) + (i : Int)).toNat = n + 1 + ch.l.length + i := by omega
    have b1 : 0 ≤ (n : Int) + 1 + (ch.l.length : Int) + (i : Int) := by omega
    have b2 : (n : Int) + 1 + (ch.l.length : Int) + (i : Int) < D.nodes.l.length := by omega
    have b3 : s < (c.nodes.l.length : Int) := by omega
    have b4 : s < (D.nodes.l.length : Int) := by omega
    have e2 : ints x.inn.l = [[tI d]] := by rw [hxi]; rfl
    have e3 : ints y.inn.l = [[tI ((n + 1 + ch.l.length + i : Nat) : Int)]] := by rw [hdi]; rfl
    have e4 : ints [(n : Int), d, b] = [[tI n], [tI d], [tI b]] := rfl
    have wd3 : wid 1 [[tI n], [tI d], [tI b]] := by rw [← e4]; exact enc1_wid
    simp [liE, liH, tSl, enc1_len, enc1_wid, encN_len, tNd_wid, h2, w1, w2, w3, t1, b1, b2, b3, b4, s0, h2D, h3, h3D, x0, x0', x1, x1', x2, x2', x3, x3', x4, x4', insOf_len, tNd, muxN, e2, e3, e4, wd3, wid1s]
    rw [wrap_i64 (by omega) (by omega), hK]
    simpa [liE, liH, tSl] using ih
end Go.Lg

/- ScansInsert, walked to its end. Conditions: none. -/
set_option linter.unusedSimpArgs false
set_option linter.unusedVariables false
set_option maxRecDepth 100000
namespace Go.Lg
open Go Go.Proofs
variable {Γ : Tables}

theorem getD_inj {l : List Int} (h : l.Nodup) {a b : Nat} (ha : a < l.length) (hb : b < l.length) (e : l.getD a 0 = l.getD b 0) : a = b := by
  rw [getD_eq ha, getD_eq hb] at e
  exact (List.getElem_inj h).1 e

set_option maxHeartbeats 4000000 in
theorem lawInsert_spec (hΓ : GOk Γ) (y : CaseD) (hy : CaseOk y) : PureCalls Tryd.prog Γ 10 [.agg (tCase y)] (tB true) := by
  refine run_pureQ law34_ScansInsert_chk rfl ?_
  have hx := noMemX_ok hy.x
  have hp : plainErr (caseC y) = 0 := ofC_plain hx rfl
  have e1 := CaseOf_spec (Γ := Γ) y hy
  have hsc := case_scok hy
  generalize caseC y = c at *
  generalize caseCh y = ch at *
  have hf := scF hsc
  have e2 := Insert_spec (Γ := Γ) hΓ c ⟨ch, none, none⟩ (scOk_ins hsc hp none none)
  have e3 := check_spec (Γ := Γ) hΓ (scC c ch) (sc_cok hsc)
  rw [sc_valid hsc] at e3
  have e4 := states_spec (Γ := Γ) c hsc.ok
  have hn1 := hsc.n1
  have hn2 := hsc.n2
  have ho := hsc.outs.1
  have hcl := hf.chl
  have hsl := hf.stl
  have hlen : (scC c ch).nodes.l.length = c.nodes.l.length + 1 + ch.length + (states c).length := hf.len
  have hnames : c.names.l.length = c.nodes.l.length := by rw [hsc.nms]; simp
  have hnl : (scC c ch).names.l.length = c.nodes.l.length + 1 + ch.length + (states c).length := by
    show (scJ c ch).names.length = _
    rw [hf.nm]; simp [hnames]; omega
  have houts := sc_outs hsc
  have hol : (scC c ch).outs.l.length = c.outs.l.length + ch.length := by rw [houts]; simp
  have hcls : (scS c ch).cl.length = ch.length := by rw [hf.cl]; simp
  have hins := hf.ins
  have hmux := hf.mux
  have hN : (scC c ch).nodes.l = (scJ c ch).nodes := rfl
  have q1 : ∀ i, i < c.nodes.l.length → (scC c ch).names.l.getD i [] = c.names.l.getD i [] := fun i hi => by
    show (scJ c ch).names.getD i [] = _
    rw [hf.nm, List.append_assoc, List.append_assoc, List.getD_eq_getElem?_getD, List.getElem?_append_left (by omega), ← List.getD_eq_getElem?_getD]
  have q2 : ∀ i, i < c.nodes.l.length → ((scC c ch).nodes.l.getD i Nd.d).k = (c.nodes.l.getD i Nd.d).k := fun i hi => sc_kind hsc hi
  have q3 : ∀ i, i < c.nodes.l.length → (c.nodes.l.getD i Nd.d).k ≠ 14 → ((scC c ch).nodes.l.getD i Nd.d).inn.l = (c.nodes.l.getD i Nd.d).inn.l := fun i hi hk => by
    rw [hN, hf.old i hi hk]; rfl
  have hst : ∀ i, i < (states c).length → (states c).getD i 0 ∈ states c := fun i hi => by rw [getD_eq hi]; exact List.getElem_mem _
  have hrk : ∀ i, i < c.nodes.l.length → kindAt c i = 14 → (c.nodes.l.getD i Nd.d).inn.l.length = 1 := fun i hi hk => by
    obtain ⟨v, hv, _⟩ := st_inn hsc ((mem_ofL hi).2 hk)
    simp only [Int.toNat_natCast] at hv
    have : innAt c i = (c.nodes.l.getD i Nd.d).inn.l := rfl
    rw [← this, hv]; rfl
  have q4 : ∀ i, i < c.nodes.l.length → ((scC c ch).nodes.l.getD i Nd.d).inn.l.length = (c.nodes.l.getD i Nd.d).inn.l.length := fun i hi => by
    by_cases hk : kindAt c i = 14
    · rw [hN, hf.dff i hi hk, hrk i hi hk]; rfl
    · rw [q3 i hi hk]
  have q5 : ∀ i, i < c.nodes.l.length → (c.nodes.l.getD i Nd.d).inn.l.length ≤ 1000000 := fun i hi => by
    have := (nd_cases hsc.good hi).f
    have := fan_le (c.nodes.l.getD i Nd.d).k
    omega
  have q6 : ∀ i, i < ch.length → ((scC c ch).nodes.l.getD (c.nodes.l.length + 1 + i) Nd.d).k = 0 := fun i hi => by
    rw [hN, hf.inp _ (by omega) (by unfold m0; omega)]; rfl
  have q7 : ∀ i, i < ch.length → (scC c ch).outs.l.getD (c.outs.l.length + i) 0 = ((ch.getD i ⟨[], none, none⟩).l.getLastD 0) := fun i hi => by
    rw [houts, List.getD_eq_getElem?_getD, List.getElem?_append_right (by omega)]
    simp [List.getD_eq_getElem?_getD, hi]
  have hle := elems_le ch fun s hs => (hsc.ne s hs).1
  have hpl := hsc.perm.length_eq
  have q8 : ∀ s ∈ ch, s.l ≠ [] ∧ s.l.length ≤ 1000000 := fun s hs => ⟨(hsc.ne s hs).1, by have := hle.2 s hs; omega⟩
  have q9 : ∀ i, i < (states c).length → 0 ≤ (states c).getD i 0 ∧ (states c).getD i 0 < c.nodes.l.length := fun i hi => by
    have := ofL_in (k := 14) (c := c) _ (hst i hi)
    exact ⟨this.1, this.2.1⟩
  have q10 : ∀ i, i < (states c).length → (c.nodes.l.getD ((states c).getD i 0).toNat Nd.d).inn.l = [in0 c ((states c).getD i 0)] := fun i hi => by
    obtain ⟨v, hv, _, _, h4⟩ := st_inn hsc (hst i hi)
    rw [h4]; exact hv
  have q11 : ∀ i, i < (states c).length → ∃ b, (scC c ch).nodes.l.getD (c.nodes.l.length + 1 + ch.length + i) Nd.d = muxN c.nodes.l.length (in0 c ((states c).getD i 0)) b := fun i hi => ⟨_, hf.mx i hi⟩
  have hnd : (states c).Nodup := (ofL_nodup [14] c.nodes.l 0).2
  have q12 : ∀ i, i < (states c).length → ((scC c ch).nodes.l.getD ((states c).getD i 0).toNat Nd.d).inn.l = [((c.nodes.l.length + 1 + ch.length + i : Nat) : Int)] := fun i hi => by
    have hm := ofL_in (k := 14) (c := c) _ (hst i hi)
    obtain ⟨r1, r2⟩ := rank_at (c := c) (i := ((states c).getD i 0).toNat) (by omega) hm.2.2
    rw [hN, hf.dff _ (by omega) hm.2.2]
    have : rankK 14 c ((states c).getD i 0).toNat = i := by
      have e : (states c).getD (rankK 14 c ((states c).getD i 0).toNat) 0 = (states c).getD i 0 := by
        have r2' : (states c).getD (rankK 14 c ((states c).getD i 0).toNat) 0 = _ := r2
        rw [r2']; omega
      have r1' : rankK 14 c ((states c).getD i 0).toNat < (states c).length := r1
      exact getD_inj hnd r1' hi e
    rw [this]; rfl
  have q13 : ((scC c ch).nodes.l.getD c.nodes.l.length Nd.d).k = 0 := by
    rw [hN, hf.inp _ (Nat.le_refl _) (by unfold m0; omega)]; rfl
  simp only [tScan] at e2
  rw [hins, hmux, hf.cl] at e2
  generalize scC c ch = D at *
  have g1 := fun Q chT inT muT en h0 => si_l3 (Γ := Γ) (Q := Q) ⟨ch, none, none⟩ ⟨states c, some (states c).length, none⟩ c D chT inT muT en (by omega) hnames (by omega) (by omega) q1 q2 q4 q3 q5 h0 c.nodes.l.length 0 (by omega)
  have g2 := fun Q chT muT ic inl en h0 => si_l5 (Γ := Γ) (Q := Q) ⟨ch, none, none⟩ ⟨states c, some (states c).length, none⟩ c.nodes.l.length (by omega) (by show ch.length ≤ _; omega) c D chT muT ic inl en (by omega) (by show _ + ch.length ≤ _; omega) (by show _ + ch.length ≤ _; omega) q8 q6 q7 h0 ch.length 0 (by show _ = ch.length; omega)
  have g3 := fun Q chT inT ic inl h0 => si_l7 (Γ := Γ) (Q := Q) ⟨ch, none, none⟩ (by show ch.length ≤ _; omega) ⟨states c, some (states c).length, none⟩ (by show (states c).length ≤ _; omega) c.nodes.l.length (by omega) c D chT inT ic inl rfl (by show _ + ch.length + (states c).length ≤ _; omega) q9 q10 q11 q12 h0 (states c).length 0 (by show _ = (states c).length; omega)
  simp [liE, liH, tSl] at g1 g2 g3
  simp [law34_ScansInsert_ic, tCase, tCD]
  simp [tCase, tCD] at e1
  refine callK_pure e1 rfl ?_
  simp [tC, tNodes, tNames, tMems, tSl, tChs]
  simp [tC, tNodes, tNames, tMems, tSl, tChs, insOf_len] at e2 e3 e4
  refine callK_pure e2 rfl ?_
  simp
  refine callK_fresh e3 rfl ?_
  simp [enc1_len, insOf_len]
  refine callK_pure e4 rfl ?_
  have w1 : IntKind.i64.wrap ((c.nodes.l.length : Int) + 1) = (c.nodes.l.length : Int) + 1 := by rw [wrap_i64] <;> omega
  have w2 : IntKind.i64.wrap ((c.nodes.l.length : Int) + 1 + (ch.length : Int)) = (c.nodes.l.length : Int) + 1 + (ch.length : Int) := by rw [wrap_i64] <;> omega
  have w3 : IntKind.i64.wrap ((c.nodes.l.length : Int) + 1 + (ch.length : Int) + ((states c).length : Int)) = (c.nodes.l.length : Int) + 1 + (ch.length : Int) + ((states c).length : Int) := by rw [wrap_i64] <;> omega
  have w4 : IntKind.i64.wrap ((c.outs.l.length : Int) + (ch.length : Int)) = (c.outs.l.length : Int) + (ch.length : Int) := by rw [wrap_i64] <;> omega
  simp [encN_len, enc1_len, insOf_len, hlen, hol, w1, w2, w3, w4]
  refine g1 _ _ _ _ _ ?_
  simp
  refine g2 _ _ _ _ _ _ ?_
  simp
  refine g3 _ _ _ _ _ ?_
  have h2D : c.nodes.l.length < D.nodes.l.length := by omega
  have x1 := gN h2D
  have x1' := gN' h2D
  generalize D.nodes.l.getD c.nodes.l.length Nd.d = z at *
  simp [encN_len, h2D, x1, x1', tNd_wid, tNd, q13]
  refine callK_fresh (lives_spec hΓ) rfl ?_
  simp [law34_ScansInsert_rv]
end Go.Lg
